/- Law 24 (outbox): contracts of functions that its statements reach, and plain laws behind them (part 7). No condition. -/
import Derived.Test.YtiladcdogbeomaaUf
import Derived.Test.YtiladcdogbeomaaUe
namespace Go.Proofs.Ytiladcdogbeomaa.QRangesPlays
open Go.RowKit Go.Shelf Go.Proofs.YtiladcdogbeomaaW.PrintWords Go.Proofs.YtiladcdogbeomaaW.PrintLast Go.Proofs.YtiladcdogbeomaaW.PrintMore Go.Proofs.Ytiladcdogbeomaa.RowLaws Go.Proofs.Ytiladcdogbeomaa.Lazy
attribute [local go_sem] Oper.semAt_some max2_int min2_int max_two min_two
/-- What a box's parts may be. -/
structure BoxP (t : ByteArray) (S : Int) (C A : List S95) : Prop where
  wc : wf 0 C
  wa : wf 0 A
  s0 : 0 ≤ S
  s1 : S ≤ t.size
  s2 : t.size ≤ 262144
  hc : ∀ n, has C n → n < S
  ha : ∀ n, has A n → n < S ∧ ¬ has C n
def lkFrom (S : Int) (A : List S95) : Int := match A with | [] => S | x :: _ => x.f0
def lkTo0 (z S : Int) (A : List S95) (limit : Int) : Int := match A with | [] => (if S < (if z < limit then z else limit) then (if z < limit then z else limit) else S) | x :: _ => x.f1 + 1
def lkTo (z S : Int) (A : List S95) (room limit : Int) : Int :=
  if lkFrom S A + (if z < (if room < 0 then 0 else room) then z else (if room < 0 then 0 else room)) < lkTo0 z S A limit then lkFrom S A + (if z < (if room < 0 then 0 else room) then z else (if room < 0 then 0 else room)) else lkTo0 z S A limit
/-- What goes next: from, to, fin. -/
def lkF (z S : Int) (A : List S95) (f1 f2 f4 : Bool) (room limit : Int) : Option (Int × Int × Bool) :=
  if lkFrom S A < lkTo z S A room limit then some (lkFrom S A, lkTo z S A room limit, f1 && (lkTo z S A room limit == z))
  else if A = [] ∧ f1 = true ∧ lkTo z S A room limit = z ∧ S = lkTo z S A room limit ∧ (f2 = false ∨ f4 = true) then some (lkTo z S A room limit, lkTo z S A room limit, true) else none
def lkRet (t : ByteArray) : Option (Int × Int × Bool) → Ending
  | none => .returned (.tuple #[.agg #[.int .i64 0, .string ⟨#[]⟩, .bool false], .bool false])
  | some (a, b, fin) => .returned (.tuple #[.agg #[.int .i64 a, .string (t.extract a.toNat b.toNat), .bool fin], .bool true])
theorem lkTo0_bd {t : ByteArray} {S limit : Int} {C A : List S95} (h : BoxP t S C A) : lkFrom S A ≤ lkTo0 t.size S A limit ∧ lkTo0 t.size S A limit ≤ t.size ∧ 0 ≤ lkFrom S A ∧ lkFrom S A ≤ S := by
  have h0 := h.s0
  have h1 := h.s1
  cases A with
  | nil => simp only [lkFrom, lkTo0]; split <;> split <;> omega
  | cons x r =>
    obtain ⟨w1, w2, w3, w4⟩ := h.wa
    have := (h.ha x.f1 ⟨x, by simp, w2, Int.le_refl _⟩).1
    simp only [lkFrom, lkTo0]
    omega
theorem lkTo_bd {t : ByteArray} {S room limit : Int} {C A : List S95} (h : BoxP t S C A) : lkFrom S A ≤ lkTo t.size S A room limit ∧ lkTo t.size S A room limit ≤ t.size ∧ 0 ≤ lkFrom S A ∧ lkFrom S A ≤ S := by
  have hb := lkTo0_bd (limit := limit) h
  have h2 := h.s2
  unfold lkTo
  split <;> (try split) <;> (try split) <;> omega
theorem lkTo_nil {z S room limit rm m q b : Int} (h1 : (if room < 0 then 0 else room) = rm) (h2 : (if S < (if z < limit then z else limit) then (if z < limit then z else limit) else S) = m) (h3 : (if z < rm then z else rm) = q) (h4 : (if S + q < m then S + q else m) = b) : lkTo z S [] room limit = b := by
  simp only [lkTo, lkFrom, lkTo0, h1, h2, h3, h4]
theorem lkTo_cons {z S room limit rm q b : Int} {x : S95} {r : List S95} (h1 : (if room < 0 then 0 else room) = rm) (h3 : (if z < rm then z else rm) = q) (h4 : (if x.f0 + q < x.f1 + 1 then x.f0 + q else x.f1 + 1) = b) : lkTo z S (x :: r) room limit = b := by
  simp only [lkTo, lkFrom, lkTo0, h1, h3, h4]
theorem chunk_put {W : World} {X : Nat} {a b c : Value} (h : W.heap[X]? = some (.cells #[a, b, c] 52 (0, 0))) (u0 u1 u2 : Value) : (((W.setCell ⟨X, 0, none⟩ u0).setCell ⟨X, 1, none⟩ u1).setCell ⟨X, 2, none⟩ u2).heap[X]? = some (.cells #[u0, u1, u2] 52 (0, 0)) :=
  cells_set (i := 2) u2 (cells_set (i := 1) u1 (cells_set (i := 0) u0 h))
theorem below_put3 {B X : Nat} {w W : World} (h : Below B w W) (hX : B ≤ X) (u0 u1 u2 : Value) : Below B w (((W.setCell ⟨X, 0, none⟩ u0).setCell ⟨X, 1, none⟩ u1).setCell ⟨X, 2, none⟩ u2) :=
  ((h.setCell (p := ⟨X, 0, none⟩) hX u0).setCell (p := ⟨X, 1, none⟩) hX u1).setCell (p := ⟨X, 2, none⟩) hX u2
theorem ext_nil (t : ByteArray) (n : Nat) : t.extract n n = ⟨#[]⟩ := by
  apply ByteArray.ext
  simp
set_option maxRecDepth 100000 in
set_option maxHeartbeats 4000000 in
theorem OLook_nil (g gc ga : Nat) (t : ByteArray) (S : Int) (C : List S95) (f1 f2 f3 f4 : Bool) (room limit : Int) (w : World) (h : BoxAt w g gc ga t S C [] f1 f2 f3 f4) (hP : BoxP t S C []) :
    Calls Try.prog 62 #[.pointer (some ⟨g, 0, none⟩), .int .i64 room, .int .i64 limit] w fun e w' => e = lkRet t (lkF t.size S [] f1 f2 f4 room limit) ∧ Below w.heap.size w w' := by
  have HSP := Aside0.mk (fun W (hb : Below w.heap.size w W) => Set_Spans.calls ga [] [] W (h.below hb).sa.isSet (show slices_Clone.f [] = some [] by unfold slices_Clone.f; rw [if_pos (by simp)]))
  have HBX := Aside0.mk h
  have HC := Aside0.mk (fun W (hb : Below w.heap.size w W) => (h.below hb).cells)
  have hbd := lkTo_bd (room := room) (limit := limit) hP
  have hbd0 := lkTo0_bd (limit := limit) hP
  have h2 := hP.s2
  have hs0 := hP.s0
  have hs1 := hP.s1
  obtain ⟨kb0, kb1, -⟩ := h.cells
  unfold lkF
  simp only [lkFrom] at hbd hbd0 ⊢
  obtain ⟨rm, hrm⟩ : ∃ rm, (if room < 0 then 0 else room) = rm := ⟨_, rfl⟩
  obtain ⟨m0, hm0⟩ : ∃ m0, (if (t.size : Int) < limit then (t.size : Int) else limit) = m0 := ⟨_, rfl⟩
  obtain ⟨m, hm⟩ : ∃ m, (if S < m0 then m0 else S) = m := ⟨_, rfl⟩
  obtain ⟨q, hq⟩ : ∃ q, (if (t.size : Int) < rm then (t.size : Int) else rm) = q := ⟨_, rfl⟩
  obtain ⟨p, hp⟩ : ∃ p, S + q = p := ⟨_, rfl⟩
  obtain ⟨b, hto⟩ : ∃ b, (if p < m then p else m) = b := ⟨_, rfl⟩
  rw [lkTo_nil (b := b) hrm (m := m) (by rw [hm0]; exact hm) hq (by rw [hp]; exact hto)] at hbd ⊢
  have hqb : 0 ≤ q ∧ q ≤ t.size := by rw [← hq, ← hrm]; split <;> split <;> omega
  have e1 : IntKind.i64.wrap (S + q) = p := by rw [IntWalk.i64_in _ (by omega), hp]
  have HM := Aside0.mk (And.intro hm0 hm)
  have h9 : S ≤ b ∧ b ≤ (t.size : Int) := ⟨hbd.1, hbd.2.1⟩
  clear h hP hbd0 hm0 hp kb0 kb1
  by_cases hlt : S < b
  · rw [if_pos hlt]
    simp only [lkRet]
    cases f1 with
    | false =>
      rw [Bool.false_and]
      go_enter Try.func62, Try.ntmps62
      go_wp2
      obtain ⟨X, hX⟩ : ∃ X, w.heap.size = X := ⟨_, rfl⟩
      have hbA := below_alloc (Below.refl w.heap.size w) (.cells #[.int .i64 0, .string ⟨#[]⟩, .bool false] 52)
      have hnew := heap_alloc_new w (.cells #[.int .i64 0, .string ⟨#[]⟩, .bool false] 52)
      have HXX := Aside0.mk (Nat.le_of_eq hX)
      rw [hX] at hnew ⊢
      obtain ⟨kb0, kb1, -⟩ := HC.out _ hbA
      refine Look_r4 g t S limit _ _ _ _ (by rfl) (by rfl) (by rfl) kb0 kb1 ?_
      intro σ W ⟨hB, h16, h17⟩
      have HB := Aside0.mk (below_step hbA hB)
      have HX := Aside0.mk ((hB.block X (lt_of_block hnew)).trans hnew)
      simp only [lazyA, lazyT, lk4_tab, List.zipWith_cons_cons, List.zipWith_nil_left, cond_true]
      rename_i K0 hK0
      refine hK0 _ _ ?_
      rw [h16, h17, HM.out.1, HM.out.2]
      obtain ⟨kb0, kb1, kb2, kb3, kb4, kb5, kb6, kb7⟩ := HC.out W HB.out
      clear h16 h17 hB hnew hbA hX
      go_wp2_with (go_at_call 39; refine (HSP.out _ HB.out).mono ?_; rintro e w2 ⟨v, rfl, hr, hb⟩; obtain ⟨A, c, rfl, hc, hC⟩ := Kd.R_reads hr; have HB2 := Aside0.mk (below_step HB.out hb); obtain ⟨kc0, kc1, kc2, kc3, kc4, kc5, kc6, kc7⟩ := HC.out _ (below_step HB.out hb); have HX2 := Aside0.mk ((hb.block X (lt_of_block HX.out)).trans HX.out); obtain ⟨x0, x1, x2⟩ := chunk_cell HX2.out; have z0 := free_blk HX2.out 0; have z1 := free_blk HX2.out 1; have z2 := free_blk HX2.out 2; clear hr hb hc hC)
      (try simp only [Exit.inBlock, Exit.then])
      refine bodyPost_ret (results_ct rfl _ _ X 52 #[.int .i64 S, .string (t.extract S.toNat b.toNat), .bool false] (0, 0) _ rfl (chunk_put HX2.out _ _ _) Try.underlying52 rfl (by kernel_rfl)) rfl ?_
      exact ⟨rfl, below_put3 HB2.out HXX.out _ _ _⟩
    | true =>
      rw [Bool.true_and]
      by_cases hbz : b = (t.size : Int)
      · have hb1 : (b == (t.size : Int)) = true := beq_iff_eq.2 hbz
        rw [hb1]
        clear hbz
        go_enter Try.func62, Try.ntmps62
        go_wp2
        obtain ⟨X, hX⟩ : ∃ X, w.heap.size = X := ⟨_, rfl⟩
        have hbA := below_alloc (Below.refl w.heap.size w) (.cells #[.int .i64 0, .string ⟨#[]⟩, .bool false] 52)
        have hnew := heap_alloc_new w (.cells #[.int .i64 0, .string ⟨#[]⟩, .bool false] 52)
        have HXX := Aside0.mk (Nat.le_of_eq hX)
        rw [hX] at hnew ⊢
        obtain ⟨kb0, kb1, -⟩ := HC.out _ hbA
        refine Look_r4 g t S limit _ _ _ _ (by rfl) (by rfl) (by rfl) kb0 kb1 ?_
        intro σ W ⟨hB, h16, h17⟩
        have HB := Aside0.mk (below_step hbA hB)
        have HX := Aside0.mk ((hB.block X (lt_of_block hnew)).trans hnew)
        simp only [lazyA, lazyT, lk4_tab, List.zipWith_cons_cons, List.zipWith_nil_left, cond_true]
        rename_i K0 hK0
        refine hK0 _ _ ?_
        rw [h16, h17, HM.out.1, HM.out.2]
        obtain ⟨kb0, kb1, kb2, kb3, kb4, kb5, kb6, kb7⟩ := HC.out W HB.out
        clear h16 h17 hB hnew hbA hX
        go_wp2_with (go_at_call 39; refine (HSP.out _ HB.out).mono ?_; rintro e w2 ⟨v, rfl, hr, hb⟩; obtain ⟨A, c, rfl, hc, hC⟩ := Kd.R_reads hr; have HB2 := Aside0.mk (below_step HB.out hb); obtain ⟨kc0, kc1, kc2, kc3, kc4, kc5, kc6, kc7⟩ := HC.out _ (below_step HB.out hb); have HX2 := Aside0.mk ((hb.block X (lt_of_block HX.out)).trans HX.out); obtain ⟨x0, x1, x2⟩ := chunk_cell HX2.out; have z0 := free_blk HX2.out 0; have z1 := free_blk HX2.out 1; have z2 := free_blk HX2.out 2; clear hr hb hc hC)
        (try simp only [Exit.inBlock, Exit.then])
        refine bodyPost_ret (results_ct rfl _ _ X 52 #[.int .i64 S, .string (t.extract S.toNat b.toNat), .bool true] (0, 0) _ rfl (chunk_put HX2.out _ _ _) Try.underlying52 rfl (by kernel_rfl)) rfl ?_
        exact ⟨rfl, below_put3 HB2.out HXX.out _ _ _⟩
      · have hb1 : (b == (t.size : Int)) = false := beq_eq_false_iff_ne.2 hbz
        rw [hb1]
        clear hbz
        go_enter Try.func62, Try.ntmps62
        go_wp2
        obtain ⟨X, hX⟩ : ∃ X, w.heap.size = X := ⟨_, rfl⟩
        have hbA := below_alloc (Below.refl w.heap.size w) (.cells #[.int .i64 0, .string ⟨#[]⟩, .bool false] 52)
        have hnew := heap_alloc_new w (.cells #[.int .i64 0, .string ⟨#[]⟩, .bool false] 52)
        have HXX := Aside0.mk (Nat.le_of_eq hX)
        rw [hX] at hnew ⊢
        obtain ⟨kb0, kb1, -⟩ := HC.out _ hbA
        refine Look_r4 g t S limit _ _ _ _ (by rfl) (by rfl) (by rfl) kb0 kb1 ?_
        intro σ W ⟨hB, h16, h17⟩
        have HB := Aside0.mk (below_step hbA hB)
        have HX := Aside0.mk ((hB.block X (lt_of_block hnew)).trans hnew)
        simp only [lazyA, lazyT, lk4_tab, List.zipWith_cons_cons, List.zipWith_nil_left, cond_true]
        rename_i K0 hK0
        refine hK0 _ _ ?_
        rw [h16, h17, HM.out.1, HM.out.2]
        obtain ⟨kb0, kb1, kb2, kb3, kb4, kb5, kb6, kb7⟩ := HC.out W HB.out
        clear h16 h17 hB hnew hbA hX
        go_wp2_with (go_at_call 39; refine (HSP.out _ HB.out).mono ?_; rintro e w2 ⟨v, rfl, hr, hb⟩; obtain ⟨A, c, rfl, hc, hC⟩ := Kd.R_reads hr; have HB2 := Aside0.mk (below_step HB.out hb); obtain ⟨kc0, kc1, kc2, kc3, kc4, kc5, kc6, kc7⟩ := HC.out _ (below_step HB.out hb); have HX2 := Aside0.mk ((hb.block X (lt_of_block HX.out)).trans HX.out); obtain ⟨x0, x1, x2⟩ := chunk_cell HX2.out; have z0 := free_blk HX2.out 0; have z1 := free_blk HX2.out 1; have z2 := free_blk HX2.out 2; clear hr hb hc hC)
        (try simp only [Exit.inBlock, Exit.then])
        refine bodyPost_ret (results_ct rfl _ _ X 52 #[.int .i64 S, .string (t.extract S.toNat b.toNat), .bool false] (0, 0) _ rfl (chunk_put HX2.out _ _ _) Try.underlying52 rfl (by kernel_rfl)) rfl ?_
        exact ⟨rfl, below_put3 HB2.out HXX.out _ _ _⟩
  · rw [if_neg hlt]
    obtain rfl : b = S := by omega
    clear hlt
    have hz0 := ext_nil t b.toNat
    cases f1 with
    | false =>
      rw [if_neg (by rintro ⟨_, h, _⟩; cases h)]
      simp only [lkRet]
      go_enter Try.func62, Try.ntmps62
      go_wp2
      obtain ⟨X, hX⟩ : ∃ X, w.heap.size = X := ⟨_, rfl⟩
      have hbA := below_alloc (Below.refl w.heap.size w) (.cells #[.int .i64 0, .string ⟨#[]⟩, .bool false] 52)
      have hnew := heap_alloc_new w (.cells #[.int .i64 0, .string ⟨#[]⟩, .bool false] 52)
      have HXX := Aside0.mk (Nat.le_of_eq hX)
      rw [hX] at hnew ⊢
      obtain ⟨kb0, kb1, -⟩ := HC.out _ hbA
      refine Look_r4 g t b limit _ _ _ _ (by rfl) (by rfl) (by rfl) kb0 kb1 ?_
      intro σ W ⟨hB, h16, h17⟩
      have HB := Aside0.mk (below_step hbA hB)
      have HX := Aside0.mk ((hB.block X (lt_of_block hnew)).trans hnew)
      simp only [lazyA, lazyT, lk4_tab, List.zipWith_cons_cons, List.zipWith_nil_left, cond_true]
      rename_i K0 hK0
      refine hK0 _ _ ?_
      rw [h16, h17, HM.out.1, HM.out.2]
      obtain ⟨kb0, kb1, kb2, kb3, kb4, kb5, kb6, kb7⟩ := HC.out W HB.out
      clear h16 h17 hB hnew hbA hX
      go_wp2_with (go_at_call 39; refine (HSP.out _ HB.out).mono ?_; rintro e w2 ⟨v, rfl, hr, hb⟩; obtain ⟨A, c, rfl, hc, hC⟩ := Kd.R_reads hr; have HB2 := Aside0.mk (below_step HB.out hb); obtain ⟨kc0, kc1, kc2, kc3, kc4, kc5, kc6, kc7⟩ := HC.out _ (below_step HB.out hb); have HX2 := Aside0.mk ((hb.block X (lt_of_block HX.out)).trans HX.out); obtain ⟨x0, x1, x2⟩ := chunk_cell HX2.out; have z0 := free_blk HX2.out 0; have z1 := free_blk HX2.out 1; have z2 := free_blk HX2.out 2; clear hr hb hc hC)
      (try simp only [Exit.inBlock, Exit.then])
      refine bodyPost_ret (results_ct rfl _ _ X 52 #[.int .i64 0, .string ⟨#[]⟩, .bool false] (0, 0) _ rfl (chunk_put HX2.out _ _ _) Try.underlying52 rfl (by kernel_rfl)) rfl ?_
      exact ⟨rfl, below_put3 HB2.out HXX.out _ _ _⟩
    | true =>
      by_cases hbz : b = (t.size : Int)
      · have hb1 : (b == (t.size : Int)) = true := beq_iff_eq.2 hbz
        have hb2 : ((t.size : Int) == (t.size : Int)) = true := beq_self_eq_true _
        cases f2 with
        | false =>
          rw [if_pos ⟨trivial, rfl, hbz, rfl, .inl rfl⟩]
          simp only [lkRet, hz0]
          clear hbz
          go_enter Try.func62, Try.ntmps62
          go_wp2
          obtain ⟨X, hX⟩ : ∃ X, w.heap.size = X := ⟨_, rfl⟩
          have hbA := below_alloc (Below.refl w.heap.size w) (.cells #[.int .i64 0, .string ⟨#[]⟩, .bool false] 52)
          have hnew := heap_alloc_new w (.cells #[.int .i64 0, .string ⟨#[]⟩, .bool false] 52)
          have HXX := Aside0.mk (Nat.le_of_eq hX)
          rw [hX] at hnew ⊢
          obtain ⟨kb0, kb1, -⟩ := HC.out _ hbA
          refine Look_r4 g t b limit _ _ _ _ (by rfl) (by rfl) (by rfl) kb0 kb1 ?_
          intro σ W ⟨hB, h16, h17⟩
          have HB := Aside0.mk (below_step hbA hB)
          have HX := Aside0.mk ((hB.block X (lt_of_block hnew)).trans hnew)
          simp only [lazyA, lazyT, lk4_tab, List.zipWith_cons_cons, List.zipWith_nil_left, cond_true]
          rename_i K0 hK0
          refine hK0 _ _ ?_
          rw [h16, h17, HM.out.1, HM.out.2]
          obtain ⟨kb0, kb1, kb2, kb3, kb4, kb5, kb6, kb7⟩ := HC.out W HB.out
          clear h16 h17 hB hnew hbA hX
          go_wp2_with (go_at_call 39; refine (HSP.out _ HB.out).mono ?_; rintro e w2 ⟨v, rfl, hr, hb⟩; obtain ⟨A, c, rfl, hc, hC⟩ := Kd.R_reads hr; have HB2 := Aside0.mk (below_step HB.out hb); obtain ⟨kc0, kc1, kc2, kc3, kc4, kc5, kc6, kc7⟩ := HC.out _ (below_step HB.out hb); have HX2 := Aside0.mk ((hb.block X (lt_of_block HX.out)).trans HX.out); obtain ⟨x0, x1, x2⟩ := chunk_cell HX2.out; have z0 := free_blk HX2.out 0; have z1 := free_blk HX2.out 1; have z2 := free_blk HX2.out 2; clear hr hb hc hC)
          (try simp only [Exit.inBlock, Exit.then])
          refine bodyPost_ret (results_ct rfl _ _ X 52 #[.int .i64 b, .string ⟨#[]⟩, .bool true] (0, 0) _ rfl (chunk_put HX2.out _ _ _) Try.underlying52 rfl (by kernel_rfl)) rfl ?_
          exact ⟨rfl, below_put3 HB2.out HXX.out _ _ _⟩
        | true =>
          cases f4 with
          | true =>
            rw [if_pos ⟨trivial, rfl, hbz, rfl, .inr rfl⟩]
            simp only [lkRet, hz0]
            clear hbz
            go_enter Try.func62, Try.ntmps62
            go_wp2
            obtain ⟨X, hX⟩ : ∃ X, w.heap.size = X := ⟨_, rfl⟩
            have hbA := below_alloc (Below.refl w.heap.size w) (.cells #[.int .i64 0, .string ⟨#[]⟩, .bool false] 52)
            have hnew := heap_alloc_new w (.cells #[.int .i64 0, .string ⟨#[]⟩, .bool false] 52)
            have HXX := Aside0.mk (Nat.le_of_eq hX)
            rw [hX] at hnew ⊢
            obtain ⟨kb0, kb1, -⟩ := HC.out _ hbA
            refine Look_r4 g t b limit _ _ _ _ (by rfl) (by rfl) (by rfl) kb0 kb1 ?_
            intro σ W ⟨hB, h16, h17⟩
            have HB := Aside0.mk (below_step hbA hB)
            have HX := Aside0.mk ((hB.block X (lt_of_block hnew)).trans hnew)
            simp only [lazyA, lazyT, lk4_tab, List.zipWith_cons_cons, List.zipWith_nil_left, cond_true]
            rename_i K0 hK0
            refine hK0 _ _ ?_
            rw [h16, h17, HM.out.1, HM.out.2]
            obtain ⟨kb0, kb1, kb2, kb3, kb4, kb5, kb6, kb7⟩ := HC.out W HB.out
            clear h16 h17 hB hnew hbA hX
            go_wp2_with (go_at_call 39; refine (HSP.out _ HB.out).mono ?_; rintro e w2 ⟨v, rfl, hr, hb⟩; obtain ⟨A, c, rfl, hc, hC⟩ := Kd.R_reads hr; have HB2 := Aside0.mk (below_step HB.out hb); obtain ⟨kc0, kc1, kc2, kc3, kc4, kc5, kc6, kc7⟩ := HC.out _ (below_step HB.out hb); have HX2 := Aside0.mk ((hb.block X (lt_of_block HX.out)).trans HX.out); obtain ⟨x0, x1, x2⟩ := chunk_cell HX2.out; have z0 := free_blk HX2.out 0; have z1 := free_blk HX2.out 1; have z2 := free_blk HX2.out 2; clear hr hb hc hC)
            (try simp only [Exit.inBlock, Exit.then])
            refine bodyPost_ret (results_ct rfl _ _ X 52 #[.int .i64 b, .string ⟨#[]⟩, .bool true] (0, 0) _ rfl (chunk_put HX2.out _ _ _) Try.underlying52 rfl (by kernel_rfl)) rfl ?_
            exact ⟨rfl, below_put3 HB2.out HXX.out _ _ _⟩
          | false =>
            rw [if_neg (by rintro ⟨_, _, _, _, h | h⟩ <;> cases h)]
            simp only [lkRet]
            clear hbz
            go_enter Try.func62, Try.ntmps62
            go_wp2
            obtain ⟨X, hX⟩ : ∃ X, w.heap.size = X := ⟨_, rfl⟩
            have hbA := below_alloc (Below.refl w.heap.size w) (.cells #[.int .i64 0, .string ⟨#[]⟩, .bool false] 52)
            have hnew := heap_alloc_new w (.cells #[.int .i64 0, .string ⟨#[]⟩, .bool false] 52)
            have HXX := Aside0.mk (Nat.le_of_eq hX)
            rw [hX] at hnew ⊢
            obtain ⟨kb0, kb1, -⟩ := HC.out _ hbA
            refine Look_r4 g t b limit _ _ _ _ (by rfl) (by rfl) (by rfl) kb0 kb1 ?_
            intro σ W ⟨hB, h16, h17⟩
            have HB := Aside0.mk (below_step hbA hB)
            have HX := Aside0.mk ((hB.block X (lt_of_block hnew)).trans hnew)
            simp only [lazyA, lazyT, lk4_tab, List.zipWith_cons_cons, List.zipWith_nil_left, cond_true]
            rename_i K0 hK0
            refine hK0 _ _ ?_
            rw [h16, h17, HM.out.1, HM.out.2]
            obtain ⟨kb0, kb1, kb2, kb3, kb4, kb5, kb6, kb7⟩ := HC.out W HB.out
            clear h16 h17 hB hnew hbA hX
            go_wp2_with (go_at_call 39; refine (HSP.out _ HB.out).mono ?_; rintro e w2 ⟨v, rfl, hr, hb⟩; obtain ⟨A, c, rfl, hc, hC⟩ := Kd.R_reads hr; have HB2 := Aside0.mk (below_step HB.out hb); obtain ⟨kc0, kc1, kc2, kc3, kc4, kc5, kc6, kc7⟩ := HC.out _ (below_step HB.out hb); have HX2 := Aside0.mk ((hb.block X (lt_of_block HX.out)).trans HX.out); obtain ⟨x0, x1, x2⟩ := chunk_cell HX2.out; have z0 := free_blk HX2.out 0; have z1 := free_blk HX2.out 1; have z2 := free_blk HX2.out 2; clear hr hb hc hC)
            (try simp only [Exit.inBlock, Exit.then])
            refine bodyPost_ret (results_ct rfl _ _ X 52 #[.int .i64 0, .string ⟨#[]⟩, .bool false] (0, 0) _ rfl (chunk_put HX2.out _ _ _) Try.underlying52 rfl (by kernel_rfl)) rfl ?_
            exact ⟨rfl, below_put3 HB2.out HXX.out _ _ _⟩
      · have hb1 : (b == (t.size : Int)) = false := beq_eq_false_iff_ne.2 hbz
        rw [if_neg (by rintro ⟨_, _, h, _⟩; exact hbz h)]
        simp only [lkRet]
        clear hbz
        go_enter Try.func62, Try.ntmps62
        go_wp2
        obtain ⟨X, hX⟩ : ∃ X, w.heap.size = X := ⟨_, rfl⟩
        have hbA := below_alloc (Below.refl w.heap.size w) (.cells #[.int .i64 0, .string ⟨#[]⟩, .bool false] 52)
        have hnew := heap_alloc_new w (.cells #[.int .i64 0, .string ⟨#[]⟩, .bool false] 52)
        have HXX := Aside0.mk (Nat.le_of_eq hX)
        rw [hX] at hnew ⊢
        obtain ⟨kb0, kb1, -⟩ := HC.out _ hbA
        refine Look_r4 g t b limit _ _ _ _ (by rfl) (by rfl) (by rfl) kb0 kb1 ?_
        intro σ W ⟨hB, h16, h17⟩
        have HB := Aside0.mk (below_step hbA hB)
        have HX := Aside0.mk ((hB.block X (lt_of_block hnew)).trans hnew)
        simp only [lazyA, lazyT, lk4_tab, List.zipWith_cons_cons, List.zipWith_nil_left, cond_true]
        rename_i K0 hK0
        refine hK0 _ _ ?_
        rw [h16, h17, HM.out.1, HM.out.2]
        obtain ⟨kb0, kb1, kb2, kb3, kb4, kb5, kb6, kb7⟩ := HC.out W HB.out
        clear h16 h17 hB hnew hbA hX
        go_wp2_with (go_at_call 39; refine (HSP.out _ HB.out).mono ?_; rintro e w2 ⟨v, rfl, hr, hb⟩; obtain ⟨A, c, rfl, hc, hC⟩ := Kd.R_reads hr; have HB2 := Aside0.mk (below_step HB.out hb); obtain ⟨kc0, kc1, kc2, kc3, kc4, kc5, kc6, kc7⟩ := HC.out _ (below_step HB.out hb); have HX2 := Aside0.mk ((hb.block X (lt_of_block HX.out)).trans HX.out); obtain ⟨x0, x1, x2⟩ := chunk_cell HX2.out; have z0 := free_blk HX2.out 0; have z1 := free_blk HX2.out 1; have z2 := free_blk HX2.out 2; clear hr hb hc hC)
        (try simp only [Exit.inBlock, Exit.then])
        refine bodyPost_ret (results_ct rfl _ _ X 52 #[.int .i64 0, .string ⟨#[]⟩, .bool false] (0, 0) _ rfl (chunk_put HX2.out _ _ _) Try.underlying52 rfl (by kernel_rfl)) rfl ?_
        exact ⟨rfl, below_put3 HB2.out HXX.out _ _ _⟩
set_option maxRecDepth 100000 in
set_option maxHeartbeats 4000000 in
theorem OLook_cons (g gc ga : Nat) (t : ByteArray) (S : Int) (C : List S95) (x : S95) (r : List S95) (f1 f2 f3 f4 : Bool) (room limit : Int) (w : World) (h : BoxAt w g gc ga t S C (x :: r) f1 f2 f3 f4) (hP : BoxP t S C (x :: r)) :
    Calls Try.prog 62 #[.pointer (some ⟨g, 0, none⟩), .int .i64 room, .int .i64 limit] w fun e w' => e = lkRet t (lkF t.size S (x :: r) f1 f2 f4 room limit) ∧ Below w.heap.size w w' := by
  have hll : (x :: r).length < 8796093022208 := by have := wf_len hP.wa (by omega); omega
  have HSP := Aside0.mk (fun W (hb : Below w.heap.size w W) => Set_Spans.calls ga (x :: r) (x :: r) W (h.below hb).sa.isSet (show slices_Clone.f (x :: r) = some (x :: r) by unfold slices_Clone.f; rw [if_pos hll]))
  have HBX := Aside0.mk h
  have HC := Aside0.mk (fun W (hb : Below w.heap.size w W) => (h.below hb).cells)
  have hbd := lkTo_bd (room := room) (limit := limit) hP
  have h2 := hP.s2
  have hub : 0 ≤ x.f1 ∧ x.f1 ≤ 1099511627776 := by have := wf_mem hP.wa x (by simp); omega
  have hS := (hP.ha x.f1 ⟨x, by simp, (wf_mem hP.wa x (by simp)).2.1, Int.le_refl _⟩).1
  have hs0 := hP.s0
  have hs1 := hP.s1
  obtain ⟨n0, hn0⟩ : ∃ n0, (x :: r).length = n0 := ⟨_, rfl⟩
  have hnp : 0 < n0 := by rw [← hn0]; simp
  have HN := Aside0.mk hn0
  have hn1 : ((n0 : Int) == 0) = false := beq_eq_false_iff_ne.2 (by omega)
  unfold lkF
  simp only [lkFrom] at hbd
  obtain ⟨rm, hrm⟩ : ∃ rm, (if room < 0 then 0 else room) = rm := ⟨_, rfl⟩
  obtain ⟨m0, hm0⟩ : ∃ m0, (if (t.size : Int) < limit then (t.size : Int) else limit) = m0 := ⟨_, rfl⟩
  obtain ⟨m, hm⟩ : ∃ m, (if S < m0 then m0 else S) = m := ⟨_, rfl⟩
  obtain ⟨q, hq⟩ : ∃ q, (if (t.size : Int) < rm then (t.size : Int) else rm) = q := ⟨_, rfl⟩
  obtain ⟨p, hp⟩ : ∃ p, x.f0 + q = p := ⟨_, rfl⟩
  obtain ⟨b, hto⟩ : ∃ b, (if p < x.f1 + 1 then p else x.f1 + 1) = b := ⟨_, rfl⟩
  rw [lkTo_cons (b := b) hrm hq (by rw [hp]; exact hto)] at hbd ⊢
  have hqb : 0 ≤ q ∧ q ≤ t.size := by rw [← hq, ← hrm]; split <;> split <;> omega
  have e1 : IntKind.i64.wrap (x.f0 + q) = p := by rw [IntWalk.i64_in _ (by omega), hp]
  have HM := Aside0.mk (And.intro hm0 hm)
  have h9 : x.f0 ≤ b ∧ b ≤ (t.size : Int) ∧ 0 ≤ x.f0 := ⟨hbd.1, hbd.2.1, hbd.2.2.1⟩
  clear h hP hm0 hm hp hn0 hll
  by_cases hlt : x.f0 < b
  · rw [if_pos (show lkFrom S (x :: r) < b from hlt)]
    simp only [lkRet, lkFrom]
    cases f1 with
    | false =>
      rw [Bool.false_and]
      go_enter Try.func62, Try.ntmps62
      go_wp2
      obtain ⟨X, hX⟩ : ∃ X, w.heap.size = X := ⟨_, rfl⟩
      have hbA := below_alloc (Below.refl w.heap.size w) (.cells #[.int .i64 0, .string ⟨#[]⟩, .bool false] 52)
      have hnew := heap_alloc_new w (.cells #[.int .i64 0, .string ⟨#[]⟩, .bool false] 52)
      have HXX := Aside0.mk (Nat.le_of_eq hX)
      rw [hX] at hnew ⊢
      obtain ⟨kb0, kb1, -⟩ := HC.out _ hbA
      refine Look_r4 g t S limit _ _ _ _ (by rfl) (by rfl) (by rfl) kb0 kb1 ?_
      intro σ W ⟨hB, h16, h17⟩
      have HB := Aside0.mk (below_step hbA hB)
      have HX := Aside0.mk ((hB.block X (lt_of_block hnew)).trans hnew)
      simp only [lazyA, lazyT, lk4_tab, List.zipWith_cons_cons, List.zipWith_nil_left, cond_true]
      rename_i K0 hK0
      refine hK0 _ _ ?_
      rw [h16, h17, HM.out.1, HM.out.2]
      obtain ⟨kb0, kb1, kb2, kb3, kb4, kb5, kb6, kb7⟩ := HC.out W HB.out
      clear h16 h17 hB hnew hbA hX
      go_wp2_with (go_at_call 39; refine (HSP.out _ HB.out).mono ?_; rintro e w2 ⟨v, rfl, hr, hb⟩; obtain ⟨A, c, rfl, hc, hC⟩ := Kd.R_reads hr; rw [HN.out] at hC ⊢; have HB1 := Aside0.mk (below_step HB.out hb); have HCC := Aside0.mk hC; have HX1 := Aside0.mk ((hb.block X (lt_of_block HX.out)).trans HX.out); clear hr hb hc hC)
      obtain ⟨b0, o0, hA, y0, y1⟩ := row_at HCC.out 0 (by simp)
      subst hA
      simp only [Nat.zero_mul, Nat.add_zero, List.getElem_cons_zero] at y0 y1
      refine Look_r7 b0 o0 n0 c x.f0 x.f1 _ _ _ _ (by rfl) (by rfl) hnp y0 y1 hub ?_
      intro σ2 W2 ⟨hB, h9, h10⟩
      have HB2 := Aside0.mk (below_step HB1.out hB)
      have HX2 := Aside0.mk ((hB.block X (lt_of_block HX1.out)).trans HX1.out)
      simp only [lazyA, lazyT, lk7_tab, List.zipWith_cons_cons, List.zipWith_nil_left, cond_true]
      rename_i K1 hK1
      refine hK1 _ _ ?_
      rw [h9, h10]
      obtain ⟨kc0, kc1, kc2, kc3, kc4, kc5, kc6, kc7⟩ := HC.out _ HB2.out
      obtain ⟨x0, x1, x2⟩ := chunk_cell HX2.out
      have z0 := free_blk HX2.out 0
      have z1 := free_blk HX2.out 1
      have z2 := free_blk HX2.out 2
      clear h9 h10 hB y0 y1
      go_wp2
      (try simp only [Exit.inBlock, Exit.then])
      refine bodyPost_ret (results_ct rfl _ _ X 52 #[.int .i64 x.f0, .string (t.extract x.f0.toNat b.toNat), .bool false] (0, 0) _ rfl (chunk_put HX2.out _ _ _) Try.underlying52 rfl (by kernel_rfl)) rfl ?_
      exact ⟨rfl, below_put3 HB2.out HXX.out _ _ _⟩
    | true =>
      rw [Bool.true_and]
      by_cases hbz : b = (t.size : Int)
      · have hb1 : (b == (t.size : Int)) = true := beq_iff_eq.2 hbz
        rw [hb1]
        clear hbz
        go_enter Try.func62, Try.ntmps62
        go_wp2
        obtain ⟨X, hX⟩ : ∃ X, w.heap.size = X := ⟨_, rfl⟩
        have hbA := below_alloc (Below.refl w.heap.size w) (.cells #[.int .i64 0, .string ⟨#[]⟩, .bool false] 52)
        have hnew := heap_alloc_new w (.cells #[.int .i64 0, .string ⟨#[]⟩, .bool false] 52)
        have HXX := Aside0.mk (Nat.le_of_eq hX)
        rw [hX] at hnew ⊢
        obtain ⟨kb0, kb1, -⟩ := HC.out _ hbA
        refine Look_r4 g t S limit _ _ _ _ (by rfl) (by rfl) (by rfl) kb0 kb1 ?_
        intro σ W ⟨hB, h16, h17⟩
        have HB := Aside0.mk (below_step hbA hB)
        have HX := Aside0.mk ((hB.block X (lt_of_block hnew)).trans hnew)
        simp only [lazyA, lazyT, lk4_tab, List.zipWith_cons_cons, List.zipWith_nil_left, cond_true]
        rename_i K0 hK0
        refine hK0 _ _ ?_
        rw [h16, h17, HM.out.1, HM.out.2]
        obtain ⟨kb0, kb1, kb2, kb3, kb4, kb5, kb6, kb7⟩ := HC.out W HB.out
        clear h16 h17 hB hnew hbA hX
        go_wp2_with (go_at_call 39; refine (HSP.out _ HB.out).mono ?_; rintro e w2 ⟨v, rfl, hr, hb⟩; obtain ⟨A, c, rfl, hc, hC⟩ := Kd.R_reads hr; rw [HN.out] at hC ⊢; have HB1 := Aside0.mk (below_step HB.out hb); have HCC := Aside0.mk hC; have HX1 := Aside0.mk ((hb.block X (lt_of_block HX.out)).trans HX.out); clear hr hb hc hC)
        obtain ⟨b0, o0, hA, y0, y1⟩ := row_at HCC.out 0 (by simp)
        subst hA
        simp only [Nat.zero_mul, Nat.add_zero, List.getElem_cons_zero] at y0 y1
        refine Look_r7 b0 o0 n0 c x.f0 x.f1 _ _ _ _ (by rfl) (by rfl) hnp y0 y1 hub ?_
        intro σ2 W2 ⟨hB, h9, h10⟩
        have HB2 := Aside0.mk (below_step HB1.out hB)
        have HX2 := Aside0.mk ((hB.block X (lt_of_block HX1.out)).trans HX1.out)
        simp only [lazyA, lazyT, lk7_tab, List.zipWith_cons_cons, List.zipWith_nil_left, cond_true]
        rename_i K1 hK1
        refine hK1 _ _ ?_
        rw [h9, h10]
        obtain ⟨kc0, kc1, kc2, kc3, kc4, kc5, kc6, kc7⟩ := HC.out _ HB2.out
        obtain ⟨x0, x1, x2⟩ := chunk_cell HX2.out
        have z0 := free_blk HX2.out 0
        have z1 := free_blk HX2.out 1
        have z2 := free_blk HX2.out 2
        clear h9 h10 hB y0 y1
        go_wp2
        (try simp only [Exit.inBlock, Exit.then])
        refine bodyPost_ret (results_ct rfl _ _ X 52 #[.int .i64 x.f0, .string (t.extract x.f0.toNat b.toNat), .bool true] (0, 0) _ rfl (chunk_put HX2.out _ _ _) Try.underlying52 rfl (by kernel_rfl)) rfl ?_
        exact ⟨rfl, below_put3 HB2.out HXX.out _ _ _⟩
      · have hb1 : (b == (t.size : Int)) = false := beq_eq_false_iff_ne.2 hbz
        rw [hb1]
        clear hbz
        go_enter Try.func62, Try.ntmps62
        go_wp2
        obtain ⟨X, hX⟩ : ∃ X, w.heap.size = X := ⟨_, rfl⟩
        have hbA := below_alloc (Below.refl w.heap.size w) (.cells #[.int .i64 0, .string ⟨#[]⟩, .bool false] 52)
        have hnew := heap_alloc_new w (.cells #[.int .i64 0, .string ⟨#[]⟩, .bool false] 52)
        have HXX := Aside0.mk (Nat.le_of_eq hX)
        rw [hX] at hnew ⊢
        obtain ⟨kb0, kb1, -⟩ := HC.out _ hbA
        refine Look_r4 g t S limit _ _ _ _ (by rfl) (by rfl) (by rfl) kb0 kb1 ?_
        intro σ W ⟨hB, h16, h17⟩
        have HB := Aside0.mk (below_step hbA hB)
        have HX := Aside0.mk ((hB.block X (lt_of_block hnew)).trans hnew)
        simp only [lazyA, lazyT, lk4_tab, List.zipWith_cons_cons, List.zipWith_nil_left, cond_true]
        rename_i K0 hK0
        refine hK0 _ _ ?_
        rw [h16, h17, HM.out.1, HM.out.2]
        obtain ⟨kb0, kb1, kb2, kb3, kb4, kb5, kb6, kb7⟩ := HC.out W HB.out
        clear h16 h17 hB hnew hbA hX
        go_wp2_with (go_at_call 39; refine (HSP.out _ HB.out).mono ?_; rintro e w2 ⟨v, rfl, hr, hb⟩; obtain ⟨A, c, rfl, hc, hC⟩ := Kd.R_reads hr; rw [HN.out] at hC ⊢; have HB1 := Aside0.mk (below_step HB.out hb); have HCC := Aside0.mk hC; have HX1 := Aside0.mk ((hb.block X (lt_of_block HX.out)).trans HX.out); clear hr hb hc hC)
        obtain ⟨b0, o0, hA, y0, y1⟩ := row_at HCC.out 0 (by simp)
        subst hA
        simp only [Nat.zero_mul, Nat.add_zero, List.getElem_cons_zero] at y0 y1
        refine Look_r7 b0 o0 n0 c x.f0 x.f1 _ _ _ _ (by rfl) (by rfl) hnp y0 y1 hub ?_
        intro σ2 W2 ⟨hB, h9, h10⟩
        have HB2 := Aside0.mk (below_step HB1.out hB)
        have HX2 := Aside0.mk ((hB.block X (lt_of_block HX1.out)).trans HX1.out)
        simp only [lazyA, lazyT, lk7_tab, List.zipWith_cons_cons, List.zipWith_nil_left, cond_true]
        rename_i K1 hK1
        refine hK1 _ _ ?_
        rw [h9, h10]
        obtain ⟨kc0, kc1, kc2, kc3, kc4, kc5, kc6, kc7⟩ := HC.out _ HB2.out
        obtain ⟨x0, x1, x2⟩ := chunk_cell HX2.out
        have z0 := free_blk HX2.out 0
        have z1 := free_blk HX2.out 1
        have z2 := free_blk HX2.out 2
        clear h9 h10 hB y0 y1
        go_wp2
        (try simp only [Exit.inBlock, Exit.then])
        refine bodyPost_ret (results_ct rfl _ _ X 52 #[.int .i64 x.f0, .string (t.extract x.f0.toNat b.toNat), .bool false] (0, 0) _ rfl (chunk_put HX2.out _ _ _) Try.underlying52 rfl (by kernel_rfl)) rfl ?_
        exact ⟨rfl, below_put3 HB2.out HXX.out _ _ _⟩
  · rw [if_neg (show ¬ lkFrom S (x :: r) < b from hlt), if_neg (by rintro ⟨h, _⟩; cases h)]
    simp only [lkRet]
    cases f1 with
    | false =>
      go_enter Try.func62, Try.ntmps62
      go_wp2
      obtain ⟨X, hX⟩ : ∃ X, w.heap.size = X := ⟨_, rfl⟩
      have hbA := below_alloc (Below.refl w.heap.size w) (.cells #[.int .i64 0, .string ⟨#[]⟩, .bool false] 52)
      have hnew := heap_alloc_new w (.cells #[.int .i64 0, .string ⟨#[]⟩, .bool false] 52)
      have HXX := Aside0.mk (Nat.le_of_eq hX)
      rw [hX] at hnew ⊢
      obtain ⟨kb0, kb1, -⟩ := HC.out _ hbA
      refine Look_r4 g t S limit _ _ _ _ (by rfl) (by rfl) (by rfl) kb0 kb1 ?_
      intro σ W ⟨hB, h16, h17⟩
      have HB := Aside0.mk (below_step hbA hB)
      have HX := Aside0.mk ((hB.block X (lt_of_block hnew)).trans hnew)
      simp only [lazyA, lazyT, lk4_tab, List.zipWith_cons_cons, List.zipWith_nil_left, cond_true]
      rename_i K0 hK0
      refine hK0 _ _ ?_
      rw [h16, h17, HM.out.1, HM.out.2]
      obtain ⟨kb0, kb1, kb2, kb3, kb4, kb5, kb6, kb7⟩ := HC.out W HB.out
      clear h16 h17 hB hnew hbA hX
      go_wp2_with (go_at_call 39; refine (HSP.out _ HB.out).mono ?_; rintro e w2 ⟨v, rfl, hr, hb⟩; obtain ⟨A, c, rfl, hc, hC⟩ := Kd.R_reads hr; rw [HN.out] at hC ⊢; have HB1 := Aside0.mk (below_step HB.out hb); have HCC := Aside0.mk hC; have HX1 := Aside0.mk ((hb.block X (lt_of_block HX.out)).trans HX.out); clear hr hb hc hC)
      obtain ⟨b0, o0, hA, y0, y1⟩ := row_at HCC.out 0 (by simp)
      subst hA
      simp only [Nat.zero_mul, Nat.add_zero, List.getElem_cons_zero] at y0 y1
      refine Look_r7 b0 o0 n0 c x.f0 x.f1 _ _ _ _ (by rfl) (by rfl) hnp y0 y1 hub ?_
      intro σ2 W2 ⟨hB, h9, h10⟩
      have HB2 := Aside0.mk (below_step HB1.out hB)
      have HX2 := Aside0.mk ((hB.block X (lt_of_block HX1.out)).trans HX1.out)
      simp only [lazyA, lazyT, lk7_tab, List.zipWith_cons_cons, List.zipWith_nil_left, cond_true]
      rename_i K1 hK1
      refine hK1 _ _ ?_
      rw [h9, h10]
      obtain ⟨kc0, kc1, kc2, kc3, kc4, kc5, kc6, kc7⟩ := HC.out _ HB2.out
      obtain ⟨x0, x1, x2⟩ := chunk_cell HX2.out
      have z0 := free_blk HX2.out 0
      have z1 := free_blk HX2.out 1
      have z2 := free_blk HX2.out 2
      clear h9 h10 hB y0 y1
      go_wp2
      (try simp only [Exit.inBlock, Exit.then])
      refine bodyPost_ret (results_ct rfl _ _ X 52 #[.int .i64 0, .string ⟨#[]⟩, .bool false] (0, 0) _ rfl (chunk_put HX2.out _ _ _) Try.underlying52 rfl (by kernel_rfl)) rfl ?_
      exact ⟨rfl, below_put3 HB2.out HXX.out _ _ _⟩
    | true =>
      by_cases hbz : b = (t.size : Int)
      · have hb1 : (b == (t.size : Int)) = true := beq_iff_eq.2 hbz
        clear hbz
        go_enter Try.func62, Try.ntmps62
        go_wp2
        obtain ⟨X, hX⟩ : ∃ X, w.heap.size = X := ⟨_, rfl⟩
        have hbA := below_alloc (Below.refl w.heap.size w) (.cells #[.int .i64 0, .string ⟨#[]⟩, .bool false] 52)
        have hnew := heap_alloc_new w (.cells #[.int .i64 0, .string ⟨#[]⟩, .bool false] 52)
        have HXX := Aside0.mk (Nat.le_of_eq hX)
        rw [hX] at hnew ⊢
        obtain ⟨kb0, kb1, -⟩ := HC.out _ hbA
        refine Look_r4 g t S limit _ _ _ _ (by rfl) (by rfl) (by rfl) kb0 kb1 ?_
        intro σ W ⟨hB, h16, h17⟩
        have HB := Aside0.mk (below_step hbA hB)
        have HX := Aside0.mk ((hB.block X (lt_of_block hnew)).trans hnew)
        simp only [lazyA, lazyT, lk4_tab, List.zipWith_cons_cons, List.zipWith_nil_left, cond_true]
        rename_i K0 hK0
        refine hK0 _ _ ?_
        rw [h16, h17, HM.out.1, HM.out.2]
        obtain ⟨kb0, kb1, kb2, kb3, kb4, kb5, kb6, kb7⟩ := HC.out W HB.out
        clear h16 h17 hB hnew hbA hX
        go_wp2_with (go_at_call 39; refine (HSP.out _ HB.out).mono ?_; rintro e w2 ⟨v, rfl, hr, hb⟩; obtain ⟨A, c, rfl, hc, hC⟩ := Kd.R_reads hr; rw [HN.out] at hC ⊢; have HB1 := Aside0.mk (below_step HB.out hb); have HCC := Aside0.mk hC; have HX1 := Aside0.mk ((hb.block X (lt_of_block HX.out)).trans HX.out); clear hr hb hc hC)
        obtain ⟨b0, o0, hA, y0, y1⟩ := row_at HCC.out 0 (by simp)
        subst hA
        simp only [Nat.zero_mul, Nat.add_zero, List.getElem_cons_zero] at y0 y1
        refine Look_r7 b0 o0 n0 c x.f0 x.f1 _ _ _ _ (by rfl) (by rfl) hnp y0 y1 hub ?_
        intro σ2 W2 ⟨hB, h9, h10⟩
        have HB2 := Aside0.mk (below_step HB1.out hB)
        have HX2 := Aside0.mk ((hB.block X (lt_of_block HX1.out)).trans HX1.out)
        simp only [lazyA, lazyT, lk7_tab, List.zipWith_cons_cons, List.zipWith_nil_left, cond_true]
        rename_i K1 hK1
        refine hK1 _ _ ?_
        rw [h9, h10]
        obtain ⟨kc0, kc1, kc2, kc3, kc4, kc5, kc6, kc7⟩ := HC.out _ HB2.out
        obtain ⟨x0, x1, x2⟩ := chunk_cell HX2.out
        have z0 := free_blk HX2.out 0
        have z1 := free_blk HX2.out 1
        have z2 := free_blk HX2.out 2
        clear h9 h10 hB y0 y1
        go_wp2
        (try simp only [Exit.inBlock, Exit.then])
        refine bodyPost_ret (results_ct rfl _ _ X 52 #[.int .i64 0, .string ⟨#[]⟩, .bool false] (0, 0) _ rfl (chunk_put HX2.out _ _ _) Try.underlying52 rfl (by kernel_rfl)) rfl ?_
        exact ⟨rfl, below_put3 HB2.out HXX.out _ _ _⟩
      · have hb1 : (b == (t.size : Int)) = false := beq_eq_false_iff_ne.2 hbz
        clear hbz
        go_enter Try.func62, Try.ntmps62
        go_wp2
        obtain ⟨X, hX⟩ : ∃ X, w.heap.size = X := ⟨_, rfl⟩
        have hbA := below_alloc (Below.refl w.heap.size w) (.cells #[.int .i64 0, .string ⟨#[]⟩, .bool false] 52)
        have hnew := heap_alloc_new w (.cells #[.int .i64 0, .string ⟨#[]⟩, .bool false] 52)
        have HXX := Aside0.mk (Nat.le_of_eq hX)
        rw [hX] at hnew ⊢
        obtain ⟨kb0, kb1, -⟩ := HC.out _ hbA
        refine Look_r4 g t S limit _ _ _ _ (by rfl) (by rfl) (by rfl) kb0 kb1 ?_
        intro σ W ⟨hB, h16, h17⟩
        have HB := Aside0.mk (below_step hbA hB)
        have HX := Aside0.mk ((hB.block X (lt_of_block hnew)).trans hnew)
        simp only [lazyA, lazyT, lk4_tab, List.zipWith_cons_cons, List.zipWith_nil_left, cond_true]
        rename_i K0 hK0
        refine hK0 _ _ ?_
        rw [h16, h17, HM.out.1, HM.out.2]
        obtain ⟨kb0, kb1, kb2, kb3, kb4, kb5, kb6, kb7⟩ := HC.out W HB.out
        clear h16 h17 hB hnew hbA hX
        go_wp2_with (go_at_call 39; refine (HSP.out _ HB.out).mono ?_; rintro e w2 ⟨v, rfl, hr, hb⟩; obtain ⟨A, c, rfl, hc, hC⟩ := Kd.R_reads hr; rw [HN.out] at hC ⊢; have HB1 := Aside0.mk (below_step HB.out hb); have HCC := Aside0.mk hC; have HX1 := Aside0.mk ((hb.block X (lt_of_block HX.out)).trans HX.out); clear hr hb hc hC)
        obtain ⟨b0, o0, hA, y0, y1⟩ := row_at HCC.out 0 (by simp)
        subst hA
        simp only [Nat.zero_mul, Nat.add_zero, List.getElem_cons_zero] at y0 y1
        refine Look_r7 b0 o0 n0 c x.f0 x.f1 _ _ _ _ (by rfl) (by rfl) hnp y0 y1 hub ?_
        intro σ2 W2 ⟨hB, h9, h10⟩
        have HB2 := Aside0.mk (below_step HB1.out hB)
        have HX2 := Aside0.mk ((hB.block X (lt_of_block HX1.out)).trans HX1.out)
        simp only [lazyA, lazyT, lk7_tab, List.zipWith_cons_cons, List.zipWith_nil_left, cond_true]
        rename_i K1 hK1
        refine hK1 _ _ ?_
        rw [h9, h10]
        obtain ⟨kc0, kc1, kc2, kc3, kc4, kc5, kc6, kc7⟩ := HC.out _ HB2.out
        obtain ⟨x0, x1, x2⟩ := chunk_cell HX2.out
        have z0 := free_blk HX2.out 0
        have z1 := free_blk HX2.out 1
        have z2 := free_blk HX2.out 2
        clear h9 h10 hB y0 y1
        go_wp2
        (try simp only [Exit.inBlock, Exit.then])
        refine bodyPost_ret (results_ct rfl _ _ X 52 #[.int .i64 0, .string ⟨#[]⟩, .bool false] (0, 0) _ rfl (chunk_put HX2.out _ _ _) Try.underlying52 rfl (by kernel_rfl)) rfl ?_
        exact ⟨rfl, below_put3 HB2.out HXX.out _ _ _⟩
theorem OLook_calls (g gc ga : Nat) (t : ByteArray) (S : Int) (C A : List S95) (f1 f2 f3 f4 : Bool) (room limit : Int) (w : World) (h : BoxAt w g gc ga t S C A f1 f2 f3 f4) (hP : BoxP t S C A) :
    Calls Try.prog 62 #[.pointer (some ⟨g, 0, none⟩), .int .i64 room, .int .i64 limit] w fun e w' => e = lkRet t (lkF t.size S A f1 f2 f4 room limit) ∧ Below w.heap.size w w' := by
  cases A with
  | nil => exact OLook_nil g gc ga t S C f1 f2 f3 f4 room limit w h hP
  | cons x r => exact OLook_cons g gc ga t S C x r f1 f2 f3 f4 room limit w h hP
end Go.Proofs.Ytiladcdogbeomaa.QRangesPlays

namespace Go.Proofs.Ytiladcdogbeomaa.QRangesPlays
open Go.RowKit Go.Shelf Go.Proofs.YtiladcdogbeomaaW.PrintWords Go.Proofs.YtiladcdogbeomaaW.PrintLast Go.Proofs.YtiladcdogbeomaaW.PrintMore Go.Proofs.Ytiladcdogbeomaa.RowLaws Go.Proofs.Ytiladcdogbeomaa.Lazy
attribute [local go_sem] Oper.semAt_some max2_int min2_int max_two min_two
/-- Was a chunk sent? 13: no. -/
def wasF (t : ByteArray) (S : Int) (f2 : Bool) (off : Int) (s : ByteArray) (fin : Bool) : Int :=
  if off < 0 then 13 else if S < off then 13 else if S - off < (s.size : Int) then 13 else if ((t.extract off.toNat (off + (s.size : Int)).toNat).toList == s.toList) = false then 13
  else if fin = false then 0 else if f2 = false then 13 else if (off + (s.size : Int) != (t.size : Int)) = true then 13 else 0
set_option maxRecDepth 100000 in
set_option maxHeartbeats 4000000 in
theorem OWas_calls (g gc ga : Nat) (t : ByteArray) (S : Int) (C A : List S95) (f1 f2 f3 f4 : Bool) (off : Int) (s : ByteArray) (fin : Bool) (w : World) (h : BoxAt w g gc ga t S C A f1 f2 f3 f4) (hS : 0 ≤ S ∧ S ≤ (t.size : Int) ∧ t.size ≤ 262144) :
    Calls Try.prog 67 #[.pointer (some ⟨g, 0, none⟩), .agg #[.int .i64 off, .string s, .bool fin]] w fun e w' => e = .returned (.int .i64 (wasF t S f2 off s fin)) ∧ Below w.heap.size w w' := by
  have HC := Aside0.mk (fun W (hb : Below w.heap.size w W) => (h.below hb).cells)
  have hSB : 0 ≤ S ∧ S ≤ 262144 := by omega
  have hSt := hS.2.1
  clear h hS
  unfold wasF
  by_cases h1 : off < 0
  · rw [if_pos h1]
    go_enter Try.func67, Try.ntmps67
    go_wp2
    obtain ⟨X, hX⟩ : ∃ X, w.heap.size = X := ⟨_, rfl⟩
    have hbA := below_alloc (Below.refl w.heap.size w) (.cells #[.int .i64 off, .string s, .bool fin] 52)
    have hnew := heap_alloc_new w (.cells #[.int .i64 off, .string s, .bool fin] 52)
    rw [hX] at hnew ⊢
    obtain ⟨kb0, kb1, -⟩ := HC.out _ hbA
    obtain ⟨kx0, kx1, kx2⟩ := chunk_cell hnew
    refine Was_r3a g t S X off s fin _ _ _ _ (by rfl) (by rfl) (by rfl) kb0 kb1 kx0 kx1 kx2 h1 ?_
    intro σ W ⟨hB, h39⟩
    have HB := Aside0.mk (below_step hbA hB)
    have HX := Aside0.mk ((hB.block X (lt_of_block hnew)).trans hnew)
    simp only [lazyA, lazyT, ws3_tab, List.zipWith_cons_cons, List.zipWith_nil_left, cond_true]
    rename_i K0 hK0
    refine hK0 _ _ ?_
    rw [h39]
    clear h39 hB hnew hbA hX kb0 kb1 kx0 kx1 kx2
    go_wp2
    go_ret
    exact ⟨rfl, HB.out⟩
  · rw [if_neg h1]
    by_cases h2 : S < off
    · rw [if_pos h2]
      go_enter Try.func67, Try.ntmps67
      go_wp2
      obtain ⟨X, hX⟩ : ∃ X, w.heap.size = X := ⟨_, rfl⟩
      have hbA := below_alloc (Below.refl w.heap.size w) (.cells #[.int .i64 off, .string s, .bool fin] 52)
      have hnew := heap_alloc_new w (.cells #[.int .i64 off, .string s, .bool fin] 52)
      rw [hX] at hnew ⊢
      obtain ⟨kb0, kb1, -⟩ := HC.out _ hbA
      obtain ⟨kx0, kx1, kx2⟩ := chunk_cell hnew
      refine Was_r3b g t S X off s fin _ _ _ _ (by rfl) (by rfl) (by rfl) kb0 kb1 kx0 kx1 kx2 (by omega) (by omega) ?_
      intro σ W ⟨hB, h39⟩
      have HB := Aside0.mk (below_step hbA hB)
      have HX := Aside0.mk ((hB.block X (lt_of_block hnew)).trans hnew)
      simp only [lazyA, lazyT, ws3_tab, List.zipWith_cons_cons, List.zipWith_nil_left, cond_true]
      rename_i K0 hK0
      refine hK0 _ _ ?_
      rw [h39]
      clear h39 hB hnew hbA hX kb0 kb1 kx0 kx1 kx2
      go_wp2
      go_ret
      exact ⟨rfl, HB.out⟩
    · rw [if_neg h2]
      by_cases h3 : S - off < (s.size : Int)
      · rw [if_pos h3]
        go_enter Try.func67, Try.ntmps67
        go_wp2
        obtain ⟨X, hX⟩ : ∃ X, w.heap.size = X := ⟨_, rfl⟩
        have hbA := below_alloc (Below.refl w.heap.size w) (.cells #[.int .i64 off, .string s, .bool fin] 52)
        have hnew := heap_alloc_new w (.cells #[.int .i64 off, .string s, .bool fin] 52)
        rw [hX] at hnew ⊢
        obtain ⟨kb0, kb1, -⟩ := HC.out _ hbA
        obtain ⟨kx0, kx1, kx2⟩ := chunk_cell hnew
        refine Was_r3c g t S X off s fin _ _ _ _ (by rfl) (by rfl) (by rfl) kb0 kb1 kx0 kx1 kx2 (by omega) (by omega) (by omega) hSB ?_
        intro σ W ⟨hB, h39⟩
        have HB := Aside0.mk (below_step hbA hB)
        have HX := Aside0.mk ((hB.block X (lt_of_block hnew)).trans hnew)
        simp only [lazyA, lazyT, ws3_tab, List.zipWith_cons_cons, List.zipWith_nil_left, cond_true]
        rename_i K0 hK0
        refine hK0 _ _ ?_
        rw [h39]
        clear h39 hB hnew hbA hX kb0 kb1 kx0 kx1 kx2
        go_wp2
        go_ret
        exact ⟨rfl, HB.out⟩
      · rw [if_neg h3]
        obtain ⟨bx, hbx⟩ : ∃ bx, ((t.extract off.toNat (off + (s.size : Int)).toNat).toList == s.toList) = bx := ⟨_, rfl⟩
        have HBX := Aside0.mk hbx
        rw [hbx]
        clear hbx
        cases bx with
        | false =>
          rw [if_pos rfl]
          go_enter Try.func67, Try.ntmps67
          go_wp2
          obtain ⟨X, hX⟩ : ∃ X, w.heap.size = X := ⟨_, rfl⟩
          have hbA := below_alloc (Below.refl w.heap.size w) (.cells #[.int .i64 off, .string s, .bool fin] 52)
          have hnew := heap_alloc_new w (.cells #[.int .i64 off, .string s, .bool fin] 52)
          rw [hX] at hnew ⊢
          obtain ⟨kb0, kb1, -⟩ := HC.out _ hbA
          obtain ⟨kx0, kx1, kx2⟩ := chunk_cell hnew
          refine Was_r3d g t S X off s fin _ _ _ _ (by rfl) (by rfl) (by rfl) kb0 kb1 kx0 kx1 kx2 (by omega) (by omega) (by omega) HBX.out hSt hSB ?_
          intro σ W ⟨hB, h39⟩
          have HB := Aside0.mk (below_step hbA hB)
          have HX := Aside0.mk ((hB.block X (lt_of_block hnew)).trans hnew)
          simp only [lazyA, lazyT, ws3_tab, List.zipWith_cons_cons, List.zipWith_nil_left, cond_true]
          rename_i K0 hK0
          refine hK0 _ _ ?_
          rw [h39]
          clear h39 hB hnew hbA hX kb0 kb1 kx0 kx1 kx2
          go_wp2
          go_ret
          exact ⟨rfl, HB.out⟩
        | true =>
          rw [if_neg (by decide)]
          have hoff : 0 ≤ off ∧ off ≤ 4611686018427387903 := by omega
          have hsz : s.size ≤ 4611686018427387903 := by omega
          cases fin with
          | false =>
            rw [if_pos rfl]
            go_enter Try.func67, Try.ntmps67
            go_wp2
            obtain ⟨X, hX⟩ : ∃ X, w.heap.size = X := ⟨_, rfl⟩
            have hbA := below_alloc (Below.refl w.heap.size w) (.cells #[.int .i64 off, .string s, .bool false] 52)
            have hnew := heap_alloc_new w (.cells #[.int .i64 off, .string s, .bool false] 52)
            rw [hX] at hnew ⊢
            obtain ⟨kb0, kb1, -⟩ := HC.out _ hbA
            obtain ⟨kx0, kx1, kx2⟩ := chunk_cell hnew
            refine Was_r3e g t S X off s false _ _ _ _ (by rfl) (by rfl) (by rfl) kb0 kb1 kx0 kx1 kx2 (by omega) (by omega) (by omega) HBX.out hSt hSB ?_
            intro σ W ⟨hB, h39⟩
            have HB := Aside0.mk (below_step hbA hB)
            have HX := Aside0.mk ((hB.block X (lt_of_block hnew)).trans hnew)
            simp only [lazyA, lazyT, ws3_tab, List.zipWith_cons_cons, List.zipWith_nil_left, cond_true]
            rename_i K0 hK0
            refine hK0 _ _ ?_
            rw [h39]
            clear h39 hB hnew hbA hX kb0 kb1 kx0 kx1 kx2
            clear h1 h2 h3 hSt hSB
            obtain ⟨kb0, kb1, kb2, kb3, kb4, kb5, kb6, kb7⟩ := HC.out W HB.out
            obtain ⟨kx0, kx1, kx2⟩ := chunk_cell HX.out
            go_wp2
            refine Was_r5a g t f2 X off s _ _ _ _ (by rfl) (by rfl) (by rfl) kb0 kb5 kx0 kx1 kx2 hoff hsz ?_
            intro σ2 W2 ⟨hB2, h20⟩
            have HB2 := Aside0.mk (below_step HB.out hB2)
            simp only [lazyA, lazyT, ws5_tab, List.zipWith_cons_cons, List.zipWith_nil_left, cond_true]
            rename_i K1 hK1
            refine hK1 _ _ ?_
            rw [h20]
            clear h20 hB2
            go_wp2
            go_ret
            exact ⟨rfl, HB2.out⟩
          | true =>
            rw [if_neg (by decide)]
            cases f2 with
            | false =>
              rw [if_pos rfl]
              go_enter Try.func67, Try.ntmps67
              go_wp2
              obtain ⟨X, hX⟩ : ∃ X, w.heap.size = X := ⟨_, rfl⟩
              have hbA := below_alloc (Below.refl w.heap.size w) (.cells #[.int .i64 off, .string s, .bool true] 52)
              have hnew := heap_alloc_new w (.cells #[.int .i64 off, .string s, .bool true] 52)
              rw [hX] at hnew ⊢
              obtain ⟨kb0, kb1, -⟩ := HC.out _ hbA
              obtain ⟨kx0, kx1, kx2⟩ := chunk_cell hnew
              refine Was_r3e g t S X off s true _ _ _ _ (by rfl) (by rfl) (by rfl) kb0 kb1 kx0 kx1 kx2 (by omega) (by omega) (by omega) HBX.out hSt hSB ?_
              intro σ W ⟨hB, h39⟩
              have HB := Aside0.mk (below_step hbA hB)
              have HX := Aside0.mk ((hB.block X (lt_of_block hnew)).trans hnew)
              simp only [lazyA, lazyT, ws3_tab, List.zipWith_cons_cons, List.zipWith_nil_left, cond_true]
              rename_i K0 hK0
              refine hK0 _ _ ?_
              rw [h39]
              clear h39 hB hnew hbA hX kb0 kb1 kx0 kx1 kx2
              clear h1 h2 h3 hSt hSB
              obtain ⟨kb0, kb1, kb2, kb3, kb4, kb5, kb6, kb7⟩ := HC.out W HB.out
              obtain ⟨kx0, kx1, kx2⟩ := chunk_cell HX.out
              go_wp2
              refine Was_r5b g t X off s _ _ _ _ (by rfl) (by rfl) (by rfl) kb0 kb5 kx0 kx1 kx2 hoff hsz ?_
              intro σ2 W2 ⟨hB2, h20⟩
              have HB2 := Aside0.mk (below_step HB.out hB2)
              simp only [lazyA, lazyT, ws5_tab, List.zipWith_cons_cons, List.zipWith_nil_left, cond_true]
              rename_i K1 hK1
              refine hK1 _ _ ?_
              rw [h20]
              clear h20 hB2
              go_wp2
              go_ret
              exact ⟨rfl, HB2.out⟩
            | true =>
              rw [if_neg (by decide)]
              obtain ⟨be, hbe⟩ : ∃ be, (off + (s.size : Int) != (t.size : Int)) = be := ⟨_, rfl⟩
              have HBE := Aside0.mk hbe
              rw [hbe]
              clear hbe
              cases be with
              | true =>
                rw [if_pos rfl]
                go_enter Try.func67, Try.ntmps67
                go_wp2
                obtain ⟨X, hX⟩ : ∃ X, w.heap.size = X := ⟨_, rfl⟩
                have hbA := below_alloc (Below.refl w.heap.size w) (.cells #[.int .i64 off, .string s, .bool true] 52)
                have hnew := heap_alloc_new w (.cells #[.int .i64 off, .string s, .bool true] 52)
                rw [hX] at hnew ⊢
                obtain ⟨kb0, kb1, -⟩ := HC.out _ hbA
                obtain ⟨kx0, kx1, kx2⟩ := chunk_cell hnew
                refine Was_r3e g t S X off s true _ _ _ _ (by rfl) (by rfl) (by rfl) kb0 kb1 kx0 kx1 kx2 (by omega) (by omega) (by omega) HBX.out hSt hSB ?_
                intro σ W ⟨hB, h39⟩
                have HB := Aside0.mk (below_step hbA hB)
                have HX := Aside0.mk ((hB.block X (lt_of_block hnew)).trans hnew)
                simp only [lazyA, lazyT, ws3_tab, List.zipWith_cons_cons, List.zipWith_nil_left, cond_true]
                rename_i K0 hK0
                refine hK0 _ _ ?_
                rw [h39]
                clear h39 hB hnew hbA hX kb0 kb1 kx0 kx1 kx2
                clear h1 h2 h3 hSt hSB
                obtain ⟨kb0, kb1, kb2, kb3, kb4, kb5, kb6, kb7⟩ := HC.out W HB.out
                obtain ⟨kx0, kx1, kx2⟩ := chunk_cell HX.out
                go_wp2
                refine Was_r5c g t X off s _ _ _ _ (by rfl) (by rfl) (by rfl) kb0 kb5 kx0 kx1 kx2 hoff hsz HBE.out ?_
                intro σ2 W2 ⟨hB2, h20⟩
                have HB2 := Aside0.mk (below_step HB.out hB2)
                simp only [lazyA, lazyT, ws5_tab, List.zipWith_cons_cons, List.zipWith_nil_left, cond_true]
                rename_i K1 hK1
                refine hK1 _ _ ?_
                rw [h20]
                clear h20 hB2
                go_wp2
                go_ret
                exact ⟨rfl, HB2.out⟩
              | false =>
                rw [if_neg (by decide)]
                go_enter Try.func67, Try.ntmps67
                go_wp2
                obtain ⟨X, hX⟩ : ∃ X, w.heap.size = X := ⟨_, rfl⟩
                have hbA := below_alloc (Below.refl w.heap.size w) (.cells #[.int .i64 off, .string s, .bool true] 52)
                have hnew := heap_alloc_new w (.cells #[.int .i64 off, .string s, .bool true] 52)
                rw [hX] at hnew ⊢
                obtain ⟨kb0, kb1, -⟩ := HC.out _ hbA
                obtain ⟨kx0, kx1, kx2⟩ := chunk_cell hnew
                refine Was_r3e g t S X off s true _ _ _ _ (by rfl) (by rfl) (by rfl) kb0 kb1 kx0 kx1 kx2 (by omega) (by omega) (by omega) HBX.out hSt hSB ?_
                intro σ W ⟨hB, h39⟩
                have HB := Aside0.mk (below_step hbA hB)
                have HX := Aside0.mk ((hB.block X (lt_of_block hnew)).trans hnew)
                simp only [lazyA, lazyT, ws3_tab, List.zipWith_cons_cons, List.zipWith_nil_left, cond_true]
                rename_i K0 hK0
                refine hK0 _ _ ?_
                rw [h39]
                clear h39 hB hnew hbA hX kb0 kb1 kx0 kx1 kx2
                clear h1 h2 h3 hSt hSB
                obtain ⟨kb0, kb1, kb2, kb3, kb4, kb5, kb6, kb7⟩ := HC.out W HB.out
                obtain ⟨kx0, kx1, kx2⟩ := chunk_cell HX.out
                go_wp2
                refine Was_r5d g t X off s _ _ _ _ (by rfl) (by rfl) (by rfl) kb0 kb5 kx0 kx1 kx2 hoff hsz HBE.out ?_
                intro σ2 W2 ⟨hB2, h20⟩
                have HB2 := Aside0.mk (below_step HB.out hB2)
                simp only [lazyA, lazyT, ws5_tab, List.zipWith_cons_cons, List.zipWith_nil_left, cond_true]
                rename_i K1 hK1
                refine hK1 _ _ ?_
                rw [h20]
                clear h20 hB2
                go_wp2
                go_ret
                exact ⟨rfl, HB2.out⟩
set_option maxRecDepth 100000 in
set_option maxHeartbeats 4000000 in
theorem ODone_calls (g gc ga : Nat) (t : ByteArray) (S : Int) (C A : List S95) (f1 f2 f3 f4 : Bool) (w : World) (h : BoxAt w g gc ga t S C A f1 f2 f3 f4) (hl : C.length < 8796093022208) :
    Calls Try.prog 54 #[.pointer (some ⟨g, 0, none⟩)] w fun e w' => e = .returned (.bool (f3 && (cntF C == (t.size : Int)))) ∧ Below w.heap.size w w' := by
  obtain ⟨kb0, kb1, kb2, kb3, kb4, kb5, kb6, kb7⟩ := h.cells
  have HS := Aside0.mk h.sc
  clear h
  cases f3 with
  | false =>
    rw [Bool.false_and]
    go_enter Try.func54, Try.ntmps54
    go_wp2
    refine Done_r1a g gc t C _ _ _ _ (by rfl) (by rfl) kb0 kb2 kb6 HS.out hl ?_
    intro σ W ⟨hB, h22⟩
    have HB := Aside0.mk hB
    simp only [lazyA, lazyT, dn1_tab, List.zipWith_cons_cons, List.zipWith_nil_left, cond_true]
    rw [h22]
    clear h22 hB
    go_wp2
    go_ret
    exact ⟨rfl, HB.out⟩
  | true =>
    rw [Bool.true_and]
    go_enter Try.func54, Try.ntmps54
    go_wp2
    refine Done_r1b g gc t C _ _ _ _ (by rfl) (by rfl) kb0 kb2 kb6 HS.out hl ?_
    intro σ W ⟨hB, h22⟩
    have HB := Aside0.mk hB
    simp only [lazyA, lazyT, dn1_tab, List.zipWith_cons_cons, List.zipWith_nil_left, cond_true]
    rw [h22]
    clear h22 hB
    go_wp2
    go_ret
    exact ⟨rfl, HB.out⟩
def isS : Option (Int × Int × Bool) → Bool
  | none => false
  | some _ => true
set_option maxRecDepth 100000 in
set_option maxHeartbeats 4000000 in
theorem OWaits_calls (g gc ga : Nat) (t : ByteArray) (S : Int) (C A : List S95) (f1 f2 f3 f4 : Bool) (limit : Int) (w : World) (h : BoxAt w g gc ga t S C A f1 f2 f3 f4) (hP : BoxP t S C A) :
    Calls Try.prog 55 #[.pointer (some ⟨g, 0, none⟩), .int .i64 limit] w fun e w' => e = .returned (.bool (isS (lkF t.size S A f1 f2 f4 1 limit))) ∧ Below w.heap.size w w' := by
  have HL := Aside0.mk (OLook_calls g gc ga t S C A f1 f2 f3 f4 1 limit w h hP)
  clear h hP
  generalize lkF (t.size : Int) S A f1 f2 f4 1 limit = r at *
  cases r with
  | none =>
    simp only [lkRet] at HL
    go_enter Try.func55, Try.ntmps55
    go_wp2_with (go_at_call 62; refine HL.out.mono ?_; rintro e w2 ⟨rfl, hb⟩; have HB := Aside0.mk hb; clear hb)
    go_ret
    exact ⟨rfl, below_alloc HB.out _⟩
  | some x =>
    obtain ⟨a, b, fin⟩ := x
    simp only [lkRet] at HL
    go_enter Try.func55, Try.ntmps55
    go_wp2_with (go_at_call 62; refine HL.out.mono ?_; rintro e w2 ⟨rfl, hb⟩; have HB := Aside0.mk hb; clear hb)
    go_ret
    exact ⟨rfl, below_alloc HB.out _⟩
end Go.Proofs.Ytiladcdogbeomaa.QRangesPlays

namespace Go.Proofs.Ytiladcdogbeomaa.QRangesPlays
open Go.RowKit Go.Shelf Go.Proofs.YtiladcdogbeomaaW.PrintWords Go.Proofs.YtiladcdogbeomaaW.PrintLast Go.Proofs.YtiladcdogbeomaaW.PrintMore Go.Proofs.Ytiladcdogbeomaa.RowLaws Go.Proofs.Ytiladcdogbeomaa.Lazy
attribute [local go_sem] Oper.semAt_some max2_int min2_int max_two min_two
abbrev LkR := Option (Int × Int × Bool)
def nxS (S : Int) : LkR → Int
  | none => S
  | some (_, b, _) => if S < b then b else S
def nxA (t : ByteArray) (A : List S95) : LkR → List S95
  | none => A
  | some (a, b, _) => spanRem a (t.extract a.toNat b.toNat) A
def nxF2 (f2 : Bool) : LkR → Bool
  | none => f2
  | some (_, _, fin) => fin || f2
def nxF4 (f4 : Bool) : LkR → Bool
  | none => f4
  | some (_, _, fin) => !fin && f4
theorem lkF_bd {t : ByteArray} {S room limit : Int} {C A : List S95} (h : BoxP t S C A) {f1 f2 f4 : Bool} {a b : Int} {fin : Bool} (hr : lkF t.size S A f1 f2 f4 room limit = some (a, b, fin)) : 0 ≤ a ∧ a ≤ b ∧ b ≤ t.size := by
  have hb := lkTo_bd (room := room) (limit := limit) h
  unfold lkF at hr
  split at hr
  · simp only [Option.some.injEq, Prod.mk.injEq] at hr
    obtain ⟨rfl, rfl, rfl⟩ := hr
    omega
  · split at hr
    · simp only [Option.some.injEq, Prod.mk.injEq] at hr
      obtain ⟨rfl, rfl, rfl⟩ := hr
      omega
    · cases hr
theorem ext_size2 (t : ByteArray) {a b : Int} (h0 : 0 ≤ a) (h1 : a ≤ b) (h2 : b ≤ t.size) : ((t.extract a.toNat b.toNat).size : Int) = b - a := by
  rw [ByteArray.size_extract]; omega
/-- A chunk's block is written: the box stays. -/
theorem box_put3 {W : World} {g gc ga X : Nat} {t : ByteArray} {S : Int} {C A : List S95} {f1 f2 f3 f4 : Bool} {a : Int} {s : ByteArray} {fin : Bool} (h : BoxAt W g gc ga t S C A f1 f2 f3 f4) (hX : W.heap[X]? = some (.cells #[.int .i64 a, .string s, .bool fin] 52 (0, 0))) (h1 : X ≠ g) (h2 : X ≠ ga) (h3 : X ≠ gc) (u0 u1 u2 : Value) :
    BoxAt (((W.setCell ⟨X, 0, none⟩ u0).setCell ⟨X, 1, none⟩ u1).setCell ⟨X, 2, none⟩ u2) g gc ga t S C A f1 f2 f3 f4 ∧ On (fun k => k = X) W (((W.setCell ⟨X, 0, none⟩ u0).setCell ⟨X, 1, none⟩ u1).setCell ⟨X, 2, none⟩ u2) := by
  have ho := ((On.setCell (S := fun k => k = X) X 0 u0 rfl W).trans (On.setCell (S := fun k => k = X) X 1 u1 rfl _)).trans (On.setCell (S := fun k => k = X) X 2 u2 rfl _)
  refine ⟨h.apart ho.kept ?_ (fun e => h1 e.symm) (fun e => h3 e.symm) (fun e => h2 e.symm), ho⟩
  rintro q rfl o x y e1 e2
  have hc : ∀ i, W.cell? ⟨q, i, none⟩ = (#[.int .i64 a, .string s, .bool fin] : Array Value)[i]? := fun i => by unfold World.cell?; rw [hX]; rfl
  rw [hc] at e1 e2
  match o with
  | 0 => simp at e2
  | 1 => simp at e1
  | 2 => simp at e1
  | n + 3 => simp at e1
theorem put2_far {W : World} {g X i j : Nat} {cs : Array Value} {t : TypeId} (u v : Value) (hn : X ≠ g) (h : W.heap[X]? = some (.cells cs t (0, 0))) : ((W.setCell ⟨g, i, none⟩ u).setCell ⟨g, j, none⟩ v).heap[X]? = some (.cells cs t (0, 0)) := by
  rw [Below.heap_setCell _ _ _ _ hn, Below.heap_setCell _ _ _ _ hn]; exact h
set_option maxRecDepth 100000 in
set_option maxHeartbeats 4000000 in
theorem ONext_calls (g gc ga : Nat) (t : ByteArray) (S : Int) (C A : List S95) (f1 f2 f3 f4 : Bool) (room limit : Int) (w : World) (h : BoxAt w g gc ga t S C A f1 f2 f3 f4) (hP : BoxP t S C A) (n1 : gc ≠ g) (n2 : ga ≠ g) (n3 : gc ≠ ga) :
    Calls Try.prog 24 #[.pointer (some ⟨g, 0, none⟩), .int .i64 room, .int .i64 limit] w fun e w' => e = lkRet t (lkF t.size S A f1 f2 f4 room limit) ∧
      BoxAt w' g gc ga t (nxS S (lkF t.size S A f1 f2 f4 room limit)) C (nxA t A (lkF t.size S A f1 f2 f4 room limit)) f1 (nxF2 f2 (lkF t.size S A f1 f2 f4 room limit)) f3 (nxF4 f4 (lkF t.size S A f1 f2 f4 room limit)) ∧ On (O3 g gc ga) w w' := by
  have HL := Aside0.mk (fun W (hb : Below w.heap.size w W) => OLook_calls g gc ga t S C A f1 f2 f3 f4 room limit W (h.below hb) hP)
  have HBX := Aside0.mk h
  have HWA := Aside0.mk hP.wa
  have h2 := hP.s2
  have hs0 := hP.s0
  have hs1 := hP.s1
  have hbd := fun a b fin => lkF_bd (room := room) (limit := limit) (f1 := f1) (f2 := f2) (f4 := f4) (a := a) (b := b) (fin := fin) hP
  have HLT := Aside0.mk (And.intro (lt_of_block h.blk) (And.intro h.sc.lt h.sa.lt))
  clear h hP
  generalize lkF (t.size : Int) S A f1 f2 f4 room limit = r at *
  cases r with
  | none =>
    simp only [lkRet] at HL
    simp only [lkRet, nxS, nxA, nxF2, nxF4]
    clear hbd
    go_enter Try.func24, Try.ntmps24
    go_wp2_with (go_at_call 62; refine (HL.out _ (below_alloc (Below.refl _ _) _)).mono ?_; rintro e w2 ⟨rfl, hb⟩; have HB := Aside0.mk hb; clear hb; refine park ?_)
    obtain ⟨X6, hX6⟩ : ∃ X, w.heap.size = X := ⟨_, rfl⟩
    have HXX := Aside0.mk (Nat.le_of_eq hX6)
    have hn6 := (HB.out.block w.heap.size (by simp)).trans (heap_alloc_new w (.cells #[.int .i64 0, .string ⟨#[]⟩, .bool false] 52))
    have HB2 := Aside0.mk (below_step (below_alloc (Below.refl w.heap.size w) (.cells #[.int .i64 0, .string ⟨#[]⟩, .bool false] 52)) HB.out)
    rw [hX6] at hn6 ⊢
    have hbA := below_alloc (Below.refl w2.heap.size w2) (.cells #[.int .i64 0, .string ⟨#[]⟩, .bool false] 52)
    have HB3 := Aside0.mk (below_step HB2.out hbA)
    have hn6b := (hbA.block X6 (lt_of_block hn6)).trans hn6
    have HX6 := Aside0.mk hn6b
    obtain ⟨x0, x1, x2⟩ := chunk_cell hn6b
    have z0 := free_blk hn6b 0
    have z1 := free_blk hn6b 1
    have z2 := free_blk hn6b 2
    clear hn6 hn6b hbA hX6
    refine ⟨?_⟩
    go_wp2
    (try simp only [Exit.inBlock, Exit.then])
    refine bodyPost_ret (results_ct rfl _ _ X6 52 #[.int .i64 0, .string ⟨#[]⟩, .bool false] (0, 0) _ rfl (chunk_put HX6.out _ _ _) Try.underlying52 rfl (by kernel_rfl)) rfl ?_
    have hbF := below_put3 HB3.out HXX.out (.int .i64 0) (.string ⟨#[]⟩) (.bool false)
    exact ⟨rfl, HBX.out.below hbF, On.of_below hbF _⟩
  | some x =>
    obtain ⟨a, b, fin⟩ := x
    obtain ⟨ha0, hab, hbt⟩ := hbd a b fin rfl
    clear hbd
    have hsz := ext_size2 t ha0 hab hbt
    simp only [lkRet] at HL
    simp only [lkRet, nxA, nxF2, nxF4]
    obtain ⟨S2, hS2⟩ : ∃ S2, nxS S (some (a, b, fin)) = S2 := ⟨_, rfl⟩
    rw [hS2]
    obtain ⟨s, hs⟩ : ∃ s, t.extract a.toNat b.toNat = s := ⟨_, rfl⟩
    rw [hs] at hsz HL ⊢
    have hso : 0 ≤ a ∧ a ≤ 4611686018427387903 := by omega
    have hss : s.size ≤ 4611686018427387903 := by omega
    have hmx : (if S < a + (s.size : Int) then a + (s.size : Int) else S) = S2 := by rw [show a + (s.size : Int) = b by omega]; exact hS2
    have HMX := Aside0.mk hmx
    have HSZ := Aside0.mk (And.intro hso hss)
    clear hs hmx hsz hS2
    go_enter Try.func24, Try.ntmps24
    go_wp2_with (go_at_call 62; refine (HL.out _ (below_alloc (Below.refl _ _) _)).mono ?_; rintro e w2 ⟨rfl, hb⟩; have HB := Aside0.mk hb; clear hb; refine park ?_)
    obtain ⟨X6, hX6⟩ : ∃ X, w.heap.size = X := ⟨_, rfl⟩
    have hn6 := (HB.out.block w.heap.size (by simp)).trans (heap_alloc_new w (.cells #[.int .i64 0, .string ⟨#[]⟩, .bool false] 52))
    have HB2 := Aside0.mk (below_step (below_alloc (Below.refl w.heap.size w) (.cells #[.int .i64 0, .string ⟨#[]⟩, .bool false] 52)) HB.out)
    have hl6 := lt_of_block hn6
    have HN6 := Aside0.mk hX6
    rw [hX6] at hn6 hl6 ⊢
    refine ⟨?_⟩
    go_wp2
    obtain ⟨X8, hX8⟩ : ∃ X, w2.heap.size = X := ⟨_, rfl⟩
    have hbA := below_alloc (Below.refl w2.heap.size w2) (.cells #[.int .i64 a, .string s, .bool fin] 52)
    have hn8 := heap_alloc_new w2 (.cells #[.int .i64 a, .string s, .bool fin] 52)
    have HB3 := Aside0.mk (below_step HB2.out hbA)
    have hn6b := (hbA.block X6 (lt_of_block hn6)).trans hn6
    have hl8 : w.heap.size < X8 := by rw [← hX8]; have := HN6.out; omega
    rw [hX8] at hn8 ⊢
    have HNE := Aside0.mk (show w.heap.size ≤ X6 ∧ w.heap.size ≤ X8 ∧ X6 ≠ X8 ∧ X6 ≠ ga ∧ X8 ≠ ga ∧ X6 ≠ g ∧ X8 ≠ g from by have h := HLT.out; have h6 := HN6.out; refine ⟨by omega, by omega, by omega, by omega, by omega, by omega, by omega⟩)
    have HB3x := Aside0.mk (HBX.out.below HB3.out)
    obtain ⟨kb0, kb1, -⟩ := HB3x.out.cells
    obtain ⟨kx0, kx1, kx2⟩ := chunk_cell hn8
    refine Next_r4 g t S _ X8 a s fin _ _ _ _ (by rfl) (by rfl) (by rfl) kb1 kx0 kx1 kx2 hso hss HB3x.out.blk (fun e => HNE.out.2.2.2.2.2.2 e.symm) ?_
    rintro σ W4 ⟨W0, hb0, rfl⟩
    rw [HMX.out]
    simp only [lazyA, lazyT, nx4_tab, List.zipWith_cons_cons, List.zipWith_nil_left, cond_true]
    have HB4 := Aside0.mk ((HB3x.out.below hb0).setF n1 n2 1 (.int .i64 S2) (S' := S2) rfl)
    have HO4 := Aside0.mk (((On.of_below HB3.out (O3 g gc ga)).step hb0).trans (On.setCell g 1 (.int .i64 S2) (.inl rfl) W0))
    have hk4 : Only g W0 (W0.setCell ⟨g, 1, none⟩ (.int .i64 S2)) := (Only.refl g W0).setCell (p := ⟨g, 1, none⟩) rfl _
    have HX4 := Aside0.mk (And.intro ((hk4.block X6 (lt_of_block ((hb0.block X6 (lt_of_block hn6b)).trans hn6b)) (by intro e; injection e with e; exact HNE.out.2.2.2.2.2.1 e)).trans ((hb0.block X6 (lt_of_block hn6b)).trans hn6b)) ((hk4.block X8 (lt_of_block ((hb0.block X8 (lt_of_block hn8)).trans hn8)) (by intro e; injection e with e; exact HNE.out.2.2.2.2.2.2 e)).trans ((hb0.block X8 (lt_of_block hn8)).trans hn8)))
    clear hk4 kb0 kb1 kx0 kx1 kx2
    generalize W0.setCell ⟨g, 1, none⟩ (.int .i64 S2) = W4 at *
    clear hb0 hn6b hn8 hn6 hbA hX8 hX6
    rename_i K0 hK0
    refine hK0 _ _ ?_
    go_wp2
    obtain ⟨kb0, kb1, kb2, kb3, kb4, kb5, kb6, kb7⟩ := HB4.out.cells
    obtain ⟨kx0, kx1, kx2⟩ := chunk_cell HX4.out.2
    refine Next_r5 g ga X8 a s fin A _ _ _ _ (by rfl) (by rfl) (by rfl) kb3 kx0 kx1 kx2 hso hss HB4.out.sa HWA.out ?_
    rintro σ2 W5 ⟨hS5, hO5⟩
    have HB5 := Aside0.mk (HB4.out.setA n2 n3 hS5 hO5)
    have HO5 := Aside0.mk (HO4.out.trans (On.of_only hO5 (.inr (.inr rfl))))
    have HX5 := Aside0.mk (And.intro ((hO5.block X6 (lt_of_block HX4.out.1) (by intro e; injection e with e; exact HNE.out.2.2.2.1 e)).trans HX4.out.1) ((hO5.block X8 (lt_of_block HX4.out.2) (by intro e; injection e with e; exact HNE.out.2.2.2.2.1 e)).trans HX4.out.2))
    simp only [lazyA, lazyT, nx5_tab, List.zipWith_cons_cons, List.zipWith_nil_left, cond_true]
    rename_i K1 hK1
    refine hK1 _ _ ?_
    clear hS5 hO5 kb0 kb1 kb2 kb3 kb4 kb5 kb6 kb7 kx0 kx1 kx2
    obtain ⟨kb0, kb1, kb2, kb3, kb4, kb5, kb6, kb7⟩ := HB5.out.cells
    obtain ⟨x0, x1, x2⟩ := chunk_cell HX5.out.1
    obtain ⟨v0, v1, v2⟩ := chunk_cell HX5.out.2
    have z0 := free_blk HX5.out.1 0
    have z1 := free_blk HX5.out.1 1
    have z2 := free_blk HX5.out.1 2
    have y5 := HB5.out.free 5
    have y7 := HB5.out.free 7
    have g6 : X6 ≠ g := HNE.out.2.2.2.2.2.1
    have g8 : X8 ≠ g := HNE.out.2.2.2.2.2.2
    cases fin with
    | false =>
      go_wp2
      (try simp only [Exit.inBlock, Exit.then])
      refine bodyPost_ret (results_ct rfl _ _ X6 52 #[.int .i64 a, .string s, .bool false] (0, 0) _ rfl (chunk_put HX5.out.1 _ _ _) Try.underlying52 rfl (by kernel_rfl)) rfl ?_
      obtain ⟨p1, p2⟩ := box_put3 HB5.out HX5.out.1 g6 HNE.out.2.2.2.1 (fun e => by have := HLT.out; have := HNE.out.1; omega) (.int .i64 a) (.string s) (.bool false)
      exact ⟨rfl, p1, HO5.out.then_ p2 (fun i hi => .inr (by subst hi; exact HNE.out.1))⟩
    | true =>
      go_wp2
      (try simp only [Exit.inBlock, Exit.then])
      have HB6 := (HB5.out.setF n1 n2 5 (.bool true) (e2 := true) rfl).setF n1 n2 7 (.bool false) (e4 := false) rfl
      have HX6 := put2_far (g := g) (i := 5) (j := 7) (.bool true) (.bool false) g6 HX5.out.1
      have HO6 := (HO5.out.trans (On.setCell g 5 (.bool true) (.inl rfl) _)).trans (On.setCell g 7 (.bool false) (.inl rfl) _)
      refine bodyPost_ret (results_ct rfl _ _ X6 52 #[.int .i64 a, .string s, .bool true] (0, 0) _ rfl (chunk_put HX6 _ _ _) Try.underlying52 rfl (by kernel_rfl)) rfl ?_
      obtain ⟨p1, p2⟩ := box_put3 HB6 HX6 g6 HNE.out.2.2.2.1 (fun e => by have := HLT.out; have := HNE.out.1; omega) (.int .i64 a) (.string s) (.bool true)
      exact ⟨rfl, p1, HO6.then_ p2 (fun i hi => .inr (by subst hi; exact HNE.out.1))⟩
end Go.Proofs.Ytiladcdogbeomaa.QRangesPlays
