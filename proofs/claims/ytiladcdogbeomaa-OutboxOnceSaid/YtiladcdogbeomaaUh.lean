/- Law 24 (outbox): contracts of functions that its statements reach, and plain laws behind them (part 8). No condition. -/
import Derived.Test.YtiladcdogbeomaaUg
namespace Go.Proofs.Ytiladcdogbeomaa.QRangesPlays
open Go.RowKit Go.Shelf Go.Proofs.YtiladcdogbeomaaW.PrintWords Go.Proofs.YtiladcdogbeomaaW.PrintLast Go.Proofs.YtiladcdogbeomaaW.PrintMore Go.Proofs.Ytiladcdogbeomaa.RowLaws Go.Proofs.Ytiladcdogbeomaa.Lazy
attribute [local go_sem] Oper.semAt_some max2_int min2_int max_two min_two
set_option maxRecDepth 100000 in
set_option maxHeartbeats 4000000 in
theorem OAck_no (g gc ga : Nat) (t : ByteArray) (S : Int) (C A : List S95) (f1 f2 f3 f4 : Bool) (off : Int) (s : ByteArray) (fin : Bool) (w : World) (h : BoxAt w g gc ga t S C A f1 f2 f3 f4) (hP : BoxP t S C A) (hbad : wasF t S f2 off s fin ≠ 0) :
    Calls Try.prog 27 #[.pointer (some ⟨g, 0, none⟩), .agg #[.int .i64 off, .string s, .bool fin]] w fun e w' => e = .returned (.int .i64 (wasF t S f2 off s fin)) ∧ Below w.heap.size w w' := by
  have HC := Aside0.mk (fun W (hb : Below w.heap.size w W) => (h.below hb))
  have HW := Aside0.mk (fun W (hb : Below w.heap.size w W) => OWas_calls g gc ga t S C A f1 f2 f3 f4 off s fin W (h.below hb) ⟨hP.s0, hP.s1, hP.s2⟩)
  have HLT := Aside0.mk (And.intro (lt_of_block h.blk) (And.intro h.sc.lt h.sa.lt))
  obtain ⟨r, hr⟩ : ∃ r, wasF t S f2 off s fin = r := ⟨_, rfl⟩
  rw [hr] at HW hbad ⊢
  have hr0 : (r != 0) = true := by simp [hbad]
  clear h hP hr hbad
  go_enter Try.func27, Try.ntmps27
  go_wp2_with (go_at_call 67; refine (HW.out _ (below_alloc (Below.refl _ _) _)).mono ?_; rintro e w2 ⟨rfl, hb⟩; have HB := Aside0.mk hb; clear hb)
  go_ret
  exact ⟨rfl, below_step (below_alloc (Below.refl _ _) _) HB.out⟩
set_option maxRecDepth 100000 in
set_option maxHeartbeats 4000000 in
theorem OLost_no (g gc ga : Nat) (t : ByteArray) (S : Int) (C A : List S95) (f1 f2 f3 f4 : Bool) (off : Int) (s : ByteArray) (fin : Bool) (w : World) (h : BoxAt w g gc ga t S C A f1 f2 f3 f4) (hP : BoxP t S C A) (hbad : wasF t S f2 off s fin ≠ 0) :
    Calls Try.prog 53 #[.pointer (some ⟨g, 0, none⟩), .agg #[.int .i64 off, .string s, .bool fin]] w fun e w' => e = .returned (.int .i64 (wasF t S f2 off s fin)) ∧ Below w.heap.size w w' := by
  have HC := Aside0.mk (fun W (hb : Below w.heap.size w W) => (h.below hb))
  have HW := Aside0.mk (fun W (hb : Below w.heap.size w W) => OWas_calls g gc ga t S C A f1 f2 f3 f4 off s fin W (h.below hb) ⟨hP.s0, hP.s1, hP.s2⟩)
  have HLT := Aside0.mk (And.intro (lt_of_block h.blk) (And.intro h.sc.lt h.sa.lt))
  obtain ⟨r, hr⟩ : ∃ r, wasF t S f2 off s fin = r := ⟨_, rfl⟩
  rw [hr] at HW hbad ⊢
  have hr0 : (r != 0) = true := by simp [hbad]
  clear h hP hr hbad
  go_enter Try.func53, Try.ntmps53
  go_wp2_with (go_at_call 67; refine (HW.out _ (below_alloc (Below.refl _ _) _)).mono ?_; rintro e w2 ⟨rfl, hb⟩; have HB := Aside0.mk hb; clear hb)
  go_ret
  exact ⟨rfl, below_step (below_alloc (Below.refl _ _) _) HB.out⟩
/-- What a chunk that was sent is. -/
theorem wasF_ok {t : ByteArray} {S : Int} {f2 : Bool} {off : Int} {s : ByteArray} {fin : Bool} (h : wasF t S f2 off s fin = 0) : 0 ≤ off ∧ off ≤ S ∧ off + (s.size : Int) ≤ S ∧ t.extract off.toNat (off + (s.size : Int)).toNat = s ∧ (fin = true → f2 = true ∧ off + (s.size : Int) = t.size) := by
  unfold wasF at h
  by_cases h1 : off < 0
  · rw [if_pos h1] at h; cases h
  rw [if_neg h1] at h
  by_cases h2 : S < off
  · rw [if_pos h2] at h; cases h
  rw [if_neg h2] at h
  by_cases h3 : S - off < (s.size : Int)
  · rw [if_pos h3] at h; cases h
  rw [if_neg h3] at h
  by_cases h4 : ((t.extract off.toNat (off + (s.size : Int)).toNat).toList == s.toList) = false
  · rw [if_pos h4] at h; cases h
  rw [if_neg h4] at h
  have h5 : (t.extract off.toNat (off + (s.size : Int)).toNat).toList = s.toList := by
    have : ((t.extract off.toNat (off + (s.size : Int)).toNat).toList == s.toList) = true := by simpa using h4
    exact beq_iff_eq.1 this
  refine ⟨by omega, by omega, by omega, ?_, fun hf => ?_⟩
  · rw [ByteArray.toList_eq, ByteArray.toList_eq] at h5
    apply ByteArray.ext
    exact Array.toList_inj.1 h5
  · subst hf
    rw [if_neg (by decide)] at h
    cases f2 with
    | false => rw [if_pos rfl] at h; cases h
    | true =>
      rw [if_neg (by decide)] at h
      by_cases h6 : (off + (s.size : Int) != (t.size : Int)) = true
      · rw [if_pos h6] at h; cases h
      · exact ⟨rfl, by simpa using h6⟩
set_option maxRecDepth 100000 in
set_option maxHeartbeats 4000000 in
theorem OAck_ok (g gc ga : Nat) (t : ByteArray) (S : Int) (C A : List S95) (f1 f2 f3 f4 : Bool) (off : Int) (s : ByteArray) (fin : Bool) (w : World) (h : BoxAt w g gc ga t S C A f1 f2 f3 f4) (hP : BoxP t S C A) (n1 : gc ≠ g) (n2 : ga ≠ g) (n3 : gc ≠ ga) (hok : wasF t S f2 off s fin = 0) :
    Calls Try.prog 27 #[.pointer (some ⟨g, 0, none⟩), .agg #[.int .i64 off, .string s, .bool fin]] w fun e w' => e = .returned (.int .i64 0) ∧ BoxAt w' g gc ga t S (spanAdd off s C) (spanRem off s A) f1 f2 (fin || f3) (!fin && f4) ∧ On (O3 g gc ga) w w' := by
  have HC := Aside0.mk (fun W (hb : Below w.heap.size w W) => (h.below hb))
  have HW := Aside0.mk (fun W (hb : Below w.heap.size w W) => OWas_calls g gc ga t S C A f1 f2 f3 f4 off s fin W (h.below hb) ⟨hP.s0, hP.s1, hP.s2⟩)
  have HLT := Aside0.mk (And.intro (lt_of_block h.blk) (And.intro h.sc.lt h.sa.lt))
  obtain ⟨q0, q1, q2, q3, q4⟩ := wasF_ok hok
  have hs1 := hP.s1
  have hs2 := hP.s2
  have hso : 0 ≤ off ∧ off ≤ 4611686018427387903 := by omega
  have hss : s.size ≤ 4611686018427387903 := by omega
  have HSS := Aside0.mk (And.intro hso hss)
  have HWF := Aside0.mk (And.intro hP.wc hP.wa)
  rw [hok] at HW
  clear h hP hok q0 q1 q2 q3 q4 hs1 hs2
  go_enter Try.func27, Try.ntmps27
  go_wp2_with (go_at_call 67; refine (HW.out _ (below_alloc (Below.refl _ _) _)).mono ?_; rintro e w2 ⟨rfl, hb⟩; have HB := Aside0.mk hb; clear hb; refine park ?_)
  obtain ⟨X, hX⟩ : ∃ X, w.heap.size = X := ⟨_, rfl⟩
  have hnX := (HB.out.block w.heap.size (by simp)).trans (heap_alloc_new w (.cells #[.int .i64 off, .string s, .bool fin] 52))
  have HB2 := Aside0.mk (below_step (below_alloc (Below.refl w.heap.size w) (.cells #[.int .i64 off, .string s, .bool fin] 52)) HB.out)
  have HNX := Aside0.mk hX
  have HBX2 := Aside0.mk (HC.out w2 HB2.out)
  rw [hX] at hnX ⊢
  have HX2 := Aside0.mk hnX
  have HNE := Aside0.mk (show w.heap.size ≤ X ∧ X ≠ g ∧ X ≠ gc ∧ X ≠ ga from by have h := HLT.out; have h6 := HNX.out; refine ⟨by omega, by omega, by omega, by omega⟩)
  refine ⟨?_⟩
  obtain ⟨kb0, kb1, kb2, kb3, kb4, kb5, kb6, kb7⟩ := HBX2.out.cells
  obtain ⟨kx0, kx1, kx2⟩ := chunk_cell hnX
  go_wp2
  refine Ack_r4 g gc X off s fin C _ _ _ _ (by rfl) (by rfl) (by rfl) kb2 kx0 kx1 kx2 hso hss HBX2.out.sc HWF.out.1 ?_
  rintro σ W3 ⟨hS3, hO3⟩
  have HB3 := Aside0.mk (HBX2.out.setC n1 n3 hS3 hO3)
  have HX3 := Aside0.mk ((hO3.block X (lt_of_block HX2.out) (by intro e; injection e with e; exact HNE.out.2.2.1 e)).trans HX2.out)
  have HO3 := Aside0.mk ((On.of_below HB2.out (O3 g gc ga)).trans (On.of_only hO3 (.inr (.inl rfl))))
  simp only [lazyA, lazyT, ak4_tab, List.zipWith_cons_cons, List.zipWith_nil_left, cond_true]
  rename_i K0 hK0
  refine hK0 _ _ ?_
  clear hS3 hO3 kb0 kb1 kb2 kb3 kb4 kb5 kb6 kb7 kx0 kx1 kx2 hnX hX
  go_wp2
  obtain ⟨kb0, kb1, kb2, kb3, kb4, kb5, kb6, kb7⟩ := HB3.out.cells
  obtain ⟨kx0, kx1, kx2⟩ := chunk_cell HX3.out
  refine Ack_r5 g ga X off s fin A _ _ _ _ (by rfl) (by rfl) (by rfl) kb3 kx0 kx1 kx2 hso hss HB3.out.sa HWF.out.2 ?_
  rintro σ2 W4 ⟨hS4, hO4⟩
  have HB4 := Aside0.mk (HB3.out.setA n2 n3 hS4 hO4)
  have HX4 := Aside0.mk ((hO4.block X (lt_of_block HX3.out) (by intro e; injection e with e; exact HNE.out.2.2.2 e)).trans HX3.out)
  have HO4 := Aside0.mk (HO3.out.trans (On.of_only hO4 (.inr (.inr rfl))))
  simp only [lazyA, lazyT, ak5_tab, List.zipWith_cons_cons, List.zipWith_nil_left, cond_true]
  rename_i K1 hK1
  refine hK1 _ _ ?_
  clear hS4 hO4 kb0 kb1 kb2 kb3 kb4 kb5 kb6 kb7 kx0 kx1 kx2
  obtain ⟨kb0, kb1, kb2, kb3, kb4, kb5, kb6, kb7⟩ := HB4.out.cells
  obtain ⟨kx0, kx1, kx2⟩ := chunk_cell HX4.out
  have y6 := HB4.out.free 6
  have y7 := HB4.out.free 7
  cases fin with
  | false =>
    go_wp2
    go_ret
    exact ⟨rfl, HB4.out, HO4.out⟩
  | true =>
    go_wp2
    go_ret
    exact ⟨rfl, (HB4.out.setF n1 n2 6 (.bool true) (e3 := true) rfl).setF n1 n2 7 (.bool false) (e4 := false) rfl, (HO4.out.trans (On.setCell g 6 (.bool true) (.inl rfl) _)).trans (On.setCell g 7 (.bool false) (.inl rfl) _)⟩
theorem wf_addL {f u : Int} {l : List S95} (h : wf 0 l) : wf 0 (addL f u l) := by
  unfold addL
  split
  · rename_i hm; unfold may at hm; simp only [Bool.and_eq_true, decide_eq_true_eq] at hm; exact wf_ins hm.1.1 hm.1.2 hm.2 h
  · exact h
theorem gapsL_wf {f u : Int} {l : List S95} (h : wf 0 l) : wf 0 (gapsL f u l) := by
  unfold gapsL
  split
  · rename_i hm; unfold may at hm; simp only [Bool.and_eq_true, decide_eq_true_eq] at hm; exact wf_mono hm.1.1 (gps_all hm.1.1 hm.1.2 hm.2 h).1
  · trivial
def lostA (L A : List S95) : List S95 := L.foldl (fun a x => addL x.f0 x.f1 a) A
theorem lostA_snoc {L A : List S95} {j : Nat} (h : j < L.length) : lostA (L.take (j + 1)) A = addL L[j].f0 L[j].f1 (lostA (L.take j) A) := by
  unfold lostA
  rw [List.take_succ_eq_append_getElem h, List.foldl_append]; rfl
theorem wf_lostA {A : List S95} (h : wf 0 A) : ∀ L, wf 0 (lostA L A) := by
  intro L
  unfold lostA
  induction L generalizing A with
  | nil => exact h
  | cons x r ih => exact ih (wf_addL h)
/-- The worlds of Lost's loop. -/
structure LsW (g gc ga X B : Nat) (t : ByteArray) (S : Int) (C A L : List S95) (f1 f2 f3 f4 : Bool) (off : Int) (s : ByteArray) (fin : Bool) (v : Value) (w : World) (W : World) : Prop where
  bx : BoxAt W g gc ga t S C A f1 f2 f3 f4
  ch : W.heap[X]? = some (.cells #[.int .i64 off, .string s, .bool fin] 52 (0, 0))
  row : OwnS W B v L
  on : On (O3 g gc ga) w W
section
variable {g gc ga X B : Nat} {t : ByteArray} {S : Int} {C A A' L : List S95} {f1 f2 f3 f4 : Bool} {off : Int} {s : ByteArray} {fin : Bool} {v : Value} {w W W' : World}
theorem LsW.below (h : LsW g gc ga X B t S C A L f1 f2 f3 f4 off s fin v w W) (hb : Below W.heap.size W W') : LsW g gc ga X B t S C A L f1 f2 f3 f4 off s fin v w W' :=
  ⟨h.bx.below hb, (hb.block _ (lt_of_block h.ch)).trans h.ch, h.row.below hb, h.on.step hb⟩
theorem LsW.add (h : LsW g gc ga X B t S C A L f1 f2 f3 f4 off s fin v w W) (n2 : ga ≠ g) (n3 : gc ≠ ga) (hX : X ≠ ga) (hB : ga < B) (hs : SetAt W' ga A') (ho : Only ga W W') : LsW g gc ga X B t S C A' L f1 f2 f3 f4 off s fin v w W' :=
  ⟨h.bx.setA n2 n3 hs ho, (ho.block X (lt_of_block h.ch) (by intro e; injection e with e; exact hX e)).trans h.ch, h.row.only ho hB, h.on.trans (On.of_only ho (.inr (.inr rfl)))⟩
end
set_option maxRecDepth 100000 in
set_option maxHeartbeats 4000000 in
theorem OLost_ok (g gc ga : Nat) (t : ByteArray) (S : Int) (C A : List S95) (f1 f2 f3 f4 : Bool) (off : Int) (s : ByteArray) (fin : Bool) (w : World) (h : BoxAt w g gc ga t S C A f1 f2 f3 f4) (hP : BoxP t S C A) (n1 : gc ≠ g) (n2 : ga ≠ g) (n3 : gc ≠ ga) (hok : wasF t S f2 off s fin = 0) :
    Calls Try.prog 53 #[.pointer (some ⟨g, 0, none⟩), .agg #[.int .i64 off, .string s, .bool fin]] w fun e w' => e = .returned (.int .i64 0) ∧ BoxAt w' g gc ga t S C (lostA (gapsL off (off + (s.size : Int) - 1) C) A) f1 f2 f3 ((fin && !f3) || f4) ∧ On (O3 g gc ga) w w' := by
  have HC := Aside0.mk (fun W (hb : Below w.heap.size w W) => (h.below hb))
  have HW := Aside0.mk (fun W (hb : Below w.heap.size w W) => OWas_calls g gc ga t S C A f1 f2 f3 f4 off s fin W (h.below hb) ⟨hP.s0, hP.s1, hP.s2⟩)
  have HLT := Aside0.mk (And.intro (lt_of_block h.blk) (And.intro h.sc.lt h.sa.lt))
  obtain ⟨q0, q1, q2, q3, q4⟩ := wasF_ok hok
  have hs1 := hP.s1
  have hs2 := hP.s2
  have hso : 0 ≤ off ∧ off ≤ 4611686018427387903 := by omega
  have hss : s.size ≤ 4611686018427387903 := by omega
  have HSS := Aside0.mk (And.intro hso hss)
  have HWF := Aside0.mk (And.intro hP.wc hP.wa)
  rw [hok] at HW
  have HWG := Aside0.mk (gapsL_wf (f := off) (u := off + (s.size : Int) - 1) hP.wc)
  clear h hP hok q0 q1 q2 q3 q4 hs1 hs2
  obtain ⟨n, hn⟩ : ∃ n, (gapsL off (off + (s.size : Int) - 1) C).length = n := ⟨_, rfl⟩
  have HN := Aside0.mk hn
  have hn9 : n ≤ 549755813890 := by have := wf_len HWG.out (by omega); omega
  clear hn
  go_enter Try.func53, Try.ntmps53
  go_wp2_with (go_at_call 67; refine (HW.out _ (below_alloc (Below.refl _ _) _)).mono ?_; rintro e w2 ⟨rfl, hb⟩; have HB := Aside0.mk hb; clear hb; refine park ?_)
  obtain ⟨X, hX⟩ : ∃ X, w.heap.size = X := ⟨_, rfl⟩
  have hnX := (HB.out.block w.heap.size (by simp)).trans (heap_alloc_new w (.cells #[.int .i64 off, .string s, .bool fin] 52))
  have HB2 := Aside0.mk (below_step (below_alloc (Below.refl w.heap.size w) (.cells #[.int .i64 off, .string s, .bool fin] 52)) HB.out)
  have HNX := Aside0.mk hX
  have HBX2 := Aside0.mk (HC.out w2 HB2.out)
  rw [hX] at hnX ⊢
  have HX2 := Aside0.mk hnX
  have HNE := Aside0.mk (show w.heap.size ≤ X ∧ X ≠ g ∧ X ≠ gc ∧ X ≠ ga from by have h := HLT.out; have h6 := HNX.out; refine ⟨by omega, by omega, by omega, by omega⟩)
  refine ⟨?_⟩
  obtain ⟨kb0, kb1, kb2, kb3, kb4, kb5, kb6, kb7⟩ := HBX2.out.cells
  obtain ⟨kx0, kx1, kx2⟩ := chunk_cell hnX
  go_wp2
  refine Lost_r4 g gc w2.heap.size n X off s fin C _ _ _ _ (by rfl) (by rfl) (by rfl) kb2 kx0 kx1 kx2 hso hss HBX2.out.sc HWF.out.1 HN.out (Nat.le_refl _) ?_
  rintro σ W3 ⟨hB3, ⟨A0, c0, hσ, hrow⟩, h10, h11⟩
  have HS3 := Aside0.mk (show LsW g gc ga X w2.heap.size t S C A (gapsL off (off + (s.size : Int) - 1) C) f1 f2 f3 f4 off s fin (.slice A0 n c0) w W3 from ⟨HBX2.out.below hB3, (hB3.block X (lt_of_block HX2.out)).trans HX2.out, by rw [hσ] at hrow; exact hrow, (On.of_below HB2.out _).step hB3⟩)
  have HGB := Aside0.mk (show ga < w2.heap.size from HBX2.out.sa.lt)
  simp only [lazyA, lazyT, ls4_tab, List.zipWith_cons_cons, List.zipWith_nil_left, cond_true]
  rename_i K0 hK0
  refine hK0 _ _ ?_
  rw [hσ, h10, h11]
  clear hσ h10 h11 hB3 hrow kb0 kb1 kb2 kb3 kb4 kb5 kb6 kb7 kx0 kx1 kx2 hnX hX
  go_wp2
  go_loopw [25] (fun i wr => ∃ j : Nat, j ≤ n ∧ i = .int .i64 j ∧ Aside0 (LsW g gc ga X w2.heap.size t S C (lostA ((gapsL off (off + (s.size : Int) - 1) C).take j) A) (gapsL off (off + (s.size : Int) - 1) C) f1 f2 f3 f4 off s fin (.slice A0 n c0) w wr)) (fun i _ => n - (intOf i).toNat)
  case atStart => exact ⟨0, Nat.zero_le _, rfl, HS3⟩
  case round =>
    obtain ⟨j, hj, rfl, HL⟩ := hrel
    by_cases hlt : j < n
    · have hlt2 : (j : Int) < (n : Int) := by omega
      have hjl : j < (gapsL off (off + (s.size : Int) - 1) C).length := by have := HN.out; omega
      obtain ⟨_, hC⟩ := OwnS.reads' HL.out.row
      obtain ⟨bb, oo, rfl, y0, y1⟩ := row_at hC j hjl
      have HTS := Aside0.mk (lostA_snoc (A := A) hjl)
      obtain ⟨f, hf⟩ : ∃ f, (gapsL off (off + (s.size : Int) - 1) C)[j].f0 = f := ⟨_, rfl⟩
      obtain ⟨u, hu⟩ : ∃ u, (gapsL off (off + (s.size : Int) - 1) C)[j].f1 = u := ⟨_, rfl⟩
      rw [hf] at y0
      rw [hu] at y1
      rw [hf, hu] at HTS
      have e4 : IntKind.i64.wrap ((j : Int) + 1) = (j : Int) + 1 := IntWalk.i64_in _ (by omega)
      clear hC hf hu
      go_wp2
      obtain ⟨Y, hY⟩ : ∃ Y, wr.heap.size = Y := ⟨_, rfl⟩
      have hbY := below_alloc (Below.refl wr.heap.size wr) (.cells #[.int .i64 f, .int .i64 u] 95)
      have hnew := heap_alloc_new wr (.cells #[.int .i64 f, .int .i64 u] 95)
      rw [hY] at hnew ⊢
      have HL2 := Aside0.mk (HL.out.below hbY)
      obtain ⟨ky0, ky1, -, -⟩ := two_cell hnew
      obtain ⟨kb0, kb1, kb2, kb3, -⟩ := HL2.out.bx.cells
      refine Lost_r7 g ga Y f u (lostA ((gapsL off (off + (s.size : Int) - 1) C).take j) A) _ _ _ _ (by rfl) (by rfl) (by rfl) kb3 ky0 ky1 HL2.out.bx.sa (wf_lostA HWF.out.2 _) ?_
      rintro σ2 W5 ⟨hS5, hO5⟩
      have HL5 := Aside0.mk (HL2.out.add n2 n3 HNE.out.2.2.2 HGB.out hS5 hO5)
      simp only [lazyA, lazyT, ls7_tab, List.zipWith_cons_cons, List.zipWith_nil_left, cond_true]
      clear hS5 hO5 kb0 kb1 kb2 kb3 ky0 ky1 hbY hnew hY y0 y1
      go_wp2
      go_roundw
      case rel => exact ⟨j + 1, by omega, by simp, ⟨by rw [HTS.out]; exact HL5.out⟩⟩
      case measure => simp [intOf]; omega
    · have hjn : j = n := by omega
      subst hjn
      have HL2 := Aside0.mk (show LsW g gc ga X w2.heap.size t S C (lostA (gapsL off (off + (s.size : Int) - 1) C) A) (gapsL off (off + (s.size : Int) - 1) C) f1 f2 f3 f4 off s fin (.slice A0 j c0) w wr by have := HL.out; rwa [List.take_of_length_le (Nat.le_of_eq HN.out)] at this)
      clear HL
      obtain ⟨kb0, kb1, kb2, kb3, kb4, kb5, kb6, kb7⟩ := HL2.out.bx.cells
      obtain ⟨kx0, kx1, kx2⟩ := chunk_cell HL2.out.ch
      have y7 := HL2.out.bx.free 7
      cases fin with
      | false =>
        go_wp2
        go_ret
        exact ⟨rfl, HL2.out.bx, HL2.out.on⟩
      | true =>
        cases f3 with
        | true =>
          go_wp2
          go_ret
          exact ⟨rfl, HL2.out.bx, HL2.out.on⟩
        | false =>
          go_wp2
          go_ret
          exact ⟨rfl, HL2.out.bx.setF n1 n2 7 (.bool true) (e4 := true) rfl, HL2.out.on.trans (On.setCell g 7 (.bool true) (.inl rfl) _)⟩
end Go.Proofs.Ytiladcdogbeomaa.QRangesPlays

namespace Go.Proofs.Ytiladcdogbeomaa.QRangesPlays
open Go.RowKit Go.Shelf Go.Proofs.YtiladcdogbeomaaW.PrintWords
theorem has_addL {f u : Int} {l : List S95} (h : wf 0 l) (h0 : 0 ≤ f) (h1 : f ≤ u) (h2 : u ≤ 1099511627776) (n : Int) : has (addL f u l) n ↔ (f ≤ n ∧ n ≤ u) ∨ has l n := by
  have hm : may f u = true := by unfold may; simp [h0, h1, h2]
  unfold addL
  rw [if_pos hm]
  exact has_ins n h h1
theorem has_remL {f u : Int} {l : List S95} (h : wf 0 l) (h0 : 0 ≤ f) (h1 : f ≤ u) (h2 : u ≤ 1099511627776) (n : Int) : has (remL f u l) n ↔ has l n ∧ ¬ (f ≤ n ∧ n ≤ u) := by
  have hm : may f u = true := by unfold may; simp [h0, h1, h2]
  unfold remL
  rw [if_pos hm]
  exact has_rem h1 n h
theorem wf_remL {f u : Int} {l : List S95} (h : wf 0 l) : wf 0 (remL f u l) := by
  unfold remL
  split
  · rename_i hm; unfold may at hm; simp only [Bool.and_eq_true, decide_eq_true_eq] at hm; exact wf_rem hm.1.2 h
  · exact h
theorem wf_spanAdd {off : Int} {s : ByteArray} {l : List S95} (h : wf 0 l) : wf 0 (spanAdd off s l) := by
  unfold spanAdd; split
  · exact h
  · exact wf_addL h
theorem wf_spanRem {off : Int} {s : ByteArray} {l : List S95} (h : wf 0 l) : wf 0 (spanRem off s l) := by
  unfold spanRem; split
  · exact h
  · exact wf_remL h
theorem has_spanAdd {off : Int} {s : ByteArray} {l : List S95} (h : wf 0 l) (h0 : 0 ≤ off) (h2 : off + (s.size : Int) ≤ 262144) (n : Int) : has (spanAdd off s l) n ↔ (off ≤ n ∧ n < off + (s.size : Int)) ∨ has l n := by
  unfold spanAdd
  by_cases hz : s.size = 0
  · rw [if_pos hz, hz]
    constructor
    · exact .inr
    · rintro (h | h); exact absurd h (by omega); exact h
  · rw [if_neg hz, has_addL h h0 (by omega) (by omega)]
    constructor <;> (rintro (h | h); exact .inl ⟨h.1, by omega⟩; exact .inr h)
theorem has_spanRem {off : Int} {s : ByteArray} {l : List S95} (h : wf 0 l) (h0 : 0 ≤ off) (h2 : off + (s.size : Int) ≤ 262144) (n : Int) : has (spanRem off s l) n ↔ has l n ∧ ¬ (off ≤ n ∧ n < off + (s.size : Int)) := by
  unfold spanRem
  by_cases hz : s.size = 0
  · rw [if_pos hz, hz]
    constructor
    · exact fun h => ⟨h, by omega⟩
    · exact fun h => h.1
  · rw [if_neg hz, has_remL h h0 (by omega) (by omega)]
    constructor <;> (rintro ⟨h1, h2⟩; exact ⟨h1, by omega⟩)
theorem has_lostA : ∀ (L A : List S95), wf 0 A → (∀ x ∈ L, 0 ≤ x.f0 ∧ x.f0 ≤ x.f1 ∧ x.f1 ≤ 1099511627776) → ∀ n, has (lostA L A) n ↔ has L n ∨ has A n
  | [], A, _, _, n => by simp [lostA, has]
  | x :: r, A, hA, hL, n => by
    have hx := hL x (by simp)
    have ih := has_lostA r (addL x.f0 x.f1 A) (wf_addL hA) (fun y hy => hL y (by simp [hy])) n
    show has (lostA r (addL x.f0 x.f1 A)) n ↔ _
    rw [ih, has_addL hA hx.1 hx.2.1 hx.2.2, has_cons]
    constructor
    · rintro (h | h | h); exact .inl (.inr h); exact .inl (.inl h); exact .inr h
    · rintro ((h | h) | h); exact .inr (.inl h); exact .inl h; exact .inr (.inr h)
theorem has_gapsL {f u : Int} {l : List S95} (h : wf 0 l) (h0 : 0 ≤ f) (h2 : u ≤ 1099511627776) (n : Int) : has (gapsL f u l) n ↔ (f ≤ n ∧ n ≤ u) ∧ ¬ has l n := by
  unfold gapsL
  by_cases hm : f ≤ u
  · have hm2 : may f u = true := by unfold may; simp [h0, hm, h2]
    rw [if_pos hm2]
    exact (gps_all h0 hm h2 h).2 n
  · have hm2 : ¬ may f u = true := by unfold may; simp; omega
    rw [if_neg hm2]
    constructor
    · intro h; simp [has] at h
    · rintro ⟨h, _⟩; omega
section
variable {t : ByteArray} {S : Int} {C A : List S95}
theorem boxP_new : BoxP ⟨#[]⟩ 0 [] [] := ⟨trivial, trivial, Int.le_refl _, Int.le_refl _, by decide, fun n h => by simp [has] at h, fun n h => by simp [has] at h⟩
theorem BoxP.write (h : BoxP t S C A) {s : ByteArray} (hs : (s.size : Int) ≤ 262144 - t.size) : BoxP (t ++ s) S C A :=
  ⟨h.wc, h.wa, h.s0, by rw [ByteArray.size_append]; have := h.s1; omega, by rw [ByteArray.size_append]; omega, h.hc, h.ha⟩
/-- What goes next: its places, and the box behind it. -/
theorem BoxP.next (h : BoxP t S C A) {f1 f2 f4 : Bool} {room limit a b : Int} {fin : Bool} (hr : lkF t.size S A f1 f2 f4 room limit = some (a, b, fin)) :
    (0 ≤ a ∧ a ≤ b ∧ b ≤ t.size) ∧ (∀ n, a ≤ n → n < b → ¬ has C n) ∧ b - a ≤ max 0 room ∧ (a < b → b ≤ max S limit) ∧ BoxP t (nxS S (some (a, b, fin))) C (nxA t A (some (a, b, fin))) ∧ (fin = true → f1 = true ∧ b = t.size) := by
  have hbd := lkF_bd h hr
  have hsz := ext_size2 t hbd.1 hbd.2.1 hbd.2.2
  have h2 := h.s2
  have key : (∀ n, a ≤ n → n < b → ¬ has C n) ∧ b - a ≤ max 0 room ∧ (a < b → b ≤ max S limit) ∧ (fin = true → f1 = true ∧ b = t.size) := by
    unfold lkF at hr
    split at hr
    · rename_i hlt
      simp only [Option.some.injEq, Prod.mk.injEq] at hr
      obtain ⟨ha, hb, hf⟩ := hr
      have hfin : fin = true → f1 = true ∧ b = t.size := by
        intro e; rw [e, hb, Bool.and_eq_true, beq_iff_eq] at hf; exact hf
      have hto : b ≤ lkFrom S A + (if (t.size : Int) < (if room < 0 then 0 else room) then (t.size : Int) else (if room < 0 then 0 else room)) ∧ b ≤ lkTo0 t.size S A limit := by
        rw [← hb]; unfold lkTo; split <;> omega
      have hroom : b - a ≤ max 0 room := by
        have := hto.1
        rw [ha] at this
        split at this <;> split at this <;> omega
      cases A with
      | nil =>
        simp only [lkFrom] at ha
        refine ⟨fun n h1 h2 h3 => by have := h.hc n h3; omega, hroom, fun _ => ?_, hfin⟩
        have := hto.2
        simp only [lkTo0] at this
        split at this <;> split at this <;> omega
      | cons x r =>
        simp only [lkFrom] at ha
        have h7 := hto.2
        simp only [lkTo0] at h7
        have hin : ∀ n, a ≤ n → n < b → has (x :: r) n := fun n h1 h2 => ⟨x, by simp, by omega, by omega⟩
        refine ⟨fun n h1 h2 => (h.ha n (hin n h1 h2)).2, hroom, fun hab => ?_, hfin⟩
        have := (h.ha (b - 1) (hin _ (by omega) (by omega))).1
        omega
    · split at hr
      · rename_i hc
        simp only [Option.some.injEq, Prod.mk.injEq] at hr
        obtain ⟨ha, hb, hf⟩ := hr
        have hab : a = b := by omega
        exact ⟨fun n h1 h2 => by omega, by omega, fun h => by omega, fun _ => ⟨hc.2.1, by rw [← hb]; exact hc.2.2.1⟩⟩
      · cases hr
  refine ⟨hbd, key.1, key.2.1, key.2.2.1, ⟨h.wc, wf_spanRem h.wa, ?_, ?_, h.s2, fun n hn => ?_, fun n hn => ?_⟩, key.2.2.2⟩
  · simp only [nxS]; have := h.s0; split <;> omega
  · simp only [nxS]; have := h.s1; split <;> omega
  · simp only [nxS]; have := h.hc n hn; split <;> omega
  · simp only [nxA] at hn
    have := (has_spanRem h.wa hbd.1 (by omega) n).1 hn
    have h3 := h.ha n this.1
    refine ⟨?_, h3.2⟩
    simp only [nxS]; split <;> omega
theorem BoxP.ack (h : BoxP t S C A) {f2 : Bool} {off : Int} {s : ByteArray} {fin : Bool} (hok : wasF t S f2 off s fin = 0) : BoxP t S (spanAdd off s C) (spanRem off s A) := by
  obtain ⟨q0, q1, q2, q3, q4⟩ := wasF_ok hok
  have hs1 := h.s1
  have hs2 := h.s2
  refine ⟨wf_spanAdd h.wc, wf_spanRem h.wa, h.s0, h.s1, h.s2, fun n hn => ?_, fun n hn => ?_⟩
  · rcases (has_spanAdd h.wc q0 (by omega) n).1 hn with hn | hn
    · omega
    · exact h.hc n hn
  · have h1 := (has_spanRem h.wa q0 (by omega) n).1 hn
    refine ⟨(h.ha n h1.1).1, fun hc => ?_⟩
    rcases (has_spanAdd h.wc q0 (by omega) n).1 hc with hc | hc
    · exact h1.2 hc
    · exact (h.ha n h1.1).2 hc
theorem lost_has (h : BoxP t S C A) {f2 : Bool} {off : Int} {s : ByteArray} {fin : Bool} (hok : wasF t S f2 off s fin = 0) (n : Int) : has (lostA (gapsL off (off + (s.size : Int) - 1) C) A) n ↔ ((off ≤ n ∧ n < off + (s.size : Int)) ∧ ¬ has C n) ∨ has A n := by
  obtain ⟨q0, q1, q2, q3, q4⟩ := wasF_ok hok
  have hs1 := h.s1
  have hs2 := h.s2
  rw [has_lostA _ _ h.wa (fun x hx => by have := wf_mem (gapsL_wf h.wc) x hx; omega), has_gapsL h.wc q0 (by omega)]
  constructor <;> (rintro (⟨h1, h2⟩ | h1); exact .inl ⟨by omega, h2⟩; exact .inr h1)
theorem BoxP.lost (h : BoxP t S C A) {f2 : Bool} {off : Int} {s : ByteArray} {fin : Bool} (hok : wasF t S f2 off s fin = 0) : BoxP t S C (lostA (gapsL off (off + (s.size : Int) - 1) C) A) := by
  obtain ⟨q0, q1, q2, q3, q4⟩ := wasF_ok hok
  refine ⟨h.wc, wf_lostA h.wa _, h.s0, h.s1, h.s2, h.hc, fun n hn => ?_⟩
  rcases (lost_has h hok n).1 hn with hn | hn
  · exact ⟨by omega, hn.2⟩
  · exact h.ha n hn
end
end Go.Proofs.Ytiladcdogbeomaa.QRangesPlays

namespace Go.Proofs.Ytiladcdogbeomaa.QRangesPlays
open Go.RowKit Go.Shelf Go.Proofs.YtiladcdogbeomaaW.PrintWords Go.Proofs.YtiladcdogbeomaaW.PrintLast Go.Proofs.YtiladcdogbeomaaW.PrintMore Go.Proofs.Ytiladcdogbeomaa.RowLaws Go.Proofs.Ytiladcdogbeomaa.Lazy
attribute [local go_sem] Oper.semAt_some
structure OSP (g gc ga : Nat) (w : World) (t : ByteArray) (S : Int) (C A : List S95) (f1 f2 f3 f4 : Bool) (W : World) : Prop where
  bx : BoxAt W g gc ga t S C A f1 f2 f3 f4
  bp : BoxP t S C A
  hb : Below w.heap.size w W
  l1 : w.heap.size ≤ g
  l2 : w.heap.size ≤ gc
  l3 : w.heap.size ≤ ga
  n1 : gc ≠ g
  n2 : ga ≠ g
  n3 : gc ≠ ga
section
variable {g gc ga : Nat} {w : World} {t : ByteArray} {S : Int} {C A : List S95} {f1 f2 f3 f4 : Bool} {W W' : World}
theorem OSP.below (h : OSP g gc ga w t S C A f1 f2 f3 f4 W) (hb : Below W.heap.size W W') : OSP g gc ga w t S C A f1 f2 f3 f4 W' := ⟨h.bx.below hb, h.bp, below_step h.hb hb, h.l1, h.l2, h.l3, h.n1, h.n2, h.n3⟩
theorem OSP.low (h : OSP g gc ga w t S C A f1 f2 f3 f4 W) : ∀ i, O3 g gc ga i → w.heap.size ≤ i := by
  have := h.l1
  have := h.l2
  have := h.l3
  rintro i (rfl | rfl | rfl) <;> assumption
theorem OSP.on {t' : ByteArray} {S' : Int} {C' A' : List S95} {e1 e2 e3 e4 : Bool} (h : OSP g gc ga w t S C A f1 f2 f3 f4 W) (hx : BoxAt W' g gc ga t' S' C' A' e1 e2 e3 e4) (hp : BoxP t' S' C' A') (ho : On (O3 g gc ga) W W') : OSP g gc ga w t' S' C' A' e1 e2 e3 e4 W' :=
  ⟨hx, hp, h.hb.trans (ho.low h.low h.hb.size), h.l1, h.l2, h.l3, h.n1, h.n2, h.n3⟩
/-- Only other blocks of the call's own turn, and none that a set's row may be. -/
theorem OSP.apart {T : Nat → Prop} (h : OSP g gc ga w t S C A f1 f2 f3 f4 W) (ho : On T W W') (hT : NoTwo W T) (hl : ∀ i, T i → w.heap.size ≤ i) (h1 : ¬ T g) (h2 : ¬ T gc) (h3 : ¬ T ga) : OSP g gc ga w t S C A f1 f2 f3 f4 W' :=
  ⟨h.bx.apart ho.kept hT h1 h2 h3, h.bp, h.hb.trans (ho.low hl h.hb.size), h.l1, h.l2, h.l3, h.n1, h.n2, h.n3⟩
theorem OSP.new (hb : Below w.heap.size w W) : Calls Try.prog 20 #[] W fun e w' => ∃ g gc ga, e = .returned (.pointer (some ⟨g, 0, none⟩)) ∧ OSP g gc ga w ⟨#[]⟩ 0 [] [] false false false false w' ∧ Below W.heap.size W w' ∧ W.heap.size ≤ g ∧ W.heap.size ≤ gc ∧ W.heap.size ≤ ga := by
  refine (ONew_calls W).mono ?_
  rintro e w' ⟨g, gc, ga, rfl, h1, h2, h3, h4, h5, h6, h7, h8⟩
  have hs := hb.size
  exact ⟨g, gc, ga, rfl, ⟨h1, boxP_new, below_step hb h2, by omega, by omega, by omega, h6, h7, h8⟩, h2, h3, h4, h5⟩
theorem OSP.size (h : OSP g gc ga w t S C A f1 f2 f3 f4 W) : Calls Try.prog 30 #[.pointer (some ⟨g, 0, none⟩)] W fun e w' => e = .returned (.int .i64 (t.size : Int)) ∧ Below W.heap.size W w' := OSize_calls g gc ga t S C A f1 f2 f3 f4 W h.bx
theorem OSP.sent (h : OSP g gc ga w t S C A f1 f2 f3 f4 W) : Calls Try.prog 23 #[.pointer (some ⟨g, 0, none⟩)] W fun e w' => e = .returned (.int .i64 S) ∧ Below W.heap.size W w' := OSent_calls g gc ga t S C A f1 f2 f3 f4 W h.bx
theorem OSP.write (h : OSP g gc ga w t S C A f1 f2 f3 f4 W) (s : ByteArray) : Calls Try.prog 21 #[.pointer (some ⟨g, 0, none⟩), .string s] W fun e w' => e = .returned (.int .i64 (writeF t f1 s)) ∧ OSP g gc ga w (if writeF t f1 s = 0 then t ++ s else t) S C A f1 f2 f3 f4 w' ∧ On (O3 g gc ga) W w' := by
  refine (OWrite_calls g gc ga t s S C A f1 f2 f3 f4 W h.bx h.n1 h.n2 h.bp.s2).mono ?_
  rintro e w' ⟨rfl, h1, h2⟩
  refine ⟨rfl, h.on h1 ?_ h2, h2⟩
  split
  · rename_i h0
    refine h.bp.write ?_
    unfold writeF at h0
    split at h0
    · cases h0
    · split at h0
      · cases h0
      · omega
  · exact h.bp
theorem OSP.finish (h : OSP g gc ga w t S C A f1 f2 f3 f4 W) : Calls Try.prog 52 #[.pointer (some ⟨g, 0, none⟩)] W fun e w' => e = .returned (.int .i64 (openF f1)) ∧ OSP g gc ga w t S C A true f2 f3 f4 w' ∧ On (O3 g gc ga) W w' := by
  refine (OFinish_calls g gc ga t S C A f1 f2 f3 f4 W h.bx h.n1 h.n2).mono ?_
  rintro e w' ⟨rfl, h1, h2⟩
  exact ⟨rfl, h.on h1 h.bp h2, h2⟩
theorem OSP.next (h : OSP g gc ga w t S C A f1 f2 f3 f4 W) (room limit : Int) (r : LkR) (hr : lkF t.size S A f1 f2 f4 room limit = r) : Calls Try.prog 24 #[.pointer (some ⟨g, 0, none⟩), .int .i64 room, .int .i64 limit] W fun e w' => e = lkRet t r ∧ OSP g gc ga w t (nxS S r) C (nxA t A r) f1 (nxF2 f2 r) f3 (nxF4 f4 r) w' ∧ On (O3 g gc ga) W w' := by
  refine (ONext_calls g gc ga t S C A f1 f2 f3 f4 room limit W h.bx h.bp h.n1 h.n2 h.n3).mono ?_
  rw [hr]
  rintro e w' ⟨rfl, h1, h2⟩
  refine ⟨rfl, h.on h1 ?_ h2, h2⟩
  cases r with
  | none => exact h.bp
  | some x =>
    obtain ⟨a, b, fin⟩ := x
    exact (h.bp.next hr).2.2.2.2.1
theorem OSP.ack (h : OSP g gc ga w t S C A f1 f2 f3 f4 W) (off : Int) (s : ByteArray) (fin : Bool) (c : Int) (hc : wasF t S f2 off s fin = c) : Calls Try.prog 27 #[.pointer (some ⟨g, 0, none⟩), .agg #[.int .i64 off, .string s, .bool fin]] W fun e w' => e = .returned (.int .i64 c) ∧ On (O3 g gc ga) W w' ∧
    (c ≠ 0 → OSP g gc ga w t S C A f1 f2 f3 f4 w') ∧ (c = 0 → OSP g gc ga w t S (spanAdd off s C) (spanRem off s A) f1 f2 (fin || f3) (!fin && f4) w') := by
  by_cases h0 : c = 0
  · rw [h0] at hc
    refine (OAck_ok g gc ga t S C A f1 f2 f3 f4 off s fin W h.bx h.bp h.n1 h.n2 h.n3 hc).mono ?_
    rintro e w' ⟨rfl, h1, h2⟩
    exact ⟨by rw [h0], h2, fun e => absurd h0 e, fun _ => h.on h1 (h.bp.ack hc) h2⟩
  · refine (OAck_no g gc ga t S C A f1 f2 f3 f4 off s fin W h.bx h.bp (by rw [hc]; exact h0)).mono ?_
    rintro e w' ⟨rfl, h1⟩
    exact ⟨by rw [hc], On.of_below h1 _, fun _ => h.below h1, fun e => absurd e h0⟩
theorem OSP.lost (h : OSP g gc ga w t S C A f1 f2 f3 f4 W) (off : Int) (s : ByteArray) (fin : Bool) (c : Int) (hc : wasF t S f2 off s fin = c) : Calls Try.prog 53 #[.pointer (some ⟨g, 0, none⟩), .agg #[.int .i64 off, .string s, .bool fin]] W fun e w' => e = .returned (.int .i64 c) ∧ On (O3 g gc ga) W w' ∧
    (c ≠ 0 → OSP g gc ga w t S C A f1 f2 f3 f4 w') ∧ (c = 0 → OSP g gc ga w t S C (lostA (gapsL off (off + (s.size : Int) - 1) C) A) f1 f2 f3 ((fin && !f3) || f4) w') := by
  by_cases h0 : c = 0
  · rw [h0] at hc
    refine (OLost_ok g gc ga t S C A f1 f2 f3 f4 off s fin W h.bx h.bp h.n1 h.n2 h.n3 hc).mono ?_
    rintro e w' ⟨rfl, h1, h2⟩
    exact ⟨by rw [h0], h2, fun e => absurd h0 e, fun _ => h.on h1 (h.bp.lost hc) h2⟩
  · refine (OLost_no g gc ga t S C A f1 f2 f3 f4 off s fin W h.bx h.bp (by rw [hc]; exact h0)).mono ?_
    rintro e w' ⟨rfl, h1⟩
    exact ⟨by rw [hc], On.of_below h1 _, fun _ => h.below h1, fun e => absurd e h0⟩
theorem OSP.done (h : OSP g gc ga w t S C A f1 f2 f3 f4 W) : Calls Try.prog 54 #[.pointer (some ⟨g, 0, none⟩)] W fun e w' => e = .returned (.bool (f3 && (cnt C == (t.size : Int)))) ∧ Below W.heap.size W w' := by
  have := ODone_calls g gc ga t S C A f1 f2 f3 f4 W h.bx (by have := wf_len h.bp.wc (by omega); omega)
  rwa [cntF_eq h.bp.wc] at this
theorem OSP.waits (h : OSP g gc ga w t S C A f1 f2 f3 f4 W) (limit : Int) : Calls Try.prog 55 #[.pointer (some ⟨g, 0, none⟩), .int .i64 limit] W fun e w' => e = .returned (.bool (isS (lkF t.size S A f1 f2 f4 1 limit))) ∧ Below W.heap.size W w' := OWaits_calls g gc ga t S C A f1 f2 f3 f4 limit W h.bx h.bp
end
abbrev T6 : ByteArray := ⟨#[97, 98, 99, 100, 101, 102]⟩
theorem awk1 : lkF T6.size 0 [] true false false 4 99 = some (0, 4, false) ∧ lkF T6.size 4 [] true false false 4 99 = some (4, 6, true) ∧ wasF T6 6 true 0 ⟨#[97, 98, 99, 100]⟩ false = 0 ∧ lkF T6.size 6 [⟨0, 3⟩] true true false 3 99 = some (0, 3, false) := by
  refine ⟨?_, ?_, ?_, ?_⟩ <;> decide +kernel
end Go.Proofs.Ytiladcdogbeomaa.QRangesPlays

namespace Go.Proofs.Ytiladcdogbeomaa.QRangesPlays
open Go.RowKit Go.Shelf Go.Proofs.YtiladcdogbeomaaW.PrintWords Go.Proofs.YtiladcdogbeomaaW.PrintLast Go.Proofs.YtiladcdogbeomaaW.PrintMore Go.Proofs.Ytiladcdogbeomaa.RowLaws Go.Proofs.Ytiladcdogbeomaa.Lazy
attribute [local go_sem] Oper.semAt_some
section
variable {g gc ga : Nat} {w W : World}
theorem owA (h : OSP g gc ga w ⟨#[]⟩ 0 [] [] false false false false W) : Calls Try.prog 21 #[.pointer (some ⟨g, 0, none⟩), .string T6] W fun e w' => e = .returned (.int .i64 0) ∧ OSP g gc ga w T6 0 [] [] false false false false w' := by
  have hw : writeF ⟨#[]⟩ false T6 = 0 := by decide +kernel
  have ht : (⟨#[]⟩ : ByteArray) ++ T6 = T6 := by decide +kernel
  refine (h.write T6).mono ?_
  rw [hw, if_pos rfl, ht]
  rintro e w' ⟨rfl, h1, _⟩
  exact ⟨rfl, h1⟩
theorem owB (h : OSP g gc ga w T6 0 [] [] false false false false W) : Calls Try.prog 52 #[.pointer (some ⟨g, 0, none⟩)] W fun e w' => e = .returned (.int .i64 0) ∧ OSP g gc ga w T6 0 [] [] true false false false w' := by
  refine h.finish.mono ?_
  rintro e w' ⟨rfl, h1, _⟩
  exact ⟨rfl, h1⟩
theorem owC (h : OSP g gc ga w T6 0 [] [] true false false false W) : Calls Try.prog 52 #[.pointer (some ⟨g, 0, none⟩)] W fun e w' => e = .returned (.int .i64 16) ∧ OSP g gc ga w T6 0 [] [] true false false false w' := by
  refine h.finish.mono ?_
  rintro e w' ⟨rfl, h1, _⟩
  exact ⟨rfl, h1⟩
theorem owD (h : OSP g gc ga w T6 0 [] [] true false false false W) : Calls Try.prog 24 #[.pointer (some ⟨g, 0, none⟩), .int .i64 4, .int .i64 99] W fun e w' => e = .returned (.tuple #[.agg #[.int .i64 0, .string ⟨#[97, 98, 99, 100]⟩, .bool false], .bool true]) ∧ OSP g gc ga w T6 4 [] [] true false false false w' ∧ On (O3 g gc ga) W w' := by
  have e1 : T6.extract (0 : Int).toNat (4 : Int).toNat = ⟨#[97, 98, 99, 100]⟩ := by decide +kernel
  refine (h.next 4 99 _ awk1.1).mono ?_
  simp only [lkRet, e1]
  rintro e w' ⟨rfl, h1, h2⟩
  exact ⟨rfl, h1, h2⟩
theorem owE (h : OSP g gc ga w T6 4 [] [] true false false false W) : Calls Try.prog 24 #[.pointer (some ⟨g, 0, none⟩), .int .i64 4, .int .i64 99] W fun e w' => e = .returned (.tuple #[.agg #[.int .i64 4, .string ⟨#[101, 102]⟩, .bool true], .bool true]) ∧ OSP g gc ga w T6 6 [] [] true true false false w' ∧ On (O3 g gc ga) W w' := by
  have e1 : T6.extract (4 : Int).toNat (6 : Int).toNat = ⟨#[101, 102]⟩ := by decide +kernel
  refine (h.next 4 99 _ awk1.2.1).mono ?_
  simp only [lkRet, e1]
  rintro e w' ⟨rfl, h1, h2⟩
  exact ⟨rfl, h1, h2⟩
theorem owF (h : OSP g gc ga w T6 6 [] [] true true false false W) : Calls Try.prog 53 #[.pointer (some ⟨g, 0, none⟩), .agg #[.int .i64 0, .string ⟨#[97, 98, 99, 100]⟩, .bool false]] W fun e w' => e = .returned (.int .i64 0) ∧ OSP g gc ga w T6 6 [] [⟨0, 3⟩] true true false false w' ∧ On (O3 g gc ga) W w' := by
  refine (h.lost 0 ⟨#[97, 98, 99, 100]⟩ false 0 awk1.2.2.1).mono ?_
  rintro e w' ⟨rfl, h1, _, h2⟩
  exact ⟨rfl, h2 rfl, h1⟩
theorem owG (h : OSP g gc ga w T6 6 [] [⟨0, 3⟩] true true false false W) : Calls Try.prog 24 #[.pointer (some ⟨g, 0, none⟩), .int .i64 3, .int .i64 99] W fun e w' => e = .returned (.tuple #[.agg #[.int .i64 0, .string ⟨#[97, 98, 99]⟩, .bool false], .bool true]) ∧ OSP g gc ga w T6 6 [] [⟨3, 3⟩] true true false false w' ∧ On (O3 g gc ga) W w' := by
  have e1 : T6.extract (0 : Int).toNat (3 : Int).toNat = ⟨#[97, 98, 99]⟩ := by decide +kernel
  refine (h.next 3 99 _ awk1.2.2.2).mono ?_
  simp only [lkRet, e1]
  rintro e w' ⟨rfl, h1, h2⟩
  exact ⟨rfl, h1, h2⟩
end
abbrev chV (a : Int) (s : ByteArray) (f : Bool) : Obj := .cells #[.int .i64 a, .string s, .bool f] 52
theorem keep3 {g gc ga X : Nat} {W W' : World} {cs : Array Value} {t : TypeId} (ho : On (O3 g gc ga) W W') (hX : W.heap[X]? = some (.cells cs t (0, 0))) (h1 : X ≠ g) (h2 : X ≠ gc) (h3 : X ≠ ga) : W'.heap[X]? = some (.cells cs t (0, 0)) :=
  (ho.block X (lt_of_block hX) (by rintro (e | e | e); exact h1 e; exact h2 e; exact h3 e)).trans hX
set_option maxRecDepth 100000 in
set_option maxHeartbeats 8000000 in
theorem OAwake_calls (w : World) : Calls Try.prog 19 #[] w fun e w' => e = .returned (.bool true) ∧ Below w.heap.size w w' := by
  have HMK : Mk_ 0 := rfl
  go_enter Try.func19, Try.ntmps19
  go_wp2_with (first
    | (go_at_call 20; refine (OSP.new (Below.refl _ _)).mono ?_; rintro e w1 ⟨g, gc, ga, rfl, hs, -⟩; have H1 := Aside0.mk hs; clear hs)
    | (go_at_call 21; refine (owA H1.out).mono ?_; rintro e w2 ⟨rfl, hs⟩; have H2 := Aside0.mk hs; clear hs)
    | (have hm_ := (HMK : Mk_ 0); clear hm_ HMK; have HMK : Mk_ 1 := rfl; go_at_call 52; refine (owB H2.out).mono ?_; rintro e w3 ⟨rfl, hs⟩; have H3 := Aside0.mk hs; clear hs)
    | (have hm_ := (HMK : Mk_ 1); clear hm_ HMK; have HMK : Mk_ 2 := rfl; go_at_call 52; refine (owC H3.out).mono ?_; rintro e w4 ⟨rfl, hs⟩; have H4 := Aside0.mk hs; clear hs)
    | (have hm_ := (HMK : Mk_ 2); clear hm_ HMK; have HMK : Mk_ 3 := rfl; go_at_call 24; refine (owD H4.out).mono ?_; rintro e w5 ⟨rfl, hs, ho⟩; have H5 := Aside0.mk hs; clear hs ho; refine park ?_))
  have hbA := below_alloc (Below.refl w5.heap.size w5) (chV 0 ⟨#[97, 98, 99, 100]⟩ false)
  have hn2 := heap_alloc_new w5 (chV 0 ⟨#[97, 98, 99, 100]⟩ false)
  have hne2 : w5.heap.size ≠ g ∧ w5.heap.size ≠ gc ∧ w5.heap.size ≠ ga := by have a := lt_of_block H5.out.bx.blk; have b := H5.out.bx.sc.lt; have c := H5.out.bx.sa.lt; omega
  have H6 := Aside0.mk (H5.out.below hbA)
  have HX2 := Aside0.mk hn2
  have HN2 := Aside0.mk hne2
  clear hbA hn2 hne2
  refine ⟨?_⟩
  go_wp2_with (have hm_ := (HMK : Mk_ 3); clear hm_ HMK; have HMK : Mk_ 4 := rfl; go_at_call 24; refine (owE H6.out).mono ?_; rintro e w7 ⟨rfl, hs, ho⟩; have H7 := Aside0.mk hs; have HO7 := Aside0.mk ho; clear hs ho; refine park ?_)
  have hbA := below_alloc (Below.refl w7.heap.size w7) (chV 4 ⟨#[101, 102]⟩ true)
  have hn4 := heap_alloc_new w7 (chV 4 ⟨#[101, 102]⟩ true)
  have hne4 : w7.heap.size ≠ g ∧ w7.heap.size ≠ gc ∧ w7.heap.size ≠ ga := by have a := lt_of_block H7.out.bx.blk; have b := H7.out.bx.sc.lt; have c := H7.out.bx.sa.lt; omega
  have hk2 := keep3 HO7.out HX2.out HN2.out.1 HN2.out.2.1 HN2.out.2.2
  have hk2b := (hbA.block w5.heap.size (lt_of_block hk2)).trans hk2
  have H8 := Aside0.mk (H7.out.below hbA)
  have HX4 := Aside0.mk (And.intro hk2b hn4)
  have HN4 := Aside0.mk hne4
  obtain ⟨x20, x21, x22⟩ := chunk_cell hk2b
  clear hbA hn4 hne4 hk2 hk2b
  refine ⟨?_⟩
  go_wp2_with (first
    | (go_at_call 53; refine (owF H8.out).mono ?_; rintro e w9 ⟨rfl, hs, ho⟩; have H9 := Aside0.mk hs; have HO9 := Aside0.mk ho; clear hs ho)
    | (have hm_ := (HMK : Mk_ 4); clear hm_ HMK; have HMK : Mk_ 5 := rfl; go_at_call 24; refine (owG H9.out).mono ?_; rintro e wa ⟨rfl, hs, ho⟩; have HA := Aside0.mk hs; have HOA := Aside0.mk (HO9.out.trans ho); clear hs ho; refine park ?_))
  have hbA := below_alloc (Below.refl wa.heap.size wa) (chV 0 ⟨#[97, 98, 99]⟩ false)
  have hn7 := heap_alloc_new wa (chV 0 ⟨#[97, 98, 99]⟩ false)
  have hk2 := keep3 HOA.out HX4.out.1 HN2.out.1 HN2.out.2.1 HN2.out.2.2
  have hk2b := (hbA.block w5.heap.size (lt_of_block hk2)).trans hk2
  have hk4 := keep3 HOA.out HX4.out.2 HN4.out.1 HN4.out.2.1 HN4.out.2.2
  have hk4b := (hbA.block w7.heap.size (lt_of_block hk4)).trans hk4
  have HB := Aside0.mk (HA.out.below hbA)
  clear x20 x21 x22
  have HX := Aside0.mk (And.intro hk2b (And.intro hk4b hn7))
  obtain ⟨x20, x21, x22⟩ := chunk_cell hk2b
  obtain ⟨x40, x41, x42⟩ := chunk_cell hk4b
  obtain ⟨x70, x71, x72⟩ := chunk_cell hn7
  clear hbA hn7 hk2 hk2b hk4 hk4b
  refine ⟨?_⟩
  go_wp2_with (first
    | (go_at_call 23; refine HB.out.sent.mono ?_; rintro e wc ⟨rfl, hb⟩; have HC := Aside0.mk (HB.out.below hb); clear hb)
    | (go_at_call 54; refine HC.out.done.mono ?_; rintro e wd ⟨rfl, hb⟩; have HD := Aside0.mk (HC.out.below hb); clear hb))
  go_ret
  exact ⟨rfl, HD.out.hb⟩
end Go.Proofs.Ytiladcdogbeomaa.QRangesPlays
