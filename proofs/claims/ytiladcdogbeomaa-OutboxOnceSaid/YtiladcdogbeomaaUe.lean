/- Law 24 (outbox): contracts of functions that its statements reach, and plain laws behind them (part 5). No condition. -/
import Derived.Test.YtiladcdogbeomaaUd
namespace Go.Proofs.Ytiladcdogbeomaa.QRangesPlays
open Go.RowKit Go.Shelf Go.Proofs.YtiladcdogbeomaaW.PrintWords Go.Proofs.YtiladcdogbeomaaW.PrintLast Go.Proofs.YtiladcdogbeomaaW.PrintMore Go.Proofs.Ytiladcdogbeomaa.RowLaws Go.Proofs.Ytiladcdogbeomaa.Lazy
attribute [local go_sem] Oper.semAt_some
/-- Only the blocks of S turn, among those that were. -/
structure On (S : Nat → Prop) (w w' : World) : Prop where
  os : w'.os = w.os
  tape : w'.tape = w.tape
  output : w'.output = w.output
  size : w.heap.size ≤ w'.heap.size
  block : ∀ k, k < w.heap.size → ¬ S k → w'.heap[k]? = w.heap[k]?
section
variable {S S2 : Nat → Prop} {w w' w2 : World}
theorem On.refl (S : Nat → Prop) (w : World) : On S w w := ⟨rfl, rfl, rfl, Nat.le_refl _, fun _ _ _ => rfl⟩
theorem On.then_ (h : On S w w') (k : On S2 w' w2) (hs : ∀ i, S2 i → S i ∨ w.heap.size ≤ i) : On S w w2 :=
  ⟨k.os.trans h.os, k.tape.trans h.tape, k.output.trans h.output, Nat.le_trans h.size k.size, fun i hi hn => (k.block i (Nat.lt_of_lt_of_le hi h.size) (fun e => (hs i e).elim hn (fun e => by omega))).trans (h.block i hi hn)⟩
theorem On.trans (h : On S w w') (k : On S w' w2) : On S w w2 := h.then_ k (fun _ e => .inl e)
theorem On.of_below (h : Below w.heap.size w w') (S : Nat → Prop) : On S w w' := ⟨h.os, h.tape, h.output, h.size, fun i hi _ => h.block i hi⟩
theorem On.of_only {g : Nat} (h : Only g w w') (hS : S g) : On S w w' := ⟨h.os, h.tape, h.output, h.size, fun i hi hn => h.block i hi (by intro e; injection e with e; subst e; exact hn hS)⟩
theorem On.low (h : On S w w') {n : Nat} (hn : ∀ i, S i → n ≤ i) (hs : n ≤ w.heap.size) : Below n w w' := ⟨h.os, h.tape, h.output, h.size, fun i hi => h.block i (by omega) (fun e => by have := hn i e; omega)⟩
theorem On.kept (h : On S w w') : Kept w w' S := ⟨h.size, h.block⟩
theorem On.step (h : On S w w') (hb : Below w'.heap.size w' w2) : On S w w2 := h.trans (On.of_below hb S)
theorem On.cell (h : On S w w') {p : Addr} {v : Value} (hp : ¬ S p.block) (hv : w.cell? p = some v) : w'.cell? p = some v :=
  (World.cell?_of_block (h.block p.block (World.block_lt_of_cell? _ _ hv) hp)).trans hv
theorem On.mono (h : On S w w') (hs : ∀ i, S i → S2 i) : On S2 w w' := ⟨h.os, h.tape, h.output, h.size, fun i hi hn => h.block i hi (fun e => hn (hs i e))⟩
theorem On.setCell (g i : Nat) (u : Value) (hS : S g) (w : World) : On S w (w.setCell ⟨g, i, none⟩ u) := On.of_only ((Only.refl g w).setCell (p := ⟨g, i, none⟩) rfl u) hS
end
/-- Two numbers side by side: what no block of S may hold. -/
def NoTwo (W : World) (S : Nat → Prop) : Prop := ∀ q, S q → ∀ o x y, W.cell? ⟨q, o, none⟩ = some (.int .i64 x) → W.cell? ⟨q, o + 1, none⟩ ≠ some (.int .i64 y)
theorem Row.apart {W W' : World} {sv : Value} {l : List S95} {S : Nat → Prop} (h : Row W sv l) (hk : Kept W W' S) (hS : NoTwo W S) : Row W' sv l := by
  rcases h with h | ⟨b0, c0, rfl, r2, r3, r4⟩
  · exact .inl h
  · refine .inr ⟨b0, c0, rfl, ?_, r3, Nat.lt_of_lt_of_le r4 hk.1⟩
    refine ⟨r2.1, r2.2.1, fun hn => ?_⟩
    obtain ⟨bk, o, hA, z0, z1⟩ := row_at r2 0 (by have := r2.1; omega)
    cases hA
    have hne : ¬ S b0 := fun e => hS b0 e _ _ _ z0 (by simpa using z1)
    refine ⟨_, rfl, ?_⟩
    intro j p hj
    obtain ⟨ad, hA, hcc⟩ := r2.2.2 hn
    injection hA with hA
    subst hA
    obtain ⟨cs, c1, c2, c3⟩ := hcc j p hj
    refine ⟨cs, c1, c2, fun q u' hu => ?_⟩
    have hcell := c3 q u' hu
    rw [add_off] at hcell ⊢
    exact (World.cell?_of_block (hk.2 b0 (World.block_lt_of_cell? _ _ hcell) hne)).trans hcell
theorem SetAt.apart {W W' : World} {gs : Nat} {l : List S95} {S : Nat → Prop} (h : SetAt W gs l) (hk : Kept W W' S) (hS : NoTwo W S) (hg : ¬ S gs) : SetAt W' gs l := by
  have hlt := h.lt
  obtain ⟨sv, s1, s2⟩ := h
  exact ⟨sv, (hk.2 gs hlt hg).trans s1, s2.apart hk hS⟩
/-- A box lies at g: its text, how many bytes went, the sets of what came and of what goes again, the end's marks (told, sent, came, again). -/
structure BoxAt (W : World) (g gc ga : Nat) (t : ByteArray) (S : Int) (C A : List S95) (f1 f2 f3 f4 : Bool) : Prop where
  blk : W.heap[g]? = some (.cells #[.string t, .int .i64 S, .pointer (some ⟨gc, 0, none⟩), .pointer (some ⟨ga, 0, none⟩), .bool f1, .bool f2, .bool f3, .bool f4] 114 (0, 0))
  sc : SetAt W gc C
  sa : SetAt W ga A
def O3 (g gc ga : Nat) : Nat → Prop := fun k => k = g ∨ k = gc ∨ k = ga
section
variable {W W' : World} {g gc ga : Nat} {t : ByteArray} {S : Int} {C A : List S95} {f1 f2 f3 f4 : Bool}
theorem BoxAt.cells (h : BoxAt W g gc ga t S C A f1 f2 f3 f4) : W.cell? ⟨g, 0, none⟩ = some (.string t) ∧ W.cell? ⟨g, 1, none⟩ = some (.int .i64 S) ∧ W.cell? ⟨g, 2, none⟩ = some (.pointer (some ⟨gc, 0, none⟩)) ∧ W.cell? ⟨g, 3, none⟩ = some (.pointer (some ⟨ga, 0, none⟩)) ∧
    W.cell? ⟨g, 4, none⟩ = some (.bool f1) ∧ W.cell? ⟨g, 5, none⟩ = some (.bool f2) ∧ W.cell? ⟨g, 6, none⟩ = some (.bool f3) ∧ W.cell? ⟨g, 7, none⟩ = some (.bool f4) := by
  have hb := h.blk
  refine ⟨?_, ?_, ?_, ?_, ?_, ?_, ?_, ?_⟩ <;> (unfold World.cell?; rw [hb]; rfl)
theorem BoxAt.free (h : BoxAt W g gc ga t S C A f1 f2 f3 f4) (i : Nat) : W.frozen? ⟨g, i, none⟩ = false := by
  have hb := h.blk
  unfold World.frozen?; rw [hb]; simp
theorem BoxAt.below (h : BoxAt W g gc ga t S C A f1 f2 f3 f4) (hb : Below W.heap.size W W') : BoxAt W' g gc ga t S C A f1 f2 f3 f4 :=
  ⟨(hb.block _ (lt_of_block h.blk)).trans h.blk, h.sc.below hb, h.sa.below hb⟩
theorem BoxAt.apart {T : Nat → Prop} (h : BoxAt W g gc ga t S C A f1 f2 f3 f4) (hk : Kept W W' T) (hT : NoTwo W T) (h1 : ¬ T g) (h2 : ¬ T gc) (h3 : ¬ T ga) : BoxAt W' g gc ga t S C A f1 f2 f3 f4 :=
  ⟨(hk.2 g (lt_of_block h.blk) h1).trans h.blk, h.sc.apart hk hT h2, h.sa.apart hk hT h3⟩
/-- One of the box's own cells is written. -/
theorem BoxAt.setF (h : BoxAt W g gc ga t S C A f1 f2 f3 f4) (n1 : gc ≠ g) (n2 : ga ≠ g) (i : Nat) (u : Value) {t' : ByteArray} {S' : Int} {e1 e2 e3 e4 : Bool}
    (hc : (#[.string t, .int .i64 S, .pointer (some ⟨gc, 0, none⟩), .pointer (some ⟨ga, 0, none⟩), .bool f1, .bool f2, .bool f3, .bool f4] : Array Value).setIfInBounds i u = #[.string t', .int .i64 S', .pointer (some ⟨gc, 0, none⟩), .pointer (some ⟨ga, 0, none⟩), .bool e1, .bool e2, .bool e3, .bool e4]) :
    BoxAt (W.setCell ⟨g, i, none⟩ u) g gc ga t' S' C A e1 e2 e3 e4 := by
  have hk : Kept W (W.setCell ⟨g, i, none⟩ u) (fun q => q = g) := (On.setCell (S := fun q => q = g) g i u rfl W).kept
  have hT : ∀ q, q = g → ∀ i, W.cell? ⟨q, 0, none⟩ ≠ some (.int .i64 i) := by
    rintro q rfl i e
    rw [h.cells.1] at e; cases e
  exact ⟨by rw [cells_set u h.blk, hc], h.sc.far hk hT n1, h.sa.far hk hT n2⟩
theorem BoxAt.setC {C' : List S95} (h : BoxAt W g gc ga t S C A f1 f2 f3 f4) (n1 : gc ≠ g) (n3 : gc ≠ ga) (hs : SetAt W' gc C') (ho : Only gc W W') : BoxAt W' g gc ga t S C' A f1 f2 f3 f4 :=
  ⟨(ho.block g (lt_of_block h.blk) (by intro e; injection e with e; exact n1 e.symm)).trans h.blk, hs, h.sa.only ho h.sc (fun e => n3 e.symm)⟩
theorem BoxAt.setA {A' : List S95} (h : BoxAt W g gc ga t S C A f1 f2 f3 f4) (n2 : ga ≠ g) (n3 : gc ≠ ga) (hs : SetAt W' ga A') (ho : Only ga W W') : BoxAt W' g gc ga t S C A' f1 f2 f3 f4 :=
  ⟨(ho.block g (lt_of_block h.blk) (by intro e; injection e with e; exact n2 e.symm)).trans h.blk, h.sc.only ho h.sa n3, hs⟩
end
theorem free_blk {W : World} {g : Nat} {cs : Array Value} {t : TypeId} (h : W.heap[g]? = some (.cells cs t (0, 0))) (i : Nat) : W.frozen? ⟨g, i, none⟩ = false := by
  unfold World.frozen?; rw [h]; simp
set_option maxRecDepth 100000 in
set_option maxHeartbeats 4000000 in
theorem OEnd_calls (off : Int) (s : ByteArray) (fin : Bool) (w : World) (h : -4611686018427387904 ≤ off ∧ off ≤ 4611686018427387904) (hs : s.size ≤ 4611686018427387903) :
    Calls Try.prog 63 #[.agg #[.int .i64 off, .string s, .bool fin]] w fun e w' => e = .returned (.int .i64 (off + (s.size : Int))) ∧ Below w.heap.size w w' := by
  have e1 : IntKind.i64.wrap (off + (s.size : Int)) = off + (s.size : Int) := IntWalk.i64_in _ (by omega)
  go_enter Try.func63, Try.ntmps63
  go_wp2
  go_ret
  exact ⟨rfl, below_alloc (Below.refl _ _) _⟩
set_option maxRecDepth 100000 in
set_option maxHeartbeats 4000000 in
theorem OSize_calls (g gc ga : Nat) (t : ByteArray) (S : Int) (C A : List S95) (f1 f2 f3 f4 : Bool) (w : World) (h : BoxAt w g gc ga t S C A f1 f2 f3 f4) :
    Calls Try.prog 30 #[.pointer (some ⟨g, 0, none⟩)] w fun e w' => e = .returned (.int .i64 (t.size : Int)) ∧ Below w.heap.size w w' := by
  obtain ⟨k0, k1, k2, k3, k4, k5, k6, k7⟩ := h.cells
  clear h
  go_enter Try.func30, Try.ntmps30
  go_wp2
  go_ret
  exact ⟨rfl, Below.refl _ _⟩
set_option maxRecDepth 100000 in
set_option maxHeartbeats 4000000 in
theorem OSent_calls (g gc ga : Nat) (t : ByteArray) (S : Int) (C A : List S95) (f1 f2 f3 f4 : Bool) (w : World) (h : BoxAt w g gc ga t S C A f1 f2 f3 f4) :
    Calls Try.prog 23 #[.pointer (some ⟨g, 0, none⟩)] w fun e w' => e = .returned (.int .i64 S) ∧ Below w.heap.size w w' := by
  obtain ⟨k0, k1, k2, k3, k4, k5, k6, k7⟩ := h.cells
  clear h
  go_enter Try.func23, Try.ntmps23
  go_wp2
  go_ret
  exact ⟨rfl, Below.refl _ _⟩
def openF (f1 : Bool) : Int := if f1 then 16 else 0
set_option maxRecDepth 100000 in
set_option maxHeartbeats 4000000 in
theorem OOpen_calls (g gc ga : Nat) (t : ByteArray) (S : Int) (C A : List S95) (f1 f2 f3 f4 : Bool) (w : World) (h : BoxAt w g gc ga t S C A f1 f2 f3 f4) :
    Calls Try.prog 61 #[.pointer (some ⟨g, 0, none⟩)] w fun e w' => e = .returned (.int .i64 (openF f1)) ∧ Below w.heap.size w w' := by
  obtain ⟨k0, k1, k2, k3, k4, k5, k6, k7⟩ := h.cells
  clear h
  cases f1
  · show Calls _ _ _ _ (fun e w' => e = .returned (.int .i64 0) ∧ Below w.heap.size w w')
    go_enter Try.func61, Try.ntmps61
    go_wp2
    go_ret
    exact ⟨rfl, Below.refl _ _⟩
  · show Calls _ _ _ _ (fun e w' => e = .returned (.int .i64 16) ∧ Below w.heap.size w w')
    go_enter Try.func61, Try.ntmps61
    go_wp2
    go_ret
    exact ⟨rfl, Below.refl _ _⟩
/-- Why nothing can be written; 0: it can. -/
def writeF (t : ByteArray) (f1 : Bool) (s : ByteArray) : Int := if f1 then 16 else if 262144 - (t.size : Int) < (s.size : Int) then 10 else 0
set_option maxRecDepth 100000 in
set_option maxHeartbeats 4000000 in
theorem OWrite_calls (g gc ga : Nat) (t s : ByteArray) (S : Int) (C A : List S95) (f1 f2 f3 f4 : Bool) (w : World) (h : BoxAt w g gc ga t S C A f1 f2 f3 f4) (n1 : gc ≠ g) (n2 : ga ≠ g) (ht : t.size ≤ 262144) :
    Calls Try.prog 21 #[.pointer (some ⟨g, 0, none⟩), .string s] w fun e w' => e = .returned (.int .i64 (writeF t f1 s)) ∧ BoxAt w' g gc ga (if writeF t f1 s = 0 then t ++ s else t) S C A f1 f2 f3 f4 ∧ On (O3 g gc ga) w w' := by
  have HO := Aside0.mk (OOpen_calls g gc ga t S C A f1 f2 f3 f4 w h)
  have HB := Aside0.mk h
  unfold writeF
  cases f1 with
  | true =>
    simp only [if_true]
    rw [if_neg (show ¬ (16 : Int) = 0 by decide)]
    have hop : openF true = 16 := rfl
    rw [hop] at HO
    clear h hop
    go_enter Try.func21, Try.ntmps21
    go_wp2_with (go_at_call 61; refine HO.out.mono ?_; rintro e w2 ⟨rfl, hb⟩; have HB2 := Aside0.mk hb; clear hb)
    go_ret
    exact ⟨rfl, HB.out.below HB2.out, On.of_below HB2.out _⟩
  | false =>
    simp only [Bool.false_eq_true, if_false]
    have hop : openF false = 0 := rfl
    rw [hop] at HO
    by_cases hf : 262144 - (t.size : Int) < (s.size : Int)
    · rw [if_pos hf, if_neg (show ¬ (10 : Int) = 0 by decide)]
      have e1 : IntKind.i64.wrap (262144 - (t.size : Int)) = 262144 - (t.size : Int) := IntWalk.i64_in _ (by omega)
      clear h hop
      go_enter Try.func21, Try.ntmps21
      go_wp2_with (go_at_call 61; refine HO.out.mono ?_; rintro e w2 ⟨rfl, hb⟩; have HB2 := Aside0.mk hb; obtain ⟨k0, k1, k2, k3, k4, k5, k6, k7⟩ := (HB.out.below hb).cells; clear hb k1 k2 k3 k4 k5 k6 k7)
      go_ret
      exact ⟨rfl, HB.out.below HB2.out, On.of_below HB2.out _⟩
    · rw [if_neg hf, if_pos rfl]
      have e1 : IntKind.i64.wrap (262144 - (t.size : Int)) = 262144 - (t.size : Int) := IntWalk.i64_in _ (by omega)
      have e2 : ¬ (9223372036854775807 < t.size + s.size) := by omega
      clear h hop
      go_enter Try.func21, Try.ntmps21
      go_wp2_with (go_at_call 61; refine HO.out.mono ?_; rintro e w2 ⟨rfl, hb⟩; have HB2 := Aside0.mk hb; have z0 := (HB.out.below hb).free 0; obtain ⟨k0, k1, k2, k3, k4, k5, k6, k7⟩ := (HB.out.below hb).cells; clear hb k1 k2 k3 k4 k5 k6 k7)
      go_ret
      exact ⟨rfl, (HB.out.below HB2.out).setF n1 n2 0 _ rfl, (On.of_below HB2.out _).trans (On.setCell g 0 _ (.inl rfl) _)⟩
set_option maxRecDepth 100000 in
set_option maxHeartbeats 4000000 in
theorem OFinish_calls (g gc ga : Nat) (t : ByteArray) (S : Int) (C A : List S95) (f1 f2 f3 f4 : Bool) (w : World) (h : BoxAt w g gc ga t S C A f1 f2 f3 f4) (n1 : gc ≠ g) (n2 : ga ≠ g) :
    Calls Try.prog 52 #[.pointer (some ⟨g, 0, none⟩)] w fun e w' => e = .returned (.int .i64 (openF f1)) ∧ BoxAt w' g gc ga t S C A true f2 f3 f4 ∧ On (O3 g gc ga) w w' := by
  have HO := Aside0.mk (OOpen_calls g gc ga t S C A f1 f2 f3 f4 w h)
  have HB := Aside0.mk h
  cases f1 with
  | true =>
    have hop : openF true = 16 := rfl
    rw [hop] at HO ⊢
    clear h hop
    go_enter Try.func52, Try.ntmps52
    go_wp2_with (go_at_call 61; refine HO.out.mono ?_; rintro e w2 ⟨rfl, hb⟩; have HB2 := Aside0.mk hb; clear hb)
    go_ret
    exact ⟨rfl, HB.out.below HB2.out, On.of_below HB2.out _⟩
  | false =>
    have hop : openF false = 0 := rfl
    rw [hop] at HO ⊢
    clear h hop
    go_enter Try.func52, Try.ntmps52
    go_wp2_with (go_at_call 61; refine HO.out.mono ?_; rintro e w2 ⟨rfl, hb⟩; have HB2 := Aside0.mk hb; have z4 := (HB.out.below hb).free 4; obtain ⟨k0, k1, k2, k3, k4, k5, k6, k7⟩ := (HB.out.below hb).cells; clear hb k0 k1 k2 k3 k5 k6 k7)
    go_ret
    exact ⟨rfl, (HB.out.below HB2.out).setF n1 n2 4 _ rfl, (On.of_below HB2.out _).trans (On.setCell g 4 _ (.inl rfl) _)⟩
set_option maxRecDepth 100000 in
set_option maxHeartbeats 4000000 in
theorem ONew_calls (w : World) : Calls Try.prog 20 #[] w fun e w' => ∃ g gc ga, e = .returned (.pointer (some ⟨g, 0, none⟩)) ∧ BoxAt w' g gc ga ⟨#[]⟩ 0 [] [] false false false false ∧ Below w.heap.size w w' ∧ w.heap.size ≤ g ∧ w.heap.size ≤ gc ∧ w.heap.size ≤ ga ∧ gc ≠ g ∧ ga ≠ g ∧ gc ≠ ga := by
  have HMK : Mk_ 0 := rfl
  go_enter Try.func20, Try.ntmps20
  go_wp2_with (first
    | (have hm_ := (HMK : Mk_ 0); clear hm_ HMK; have HMK : Mk_ 1 := rfl; go_at_call 36; refine (New_calls _).mono ?_; rintro e w2 ⟨gc, rfl, hs, hb, hg⟩; have HS := Aside0.mk hs; have HB := Aside0.mk hb; have HG := Aside0.mk hg; clear hs hb hg)
    | (have hm_ := (HMK : Mk_ 1); clear hm_ HMK; have HMK : Mk_ 2 := rfl; go_at_call 36; refine (New_calls _).mono ?_; rintro e w3 ⟨ga, rfl, hs, hb, hg⟩; have HS3 := Aside0.mk hs; have HB3 := Aside0.mk hb; have HG3 := Aside0.mk hg; clear hs hb hg))
  go_ret
  have hgc := HG.out
  have hga := HG3.out
  have hl2 := HS.out.lt
  have hl3 := HS3.out.lt
  have hs3 := HB3.out.size
  have hb4 := below_alloc (Below.refl w3.heap.size w3) (.cells #[.string ⟨#[]⟩, .int .i64 0, .pointer (some ⟨gc, 0, none⟩), .pointer (some ⟨ga, 0, none⟩), .bool false, .bool false, .bool false, .bool false] 114)
  refine ⟨w3.heap.size, gc, ga, rfl, ⟨heap_alloc_new w3 _, (HS.out.below HB3.out).below hb4, HS3.out.below hb4⟩, below_step (below_step HB.out HB3.out) hb4, by omega, by omega, by omega, by omega, by omega, by omega⟩
end Go.Proofs.Ytiladcdogbeomaa.QRangesPlays

namespace Go.Proofs.Ytiladcdogbeomaa.QRangesPlays
open Go.RowKit Go.Shelf Go.Proofs.YtiladcdogbeomaaW.PrintWords Go.Proofs.YtiladcdogbeomaaW.PrintLast Go.Proofs.YtiladcdogbeomaaW.PrintMore Go.Proofs.Ytiladcdogbeomaa.RowLaws Go.Proofs.Ytiladcdogbeomaa.Lazy
attribute [local go_sem] Oper.semAt_some
attribute [local go_sem] max2_int min2_int max_two min_two
abbrev sp64_ops : List Oper := [{ dst := some 7, op := .move (.tmp 0), type := 93, pos := "outbox.go:112", after := #[], guard := none },
  { dst := some 8, op := .fieldAddr 52 (.tmp 3) 0, type := 0, pos := "outbox.go:112", after := #[], guard := none },
  { dst := some 9, op := .load 3 (.tmp 8), type := 3, pos := "outbox.go:112", after := #[⟨1, .data⟩], guard := none },
  { dst := some 10, op := .load 52 (.tmp 3), type := 52, pos := "outbox.go:112", after := #[], guard := none },
  { dst := some 11, op := .call { callee := .value (.func 63), args := #[.tmp 10], argTypes := #[52] }, type := 3, pos := "outbox.go:112", after := #[⟨3, .data⟩], guard := none },
  { dst := some 12, op := .binOp .sub 3 (.tmp 11) (.const (.int .i64 1)) 3, type := 3, pos := "outbox.go:112", after := #[⟨4, .data⟩], guard := none },
  { dst := some 13, op := .call { callee := .value (.tmp 7), args := #[.tmp 9, .tmp 12], argTypes := #[3, 3] }, type := 3, pos := "outbox.go:112", after := #[⟨0, .data⟩, ⟨2, .data⟩, ⟨5, .data⟩, ⟨4, .chain⟩], guard := none }]
abbrev sp64_tab : List (Option Nat) := [none, none, none, none, none, none, none, some 0, some 1, some 2, some 3, some 4, some 5, some 6]

def sp64_val (g : Nat) (X : Nat) (off : Int) (s : ByteArray) (fin : Bool) (l : List S95) : Nat → Value → World → Prop := fun j v W => match j with
  | 0 => v = .func (.func 48) #[.pointer (some ⟨g, 0, none⟩)] #[]
  | 1 => v = .pointer (some ⟨X, 0, none⟩)
  | 2 => v = .int .i64 off
  | 3 => v = .agg #[.int .i64 off, .string s, .bool fin]
  | 4 => v = .int .i64 (off + (s.size : Int))
  | 5 => v = .int .i64 (off + (s.size : Int) - 1)
  | 6 => True
  | _ => True

set_option maxRecDepth 100000 in
set_option maxHeartbeats 4000000 in
theorem Span_r64 (g : Nat) (X : Nat) (off : Int) (s : ByteArray) (fin : Bool) (l : List S95) (t0 : List Value) (d0 : List Deferred) (w : World) (Q : Exit → Act → World → Prop) (hl : t0.length = sp64_tab.length)
    (t0_ : t0[0]? = some (.func (.func 48) #[.pointer (some ⟨g, 0, none⟩)] #[])) (t3 : t0[3]? = some (.pointer (some ⟨X, 0, none⟩))) (kx0 : w.cell? ⟨X, 0, none⟩ = some (.int .i64 off)) (kx1 : w.cell? ⟨X, 1, none⟩ = some (.string s)) (kx2 : w.cell? ⟨X, 2, none⟩ = some (.bool fin)) (ho : 0 ≤ off ∧ off ≤ 4611686018427387903) (hs : s.size ≤ 4611686018427387903) (h : SetAt w g l) (hw : wf 0 l)
    (hQ : ∀ σ W, (SetAt W g (remL off (off + (s.size : Int) - 1) l) ∧ Only g w W) → Q .normal (lazyA (fun _ => true) σ t0 sp64_tab d0) W) :
    (Code.region 2 sp64_ops.toArray true).wp Try.prog Q { tmps := t0.toArray, defers := d0 } w := by
  refine wp_region_valsO (by kernel_rfl) sp64_tab (by kernel_rfl) hl (fun i => [].contains i) (fun i W W' => True) (fun L W => (L 6 = false → Below w.heap.size w W) ∧ (L 6 = true → (SetAt W g (remL off (off + (s.size : Int) - 1) l) ∧ Only g w W))) (sp64_val g X off s fin l) (⟨fun _ => below_drew (Below.refl _ _), fun e => by cases e⟩) ?hst ⟨⟨(fun j b h => by cases h), fun _ => rfl⟩, ⟨(fun j b h => by cases h), fun _ => rfl⟩, ⟨(fun j b h => by cases h), fun _ => rfl⟩, ⟨(fun j b h => by cases h), fun _ => rfl⟩, ⟨(fun j b h => by cases h), fun _ => rfl⟩, ⟨(fun j b h => by cases h), fun _ => rfl⟩, ⟨(fun j b h => by cases h), fun _ => rfl⟩, trivial⟩ ⟨?s0, ?s1, ?s2, ?s3, ?s4, ?s5, ?s6, trivial⟩ ?hskip ?hdone
  case hst =>
    intro L i j v W W' hLi hLj hne hcl hR h
    match j with
    | 0 => exact h
    | 1 => exact h
    | 2 => exact h
    | 3 => exact h
    | 4 => exact h
    | 5 => exact h
    | 6 => exact h
    | n + 7 => trivial

  case s0 =>
    intro _ L ρ W hLi hcl hold hJ hT
    have q0 := hT.2.1 0 _ t0_ rfl
    have nk : L 6 = false := Bool.eq_false_iff.2 fun e => by have a0 := hcl 6 0 (by rfl) e; rw [a0] at hLi; cases hLi
    have hB := hJ.1 nk
    refine Op1.of_run (v := .func (.func 48) #[.pointer (some ⟨g, 0, none⟩)] #[]) (W' := W) (by clear hT hJ hcl hold; go_simp) ⟨trivial, ⟨fun _ => hB, fun e => by rw [upd_ne (by decide), nk] at e; cases e⟩, rfl⟩

  case s1 =>
    intro _ L ρ W hLi hcl hold hJ hT
    have q3 := hT.2.1 3 _ t3 rfl
    have nk : L 6 = false := Bool.eq_false_iff.2 fun e => by have a2 := hcl 6 2 (by rfl) e; have a1 := hcl 2 1 (by rfl) a2; rw [a1] at hLi; cases hLi
    have hB := hJ.1 nk
    refine Op1.of_run (v := .pointer (some ⟨X, 0, none⟩)) (W' := W) (by clear hT hJ hcl hold; go_simp) ⟨trivial, ⟨fun _ => hB, fun e => by rw [upd_ne (by decide), nk] at e; cases e⟩, rfl⟩

  case s2 =>
    intro _ L ρ W hLi hcl hold hJ hT
    have q8 : ρ (.tmp 8) = .pointer (some ⟨X, 0, none⟩) := hT.1 8 1 rfl rfl
    have nk : L 6 = false := Bool.eq_false_iff.2 fun e => by have a2 := hcl 6 2 (by rfl) e; rw [a2] at hLi; cases hLi
    have hB := hJ.1 nk
    have cc := (hB.cell (World.block_lt_of_cell? _ _ kx0)).trans kx0
    refine Op1.of_run (v := .int .i64 off) (W' := W) (by clear hT hJ hcl hold; go_simp) ⟨trivial, ⟨fun _ => hB, fun e => by rw [upd_ne (by decide), nk] at e; cases e⟩, rfl⟩

  case s3 =>
    intro _ L ρ W hLi hcl hold hJ hT
    have q3 := hT.2.1 3 _ t3 rfl
    have nk : L 6 = false := Bool.eq_false_iff.2 fun e => by have a5 := hcl 6 5 (by rfl) e; have a4 := hcl 5 4 (by rfl) a5; have a3 := hcl 4 3 (by rfl) a4; rw [a3] at hLi; cases hLi
    have hB := hJ.1 nk
    have cc0 := (hB.cell (World.block_lt_of_cell? _ _ kx0)).trans kx0
    have cc1 := (hB.cell (World.block_lt_of_cell? _ _ kx1)).trans kx1
    have cc2 := (hB.cell (World.block_lt_of_cell? _ _ kx2)).trans kx2
    refine Op1.of_run (v := .agg #[.int .i64 off, .string s, .bool fin]) (W' := W) (by clear hT hJ hcl hold; go_simp) ⟨trivial, ⟨fun _ => hB, fun e => by rw [upd_ne (by decide), nk] at e; cases e⟩, rfl⟩

  case s4 =>
    intro _ L ρ W hLi hcl hold hJ hT
    have q10 : ρ (.tmp 10) = .agg #[.int .i64 off, .string s, .bool fin] := hT.1 10 3 rfl rfl
    have nk : L 6 = false := Bool.eq_false_iff.2 fun e => by have a5 := hcl 6 5 (by rfl) e; have a4 := hcl 5 4 (by rfl) a5; rw [a4] at hLi; cases hLi
    have hB := hJ.1 nk
    have qf := hT.2.2.2 63
    refine Op1.of_call (f := 63) (args := #[.agg #[.int .i64 off, .string s, .bool fin]]) (W' := W) (by clear hT hJ hcl hold; go_simp) ?_
    refine (OEnd_calls off s fin _ (by omega) hs).mono ?_
    rintro e2 W2 ⟨rfl, hb⟩
    exact ⟨_, rfl, trivial, ⟨fun _ => below_step hB hb, fun e => by rw [upd_ne (by decide), nk] at e; cases e⟩, rfl⟩

  case s5 =>
    intro _ L ρ W hLi hcl hold hJ hT
    have q11 : ρ (.tmp 11) = .int .i64 (off + (s.size : Int)) := hT.1 11 4 rfl rfl
    have qc := hT.2.2.1 (Go.Value.int Go.IntKind.i64 1)
    have nk : L 6 = false := Bool.eq_false_iff.2 fun e => by have a5 := hcl 6 5 (by rfl) e; rw [a5] at hLi; cases hLi
    have hB := hJ.1 nk
    have e1 : IntKind.i64.wrap (off + (s.size : Int) - 1) = off + (s.size : Int) - 1 := IntWalk.i64_in _ (by omega)
    refine Op1.of_run (v := .int .i64 (off + (s.size : Int) - 1)) (W' := W) (by clear hT hJ hcl hold; go_simp) ⟨trivial, ⟨fun _ => hB, fun e => by rw [upd_ne (by decide), nk] at e; cases e⟩, rfl⟩

  case s6 =>
    intro _ L ρ W hLi hcl hold hJ hT
    have q7 : ρ (.tmp 7) = .func (.func 48) #[.pointer (some ⟨g, 0, none⟩)] #[] := hT.1 7 0 rfl rfl
    have q9 : ρ (.tmp 9) = .int .i64 off := hT.1 9 2 rfl rfl
    have q12 : ρ (.tmp 12) = .int .i64 (off + (s.size : Int) - 1) := hT.1 12 5 rfl rfl
    have hB := hJ.1 hLi
    refine Op1.of_call (f := 48) (args := #[.pointer (some ⟨g, 0, none⟩), .int .i64 off, .int .i64 (off + (s.size : Int) - 1)]) (W' := W) (by clear hT hJ hcl hold; go_simp) ?_
    refine (Rem_calls g off (off + (s.size : Int) - 1) l W (h.below hB) hw).mono ?_
    rintro e2 W2 ⟨rfl, h1, h2, _⟩
    exact ⟨_, rfl, trivial, ⟨(fun e => by rw [upd_self] at e; cases e), fun _ => ⟨h1, (Only.of_below hB).trans h2⟩⟩, trivial⟩

  case hskip => intro i hi; simp at hi

  case hdone =>
    intro σ L W hL hJ hV
    exact hQ σ W (hJ.2 (hL 6 (by decide)))
abbrev sp68_ops : List Oper := [{ dst := some 7, op := .move (.tmp 0), type := 72, pos := "outbox.go:112", after := #[], guard := none },
  { dst := some 8, op := .fieldAddr 52 (.tmp 3) 0, type := 0, pos := "outbox.go:112", after := #[], guard := none },
  { dst := some 9, op := .load 3 (.tmp 8), type := 3, pos := "outbox.go:112", after := #[⟨1, .data⟩], guard := none },
  { dst := some 10, op := .load 52 (.tmp 3), type := 52, pos := "outbox.go:112", after := #[], guard := none },
  { dst := some 11, op := .call { callee := .value (.func 63), args := #[.tmp 10], argTypes := #[52] }, type := 3, pos := "outbox.go:112", after := #[⟨3, .data⟩], guard := none },
  { dst := some 12, op := .binOp .sub 3 (.tmp 11) (.const (.int .i64 1)) 3, type := 3, pos := "outbox.go:112", after := #[⟨4, .data⟩], guard := none },
  { dst := some 13, op := .call { callee := .value (.tmp 7), args := #[.tmp 9, .tmp 12], argTypes := #[3, 3] }, type := 4, pos := "outbox.go:112", after := #[⟨0, .data⟩, ⟨2, .data⟩, ⟨5, .data⟩, ⟨4, .chain⟩], guard := none }]
abbrev sp68_tab : List (Option Nat) := [none, none, none, none, none, none, none, some 0, some 1, some 2, some 3, some 4, some 5, some 6]

def sp68_val (g : Nat) (X : Nat) (off : Int) (s : ByteArray) (fin : Bool) (l : List S95) : Nat → Value → World → Prop := fun j v W => match j with
  | 0 => v = .func (.func 37) #[.pointer (some ⟨g, 0, none⟩)] #[]
  | 1 => v = .pointer (some ⟨X, 0, none⟩)
  | 2 => v = .int .i64 off
  | 3 => v = .agg #[.int .i64 off, .string s, .bool fin]
  | 4 => v = .int .i64 (off + (s.size : Int))
  | 5 => v = .int .i64 (off + (s.size : Int) - 1)
  | 6 => True
  | _ => True

set_option maxRecDepth 100000 in
set_option maxHeartbeats 4000000 in
theorem Span_r68 (g : Nat) (X : Nat) (off : Int) (s : ByteArray) (fin : Bool) (l : List S95) (t0 : List Value) (d0 : List Deferred) (w : World) (Q : Exit → Act → World → Prop) (hl : t0.length = sp68_tab.length)
    (t0_ : t0[0]? = some (.func (.func 37) #[.pointer (some ⟨g, 0, none⟩)] #[])) (t3 : t0[3]? = some (.pointer (some ⟨X, 0, none⟩))) (kx0 : w.cell? ⟨X, 0, none⟩ = some (.int .i64 off)) (kx1 : w.cell? ⟨X, 1, none⟩ = some (.string s)) (kx2 : w.cell? ⟨X, 2, none⟩ = some (.bool fin)) (ho : 0 ≤ off ∧ off ≤ 4611686018427387903) (hs : s.size ≤ 4611686018427387903) (h : SetAt w g l) (hw : wf 0 l)
    (hQ : ∀ σ W, (SetAt W g (addL off (off + (s.size : Int) - 1) l) ∧ Only g w W) → Q .normal (lazyA (fun _ => true) σ t0 sp68_tab d0) W) :
    (Code.region 2 sp68_ops.toArray true).wp Try.prog Q { tmps := t0.toArray, defers := d0 } w := by
  refine wp_region_valsO (by kernel_rfl) sp68_tab (by kernel_rfl) hl (fun i => [].contains i) (fun i W W' => True) (fun L W => (L 6 = false → Below w.heap.size w W) ∧ (L 6 = true → (SetAt W g (addL off (off + (s.size : Int) - 1) l) ∧ Only g w W))) (sp68_val g X off s fin l) (⟨fun _ => below_drew (Below.refl _ _), fun e => by cases e⟩) ?hst ⟨⟨(fun j b h => by cases h), fun _ => rfl⟩, ⟨(fun j b h => by cases h), fun _ => rfl⟩, ⟨(fun j b h => by cases h), fun _ => rfl⟩, ⟨(fun j b h => by cases h), fun _ => rfl⟩, ⟨(fun j b h => by cases h), fun _ => rfl⟩, ⟨(fun j b h => by cases h), fun _ => rfl⟩, ⟨(fun j b h => by cases h), fun _ => rfl⟩, trivial⟩ ⟨?s0, ?s1, ?s2, ?s3, ?s4, ?s5, ?s6, trivial⟩ ?hskip ?hdone
  case hst =>
    intro L i j v W W' hLi hLj hne hcl hR h
    match j with
    | 0 => exact h
    | 1 => exact h
    | 2 => exact h
    | 3 => exact h
    | 4 => exact h
    | 5 => exact h
    | 6 => exact h
    | n + 7 => trivial

  case s0 =>
    intro _ L ρ W hLi hcl hold hJ hT
    have q0 := hT.2.1 0 _ t0_ rfl
    have nk : L 6 = false := Bool.eq_false_iff.2 fun e => by have a0 := hcl 6 0 (by rfl) e; rw [a0] at hLi; cases hLi
    have hB := hJ.1 nk
    refine Op1.of_run (v := .func (.func 37) #[.pointer (some ⟨g, 0, none⟩)] #[]) (W' := W) (by clear hT hJ hcl hold; go_simp) ⟨trivial, ⟨fun _ => hB, fun e => by rw [upd_ne (by decide), nk] at e; cases e⟩, rfl⟩

  case s1 =>
    intro _ L ρ W hLi hcl hold hJ hT
    have q3 := hT.2.1 3 _ t3 rfl
    have nk : L 6 = false := Bool.eq_false_iff.2 fun e => by have a2 := hcl 6 2 (by rfl) e; have a1 := hcl 2 1 (by rfl) a2; rw [a1] at hLi; cases hLi
    have hB := hJ.1 nk
    refine Op1.of_run (v := .pointer (some ⟨X, 0, none⟩)) (W' := W) (by clear hT hJ hcl hold; go_simp) ⟨trivial, ⟨fun _ => hB, fun e => by rw [upd_ne (by decide), nk] at e; cases e⟩, rfl⟩

  case s2 =>
    intro _ L ρ W hLi hcl hold hJ hT
    have q8 : ρ (.tmp 8) = .pointer (some ⟨X, 0, none⟩) := hT.1 8 1 rfl rfl
    have nk : L 6 = false := Bool.eq_false_iff.2 fun e => by have a2 := hcl 6 2 (by rfl) e; rw [a2] at hLi; cases hLi
    have hB := hJ.1 nk
    have cc := (hB.cell (World.block_lt_of_cell? _ _ kx0)).trans kx0
    refine Op1.of_run (v := .int .i64 off) (W' := W) (by clear hT hJ hcl hold; go_simp) ⟨trivial, ⟨fun _ => hB, fun e => by rw [upd_ne (by decide), nk] at e; cases e⟩, rfl⟩

  case s3 =>
    intro _ L ρ W hLi hcl hold hJ hT
    have q3 := hT.2.1 3 _ t3 rfl
    have nk : L 6 = false := Bool.eq_false_iff.2 fun e => by have a5 := hcl 6 5 (by rfl) e; have a4 := hcl 5 4 (by rfl) a5; have a3 := hcl 4 3 (by rfl) a4; rw [a3] at hLi; cases hLi
    have hB := hJ.1 nk
    have cc0 := (hB.cell (World.block_lt_of_cell? _ _ kx0)).trans kx0
    have cc1 := (hB.cell (World.block_lt_of_cell? _ _ kx1)).trans kx1
    have cc2 := (hB.cell (World.block_lt_of_cell? _ _ kx2)).trans kx2
    refine Op1.of_run (v := .agg #[.int .i64 off, .string s, .bool fin]) (W' := W) (by clear hT hJ hcl hold; go_simp) ⟨trivial, ⟨fun _ => hB, fun e => by rw [upd_ne (by decide), nk] at e; cases e⟩, rfl⟩

  case s4 =>
    intro _ L ρ W hLi hcl hold hJ hT
    have q10 : ρ (.tmp 10) = .agg #[.int .i64 off, .string s, .bool fin] := hT.1 10 3 rfl rfl
    have nk : L 6 = false := Bool.eq_false_iff.2 fun e => by have a5 := hcl 6 5 (by rfl) e; have a4 := hcl 5 4 (by rfl) a5; rw [a4] at hLi; cases hLi
    have hB := hJ.1 nk
    have qf := hT.2.2.2 63
    refine Op1.of_call (f := 63) (args := #[.agg #[.int .i64 off, .string s, .bool fin]]) (W' := W) (by clear hT hJ hcl hold; go_simp) ?_
    refine (OEnd_calls off s fin _ (by omega) hs).mono ?_
    rintro e2 W2 ⟨rfl, hb⟩
    exact ⟨_, rfl, trivial, ⟨fun _ => below_step hB hb, fun e => by rw [upd_ne (by decide), nk] at e; cases e⟩, rfl⟩

  case s5 =>
    intro _ L ρ W hLi hcl hold hJ hT
    have q11 : ρ (.tmp 11) = .int .i64 (off + (s.size : Int)) := hT.1 11 4 rfl rfl
    have qc := hT.2.2.1 (Go.Value.int Go.IntKind.i64 1)
    have nk : L 6 = false := Bool.eq_false_iff.2 fun e => by have a5 := hcl 6 5 (by rfl) e; rw [a5] at hLi; cases hLi
    have hB := hJ.1 nk
    have e1 : IntKind.i64.wrap (off + (s.size : Int) - 1) = off + (s.size : Int) - 1 := IntWalk.i64_in _ (by omega)
    refine Op1.of_run (v := .int .i64 (off + (s.size : Int) - 1)) (W' := W) (by clear hT hJ hcl hold; go_simp) ⟨trivial, ⟨fun _ => hB, fun e => by rw [upd_ne (by decide), nk] at e; cases e⟩, rfl⟩

  case s6 =>
    intro _ L ρ W hLi hcl hold hJ hT
    have q7 : ρ (.tmp 7) = .func (.func 37) #[.pointer (some ⟨g, 0, none⟩)] #[] := hT.1 7 0 rfl rfl
    have q9 : ρ (.tmp 9) = .int .i64 off := hT.1 9 2 rfl rfl
    have q12 : ρ (.tmp 12) = .int .i64 (off + (s.size : Int) - 1) := hT.1 12 5 rfl rfl
    have hB := hJ.1 hLi
    refine Op1.of_call (f := 37) (args := #[.pointer (some ⟨g, 0, none⟩), .int .i64 off, .int .i64 (off + (s.size : Int) - 1)]) (W' := W) (by clear hT hJ hcl hold; go_simp) ?_
    refine (Add_calls g off (off + (s.size : Int) - 1) l W (h.below hB) hw).mono ?_
    rintro e2 W2 ⟨rfl, h1, h2, _⟩
    exact ⟨_, rfl, trivial, ⟨(fun e => by rw [upd_self] at e; cases e), fun _ => ⟨h1, (Only.of_below hB).trans h2⟩⟩, trivial⟩

  case hskip => intro i hi; simp at hi

  case hdone =>
    intro σ L W hL hJ hV
    exact hQ σ W (hJ.2 (hL 6 (by decide)))
abbrev lk4_ops : List Oper := [{ dst := some 17, op := .move (.tmp 0), type := 37, pos := "outbox.go:79", after := #[], guard := none },
  { dst := some 18, op := .nilCheck (.tmp 17), type := 0, pos := "outbox.go:79", after := #[⟨0, .data⟩], guard := none },
  { dst := some 19, op := .fieldAddr 114 (.tmp 18) 1, type := 0, pos := "outbox.go:79", after := #[⟨1, .data⟩], guard := none },
  { dst := some 20, op := .load 3 (.tmp 19), type := 3, pos := "outbox.go:79", after := #[⟨2, .data⟩], guard := none },
  { dst := some 21, op := .move (.tmp 0), type := 37, pos := "outbox.go:79", after := #[], guard := none },
  { dst := some 22, op := .nilCheck (.tmp 21), type := 0, pos := "outbox.go:79", after := #[⟨4, .data⟩], guard := none },
  { dst := some 23, op := .fieldAddr 114 (.tmp 22) 1, type := 0, pos := "outbox.go:79", after := #[⟨5, .data⟩], guard := none },
  { dst := some 24, op := .load 3 (.tmp 23), type := 3, pos := "outbox.go:79", after := #[⟨6, .data⟩], guard := none },
  { dst := some 25, op := .move (.tmp 2), type := 3, pos := "outbox.go:79", after := #[], guard := none },
  { dst := some 26, op := .move (.tmp 0), type := 37, pos := "outbox.go:79", after := #[], guard := none },
  { dst := some 27, op := .nilCheck (.tmp 26), type := 0, pos := "outbox.go:79", after := #[⟨9, .data⟩], guard := none },
  { dst := some 28, op := .fieldAddr 114 (.tmp 27) 0, type := 0, pos := "outbox.go:79", after := #[⟨10, .data⟩], guard := none },
  { dst := some 29, op := .load 9 (.tmp 28), type := 9, pos := "outbox.go:79", after := #[⟨11, .data⟩], guard := none },
  { dst := some 30, op := .call { callee := .builtin .len, args := #[.tmp 29], argTypes := #[9] }, type := 3, pos := "outbox.go:79", after := #[⟨12, .data⟩], guard := none },
  { dst := some 31, op := .call { callee := .builtin .min, args := #[.tmp 25, .tmp 30], argTypes := #[3, 3] }, type := 3, pos := "outbox.go:79", after := #[⟨8, .data⟩, ⟨13, .data⟩], guard := none },
  { dst := some 32, op := .call { callee := .builtin .max, args := #[.tmp 24, .tmp 31], argTypes := #[3, 3] }, type := 3, pos := "outbox.go:79", after := #[⟨7, .data⟩, ⟨14, .data⟩], guard := none },
  { dst := some 8, op := .assign (.tmp 20), type := 3, pos := "outbox.go:79", after := #[⟨3, .data⟩, ⟨0, .phase⟩, ⟨1, .phase⟩, ⟨2, .phase⟩, ⟨3, .phase⟩, ⟨4, .textOnly .lateStores⟩, ⟨5, .textOnly .lateStores⟩, ⟨6, .textOnly .lateStores⟩, ⟨7, .textOnly .lateStores⟩, ⟨8, .textOnly .lateStores⟩, ⟨9, .textOnly .lateStores⟩, ⟨10, .textOnly .lateStores⟩, ⟨11, .textOnly .lateStores⟩, ⟨12, .textOnly .lateStores⟩, ⟨13, .textOnly .lateStoresUnsure⟩, ⟨14, .textOnly .lateStoresUnsure⟩, ⟨15, .textOnly .lateStoresUnsure⟩], guard := none },
  { dst := some 9, op := .assign (.tmp 32), type := 3, pos := "outbox.go:79", after := #[⟨15, .data⟩, ⟨16, .chain⟩, ⟨0, .phase⟩, ⟨1, .phase⟩, ⟨2, .phase⟩, ⟨3, .phase⟩, ⟨4, .phase⟩, ⟨5, .phase⟩, ⟨6, .phase⟩, ⟨7, .phase⟩, ⟨8, .phase⟩, ⟨9, .phase⟩, ⟨10, .phase⟩, ⟨11, .phase⟩, ⟨12, .phase⟩, ⟨13, .phase⟩, ⟨14, .phase⟩, ⟨15, .phase⟩, ⟨16, .phase⟩], guard := none }]
abbrev lk4_tab : List (Option Nat) := [none, none, none, none, none, none, none, none, some 16, some 17, none, none, none, none, none, none, none, some 0, some 1, some 2, some 3, some 4, some 5, some 6, some 7, some 8, some 9, some 10, some 11, some 12, some 13, some 14, some 15, none, none, none, none, none, none, none, none, none, none, none, none, none, none, none, none, none, none, none, none, none, none, none, none, none, none, none, none, none, none, none, none, none, none, none, none, none, none, none, none, none, none, none, none, none, none, none, none, none, none, none, none, none, none, none, none, none, none, none, none, none, none, none, none, none, none, none, none, none, none, none, none, none, none, none, none, none, none, none, none, none, none, none, none, none, none, none, none, none]

def lk4_val (g : Nat) (t : ByteArray) (S limit : Int) : Nat → Value → World → Prop := fun j v W => match j with
  | 0 => v = .pointer (some ⟨g, 0, none⟩)
  | 1 => v = .pointer (some ⟨g, 0, none⟩)
  | 2 => v = .pointer (some ⟨g, 1, none⟩)
  | 3 => v = .int .i64 S
  | 4 => v = .pointer (some ⟨g, 0, none⟩)
  | 5 => v = .pointer (some ⟨g, 0, none⟩)
  | 6 => v = .pointer (some ⟨g, 1, none⟩)
  | 7 => v = .int .i64 S
  | 8 => v = .int .i64 limit
  | 9 => v = .pointer (some ⟨g, 0, none⟩)
  | 10 => v = .pointer (some ⟨g, 0, none⟩)
  | 11 => v = .pointer (some ⟨g, 0, none⟩)
  | 12 => v = .string t
  | 13 => v = .int .i64 (t.size : Int)
  | 14 => v = .int .i64 (if (t.size : Int) < limit then (t.size : Int) else limit)
  | 15 => v = .int .i64 (if S < (if (t.size : Int) < limit then (t.size : Int) else limit) then (if (t.size : Int) < limit then (t.size : Int) else limit) else S)
  | 16 => v = .int .i64 S
  | 17 => v = .int .i64 (if S < (if (t.size : Int) < limit then (t.size : Int) else limit) then (if (t.size : Int) < limit then (t.size : Int) else limit) else S)
  | _ => True

set_option maxRecDepth 100000 in
set_option maxHeartbeats 4000000 in
theorem Look_r4 (g : Nat) (t : ByteArray) (S limit : Int) (t0 : List Value) (d0 : List Deferred) (w : World) (Q : Exit → Act → World → Prop) (hl : t0.length = lk4_tab.length)
    (t0_ : t0[0]? = some (.pointer (some ⟨g, 0, none⟩))) (t2 : t0[2]? = some (.int .i64 limit)) (kb0 : w.cell? ⟨g, 0, none⟩ = some (.string t)) (kb1 : w.cell? ⟨g, 1, none⟩ = some (.int .i64 S))
    (hQ : ∀ σ W, Below w.heap.size w W ∧ σ 16 = .int .i64 S ∧ σ 17 = .int .i64 (if S < (if (t.size : Int) < limit then (t.size : Int) else limit) then (if (t.size : Int) < limit then (t.size : Int) else limit) else S) → Q .normal (lazyA (fun _ => true) σ t0 lk4_tab d0) W) :
    (Code.region 4 lk4_ops.toArray true).wp Try.prog Q { tmps := t0.toArray, defers := d0 } w := by
  refine wp_region_valsO (by kernel_rfl) lk4_tab (by kernel_rfl) hl (fun i => [].contains i) (fun i W W' => Below W.heap.size W W') (fun L W => Below w.heap.size w W) (lk4_val g t S limit) (below_drew (Below.refl _ _)) ?hst ⟨⟨(fun j b h => by cases h), fun _ => rfl⟩, ⟨(fun j b h => by cases h), fun _ => rfl⟩, ⟨(fun j b h => by cases h), fun _ => rfl⟩, ⟨(fun j b h => by cases h), fun _ => rfl⟩, ⟨(fun j b h => by cases h), fun _ => rfl⟩, ⟨(fun j b h => by cases h), fun _ => rfl⟩, ⟨(fun j b h => by cases h), fun _ => rfl⟩, ⟨(fun j b h => by cases h), fun _ => rfl⟩, ⟨(fun j b h => by cases h), fun _ => rfl⟩, ⟨(fun j b h => by cases h), fun _ => rfl⟩, ⟨(fun j b h => by cases h), fun _ => rfl⟩, ⟨(fun j b h => by cases h), fun _ => rfl⟩, ⟨(fun j b h => by cases h), fun _ => rfl⟩, ⟨(fun j b h => by cases h), fun _ => rfl⟩, ⟨(fun j b h => by cases h), fun _ => rfl⟩, ⟨(fun j b h => by cases h), fun _ => rfl⟩, ⟨(fun j b h => by cases h), fun _ => rfl⟩, ⟨(fun j b h => by cases h), fun _ => rfl⟩, trivial⟩ ⟨?s0, ?s1, ?s2, ?s3, ?s4, ?s5, ?s6, ?s7, ?s8, ?s9, ?s10, ?s11, ?s12, ?s13, ?s14, ?s15, ?s16, ?s17, trivial⟩ ?hskip ?hdone
  case hst =>
    intro L i j v W W' hLi hLj hne hcl hR h
    match j with
    | 0 => exact h
    | 1 => exact h
    | 2 => exact h
    | 3 => exact h
    | 4 => exact h
    | 5 => exact h
    | 6 => exact h
    | 7 => exact h
    | 8 => exact h
    | 9 => exact h
    | 10 => exact h
    | 11 => exact h
    | 12 => exact h
    | 13 => exact h
    | 14 => exact h
    | 15 => exact h
    | 16 => exact h
    | 17 => exact h
    | n + 18 => trivial

  case s0 =>
    intro _ L ρ W hLi hcl hold hJ hT
    have q0 := hT.2.1 0 _ t0_ rfl
    refine Op1.of_run (v := .pointer (some ⟨g, 0, none⟩)) (W' := W) (by clear hT hJ hcl hold; go_simp) ⟨Below.refl _ _, hJ, rfl⟩

  case s1 =>
    intro _ L ρ W hLi hcl hold hJ hT
    have q17 : ρ (.tmp 17) = .pointer (some ⟨g, 0, none⟩) := hT.1 17 0 rfl rfl
    refine Op1.of_run (v := .pointer (some ⟨g, 0, none⟩)) (W' := W) (by clear hT hJ hcl hold; go_simp) ⟨Below.refl _ _, hJ, rfl⟩

  case s2 =>
    intro _ L ρ W hLi hcl hold hJ hT
    have q18 : ρ (.tmp 18) = .pointer (some ⟨g, 0, none⟩) := hT.1 18 1 rfl rfl
    refine Op1.of_run (v := .pointer (some ⟨g, 1, none⟩)) (W' := W) (by clear hT hJ hcl hold; go_simp) ⟨Below.refl _ _, hJ, rfl⟩

  case s3 =>
    intro _ L ρ W hLi hcl hold hJ hT
    have q19 : ρ (.tmp 19) = .pointer (some ⟨g, 1, none⟩) := hT.1 19 2 rfl rfl
    have cc := (hJ.cell (World.block_lt_of_cell? _ _ kb1)).trans kb1
    refine Op1.of_run (v := .int .i64 S) (W' := W) (by clear hT hJ hcl hold; go_simp) ⟨Below.refl _ _, hJ, rfl⟩

  case s4 =>
    intro _ L ρ W hLi hcl hold hJ hT
    have q0 := hT.2.1 0 _ t0_ rfl
    refine Op1.of_run (v := .pointer (some ⟨g, 0, none⟩)) (W' := W) (by clear hT hJ hcl hold; go_simp) ⟨Below.refl _ _, hJ, rfl⟩

  case s5 =>
    intro _ L ρ W hLi hcl hold hJ hT
    have q21 : ρ (.tmp 21) = .pointer (some ⟨g, 0, none⟩) := hT.1 21 4 rfl rfl
    refine Op1.of_run (v := .pointer (some ⟨g, 0, none⟩)) (W' := W) (by clear hT hJ hcl hold; go_simp) ⟨Below.refl _ _, hJ, rfl⟩

  case s6 =>
    intro _ L ρ W hLi hcl hold hJ hT
    have q22 : ρ (.tmp 22) = .pointer (some ⟨g, 0, none⟩) := hT.1 22 5 rfl rfl
    refine Op1.of_run (v := .pointer (some ⟨g, 1, none⟩)) (W' := W) (by clear hT hJ hcl hold; go_simp) ⟨Below.refl _ _, hJ, rfl⟩

  case s7 =>
    intro _ L ρ W hLi hcl hold hJ hT
    have q23 : ρ (.tmp 23) = .pointer (some ⟨g, 1, none⟩) := hT.1 23 6 rfl rfl
    have cc := (hJ.cell (World.block_lt_of_cell? _ _ kb1)).trans kb1
    refine Op1.of_run (v := .int .i64 S) (W' := W) (by clear hT hJ hcl hold; go_simp) ⟨Below.refl _ _, hJ, rfl⟩

  case s8 =>
    intro _ L ρ W hLi hcl hold hJ hT
    have q2 := hT.2.1 2 _ t2 rfl
    refine Op1.of_run (v := .int .i64 limit) (W' := W) (by clear hT hJ hcl hold; go_simp) ⟨Below.refl _ _, hJ, rfl⟩

  case s9 =>
    intro _ L ρ W hLi hcl hold hJ hT
    have q0 := hT.2.1 0 _ t0_ rfl
    refine Op1.of_run (v := .pointer (some ⟨g, 0, none⟩)) (W' := W) (by clear hT hJ hcl hold; go_simp) ⟨Below.refl _ _, hJ, rfl⟩

  case s10 =>
    intro _ L ρ W hLi hcl hold hJ hT
    have q26 : ρ (.tmp 26) = .pointer (some ⟨g, 0, none⟩) := hT.1 26 9 rfl rfl
    refine Op1.of_run (v := .pointer (some ⟨g, 0, none⟩)) (W' := W) (by clear hT hJ hcl hold; go_simp) ⟨Below.refl _ _, hJ, rfl⟩

  case s11 =>
    intro _ L ρ W hLi hcl hold hJ hT
    have q27 : ρ (.tmp 27) = .pointer (some ⟨g, 0, none⟩) := hT.1 27 10 rfl rfl
    refine Op1.of_run (v := .pointer (some ⟨g, 0, none⟩)) (W' := W) (by clear hT hJ hcl hold; go_simp) ⟨Below.refl _ _, hJ, rfl⟩

  case s12 =>
    intro _ L ρ W hLi hcl hold hJ hT
    have q28 : ρ (.tmp 28) = .pointer (some ⟨g, 0, none⟩) := hT.1 28 11 rfl rfl
    have cc := (hJ.cell (World.block_lt_of_cell? _ _ kb0)).trans kb0
    refine Op1.of_run (v := .string t) (W' := W) (by clear hT hJ hcl hold; go_simp) ⟨Below.refl _ _, hJ, rfl⟩

  case s13 =>
    intro _ L ρ W hLi hcl hold hJ hT
    have q29 : ρ (.tmp 29) = .string t := hT.1 29 12 rfl rfl
    refine Op1.of_run (v := .int .i64 (t.size : Int)) (W' := W) (by clear hT hJ hcl hold; go_simp) ⟨Below.refl _ _, hJ, rfl⟩

  case s14 =>
    intro _ L ρ W hLi hcl hold hJ hT
    have q25 : ρ (.tmp 25) = .int .i64 limit := hT.1 25 8 rfl rfl
    have q30 : ρ (.tmp 30) = .int .i64 (t.size : Int) := hT.1 30 13 rfl rfl
    refine Op1.of_run (v := .int .i64 (if (t.size : Int) < limit then (t.size : Int) else limit)) (W' := W) (by clear hT hJ hcl hold; go_simp) ⟨Below.refl _ _, hJ, rfl⟩

  case s15 =>
    intro _ L ρ W hLi hcl hold hJ hT
    have q24 : ρ (.tmp 24) = .int .i64 S := hT.1 24 7 rfl rfl
    have q31 : ρ (.tmp 31) = .int .i64 (if (t.size : Int) < limit then (t.size : Int) else limit) := hT.1 31 14 rfl rfl
    refine Op1.of_run (v := .int .i64 (if S < (if (t.size : Int) < limit then (t.size : Int) else limit) then (if (t.size : Int) < limit then (t.size : Int) else limit) else S)) (W' := W) (by clear hT hJ hcl hold; go_simp) ⟨Below.refl _ _, hJ, rfl⟩

  case s16 =>
    intro _ L ρ W hLi hcl hold hJ hT
    have q20 : ρ (.tmp 20) = .int .i64 S := hT.1 20 3 rfl rfl
    refine Op1.of_run (v := .int .i64 S) (W' := W) (by clear hT hJ hcl hold; go_simp) ⟨Below.refl _ _, hJ, rfl⟩

  case s17 =>
    intro _ L ρ W hLi hcl hold hJ hT
    have q32 : ρ (.tmp 32) = .int .i64 (if S < (if (t.size : Int) < limit then (t.size : Int) else limit) then (if (t.size : Int) < limit then (t.size : Int) else limit) else S) := hT.1 32 15 rfl rfl
    refine Op1.of_run (v := .int .i64 (if S < (if (t.size : Int) < limit then (t.size : Int) else limit) then (if (t.size : Int) < limit then (t.size : Int) else limit) else S)) (W' := W) (by clear hT hJ hcl hold; go_simp) ⟨Below.refl _ _, hJ, rfl⟩

  case hskip => intro i hi; simp at hi

  case hdone =>
    intro σ L W hL hJ hV
    exact hQ σ W ⟨hJ, hV 16 (by decide), hV 17 (by decide)⟩
abbrev lk7_ops : List Oper := [{ dst := some 41, op := .move (.tmp 10), type := 74, pos := "outbox.go:82", after := #[], guard := none },
  { dst := some 42, op := .indexAddr 74 (.tmp 41) (.const (.int .i64 0)), type := 0, pos := "outbox.go:82", after := #[⟨0, .data⟩], guard := none },
  { dst := some 43, op := .fieldAddr 95 (.tmp 42) 0, type := 0, pos := "outbox.go:82", after := #[⟨1, .data⟩], guard := none },
  { dst := some 44, op := .load 3 (.tmp 43), type := 3, pos := "outbox.go:82", after := #[⟨2, .data⟩], guard := none },
  { dst := some 45, op := .move (.tmp 10), type := 74, pos := "outbox.go:82", after := #[⟨9, .gcOnly .lateStores⟩], guard := none },
  { dst := some 46, op := .indexAddr 74 (.tmp 45) (.const (.int .i64 0)), type := 0, pos := "outbox.go:82", after := #[⟨4, .data⟩, ⟨9, .gcOnly .lateStores⟩], guard := none },
  { dst := some 47, op := .fieldAddr 95 (.tmp 46) 1, type := 0, pos := "outbox.go:82", after := #[⟨5, .data⟩, ⟨9, .gcOnly .lateStores⟩], guard := none },
  { dst := some 48, op := .load 3 (.tmp 47), type := 3, pos := "outbox.go:82", after := #[⟨6, .data⟩, ⟨9, .gcOnly .lateStores⟩], guard := none },
  { dst := some 49, op := .binOp .add 3 (.tmp 48) (.const (.int .i64 1)) 3, type := 3, pos := "outbox.go:82", after := #[⟨7, .data⟩, ⟨9, .gcOnly .lateStores⟩], guard := none },
  { dst := some 8, op := .assign (.tmp 44), type := 3, pos := "outbox.go:82", after := #[⟨3, .data⟩, ⟨0, .phase⟩, ⟨1, .phase⟩, ⟨2, .phase⟩, ⟨3, .phase⟩, ⟨4, .textOnly .lateStores⟩, ⟨5, .textOnly .lateStores⟩, ⟨6, .textOnly .lateStores⟩, ⟨7, .textOnly .lateStores⟩, ⟨8, .textOnly .lateStores⟩], guard := none },
  { dst := some 9, op := .assign (.tmp 49), type := 3, pos := "outbox.go:82", after := #[⟨8, .data⟩, ⟨9, .chain⟩, ⟨0, .phase⟩, ⟨1, .phase⟩, ⟨2, .phase⟩, ⟨3, .phase⟩, ⟨4, .phase⟩, ⟨5, .phase⟩, ⟨6, .phase⟩, ⟨7, .phase⟩, ⟨8, .phase⟩, ⟨9, .phase⟩], guard := none }]
abbrev lk7_tab : List (Option Nat) := [none, none, none, none, none, none, none, none, some 9, some 10, none, none, none, none, none, none, none, none, none, none, none, none, none, none, none, none, none, none, none, none, none, none, none, none, none, none, none, none, none, none, none, some 0, some 1, some 2, some 3, some 4, some 5, some 6, some 7, some 8, none, none, none, none, none, none, none, none, none, none, none, none, none, none, none, none, none, none, none, none, none, none, none, none, none, none, none, none, none, none, none, none, none, none, none, none, none, none, none, none, none, none, none, none, none, none, none, none, none, none, none, none, none, none, none, none, none, none, none, none, none, none, none, none, none, none, none, none, none, none, none, none]

def lk7_val (b o n c : Nat) (f u : Int) : Nat → Value → World → Prop := fun j v W => match j with
  | 0 => v = .slice (some ⟨b, o, none⟩) n c
  | 1 => v = .pointer (some ⟨b, o, none⟩)
  | 2 => v = .pointer (some ⟨b, o, none⟩)
  | 3 => v = .int .i64 f
  | 4 => v = .slice (some ⟨b, o, none⟩) n c
  | 5 => v = .pointer (some ⟨b, o, none⟩)
  | 6 => v = .pointer (some ⟨b, o + 1, none⟩)
  | 7 => v = .int .i64 u
  | 8 => v = .int .i64 (u + 1)
  | 9 => v = .int .i64 f
  | 10 => v = .int .i64 (u + 1)
  | _ => True

set_option maxRecDepth 100000 in
set_option maxHeartbeats 4000000 in
theorem Look_r7 (b o n c : Nat) (f u : Int) (t0 : List Value) (d0 : List Deferred) (w : World) (Q : Exit → Act → World → Prop) (hl : t0.length = lk7_tab.length)
    (t10 : t0[10]? = some (.slice (some ⟨b, o, none⟩) n c)) (hn : 0 < n) (k0 : w.cell? ⟨b, o, none⟩ = some (.int .i64 f)) (k1 : w.cell? ⟨b, o + 1, none⟩ = some (.int .i64 u)) (hu : 0 ≤ u ∧ u ≤ 1099511627776)
    (hQ : ∀ σ W, Below w.heap.size w W ∧ σ 9 = .int .i64 f ∧ σ 10 = .int .i64 (u + 1) → Q .normal (lazyA (fun _ => true) σ t0 lk7_tab d0) W) :
    (Code.region 7 lk7_ops.toArray true).wp Try.prog Q { tmps := t0.toArray, defers := d0 } w := by
  refine wp_region_valsO (by kernel_rfl) lk7_tab (by kernel_rfl) hl (fun i => [].contains i) (fun i W W' => Below W.heap.size W W') (fun L W => Below w.heap.size w W) (lk7_val b o n c f u) (below_drew (Below.refl _ _)) ?hst ⟨⟨(fun j b h => by cases h), fun _ => rfl⟩, ⟨(fun j b h => by cases h), fun _ => rfl⟩, ⟨(fun j b h => by cases h), fun _ => rfl⟩, ⟨(fun j b h => by cases h), fun _ => rfl⟩, ⟨(fun j b h => by cases h), fun _ => rfl⟩, ⟨(fun j b h => by cases h), fun _ => rfl⟩, ⟨(fun j b h => by cases h), fun _ => rfl⟩, ⟨(fun j b h => by cases h), fun _ => rfl⟩, ⟨(fun j b h => by cases h), fun _ => rfl⟩, ⟨(fun j b h => by cases h), fun _ => rfl⟩, ⟨(fun j b h => by cases h), fun _ => rfl⟩, trivial⟩ ⟨?s0, ?s1, ?s2, ?s3, ?s4, ?s5, ?s6, ?s7, ?s8, ?s9, ?s10, trivial⟩ ?hskip ?hdone
  case hst =>
    intro L i j v W W' hLi hLj hne hcl hR h
    match j with
    | 0 => exact h
    | 1 => exact h
    | 2 => exact h
    | 3 => exact h
    | 4 => exact h
    | 5 => exact h
    | 6 => exact h
    | 7 => exact h
    | 8 => exact h
    | 9 => exact h
    | 10 => exact h
    | n + 11 => trivial

  case s0 =>
    intro _ L ρ W hLi hcl hold hJ hT
    have q10 := hT.2.1 10 _ t10 rfl
    refine Op1.of_run (v := .slice (some ⟨b, o, none⟩) n c) (W' := W) (by clear hT hJ hcl hold; go_simp) ⟨Below.refl _ _, hJ, rfl⟩

  case s1 =>
    intro _ L ρ W hLi hcl hold hJ hT
    have q41 : ρ (.tmp 41) = .slice (some ⟨b, o, none⟩) n c := hT.1 41 0 rfl rfl
    have qc := hT.2.2.1 (Go.Value.int Go.IntKind.i64 0)
    have i1 : (0 : Int) < (n : Int) := by omega
    refine Op1.of_run (v := .pointer (some ⟨b, o, none⟩)) (W' := W) (by clear hT hJ hcl hold; go_simp) ⟨Below.refl _ _, hJ, rfl⟩

  case s2 =>
    intro _ L ρ W hLi hcl hold hJ hT
    have q42 : ρ (.tmp 42) = .pointer (some ⟨b, o, none⟩) := hT.1 42 1 rfl rfl
    refine Op1.of_run (v := .pointer (some ⟨b, o, none⟩)) (W' := W) (by clear hT hJ hcl hold; go_simp) ⟨Below.refl _ _, hJ, rfl⟩

  case s3 =>
    intro _ L ρ W hLi hcl hold hJ hT
    have q43 : ρ (.tmp 43) = .pointer (some ⟨b, o, none⟩) := hT.1 43 2 rfl rfl
    have cc := (hJ.cell (World.block_lt_of_cell? _ _ k0)).trans k0
    refine Op1.of_run (v := .int .i64 f) (W' := W) (by clear hT hJ hcl hold; go_simp) ⟨Below.refl _ _, hJ, rfl⟩

  case s4 =>
    intro _ L ρ W hLi hcl hold hJ hT
    have q10 := hT.2.1 10 _ t10 rfl
    refine Op1.of_run (v := .slice (some ⟨b, o, none⟩) n c) (W' := W) (by clear hT hJ hcl hold; go_simp) ⟨Below.refl _ _, hJ, rfl⟩

  case s5 =>
    intro _ L ρ W hLi hcl hold hJ hT
    have q45 : ρ (.tmp 45) = .slice (some ⟨b, o, none⟩) n c := hT.1 45 4 rfl rfl
    have qc := hT.2.2.1 (Go.Value.int Go.IntKind.i64 0)
    have i1 : (0 : Int) < (n : Int) := by omega
    refine Op1.of_run (v := .pointer (some ⟨b, o, none⟩)) (W' := W) (by clear hT hJ hcl hold; go_simp) ⟨Below.refl _ _, hJ, rfl⟩

  case s6 =>
    intro _ L ρ W hLi hcl hold hJ hT
    have q46 : ρ (.tmp 46) = .pointer (some ⟨b, o, none⟩) := hT.1 46 5 rfl rfl
    refine Op1.of_run (v := .pointer (some ⟨b, o + 1, none⟩)) (W' := W) (by clear hT hJ hcl hold; go_simp) ⟨Below.refl _ _, hJ, rfl⟩

  case s7 =>
    intro _ L ρ W hLi hcl hold hJ hT
    have q47 : ρ (.tmp 47) = .pointer (some ⟨b, o + 1, none⟩) := hT.1 47 6 rfl rfl
    have cc := (hJ.cell (World.block_lt_of_cell? _ _ k1)).trans k1
    refine Op1.of_run (v := .int .i64 u) (W' := W) (by clear hT hJ hcl hold; go_simp) ⟨Below.refl _ _, hJ, rfl⟩

  case s8 =>
    intro _ L ρ W hLi hcl hold hJ hT
    have q48 : ρ (.tmp 48) = .int .i64 u := hT.1 48 7 rfl rfl
    have qc := hT.2.2.1 (Go.Value.int Go.IntKind.i64 1)
    have e1 : IntKind.i64.wrap (u + 1) = u + 1 := IntWalk.i64_in _ (by omega)
    refine Op1.of_run (v := .int .i64 (u + 1)) (W' := W) (by clear hT hJ hcl hold; go_simp) ⟨Below.refl _ _, hJ, rfl⟩

  case s9 =>
    intro _ L ρ W hLi hcl hold hJ hT
    have q44 : ρ (.tmp 44) = .int .i64 f := hT.1 44 3 rfl rfl
    refine Op1.of_run (v := .int .i64 f) (W' := W) (by clear hT hJ hcl hold; go_simp) ⟨Below.refl _ _, hJ, rfl⟩

  case s10 =>
    intro _ L ρ W hLi hcl hold hJ hT
    have q49 : ρ (.tmp 49) = .int .i64 (u + 1) := hT.1 49 8 rfl rfl
    refine Op1.of_run (v := .int .i64 (u + 1)) (W' := W) (by clear hT hJ hcl hold; go_simp) ⟨Below.refl _ _, hJ, rfl⟩

  case hskip => intro i hi; simp at hi

  case hdone =>
    intro σ L W hL hJ hV
    exact hQ σ W ⟨hJ, hV 9 (by decide), hV 10 (by decide)⟩
abbrev nx4_ops : List Oper := [{ dst := some 20, op := .move (.tmp 0), type := 37, pos := "outbox.go:101", after := #[], guard := none },
  { dst := some 21, op := .move (.tmp 0), type := 37, pos := "outbox.go:101", after := #[], guard := none },
  { dst := some 22, op := .nilCheck (.tmp 21), type := 0, pos := "outbox.go:101", after := #[⟨1, .data⟩], guard := none },
  { dst := some 23, op := .fieldAddr 114 (.tmp 22) 1, type := 0, pos := "outbox.go:101", after := #[⟨2, .data⟩], guard := none },
  { dst := some 24, op := .load 3 (.tmp 23), type := 3, pos := "outbox.go:101", after := #[⟨3, .data⟩], guard := none },
  { dst := some 25, op := .load 52 (.tmp 8), type := 52, pos := "outbox.go:101", after := #[], guard := none },
  { dst := some 26, op := .call { callee := .value (.func 63), args := #[.tmp 25], argTypes := #[52] }, type := 3, pos := "outbox.go:101", after := #[⟨5, .data⟩], guard := none },
  { dst := some 27, op := .call { callee := .builtin .max, args := #[.tmp 24, .tmp 26], argTypes := #[3, 3] }, type := 3, pos := "outbox.go:101", after := #[⟨4, .data⟩, ⟨6, .data⟩], guard := none },
  { dst := some 28, op := .nilCheck (.tmp 20), type := 0, pos := "outbox.go:101", after := #[⟨0, .data⟩, ⟨0, .phase⟩, ⟨1, .phase⟩, ⟨2, .phase⟩, ⟨3, .phase⟩, ⟨4, .phase⟩, ⟨5, .phase⟩, ⟨6, .phase⟩, ⟨7, .phase⟩], guard := none },
  { dst := some 29, op := .fieldAddr 114 (.tmp 28) 1, type := 0, pos := "outbox.go:101", after := #[⟨8, .data⟩, ⟨0, .phase⟩, ⟨1, .phase⟩, ⟨2, .phase⟩, ⟨3, .phase⟩, ⟨4, .phase⟩, ⟨5, .phase⟩, ⟨6, .phase⟩, ⟨7, .phase⟩], guard := none },
  { dst := none, op := .store 3 (.tmp 29) (.tmp 27), type := 0, pos := "outbox.go:101", after := #[⟨9, .data⟩, ⟨7, .data⟩, ⟨6, .chain⟩, ⟨0, .phase⟩, ⟨1, .phase⟩, ⟨2, .phase⟩, ⟨3, .phase⟩, ⟨4, .phase⟩, ⟨5, .phase⟩, ⟨6, .phase⟩, ⟨7, .phase⟩], guard := none }]
abbrev nx4_tab : List (Option Nat) := [none, none, none, none, none, none, none, none, none, none, none, none, none, none, none, none, none, none, none, none, some 0, some 1, some 2, some 3, some 4, some 5, some 6, some 7, some 8, some 9, none, none, none, none, none, none, none, none, none, none, none, none, none, none, none, none, none, none]

def nx4_val (g : Nat) (t : ByteArray) (S : Int) (cs : Array Value) (X : Nat) (off : Int) (s : ByteArray) (fin : Bool) : Nat → Value → World → Prop := fun j v W => match j with
  | 0 => v = .pointer (some ⟨g, 0, none⟩)
  | 1 => v = .pointer (some ⟨g, 0, none⟩)
  | 2 => v = .pointer (some ⟨g, 0, none⟩)
  | 3 => v = .pointer (some ⟨g, 1, none⟩)
  | 4 => v = .int .i64 S
  | 5 => v = .agg #[.int .i64 off, .string s, .bool fin]
  | 6 => v = .int .i64 (off + (s.size : Int))
  | 7 => v = .int .i64 (if S < (off + (s.size : Int)) then (off + (s.size : Int)) else S)
  | 8 => v = .pointer (some ⟨g, 0, none⟩)
  | 9 => v = .pointer (some ⟨g, 1, none⟩)
  | 10 => True
  | _ => True

set_option maxRecDepth 100000 in
set_option maxHeartbeats 4000000 in
theorem Next_r4 (g : Nat) (t : ByteArray) (S : Int) (cs : Array Value) (X : Nat) (off : Int) (s : ByteArray) (fin : Bool) (t0 : List Value) (d0 : List Deferred) (w : World) (Q : Exit → Act → World → Prop) (hl : t0.length = nx4_tab.length)
    (t0_ : t0[0]? = some (.pointer (some ⟨g, 0, none⟩))) (t8 : t0[8]? = some (.pointer (some ⟨X, 0, none⟩))) (kb1 : w.cell? ⟨g, 1, none⟩ = some (.int .i64 S)) (kx0 : w.cell? ⟨X, 0, none⟩ = some (.int .i64 off)) (kx1 : w.cell? ⟨X, 1, none⟩ = some (.string s)) (kx2 : w.cell? ⟨X, 2, none⟩ = some (.bool fin)) (ho : 0 ≤ off ∧ off ≤ 4611686018427387903) (hs : s.size ≤ 4611686018427387903) (hb : w.heap[g]? = some (.cells cs 114 (0, 0))) (hg : (g : Nat) ≠ X)
    (hQ : ∀ σ W, (∃ W0, Below w.heap.size w W0 ∧ W = W0.setCell ⟨g, 1, none⟩ (.int .i64 (if S < off + (s.size : Int) then off + (s.size : Int) else S))) → Q .normal (lazyA (fun _ => true) σ t0 nx4_tab d0) W) :
    (Code.region 4 nx4_ops.toArray true).wp Try.prog Q { tmps := t0.toArray, defers := d0 } w := by
  refine wp_region_valsO (by kernel_rfl) nx4_tab (by kernel_rfl) hl (fun i => [].contains i) (fun i W W' => True) (fun L W => (L 10 = false → Below w.heap.size w W) ∧ (L 10 = true → (∃ W0, Below w.heap.size w W0 ∧ W = W0.setCell ⟨g, 1, none⟩ (.int .i64 (if S < off + (s.size : Int) then off + (s.size : Int) else S))))) (nx4_val g t S cs X off s fin) (⟨fun _ => below_drew (Below.refl _ _), fun e => by cases e⟩) ?hst ⟨⟨(fun j b h => by cases h), fun _ => rfl⟩, ⟨(fun j b h => by cases h), fun _ => rfl⟩, ⟨(fun j b h => by cases h), fun _ => rfl⟩, ⟨(fun j b h => by cases h), fun _ => rfl⟩, ⟨(fun j b h => by cases h), fun _ => rfl⟩, ⟨(fun j b h => by cases h), fun _ => rfl⟩, ⟨(fun j b h => by cases h), fun _ => rfl⟩, ⟨(fun j b h => by cases h), fun _ => rfl⟩, ⟨(fun j b h => by cases h), fun _ => rfl⟩, ⟨(fun j b h => by cases h), fun _ => rfl⟩, ⟨(fun j b h => by cases h), fun _ => rfl⟩, trivial⟩ ⟨?s0, ?s1, ?s2, ?s3, ?s4, ?s5, ?s6, ?s7, ?s8, ?s9, ?s10, trivial⟩ ?hskip ?hdone
  case hst =>
    intro L i j v W W' hLi hLj hne hcl hR h
    match j with
    | 0 => exact h
    | 1 => exact h
    | 2 => exact h
    | 3 => exact h
    | 4 => exact h
    | 5 => exact h
    | 6 => exact h
    | 7 => exact h
    | 8 => exact h
    | 9 => exact h
    | 10 => exact h
    | n + 11 => trivial

  case s0 =>
    intro _ L ρ W hLi hcl hold hJ hT
    have q0 := hT.2.1 0 _ t0_ rfl
    have nk : L 10 = false := Bool.eq_false_iff.2 fun e => by have a9 := hcl 10 9 (by rfl) e; have a8 := hcl 9 8 (by rfl) a9; have a0 := hcl 8 0 (by rfl) a8; rw [a0] at hLi; cases hLi
    have hB := hJ.1 nk
    refine Op1.of_run (v := .pointer (some ⟨g, 0, none⟩)) (W' := W) (by clear hT hJ hcl hold; go_simp) ⟨trivial, ⟨fun _ => hB, fun e => by rw [upd_ne (by decide), nk] at e; cases e⟩, rfl⟩

  case s1 =>
    intro _ L ρ W hLi hcl hold hJ hT
    have q0 := hT.2.1 0 _ t0_ rfl
    have nk : L 10 = false := Bool.eq_false_iff.2 fun e => by have a7 := hcl 10 7 (by rfl) e; have a4 := hcl 7 4 (by rfl) a7; have a3 := hcl 4 3 (by rfl) a4; have a2 := hcl 3 2 (by rfl) a3; have a1 := hcl 2 1 (by rfl) a2; rw [a1] at hLi; cases hLi
    have hB := hJ.1 nk
    refine Op1.of_run (v := .pointer (some ⟨g, 0, none⟩)) (W' := W) (by clear hT hJ hcl hold; go_simp) ⟨trivial, ⟨fun _ => hB, fun e => by rw [upd_ne (by decide), nk] at e; cases e⟩, rfl⟩

  case s2 =>
    intro _ L ρ W hLi hcl hold hJ hT
    have q21 : ρ (.tmp 21) = .pointer (some ⟨g, 0, none⟩) := hT.1 21 1 rfl rfl
    have nk : L 10 = false := Bool.eq_false_iff.2 fun e => by have a7 := hcl 10 7 (by rfl) e; have a4 := hcl 7 4 (by rfl) a7; have a3 := hcl 4 3 (by rfl) a4; have a2 := hcl 3 2 (by rfl) a3; rw [a2] at hLi; cases hLi
    have hB := hJ.1 nk
    refine Op1.of_run (v := .pointer (some ⟨g, 0, none⟩)) (W' := W) (by clear hT hJ hcl hold; go_simp) ⟨trivial, ⟨fun _ => hB, fun e => by rw [upd_ne (by decide), nk] at e; cases e⟩, rfl⟩

  case s3 =>
    intro _ L ρ W hLi hcl hold hJ hT
    have q22 : ρ (.tmp 22) = .pointer (some ⟨g, 0, none⟩) := hT.1 22 2 rfl rfl
    have nk : L 10 = false := Bool.eq_false_iff.2 fun e => by have a7 := hcl 10 7 (by rfl) e; have a4 := hcl 7 4 (by rfl) a7; have a3 := hcl 4 3 (by rfl) a4; rw [a3] at hLi; cases hLi
    have hB := hJ.1 nk
    refine Op1.of_run (v := .pointer (some ⟨g, 1, none⟩)) (W' := W) (by clear hT hJ hcl hold; go_simp) ⟨trivial, ⟨fun _ => hB, fun e => by rw [upd_ne (by decide), nk] at e; cases e⟩, rfl⟩

  case s4 =>
    intro _ L ρ W hLi hcl hold hJ hT
    have q23 : ρ (.tmp 23) = .pointer (some ⟨g, 1, none⟩) := hT.1 23 3 rfl rfl
    have nk : L 10 = false := Bool.eq_false_iff.2 fun e => by have a7 := hcl 10 7 (by rfl) e; have a4 := hcl 7 4 (by rfl) a7; rw [a4] at hLi; cases hLi
    have hB := hJ.1 nk
    have cc := (hB.cell (World.block_lt_of_cell? _ _ kb1)).trans kb1
    refine Op1.of_run (v := .int .i64 S) (W' := W) (by clear hT hJ hcl hold; go_simp) ⟨trivial, ⟨fun _ => hB, fun e => by rw [upd_ne (by decide), nk] at e; cases e⟩, rfl⟩

  case s5 =>
    intro _ L ρ W hLi hcl hold hJ hT
    have q8 := hT.2.1 8 _ t8 rfl
    have nk : L 10 = false := Bool.eq_false_iff.2 fun e => by have a7 := hcl 10 7 (by rfl) e; have a6 := hcl 7 6 (by rfl) a7; have a5 := hcl 6 5 (by rfl) a6; rw [a5] at hLi; cases hLi
    have hB := hJ.1 nk
    have cc0 := (hB.cell (World.block_lt_of_cell? _ _ kx0)).trans kx0
    have cc1 := (hB.cell (World.block_lt_of_cell? _ _ kx1)).trans kx1
    have cc2 := (hB.cell (World.block_lt_of_cell? _ _ kx2)).trans kx2
    refine Op1.of_run (v := .agg #[.int .i64 off, .string s, .bool fin]) (W' := W) (by clear hT hJ hcl hold; go_simp) ⟨trivial, ⟨fun _ => hB, fun e => by rw [upd_ne (by decide), nk] at e; cases e⟩, rfl⟩

  case s6 =>
    intro _ L ρ W hLi hcl hold hJ hT
    have q25 : ρ (.tmp 25) = .agg #[.int .i64 off, .string s, .bool fin] := hT.1 25 5 rfl rfl
    have nk : L 10 = false := Bool.eq_false_iff.2 fun e => by have a7 := hcl 10 7 (by rfl) e; have a6 := hcl 7 6 (by rfl) a7; rw [a6] at hLi; cases hLi
    have hB := hJ.1 nk
    have qf := hT.2.2.2 63
    refine Op1.of_call (f := 63) (args := #[.agg #[.int .i64 off, .string s, .bool fin]]) (W' := W) (by clear hT hJ hcl hold; go_simp) ?_
    refine (OEnd_calls off s fin _ (by omega) hs).mono ?_
    rintro e2 W2 ⟨rfl, hb⟩
    exact ⟨_, rfl, trivial, ⟨fun _ => below_step hB hb, fun e => by rw [upd_ne (by decide), nk] at e; cases e⟩, rfl⟩

  case s7 =>
    intro _ L ρ W hLi hcl hold hJ hT
    have q24 : ρ (.tmp 24) = .int .i64 S := hT.1 24 4 rfl rfl
    have q26 : ρ (.tmp 26) = .int .i64 (off + (s.size : Int)) := hT.1 26 6 rfl rfl
    have nk : L 10 = false := Bool.eq_false_iff.2 fun e => by have a7 := hcl 10 7 (by rfl) e; rw [a7] at hLi; cases hLi
    have hB := hJ.1 nk
    refine Op1.of_run (v := .int .i64 (if S < (off + (s.size : Int)) then (off + (s.size : Int)) else S)) (W' := W) (by clear hT hJ hcl hold; go_simp) ⟨trivial, ⟨fun _ => hB, fun e => by rw [upd_ne (by decide), nk] at e; cases e⟩, rfl⟩

  case s8 =>
    intro _ L ρ W hLi hcl hold hJ hT
    have q20 : ρ (.tmp 20) = .pointer (some ⟨g, 0, none⟩) := hT.1 20 0 rfl rfl
    have nk : L 10 = false := Bool.eq_false_iff.2 fun e => by have a9 := hcl 10 9 (by rfl) e; have a8 := hcl 9 8 (by rfl) a9; rw [a8] at hLi; cases hLi
    have hB := hJ.1 nk
    refine Op1.of_run (v := .pointer (some ⟨g, 0, none⟩)) (W' := W) (by clear hT hJ hcl hold; go_simp) ⟨trivial, ⟨fun _ => hB, fun e => by rw [upd_ne (by decide), nk] at e; cases e⟩, rfl⟩

  case s9 =>
    intro _ L ρ W hLi hcl hold hJ hT
    have q28 : ρ (.tmp 28) = .pointer (some ⟨g, 0, none⟩) := hT.1 28 8 rfl rfl
    have nk : L 10 = false := Bool.eq_false_iff.2 fun e => by have a9 := hcl 10 9 (by rfl) e; rw [a9] at hLi; cases hLi
    have hB := hJ.1 nk
    refine Op1.of_run (v := .pointer (some ⟨g, 1, none⟩)) (W' := W) (by clear hT hJ hcl hold; go_simp) ⟨trivial, ⟨fun _ => hB, fun e => by rw [upd_ne (by decide), nk] at e; cases e⟩, rfl⟩

  case s10 =>
    intro _ L ρ W hLi hcl hold hJ hT
    have q29 : ρ (.tmp 29) = .pointer (some ⟨g, 1, none⟩) := hT.1 29 9 rfl rfl
    have q27 : ρ (.tmp 27) = .int .i64 (if S < (off + (s.size : Int)) then (off + (s.size : Int)) else S) := hT.1 27 7 rfl rfl
    have hB := hJ.1 hLi
    have cb := (hB.cell (World.block_lt_of_cell? _ _ kb1)).trans kb1
    have fb := free_blk ((hB.block g (lt_of_block hb)).trans hb) 1
    exact Op1.of_skip (W' := W.setCell ⟨g, 1, none⟩ (.int .i64 (if S < off + (s.size : Int) then off + (s.size : Int) else S))) (by clear hT hJ hcl hold; go_simp) ⟨trivial, ⟨(fun e => by rw [upd_self] at e; cases e), fun _ => ⟨W, hB, rfl⟩⟩, trivial⟩

  case hskip => intro i hi; simp at hi

  case hdone =>
    intro σ L W hL hJ hV
    exact hQ σ W (hJ.2 (hL 10 (by decide)))
end Go.Proofs.Ytiladcdogbeomaa.QRangesPlays

namespace Go.Proofs.Ytiladcdogbeomaa.QRangesPlays
open Go.RowKit Go.Shelf Go.Proofs.YtiladcdogbeomaaW.PrintWords Go.Proofs.YtiladcdogbeomaaW.PrintLast Go.Proofs.YtiladcdogbeomaaW.PrintMore Go.Proofs.Ytiladcdogbeomaa.RowLaws Go.Proofs.Ytiladcdogbeomaa.Lazy
attribute [local go_sem] Oper.semAt_some max2_int min2_int max_two min_two
def spanRem (off : Int) (s : ByteArray) (l : List S95) : List S95 := if s.size = 0 then l else remL off (off + (s.size : Int) - 1) l
def spanAdd (off : Int) (s : ByteArray) (l : List S95) : List S95 := if s.size = 0 then l else addL off (off + (s.size : Int) - 1) l
theorem str_nil {s : ByteArray} : s.size = 0 ↔ s = ⟨#[]⟩ := by
  constructor
  · intro h
    apply ByteArray.ext
    exact Array.eq_empty_of_size_eq_zero h
  · rintro rfl; rfl
theorem str_nil_test {s : ByteArray} (h : s.size = 0) : s.toList.isEmpty = true := by rw [str_nil.1 h, ByteArray.toList_eq]; rfl
theorem str_ne_test {s : ByteArray} (h : ¬ s.size = 0) : s.toList.isEmpty = false := by
  rw [Bool.eq_false_iff]
  intro e
  apply h
  have e2 : s.toList = [] := List.isEmpty_iff.1 e
  have := congrArg List.length e2
  rw [ByteArray.toList_eq] at this
  simpa using this
theorem chunk_cell {W : World} {X : Nat} {off : Int} {s : ByteArray} {fin : Bool} (h : W.heap[X]? = some (.cells #[.int .i64 off, .string s, .bool fin] 52 (0, 0))) : W.cell? ⟨X, 0, none⟩ = some (.int .i64 off) ∧ W.cell? ⟨X, 1, none⟩ = some (.string s) ∧ W.cell? ⟨X, 2, none⟩ = some (.bool fin) := by
  refine ⟨?_, ?_, ?_⟩ <;> (unfold World.cell?; rw [h]; rfl)
set_option maxRecDepth 100000 in
set_option maxHeartbeats 4000000 in
theorem SpanRem_calls (g : Nat) (off : Int) (s : ByteArray) (fin : Bool) (l : List S95) (w : World) (h : SetAt w g l) (hw : wf 0 l) (ho : 0 ≤ off ∧ off ≤ 4611686018427387903) (hs : s.size ≤ 4611686018427387903) :
    Calls Try.prog 64 #[.func (.func 48) #[.pointer (some ⟨g, 0, none⟩)] #[], .agg #[.int .i64 off, .string s, .bool fin]] w fun e w' => e = .returned (.tuple #[]) ∧ SetAt w' g (spanRem off s l) ∧ Only g w w' := by
  have HS := Aside0.mk h
  unfold spanRem
  by_cases h0 : s.size = 0
  · rw [if_pos h0]
    have h1 := str_nil_test h0
    clear h0 h
    go_enter Try.func64, Try.ntmps64
    go_wp2
    go_end0
    have hb := below_alloc (Below.refl w.heap.size w) (.cells #[.int .i64 off, .string s, .bool fin] 52)
    exact ⟨rfl, HS.out.below hb, Only.of_below hb⟩
  · rw [if_neg h0]
    have h1 := str_ne_test h0
    clear h0 h
    go_enter Try.func64, Try.ntmps64
    go_wp2
    obtain ⟨X, hX⟩ : ∃ X, w.heap.size = X := ⟨_, rfl⟩
    have hb := below_alloc (Below.refl w.heap.size w) (.cells #[.int .i64 off, .string s, .bool fin] 52)
    have hnew := heap_alloc_new w (.cells #[.int .i64 off, .string s, .bool fin] 52)
    have HB := Aside0.mk hb
    rw [hX] at hnew ⊢
    obtain ⟨c0, c1, c2⟩ := chunk_cell hnew
    refine Span_r64 g X off s fin l _ _ _ _ (by rfl) (by rfl) (by rfl) c0 c1 c2 ho hs (HS.out.below HB.out) hw ?_
    intro σ W ⟨h1, h2⟩
    have HF := Aside0.mk (And.intro h1 ((Only.of_below HB.out).trans h2))
    simp only [lazyA, lazyT, sp64_tab, List.zipWith_cons_cons, List.zipWith_nil_left, cond_true]
    clear h1 h2 c0 c1 c2 hnew hb hX
    go_wp2
    go_end0
    exact ⟨rfl, HF.out.1, HF.out.2⟩
set_option maxRecDepth 100000 in
set_option maxHeartbeats 4000000 in
theorem SpanAdd_calls (g : Nat) (off : Int) (s : ByteArray) (fin : Bool) (l : List S95) (w : World) (h : SetAt w g l) (hw : wf 0 l) (ho : 0 ≤ off ∧ off ≤ 4611686018427387903) (hs : s.size ≤ 4611686018427387903) :
    Calls Try.prog 68 #[.func (.func 37) #[.pointer (some ⟨g, 0, none⟩)] #[], .agg #[.int .i64 off, .string s, .bool fin]] w fun e w' => e = .returned (.tuple #[]) ∧ SetAt w' g (spanAdd off s l) ∧ Only g w w' := by
  have HS := Aside0.mk h
  unfold spanAdd
  by_cases h0 : s.size = 0
  · rw [if_pos h0]
    have h1 := str_nil_test h0
    clear h0 h
    go_enter Try.func68, Try.ntmps68
    go_wp2
    go_end0
    have hb := below_alloc (Below.refl w.heap.size w) (.cells #[.int .i64 off, .string s, .bool fin] 52)
    exact ⟨rfl, HS.out.below hb, Only.of_below hb⟩
  · rw [if_neg h0]
    have h1 := str_ne_test h0
    clear h0 h
    go_enter Try.func68, Try.ntmps68
    go_wp2
    obtain ⟨X, hX⟩ : ∃ X, w.heap.size = X := ⟨_, rfl⟩
    have hb := below_alloc (Below.refl w.heap.size w) (.cells #[.int .i64 off, .string s, .bool fin] 52)
    have hnew := heap_alloc_new w (.cells #[.int .i64 off, .string s, .bool fin] 52)
    have HB := Aside0.mk hb
    rw [hX] at hnew ⊢
    obtain ⟨c0, c1, c2⟩ := chunk_cell hnew
    refine Span_r68 g X off s fin l _ _ _ _ (by rfl) (by rfl) (by rfl) c0 c1 c2 ho hs (HS.out.below HB.out) hw ?_
    intro σ W ⟨h1, h2⟩
    have HF := Aside0.mk (And.intro h1 ((Only.of_below HB.out).trans h2))
    simp only [lazyA, lazyT, sp68_tab, List.zipWith_cons_cons, List.zipWith_nil_left, cond_true]
    clear h1 h2 c0 c1 c2 hnew hb hX
    go_wp2
    go_end0
    exact ⟨rfl, HF.out.1, HF.out.2⟩
end Go.Proofs.Ytiladcdogbeomaa.QRangesPlays
