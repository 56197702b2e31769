/- Law 24 (outbox): contracts of functions that its statements reach, and plain laws behind them (part 5). No condition. -/
import Derived.Test.YtiladcdogbeomaaVd
import Derived.Maps.OwnSet
namespace Go.Proofs.Ytiladcdogbeomaa.QRangesPlays
open Go.RowKit Go.Shelf Go.Proofs.YtiladcdogbeomaaW.PrintWords Go.Proofs.YtiladcdogbeomaaW.PrintLast Go.Proofs.YtiladcdogbeomaaW.PrintMore Go.Proofs.Ytiladcdogbeomaa.RowLaws Go.Proofs.Ytiladcdogbeomaa.Lazy
open Go.Maps
attribute [local go_sem] Oper.semAt_some
theorem km : Keyed Try.prog 3 := int_keyed Try.underlying3
abbrev kn (n : Int) : Lit := .int .i64 n
abbrev DM := DataW Unit
/-- Block m is a map of at most n entries, places to bytes, that reads as D. -/
def WMap (W : World) (m n : Nat) (D : DM) : Prop := W.ownsMap Try.prog 3 (plainElem Try.prog 5) m n D
theorem WMap.move {W W' : World} {m n : Nat} {D : DM} (h : WMap W m n D) (hb : W'.heap[m]? = W.heap[m]?) : WMap W' m n D := by
  obtain ⟨es, clock, h1, r⟩ := h
  exact ⟨es, clock, hb.trans h1, r⟩
theorem WMap.lt {W : World} {m n : Nat} {D : DM} (h : WMap W m n D) : m < W.heap.size := World.ownsMap.lt h
/-- What a buffer holds, as plain values: the places that came, what is taken, the highest end, the final size, what waits. -/
structure Gat (l : List S95) (T H F : Int) (D : DM) (d : Int → Int) : Prop where
  w : wf 0 l
  hin : ∀ n, has l n → T ≤ n ∧ n < H
  b0 : 0 ≤ T
  b1 : T ≤ H
  b2 : H ≤ 1099511627776
  fin : F = -1 ∨ (H ≤ F ∧ F ≤ 1099511627776)
  ty : Tidy D
  key : ∀ n, has l n ↔ Maps.has D (kn n) = true
  sz : (Maps.size D : Int) = cnt l
  val : ∀ n, has l n → D.atKey (kn n) (.lit (.int .u8 0)) = .lit (.int .u8 (d n))
/-- A buffer lies at g: its map at gm, the set of places at gs. -/
structure BufAt (W : World) (g gm gs n : Nat) (l : List S95) (T H F : Int) (D : DM) : Prop where
  blk : W.heap[g]? = some (.cells #[.map (some gm), .pointer (some ⟨gs, 0, none⟩), .int .i64 T, .int .i64 H, .int .i64 F] 102 (0, 0))
  mp : WMap W gm n D
  set : SetAt W gs l
section
variable {W W' : World} {g gm gs n : Nat} {l : List S95} {T H F : Int} {D : DM}
theorem BufAt.cells (h : BufAt W g gm gs n l T H F D) : W.cell? ⟨g, 0, none⟩ = some (.map (some gm)) ∧ W.cell? ⟨g, 1, none⟩ = some (.pointer (some ⟨gs, 0, none⟩)) ∧ W.cell? ⟨g, 2, none⟩ = some (.int .i64 T) ∧ W.cell? ⟨g, 3, none⟩ = some (.int .i64 H) ∧ W.cell? ⟨g, 4, none⟩ = some (.int .i64 F) := by
  have hb := h.blk
  refine ⟨?_, ?_, ?_, ?_, ?_⟩ <;> (unfold World.cell?; rw [hb]; rfl)
theorem BufAt.free (h : BufAt W g gm gs n l T H F D) (i : Nat) : W.frozen? ⟨g, i, none⟩ = false := by
  have hb := h.blk
  unfold World.frozen?; rw [hb]; simp
theorem BufAt.below (h : BufAt W g gm gs n l T H F D) (hb : Below W.heap.size W W') : BufAt W' g gm gs n l T H F D :=
  ⟨(hb.block _ (lt_of_block h.blk)).trans h.blk, h.mp.move (hb.block _ h.mp.lt), h.set.below hb⟩
end
set_option maxRecDepth 100000 in
set_option maxHeartbeats 4000000 in
theorem GTaken_calls (g gm gs n : Nat) (l : List S95) (T H F : Int) (D : DM) (w : World) (h : BufAt w g gm gs n l T H F D) :
    Calls Try.prog 16 #[.pointer (some ⟨g, 0, none⟩)] w fun e w' => e = .returned (.int .i64 T) ∧ Below w.heap.size w w' := by
  obtain ⟨k0, k1, k2, k3, k4⟩ := h.cells
  clear h
  go_enter Try.func16, Try.ntmps16
  go_wp2
  go_ret
  exact ⟨rfl, Below.refl _ _⟩
set_option maxRecDepth 100000 in
set_option maxHeartbeats 4000000 in
theorem GHigh_calls (g gm gs n : Nat) (l : List S95) (T H F : Int) (D : DM) (w : World) (h : BufAt w g gm gs n l T H F D) :
    Calls Try.prog 34 #[.pointer (some ⟨g, 0, none⟩)] w fun e w' => e = .returned (.int .i64 H) ∧ Below w.heap.size w w' := by
  obtain ⟨k0, k1, k2, k3, k4⟩ := h.cells
  clear h
  go_enter Try.func34, Try.ntmps34
  go_wp2
  go_ret
  exact ⟨rfl, Below.refl _ _⟩
def finV (F : Int) : Int := if F = -1 then 0 else F
def finB (F : Int) : Bool := decide (F ≠ -1)
set_option maxRecDepth 100000 in
set_option maxHeartbeats 4000000 in
theorem GFinal_calls (g gm gs n : Nat) (l : List S95) (T H F : Int) (D : DM) (w : World) (h : BufAt w g gm gs n l T H F D) :
    Calls Try.prog 33 #[.pointer (some ⟨g, 0, none⟩)] w fun e w' => e = .returned (.tuple #[.int .i64 (finV F), .bool (finB F)]) ∧ Below w.heap.size w w' := by
  obtain ⟨k0, k1, k2, k3, k4⟩ := h.cells
  clear h
  unfold finV finB
  by_cases hF : F = -1
  · subst hF
    go_enter Try.func33, Try.ntmps33
    go_wp2
    go_ret2
    exact ⟨rfl, Below.refl _ _⟩
  · have e1 : (F == -1) = false := beq_eq_false_iff_ne.2 hF
    rw [if_neg hF]
    have e2 : decide (F ≠ -1) = true := by simp [hF]
    rw [e2]
    go_enter Try.func33, Try.ntmps33
    go_wp2
    go_ret2
    exact ⟨rfl, Below.refl _ _⟩
set_option maxRecDepth 100000 in
set_option maxHeartbeats 4000000 in
theorem GDone_calls (g gm gs n : Nat) (l : List S95) (T H F : Int) (D : DM) (w : World) (h : BufAt w g gm gs n l T H F D) :
    Calls Try.prog 56 #[.pointer (some ⟨g, 0, none⟩)] w fun e w' => e = .returned (.bool (finB F && (T == finV F))) ∧ Below w.heap.size w w' := by
  have HF := Aside0.mk (GFinal_calls g gm gs n l T H F D w h)
  have HT := Aside0.mk (fun W (hb : Below w.heap.size w W) => GTaken_calls g gm gs n l T H F D W (h.below hb))
  clear h
  generalize finV F = v at *
  generalize finB F = b at *
  cases b with
  | false =>
    go_enter Try.func56, Try.ntmps56
    go_wp2_with (go_at_call 33; refine HF.out.mono ?_; rintro e w2 ⟨rfl, hb⟩; have HB := Aside0.mk hb; clear hb)
    go_ret
    exact ⟨rfl, HB.out⟩
  | true =>
    go_enter Try.func56, Try.ntmps56
    go_wp2_with (first
      | (go_at_call 33; refine HF.out.mono ?_; rintro e w2 ⟨rfl, hb⟩; have HB := Aside0.mk hb; clear hb)
      | (go_at_call 16; refine (HT.out _ HB.out).mono ?_; rintro e w3 ⟨rfl, hb⟩; have HC := Aside0.mk (below_step HB.out hb); clear hb))
    go_ret
    exact ⟨by simp, HC.out⟩
set_option maxRecDepth 100000 in
set_option maxHeartbeats 4000000 in
theorem GHeld_calls (g gm gs n : Nat) (l : List S95) (T H F : Int) (D : DM) (w : World) (h : BufAt w g gm gs n l T H F D) :
    Calls Try.prog 17 #[.pointer (some ⟨g, 0, none⟩)] w fun e w' => e = .returned (.int .i64 (Maps.size D)) ∧ Below w.heap.size w w' := by
  obtain ⟨k0, k1, k2, k3, k4⟩ := h.cells
  have hlen := World.ownsMap.len h.mp Try.underlying100 3
  clear h
  go_enter Try.func17, Try.ntmps17
  go_wp2
  go_ret
  exact ⟨rfl, Below.refl _ _⟩
theorem gat_new : Gat [] 0 0 (-1) (.map [] : DM) (fun _ => 0) :=
  ⟨trivial, fun n h => by simp [has] at h, by omega, by omega, by omega, .inl rfl, tidy_empty, fun n => by simp [has, Maps.has], by simp [Maps.size, cnt], fun n h => by simp [has] at h⟩
set_option maxRecDepth 100000 in
set_option maxHeartbeats 4000000 in
theorem GNew_calls (w : World) : Calls Try.prog 13 #[] w fun e w' => ∃ g gm gs, e = .returned (.pointer (some ⟨g, 0, none⟩)) ∧ BufAt w' g gm gs 0 [] 0 0 (-1) (.map []) ∧ Below w.heap.size w w' ∧ w.heap.size ≤ g ∧ w.heap.size ≤ gm ∧ w.heap.size ≤ gs ∧ gs ≠ gm ∧ gs ≠ g ∧ gm ≠ g := by
  have hmm := @run_makeMap Try.prog
  have HM := Aside0.mk (World.ownsMap_made (H := Unit) w Try.prog 3 (plainElem Try.prog 5))
  go_enter Try.func13, Try.ntmps13
  go_wp2_with (go_at_call 36; refine (New_calls _).mono ?_; rintro e w2 ⟨gs, rfl, hs, hb, hg⟩; have HS := Aside0.mk hs; have HB := Aside0.mk hb; have HG := Aside0.mk hg; clear hs hb hg)
  go_ret
  have hgs := HG.out
  rw [World.size_alloc] at hgs
  have hlt := HS.out.lt
  have hb2 := below_alloc (Below.refl w2.heap.size w2) (.cells #[.map (some w.heap.size), .pointer (some ⟨gs, 0, none⟩), .int .i64 0, .int .i64 0, .int .i64 (-1)] 102)
  refine ⟨w2.heap.size, w.heap.size, gs, rfl, ⟨heap_alloc_new w2 _, ?_, HS.out.below hb2⟩, below_step (below_step (below_alloc (Below.refl _ _) _) HB.out) hb2, by omega, by omega, by omega, by omega, by omega, by omega⟩
  exact (WMap.move (W := w.alloc (.map #[] 0)) HM.out (HB.out.block w.heap.size (by simp))).move (hb2.block _ (by omega))
def endL (H F f : Int) : Int := if f < 0 ∨ 1099511627776 < f then 13 else if H > f ∨ (F ≠ -1 ∧ F ≠ f) then 18 else 0
theorem box5 {W : World} {g i : Nat} {cs : Array Value} {t : TypeId} (u : Value) (h : W.heap[g]? = some (.cells cs t (0, 0))) : (W.setCell ⟨g, i, none⟩ u).heap[g]? = some (.cells (cs.setIfInBounds i u) t (0, 0)) := cells_set u h
set_option maxRecDepth 100000 in
set_option maxHeartbeats 4000000 in
theorem GEnd_bad (g gm gs n : Nat) (l : List S95) (T H F f : Int) (D : DM) (w : World) (h : BufAt w g gm gs n l T H F D) (hbad : endL H F f ≠ 0) :
    Calls Try.prog 32 #[.pointer (some ⟨g, 0, none⟩), .int .i64 f] w fun e w' => e = .returned (.int .i64 (endL H F f)) ∧ Below w.heap.size w w' := by
  obtain ⟨k0, k1, k2, k3, k4⟩ := h.cells
  clear h
  unfold endL at *
  by_cases h1 : f < 0
  · rw [if_pos (.inl h1)]
    clear hbad
    go_enter Try.func32, Try.ntmps32
    go_wp2
    go_ret
    exact ⟨rfl, Below.refl _ _⟩
  · by_cases h2 : 1099511627776 < f
    · rw [if_pos (.inr h2)]
      clear hbad
      go_enter Try.func32, Try.ntmps32
      go_wp2
      go_ret
      exact ⟨rfl, Below.refl _ _⟩
    · have h12 : ¬ (f < 0 ∨ 1099511627776 < f) := by omega
      rw [if_neg h12] at hbad ⊢
      by_cases h3 : f < H
      · rw [if_pos (.inl h3)]
        clear hbad h12
        go_enter Try.func32, Try.ntmps32
        go_wp2
        go_ret
        exact ⟨rfl, Below.refl _ _⟩
      · by_cases h4 : F ≠ -1 ∧ F ≠ f
        · rw [if_pos (.inr h4)]
          have e1 : (F != -1) = true := by simp [h4.1]
          have e2 : (F != f) = true := by simp [h4.2]
          clear hbad h12 h4
          go_enter Try.func32, Try.ntmps32
          go_wp2
          go_ret
          exact ⟨rfl, Below.refl _ _⟩
        · rw [if_neg (by rintro (h | h); omega; exact h4 h)] at hbad
          exact absurd rfl hbad
theorem BufAt.setF {W : World} {g gm gs n : Nat} {l : List S95} {T H F : Int} {D : DM} (h : BufAt W g gm gs n l T H F D) (h1 : gm ≠ g) (h2 : gs ≠ g) (i : Nat) (u : Value) {T' H' F' : Int}
    (hc : (#[.map (some gm), .pointer (some ⟨gs, 0, none⟩), .int .i64 T, .int .i64 H, .int .i64 F] : Array Value).setIfInBounds i u = #[.map (some gm), .pointer (some ⟨gs, 0, none⟩), .int .i64 T', .int .i64 H', .int .i64 F']) : BufAt (W.setCell ⟨g, i, none⟩ u) g gm gs n l T' H' F' D := by
  have hk : ∀ k, k ≠ g → (W.setCell ⟨g, i, none⟩ u).heap[k]? = W.heap[k]? := fun k hk => Below.heap_setCell _ _ _ _ hk
  refine ⟨by rw [box5 u h.blk, hc], h.mp.move (hk gm h1), ?_⟩
  obtain ⟨sv, s1, s2⟩ := h.set
  refine ⟨sv, (hk gs h2).trans s1, ?_⟩
  rcases s2 with s2 | ⟨b0, c0, rfl, r2, r3, r4⟩
  · exact .inl s2
  · refine .inr ⟨b0, c0, rfl, ?_, r3, by simpa [World.setCell] using r4⟩
    refine ⟨r2.1, r2.2.1, fun hn => ?_⟩
    obtain ⟨bk, o, hA, z0, _⟩ := row_at r2 0 (by have := r2.1; omega)
    cases hA
    have hne : b0 ≠ g := by
      intro e
      subst e
      simp [World.cell?, h.blk] at z0
    refine ⟨_, rfl, ?_⟩
    intro j p hj
    obtain ⟨ad, hA, hcc⟩ := r2.2.2 hn
    injection hA with hA
    subst hA
    obtain ⟨cs, c1, c2, c3⟩ := hcc j p hj
    refine ⟨cs, c1, c2, fun q u' hu => ?_⟩
    have hcell := c3 q u' hu
    rw [add_off] at hcell ⊢
    exact (World.cell?_setCell_other _ _ _ _ (by intro e; injection e with e _ _; exact hne e.symm)).trans hcell
set_option maxRecDepth 100000 in
set_option maxHeartbeats 4000000 in
theorem GEnd_ok (g gm gs n : Nat) (l : List S95) (T H F f : Int) (D : DM) (w : World) (h : BufAt w g gm gs n l T H F D) (h1 : gm ≠ g) (h2 : gs ≠ g) (hok : endL H F f = 0) :
    Calls Try.prog 32 #[.pointer (some ⟨g, 0, none⟩), .int .i64 f] w fun e w' => e = .returned (.int .i64 0) ∧ BufAt w' g gm gs n l T f f D ∧ Only g w w' := by
  obtain ⟨k0, k1, k2, k3, k4⟩ := h.cells
  have z3 := h.free 3
  have z4 := h.free 4
  unfold endL at hok
  have e1 : ¬ f < 0 := by intro hh; rw [if_pos (.inl hh)] at hok; cases hok
  have e2 : ¬ 1099511627776 < f := by intro hh; rw [if_pos (.inr hh)] at hok; cases hok
  rw [if_neg (by omega)] at hok
  have e3 : ¬ f < H := by intro hh; rw [if_pos (.inl hh)] at hok; cases hok
  have e4 : F = -1 ∨ F = f := by
    by_cases ha : F = -1
    · exact .inl ha
    · by_cases hb : F = f
      · exact .inr hb
      · rw [if_pos (.inr ⟨ha, hb⟩)] at hok; cases hok
  have HA := Aside0.mk (h.setF h1 h2 4 (.int .i64 f) (T' := T) (H' := H) (F' := f) rfl)
  have HB := Aside0.mk (HA.out.setF h1 h2 3 (.int .i64 f) (T' := T) (H' := f) (F' := f) rfl)
  have HO := Aside0.mk (((Only.refl g w).setCell (p := ⟨g, 4, none⟩) rfl (.int .i64 f)).setCell (p := ⟨g, 3, none⟩) rfl (.int .i64 f))
  have c3 := HA.out.cells.2.2.2.1
  have y3 := HA.out.free 3
  clear h hok
  rcases e4 with rfl | rfl
  · go_enter Try.func32, Try.ntmps32
    go_wp2
    go_ret
    exact ⟨rfl, HB.out, HO.out⟩
  · by_cases hm : F = -1
    · subst hm
      omega
    · have e5 : (F != -1) = true := by simp [hm]
      go_enter Try.func32, Try.ntmps32
      go_wp2
      go_ret
      exact ⟨rfl, HB.out, HO.out⟩
def fitsL (H F e : Int) (fin : Bool) : Bool := if F = -1 then (!fin || decide (H ≤ e)) else (decide (e ≤ F) && (!fin || (e == F)))
set_option maxRecDepth 100000 in
set_option maxHeartbeats 4000000 in
theorem GFits_calls (g gm gs n : Nat) (l : List S95) (T H F e : Int) (fin : Bool) (D : DM) (w : World) (h : BufAt w g gm gs n l T H F D) :
    Calls Try.prog 57 #[.pointer (some ⟨g, 0, none⟩), .int .i64 e, .bool fin] w fun x w' => x = .returned (.bool (fitsL H F e fin)) ∧ Below w.heap.size w w' := by
  obtain ⟨k0, k1, k2, k3, k4⟩ := h.cells
  clear h
  unfold fitsL
  by_cases hF : F = -1
  · subst hF
    rw [if_pos rfl]
    cases fin with
    | false =>
      go_enter Try.func57, Try.ntmps57
      go_wp2
      go_ret
      exact ⟨rfl, Below.refl _ _⟩
    | true =>
      go_enter Try.func57, Try.ntmps57
      go_wp2
      go_ret
      exact ⟨by simp, Below.refl _ _⟩
  · have e1 : (F == -1) = false := beq_eq_false_iff_ne.2 hF
    rw [if_neg hF]
    by_cases h1 : e ≤ F
    · cases fin with
      | false =>
        go_enter Try.func57, Try.ntmps57
        go_wp2
        go_ret
        exact ⟨by simp [h1], Below.refl _ _⟩
      | true =>
        go_enter Try.func57, Try.ntmps57
        go_wp2
        go_ret
        exact ⟨by simp [h1], Below.refl _ _⟩
    · cases fin <;>
      · have h2 : decide (e ≤ F) = false := by simp [h1]
        rw [h2, Bool.false_and]
        go_enter Try.func57, Try.ntmps57
        go_wp2
        go_ret
        exact ⟨rfl, Below.refl _ _⟩
end Go.Proofs.Ytiladcdogbeomaa.QRangesPlays

namespace Go.Proofs.Ytiladcdogbeomaa.Lazy
open Go
section
variable {P : Program} {Q : Exit → Act → World → Prop} {ops : List Oper} {tab : List (Option Nat)} {t0 : List Value} {d0 : List Deferred}
theorem wpAny_out {I : (Nat → Bool) → (Nat → Value) → World → Prop} (out : Nat → Bool) (hG : fitsG ops tab = true) (hl : t0.length = tab.length)
    (hg : ∀ (i : Nat) (o : Oper), ops[i]? = some o → (∀ j b, o.guard = some (j, b) → ∀ L σ W, I L σ W → L j = true → σ j = .bool (if out i then !b else b)) ∧ (o.guard = none → out i = false))
    (hstep : ∀ (i : Nat) (o : Oper), ops[i]? = some o → out i = false → ∀ L σ W, L i = false → (∀ e ∈ o.after, Region.binds .any e = true → L e.on = true) → I L σ W → Op1 P o (lazyA L σ t0 tab d0).eval W (fun v W' => I (updL L i) (updS σ i v) W'))
    (hskip : ∀ (i : Nat) (o : Oper), ops[i]? = some o → out i = true → ∀ L σ W, L i = false → (∀ e ∈ o.after, Region.binds .any e = true → L e.on = true) → I L σ W → I (updL L i) (updS σ i undef) W)
    (hdone : ∀ L σ W, (∀ j, j < ops.length → L j = true) → I L σ W → Q .normal (lazyA L σ t0 tab d0) W) :
    ∀ (fuel : Nat) (listed : Array Bool) (σ : Nat → Value) (W : World), listed.size = ops.length → falses listed ≤ fuel → I (toL listed) σ W → wpAny P .any ops.toArray Q fuel listed (lazyA (toL listed) σ t0 tab d0) W := by
  have hf := fits_of (fits_bare hG)
  have hlen : (bare ops).length = ops.length := by unfold bare; simp
  have hal : ∀ {listed : Array Bool}, listed.size = ops.length → Region.ready .any ops.toArray listed = [] → ∀ j, j < ops.length → toL listed j = true := by
    intro listed hs hr j hj
    exact all_listed hf (by rw [hlen]; exact hs) (ready_bare hr) j (by rw [hlen]; exact hj)
  intro fuel
  induction fuel with
  | zero =>
    intro listed σ W hs hn hI
    have hr : Region.ready .any ops.toArray listed = [] := by
      cases hr : Region.ready .any ops.toArray listed with
      | nil => rfl
      | cons x xs =>
        have hx : x ∈ Region.ready .any ops.toArray listed := by rw [hr]; exact List.mem_cons_self ..
        have := falses_set (mem_ready.1 hx).1
        omega
    exact ⟨hr, hdone _ _ _ (hal hs hr) hI⟩
  | succ fuel ih =>
    intro listed σ W hs hn hI
    refine ⟨fun hr => hdone _ _ _ (hal hs hr) hI, ?_⟩
    intro i hi
    obtain ⟨h0, o, ho, hall⟩ := mem_ready.1 hi
    have ho' : ops[i]? = some o := by simpa using ho
    have hob : (bare ops)[i]? = some { o with guard := none } := by rw [bare_get, ho']; rfl
    have hlt : i < listed.size := by rw [hs]; exact (List.getElem?_eq_some_iff.1 ho').1
    have hLi : toL listed i = false := by
      unfold toL
      simp [hlt] at h0 ⊢; exact h0
    have hput : ∀ v W', I (updL (toL listed) i) (updS σ i v) W' → wpAny P .any ops.toArray Q fuel (listed.setIfInBounds i true) ((lazyA (toL listed) σ t0 tab d0).put o.dst v) W' := by
      intro v W' hI'
      have hp := put_lazy (L := toL listed) (σ := σ) (t0 := t0) (d0 := d0) hf hl hob v
      simp only at hp
      rw [hp, ← toL_set hlt]
      exact ih _ _ _ (by simpa using hs) (by have := falses_set h0; omega) (by rw [toL_set hlt]; exact hI')
    obtain ⟨hg1, hg2⟩ := hg i o ho'
    have hw : Region.wanted o (yielded ops.toArray (lazyA (toL listed) σ t0 tab d0).tmps) = !(out i) := by
      unfold Region.wanted
      cases hgd : o.guard with
      | none => rw [hg2 hgd]; rfl
      | some jb =>
        obtain ⟨j, b⟩ := jb
        obtain ⟨⟨e, he, hb, hej⟩, d, hd⟩ := fitsG_gd hG ho' hgd
        have hLj : toL listed j = true := by rw [← hej]; exact hall e he hb
        have hv := hg1 j b hgd _ _ _ hI hLj
        have htab : tab[d]? = some (some j) := by
          cases hoj : ops[j]? with
          | none => rw [hoj] at hd; cases hd
          | some oj =>
            rw [hoj] at hd
            exact hf.dst j { oj with guard := none } d (by rw [bare_get, hoj]; rfl) hd
        have hget := lazyT_get (σ := σ) hl htab hLj
        simp only [yielded, List.getElem?_toArray, hd, Option.bind_some, lazyA, hget, hv]
        cases out i <;> cases b <;> rfl
    unfold wpOp
    rw [ho]
    simp only
    rw [hw]
    by_cases hout : out i = true
    · rw [hout]
      exact hput undef W (hskip i o ho' hout _ _ _ hLi hall hI)
    · rw [Bool.eq_false_iff.2 hout]
      exact .inl ((hstep i o ho' (Bool.eq_false_iff.2 hout) _ _ _ hLi hall hI).wp (fun v W' hI' => hput v W' hI'))
/-- The law: R tells what an operation turns, J what has come of the world, Val what an operation's value is; 'out' says which operations are left out. -/
theorem wp_region_valsO {id : Nat} {w : World} (hm : P.follows .mixedOrders = true) (tab : List (Option Nat)) (hG : fitsG ops tab = true) (hl : t0.length = tab.length) (out : Nat → Bool)
    (R : Nat → World → World → Prop) (J : (Nat → Bool) → World → Prop) (Val : Nat → Value → World → Prop) (hJ : J (fun _ => false) w.drew)
    (hst : ∀ (L : Nat → Bool) (i j : Nat) (v : Value) (W W' : World), L i = false → L j = true → j ≠ i → (∀ j d, (((ops[j]?).map fun o => o.after.toList.any fun e => e.on == d && Region.binds .any e) == some true) = true → L j = true → L d = true) → R i W W' → Val j v W → Val j v W')
    (hg : AllFrom (fun i o => (∀ j b, o.guard = some (j, b) → ∀ v W, Val j v W → v = .bool (if out i then !b else b)) ∧ (o.guard = none → out i = false)) 0 ops)
    (hstep : AllFrom (fun i o => out i = false → ∀ L ρ W, L i = false → (∀ j d, (((ops[j]?).map fun o => o.after.toList.any fun e => e.on == d && Region.binds .any e) == some true) = true → L j = true → L d = true) → (∀ s j x, tab[s]? = some (some j) → L j = false → t0[s]? = some x → ρ (.tmp s) = x) → J L W → Told Val tab t0 o ρ W → Op1 P o ρ W (fun v W' => R i W W' ∧ J (updL L i) W' ∧ Val i v W')) 0 ops)
    (hskip : ∀ i, out i = true → ∀ L W, L i = false → J L W → J (updL L i) W ∧ Val i undef W)
    (hdone : ∀ σ L W, (∀ j, j < ops.length → L j = true) → J L W → (∀ j, j < ops.length → Val j (σ j) W) → Q .normal (lazyA (fun _ => true) σ t0 tab d0) W) :
    (Code.region id ops.toArray true).wp P Q { tmps := t0.toArray, defers := d0 } w := by
  have hF := fits_of (fits_bare hG)
  have hlen : (bare ops).length = ops.length := by unfold bare; simp
  refine wp_region_any hm ?_
  rw [← lazy_start (d0 := d0) hF (fun _ => undef) hl, ← toL_none ops.toArray.size]
  have hclo : ∀ {i : Nat} {o : Oper} {L : Nat → Bool}, ops[i]? = some o → (∀ e ∈ o.after, Region.binds .any e = true → L e.on = true) → (∀ j d, (((ops[j]?).map fun o => o.after.toList.any fun e => e.on == d && Region.binds .any e) == some true) = true → L j = true → L d = true) →
      ∀ j d, (((ops[j]?).map fun o => o.after.toList.any fun e => e.on == d && Region.binds .any e) == some true) = true → updL L i j = true → updL L i d = true := by
    intro i o L ho hall hc j d hjd hj
    by_cases e : j = i
    · subst e
      rw [ho] at hjd
      simp only [Option.map_some, beq_iff_eq, Option.some.injEq] at hjd
      obtain ⟨e, he, hb⟩ := List.any_eq_true.1 hjd
      simp only [Bool.and_eq_true, beq_iff_eq] at hb
      exact upd_keep _ (by rw [← hb.1]; exact hall e (by simpa using he) hb.2)
    · exact upd_keep _ (hc j d hjd (upd_other hj e))
  refine wpAny_out (I := fun L σ W => (∀ j d, (((ops[j]?).map fun o => o.after.toList.any fun e => e.on == d && Region.binds .any e) == some true) = true → L j = true → L d = true) ∧ J L W ∧ ∀ j, L j = true → Val j (σ j) W) out hG hl (fun i o ho => ?_) (fun i o ho hout L σ W hLi hall hI => ?_) (fun i o ho hout L σ W hLi hall hI => ?_) (fun L σ W hL hI => ?_) _ _ _ _ (by simp) (falses_none _) (by rw [toL_none]; exact ⟨fun j d _ hj => (by cases hj), hJ, fun j hj => (by cases hj)⟩)
  · have := allFrom_get hg i o ho
    rw [Nat.zero_add] at this
    exact ⟨fun j b hgd L σ W hI hL => this.1 j b hgd _ W (hI.2.2 j hL), this.2⟩
  · have := allFrom_get hstep i o ho
    rw [Nat.zero_add] at this
    refine Op1.mono (this hout L _ W hLi hI.1 (fun s j x h1 h2 h3 => lazy_still h3 h1 h2) hI.2.1 ⟨fun s j hs ha => ?_, fun s x hx hs => lazy_old hx hs, fun v => rfl, fun f => rfl⟩) ?_
    · obtain ⟨e, he, hb⟩ := List.any_eq_true.1 ha
      simp only [Bool.and_eq_true, beq_iff_eq] at hb
      have hLj : L j = true := by rw [← hb.1]; exact hall e (by simpa using he) hb.2
      rw [lazy_eval hl hs hLj]
      exact hI.2.2 j hLj
    · rintro v W' ⟨h1, h2, h3⟩
      refine ⟨hclo ho hall hI.1, h2, fun j hj => ?_⟩
      by_cases e : j = i
      · subst e; simpa [updS] using h3
      · simp only [updS, if_neg e]
        exact hst L i j _ _ _ hLi (upd_other hj e) e hI.1 h1 (hI.2.2 j (upd_other hj e))
  · obtain ⟨h2, h3⟩ := hskip i hout L W hLi hI.2.1
    refine ⟨hclo ho hall hI.1, h2, fun j hj => ?_⟩
    by_cases e : j = i
    · subst e; simpa [updS] using h3
    · simp only [updS, if_neg e]
      exact hI.2.2 j (upd_other hj e)
  · have e : lazyA L σ t0 tab d0 = lazyA (fun _ => true) σ t0 tab d0 := by
      unfold lazyA
      rw [lazyT_congr (fun j hj => hL j (by have := hF.rg j hj; omega))]
    rw [e]
    exact hdone σ L W hL hI.2.1 (fun j hj => hI.2.2 j (hL j hj))
end
end Go.Proofs.Ytiladcdogbeomaa.Lazy

namespace Go.Proofs.Ytiladcdogbeomaa.QRangesPlays
open Go.RowKit Go.Shelf Go.Proofs.YtiladcdogbeomaaW.PrintWords Go.Proofs.YtiladcdogbeomaaW.PrintLast Go.Proofs.YtiladcdogbeomaaW.PrintMore Go.Proofs.Ytiladcdogbeomaa.RowLaws Go.Proofs.Ytiladcdogbeomaa.Lazy
attribute [local go_sem] Oper.semAt_some
abbrev rd4_ops : List Oper := [{ dst := some 11, op := .move (.tmp 3), type := 74, pos := "gather.go:90", after := #[], guard := none },
  { dst := some 12, op := .call { callee := .builtin .len, args := #[.tmp 11], argTypes := #[74] }, type := 3, pos := "gather.go:90", after := #[⟨0, .data⟩], guard := none },
  { dst := some 13, op := .binOp .eql 3 (.tmp 12) (.const (.int .i64 0)) 3, type := 4, pos := "gather.go:90", after := #[⟨1, .data⟩], guard := none },
  { dst := some 14, op := .move (.tmp 13), type := 4, pos := "gather.go:90", after := #[⟨2, .data⟩], guard := none },
  { dst := some 15, op := .move (.tmp 3), type := 74, pos := "gather.go:90", after := #[⟨3, .guard⟩], guard := some (3, false) },
  { dst := some 16, op := .indexAddr 74 (.tmp 15) (.const (.int .i64 0)), type := 0, pos := "gather.go:90", after := #[⟨4, .data⟩, ⟨3, .guard⟩], guard := some (3, false) },
  { dst := some 17, op := .fieldAddr 95 (.tmp 16) 0, type := 0, pos := "gather.go:90", after := #[⟨5, .data⟩, ⟨3, .guard⟩], guard := some (3, false) },
  { dst := some 18, op := .load 3 (.tmp 17), type := 3, pos := "gather.go:90", after := #[⟨6, .data⟩, ⟨3, .guard⟩], guard := some (3, false) },
  { dst := some 19, op := .move (.tmp 0), type := 25, pos := "gather.go:90", after := #[⟨3, .guard⟩], guard := some (3, false) },
  { dst := some 20, op := .nilCheck (.tmp 19), type := 0, pos := "gather.go:90", after := #[⟨8, .data⟩, ⟨3, .guard⟩], guard := some (3, false) },
  { dst := some 21, op := .fieldAddr 102 (.tmp 20) 2, type := 0, pos := "gather.go:90", after := #[⟨9, .data⟩, ⟨3, .guard⟩], guard := some (3, false) },
  { dst := some 22, op := .load 3 (.tmp 21), type := 3, pos := "gather.go:90", after := #[⟨10, .data⟩, ⟨3, .guard⟩], guard := some (3, false) },
  { dst := some 23, op := .binOp .neq 3 (.tmp 18) (.tmp 22) 3, type := 4, pos := "gather.go:90", after := #[⟨7, .data⟩, ⟨11, .data⟩, ⟨3, .guard⟩], guard := some (3, false) },
  { dst := some 24, op := .pick (.tmp 14) (.const (.bool true)) (.tmp 23), type := 4, pos := "gather.go:90", after := #[⟨3, .data⟩, ⟨12, .data⟩], guard := none }]
abbrev rd4_tab : List (Option Nat) := [none, none, none, none, none, none, none, none, none, none, none, some 0, some 1, some 2, some 3, some 4, some 5, some 6, some 7, some 8, some 9, some 10, some 11, some 12, some 13, none, none, none, none, none, none, none, none, none, none]

def rd4e_val (A : Option Addr) (c : Nat) : Nat → Value → World → Prop := fun j v W => match j with
  | 0 => v = .slice A 0 c
  | 1 => v = .int .i64 0
  | 2 => v = .bool true
  | 3 => v = .bool true
  | 4 => True
  | 5 => True
  | 6 => True
  | 7 => True
  | 8 => True
  | 9 => True
  | 10 => True
  | 11 => True
  | 12 => True
  | 13 => v = .bool true
  | _ => True

set_option maxRecDepth 100000 in
set_option maxHeartbeats 4000000 in
theorem Ready_r4e (A : Option Addr) (c : Nat) (t0 : List Value) (d0 : List Deferred) (w : World) (Q : Exit → Act → World → Prop) (hl : t0.length = rd4_tab.length)
    (t3 : t0[3]? = some (.slice A 0 c))
    (hQ : ∀ σ W, Below w.heap.size w W ∧ σ 13 = .bool true → Q .normal (lazyA (fun _ => true) σ t0 rd4_tab d0) W) :
    (Code.region 4 rd4_ops.toArray true).wp Try.prog Q { tmps := t0.toArray, defers := d0 } w := by
  refine wp_region_valsO (by kernel_rfl) rd4_tab (by kernel_rfl) hl (fun i => [4, 5, 6, 7, 8, 9, 10, 11, 12].contains i) (fun i W W' => Below W.heap.size W W') (fun L W => Below w.heap.size w W) (rd4e_val A c) (below_drew (Below.refl _ _)) ?hst ⟨⟨(fun j b h => by cases h), fun _ => rfl⟩, ⟨(fun j b h => by cases h), fun _ => rfl⟩, ⟨(fun j b h => by cases h), fun _ => rfl⟩, ⟨(fun j b h => by cases h), fun _ => rfl⟩, ⟨(fun j b h v W hv => by cases h; exact hv), (fun h => by cases h)⟩, ⟨(fun j b h v W hv => by cases h; exact hv), (fun h => by cases h)⟩, ⟨(fun j b h v W hv => by cases h; exact hv), (fun h => by cases h)⟩, ⟨(fun j b h v W hv => by cases h; exact hv), (fun h => by cases h)⟩, ⟨(fun j b h v W hv => by cases h; exact hv), (fun h => by cases h)⟩, ⟨(fun j b h v W hv => by cases h; exact hv), (fun h => by cases h)⟩, ⟨(fun j b h v W hv => by cases h; exact hv), (fun h => by cases h)⟩, ⟨(fun j b h v W hv => by cases h; exact hv), (fun h => by cases h)⟩, ⟨(fun j b h v W hv => by cases h; exact hv), (fun h => by cases h)⟩, ⟨(fun j b h => by cases h), fun _ => rfl⟩, trivial⟩ ⟨?s0, ?s1, ?s2, ?s3, ?s4, ?s5, ?s6, ?s7, ?s8, ?s9, ?s10, ?s11, ?s12, ?s13, trivial⟩ ?hskip ?hdone
  case hst =>
    intro L i j v W W' hLi hLj hne hcl hR h
    match j with
    | 0 => exact h
    | 1 => exact h
    | 2 => exact h
    | 3 => exact h
    | 4 => exact h
    | 5 => exact h
    | 6 => exact h
    | 7 => exact h
    | 8 => exact h
    | 9 => exact h
    | 10 => exact h
    | 11 => exact h
    | 12 => exact h
    | 13 => exact h
    | n + 14 => trivial

  case s0 =>
    intro _ L ρ W hLi hcl hold hJ hT
    have q3 := hT.2.1 3 _ t3 rfl
    refine Op1.of_run (v := .slice A 0 c) (W' := W) (by clear hT hJ hcl hold; go_simp) ⟨Below.refl _ _, hJ, rfl⟩

  case s1 =>
    intro _ L ρ W hLi hcl hold hJ hT
    have q11 : ρ (.tmp 11) = .slice A 0 c := hT.1 11 0 rfl rfl
    refine Op1.of_run (v := .int .i64 0) (W' := W) (by clear hT hJ hcl hold; go_simp) ⟨Below.refl _ _, hJ, rfl⟩

  case s2 =>
    intro _ L ρ W hLi hcl hold hJ hT
    have q12 : ρ (.tmp 12) = .int .i64 0 := hT.1 12 1 rfl rfl
    have qc := hT.2.2.1 (Go.Value.int Go.IntKind.i64 0)
    refine Op1.of_run (v := .bool true) (W' := W) (by clear hT hJ hcl hold; go_simp) ⟨Below.refl _ _, hJ, rfl⟩

  case s3 =>
    intro _ L ρ W hLi hcl hold hJ hT
    have q13 : ρ (.tmp 13) = .bool true := hT.1 13 2 rfl rfl
    refine Op1.of_run (v := .bool true) (W' := W) (by clear hT hJ hcl hold; go_simp) ⟨Below.refl _ _, hJ, rfl⟩

  case s4 => intro h; cases h

  case s5 => intro h; cases h

  case s6 => intro h; cases h

  case s7 => intro h; cases h

  case s8 => intro h; cases h

  case s9 => intro h; cases h

  case s10 => intro h; cases h

  case s11 => intro h; cases h

  case s12 => intro h; cases h

  case s13 =>
    intro _ L ρ W hLi hcl hold hJ hT
    have q14 : ρ (.tmp 14) = .bool true := hT.1 14 3 rfl rfl
    have z23 := hT.1 23 12 rfl rfl
    have qc := hT.2.2.1 (Go.Value.bool true)
    refine Op1.of_run (v := .bool true) (W' := W) (by clear hT hJ hcl hold; go_simp) ⟨Below.refl _ _, hJ, rfl⟩

  case hskip =>
    intro i hi L W hLi hJ
    have hi2 : i = 4 ∨ i = 5 ∨ i = 6 ∨ i = 7 ∨ i = 8 ∨ i = 9 ∨ i = 10 ∨ i = 11 ∨ i = 12 := by simpa using hi
    rcases hi2 with rfl | rfl | rfl | rfl | rfl | rfl | rfl | rfl | rfl <;> exact ⟨hJ, trivial⟩

  case hdone =>
    intro σ L W hL hJ hV
    exact hQ σ W ⟨hJ, hV 13 (by decide)⟩
def rd4_val (b o n c g : Nat) (f T : Int) : Nat → Value → World → Prop := fun j v W => match j with
  | 0 => v = .slice (some ⟨b, o, none⟩) n c
  | 1 => v = .int .i64 (n : Int)
  | 2 => v = .bool false
  | 3 => v = .bool false
  | 4 => v = .slice (some ⟨b, o, none⟩) n c
  | 5 => v = .pointer (some ⟨b, o, none⟩)
  | 6 => v = .pointer (some ⟨b, o, none⟩)
  | 7 => v = .int .i64 f
  | 8 => v = .pointer (some ⟨g, 0, none⟩)
  | 9 => v = .pointer (some ⟨g, 0, none⟩)
  | 10 => v = .pointer (some ⟨g, 2, none⟩)
  | 11 => v = .int .i64 T
  | 12 => v = .bool (f != T)
  | 13 => v = .bool (f != T)
  | _ => True

set_option maxRecDepth 100000 in
set_option maxHeartbeats 4000000 in
theorem Ready_r4 (b o n c g : Nat) (f T : Int) (t0 : List Value) (d0 : List Deferred) (w : World) (Q : Exit → Act → World → Prop) (hl : t0.length = rd4_tab.length)
    (t3 : t0[3]? = some (.slice (some ⟨b, o, none⟩) n c)) (t0_ : t0[0]? = some (.pointer (some ⟨g, 0, none⟩))) (hn : 0 < n) (k0 : w.cell? ⟨b, o, none⟩ = some (.int .i64 f)) (k2 : w.cell? ⟨g, 2, none⟩ = some (.int .i64 T))
    (hQ : ∀ σ W, Below w.heap.size w W ∧ σ 13 = .bool (f != T) → Q .normal (lazyA (fun _ => true) σ t0 rd4_tab d0) W) :
    (Code.region 4 rd4_ops.toArray true).wp Try.prog Q { tmps := t0.toArray, defers := d0 } w := by
  refine wp_region_valsO (by kernel_rfl) rd4_tab (by kernel_rfl) hl (fun i => [].contains i) (fun i W W' => Below W.heap.size W W') (fun L W => Below w.heap.size w W) (rd4_val b o n c g f T) (below_drew (Below.refl _ _)) ?hst ⟨⟨(fun j b h => by cases h), fun _ => rfl⟩, ⟨(fun j b h => by cases h), fun _ => rfl⟩, ⟨(fun j b h => by cases h), fun _ => rfl⟩, ⟨(fun j b h => by cases h), fun _ => rfl⟩, ⟨(fun j b h v W hv => by cases h; exact hv), (fun h => by cases h)⟩, ⟨(fun j b h v W hv => by cases h; exact hv), (fun h => by cases h)⟩, ⟨(fun j b h v W hv => by cases h; exact hv), (fun h => by cases h)⟩, ⟨(fun j b h v W hv => by cases h; exact hv), (fun h => by cases h)⟩, ⟨(fun j b h v W hv => by cases h; exact hv), (fun h => by cases h)⟩, ⟨(fun j b h v W hv => by cases h; exact hv), (fun h => by cases h)⟩, ⟨(fun j b h v W hv => by cases h; exact hv), (fun h => by cases h)⟩, ⟨(fun j b h v W hv => by cases h; exact hv), (fun h => by cases h)⟩, ⟨(fun j b h v W hv => by cases h; exact hv), (fun h => by cases h)⟩, ⟨(fun j b h => by cases h), fun _ => rfl⟩, trivial⟩ ⟨?s0, ?s1, ?s2, ?s3, ?s4, ?s5, ?s6, ?s7, ?s8, ?s9, ?s10, ?s11, ?s12, ?s13, trivial⟩ ?hskip ?hdone
  case hst =>
    intro L i j v W W' hLi hLj hne hcl hR h
    match j with
    | 0 => exact h
    | 1 => exact h
    | 2 => exact h
    | 3 => exact h
    | 4 => exact h
    | 5 => exact h
    | 6 => exact h
    | 7 => exact h
    | 8 => exact h
    | 9 => exact h
    | 10 => exact h
    | 11 => exact h
    | 12 => exact h
    | 13 => exact h
    | n + 14 => trivial

  case s0 =>
    intro _ L ρ W hLi hcl hold hJ hT
    have q3 := hT.2.1 3 _ t3 rfl
    refine Op1.of_run (v := .slice (some ⟨b, o, none⟩) n c) (W' := W) (by clear hT hJ hcl hold; go_simp) ⟨Below.refl _ _, hJ, rfl⟩

  case s1 =>
    intro _ L ρ W hLi hcl hold hJ hT
    have q11 : ρ (.tmp 11) = .slice (some ⟨b, o, none⟩) n c := hT.1 11 0 rfl rfl
    refine Op1.of_run (v := .int .i64 (n : Int)) (W' := W) (by clear hT hJ hcl hold; go_simp) ⟨Below.refl _ _, hJ, rfl⟩

  case s2 =>
    intro _ L ρ W hLi hcl hold hJ hT
    have q12 : ρ (.tmp 12) = .int .i64 (n : Int) := hT.1 12 1 rfl rfl
    have qc := hT.2.2.1 (Go.Value.int Go.IntKind.i64 0)
    have e1 : ((n : Int) == 0) = false := beq_eq_false_iff_ne.2 (by omega)
    refine Op1.of_run (v := .bool false) (W' := W) (by clear hT hJ hcl hold; go_simp) ⟨Below.refl _ _, hJ, rfl⟩

  case s3 =>
    intro _ L ρ W hLi hcl hold hJ hT
    have q13 : ρ (.tmp 13) = .bool false := hT.1 13 2 rfl rfl
    refine Op1.of_run (v := .bool false) (W' := W) (by clear hT hJ hcl hold; go_simp) ⟨Below.refl _ _, hJ, rfl⟩

  case s4 =>
    intro _ L ρ W hLi hcl hold hJ hT
    have q3 := hT.2.1 3 _ t3 rfl
    refine Op1.of_run (v := .slice (some ⟨b, o, none⟩) n c) (W' := W) (by clear hT hJ hcl hold; go_simp) ⟨Below.refl _ _, hJ, rfl⟩

  case s5 =>
    intro _ L ρ W hLi hcl hold hJ hT
    have q15 : ρ (.tmp 15) = .slice (some ⟨b, o, none⟩) n c := hT.1 15 4 rfl rfl
    have qc := hT.2.2.1 (Go.Value.int Go.IntKind.i64 0)
    have e1 : (0 : Int) < (n : Int) := by omega
    refine Op1.of_run (v := .pointer (some ⟨b, o, none⟩)) (W' := W) (by clear hT hJ hcl hold; go_simp) ⟨Below.refl _ _, hJ, rfl⟩

  case s6 =>
    intro _ L ρ W hLi hcl hold hJ hT
    have q16 : ρ (.tmp 16) = .pointer (some ⟨b, o, none⟩) := hT.1 16 5 rfl rfl
    refine Op1.of_run (v := .pointer (some ⟨b, o, none⟩)) (W' := W) (by clear hT hJ hcl hold; go_simp) ⟨Below.refl _ _, hJ, rfl⟩

  case s7 =>
    intro _ L ρ W hLi hcl hold hJ hT
    have q17 : ρ (.tmp 17) = .pointer (some ⟨b, o, none⟩) := hT.1 17 6 rfl rfl
    have cc := (hJ.cell (World.block_lt_of_cell? _ _ k0)).trans k0
    refine Op1.of_run (v := .int .i64 f) (W' := W) (by clear hT hJ hcl hold; go_simp) ⟨Below.refl _ _, hJ, rfl⟩

  case s8 =>
    intro _ L ρ W hLi hcl hold hJ hT
    have q0 := hT.2.1 0 _ t0_ rfl
    refine Op1.of_run (v := .pointer (some ⟨g, 0, none⟩)) (W' := W) (by clear hT hJ hcl hold; go_simp) ⟨Below.refl _ _, hJ, rfl⟩

  case s9 =>
    intro _ L ρ W hLi hcl hold hJ hT
    have q19 : ρ (.tmp 19) = .pointer (some ⟨g, 0, none⟩) := hT.1 19 8 rfl rfl
    refine Op1.of_run (v := .pointer (some ⟨g, 0, none⟩)) (W' := W) (by clear hT hJ hcl hold; go_simp) ⟨Below.refl _ _, hJ, rfl⟩

  case s10 =>
    intro _ L ρ W hLi hcl hold hJ hT
    have q20 : ρ (.tmp 20) = .pointer (some ⟨g, 0, none⟩) := hT.1 20 9 rfl rfl
    refine Op1.of_run (v := .pointer (some ⟨g, 2, none⟩)) (W' := W) (by clear hT hJ hcl hold; go_simp) ⟨Below.refl _ _, hJ, rfl⟩

  case s11 =>
    intro _ L ρ W hLi hcl hold hJ hT
    have q21 : ρ (.tmp 21) = .pointer (some ⟨g, 2, none⟩) := hT.1 21 10 rfl rfl
    have cc := (hJ.cell (World.block_lt_of_cell? _ _ k2)).trans k2
    refine Op1.of_run (v := .int .i64 T) (W' := W) (by clear hT hJ hcl hold; go_simp) ⟨Below.refl _ _, hJ, rfl⟩

  case s12 =>
    intro _ L ρ W hLi hcl hold hJ hT
    have q18 : ρ (.tmp 18) = .int .i64 f := hT.1 18 7 rfl rfl
    have q22 : ρ (.tmp 22) = .int .i64 T := hT.1 22 11 rfl rfl
    refine Op1.of_run (v := .bool (f != T)) (W' := W) (by clear hT hJ hcl hold; go_simp) ⟨Below.refl _ _, hJ, rfl⟩

  case s13 =>
    intro _ L ρ W hLi hcl hold hJ hT
    have q14 : ρ (.tmp 14) = .bool false := hT.1 14 3 rfl rfl
    have q23 : ρ (.tmp 23) = .bool (f != T) := hT.1 23 12 rfl rfl
    have qc := hT.2.2.1 (Go.Value.bool true)
    refine Op1.of_run (v := .bool (f != T)) (W' := W) (by clear hT hJ hcl hold; go_simp) ⟨Below.refl _ _, hJ, rfl⟩

  case hskip => intro i hi; simp at hi

  case hdone =>
    intro σ L W hL hJ hV
    exact hQ σ W ⟨hJ, hV 13 (by decide)⟩
abbrev rd6_ops : List Oper := [{ dst := some 25, op := .move (.tmp 3), type := 74, pos := "gather.go:93", after := #[], guard := none },
  { dst := some 26, op := .indexAddr 74 (.tmp 25) (.const (.int .i64 0)), type := 0, pos := "gather.go:93", after := #[⟨0, .data⟩], guard := none },
  { dst := some 27, op := .fieldAddr 95 (.tmp 26) 1, type := 0, pos := "gather.go:93", after := #[⟨1, .data⟩], guard := none },
  { dst := some 28, op := .load 3 (.tmp 27), type := 3, pos := "gather.go:93", after := #[⟨2, .data⟩], guard := none },
  { dst := some 29, op := .move (.tmp 3), type := 74, pos := "gather.go:93", after := #[], guard := none },
  { dst := some 30, op := .indexAddr 74 (.tmp 29) (.const (.int .i64 0)), type := 0, pos := "gather.go:93", after := #[⟨4, .data⟩], guard := none },
  { dst := some 31, op := .fieldAddr 95 (.tmp 30) 0, type := 0, pos := "gather.go:93", after := #[⟨5, .data⟩], guard := none },
  { dst := some 32, op := .load 3 (.tmp 31), type := 3, pos := "gather.go:93", after := #[⟨6, .data⟩], guard := none },
  { dst := some 33, op := .binOp .sub 3 (.tmp 28) (.tmp 32) 3, type := 3, pos := "gather.go:93", after := #[⟨3, .data⟩, ⟨7, .data⟩], guard := none },
  { dst := some 34, op := .binOp .add 3 (.tmp 33) (.const (.int .i64 1)) 3, type := 3, pos := "gather.go:93", after := #[⟨8, .data⟩], guard := none },
  { dst := some 2, op := .assign (.tmp 34), type := 3, pos := "gather.go:93", after := #[⟨9, .data⟩, ⟨0, .phase⟩, ⟨1, .phase⟩, ⟨2, .phase⟩, ⟨3, .phase⟩, ⟨4, .phase⟩, ⟨5, .phase⟩, ⟨6, .phase⟩, ⟨7, .phase⟩, ⟨8, .phase⟩, ⟨9, .phase⟩], guard := none }]
abbrev rd6_tab : List (Option Nat) := [none, none, some 10, none, none, none, none, none, none, none, none, none, none, none, none, none, none, none, none, none, none, none, none, none, none, some 0, some 1, some 2, some 3, some 4, some 5, some 6, some 7, some 8, some 9]

def rd6_val (b o n c : Nat) (f t : Int) : Nat → Value → World → Prop := fun j v W => match j with
  | 0 => v = .slice (some ⟨b, o, none⟩) n c
  | 1 => v = .pointer (some ⟨b, o, none⟩)
  | 2 => v = .pointer (some ⟨b, o + 1, none⟩)
  | 3 => v = .int .i64 t
  | 4 => v = .slice (some ⟨b, o, none⟩) n c
  | 5 => v = .pointer (some ⟨b, o, none⟩)
  | 6 => v = .pointer (some ⟨b, o, none⟩)
  | 7 => v = .int .i64 f
  | 8 => v = .int .i64 (t - f)
  | 9 => v = .int .i64 (t - f + 1)
  | 10 => v = .int .i64 (t - f + 1)
  | _ => True

set_option maxRecDepth 100000 in
set_option maxHeartbeats 4000000 in
theorem Ready_r6 (b o n c : Nat) (f t : Int) (t0 : List Value) (d0 : List Deferred) (w : World) (Q : Exit → Act → World → Prop) (hl : t0.length = rd6_tab.length)
    (t3 : t0[3]? = some (.slice (some ⟨b, o, none⟩) n c)) (hn : 0 < n) (k0 : w.cell? ⟨b, o, none⟩ = some (.int .i64 f)) (k1 : w.cell? ⟨b, o + 1, none⟩ = some (.int .i64 t)) (hf : 0 ≤ f) (hft : f ≤ t) (ht : t ≤ 1099511627776)
    (hQ : ∀ σ W, Below w.heap.size w W ∧ σ 10 = .int .i64 (t - f + 1) → Q .normal (lazyA (fun _ => true) σ t0 rd6_tab d0) W) :
    (Code.region 6 rd6_ops.toArray true).wp Try.prog Q { tmps := t0.toArray, defers := d0 } w := by
  refine wp_region_valsO (by kernel_rfl) rd6_tab (by kernel_rfl) hl (fun i => [].contains i) (fun i W W' => Below W.heap.size W W') (fun L W => Below w.heap.size w W) (rd6_val b o n c f t) (below_drew (Below.refl _ _)) ?hst ⟨⟨(fun j b h => by cases h), fun _ => rfl⟩, ⟨(fun j b h => by cases h), fun _ => rfl⟩, ⟨(fun j b h => by cases h), fun _ => rfl⟩, ⟨(fun j b h => by cases h), fun _ => rfl⟩, ⟨(fun j b h => by cases h), fun _ => rfl⟩, ⟨(fun j b h => by cases h), fun _ => rfl⟩, ⟨(fun j b h => by cases h), fun _ => rfl⟩, ⟨(fun j b h => by cases h), fun _ => rfl⟩, ⟨(fun j b h => by cases h), fun _ => rfl⟩, ⟨(fun j b h => by cases h), fun _ => rfl⟩, ⟨(fun j b h => by cases h), fun _ => rfl⟩, trivial⟩ ⟨?s0, ?s1, ?s2, ?s3, ?s4, ?s5, ?s6, ?s7, ?s8, ?s9, ?s10, trivial⟩ ?hskip ?hdone
  case hst =>
    intro L i j v W W' hLi hLj hne hcl hR h
    match j with
    | 0 => exact h
    | 1 => exact h
    | 2 => exact h
    | 3 => exact h
    | 4 => exact h
    | 5 => exact h
    | 6 => exact h
    | 7 => exact h
    | 8 => exact h
    | 9 => exact h
    | 10 => exact h
    | n + 11 => trivial

  case s0 =>
    intro _ L ρ W hLi hcl hold hJ hT
    have q3 := hT.2.1 3 _ t3 rfl
    refine Op1.of_run (v := .slice (some ⟨b, o, none⟩) n c) (W' := W) (by clear hT hJ hcl hold; go_simp) ⟨Below.refl _ _, hJ, rfl⟩

  case s1 =>
    intro _ L ρ W hLi hcl hold hJ hT
    have q25 : ρ (.tmp 25) = .slice (some ⟨b, o, none⟩) n c := hT.1 25 0 rfl rfl
    have qc := hT.2.2.1 (Go.Value.int Go.IntKind.i64 0)
    have e1 : (0 : Int) < (n : Int) := by omega
    refine Op1.of_run (v := .pointer (some ⟨b, o, none⟩)) (W' := W) (by clear hT hJ hcl hold; go_simp) ⟨Below.refl _ _, hJ, rfl⟩

  case s2 =>
    intro _ L ρ W hLi hcl hold hJ hT
    have q26 : ρ (.tmp 26) = .pointer (some ⟨b, o, none⟩) := hT.1 26 1 rfl rfl
    refine Op1.of_run (v := .pointer (some ⟨b, o + 1, none⟩)) (W' := W) (by clear hT hJ hcl hold; go_simp) ⟨Below.refl _ _, hJ, rfl⟩

  case s3 =>
    intro _ L ρ W hLi hcl hold hJ hT
    have q27 : ρ (.tmp 27) = .pointer (some ⟨b, o + 1, none⟩) := hT.1 27 2 rfl rfl
    have cc := (hJ.cell (World.block_lt_of_cell? _ _ k1)).trans k1
    refine Op1.of_run (v := .int .i64 t) (W' := W) (by clear hT hJ hcl hold; go_simp) ⟨Below.refl _ _, hJ, rfl⟩

  case s4 =>
    intro _ L ρ W hLi hcl hold hJ hT
    have q3 := hT.2.1 3 _ t3 rfl
    refine Op1.of_run (v := .slice (some ⟨b, o, none⟩) n c) (W' := W) (by clear hT hJ hcl hold; go_simp) ⟨Below.refl _ _, hJ, rfl⟩

  case s5 =>
    intro _ L ρ W hLi hcl hold hJ hT
    have q29 : ρ (.tmp 29) = .slice (some ⟨b, o, none⟩) n c := hT.1 29 4 rfl rfl
    have qc := hT.2.2.1 (Go.Value.int Go.IntKind.i64 0)
    have e1 : (0 : Int) < (n : Int) := by omega
    refine Op1.of_run (v := .pointer (some ⟨b, o, none⟩)) (W' := W) (by clear hT hJ hcl hold; go_simp) ⟨Below.refl _ _, hJ, rfl⟩

  case s6 =>
    intro _ L ρ W hLi hcl hold hJ hT
    have q30 : ρ (.tmp 30) = .pointer (some ⟨b, o, none⟩) := hT.1 30 5 rfl rfl
    refine Op1.of_run (v := .pointer (some ⟨b, o, none⟩)) (W' := W) (by clear hT hJ hcl hold; go_simp) ⟨Below.refl _ _, hJ, rfl⟩

  case s7 =>
    intro _ L ρ W hLi hcl hold hJ hT
    have q31 : ρ (.tmp 31) = .pointer (some ⟨b, o, none⟩) := hT.1 31 6 rfl rfl
    have cc := (hJ.cell (World.block_lt_of_cell? _ _ k0)).trans k0
    refine Op1.of_run (v := .int .i64 f) (W' := W) (by clear hT hJ hcl hold; go_simp) ⟨Below.refl _ _, hJ, rfl⟩

  case s8 =>
    intro _ L ρ W hLi hcl hold hJ hT
    have q28 : ρ (.tmp 28) = .int .i64 t := hT.1 28 3 rfl rfl
    have q32 : ρ (.tmp 32) = .int .i64 f := hT.1 32 7 rfl rfl
    have e1 : IntKind.i64.wrap (t - f) = t - f := IntWalk.i64_in _ (by omega)
    refine Op1.of_run (v := .int .i64 (t - f)) (W' := W) (by clear hT hJ hcl hold; go_simp) ⟨Below.refl _ _, hJ, rfl⟩

  case s9 =>
    intro _ L ρ W hLi hcl hold hJ hT
    have q33 : ρ (.tmp 33) = .int .i64 (t - f) := hT.1 33 8 rfl rfl
    have qc := hT.2.2.1 (Go.Value.int Go.IntKind.i64 1)
    have e1 : IntKind.i64.wrap (t - f + 1) = t - f + 1 := IntWalk.i64_in _ (by omega)
    refine Op1.of_run (v := .int .i64 (t - f + 1)) (W' := W) (by clear hT hJ hcl hold; go_simp) ⟨Below.refl _ _, hJ, rfl⟩

  case s10 =>
    intro _ L ρ W hLi hcl hold hJ hT
    have q34 : ρ (.tmp 34) = .int .i64 (t - f + 1) := hT.1 34 9 rfl rfl
    refine Op1.of_run (v := .int .i64 (t - f + 1)) (W' := W) (by clear hT hJ hcl hold; go_simp) ⟨Below.refl _ _, hJ, rfl⟩

  case hskip => intro i hi; simp at hi

  case hdone =>
    intro σ L W hL hJ hV
    exact hQ σ W ⟨hJ, hV 10 (by decide)⟩
def readyL (l : List S95) (T : Int) : Int := match l with
  | [] => 0
  | x :: _ => if x.f0 = T then x.f1 - x.f0 + 1 else 0
set_option maxRecDepth 100000 in
set_option maxHeartbeats 4000000 in
theorem GReady_calls (g gm gs n : Nat) (l : List S95) (T H F : Int) (D : DM) (w : World) (h : BufAt w g gm gs n l T H F D) (hw : wf 0 l) :
    Calls Try.prog 58 #[.pointer (some ⟨g, 0, none⟩)] w fun e w' => e = .returned (.int .i64 (readyL l T)) ∧ Below w.heap.size w w' := by
  obtain ⟨k0, k1, k2, k3, k4⟩ := h.cells
  have hll : l.length < 8796093022208 := by have := wf_len hw (by omega); omega
  have HS := Aside0.mk (Set_Spans.calls gs l l w h.set.isSet (show slices_Clone.f l = some l by unfold slices_Clone.f; rw [if_pos hll]))
  cases l with
  | nil =>
    clear h
    go_enter Try.func58, Try.ntmps58
    go_wp2_with (go_at_call 39; refine HS.out.mono ?_; rintro e w2 ⟨v, rfl, hr, hb⟩; obtain ⟨A, c, rfl, hc, hC⟩ := Kd.R_reads hr; have HB := Aside0.mk hb; clear hr hb hc hC)
    refine Ready_r4e A c _ _ _ _ (by rfl) (by rfl) ?_
    intro σ W ⟨hB, hσ⟩
    have HB2 := Aside0.mk hB
    clear hB
    simp only [lazyA, lazyT, rd4_tab, List.zipWith_cons_cons, List.zipWith_nil_left, cond_true]
    rename_i K0 hK0
    refine hK0 _ _ ?_
    rw [hσ]
    go_wp2
    go_ret
    exact ⟨rfl, below_step HB.out HB2.out⟩
  | cons x r =>
    obtain ⟨w1, w2, w3, w4⟩ := hw
    have HBF := Aside0.mk h
    clear h
    obtain ⟨n0, hn0⟩ : ∃ n0, (x :: r).length = n0 := ⟨_, rfl⟩
    have hnp : 0 < n0 := by rw [← hn0]; simp
    have HN := Aside0.mk hn0
    clear hn0
    go_enter Try.func58, Try.ntmps58
    go_wp2_with (go_at_call 39; refine HS.out.mono ?_; rintro e wa ⟨v, rfl, hr, hb⟩; obtain ⟨A, c, rfl, hc, hC⟩ := Kd.R_reads hr; rw [HN.out] at hC ⊢; have HB := Aside0.mk hb; have HC := Aside0.mk hC; have m2 := (HBF.out.below hb).cells.2.2.1; clear hr hb hc hC)
    obtain ⟨b, o, hA, z0, z1⟩ := row_at HC.out 0 (by simp)
    subst hA
    simp only [Nat.zero_mul, Nat.add_zero, List.getElem_cons_zero] at z0 z1
    refine Ready_r4 b o n0 c g x.f0 T _ _ _ _ (by rfl) (by rfl) (by rfl) hnp z0 m2 ?_
    intro σ W ⟨hB, hσ⟩
    have HB2 := Aside0.mk hB
    clear hB
    simp only [lazyA, lazyT, rd4_tab, List.zipWith_cons_cons, List.zipWith_nil_left, cond_true]
    rename_i K0 hK0
    refine hK0 _ _ ?_
    rw [hσ]
    by_cases hT : x.f0 = T
    · have e1 : (x.f0 != T) = false := by simp [hT]
      rw [e1]
      have HR := Aside0.mk (show readyL (x :: r) T = x.f1 - x.f0 + 1 by simp [readyL, hT])
      have y0 := (HB2.out.cell (World.block_lt_of_cell? _ _ z0)).trans z0
      have y1 := (HB2.out.cell (World.block_lt_of_cell? _ _ z1)).trans z1
      clear hT
      go_wp2
      refine Ready_r6 b o n0 c x.f0 x.f1 _ _ _ _ (by rfl) (by rfl) hnp y0 y1 w1 w2 w3 ?_
      intro σ2 W2 ⟨hB, hσ2⟩
      have HB3 := Aside0.mk hB
      clear hB
      simp only [lazyA, lazyT, rd6_tab, List.zipWith_cons_cons, List.zipWith_nil_left, cond_true]
      rename_i K1 hK1
      refine hK1 _ _ ?_
      rw [hσ2]
      go_wp2
      go_ret
      exact ⟨by rw [HR.out]; try rfl, below_step (below_step HB.out HB2.out) HB3.out⟩
    · have e1 : (x.f0 != T) = true := by simp [hT]
      rw [e1]
      have HR := Aside0.mk (show readyL (x :: r) T = 0 by simp [readyL, hT])
      clear hT
      go_wp2
      go_ret
      exact ⟨by rw [HR.out]; try rfl, below_step HB.out HB2.out⟩
end Go.Proofs.Ytiladcdogbeomaa.QRangesPlays
