/- Law 24 (outbox): contracts of functions that its statements reach, and plain laws behind them (part 6). No condition. -/
import Derived.Test.YtiladcdogbeomaaUe
namespace Go.Proofs.Ytiladcdogbeomaa.Lazy
open Go
section
variable {P : Program} {Q : Exit → Act → World → Prop} {ops : List Oper} {tab : List (Option Nat)} {t0 : List Value} {d0 : List Deferred}
theorem wpAny_outU {I : (Nat → Bool) → (Nat → Value) → World → Prop} (out : Nat → Bool) (hG : fitsG ops tab = true) (hl : t0.length = tab.length)
    (hg : ∀ (i : Nat) (o : Oper), ops[i]? = some o → (∀ j b, o.guard = some (j, b) → ∀ L σ W, I L σ W → L j = true → (σ j = .bool (if out i then !b else b) ∨ (out i = true ∧ σ j = undef))) ∧ (o.guard = none → out i = false))
    (hstep : ∀ (i : Nat) (o : Oper), ops[i]? = some o → out i = false → ∀ L σ W, L i = false → (∀ e ∈ o.after, Region.binds .any e = true → L e.on = true) → I L σ W → Op1 P o (lazyA L σ t0 tab d0).eval W (fun v W' => I (updL L i) (updS σ i v) W'))
    (hskip : ∀ (i : Nat) (o : Oper), ops[i]? = some o → out i = true → ∀ L σ W, L i = false → (∀ e ∈ o.after, Region.binds .any e = true → L e.on = true) → I L σ W → I (updL L i) (updS σ i undef) W)
    (hdone : ∀ L σ W, (∀ j, j < ops.length → L j = true) → I L σ W → Q .normal (lazyA L σ t0 tab d0) W) :
    ∀ (fuel : Nat) (listed : Array Bool) (σ : Nat → Value) (W : World), listed.size = ops.length → falses listed ≤ fuel → I (toL listed) σ W → wpAny P .any ops.toArray Q fuel listed (lazyA (toL listed) σ t0 tab d0) W := by
  have hf := fits_of (fits_bare hG)
  have hlen : (bare ops).length = ops.length := by unfold bare; simp
  have hal : ∀ {listed : Array Bool}, listed.size = ops.length → Region.ready .any ops.toArray listed = [] → ∀ j, j < ops.length → toL listed j = true := by
    intro listed hs hr j hj
    exact all_listed hf (by rw [hlen]; exact hs) (ready_bare hr) j (by rw [hlen]; exact hj)
  intro fuel
  induction fuel with
  | zero =>
    intro listed σ W hs hn hI
    have hr : Region.ready .any ops.toArray listed = [] := by
      cases hr : Region.ready .any ops.toArray listed with
      | nil => rfl
      | cons x xs =>
        have hx : x ∈ Region.ready .any ops.toArray listed := by rw [hr]; exact List.mem_cons_self ..
        have := falses_set (mem_ready.1 hx).1
        omega
    exact ⟨hr, hdone _ _ _ (hal hs hr) hI⟩
  | succ fuel ih =>
    intro listed σ W hs hn hI
    refine ⟨fun hr => hdone _ _ _ (hal hs hr) hI, ?_⟩
    intro i hi
    obtain ⟨h0, o, ho, hall⟩ := mem_ready.1 hi
    have ho' : ops[i]? = some o := by simpa using ho
    have hob : (bare ops)[i]? = some { o with guard := none } := by rw [bare_get, ho']; rfl
    have hlt : i < listed.size := by rw [hs]; exact (List.getElem?_eq_some_iff.1 ho').1
    have hLi : toL listed i = false := by
      unfold toL
      simp [hlt] at h0 ⊢; exact h0
    have hput : ∀ v W', I (updL (toL listed) i) (updS σ i v) W' → wpAny P .any ops.toArray Q fuel (listed.setIfInBounds i true) ((lazyA (toL listed) σ t0 tab d0).put o.dst v) W' := by
      intro v W' hI'
      have hp := put_lazy (L := toL listed) (σ := σ) (t0 := t0) (d0 := d0) hf hl hob v
      simp only at hp
      rw [hp, ← toL_set hlt]
      exact ih _ _ _ (by simpa using hs) (by have := falses_set h0; omega) (by rw [toL_set hlt]; exact hI')
    obtain ⟨hg1, hg2⟩ := hg i o ho'
    have hw : Region.wanted o (yielded ops.toArray (lazyA (toL listed) σ t0 tab d0).tmps) = !(out i) := by
      unfold Region.wanted
      cases hgd : o.guard with
      | none => rw [hg2 hgd]; rfl
      | some jb =>
        obtain ⟨j, b⟩ := jb
        obtain ⟨⟨e, he, hb, hej⟩, d, hd⟩ := fitsG_gd hG ho' hgd
        have hLj : toL listed j = true := by rw [← hej]; exact hall e he hb
        have hv := hg1 j b hgd _ _ _ hI hLj
        have htab : tab[d]? = some (some j) := by
          cases hoj : ops[j]? with
          | none => rw [hoj] at hd; cases hd
          | some oj =>
            rw [hoj] at hd
            exact hf.dst j { oj with guard := none } d (by rw [bare_get, hoj]; rfl) hd
        have hget := lazyT_get (σ := σ) hl htab hLj
        rcases hv with hv | ⟨ho2, hv⟩
        · simp only [yielded, List.getElem?_toArray, hd, Option.bind_some, lazyA, hget, hv]
          cases out i <;> cases b <;> rfl
        · simp only [yielded, List.getElem?_toArray, hd, Option.bind_some, lazyA, hget, hv, ho2]
          cases b <;> rfl
    unfold wpOp
    rw [ho]
    simp only
    rw [hw]
    by_cases hout : out i = true
    · rw [hout]
      exact hput undef W (hskip i o ho' hout _ _ _ hLi hall hI)
    · rw [Bool.eq_false_iff.2 hout]
      exact .inl ((hstep i o ho' (Bool.eq_false_iff.2 hout) _ _ _ hLi hall hI).wp (fun v W' hI' => hput v W' hI'))
/-- The law: R tells what an operation turns, J what has come of the world, Val what an operation's value is; 'out' says which operations are left out. -/
theorem wp_region_valsU {id : Nat} {w : World} (hm : P.follows .mixedOrders = true) (tab : List (Option Nat)) (hG : fitsG ops tab = true) (hl : t0.length = tab.length) (out : Nat → Bool)
    (R : Nat → World → World → Prop) (J : (Nat → Bool) → World → Prop) (Val : Nat → Value → World → Prop) (hJ : J (fun _ => false) w.drew)
    (hst : ∀ (L : Nat → Bool) (i j : Nat) (v : Value) (W W' : World), L i = false → L j = true → j ≠ i → (∀ j d, (((ops[j]?).map fun o => o.after.toList.any fun e => e.on == d && Region.binds .any e) == some true) = true → L j = true → L d = true) → R i W W' → Val j v W → Val j v W')
    (hg : AllFrom (fun i o => (∀ j b, o.guard = some (j, b) → ∀ v W, Val j v W → (v = .bool (if out i then !b else b) ∨ (out i = true ∧ v = undef))) ∧ (o.guard = none → out i = false)) 0 ops)
    (hstep : AllFrom (fun i o => out i = false → ∀ L ρ W, L i = false → (∀ j d, (((ops[j]?).map fun o => o.after.toList.any fun e => e.on == d && Region.binds .any e) == some true) = true → L j = true → L d = true) → (∀ s j x, tab[s]? = some (some j) → L j = false → t0[s]? = some x → ρ (.tmp s) = x) → J L W → Told Val tab t0 o ρ W → Op1 P o ρ W (fun v W' => R i W W' ∧ J (updL L i) W' ∧ Val i v W')) 0 ops)
    (hskip : ∀ i, out i = true → ∀ L W, L i = false → J L W → J (updL L i) W ∧ Val i undef W)
    (hdone : ∀ σ L W, (∀ j, j < ops.length → L j = true) → J L W → (∀ j, j < ops.length → Val j (σ j) W) → Q .normal (lazyA (fun _ => true) σ t0 tab d0) W) :
    (Code.region id ops.toArray true).wp P Q { tmps := t0.toArray, defers := d0 } w := by
  have hF := fits_of (fits_bare hG)
  have hlen : (bare ops).length = ops.length := by unfold bare; simp
  refine wp_region_any hm ?_
  rw [← lazy_start (d0 := d0) hF (fun _ => undef) hl, ← toL_none ops.toArray.size]
  have hclo : ∀ {i : Nat} {o : Oper} {L : Nat → Bool}, ops[i]? = some o → (∀ e ∈ o.after, Region.binds .any e = true → L e.on = true) → (∀ j d, (((ops[j]?).map fun o => o.after.toList.any fun e => e.on == d && Region.binds .any e) == some true) = true → L j = true → L d = true) →
      ∀ j d, (((ops[j]?).map fun o => o.after.toList.any fun e => e.on == d && Region.binds .any e) == some true) = true → updL L i j = true → updL L i d = true := by
    intro i o L ho hall hc j d hjd hj
    by_cases e : j = i
    · subst e
      rw [ho] at hjd
      simp only [Option.map_some, beq_iff_eq, Option.some.injEq] at hjd
      obtain ⟨e, he, hb⟩ := List.any_eq_true.1 hjd
      simp only [Bool.and_eq_true, beq_iff_eq] at hb
      exact upd_keep _ (by rw [← hb.1]; exact hall e (by simpa using he) hb.2)
    · exact upd_keep _ (hc j d hjd (upd_other hj e))
  refine wpAny_outU (I := fun L σ W => (∀ j d, (((ops[j]?).map fun o => o.after.toList.any fun e => e.on == d && Region.binds .any e) == some true) = true → L j = true → L d = true) ∧ J L W ∧ ∀ j, L j = true → Val j (σ j) W) out hG hl (fun i o ho => ?_) (fun i o ho hout L σ W hLi hall hI => ?_) (fun i o ho hout L σ W hLi hall hI => ?_) (fun L σ W hL hI => ?_) _ _ _ _ (by simp) (falses_none _) (by rw [toL_none]; exact ⟨fun j d _ hj => (by cases hj), hJ, fun j hj => (by cases hj)⟩)
  · have := allFrom_get hg i o ho
    rw [Nat.zero_add] at this
    exact ⟨fun j b hgd L σ W hI hL => this.1 j b hgd _ W (hI.2.2 j hL), this.2⟩
  · have := allFrom_get hstep i o ho
    rw [Nat.zero_add] at this
    refine Op1.mono (this hout L _ W hLi hI.1 (fun s j x h1 h2 h3 => lazy_still h3 h1 h2) hI.2.1 ⟨fun s j hs ha => ?_, fun s x hx hs => lazy_old hx hs, fun v => rfl, fun f => rfl⟩) ?_
    · obtain ⟨e, he, hb⟩ := List.any_eq_true.1 ha
      simp only [Bool.and_eq_true, beq_iff_eq] at hb
      have hLj : L j = true := by rw [← hb.1]; exact hall e (by simpa using he) hb.2
      rw [lazy_eval hl hs hLj]
      exact hI.2.2 j hLj
    · rintro v W' ⟨h1, h2, h3⟩
      refine ⟨hclo ho hall hI.1, h2, fun j hj => ?_⟩
      by_cases e : j = i
      · subst e; simpa [updS] using h3
      · simp only [updS, if_neg e]
        exact hst L i j _ _ _ hLi (upd_other hj e) e hI.1 h1 (hI.2.2 j (upd_other hj e))
  · obtain ⟨h2, h3⟩ := hskip i hout L W hLi hI.2.1
    refine ⟨hclo ho hall hI.1, h2, fun j hj => ?_⟩
    by_cases e : j = i
    · subst e; simpa [updS] using h3
    · simp only [updS, if_neg e]
      exact hI.2.2 j (upd_other hj e)
  · have e : lazyA L σ t0 tab d0 = lazyA (fun _ => true) σ t0 tab d0 := by
      unfold lazyA
      rw [lazyT_congr (fun j hj => hL j (by have := hF.rg j hj; omega))]
    rw [e]
    exact hdone σ L W hL hI.2.1 (fun j hj => hI.2.2 j (hL j hj))
end
end Go.Proofs.Ytiladcdogbeomaa.Lazy

namespace Go.Proofs.Ytiladcdogbeomaa.QRangesPlays
open Go.RowKit Go.Shelf Go.Proofs.YtiladcdogbeomaaW.PrintWords Go.Proofs.YtiladcdogbeomaaW.PrintLast Go.Proofs.YtiladcdogbeomaaW.PrintMore Go.Proofs.Ytiladcdogbeomaa.RowLaws Go.Proofs.Ytiladcdogbeomaa.Lazy
attribute [local go_sem] Oper.semAt_some
attribute [local go_sem] max2_int min2_int max_two min_two
abbrev nx5_ops : List Oper := [{ dst := some 30, op := .move (.tmp 0), type := 37, pos := "outbox.go:102", after := #[], guard := none },
  { dst := some 31, op := .nilCheck (.tmp 30), type := 0, pos := "outbox.go:102", after := #[⟨0, .data⟩], guard := none },
  { dst := some 32, op := .fieldAddr 114 (.tmp 31) 3, type := 0, pos := "outbox.go:102", after := #[⟨1, .data⟩], guard := none },
  { dst := some 33, op := .load 70 (.tmp 32), type := 70, pos := "outbox.go:102", after := #[⟨2, .data⟩], guard := none },
  { dst := some 34, op := .makeFunc (Go.Fn.func 48) #[.tmp 33] #[], type := 93, pos := "outbox.go:102", after := #[⟨3, .data⟩], guard := none },
  { dst := some 35, op := .load 52 (.tmp 8), type := 52, pos := "outbox.go:102", after := #[], guard := none },
  { dst := some 36, op := .call { callee := .value (.func 64), args := #[.tmp 34, .tmp 35], argTypes := #[93, 52] }, type := 0, pos := "outbox.go:102", after := #[⟨4, .data⟩, ⟨5, .data⟩], guard := none }]
abbrev nx5_tab : List (Option Nat) := [none, none, none, none, none, none, none, none, none, none, none, none, none, none, none, none, none, none, none, none, none, none, none, none, none, none, none, none, none, none, some 0, some 1, some 2, some 3, some 4, some 5, some 6, none, none, none, none, none, none, none, none, none, none, none]

def nx5_val (g ga : Nat) (X : Nat) (off : Int) (s : ByteArray) (fin : Bool) (l : List S95) : Nat → Value → World → Prop := fun j v W => match j with
  | 0 => v = .pointer (some ⟨g, 0, none⟩)
  | 1 => v = .pointer (some ⟨g, 0, none⟩)
  | 2 => v = .pointer (some ⟨g, 3, none⟩)
  | 3 => v = .pointer (some ⟨ga, 0, none⟩)
  | 4 => v = .func (.func 48) #[.pointer (some ⟨ga, 0, none⟩)] #[]
  | 5 => v = .agg #[.int .i64 off, .string s, .bool fin]
  | 6 => True
  | _ => True

set_option maxRecDepth 100000 in
set_option maxHeartbeats 4000000 in
theorem Next_r5 (g ga : Nat) (X : Nat) (off : Int) (s : ByteArray) (fin : Bool) (l : List S95) (t0 : List Value) (d0 : List Deferred) (w : World) (Q : Exit → Act → World → Prop) (hl : t0.length = nx5_tab.length)
    (t0_ : t0[0]? = some (.pointer (some ⟨g, 0, none⟩))) (t8 : t0[8]? = some (.pointer (some ⟨X, 0, none⟩))) (kb3 : w.cell? ⟨g, 3, none⟩ = some (.pointer (some ⟨ga, 0, none⟩))) (kx0 : w.cell? ⟨X, 0, none⟩ = some (.int .i64 off)) (kx1 : w.cell? ⟨X, 1, none⟩ = some (.string s)) (kx2 : w.cell? ⟨X, 2, none⟩ = some (.bool fin)) (ho : 0 ≤ off ∧ off ≤ 4611686018427387903) (hs : s.size ≤ 4611686018427387903) (h : SetAt w ga l) (hw : wf 0 l)
    (hQ : ∀ σ W, (SetAt W ga (spanRem off s l) ∧ Only ga w W) → Q .normal (lazyA (fun _ => true) σ t0 nx5_tab d0) W) :
    (Code.region 5 nx5_ops.toArray true).wp Try.prog Q { tmps := t0.toArray, defers := d0 } w := by
  refine wp_region_valsO (by kernel_rfl) nx5_tab (by kernel_rfl) hl (fun i => [].contains i) (fun i W W' => True) (fun L W => (L 6 = false → Below w.heap.size w W) ∧ (L 6 = true → (SetAt W ga (spanRem off s l) ∧ Only ga w W))) (nx5_val g ga X off s fin l) (⟨fun _ => below_drew (Below.refl _ _), fun e => by cases e⟩) ?hst ⟨⟨(fun j b h => by cases h), fun _ => rfl⟩, ⟨(fun j b h => by cases h), fun _ => rfl⟩, ⟨(fun j b h => by cases h), fun _ => rfl⟩, ⟨(fun j b h => by cases h), fun _ => rfl⟩, ⟨(fun j b h => by cases h), fun _ => rfl⟩, ⟨(fun j b h => by cases h), fun _ => rfl⟩, ⟨(fun j b h => by cases h), fun _ => rfl⟩, trivial⟩ ⟨?s0, ?s1, ?s2, ?s3, ?s4, ?s5, ?s6, trivial⟩ ?hskip ?hdone
  case hst =>
    intro L i j v W W' hLi hLj hne hcl hR h
    match j with
    | 0 => exact h
    | 1 => exact h
    | 2 => exact h
    | 3 => exact h
    | 4 => exact h
    | 5 => exact h
    | 6 => exact h
    | n + 7 => trivial

  case s0 =>
    intro _ L ρ W hLi hcl hold hJ hT
    have q0 := hT.2.1 0 _ t0_ rfl
    have nk : L 6 = false := Bool.eq_false_iff.2 fun e => by have a4 := hcl 6 4 (by rfl) e; have a3 := hcl 4 3 (by rfl) a4; have a2 := hcl 3 2 (by rfl) a3; have a1 := hcl 2 1 (by rfl) a2; have a0 := hcl 1 0 (by rfl) a1; rw [a0] at hLi; cases hLi
    have hB := hJ.1 nk
    refine Op1.of_run (v := .pointer (some ⟨g, 0, none⟩)) (W' := W) (by clear hT hJ hcl hold; go_simp) ⟨trivial, ⟨fun _ => hB, fun e => by rw [upd_ne (by decide), nk] at e; cases e⟩, rfl⟩

  case s1 =>
    intro _ L ρ W hLi hcl hold hJ hT
    have q30 : ρ (.tmp 30) = .pointer (some ⟨g, 0, none⟩) := hT.1 30 0 rfl rfl
    have nk : L 6 = false := Bool.eq_false_iff.2 fun e => by have a4 := hcl 6 4 (by rfl) e; have a3 := hcl 4 3 (by rfl) a4; have a2 := hcl 3 2 (by rfl) a3; have a1 := hcl 2 1 (by rfl) a2; rw [a1] at hLi; cases hLi
    have hB := hJ.1 nk
    refine Op1.of_run (v := .pointer (some ⟨g, 0, none⟩)) (W' := W) (by clear hT hJ hcl hold; go_simp) ⟨trivial, ⟨fun _ => hB, fun e => by rw [upd_ne (by decide), nk] at e; cases e⟩, rfl⟩

  case s2 =>
    intro _ L ρ W hLi hcl hold hJ hT
    have q31 : ρ (.tmp 31) = .pointer (some ⟨g, 0, none⟩) := hT.1 31 1 rfl rfl
    have nk : L 6 = false := Bool.eq_false_iff.2 fun e => by have a4 := hcl 6 4 (by rfl) e; have a3 := hcl 4 3 (by rfl) a4; have a2 := hcl 3 2 (by rfl) a3; rw [a2] at hLi; cases hLi
    have hB := hJ.1 nk
    refine Op1.of_run (v := .pointer (some ⟨g, 3, none⟩)) (W' := W) (by clear hT hJ hcl hold; go_simp) ⟨trivial, ⟨fun _ => hB, fun e => by rw [upd_ne (by decide), nk] at e; cases e⟩, rfl⟩

  case s3 =>
    intro _ L ρ W hLi hcl hold hJ hT
    have q32 : ρ (.tmp 32) = .pointer (some ⟨g, 3, none⟩) := hT.1 32 2 rfl rfl
    have nk : L 6 = false := Bool.eq_false_iff.2 fun e => by have a4 := hcl 6 4 (by rfl) e; have a3 := hcl 4 3 (by rfl) a4; rw [a3] at hLi; cases hLi
    have hB := hJ.1 nk
    have cc := (hB.cell (World.block_lt_of_cell? _ _ kb3)).trans kb3
    refine Op1.of_run (v := .pointer (some ⟨ga, 0, none⟩)) (W' := W) (by clear hT hJ hcl hold; go_simp) ⟨trivial, ⟨fun _ => hB, fun e => by rw [upd_ne (by decide), nk] at e; cases e⟩, rfl⟩

  case s4 =>
    intro _ L ρ W hLi hcl hold hJ hT
    have q33 : ρ (.tmp 33) = .pointer (some ⟨ga, 0, none⟩) := hT.1 33 3 rfl rfl
    have nk : L 6 = false := Bool.eq_false_iff.2 fun e => by have a4 := hcl 6 4 (by rfl) e; rw [a4] at hLi; cases hLi
    have hB := hJ.1 nk
    have qf := hT.2.2.2 48
    refine Op1.of_run (v := .func (.func 48) #[.pointer (some ⟨ga, 0, none⟩)] #[]) (W' := W) (by clear hT hJ hcl hold; go_simp) ⟨trivial, ⟨fun _ => hB, fun e => by rw [upd_ne (by decide), nk] at e; cases e⟩, rfl⟩

  case s5 =>
    intro _ L ρ W hLi hcl hold hJ hT
    have q8 := hT.2.1 8 _ t8 rfl
    have nk : L 6 = false := Bool.eq_false_iff.2 fun e => by have a5 := hcl 6 5 (by rfl) e; rw [a5] at hLi; cases hLi
    have hB := hJ.1 nk
    have cc0 := (hB.cell (World.block_lt_of_cell? _ _ kx0)).trans kx0
    have cc1 := (hB.cell (World.block_lt_of_cell? _ _ kx1)).trans kx1
    have cc2 := (hB.cell (World.block_lt_of_cell? _ _ kx2)).trans kx2
    refine Op1.of_run (v := .agg #[.int .i64 off, .string s, .bool fin]) (W' := W) (by clear hT hJ hcl hold; go_simp) ⟨trivial, ⟨fun _ => hB, fun e => by rw [upd_ne (by decide), nk] at e; cases e⟩, rfl⟩

  case s6 =>
    intro _ L ρ W hLi hcl hold hJ hT
    have q34 : ρ (.tmp 34) = .func (.func 48) #[.pointer (some ⟨ga, 0, none⟩)] #[] := hT.1 34 4 rfl rfl
    have q35 : ρ (.tmp 35) = .agg #[.int .i64 off, .string s, .bool fin] := hT.1 35 5 rfl rfl
    have hB := hJ.1 hLi
    have qf := hT.2.2.2 64
    refine Op1.of_call (f := 64) (args := #[.func (.func 48) #[.pointer (some ⟨ga, 0, none⟩)] #[], .agg #[.int .i64 off, .string s, .bool fin]]) (W' := W) (by clear hT hJ hcl hold; go_simp) ?_
    refine (SpanRem_calls ga off s fin l W (h.below hB) hw ho hs).mono ?_
    rintro e2 W2 ⟨rfl, h1, h2⟩
    exact ⟨_, rfl, trivial, ⟨(fun e => by rw [upd_self] at e; cases e), fun _ => ⟨h1, (Only.of_below hB).trans h2⟩⟩, trivial⟩

  case hskip => intro i hi; simp at hi

  case hdone =>
    intro σ L W hL hJ hV
    exact hQ σ W (hJ.2 (hL 6 (by decide)))
abbrev ak4_ops : List Oper := [{ dst := some 12, op := .move (.tmp 0), type := 37, pos := "outbox.go:134", after := #[], guard := none },
  { dst := some 13, op := .nilCheck (.tmp 12), type := 0, pos := "outbox.go:134", after := #[⟨0, .data⟩], guard := none },
  { dst := some 14, op := .fieldAddr 114 (.tmp 13) 2, type := 0, pos := "outbox.go:134", after := #[⟨1, .data⟩], guard := none },
  { dst := some 15, op := .load 70 (.tmp 14), type := 70, pos := "outbox.go:134", after := #[⟨2, .data⟩], guard := none },
  { dst := some 16, op := .makeFunc (Go.Fn.func 37) #[.tmp 15] #[], type := 72, pos := "outbox.go:134", after := #[⟨3, .data⟩], guard := none },
  { dst := some 17, op := .load 52 (.tmp 3), type := 52, pos := "outbox.go:134", after := #[], guard := none },
  { dst := some 18, op := .call { callee := .value (.func 68), args := #[.tmp 16, .tmp 17], argTypes := #[72, 52] }, type := 0, pos := "outbox.go:134", after := #[⟨4, .data⟩, ⟨5, .data⟩], guard := none }]
abbrev ak4_tab : List (Option Nat) := [none, none, none, none, none, none, none, none, none, none, none, none, some 0, some 1, some 2, some 3, some 4, some 5, some 6, none, none, none, none, none, none, none, none, none, none, none, none, none, none, none, none, none]

def ak4_val (g gc : Nat) (X : Nat) (off : Int) (s : ByteArray) (fin : Bool) (l : List S95) : Nat → Value → World → Prop := fun j v W => match j with
  | 0 => v = .pointer (some ⟨g, 0, none⟩)
  | 1 => v = .pointer (some ⟨g, 0, none⟩)
  | 2 => v = .pointer (some ⟨g, 2, none⟩)
  | 3 => v = .pointer (some ⟨gc, 0, none⟩)
  | 4 => v = .func (.func 37) #[.pointer (some ⟨gc, 0, none⟩)] #[]
  | 5 => v = .agg #[.int .i64 off, .string s, .bool fin]
  | 6 => True
  | _ => True

set_option maxRecDepth 100000 in
set_option maxHeartbeats 4000000 in
theorem Ack_r4 (g gc : Nat) (X : Nat) (off : Int) (s : ByteArray) (fin : Bool) (l : List S95) (t0 : List Value) (d0 : List Deferred) (w : World) (Q : Exit → Act → World → Prop) (hl : t0.length = ak4_tab.length)
    (t0_ : t0[0]? = some (.pointer (some ⟨g, 0, none⟩))) (t3 : t0[3]? = some (.pointer (some ⟨X, 0, none⟩))) (kb2 : w.cell? ⟨g, 2, none⟩ = some (.pointer (some ⟨gc, 0, none⟩))) (kx0 : w.cell? ⟨X, 0, none⟩ = some (.int .i64 off)) (kx1 : w.cell? ⟨X, 1, none⟩ = some (.string s)) (kx2 : w.cell? ⟨X, 2, none⟩ = some (.bool fin)) (ho : 0 ≤ off ∧ off ≤ 4611686018427387903) (hs : s.size ≤ 4611686018427387903) (h : SetAt w gc l) (hw : wf 0 l)
    (hQ : ∀ σ W, (SetAt W gc (spanAdd off s l) ∧ Only gc w W) → Q .normal (lazyA (fun _ => true) σ t0 ak4_tab d0) W) :
    (Code.region 4 ak4_ops.toArray true).wp Try.prog Q { tmps := t0.toArray, defers := d0 } w := by
  refine wp_region_valsO (by kernel_rfl) ak4_tab (by kernel_rfl) hl (fun i => [].contains i) (fun i W W' => True) (fun L W => (L 6 = false → Below w.heap.size w W) ∧ (L 6 = true → (SetAt W gc (spanAdd off s l) ∧ Only gc w W))) (ak4_val g gc X off s fin l) (⟨fun _ => below_drew (Below.refl _ _), fun e => by cases e⟩) ?hst ⟨⟨(fun j b h => by cases h), fun _ => rfl⟩, ⟨(fun j b h => by cases h), fun _ => rfl⟩, ⟨(fun j b h => by cases h), fun _ => rfl⟩, ⟨(fun j b h => by cases h), fun _ => rfl⟩, ⟨(fun j b h => by cases h), fun _ => rfl⟩, ⟨(fun j b h => by cases h), fun _ => rfl⟩, ⟨(fun j b h => by cases h), fun _ => rfl⟩, trivial⟩ ⟨?s0, ?s1, ?s2, ?s3, ?s4, ?s5, ?s6, trivial⟩ ?hskip ?hdone
  case hst =>
    intro L i j v W W' hLi hLj hne hcl hR h
    match j with
    | 0 => exact h
    | 1 => exact h
    | 2 => exact h
    | 3 => exact h
    | 4 => exact h
    | 5 => exact h
    | 6 => exact h
    | n + 7 => trivial

  case s0 =>
    intro _ L ρ W hLi hcl hold hJ hT
    have q0 := hT.2.1 0 _ t0_ rfl
    have nk : L 6 = false := Bool.eq_false_iff.2 fun e => by have a4 := hcl 6 4 (by rfl) e; have a3 := hcl 4 3 (by rfl) a4; have a2 := hcl 3 2 (by rfl) a3; have a1 := hcl 2 1 (by rfl) a2; have a0 := hcl 1 0 (by rfl) a1; rw [a0] at hLi; cases hLi
    have hB := hJ.1 nk
    refine Op1.of_run (v := .pointer (some ⟨g, 0, none⟩)) (W' := W) (by clear hT hJ hcl hold; go_simp) ⟨trivial, ⟨fun _ => hB, fun e => by rw [upd_ne (by decide), nk] at e; cases e⟩, rfl⟩

  case s1 =>
    intro _ L ρ W hLi hcl hold hJ hT
    have q12 : ρ (.tmp 12) = .pointer (some ⟨g, 0, none⟩) := hT.1 12 0 rfl rfl
    have nk : L 6 = false := Bool.eq_false_iff.2 fun e => by have a4 := hcl 6 4 (by rfl) e; have a3 := hcl 4 3 (by rfl) a4; have a2 := hcl 3 2 (by rfl) a3; have a1 := hcl 2 1 (by rfl) a2; rw [a1] at hLi; cases hLi
    have hB := hJ.1 nk
    refine Op1.of_run (v := .pointer (some ⟨g, 0, none⟩)) (W' := W) (by clear hT hJ hcl hold; go_simp) ⟨trivial, ⟨fun _ => hB, fun e => by rw [upd_ne (by decide), nk] at e; cases e⟩, rfl⟩

  case s2 =>
    intro _ L ρ W hLi hcl hold hJ hT
    have q13 : ρ (.tmp 13) = .pointer (some ⟨g, 0, none⟩) := hT.1 13 1 rfl rfl
    have nk : L 6 = false := Bool.eq_false_iff.2 fun e => by have a4 := hcl 6 4 (by rfl) e; have a3 := hcl 4 3 (by rfl) a4; have a2 := hcl 3 2 (by rfl) a3; rw [a2] at hLi; cases hLi
    have hB := hJ.1 nk
    refine Op1.of_run (v := .pointer (some ⟨g, 2, none⟩)) (W' := W) (by clear hT hJ hcl hold; go_simp) ⟨trivial, ⟨fun _ => hB, fun e => by rw [upd_ne (by decide), nk] at e; cases e⟩, rfl⟩

  case s3 =>
    intro _ L ρ W hLi hcl hold hJ hT
    have q14 : ρ (.tmp 14) = .pointer (some ⟨g, 2, none⟩) := hT.1 14 2 rfl rfl
    have nk : L 6 = false := Bool.eq_false_iff.2 fun e => by have a4 := hcl 6 4 (by rfl) e; have a3 := hcl 4 3 (by rfl) a4; rw [a3] at hLi; cases hLi
    have hB := hJ.1 nk
    have cc := (hB.cell (World.block_lt_of_cell? _ _ kb2)).trans kb2
    refine Op1.of_run (v := .pointer (some ⟨gc, 0, none⟩)) (W' := W) (by clear hT hJ hcl hold; go_simp) ⟨trivial, ⟨fun _ => hB, fun e => by rw [upd_ne (by decide), nk] at e; cases e⟩, rfl⟩

  case s4 =>
    intro _ L ρ W hLi hcl hold hJ hT
    have q15 : ρ (.tmp 15) = .pointer (some ⟨gc, 0, none⟩) := hT.1 15 3 rfl rfl
    have nk : L 6 = false := Bool.eq_false_iff.2 fun e => by have a4 := hcl 6 4 (by rfl) e; rw [a4] at hLi; cases hLi
    have hB := hJ.1 nk
    have qf := hT.2.2.2 37
    refine Op1.of_run (v := .func (.func 37) #[.pointer (some ⟨gc, 0, none⟩)] #[]) (W' := W) (by clear hT hJ hcl hold; go_simp) ⟨trivial, ⟨fun _ => hB, fun e => by rw [upd_ne (by decide), nk] at e; cases e⟩, rfl⟩

  case s5 =>
    intro _ L ρ W hLi hcl hold hJ hT
    have q3 := hT.2.1 3 _ t3 rfl
    have nk : L 6 = false := Bool.eq_false_iff.2 fun e => by have a5 := hcl 6 5 (by rfl) e; rw [a5] at hLi; cases hLi
    have hB := hJ.1 nk
    have cc0 := (hB.cell (World.block_lt_of_cell? _ _ kx0)).trans kx0
    have cc1 := (hB.cell (World.block_lt_of_cell? _ _ kx1)).trans kx1
    have cc2 := (hB.cell (World.block_lt_of_cell? _ _ kx2)).trans kx2
    refine Op1.of_run (v := .agg #[.int .i64 off, .string s, .bool fin]) (W' := W) (by clear hT hJ hcl hold; go_simp) ⟨trivial, ⟨fun _ => hB, fun e => by rw [upd_ne (by decide), nk] at e; cases e⟩, rfl⟩

  case s6 =>
    intro _ L ρ W hLi hcl hold hJ hT
    have q16 : ρ (.tmp 16) = .func (.func 37) #[.pointer (some ⟨gc, 0, none⟩)] #[] := hT.1 16 4 rfl rfl
    have q17 : ρ (.tmp 17) = .agg #[.int .i64 off, .string s, .bool fin] := hT.1 17 5 rfl rfl
    have hB := hJ.1 hLi
    have qf := hT.2.2.2 68
    refine Op1.of_call (f := 68) (args := #[.func (.func 37) #[.pointer (some ⟨gc, 0, none⟩)] #[], .agg #[.int .i64 off, .string s, .bool fin]]) (W' := W) (by clear hT hJ hcl hold; go_simp) ?_
    refine (SpanAdd_calls gc off s fin l W (h.below hB) hw ho hs).mono ?_
    rintro e2 W2 ⟨rfl, h1, h2⟩
    exact ⟨_, rfl, trivial, ⟨(fun e => by rw [upd_self] at e; cases e), fun _ => ⟨h1, (Only.of_below hB).trans h2⟩⟩, trivial⟩

  case hskip => intro i hi; simp at hi

  case hdone =>
    intro σ L W hL hJ hV
    exact hQ σ W (hJ.2 (hL 6 (by decide)))
abbrev ak5_ops : List Oper := [{ dst := some 19, op := .move (.tmp 0), type := 37, pos := "outbox.go:135", after := #[], guard := none },
  { dst := some 20, op := .nilCheck (.tmp 19), type := 0, pos := "outbox.go:135", after := #[⟨0, .data⟩], guard := none },
  { dst := some 21, op := .fieldAddr 114 (.tmp 20) 3, type := 0, pos := "outbox.go:135", after := #[⟨1, .data⟩], guard := none },
  { dst := some 22, op := .load 70 (.tmp 21), type := 70, pos := "outbox.go:135", after := #[⟨2, .data⟩], guard := none },
  { dst := some 23, op := .makeFunc (Go.Fn.func 48) #[.tmp 22] #[], type := 93, pos := "outbox.go:135", after := #[⟨3, .data⟩], guard := none },
  { dst := some 24, op := .load 52 (.tmp 3), type := 52, pos := "outbox.go:135", after := #[], guard := none },
  { dst := some 25, op := .call { callee := .value (.func 64), args := #[.tmp 23, .tmp 24], argTypes := #[93, 52] }, type := 0, pos := "outbox.go:135", after := #[⟨4, .data⟩, ⟨5, .data⟩], guard := none }]
abbrev ak5_tab : List (Option Nat) := [none, none, none, none, none, none, none, none, none, none, none, none, none, none, none, none, none, none, none, some 0, some 1, some 2, some 3, some 4, some 5, some 6, none, none, none, none, none, none, none, none, none, none]

def ak5_val (g ga : Nat) (X : Nat) (off : Int) (s : ByteArray) (fin : Bool) (l : List S95) : Nat → Value → World → Prop := fun j v W => match j with
  | 0 => v = .pointer (some ⟨g, 0, none⟩)
  | 1 => v = .pointer (some ⟨g, 0, none⟩)
  | 2 => v = .pointer (some ⟨g, 3, none⟩)
  | 3 => v = .pointer (some ⟨ga, 0, none⟩)
  | 4 => v = .func (.func 48) #[.pointer (some ⟨ga, 0, none⟩)] #[]
  | 5 => v = .agg #[.int .i64 off, .string s, .bool fin]
  | 6 => True
  | _ => True

set_option maxRecDepth 100000 in
set_option maxHeartbeats 4000000 in
theorem Ack_r5 (g ga : Nat) (X : Nat) (off : Int) (s : ByteArray) (fin : Bool) (l : List S95) (t0 : List Value) (d0 : List Deferred) (w : World) (Q : Exit → Act → World → Prop) (hl : t0.length = ak5_tab.length)
    (t0_ : t0[0]? = some (.pointer (some ⟨g, 0, none⟩))) (t3 : t0[3]? = some (.pointer (some ⟨X, 0, none⟩))) (kb3 : w.cell? ⟨g, 3, none⟩ = some (.pointer (some ⟨ga, 0, none⟩))) (kx0 : w.cell? ⟨X, 0, none⟩ = some (.int .i64 off)) (kx1 : w.cell? ⟨X, 1, none⟩ = some (.string s)) (kx2 : w.cell? ⟨X, 2, none⟩ = some (.bool fin)) (ho : 0 ≤ off ∧ off ≤ 4611686018427387903) (hs : s.size ≤ 4611686018427387903) (h : SetAt w ga l) (hw : wf 0 l)
    (hQ : ∀ σ W, (SetAt W ga (spanRem off s l) ∧ Only ga w W) → Q .normal (lazyA (fun _ => true) σ t0 ak5_tab d0) W) :
    (Code.region 5 ak5_ops.toArray true).wp Try.prog Q { tmps := t0.toArray, defers := d0 } w := by
  refine wp_region_valsO (by kernel_rfl) ak5_tab (by kernel_rfl) hl (fun i => [].contains i) (fun i W W' => True) (fun L W => (L 6 = false → Below w.heap.size w W) ∧ (L 6 = true → (SetAt W ga (spanRem off s l) ∧ Only ga w W))) (ak5_val g ga X off s fin l) (⟨fun _ => below_drew (Below.refl _ _), fun e => by cases e⟩) ?hst ⟨⟨(fun j b h => by cases h), fun _ => rfl⟩, ⟨(fun j b h => by cases h), fun _ => rfl⟩, ⟨(fun j b h => by cases h), fun _ => rfl⟩, ⟨(fun j b h => by cases h), fun _ => rfl⟩, ⟨(fun j b h => by cases h), fun _ => rfl⟩, ⟨(fun j b h => by cases h), fun _ => rfl⟩, ⟨(fun j b h => by cases h), fun _ => rfl⟩, trivial⟩ ⟨?s0, ?s1, ?s2, ?s3, ?s4, ?s5, ?s6, trivial⟩ ?hskip ?hdone
  case hst =>
    intro L i j v W W' hLi hLj hne hcl hR h
    match j with
    | 0 => exact h
    | 1 => exact h
    | 2 => exact h
    | 3 => exact h
    | 4 => exact h
    | 5 => exact h
    | 6 => exact h
    | n + 7 => trivial

  case s0 =>
    intro _ L ρ W hLi hcl hold hJ hT
    have q0 := hT.2.1 0 _ t0_ rfl
    have nk : L 6 = false := Bool.eq_false_iff.2 fun e => by have a4 := hcl 6 4 (by rfl) e; have a3 := hcl 4 3 (by rfl) a4; have a2 := hcl 3 2 (by rfl) a3; have a1 := hcl 2 1 (by rfl) a2; have a0 := hcl 1 0 (by rfl) a1; rw [a0] at hLi; cases hLi
    have hB := hJ.1 nk
    refine Op1.of_run (v := .pointer (some ⟨g, 0, none⟩)) (W' := W) (by clear hT hJ hcl hold; go_simp) ⟨trivial, ⟨fun _ => hB, fun e => by rw [upd_ne (by decide), nk] at e; cases e⟩, rfl⟩

  case s1 =>
    intro _ L ρ W hLi hcl hold hJ hT
    have q19 : ρ (.tmp 19) = .pointer (some ⟨g, 0, none⟩) := hT.1 19 0 rfl rfl
    have nk : L 6 = false := Bool.eq_false_iff.2 fun e => by have a4 := hcl 6 4 (by rfl) e; have a3 := hcl 4 3 (by rfl) a4; have a2 := hcl 3 2 (by rfl) a3; have a1 := hcl 2 1 (by rfl) a2; rw [a1] at hLi; cases hLi
    have hB := hJ.1 nk
    refine Op1.of_run (v := .pointer (some ⟨g, 0, none⟩)) (W' := W) (by clear hT hJ hcl hold; go_simp) ⟨trivial, ⟨fun _ => hB, fun e => by rw [upd_ne (by decide), nk] at e; cases e⟩, rfl⟩

  case s2 =>
    intro _ L ρ W hLi hcl hold hJ hT
    have q20 : ρ (.tmp 20) = .pointer (some ⟨g, 0, none⟩) := hT.1 20 1 rfl rfl
    have nk : L 6 = false := Bool.eq_false_iff.2 fun e => by have a4 := hcl 6 4 (by rfl) e; have a3 := hcl 4 3 (by rfl) a4; have a2 := hcl 3 2 (by rfl) a3; rw [a2] at hLi; cases hLi
    have hB := hJ.1 nk
    refine Op1.of_run (v := .pointer (some ⟨g, 3, none⟩)) (W' := W) (by clear hT hJ hcl hold; go_simp) ⟨trivial, ⟨fun _ => hB, fun e => by rw [upd_ne (by decide), nk] at e; cases e⟩, rfl⟩

  case s3 =>
    intro _ L ρ W hLi hcl hold hJ hT
    have q21 : ρ (.tmp 21) = .pointer (some ⟨g, 3, none⟩) := hT.1 21 2 rfl rfl
    have nk : L 6 = false := Bool.eq_false_iff.2 fun e => by have a4 := hcl 6 4 (by rfl) e; have a3 := hcl 4 3 (by rfl) a4; rw [a3] at hLi; cases hLi
    have hB := hJ.1 nk
    have cc := (hB.cell (World.block_lt_of_cell? _ _ kb3)).trans kb3
    refine Op1.of_run (v := .pointer (some ⟨ga, 0, none⟩)) (W' := W) (by clear hT hJ hcl hold; go_simp) ⟨trivial, ⟨fun _ => hB, fun e => by rw [upd_ne (by decide), nk] at e; cases e⟩, rfl⟩

  case s4 =>
    intro _ L ρ W hLi hcl hold hJ hT
    have q22 : ρ (.tmp 22) = .pointer (some ⟨ga, 0, none⟩) := hT.1 22 3 rfl rfl
    have nk : L 6 = false := Bool.eq_false_iff.2 fun e => by have a4 := hcl 6 4 (by rfl) e; rw [a4] at hLi; cases hLi
    have hB := hJ.1 nk
    have qf := hT.2.2.2 48
    refine Op1.of_run (v := .func (.func 48) #[.pointer (some ⟨ga, 0, none⟩)] #[]) (W' := W) (by clear hT hJ hcl hold; go_simp) ⟨trivial, ⟨fun _ => hB, fun e => by rw [upd_ne (by decide), nk] at e; cases e⟩, rfl⟩

  case s5 =>
    intro _ L ρ W hLi hcl hold hJ hT
    have q3 := hT.2.1 3 _ t3 rfl
    have nk : L 6 = false := Bool.eq_false_iff.2 fun e => by have a5 := hcl 6 5 (by rfl) e; rw [a5] at hLi; cases hLi
    have hB := hJ.1 nk
    have cc0 := (hB.cell (World.block_lt_of_cell? _ _ kx0)).trans kx0
    have cc1 := (hB.cell (World.block_lt_of_cell? _ _ kx1)).trans kx1
    have cc2 := (hB.cell (World.block_lt_of_cell? _ _ kx2)).trans kx2
    refine Op1.of_run (v := .agg #[.int .i64 off, .string s, .bool fin]) (W' := W) (by clear hT hJ hcl hold; go_simp) ⟨trivial, ⟨fun _ => hB, fun e => by rw [upd_ne (by decide), nk] at e; cases e⟩, rfl⟩

  case s6 =>
    intro _ L ρ W hLi hcl hold hJ hT
    have q23 : ρ (.tmp 23) = .func (.func 48) #[.pointer (some ⟨ga, 0, none⟩)] #[] := hT.1 23 4 rfl rfl
    have q24 : ρ (.tmp 24) = .agg #[.int .i64 off, .string s, .bool fin] := hT.1 24 5 rfl rfl
    have hB := hJ.1 hLi
    have qf := hT.2.2.2 64
    refine Op1.of_call (f := 64) (args := #[.func (.func 48) #[.pointer (some ⟨ga, 0, none⟩)] #[], .agg #[.int .i64 off, .string s, .bool fin]]) (W' := W) (by clear hT hJ hcl hold; go_simp) ?_
    refine (SpanRem_calls ga off s fin l W (h.below hB) hw ho hs).mono ?_
    rintro e2 W2 ⟨rfl, h1, h2⟩
    exact ⟨_, rfl, trivial, ⟨(fun e => by rw [upd_self] at e; cases e), fun _ => ⟨h1, (Only.of_below hB).trans h2⟩⟩, trivial⟩

  case hskip => intro i hi; simp at hi

  case hdone =>
    intro σ L W hL hJ hV
    exact hQ σ W (hJ.2 (hL 6 (by decide)))
def GapV (W : World) (B n : Nat) (v : Value) (L : List S95) : Prop := ∃ A c, v = .slice A n c ∧ OwnS W B v L
theorem GapV.below {W W' : World} {B n : Nat} {v : Value} {L : List S95} (h : GapV W B n v L) (hb : Below W.heap.size W W') : GapV W' B n v L := by
  obtain ⟨A, c, h1, h2⟩ := h
  exact ⟨A, c, h1, h2.below hb⟩
theorem OwnS.gapv {W : World} {B n : Nat} {v : Value} {L : List S95} (h : OwnS W B v L) (hn : L.length = n) : GapV W B n v L := by
  obtain ⟨A, c, e, _⟩ := h.row.slice
  exact ⟨A, c, by rw [e, hn], h⟩
abbrev ls4_ops : List Oper := [{ dst := some 14, op := .move (.tmp 0), type := 37, pos := "outbox.go:147", after := #[], guard := none },
  { dst := some 15, op := .nilCheck (.tmp 14), type := 0, pos := "outbox.go:147", after := #[⟨0, .data⟩], guard := none },
  { dst := some 16, op := .fieldAddr 114 (.tmp 15) 2, type := 0, pos := "outbox.go:147", after := #[⟨1, .data⟩], guard := none },
  { dst := some 17, op := .load 70 (.tmp 16), type := 70, pos := "outbox.go:147", after := #[⟨2, .data⟩], guard := none },
  { dst := some 18, op := .fieldAddr 52 (.tmp 3) 0, type := 0, pos := "outbox.go:147", after := #[], guard := none },
  { dst := some 19, op := .load 3 (.tmp 18), type := 3, pos := "outbox.go:147", after := #[⟨4, .data⟩], guard := none },
  { dst := some 20, op := .load 52 (.tmp 3), type := 52, pos := "outbox.go:147", after := #[], guard := none },
  { dst := some 21, op := .call { callee := .value (.func 63), args := #[.tmp 20], argTypes := #[52] }, type := 3, pos := "outbox.go:147", after := #[⟨6, .data⟩], guard := none },
  { dst := some 22, op := .binOp .sub 3 (.tmp 21) (.const (.int .i64 1)) 3, type := 3, pos := "outbox.go:147", after := #[⟨7, .data⟩], guard := none },
  { dst := some 23, op := .call { callee := .value (.func 46), args := #[.tmp 17, .tmp 19, .tmp 22], argTypes := #[70, 3, 3] }, type := 74, pos := "outbox.go:147", after := #[⟨3, .data⟩, ⟨5, .data⟩, ⟨8, .data⟩, ⟨7, .chain⟩], guard := none },
  { dst := some 24, op := .call { callee := .builtin .len, args := #[.tmp 23], argTypes := #[74] }, type := 3, pos := "outbox.go:147", after := #[⟨9, .data⟩], guard := none },
  { dst := some 25, op := .move (.const (.int .i64 0)), type := 3, pos := "outbox.go:147", after := #[], guard := none }]
abbrev ls4_tab : List (Option Nat) := [none, none, none, none, none, none, none, none, none, none, none, none, none, none, some 0, some 1, some 2, some 3, some 4, some 5, some 6, some 7, some 8, some 9, some 10, some 11, none, none, none, none, none, none, none, none, none, none, none, none, none, none, none, none, none, none, none, none, none, none, none, none, none, none, none]

def ls4_val (g gc B n : Nat) (X : Nat) (off : Int) (s : ByteArray) (fin : Bool) (C : List S95) : Nat → Value → World → Prop := fun j v W => match j with
  | 0 => v = .pointer (some ⟨g, 0, none⟩)
  | 1 => v = .pointer (some ⟨g, 0, none⟩)
  | 2 => v = .pointer (some ⟨g, 2, none⟩)
  | 3 => v = .pointer (some ⟨gc, 0, none⟩)
  | 4 => v = .pointer (some ⟨X, 0, none⟩)
  | 5 => v = .int .i64 off
  | 6 => v = .agg #[.int .i64 off, .string s, .bool fin]
  | 7 => v = .int .i64 (off + (s.size : Int))
  | 8 => v = .int .i64 (off + (s.size : Int) - 1)
  | 9 => GapV W B n v (gapsL off (off + (s.size : Int) - 1) C)
  | 10 => v = .int .i64 (n : Int)
  | 11 => v = .int .i64 0
  | _ => True

set_option maxRecDepth 100000 in
set_option maxHeartbeats 4000000 in
theorem Lost_r4 (g gc B n : Nat) (X : Nat) (off : Int) (s : ByteArray) (fin : Bool) (C : List S95) (t0 : List Value) (d0 : List Deferred) (w : World) (Q : Exit → Act → World → Prop) (hl : t0.length = ls4_tab.length)
    (t0_ : t0[0]? = some (.pointer (some ⟨g, 0, none⟩))) (t3 : t0[3]? = some (.pointer (some ⟨X, 0, none⟩))) (kb2 : w.cell? ⟨g, 2, none⟩ = some (.pointer (some ⟨gc, 0, none⟩))) (kx0 : w.cell? ⟨X, 0, none⟩ = some (.int .i64 off)) (kx1 : w.cell? ⟨X, 1, none⟩ = some (.string s)) (kx2 : w.cell? ⟨X, 2, none⟩ = some (.bool fin)) (ho : 0 ≤ off ∧ off ≤ 4611686018427387903) (hs : s.size ≤ 4611686018427387903) (h : SetAt w gc C) (hw : wf 0 C) (hn : (gapsL off (off + (s.size : Int) - 1) C).length = n) (hBw : B ≤ w.heap.size)
    (hQ : ∀ σ W, Below w.heap.size w W ∧ GapV W B n (σ 9) (gapsL off (off + (s.size : Int) - 1) C) ∧ σ 10 = .int .i64 (n : Int) ∧ σ 11 = .int .i64 0 → Q .normal (lazyA (fun _ => true) σ t0 ls4_tab d0) W) :
    (Code.region 4 ls4_ops.toArray true).wp Try.prog Q { tmps := t0.toArray, defers := d0 } w := by
  refine wp_region_valsO (by kernel_rfl) ls4_tab (by kernel_rfl) hl (fun i => [].contains i) (fun i W W' => Below W.heap.size W W') (fun L W => Below w.heap.size w W) (ls4_val g gc B n X off s fin C) (below_drew (Below.refl _ _)) ?hst ⟨⟨(fun j b h => by cases h), fun _ => rfl⟩, ⟨(fun j b h => by cases h), fun _ => rfl⟩, ⟨(fun j b h => by cases h), fun _ => rfl⟩, ⟨(fun j b h => by cases h), fun _ => rfl⟩, ⟨(fun j b h => by cases h), fun _ => rfl⟩, ⟨(fun j b h => by cases h), fun _ => rfl⟩, ⟨(fun j b h => by cases h), fun _ => rfl⟩, ⟨(fun j b h => by cases h), fun _ => rfl⟩, ⟨(fun j b h => by cases h), fun _ => rfl⟩, ⟨(fun j b h => by cases h), fun _ => rfl⟩, ⟨(fun j b h => by cases h), fun _ => rfl⟩, ⟨(fun j b h => by cases h), fun _ => rfl⟩, trivial⟩ ⟨?s0, ?s1, ?s2, ?s3, ?s4, ?s5, ?s6, ?s7, ?s8, ?s9, ?s10, ?s11, trivial⟩ ?hskip ?hdone
  case hst =>
    intro L i j v W W' hLi hLj hne hcl hR h
    match j with
    | 0 => exact h
    | 1 => exact h
    | 2 => exact h
    | 3 => exact h
    | 4 => exact h
    | 5 => exact h
    | 6 => exact h
    | 7 => exact h
    | 8 => exact h
    | 9 => exact h.below hR
    | 10 => exact h
    | 11 => exact h
    | n + 12 => trivial

  case s0 =>
    intro _ L ρ W hLi hcl hold hJ hT
    have q0 := hT.2.1 0 _ t0_ rfl
    refine Op1.of_run (v := .pointer (some ⟨g, 0, none⟩)) (W' := W) (by clear hT hJ hcl hold; go_simp) ⟨Below.refl _ _, hJ, rfl⟩

  case s1 =>
    intro _ L ρ W hLi hcl hold hJ hT
    have q14 : ρ (.tmp 14) = .pointer (some ⟨g, 0, none⟩) := hT.1 14 0 rfl rfl
    refine Op1.of_run (v := .pointer (some ⟨g, 0, none⟩)) (W' := W) (by clear hT hJ hcl hold; go_simp) ⟨Below.refl _ _, hJ, rfl⟩

  case s2 =>
    intro _ L ρ W hLi hcl hold hJ hT
    have q15 : ρ (.tmp 15) = .pointer (some ⟨g, 0, none⟩) := hT.1 15 1 rfl rfl
    refine Op1.of_run (v := .pointer (some ⟨g, 2, none⟩)) (W' := W) (by clear hT hJ hcl hold; go_simp) ⟨Below.refl _ _, hJ, rfl⟩

  case s3 =>
    intro _ L ρ W hLi hcl hold hJ hT
    have q16 : ρ (.tmp 16) = .pointer (some ⟨g, 2, none⟩) := hT.1 16 2 rfl rfl
    have cc := (hJ.cell (World.block_lt_of_cell? _ _ kb2)).trans kb2
    refine Op1.of_run (v := .pointer (some ⟨gc, 0, none⟩)) (W' := W) (by clear hT hJ hcl hold; go_simp) ⟨Below.refl _ _, hJ, rfl⟩

  case s4 =>
    intro _ L ρ W hLi hcl hold hJ hT
    have q3 := hT.2.1 3 _ t3 rfl
    refine Op1.of_run (v := .pointer (some ⟨X, 0, none⟩)) (W' := W) (by clear hT hJ hcl hold; go_simp) ⟨Below.refl _ _, hJ, rfl⟩

  case s5 =>
    intro _ L ρ W hLi hcl hold hJ hT
    have q18 : ρ (.tmp 18) = .pointer (some ⟨X, 0, none⟩) := hT.1 18 4 rfl rfl
    have cc := (hJ.cell (World.block_lt_of_cell? _ _ kx0)).trans kx0
    refine Op1.of_run (v := .int .i64 off) (W' := W) (by clear hT hJ hcl hold; go_simp) ⟨Below.refl _ _, hJ, rfl⟩

  case s6 =>
    intro _ L ρ W hLi hcl hold hJ hT
    have q3 := hT.2.1 3 _ t3 rfl
    have cc0 := (hJ.cell (World.block_lt_of_cell? _ _ kx0)).trans kx0
    have cc1 := (hJ.cell (World.block_lt_of_cell? _ _ kx1)).trans kx1
    have cc2 := (hJ.cell (World.block_lt_of_cell? _ _ kx2)).trans kx2
    refine Op1.of_run (v := .agg #[.int .i64 off, .string s, .bool fin]) (W' := W) (by clear hT hJ hcl hold; go_simp) ⟨Below.refl _ _, hJ, rfl⟩

  case s7 =>
    intro _ L ρ W hLi hcl hold hJ hT
    have q20 : ρ (.tmp 20) = .agg #[.int .i64 off, .string s, .bool fin] := hT.1 20 6 rfl rfl
    have qf := hT.2.2.2 63
    refine Op1.of_call (f := 63) (args := #[.agg #[.int .i64 off, .string s, .bool fin]]) (W' := W) (by clear hT hJ hcl hold; go_simp) ?_
    refine (OEnd_calls off s fin _ (by omega) hs).mono ?_
    rintro e2 W2 ⟨rfl, hb⟩
    exact ⟨_, rfl, hb, below_step hJ hb, rfl⟩

  case s8 =>
    intro _ L ρ W hLi hcl hold hJ hT
    have q21 : ρ (.tmp 21) = .int .i64 (off + (s.size : Int)) := hT.1 21 7 rfl rfl
    have qc := hT.2.2.1 (Go.Value.int Go.IntKind.i64 1)
    have e1 : IntKind.i64.wrap (off + (s.size : Int) - 1) = off + (s.size : Int) - 1 := IntWalk.i64_in _ (by omega)
    refine Op1.of_run (v := .int .i64 (off + (s.size : Int) - 1)) (W' := W) (by clear hT hJ hcl hold; go_simp) ⟨Below.refl _ _, hJ, rfl⟩

  case s9 =>
    intro _ L ρ W hLi hcl hold hJ hT
    have q17 : ρ (.tmp 17) = .pointer (some ⟨gc, 0, none⟩) := hT.1 17 3 rfl rfl
    have q19 : ρ (.tmp 19) = .int .i64 off := hT.1 19 5 rfl rfl
    have q22 : ρ (.tmp 22) = .int .i64 (off + (s.size : Int) - 1) := hT.1 22 8 rfl rfl
    have qf := hT.2.2.2 46
    refine Op1.of_call (f := 46) (args := #[.pointer (some ⟨gc, 0, none⟩), .int .i64 off, .int .i64 (off + (s.size : Int) - 1)]) (W' := W) (by clear hT hJ hcl hold; go_simp) ?_
    refine (Gaps_calls gc off (off + (s.size : Int) - 1) C W (h.below hJ) hw).mono ?_
    rintro e2 W2 ⟨v, rfl, ho2, hb⟩
    exact ⟨v, rfl, hb, below_step hJ hb, (ho2.lower (Nat.le_trans hBw hJ.size)).gapv hn⟩

  case s10 =>
    intro _ L ρ W hLi hcl hold hJ hT
    have z23 := hT.1 23 9 rfl rfl
    obtain ⟨A0, c0, q23, hq⟩ := (show GapV W B n (ρ (.tmp 23)) (gapsL off (off + (s.size : Int) - 1) C) from hT.1 23 9 rfl rfl)
    refine Op1.of_run (v := .int .i64 (n : Int)) (W' := W) (by clear hT hJ hcl hold; go_simp) ⟨Below.refl _ _, hJ, rfl⟩

  case s11 =>
    intro _ L ρ W hLi hcl hold hJ hT
    have qc := hT.2.2.1 (Go.Value.int Go.IntKind.i64 0)
    refine Op1.of_run (v := .int .i64 0) (W' := W) (by clear hT hJ hcl hold; go_simp) ⟨Below.refl _ _, hJ, rfl⟩

  case hskip => intro i hi; simp at hi

  case hdone =>
    intro σ L W hL hJ hV
    exact hQ σ W ⟨hJ, hV 9 (by decide), hV 10 (by decide), hV 11 (by decide)⟩
abbrev ls7_ops : List Oper := [{ dst := some 29, op := .move (.tmp 0), type := 37, pos := "outbox.go:148", after := #[], guard := none },
  { dst := some 30, op := .nilCheck (.tmp 29), type := 0, pos := "outbox.go:148", after := #[⟨0, .data⟩], guard := none },
  { dst := some 31, op := .fieldAddr 114 (.tmp 30) 3, type := 0, pos := "outbox.go:148", after := #[⟨1, .data⟩], guard := none },
  { dst := some 32, op := .load 70 (.tmp 31), type := 70, pos := "outbox.go:148", after := #[⟨2, .data⟩], guard := none },
  { dst := some 33, op := .fieldAddr 95 (.tmp 7) 0, type := 0, pos := "outbox.go:148", after := #[], guard := none },
  { dst := some 34, op := .load 3 (.tmp 33), type := 3, pos := "outbox.go:148", after := #[⟨4, .data⟩], guard := none },
  { dst := some 35, op := .fieldAddr 95 (.tmp 7) 1, type := 0, pos := "outbox.go:148", after := #[], guard := none },
  { dst := some 36, op := .load 3 (.tmp 35), type := 3, pos := "outbox.go:148", after := #[⟨6, .data⟩], guard := none },
  { dst := some 37, op := .call { callee := .value (.func 37), args := #[.tmp 32, .tmp 34, .tmp 36], argTypes := #[70, 3, 3] }, type := 4, pos := "outbox.go:148", after := #[⟨3, .data⟩, ⟨5, .data⟩, ⟨7, .data⟩], guard := none }]
abbrev ls7_tab : List (Option Nat) := [none, none, none, none, none, none, none, none, none, none, none, none, none, none, none, none, none, none, none, none, none, none, none, none, none, none, none, none, none, some 0, some 1, some 2, some 3, some 4, some 5, some 6, some 7, some 8, none, none, none, none, none, none, none, none, none, none, none, none, none, none, none]

def ls7_val (g ga Y : Nat) (f u : Int) (A : List S95) : Nat → Value → World → Prop := fun j v W => match j with
  | 0 => v = .pointer (some ⟨g, 0, none⟩)
  | 1 => v = .pointer (some ⟨g, 0, none⟩)
  | 2 => v = .pointer (some ⟨g, 3, none⟩)
  | 3 => v = .pointer (some ⟨ga, 0, none⟩)
  | 4 => v = .pointer (some ⟨Y, 0, none⟩)
  | 5 => v = .int .i64 f
  | 6 => v = .pointer (some ⟨Y, 1, none⟩)
  | 7 => v = .int .i64 u
  | 8 => True
  | _ => True

set_option maxRecDepth 100000 in
set_option maxHeartbeats 4000000 in
theorem Lost_r7 (g ga Y : Nat) (f u : Int) (A : List S95) (t0 : List Value) (d0 : List Deferred) (w : World) (Q : Exit → Act → World → Prop) (hl : t0.length = ls7_tab.length)
    (t0_ : t0[0]? = some (.pointer (some ⟨g, 0, none⟩))) (t7 : t0[7]? = some (.pointer (some ⟨Y, 0, none⟩))) (kb3 : w.cell? ⟨g, 3, none⟩ = some (.pointer (some ⟨ga, 0, none⟩))) (ky0 : w.cell? ⟨Y, 0, none⟩ = some (.int .i64 f)) (ky1 : w.cell? ⟨Y, 1, none⟩ = some (.int .i64 u)) (h : SetAt w ga A) (hw : wf 0 A)
    (hQ : ∀ σ W, (SetAt W ga (addL f u A) ∧ Only ga w W) → Q .normal (lazyA (fun _ => true) σ t0 ls7_tab d0) W) :
    (Code.region 7 ls7_ops.toArray true).wp Try.prog Q { tmps := t0.toArray, defers := d0 } w := by
  refine wp_region_valsO (by kernel_rfl) ls7_tab (by kernel_rfl) hl (fun i => [].contains i) (fun i W W' => True) (fun L W => (L 8 = false → Below w.heap.size w W) ∧ (L 8 = true → (SetAt W ga (addL f u A) ∧ Only ga w W))) (ls7_val g ga Y f u A) (⟨fun _ => below_drew (Below.refl _ _), fun e => by cases e⟩) ?hst ⟨⟨(fun j b h => by cases h), fun _ => rfl⟩, ⟨(fun j b h => by cases h), fun _ => rfl⟩, ⟨(fun j b h => by cases h), fun _ => rfl⟩, ⟨(fun j b h => by cases h), fun _ => rfl⟩, ⟨(fun j b h => by cases h), fun _ => rfl⟩, ⟨(fun j b h => by cases h), fun _ => rfl⟩, ⟨(fun j b h => by cases h), fun _ => rfl⟩, ⟨(fun j b h => by cases h), fun _ => rfl⟩, ⟨(fun j b h => by cases h), fun _ => rfl⟩, trivial⟩ ⟨?s0, ?s1, ?s2, ?s3, ?s4, ?s5, ?s6, ?s7, ?s8, trivial⟩ ?hskip ?hdone
  case hst =>
    intro L i j v W W' hLi hLj hne hcl hR h
    match j with
    | 0 => exact h
    | 1 => exact h
    | 2 => exact h
    | 3 => exact h
    | 4 => exact h
    | 5 => exact h
    | 6 => exact h
    | 7 => exact h
    | 8 => exact h
    | n + 9 => trivial

  case s0 =>
    intro _ L ρ W hLi hcl hold hJ hT
    have q0 := hT.2.1 0 _ t0_ rfl
    have nk : L 8 = false := Bool.eq_false_iff.2 fun e => by have a3 := hcl 8 3 (by rfl) e; have a2 := hcl 3 2 (by rfl) a3; have a1 := hcl 2 1 (by rfl) a2; have a0 := hcl 1 0 (by rfl) a1; rw [a0] at hLi; cases hLi
    have hB := hJ.1 nk
    refine Op1.of_run (v := .pointer (some ⟨g, 0, none⟩)) (W' := W) (by clear hT hJ hcl hold; go_simp) ⟨trivial, ⟨fun _ => hB, fun e => by rw [upd_ne (by decide), nk] at e; cases e⟩, rfl⟩

  case s1 =>
    intro _ L ρ W hLi hcl hold hJ hT
    have q29 : ρ (.tmp 29) = .pointer (some ⟨g, 0, none⟩) := hT.1 29 0 rfl rfl
    have nk : L 8 = false := Bool.eq_false_iff.2 fun e => by have a3 := hcl 8 3 (by rfl) e; have a2 := hcl 3 2 (by rfl) a3; have a1 := hcl 2 1 (by rfl) a2; rw [a1] at hLi; cases hLi
    have hB := hJ.1 nk
    refine Op1.of_run (v := .pointer (some ⟨g, 0, none⟩)) (W' := W) (by clear hT hJ hcl hold; go_simp) ⟨trivial, ⟨fun _ => hB, fun e => by rw [upd_ne (by decide), nk] at e; cases e⟩, rfl⟩

  case s2 =>
    intro _ L ρ W hLi hcl hold hJ hT
    have q30 : ρ (.tmp 30) = .pointer (some ⟨g, 0, none⟩) := hT.1 30 1 rfl rfl
    have nk : L 8 = false := Bool.eq_false_iff.2 fun e => by have a3 := hcl 8 3 (by rfl) e; have a2 := hcl 3 2 (by rfl) a3; rw [a2] at hLi; cases hLi
    have hB := hJ.1 nk
    refine Op1.of_run (v := .pointer (some ⟨g, 3, none⟩)) (W' := W) (by clear hT hJ hcl hold; go_simp) ⟨trivial, ⟨fun _ => hB, fun e => by rw [upd_ne (by decide), nk] at e; cases e⟩, rfl⟩

  case s3 =>
    intro _ L ρ W hLi hcl hold hJ hT
    have q31 : ρ (.tmp 31) = .pointer (some ⟨g, 3, none⟩) := hT.1 31 2 rfl rfl
    have nk : L 8 = false := Bool.eq_false_iff.2 fun e => by have a3 := hcl 8 3 (by rfl) e; rw [a3] at hLi; cases hLi
    have hB := hJ.1 nk
    have cc := (hB.cell (World.block_lt_of_cell? _ _ kb3)).trans kb3
    refine Op1.of_run (v := .pointer (some ⟨ga, 0, none⟩)) (W' := W) (by clear hT hJ hcl hold; go_simp) ⟨trivial, ⟨fun _ => hB, fun e => by rw [upd_ne (by decide), nk] at e; cases e⟩, rfl⟩

  case s4 =>
    intro _ L ρ W hLi hcl hold hJ hT
    have q7 := hT.2.1 7 _ t7 rfl
    have nk : L 8 = false := Bool.eq_false_iff.2 fun e => by have a5 := hcl 8 5 (by rfl) e; have a4 := hcl 5 4 (by rfl) a5; rw [a4] at hLi; cases hLi
    have hB := hJ.1 nk
    refine Op1.of_run (v := .pointer (some ⟨Y, 0, none⟩)) (W' := W) (by clear hT hJ hcl hold; go_simp) ⟨trivial, ⟨fun _ => hB, fun e => by rw [upd_ne (by decide), nk] at e; cases e⟩, rfl⟩

  case s5 =>
    intro _ L ρ W hLi hcl hold hJ hT
    have q33 : ρ (.tmp 33) = .pointer (some ⟨Y, 0, none⟩) := hT.1 33 4 rfl rfl
    have nk : L 8 = false := Bool.eq_false_iff.2 fun e => by have a5 := hcl 8 5 (by rfl) e; rw [a5] at hLi; cases hLi
    have hB := hJ.1 nk
    have cc := (hB.cell (World.block_lt_of_cell? _ _ ky0)).trans ky0
    refine Op1.of_run (v := .int .i64 f) (W' := W) (by clear hT hJ hcl hold; go_simp) ⟨trivial, ⟨fun _ => hB, fun e => by rw [upd_ne (by decide), nk] at e; cases e⟩, rfl⟩

  case s6 =>
    intro _ L ρ W hLi hcl hold hJ hT
    have q7 := hT.2.1 7 _ t7 rfl
    have nk : L 8 = false := Bool.eq_false_iff.2 fun e => by have a7 := hcl 8 7 (by rfl) e; have a6 := hcl 7 6 (by rfl) a7; rw [a6] at hLi; cases hLi
    have hB := hJ.1 nk
    refine Op1.of_run (v := .pointer (some ⟨Y, 1, none⟩)) (W' := W) (by clear hT hJ hcl hold; go_simp) ⟨trivial, ⟨fun _ => hB, fun e => by rw [upd_ne (by decide), nk] at e; cases e⟩, rfl⟩

  case s7 =>
    intro _ L ρ W hLi hcl hold hJ hT
    have q35 : ρ (.tmp 35) = .pointer (some ⟨Y, 1, none⟩) := hT.1 35 6 rfl rfl
    have nk : L 8 = false := Bool.eq_false_iff.2 fun e => by have a7 := hcl 8 7 (by rfl) e; rw [a7] at hLi; cases hLi
    have hB := hJ.1 nk
    have cc := (hB.cell (World.block_lt_of_cell? _ _ ky1)).trans ky1
    refine Op1.of_run (v := .int .i64 u) (W' := W) (by clear hT hJ hcl hold; go_simp) ⟨trivial, ⟨fun _ => hB, fun e => by rw [upd_ne (by decide), nk] at e; cases e⟩, rfl⟩

  case s8 =>
    intro _ L ρ W hLi hcl hold hJ hT
    have q32 : ρ (.tmp 32) = .pointer (some ⟨ga, 0, none⟩) := hT.1 32 3 rfl rfl
    have q34 : ρ (.tmp 34) = .int .i64 f := hT.1 34 5 rfl rfl
    have q36 : ρ (.tmp 36) = .int .i64 u := hT.1 36 7 rfl rfl
    have hB := hJ.1 hLi
    have qf := hT.2.2.2 37
    refine Op1.of_call (f := 37) (args := #[.pointer (some ⟨ga, 0, none⟩), .int .i64 f, .int .i64 u]) (W' := W) (by clear hT hJ hcl hold; go_simp) ?_
    refine (Add_calls ga f u A W (h.below hB) hw).mono ?_
    rintro e2 W2 ⟨rfl, h1, h2, _⟩
    exact ⟨_, rfl, trivial, ⟨(fun e => by rw [upd_self] at e; cases e), fun _ => ⟨h1, (Only.of_below hB).trans h2⟩⟩, trivial⟩

  case hskip => intro i hi; simp at hi

  case hdone =>
    intro σ L W hL hJ hV
    exact hQ σ W (hJ.2 (hL 8 (by decide)))
abbrev ws3_ops : List Oper := [{ dst := some 9, op := .fieldAddr 52 (.tmp 3) 0, type := 0, pos := "outbox.go:121", after := #[], guard := none },
  { dst := some 10, op := .load 3 (.tmp 9), type := 3, pos := "outbox.go:121", after := #[⟨0, .data⟩], guard := none },
  { dst := some 11, op := .binOp .lss 3 (.tmp 10) (.const (.int .i64 0)) 3, type := 4, pos := "outbox.go:121", after := #[⟨1, .data⟩], guard := none },
  { dst := some 12, op := .move (.tmp 11), type := 4, pos := "outbox.go:121", after := #[⟨2, .data⟩], guard := none },
  { dst := some 13, op := .fieldAddr 52 (.tmp 3) 0, type := 0, pos := "outbox.go:121", after := #[⟨3, .guard⟩], guard := some (3, false) },
  { dst := some 14, op := .load 3 (.tmp 13), type := 3, pos := "outbox.go:121", after := #[⟨4, .data⟩, ⟨3, .guard⟩], guard := some (3, false) },
  { dst := some 15, op := .move (.tmp 0), type := 37, pos := "outbox.go:121", after := #[⟨3, .guard⟩], guard := some (3, false) },
  { dst := some 16, op := .nilCheck (.tmp 15), type := 0, pos := "outbox.go:121", after := #[⟨6, .data⟩, ⟨3, .guard⟩], guard := some (3, false) },
  { dst := some 17, op := .fieldAddr 114 (.tmp 16) 1, type := 0, pos := "outbox.go:121", after := #[⟨7, .data⟩, ⟨3, .guard⟩], guard := some (3, false) },
  { dst := some 18, op := .load 3 (.tmp 17), type := 3, pos := "outbox.go:121", after := #[⟨8, .data⟩, ⟨3, .guard⟩], guard := some (3, false) },
  { dst := some 19, op := .binOp .gtr 3 (.tmp 14) (.tmp 18) 3, type := 4, pos := "outbox.go:121", after := #[⟨5, .data⟩, ⟨9, .data⟩, ⟨3, .guard⟩], guard := some (3, false) },
  { dst := some 20, op := .pick (.tmp 12) (.const (.bool true)) (.tmp 19), type := 4, pos := "outbox.go:121", after := #[⟨3, .data⟩, ⟨10, .data⟩], guard := none },
  { dst := some 21, op := .move (.tmp 20), type := 4, pos := "outbox.go:121", after := #[⟨11, .data⟩, ⟨3, .chain⟩], guard := none },
  { dst := some 22, op := .fieldAddr 52 (.tmp 3) 1, type := 0, pos := "outbox.go:121", after := #[⟨12, .guard⟩], guard := some (12, false) },
  { dst := some 23, op := .load 9 (.tmp 22), type := 9, pos := "outbox.go:121", after := #[⟨13, .data⟩, ⟨12, .guard⟩], guard := some (12, false) },
  { dst := some 24, op := .call { callee := .builtin .len, args := #[.tmp 23], argTypes := #[9] }, type := 3, pos := "outbox.go:121", after := #[⟨14, .data⟩, ⟨12, .guard⟩], guard := some (12, false) },
  { dst := some 25, op := .move (.tmp 0), type := 37, pos := "outbox.go:121", after := #[⟨12, .guard⟩], guard := some (12, false) },
  { dst := some 26, op := .nilCheck (.tmp 25), type := 0, pos := "outbox.go:121", after := #[⟨16, .data⟩, ⟨12, .guard⟩], guard := some (12, false) },
  { dst := some 27, op := .fieldAddr 114 (.tmp 26) 1, type := 0, pos := "outbox.go:121", after := #[⟨17, .data⟩, ⟨12, .guard⟩], guard := some (12, false) },
  { dst := some 28, op := .load 3 (.tmp 27), type := 3, pos := "outbox.go:121", after := #[⟨18, .data⟩, ⟨12, .guard⟩], guard := some (12, false) },
  { dst := some 29, op := .fieldAddr 52 (.tmp 3) 0, type := 0, pos := "outbox.go:121", after := #[⟨12, .guard⟩], guard := some (12, false) },
  { dst := some 30, op := .load 3 (.tmp 29), type := 3, pos := "outbox.go:121", after := #[⟨20, .data⟩, ⟨12, .guard⟩], guard := some (12, false) },
  { dst := some 31, op := .binOp .sub 3 (.tmp 28) (.tmp 30) 3, type := 3, pos := "outbox.go:121", after := #[⟨19, .data⟩, ⟨21, .data⟩, ⟨12, .guard⟩], guard := some (12, false) },
  { dst := some 32, op := .binOp .gtr 3 (.tmp 24) (.tmp 31) 3, type := 4, pos := "outbox.go:121", after := #[⟨15, .data⟩, ⟨22, .data⟩, ⟨12, .guard⟩], guard := some (12, false) },
  { dst := some 33, op := .pick (.tmp 21) (.const (.bool true)) (.tmp 32), type := 4, pos := "outbox.go:121", after := #[⟨12, .data⟩, ⟨23, .data⟩], guard := none },
  { dst := some 34, op := .move (.tmp 33), type := 4, pos := "outbox.go:121", after := #[⟨24, .data⟩, ⟨12, .chain⟩], guard := none },
  { dst := some 35, op := .move (.tmp 0), type := 37, pos := "outbox.go:121", after := #[⟨25, .guard⟩], guard := some (25, false) },
  { dst := some 36, op := .nilCheck (.tmp 35), type := 0, pos := "outbox.go:121", after := #[⟨26, .data⟩, ⟨25, .guard⟩], guard := some (25, false) },
  { dst := some 37, op := .fieldAddr 114 (.tmp 36) 0, type := 0, pos := "outbox.go:121", after := #[⟨27, .data⟩, ⟨25, .guard⟩], guard := some (25, false) },
  { dst := some 38, op := .load 9 (.tmp 37), type := 9, pos := "outbox.go:121", after := #[⟨28, .data⟩, ⟨25, .guard⟩], guard := some (25, false) },
  { dst := some 39, op := .fieldAddr 52 (.tmp 3) 0, type := 0, pos := "outbox.go:121", after := #[⟨25, .guard⟩], guard := some (25, false) },
  { dst := some 40, op := .load 3 (.tmp 39), type := 3, pos := "outbox.go:121", after := #[⟨30, .data⟩, ⟨25, .guard⟩], guard := some (25, false) },
  { dst := some 41, op := .load 52 (.tmp 3), type := 52, pos := "outbox.go:121", after := #[⟨25, .guard⟩], guard := some (25, false) },
  { dst := some 42, op := .call { callee := .value (.func 63), args := #[.tmp 41], argTypes := #[52] }, type := 3, pos := "outbox.go:121", after := #[⟨32, .data⟩, ⟨25, .chain⟩, ⟨25, .guard⟩], guard := some (25, false) },
  { dst := some 43, op := .slice 9 (.tmp 38) (some (.tmp 40)) (some (.tmp 42)) none, type := 9, pos := "outbox.go:121", after := #[⟨29, .data⟩, ⟨31, .data⟩, ⟨33, .data⟩, ⟨25, .guard⟩], guard := some (25, false) },
  { dst := some 44, op := .fieldAddr 52 (.tmp 3) 1, type := 0, pos := "outbox.go:121", after := #[⟨25, .guard⟩], guard := some (25, false) },
  { dst := some 45, op := .load 9 (.tmp 44), type := 9, pos := "outbox.go:121", after := #[⟨35, .data⟩, ⟨25, .guard⟩], guard := some (25, false) },
  { dst := some 46, op := .binOp .neq 9 (.tmp 43) (.tmp 45) 9, type := 4, pos := "outbox.go:121", after := #[⟨34, .data⟩, ⟨36, .data⟩, ⟨25, .guard⟩], guard := some (25, false) },
  { dst := some 47, op := .pick (.tmp 34) (.const (.bool true)) (.tmp 46), type := 4, pos := "outbox.go:121", after := #[⟨25, .data⟩, ⟨37, .data⟩], guard := none },
  { dst := some 8, op := .assign (.tmp 47), type := 4, pos := "outbox.go:121", after := #[⟨38, .data⟩, ⟨33, .chain⟩], guard := none }]
abbrev ws3_tab : List (Option Nat) := [none, none, none, none, none, none, none, none, some 39, some 0, some 1, some 2, some 3, some 4, some 5, some 6, some 7, some 8, some 9, some 10, some 11, some 12, some 13, some 14, some 15, some 16, some 17, some 18, some 19, some 20, some 21, some 22, some 23, some 24, some 25, some 26, some 27, some 28, some 29, some 30, some 31, some 32, some 33, some 34, some 35, some 36, some 37, some 38, none, none, none, none, none, none, none, none, none, none, none, none, none, none, none, none, none, none, none, none, none]

def Was_r3a_val (g : Nat) (t : ByteArray) (S : Int) (X : Nat) (off : Int) (s : ByteArray) (fin : Bool) : Nat → Value → World → Prop := fun j v W => match j with
  | 0 => v = .pointer (some ⟨X, 0, none⟩)
  | 1 => v = .int .i64 off
  | 2 => v = .bool true
  | 3 => v = .bool true
  | 4 => True
  | 5 => True
  | 6 => True
  | 7 => True
  | 8 => True
  | 9 => True
  | 10 => True
  | 11 => v = .bool true
  | 12 => v = .bool true
  | 13 => True
  | 14 => True
  | 15 => True
  | 16 => True
  | 17 => True
  | 18 => True
  | 19 => True
  | 20 => True
  | 21 => True
  | 22 => True
  | 23 => True
  | 24 => v = .bool true
  | 25 => v = .bool true
  | 26 => True
  | 27 => True
  | 28 => True
  | 29 => True
  | 30 => True
  | 31 => True
  | 32 => True
  | 33 => True
  | 34 => True
  | 35 => True
  | 36 => True
  | 37 => True
  | 38 => v = .bool true
  | 39 => v = .bool true
  | _ => True

set_option maxRecDepth 100000 in
set_option maxHeartbeats 4000000 in
theorem Was_r3a (g : Nat) (t : ByteArray) (S : Int) (X : Nat) (off : Int) (s : ByteArray) (fin : Bool) (t0 : List Value) (d0 : List Deferred) (w : World) (Q : Exit → Act → World → Prop) (hl : t0.length = ws3_tab.length)
    (t0_ : t0[0]? = some (.pointer (some ⟨g, 0, none⟩))) (t3 : t0[3]? = some (.pointer (some ⟨X, 0, none⟩))) (kb0 : w.cell? ⟨g, 0, none⟩ = some (.string t)) (kb1 : w.cell? ⟨g, 1, none⟩ = some (.int .i64 S)) (kx0 : w.cell? ⟨X, 0, none⟩ = some (.int .i64 off)) (kx1 : w.cell? ⟨X, 1, none⟩ = some (.string s)) (kx2 : w.cell? ⟨X, 2, none⟩ = some (.bool fin)) (h1 : off < 0)
    (hQ : ∀ σ W, Below w.heap.size w W ∧ σ 39 = .bool true → Q .normal (lazyA (fun _ => true) σ t0 ws3_tab d0) W) :
    (Code.region 3 ws3_ops.toArray true).wp Try.prog Q { tmps := t0.toArray, defers := d0 } w := by
  refine wp_region_valsO (by kernel_rfl) ws3_tab (by kernel_rfl) hl (fun i => [4, 5, 6, 7, 8, 9, 10, 13, 14, 15, 16, 17, 18, 19, 20, 21, 22, 23, 26, 27, 28, 29, 30, 31, 32, 33, 34, 35, 36, 37].contains i) (fun i W W' => Below W.heap.size W W') (fun L W => Below w.heap.size w W) (Was_r3a_val g t S X off s fin) (below_drew (Below.refl _ _)) ?hst ⟨⟨(fun j b h => by cases h), fun _ => rfl⟩, ⟨(fun j b h => by cases h), fun _ => rfl⟩, ⟨(fun j b h => by cases h), fun _ => rfl⟩, ⟨(fun j b h => by cases h), fun _ => rfl⟩, ⟨(fun j b h v W hv => by cases h; exact hv), (fun h => by cases h)⟩, ⟨(fun j b h v W hv => by cases h; exact hv), (fun h => by cases h)⟩, ⟨(fun j b h v W hv => by cases h; exact hv), (fun h => by cases h)⟩, ⟨(fun j b h v W hv => by cases h; exact hv), (fun h => by cases h)⟩, ⟨(fun j b h v W hv => by cases h; exact hv), (fun h => by cases h)⟩, ⟨(fun j b h v W hv => by cases h; exact hv), (fun h => by cases h)⟩, ⟨(fun j b h v W hv => by cases h; exact hv), (fun h => by cases h)⟩, ⟨(fun j b h => by cases h), fun _ => rfl⟩, ⟨(fun j b h => by cases h), fun _ => rfl⟩, ⟨(fun j b h v W hv => by cases h; exact hv), (fun h => by cases h)⟩, ⟨(fun j b h v W hv => by cases h; exact hv), (fun h => by cases h)⟩, ⟨(fun j b h v W hv => by cases h; exact hv), (fun h => by cases h)⟩, ⟨(fun j b h v W hv => by cases h; exact hv), (fun h => by cases h)⟩, ⟨(fun j b h v W hv => by cases h; exact hv), (fun h => by cases h)⟩, ⟨(fun j b h v W hv => by cases h; exact hv), (fun h => by cases h)⟩, ⟨(fun j b h v W hv => by cases h; exact hv), (fun h => by cases h)⟩, ⟨(fun j b h v W hv => by cases h; exact hv), (fun h => by cases h)⟩, ⟨(fun j b h v W hv => by cases h; exact hv), (fun h => by cases h)⟩, ⟨(fun j b h v W hv => by cases h; exact hv), (fun h => by cases h)⟩, ⟨(fun j b h v W hv => by cases h; exact hv), (fun h => by cases h)⟩, ⟨(fun j b h => by cases h), fun _ => rfl⟩, ⟨(fun j b h => by cases h), fun _ => rfl⟩, ⟨(fun j b h v W hv => by cases h; exact hv), (fun h => by cases h)⟩, ⟨(fun j b h v W hv => by cases h; exact hv), (fun h => by cases h)⟩, ⟨(fun j b h v W hv => by cases h; exact hv), (fun h => by cases h)⟩, ⟨(fun j b h v W hv => by cases h; exact hv), (fun h => by cases h)⟩, ⟨(fun j b h v W hv => by cases h; exact hv), (fun h => by cases h)⟩, ⟨(fun j b h v W hv => by cases h; exact hv), (fun h => by cases h)⟩, ⟨(fun j b h v W hv => by cases h; exact hv), (fun h => by cases h)⟩, ⟨(fun j b h v W hv => by cases h; exact hv), (fun h => by cases h)⟩, ⟨(fun j b h v W hv => by cases h; exact hv), (fun h => by cases h)⟩, ⟨(fun j b h v W hv => by cases h; exact hv), (fun h => by cases h)⟩, ⟨(fun j b h v W hv => by cases h; exact hv), (fun h => by cases h)⟩, ⟨(fun j b h v W hv => by cases h; exact hv), (fun h => by cases h)⟩, ⟨(fun j b h => by cases h), fun _ => rfl⟩, ⟨(fun j b h => by cases h), fun _ => rfl⟩, trivial⟩ ⟨?s0, ?s1, ?s2, ?s3, ?s4, ?s5, ?s6, ?s7, ?s8, ?s9, ?s10, ?s11, ?s12, ?s13, ?s14, ?s15, ?s16, ?s17, ?s18, ?s19, ?s20, ?s21, ?s22, ?s23, ?s24, ?s25, ?s26, ?s27, ?s28, ?s29, ?s30, ?s31, ?s32, ?s33, ?s34, ?s35, ?s36, ?s37, ?s38, ?s39, trivial⟩ ?hskip ?hdone
  case hst =>
    intro L i j v W W' hLi hLj hne hcl hR h
    match j with
    | 0 => exact h
    | 1 => exact h
    | 2 => exact h
    | 3 => exact h
    | 4 => exact h
    | 5 => exact h
    | 6 => exact h
    | 7 => exact h
    | 8 => exact h
    | 9 => exact h
    | 10 => exact h
    | 11 => exact h
    | 12 => exact h
    | 13 => exact h
    | 14 => exact h
    | 15 => exact h
    | 16 => exact h
    | 17 => exact h
    | 18 => exact h
    | 19 => exact h
    | 20 => exact h
    | 21 => exact h
    | 22 => exact h
    | 23 => exact h
    | 24 => exact h
    | 25 => exact h
    | 26 => exact h
    | 27 => exact h
    | 28 => exact h
    | 29 => exact h
    | 30 => exact h
    | 31 => exact h
    | 32 => exact h
    | 33 => exact h
    | 34 => exact h
    | 35 => exact h
    | 36 => exact h
    | 37 => exact h
    | 38 => exact h
    | 39 => exact h
    | n + 40 => trivial

  case s0 =>
    intro _ L ρ W hLi hcl hold hJ hT
    have q3 := hT.2.1 3 _ t3 rfl
    refine Op1.of_run (v := .pointer (some ⟨X, 0, none⟩)) (W' := W) (by clear hT hJ hcl hold; go_simp) ⟨Below.refl _ _, hJ, rfl⟩

  case s1 =>
    intro _ L ρ W hLi hcl hold hJ hT
    have q9 : ρ (.tmp 9) = .pointer (some ⟨X, 0, none⟩) := hT.1 9 0 rfl rfl
    have cc := (hJ.cell (World.block_lt_of_cell? _ _ kx0)).trans kx0
    refine Op1.of_run (v := .int .i64 off) (W' := W) (by clear hT hJ hcl hold; go_simp) ⟨Below.refl _ _, hJ, rfl⟩

  case s2 =>
    intro _ L ρ W hLi hcl hold hJ hT
    have q10 : ρ (.tmp 10) = .int .i64 off := hT.1 10 1 rfl rfl
    have qc := hT.2.2.1 (Go.Value.int Go.IntKind.i64 0)
    refine Op1.of_run (v := .bool true) (W' := W) (by clear hT hJ hcl hold; go_simp) ⟨Below.refl _ _, hJ, rfl⟩

  case s3 =>
    intro _ L ρ W hLi hcl hold hJ hT
    have q11 : ρ (.tmp 11) = .bool true := hT.1 11 2 rfl rfl
    refine Op1.of_run (v := .bool true) (W' := W) (by clear hT hJ hcl hold; go_simp) ⟨Below.refl _ _, hJ, rfl⟩

  case s4 => intro h; cases h

  case s5 => intro h; cases h

  case s6 => intro h; cases h

  case s7 => intro h; cases h

  case s8 => intro h; cases h

  case s9 => intro h; cases h

  case s10 => intro h; cases h

  case s11 =>
    intro _ L ρ W hLi hcl hold hJ hT
    have q12 : ρ (.tmp 12) = .bool true := hT.1 12 3 rfl rfl
    have z19 := hT.1 19 10 rfl rfl
    have qc := hT.2.2.1 (Go.Value.bool true)
    refine Op1.of_run (v := .bool true) (W' := W) (by clear hT hJ hcl hold; go_simp) ⟨Below.refl _ _, hJ, rfl⟩

  case s12 =>
    intro _ L ρ W hLi hcl hold hJ hT
    have q20 : ρ (.tmp 20) = .bool true := hT.1 20 11 rfl rfl
    refine Op1.of_run (v := .bool true) (W' := W) (by clear hT hJ hcl hold; go_simp) ⟨Below.refl _ _, hJ, rfl⟩

  case s13 => intro h; cases h

  case s14 => intro h; cases h

  case s15 => intro h; cases h

  case s16 => intro h; cases h

  case s17 => intro h; cases h

  case s18 => intro h; cases h

  case s19 => intro h; cases h

  case s20 => intro h; cases h

  case s21 => intro h; cases h

  case s22 => intro h; cases h

  case s23 => intro h; cases h

  case s24 =>
    intro _ L ρ W hLi hcl hold hJ hT
    have q21 : ρ (.tmp 21) = .bool true := hT.1 21 12 rfl rfl
    have z32 := hT.1 32 23 rfl rfl
    have qc := hT.2.2.1 (Go.Value.bool true)
    refine Op1.of_run (v := .bool true) (W' := W) (by clear hT hJ hcl hold; go_simp) ⟨Below.refl _ _, hJ, rfl⟩

  case s25 =>
    intro _ L ρ W hLi hcl hold hJ hT
    have q33 : ρ (.tmp 33) = .bool true := hT.1 33 24 rfl rfl
    refine Op1.of_run (v := .bool true) (W' := W) (by clear hT hJ hcl hold; go_simp) ⟨Below.refl _ _, hJ, rfl⟩

  case s26 => intro h; cases h

  case s27 => intro h; cases h

  case s28 => intro h; cases h

  case s29 => intro h; cases h

  case s30 => intro h; cases h

  case s31 => intro h; cases h

  case s32 => intro h; cases h

  case s33 => intro h; cases h

  case s34 => intro h; cases h

  case s35 => intro h; cases h

  case s36 => intro h; cases h

  case s37 => intro h; cases h

  case s38 =>
    intro _ L ρ W hLi hcl hold hJ hT
    have q34 : ρ (.tmp 34) = .bool true := hT.1 34 25 rfl rfl
    have z46 := hT.1 46 37 rfl rfl
    have qc := hT.2.2.1 (Go.Value.bool true)
    refine Op1.of_run (v := .bool true) (W' := W) (by clear hT hJ hcl hold; go_simp) ⟨Below.refl _ _, hJ, rfl⟩

  case s39 =>
    intro _ L ρ W hLi hcl hold hJ hT
    have q47 : ρ (.tmp 47) = .bool true := hT.1 47 38 rfl rfl
    refine Op1.of_run (v := .bool true) (W' := W) (by clear hT hJ hcl hold; go_simp) ⟨Below.refl _ _, hJ, rfl⟩

  case hskip =>
    intro i hi L W hLi hJ
    have hi2 : i = 4 ∨ i = 5 ∨ i = 6 ∨ i = 7 ∨ i = 8 ∨ i = 9 ∨ i = 10 ∨ i = 13 ∨ i = 14 ∨ i = 15 ∨ i = 16 ∨ i = 17 ∨ i = 18 ∨ i = 19 ∨ i = 20 ∨ i = 21 ∨ i = 22 ∨ i = 23 ∨ i = 26 ∨ i = 27 ∨ i = 28 ∨ i = 29 ∨ i = 30 ∨ i = 31 ∨ i = 32 ∨ i = 33 ∨ i = 34 ∨ i = 35 ∨ i = 36 ∨ i = 37 := by simpa using hi
    rcases hi2 with rfl | rfl | rfl | rfl | rfl | rfl | rfl | rfl | rfl | rfl | rfl | rfl | rfl | rfl | rfl | rfl | rfl | rfl | rfl | rfl | rfl | rfl | rfl | rfl | rfl | rfl | rfl | rfl | rfl | rfl <;> exact ⟨hJ, trivial⟩

  case hdone =>
    intro σ L W hL hJ hV
    exact hQ σ W ⟨hJ, hV 39 (by decide)⟩
def Was_r3b_val (g : Nat) (t : ByteArray) (S : Int) (X : Nat) (off : Int) (s : ByteArray) (fin : Bool) : Nat → Value → World → Prop := fun j v W => match j with
  | 0 => v = .pointer (some ⟨X, 0, none⟩)
  | 1 => v = .int .i64 off
  | 2 => v = .bool false
  | 3 => v = .bool false
  | 4 => v = .pointer (some ⟨X, 0, none⟩)
  | 5 => v = .int .i64 off
  | 6 => v = .pointer (some ⟨g, 0, none⟩)
  | 7 => v = .pointer (some ⟨g, 0, none⟩)
  | 8 => v = .pointer (some ⟨g, 1, none⟩)
  | 9 => v = .int .i64 S
  | 10 => v = .bool true
  | 11 => v = .bool true
  | 12 => v = .bool true
  | 13 => True
  | 14 => True
  | 15 => True
  | 16 => True
  | 17 => True
  | 18 => True
  | 19 => True
  | 20 => True
  | 21 => True
  | 22 => True
  | 23 => True
  | 24 => v = .bool true
  | 25 => v = .bool true
  | 26 => True
  | 27 => True
  | 28 => True
  | 29 => True
  | 30 => True
  | 31 => True
  | 32 => True
  | 33 => True
  | 34 => True
  | 35 => True
  | 36 => True
  | 37 => True
  | 38 => v = .bool true
  | 39 => v = .bool true
  | _ => True

set_option maxRecDepth 100000 in
set_option maxHeartbeats 4000000 in
theorem Was_r3b (g : Nat) (t : ByteArray) (S : Int) (X : Nat) (off : Int) (s : ByteArray) (fin : Bool) (t0 : List Value) (d0 : List Deferred) (w : World) (Q : Exit → Act → World → Prop) (hl : t0.length = ws3_tab.length)
    (t0_ : t0[0]? = some (.pointer (some ⟨g, 0, none⟩))) (t3 : t0[3]? = some (.pointer (some ⟨X, 0, none⟩))) (kb0 : w.cell? ⟨g, 0, none⟩ = some (.string t)) (kb1 : w.cell? ⟨g, 1, none⟩ = some (.int .i64 S)) (kx0 : w.cell? ⟨X, 0, none⟩ = some (.int .i64 off)) (kx1 : w.cell? ⟨X, 1, none⟩ = some (.string s)) (kx2 : w.cell? ⟨X, 2, none⟩ = some (.bool fin)) (h1 : ¬ off < 0) (h2 : S < off)
    (hQ : ∀ σ W, Below w.heap.size w W ∧ σ 39 = .bool true → Q .normal (lazyA (fun _ => true) σ t0 ws3_tab d0) W) :
    (Code.region 3 ws3_ops.toArray true).wp Try.prog Q { tmps := t0.toArray, defers := d0 } w := by
  refine wp_region_valsO (by kernel_rfl) ws3_tab (by kernel_rfl) hl (fun i => [13, 14, 15, 16, 17, 18, 19, 20, 21, 22, 23, 26, 27, 28, 29, 30, 31, 32, 33, 34, 35, 36, 37].contains i) (fun i W W' => Below W.heap.size W W') (fun L W => Below w.heap.size w W) (Was_r3b_val g t S X off s fin) (below_drew (Below.refl _ _)) ?hst ⟨⟨(fun j b h => by cases h), fun _ => rfl⟩, ⟨(fun j b h => by cases h), fun _ => rfl⟩, ⟨(fun j b h => by cases h), fun _ => rfl⟩, ⟨(fun j b h => by cases h), fun _ => rfl⟩, ⟨(fun j b h v W hv => by cases h; exact hv), (fun h => by cases h)⟩, ⟨(fun j b h v W hv => by cases h; exact hv), (fun h => by cases h)⟩, ⟨(fun j b h v W hv => by cases h; exact hv), (fun h => by cases h)⟩, ⟨(fun j b h v W hv => by cases h; exact hv), (fun h => by cases h)⟩, ⟨(fun j b h v W hv => by cases h; exact hv), (fun h => by cases h)⟩, ⟨(fun j b h v W hv => by cases h; exact hv), (fun h => by cases h)⟩, ⟨(fun j b h v W hv => by cases h; exact hv), (fun h => by cases h)⟩, ⟨(fun j b h => by cases h), fun _ => rfl⟩, ⟨(fun j b h => by cases h), fun _ => rfl⟩, ⟨(fun j b h v W hv => by cases h; exact hv), (fun h => by cases h)⟩, ⟨(fun j b h v W hv => by cases h; exact hv), (fun h => by cases h)⟩, ⟨(fun j b h v W hv => by cases h; exact hv), (fun h => by cases h)⟩, ⟨(fun j b h v W hv => by cases h; exact hv), (fun h => by cases h)⟩, ⟨(fun j b h v W hv => by cases h; exact hv), (fun h => by cases h)⟩, ⟨(fun j b h v W hv => by cases h; exact hv), (fun h => by cases h)⟩, ⟨(fun j b h v W hv => by cases h; exact hv), (fun h => by cases h)⟩, ⟨(fun j b h v W hv => by cases h; exact hv), (fun h => by cases h)⟩, ⟨(fun j b h v W hv => by cases h; exact hv), (fun h => by cases h)⟩, ⟨(fun j b h v W hv => by cases h; exact hv), (fun h => by cases h)⟩, ⟨(fun j b h v W hv => by cases h; exact hv), (fun h => by cases h)⟩, ⟨(fun j b h => by cases h), fun _ => rfl⟩, ⟨(fun j b h => by cases h), fun _ => rfl⟩, ⟨(fun j b h v W hv => by cases h; exact hv), (fun h => by cases h)⟩, ⟨(fun j b h v W hv => by cases h; exact hv), (fun h => by cases h)⟩, ⟨(fun j b h v W hv => by cases h; exact hv), (fun h => by cases h)⟩, ⟨(fun j b h v W hv => by cases h; exact hv), (fun h => by cases h)⟩, ⟨(fun j b h v W hv => by cases h; exact hv), (fun h => by cases h)⟩, ⟨(fun j b h v W hv => by cases h; exact hv), (fun h => by cases h)⟩, ⟨(fun j b h v W hv => by cases h; exact hv), (fun h => by cases h)⟩, ⟨(fun j b h v W hv => by cases h; exact hv), (fun h => by cases h)⟩, ⟨(fun j b h v W hv => by cases h; exact hv), (fun h => by cases h)⟩, ⟨(fun j b h v W hv => by cases h; exact hv), (fun h => by cases h)⟩, ⟨(fun j b h v W hv => by cases h; exact hv), (fun h => by cases h)⟩, ⟨(fun j b h v W hv => by cases h; exact hv), (fun h => by cases h)⟩, ⟨(fun j b h => by cases h), fun _ => rfl⟩, ⟨(fun j b h => by cases h), fun _ => rfl⟩, trivial⟩ ⟨?s0, ?s1, ?s2, ?s3, ?s4, ?s5, ?s6, ?s7, ?s8, ?s9, ?s10, ?s11, ?s12, ?s13, ?s14, ?s15, ?s16, ?s17, ?s18, ?s19, ?s20, ?s21, ?s22, ?s23, ?s24, ?s25, ?s26, ?s27, ?s28, ?s29, ?s30, ?s31, ?s32, ?s33, ?s34, ?s35, ?s36, ?s37, ?s38, ?s39, trivial⟩ ?hskip ?hdone
  case hst =>
    intro L i j v W W' hLi hLj hne hcl hR h
    match j with
    | 0 => exact h
    | 1 => exact h
    | 2 => exact h
    | 3 => exact h
    | 4 => exact h
    | 5 => exact h
    | 6 => exact h
    | 7 => exact h
    | 8 => exact h
    | 9 => exact h
    | 10 => exact h
    | 11 => exact h
    | 12 => exact h
    | 13 => exact h
    | 14 => exact h
    | 15 => exact h
    | 16 => exact h
    | 17 => exact h
    | 18 => exact h
    | 19 => exact h
    | 20 => exact h
    | 21 => exact h
    | 22 => exact h
    | 23 => exact h
    | 24 => exact h
    | 25 => exact h
    | 26 => exact h
    | 27 => exact h
    | 28 => exact h
    | 29 => exact h
    | 30 => exact h
    | 31 => exact h
    | 32 => exact h
    | 33 => exact h
    | 34 => exact h
    | 35 => exact h
    | 36 => exact h
    | 37 => exact h
    | 38 => exact h
    | 39 => exact h
    | n + 40 => trivial

  case s0 =>
    intro _ L ρ W hLi hcl hold hJ hT
    have q3 := hT.2.1 3 _ t3 rfl
    refine Op1.of_run (v := .pointer (some ⟨X, 0, none⟩)) (W' := W) (by clear hT hJ hcl hold; go_simp) ⟨Below.refl _ _, hJ, rfl⟩

  case s1 =>
    intro _ L ρ W hLi hcl hold hJ hT
    have q9 : ρ (.tmp 9) = .pointer (some ⟨X, 0, none⟩) := hT.1 9 0 rfl rfl
    have cc := (hJ.cell (World.block_lt_of_cell? _ _ kx0)).trans kx0
    refine Op1.of_run (v := .int .i64 off) (W' := W) (by clear hT hJ hcl hold; go_simp) ⟨Below.refl _ _, hJ, rfl⟩

  case s2 =>
    intro _ L ρ W hLi hcl hold hJ hT
    have q10 : ρ (.tmp 10) = .int .i64 off := hT.1 10 1 rfl rfl
    have qc := hT.2.2.1 (Go.Value.int Go.IntKind.i64 0)
    refine Op1.of_run (v := .bool false) (W' := W) (by clear hT hJ hcl hold; go_simp) ⟨Below.refl _ _, hJ, rfl⟩

  case s3 =>
    intro _ L ρ W hLi hcl hold hJ hT
    have q11 : ρ (.tmp 11) = .bool false := hT.1 11 2 rfl rfl
    refine Op1.of_run (v := .bool false) (W' := W) (by clear hT hJ hcl hold; go_simp) ⟨Below.refl _ _, hJ, rfl⟩

  case s4 =>
    intro _ L ρ W hLi hcl hold hJ hT
    have q3 := hT.2.1 3 _ t3 rfl
    refine Op1.of_run (v := .pointer (some ⟨X, 0, none⟩)) (W' := W) (by clear hT hJ hcl hold; go_simp) ⟨Below.refl _ _, hJ, rfl⟩

  case s5 =>
    intro _ L ρ W hLi hcl hold hJ hT
    have q13 : ρ (.tmp 13) = .pointer (some ⟨X, 0, none⟩) := hT.1 13 4 rfl rfl
    have cc := (hJ.cell (World.block_lt_of_cell? _ _ kx0)).trans kx0
    refine Op1.of_run (v := .int .i64 off) (W' := W) (by clear hT hJ hcl hold; go_simp) ⟨Below.refl _ _, hJ, rfl⟩

  case s6 =>
    intro _ L ρ W hLi hcl hold hJ hT
    have q0 := hT.2.1 0 _ t0_ rfl
    refine Op1.of_run (v := .pointer (some ⟨g, 0, none⟩)) (W' := W) (by clear hT hJ hcl hold; go_simp) ⟨Below.refl _ _, hJ, rfl⟩

  case s7 =>
    intro _ L ρ W hLi hcl hold hJ hT
    have q15 : ρ (.tmp 15) = .pointer (some ⟨g, 0, none⟩) := hT.1 15 6 rfl rfl
    refine Op1.of_run (v := .pointer (some ⟨g, 0, none⟩)) (W' := W) (by clear hT hJ hcl hold; go_simp) ⟨Below.refl _ _, hJ, rfl⟩

  case s8 =>
    intro _ L ρ W hLi hcl hold hJ hT
    have q16 : ρ (.tmp 16) = .pointer (some ⟨g, 0, none⟩) := hT.1 16 7 rfl rfl
    refine Op1.of_run (v := .pointer (some ⟨g, 1, none⟩)) (W' := W) (by clear hT hJ hcl hold; go_simp) ⟨Below.refl _ _, hJ, rfl⟩

  case s9 =>
    intro _ L ρ W hLi hcl hold hJ hT
    have q17 : ρ (.tmp 17) = .pointer (some ⟨g, 1, none⟩) := hT.1 17 8 rfl rfl
    have cc := (hJ.cell (World.block_lt_of_cell? _ _ kb1)).trans kb1
    refine Op1.of_run (v := .int .i64 S) (W' := W) (by clear hT hJ hcl hold; go_simp) ⟨Below.refl _ _, hJ, rfl⟩

  case s10 =>
    intro _ L ρ W hLi hcl hold hJ hT
    have q14 : ρ (.tmp 14) = .int .i64 off := hT.1 14 5 rfl rfl
    have q18 : ρ (.tmp 18) = .int .i64 S := hT.1 18 9 rfl rfl
    refine Op1.of_run (v := .bool true) (W' := W) (by clear hT hJ hcl hold; go_simp) ⟨Below.refl _ _, hJ, rfl⟩

  case s11 =>
    intro _ L ρ W hLi hcl hold hJ hT
    have q12 : ρ (.tmp 12) = .bool false := hT.1 12 3 rfl rfl
    have q19 : ρ (.tmp 19) = .bool true := hT.1 19 10 rfl rfl
    have qc := hT.2.2.1 (Go.Value.bool true)
    refine Op1.of_run (v := .bool true) (W' := W) (by clear hT hJ hcl hold; go_simp) ⟨Below.refl _ _, hJ, rfl⟩

  case s12 =>
    intro _ L ρ W hLi hcl hold hJ hT
    have q20 : ρ (.tmp 20) = .bool true := hT.1 20 11 rfl rfl
    refine Op1.of_run (v := .bool true) (W' := W) (by clear hT hJ hcl hold; go_simp) ⟨Below.refl _ _, hJ, rfl⟩

  case s13 => intro h; cases h

  case s14 => intro h; cases h

  case s15 => intro h; cases h

  case s16 => intro h; cases h

  case s17 => intro h; cases h

  case s18 => intro h; cases h

  case s19 => intro h; cases h

  case s20 => intro h; cases h

  case s21 => intro h; cases h

  case s22 => intro h; cases h

  case s23 => intro h; cases h

  case s24 =>
    intro _ L ρ W hLi hcl hold hJ hT
    have q21 : ρ (.tmp 21) = .bool true := hT.1 21 12 rfl rfl
    have z32 := hT.1 32 23 rfl rfl
    have qc := hT.2.2.1 (Go.Value.bool true)
    refine Op1.of_run (v := .bool true) (W' := W) (by clear hT hJ hcl hold; go_simp) ⟨Below.refl _ _, hJ, rfl⟩

  case s25 =>
    intro _ L ρ W hLi hcl hold hJ hT
    have q33 : ρ (.tmp 33) = .bool true := hT.1 33 24 rfl rfl
    refine Op1.of_run (v := .bool true) (W' := W) (by clear hT hJ hcl hold; go_simp) ⟨Below.refl _ _, hJ, rfl⟩

  case s26 => intro h; cases h

  case s27 => intro h; cases h

  case s28 => intro h; cases h

  case s29 => intro h; cases h

  case s30 => intro h; cases h

  case s31 => intro h; cases h

  case s32 => intro h; cases h

  case s33 => intro h; cases h

  case s34 => intro h; cases h

  case s35 => intro h; cases h

  case s36 => intro h; cases h

  case s37 => intro h; cases h

  case s38 =>
    intro _ L ρ W hLi hcl hold hJ hT
    have q34 : ρ (.tmp 34) = .bool true := hT.1 34 25 rfl rfl
    have z46 := hT.1 46 37 rfl rfl
    have qc := hT.2.2.1 (Go.Value.bool true)
    refine Op1.of_run (v := .bool true) (W' := W) (by clear hT hJ hcl hold; go_simp) ⟨Below.refl _ _, hJ, rfl⟩

  case s39 =>
    intro _ L ρ W hLi hcl hold hJ hT
    have q47 : ρ (.tmp 47) = .bool true := hT.1 47 38 rfl rfl
    refine Op1.of_run (v := .bool true) (W' := W) (by clear hT hJ hcl hold; go_simp) ⟨Below.refl _ _, hJ, rfl⟩

  case hskip =>
    intro i hi L W hLi hJ
    have hi2 : i = 13 ∨ i = 14 ∨ i = 15 ∨ i = 16 ∨ i = 17 ∨ i = 18 ∨ i = 19 ∨ i = 20 ∨ i = 21 ∨ i = 22 ∨ i = 23 ∨ i = 26 ∨ i = 27 ∨ i = 28 ∨ i = 29 ∨ i = 30 ∨ i = 31 ∨ i = 32 ∨ i = 33 ∨ i = 34 ∨ i = 35 ∨ i = 36 ∨ i = 37 := by simpa using hi
    rcases hi2 with rfl | rfl | rfl | rfl | rfl | rfl | rfl | rfl | rfl | rfl | rfl | rfl | rfl | rfl | rfl | rfl | rfl | rfl | rfl | rfl | rfl | rfl | rfl <;> exact ⟨hJ, trivial⟩

  case hdone =>
    intro σ L W hL hJ hV
    exact hQ σ W ⟨hJ, hV 39 (by decide)⟩
def Was_r3c_val (g : Nat) (t : ByteArray) (S : Int) (X : Nat) (off : Int) (s : ByteArray) (fin : Bool) : Nat → Value → World → Prop := fun j v W => match j with
  | 0 => v = .pointer (some ⟨X, 0, none⟩)
  | 1 => v = .int .i64 off
  | 2 => v = .bool false
  | 3 => v = .bool false
  | 4 => v = .pointer (some ⟨X, 0, none⟩)
  | 5 => v = .int .i64 off
  | 6 => v = .pointer (some ⟨g, 0, none⟩)
  | 7 => v = .pointer (some ⟨g, 0, none⟩)
  | 8 => v = .pointer (some ⟨g, 1, none⟩)
  | 9 => v = .int .i64 S
  | 10 => v = .bool false
  | 11 => v = .bool false
  | 12 => v = .bool false
  | 13 => v = .pointer (some ⟨X, 1, none⟩)
  | 14 => v = .string s
  | 15 => v = .int .i64 (s.size : Int)
  | 16 => v = .pointer (some ⟨g, 0, none⟩)
  | 17 => v = .pointer (some ⟨g, 0, none⟩)
  | 18 => v = .pointer (some ⟨g, 1, none⟩)
  | 19 => v = .int .i64 S
  | 20 => v = .pointer (some ⟨X, 0, none⟩)
  | 21 => v = .int .i64 off
  | 22 => v = .int .i64 (S - off)
  | 23 => v = .bool true
  | 24 => v = .bool true
  | 25 => v = .bool true
  | 26 => True
  | 27 => True
  | 28 => True
  | 29 => True
  | 30 => True
  | 31 => True
  | 32 => True
  | 33 => True
  | 34 => True
  | 35 => True
  | 36 => True
  | 37 => True
  | 38 => v = .bool true
  | 39 => v = .bool true
  | _ => True

set_option maxRecDepth 100000 in
set_option maxHeartbeats 4000000 in
theorem Was_r3c (g : Nat) (t : ByteArray) (S : Int) (X : Nat) (off : Int) (s : ByteArray) (fin : Bool) (t0 : List Value) (d0 : List Deferred) (w : World) (Q : Exit → Act → World → Prop) (hl : t0.length = ws3_tab.length)
    (t0_ : t0[0]? = some (.pointer (some ⟨g, 0, none⟩))) (t3 : t0[3]? = some (.pointer (some ⟨X, 0, none⟩))) (kb0 : w.cell? ⟨g, 0, none⟩ = some (.string t)) (kb1 : w.cell? ⟨g, 1, none⟩ = some (.int .i64 S)) (kx0 : w.cell? ⟨X, 0, none⟩ = some (.int .i64 off)) (kx1 : w.cell? ⟨X, 1, none⟩ = some (.string s)) (kx2 : w.cell? ⟨X, 2, none⟩ = some (.bool fin)) (h1 : ¬ off < 0) (h2 : ¬ S < off) (h3 : S - off < (s.size : Int)) (hS : 0 ≤ S ∧ S ≤ 262144)
    (hQ : ∀ σ W, Below w.heap.size w W ∧ σ 39 = .bool true → Q .normal (lazyA (fun _ => true) σ t0 ws3_tab d0) W) :
    (Code.region 3 ws3_ops.toArray true).wp Try.prog Q { tmps := t0.toArray, defers := d0 } w := by
  refine wp_region_valsO (by kernel_rfl) ws3_tab (by kernel_rfl) hl (fun i => [26, 27, 28, 29, 30, 31, 32, 33, 34, 35, 36, 37].contains i) (fun i W W' => Below W.heap.size W W') (fun L W => Below w.heap.size w W) (Was_r3c_val g t S X off s fin) (below_drew (Below.refl _ _)) ?hst ⟨⟨(fun j b h => by cases h), fun _ => rfl⟩, ⟨(fun j b h => by cases h), fun _ => rfl⟩, ⟨(fun j b h => by cases h), fun _ => rfl⟩, ⟨(fun j b h => by cases h), fun _ => rfl⟩, ⟨(fun j b h v W hv => by cases h; exact hv), (fun h => by cases h)⟩, ⟨(fun j b h v W hv => by cases h; exact hv), (fun h => by cases h)⟩, ⟨(fun j b h v W hv => by cases h; exact hv), (fun h => by cases h)⟩, ⟨(fun j b h v W hv => by cases h; exact hv), (fun h => by cases h)⟩, ⟨(fun j b h v W hv => by cases h; exact hv), (fun h => by cases h)⟩, ⟨(fun j b h v W hv => by cases h; exact hv), (fun h => by cases h)⟩, ⟨(fun j b h v W hv => by cases h; exact hv), (fun h => by cases h)⟩, ⟨(fun j b h => by cases h), fun _ => rfl⟩, ⟨(fun j b h => by cases h), fun _ => rfl⟩, ⟨(fun j b h v W hv => by cases h; exact hv), (fun h => by cases h)⟩, ⟨(fun j b h v W hv => by cases h; exact hv), (fun h => by cases h)⟩, ⟨(fun j b h v W hv => by cases h; exact hv), (fun h => by cases h)⟩, ⟨(fun j b h v W hv => by cases h; exact hv), (fun h => by cases h)⟩, ⟨(fun j b h v W hv => by cases h; exact hv), (fun h => by cases h)⟩, ⟨(fun j b h v W hv => by cases h; exact hv), (fun h => by cases h)⟩, ⟨(fun j b h v W hv => by cases h; exact hv), (fun h => by cases h)⟩, ⟨(fun j b h v W hv => by cases h; exact hv), (fun h => by cases h)⟩, ⟨(fun j b h v W hv => by cases h; exact hv), (fun h => by cases h)⟩, ⟨(fun j b h v W hv => by cases h; exact hv), (fun h => by cases h)⟩, ⟨(fun j b h v W hv => by cases h; exact hv), (fun h => by cases h)⟩, ⟨(fun j b h => by cases h), fun _ => rfl⟩, ⟨(fun j b h => by cases h), fun _ => rfl⟩, ⟨(fun j b h v W hv => by cases h; exact hv), (fun h => by cases h)⟩, ⟨(fun j b h v W hv => by cases h; exact hv), (fun h => by cases h)⟩, ⟨(fun j b h v W hv => by cases h; exact hv), (fun h => by cases h)⟩, ⟨(fun j b h v W hv => by cases h; exact hv), (fun h => by cases h)⟩, ⟨(fun j b h v W hv => by cases h; exact hv), (fun h => by cases h)⟩, ⟨(fun j b h v W hv => by cases h; exact hv), (fun h => by cases h)⟩, ⟨(fun j b h v W hv => by cases h; exact hv), (fun h => by cases h)⟩, ⟨(fun j b h v W hv => by cases h; exact hv), (fun h => by cases h)⟩, ⟨(fun j b h v W hv => by cases h; exact hv), (fun h => by cases h)⟩, ⟨(fun j b h v W hv => by cases h; exact hv), (fun h => by cases h)⟩, ⟨(fun j b h v W hv => by cases h; exact hv), (fun h => by cases h)⟩, ⟨(fun j b h v W hv => by cases h; exact hv), (fun h => by cases h)⟩, ⟨(fun j b h => by cases h), fun _ => rfl⟩, ⟨(fun j b h => by cases h), fun _ => rfl⟩, trivial⟩ ⟨?s0, ?s1, ?s2, ?s3, ?s4, ?s5, ?s6, ?s7, ?s8, ?s9, ?s10, ?s11, ?s12, ?s13, ?s14, ?s15, ?s16, ?s17, ?s18, ?s19, ?s20, ?s21, ?s22, ?s23, ?s24, ?s25, ?s26, ?s27, ?s28, ?s29, ?s30, ?s31, ?s32, ?s33, ?s34, ?s35, ?s36, ?s37, ?s38, ?s39, trivial⟩ ?hskip ?hdone
  case hst =>
    intro L i j v W W' hLi hLj hne hcl hR h
    match j with
    | 0 => exact h
    | 1 => exact h
    | 2 => exact h
    | 3 => exact h
    | 4 => exact h
    | 5 => exact h
    | 6 => exact h
    | 7 => exact h
    | 8 => exact h
    | 9 => exact h
    | 10 => exact h
    | 11 => exact h
    | 12 => exact h
    | 13 => exact h
    | 14 => exact h
    | 15 => exact h
    | 16 => exact h
    | 17 => exact h
    | 18 => exact h
    | 19 => exact h
    | 20 => exact h
    | 21 => exact h
    | 22 => exact h
    | 23 => exact h
    | 24 => exact h
    | 25 => exact h
    | 26 => exact h
    | 27 => exact h
    | 28 => exact h
    | 29 => exact h
    | 30 => exact h
    | 31 => exact h
    | 32 => exact h
    | 33 => exact h
    | 34 => exact h
    | 35 => exact h
    | 36 => exact h
    | 37 => exact h
    | 38 => exact h
    | 39 => exact h
    | n + 40 => trivial

  case s0 =>
    intro _ L ρ W hLi hcl hold hJ hT
    have q3 := hT.2.1 3 _ t3 rfl
    refine Op1.of_run (v := .pointer (some ⟨X, 0, none⟩)) (W' := W) (by clear hT hJ hcl hold; go_simp) ⟨Below.refl _ _, hJ, rfl⟩

  case s1 =>
    intro _ L ρ W hLi hcl hold hJ hT
    have q9 : ρ (.tmp 9) = .pointer (some ⟨X, 0, none⟩) := hT.1 9 0 rfl rfl
    have cc := (hJ.cell (World.block_lt_of_cell? _ _ kx0)).trans kx0
    refine Op1.of_run (v := .int .i64 off) (W' := W) (by clear hT hJ hcl hold; go_simp) ⟨Below.refl _ _, hJ, rfl⟩

  case s2 =>
    intro _ L ρ W hLi hcl hold hJ hT
    have q10 : ρ (.tmp 10) = .int .i64 off := hT.1 10 1 rfl rfl
    have qc := hT.2.2.1 (Go.Value.int Go.IntKind.i64 0)
    refine Op1.of_run (v := .bool false) (W' := W) (by clear hT hJ hcl hold; go_simp) ⟨Below.refl _ _, hJ, rfl⟩

  case s3 =>
    intro _ L ρ W hLi hcl hold hJ hT
    have q11 : ρ (.tmp 11) = .bool false := hT.1 11 2 rfl rfl
    refine Op1.of_run (v := .bool false) (W' := W) (by clear hT hJ hcl hold; go_simp) ⟨Below.refl _ _, hJ, rfl⟩

  case s4 =>
    intro _ L ρ W hLi hcl hold hJ hT
    have q3 := hT.2.1 3 _ t3 rfl
    refine Op1.of_run (v := .pointer (some ⟨X, 0, none⟩)) (W' := W) (by clear hT hJ hcl hold; go_simp) ⟨Below.refl _ _, hJ, rfl⟩

  case s5 =>
    intro _ L ρ W hLi hcl hold hJ hT
    have q13 : ρ (.tmp 13) = .pointer (some ⟨X, 0, none⟩) := hT.1 13 4 rfl rfl
    have cc := (hJ.cell (World.block_lt_of_cell? _ _ kx0)).trans kx0
    refine Op1.of_run (v := .int .i64 off) (W' := W) (by clear hT hJ hcl hold; go_simp) ⟨Below.refl _ _, hJ, rfl⟩

  case s6 =>
    intro _ L ρ W hLi hcl hold hJ hT
    have q0 := hT.2.1 0 _ t0_ rfl
    refine Op1.of_run (v := .pointer (some ⟨g, 0, none⟩)) (W' := W) (by clear hT hJ hcl hold; go_simp) ⟨Below.refl _ _, hJ, rfl⟩

  case s7 =>
    intro _ L ρ W hLi hcl hold hJ hT
    have q15 : ρ (.tmp 15) = .pointer (some ⟨g, 0, none⟩) := hT.1 15 6 rfl rfl
    refine Op1.of_run (v := .pointer (some ⟨g, 0, none⟩)) (W' := W) (by clear hT hJ hcl hold; go_simp) ⟨Below.refl _ _, hJ, rfl⟩

  case s8 =>
    intro _ L ρ W hLi hcl hold hJ hT
    have q16 : ρ (.tmp 16) = .pointer (some ⟨g, 0, none⟩) := hT.1 16 7 rfl rfl
    refine Op1.of_run (v := .pointer (some ⟨g, 1, none⟩)) (W' := W) (by clear hT hJ hcl hold; go_simp) ⟨Below.refl _ _, hJ, rfl⟩

  case s9 =>
    intro _ L ρ W hLi hcl hold hJ hT
    have q17 : ρ (.tmp 17) = .pointer (some ⟨g, 1, none⟩) := hT.1 17 8 rfl rfl
    have cc := (hJ.cell (World.block_lt_of_cell? _ _ kb1)).trans kb1
    refine Op1.of_run (v := .int .i64 S) (W' := W) (by clear hT hJ hcl hold; go_simp) ⟨Below.refl _ _, hJ, rfl⟩

  case s10 =>
    intro _ L ρ W hLi hcl hold hJ hT
    have q14 : ρ (.tmp 14) = .int .i64 off := hT.1 14 5 rfl rfl
    have q18 : ρ (.tmp 18) = .int .i64 S := hT.1 18 9 rfl rfl
    refine Op1.of_run (v := .bool false) (W' := W) (by clear hT hJ hcl hold; go_simp) ⟨Below.refl _ _, hJ, rfl⟩

  case s11 =>
    intro _ L ρ W hLi hcl hold hJ hT
    have q12 : ρ (.tmp 12) = .bool false := hT.1 12 3 rfl rfl
    have q19 : ρ (.tmp 19) = .bool false := hT.1 19 10 rfl rfl
    have qc := hT.2.2.1 (Go.Value.bool true)
    refine Op1.of_run (v := .bool false) (W' := W) (by clear hT hJ hcl hold; go_simp) ⟨Below.refl _ _, hJ, rfl⟩

  case s12 =>
    intro _ L ρ W hLi hcl hold hJ hT
    have q20 : ρ (.tmp 20) = .bool false := hT.1 20 11 rfl rfl
    refine Op1.of_run (v := .bool false) (W' := W) (by clear hT hJ hcl hold; go_simp) ⟨Below.refl _ _, hJ, rfl⟩

  case s13 =>
    intro _ L ρ W hLi hcl hold hJ hT
    have q3 := hT.2.1 3 _ t3 rfl
    refine Op1.of_run (v := .pointer (some ⟨X, 1, none⟩)) (W' := W) (by clear hT hJ hcl hold; go_simp) ⟨Below.refl _ _, hJ, rfl⟩

  case s14 =>
    intro _ L ρ W hLi hcl hold hJ hT
    have q22 : ρ (.tmp 22) = .pointer (some ⟨X, 1, none⟩) := hT.1 22 13 rfl rfl
    have cc := (hJ.cell (World.block_lt_of_cell? _ _ kx1)).trans kx1
    refine Op1.of_run (v := .string s) (W' := W) (by clear hT hJ hcl hold; go_simp) ⟨Below.refl _ _, hJ, rfl⟩

  case s15 =>
    intro _ L ρ W hLi hcl hold hJ hT
    have q23 : ρ (.tmp 23) = .string s := hT.1 23 14 rfl rfl
    refine Op1.of_run (v := .int .i64 (s.size : Int)) (W' := W) (by clear hT hJ hcl hold; go_simp) ⟨Below.refl _ _, hJ, rfl⟩

  case s16 =>
    intro _ L ρ W hLi hcl hold hJ hT
    have q0 := hT.2.1 0 _ t0_ rfl
    refine Op1.of_run (v := .pointer (some ⟨g, 0, none⟩)) (W' := W) (by clear hT hJ hcl hold; go_simp) ⟨Below.refl _ _, hJ, rfl⟩

  case s17 =>
    intro _ L ρ W hLi hcl hold hJ hT
    have q25 : ρ (.tmp 25) = .pointer (some ⟨g, 0, none⟩) := hT.1 25 16 rfl rfl
    refine Op1.of_run (v := .pointer (some ⟨g, 0, none⟩)) (W' := W) (by clear hT hJ hcl hold; go_simp) ⟨Below.refl _ _, hJ, rfl⟩

  case s18 =>
    intro _ L ρ W hLi hcl hold hJ hT
    have q26 : ρ (.tmp 26) = .pointer (some ⟨g, 0, none⟩) := hT.1 26 17 rfl rfl
    refine Op1.of_run (v := .pointer (some ⟨g, 1, none⟩)) (W' := W) (by clear hT hJ hcl hold; go_simp) ⟨Below.refl _ _, hJ, rfl⟩

  case s19 =>
    intro _ L ρ W hLi hcl hold hJ hT
    have q27 : ρ (.tmp 27) = .pointer (some ⟨g, 1, none⟩) := hT.1 27 18 rfl rfl
    have cc := (hJ.cell (World.block_lt_of_cell? _ _ kb1)).trans kb1
    refine Op1.of_run (v := .int .i64 S) (W' := W) (by clear hT hJ hcl hold; go_simp) ⟨Below.refl _ _, hJ, rfl⟩

  case s20 =>
    intro _ L ρ W hLi hcl hold hJ hT
    have q3 := hT.2.1 3 _ t3 rfl
    refine Op1.of_run (v := .pointer (some ⟨X, 0, none⟩)) (W' := W) (by clear hT hJ hcl hold; go_simp) ⟨Below.refl _ _, hJ, rfl⟩

  case s21 =>
    intro _ L ρ W hLi hcl hold hJ hT
    have q29 : ρ (.tmp 29) = .pointer (some ⟨X, 0, none⟩) := hT.1 29 20 rfl rfl
    have cc := (hJ.cell (World.block_lt_of_cell? _ _ kx0)).trans kx0
    refine Op1.of_run (v := .int .i64 off) (W' := W) (by clear hT hJ hcl hold; go_simp) ⟨Below.refl _ _, hJ, rfl⟩

  case s22 =>
    intro _ L ρ W hLi hcl hold hJ hT
    have q28 : ρ (.tmp 28) = .int .i64 S := hT.1 28 19 rfl rfl
    have q30 : ρ (.tmp 30) = .int .i64 off := hT.1 30 21 rfl rfl
    have e1 : IntKind.i64.wrap (S - off) = S - off := IntWalk.i64_in _ (by omega)
    refine Op1.of_run (v := .int .i64 (S - off)) (W' := W) (by clear hT hJ hcl hold; go_simp) ⟨Below.refl _ _, hJ, rfl⟩

  case s23 =>
    intro _ L ρ W hLi hcl hold hJ hT
    have q24 : ρ (.tmp 24) = .int .i64 (s.size : Int) := hT.1 24 15 rfl rfl
    have q31 : ρ (.tmp 31) = .int .i64 (S - off) := hT.1 31 22 rfl rfl
    refine Op1.of_run (v := .bool true) (W' := W) (by clear hT hJ hcl hold; go_simp) ⟨Below.refl _ _, hJ, rfl⟩

  case s24 =>
    intro _ L ρ W hLi hcl hold hJ hT
    have q21 : ρ (.tmp 21) = .bool false := hT.1 21 12 rfl rfl
    have q32 : ρ (.tmp 32) = .bool true := hT.1 32 23 rfl rfl
    have qc := hT.2.2.1 (Go.Value.bool true)
    refine Op1.of_run (v := .bool true) (W' := W) (by clear hT hJ hcl hold; go_simp) ⟨Below.refl _ _, hJ, rfl⟩

  case s25 =>
    intro _ L ρ W hLi hcl hold hJ hT
    have q33 : ρ (.tmp 33) = .bool true := hT.1 33 24 rfl rfl
    refine Op1.of_run (v := .bool true) (W' := W) (by clear hT hJ hcl hold; go_simp) ⟨Below.refl _ _, hJ, rfl⟩

  case s26 => intro h; cases h

  case s27 => intro h; cases h

  case s28 => intro h; cases h

  case s29 => intro h; cases h

  case s30 => intro h; cases h

  case s31 => intro h; cases h

  case s32 => intro h; cases h

  case s33 => intro h; cases h

  case s34 => intro h; cases h

  case s35 => intro h; cases h

  case s36 => intro h; cases h

  case s37 => intro h; cases h

  case s38 =>
    intro _ L ρ W hLi hcl hold hJ hT
    have q34 : ρ (.tmp 34) = .bool true := hT.1 34 25 rfl rfl
    have z46 := hT.1 46 37 rfl rfl
    have qc := hT.2.2.1 (Go.Value.bool true)
    refine Op1.of_run (v := .bool true) (W' := W) (by clear hT hJ hcl hold; go_simp) ⟨Below.refl _ _, hJ, rfl⟩

  case s39 =>
    intro _ L ρ W hLi hcl hold hJ hT
    have q47 : ρ (.tmp 47) = .bool true := hT.1 47 38 rfl rfl
    refine Op1.of_run (v := .bool true) (W' := W) (by clear hT hJ hcl hold; go_simp) ⟨Below.refl _ _, hJ, rfl⟩

  case hskip =>
    intro i hi L W hLi hJ
    have hi2 : i = 26 ∨ i = 27 ∨ i = 28 ∨ i = 29 ∨ i = 30 ∨ i = 31 ∨ i = 32 ∨ i = 33 ∨ i = 34 ∨ i = 35 ∨ i = 36 ∨ i = 37 := by simpa using hi
    rcases hi2 with rfl | rfl | rfl | rfl | rfl | rfl | rfl | rfl | rfl | rfl | rfl | rfl <;> exact ⟨hJ, trivial⟩

  case hdone =>
    intro σ L W hL hJ hV
    exact hQ σ W ⟨hJ, hV 39 (by decide)⟩
def Was_r3d_val (g : Nat) (t : ByteArray) (S : Int) (X : Nat) (off : Int) (s : ByteArray) (fin : Bool) : Nat → Value → World → Prop := fun j v W => match j with
  | 0 => v = .pointer (some ⟨X, 0, none⟩)
  | 1 => v = .int .i64 off
  | 2 => v = .bool false
  | 3 => v = .bool false
  | 4 => v = .pointer (some ⟨X, 0, none⟩)
  | 5 => v = .int .i64 off
  | 6 => v = .pointer (some ⟨g, 0, none⟩)
  | 7 => v = .pointer (some ⟨g, 0, none⟩)
  | 8 => v = .pointer (some ⟨g, 1, none⟩)
  | 9 => v = .int .i64 S
  | 10 => v = .bool false
  | 11 => v = .bool false
  | 12 => v = .bool false
  | 13 => v = .pointer (some ⟨X, 1, none⟩)
  | 14 => v = .string s
  | 15 => v = .int .i64 (s.size : Int)
  | 16 => v = .pointer (some ⟨g, 0, none⟩)
  | 17 => v = .pointer (some ⟨g, 0, none⟩)
  | 18 => v = .pointer (some ⟨g, 1, none⟩)
  | 19 => v = .int .i64 S
  | 20 => v = .pointer (some ⟨X, 0, none⟩)
  | 21 => v = .int .i64 off
  | 22 => v = .int .i64 (S - off)
  | 23 => v = .bool false
  | 24 => v = .bool false
  | 25 => v = .bool false
  | 26 => v = .pointer (some ⟨g, 0, none⟩)
  | 27 => v = .pointer (some ⟨g, 0, none⟩)
  | 28 => v = .pointer (some ⟨g, 0, none⟩)
  | 29 => v = .string t
  | 30 => v = .pointer (some ⟨X, 0, none⟩)
  | 31 => v = .int .i64 off
  | 32 => v = .agg #[.int .i64 off, .string s, .bool fin]
  | 33 => v = .int .i64 (off + (s.size : Int))
  | 34 => v = .string (t.extract off.toNat (off + (s.size : Int)).toNat)
  | 35 => v = .pointer (some ⟨X, 1, none⟩)
  | 36 => v = .string s
  | 37 => v = .bool true
  | 38 => v = .bool true
  | 39 => v = .bool true
  | _ => True

set_option maxRecDepth 100000 in
set_option maxHeartbeats 4000000 in
theorem Was_r3d (g : Nat) (t : ByteArray) (S : Int) (X : Nat) (off : Int) (s : ByteArray) (fin : Bool) (t0 : List Value) (d0 : List Deferred) (w : World) (Q : Exit → Act → World → Prop) (hl : t0.length = ws3_tab.length)
    (t0_ : t0[0]? = some (.pointer (some ⟨g, 0, none⟩))) (t3 : t0[3]? = some (.pointer (some ⟨X, 0, none⟩))) (kb0 : w.cell? ⟨g, 0, none⟩ = some (.string t)) (kb1 : w.cell? ⟨g, 1, none⟩ = some (.int .i64 S)) (kx0 : w.cell? ⟨X, 0, none⟩ = some (.int .i64 off)) (kx1 : w.cell? ⟨X, 1, none⟩ = some (.string s)) (kx2 : w.cell? ⟨X, 2, none⟩ = some (.bool fin)) (h1 : ¬ off < 0) (h2 : ¬ S < off) (h3 : ¬ S - off < (s.size : Int)) (hx : ((t.extract off.toNat (off + (s.size : Int)).toNat).toList == s.toList) = false) (hSt : S ≤ (t.size : Int)) (hS : 0 ≤ S ∧ S ≤ 262144)
    (hQ : ∀ σ W, Below w.heap.size w W ∧ σ 39 = .bool true → Q .normal (lazyA (fun _ => true) σ t0 ws3_tab d0) W) :
    (Code.region 3 ws3_ops.toArray true).wp Try.prog Q { tmps := t0.toArray, defers := d0 } w := by
  refine wp_region_valsO (by kernel_rfl) ws3_tab (by kernel_rfl) hl (fun i => [].contains i) (fun i W W' => Below W.heap.size W W') (fun L W => Below w.heap.size w W) (Was_r3d_val g t S X off s fin) (below_drew (Below.refl _ _)) ?hst ⟨⟨(fun j b h => by cases h), fun _ => rfl⟩, ⟨(fun j b h => by cases h), fun _ => rfl⟩, ⟨(fun j b h => by cases h), fun _ => rfl⟩, ⟨(fun j b h => by cases h), fun _ => rfl⟩, ⟨(fun j b h v W hv => by cases h; exact hv), (fun h => by cases h)⟩, ⟨(fun j b h v W hv => by cases h; exact hv), (fun h => by cases h)⟩, ⟨(fun j b h v W hv => by cases h; exact hv), (fun h => by cases h)⟩, ⟨(fun j b h v W hv => by cases h; exact hv), (fun h => by cases h)⟩, ⟨(fun j b h v W hv => by cases h; exact hv), (fun h => by cases h)⟩, ⟨(fun j b h v W hv => by cases h; exact hv), (fun h => by cases h)⟩, ⟨(fun j b h v W hv => by cases h; exact hv), (fun h => by cases h)⟩, ⟨(fun j b h => by cases h), fun _ => rfl⟩, ⟨(fun j b h => by cases h), fun _ => rfl⟩, ⟨(fun j b h v W hv => by cases h; exact hv), (fun h => by cases h)⟩, ⟨(fun j b h v W hv => by cases h; exact hv), (fun h => by cases h)⟩, ⟨(fun j b h v W hv => by cases h; exact hv), (fun h => by cases h)⟩, ⟨(fun j b h v W hv => by cases h; exact hv), (fun h => by cases h)⟩, ⟨(fun j b h v W hv => by cases h; exact hv), (fun h => by cases h)⟩, ⟨(fun j b h v W hv => by cases h; exact hv), (fun h => by cases h)⟩, ⟨(fun j b h v W hv => by cases h; exact hv), (fun h => by cases h)⟩, ⟨(fun j b h v W hv => by cases h; exact hv), (fun h => by cases h)⟩, ⟨(fun j b h v W hv => by cases h; exact hv), (fun h => by cases h)⟩, ⟨(fun j b h v W hv => by cases h; exact hv), (fun h => by cases h)⟩, ⟨(fun j b h v W hv => by cases h; exact hv), (fun h => by cases h)⟩, ⟨(fun j b h => by cases h), fun _ => rfl⟩, ⟨(fun j b h => by cases h), fun _ => rfl⟩, ⟨(fun j b h v W hv => by cases h; exact hv), (fun h => by cases h)⟩, ⟨(fun j b h v W hv => by cases h; exact hv), (fun h => by cases h)⟩, ⟨(fun j b h v W hv => by cases h; exact hv), (fun h => by cases h)⟩, ⟨(fun j b h v W hv => by cases h; exact hv), (fun h => by cases h)⟩, ⟨(fun j b h v W hv => by cases h; exact hv), (fun h => by cases h)⟩, ⟨(fun j b h v W hv => by cases h; exact hv), (fun h => by cases h)⟩, ⟨(fun j b h v W hv => by cases h; exact hv), (fun h => by cases h)⟩, ⟨(fun j b h v W hv => by cases h; exact hv), (fun h => by cases h)⟩, ⟨(fun j b h v W hv => by cases h; exact hv), (fun h => by cases h)⟩, ⟨(fun j b h v W hv => by cases h; exact hv), (fun h => by cases h)⟩, ⟨(fun j b h v W hv => by cases h; exact hv), (fun h => by cases h)⟩, ⟨(fun j b h v W hv => by cases h; exact hv), (fun h => by cases h)⟩, ⟨(fun j b h => by cases h), fun _ => rfl⟩, ⟨(fun j b h => by cases h), fun _ => rfl⟩, trivial⟩ ⟨?s0, ?s1, ?s2, ?s3, ?s4, ?s5, ?s6, ?s7, ?s8, ?s9, ?s10, ?s11, ?s12, ?s13, ?s14, ?s15, ?s16, ?s17, ?s18, ?s19, ?s20, ?s21, ?s22, ?s23, ?s24, ?s25, ?s26, ?s27, ?s28, ?s29, ?s30, ?s31, ?s32, ?s33, ?s34, ?s35, ?s36, ?s37, ?s38, ?s39, trivial⟩ ?hskip ?hdone
  case hst =>
    intro L i j v W W' hLi hLj hne hcl hR h
    match j with
    | 0 => exact h
    | 1 => exact h
    | 2 => exact h
    | 3 => exact h
    | 4 => exact h
    | 5 => exact h
    | 6 => exact h
    | 7 => exact h
    | 8 => exact h
    | 9 => exact h
    | 10 => exact h
    | 11 => exact h
    | 12 => exact h
    | 13 => exact h
    | 14 => exact h
    | 15 => exact h
    | 16 => exact h
    | 17 => exact h
    | 18 => exact h
    | 19 => exact h
    | 20 => exact h
    | 21 => exact h
    | 22 => exact h
    | 23 => exact h
    | 24 => exact h
    | 25 => exact h
    | 26 => exact h
    | 27 => exact h
    | 28 => exact h
    | 29 => exact h
    | 30 => exact h
    | 31 => exact h
    | 32 => exact h
    | 33 => exact h
    | 34 => exact h
    | 35 => exact h
    | 36 => exact h
    | 37 => exact h
    | 38 => exact h
    | 39 => exact h
    | n + 40 => trivial

  case s0 =>
    intro _ L ρ W hLi hcl hold hJ hT
    have q3 := hT.2.1 3 _ t3 rfl
    refine Op1.of_run (v := .pointer (some ⟨X, 0, none⟩)) (W' := W) (by clear hT hJ hcl hold; go_simp) ⟨Below.refl _ _, hJ, rfl⟩

  case s1 =>
    intro _ L ρ W hLi hcl hold hJ hT
    have q9 : ρ (.tmp 9) = .pointer (some ⟨X, 0, none⟩) := hT.1 9 0 rfl rfl
    have cc := (hJ.cell (World.block_lt_of_cell? _ _ kx0)).trans kx0
    refine Op1.of_run (v := .int .i64 off) (W' := W) (by clear hT hJ hcl hold; go_simp) ⟨Below.refl _ _, hJ, rfl⟩

  case s2 =>
    intro _ L ρ W hLi hcl hold hJ hT
    have q10 : ρ (.tmp 10) = .int .i64 off := hT.1 10 1 rfl rfl
    have qc := hT.2.2.1 (Go.Value.int Go.IntKind.i64 0)
    refine Op1.of_run (v := .bool false) (W' := W) (by clear hT hJ hcl hold; go_simp) ⟨Below.refl _ _, hJ, rfl⟩

  case s3 =>
    intro _ L ρ W hLi hcl hold hJ hT
    have q11 : ρ (.tmp 11) = .bool false := hT.1 11 2 rfl rfl
    refine Op1.of_run (v := .bool false) (W' := W) (by clear hT hJ hcl hold; go_simp) ⟨Below.refl _ _, hJ, rfl⟩

  case s4 =>
    intro _ L ρ W hLi hcl hold hJ hT
    have q3 := hT.2.1 3 _ t3 rfl
    refine Op1.of_run (v := .pointer (some ⟨X, 0, none⟩)) (W' := W) (by clear hT hJ hcl hold; go_simp) ⟨Below.refl _ _, hJ, rfl⟩

  case s5 =>
    intro _ L ρ W hLi hcl hold hJ hT
    have q13 : ρ (.tmp 13) = .pointer (some ⟨X, 0, none⟩) := hT.1 13 4 rfl rfl
    have cc := (hJ.cell (World.block_lt_of_cell? _ _ kx0)).trans kx0
    refine Op1.of_run (v := .int .i64 off) (W' := W) (by clear hT hJ hcl hold; go_simp) ⟨Below.refl _ _, hJ, rfl⟩

  case s6 =>
    intro _ L ρ W hLi hcl hold hJ hT
    have q0 := hT.2.1 0 _ t0_ rfl
    refine Op1.of_run (v := .pointer (some ⟨g, 0, none⟩)) (W' := W) (by clear hT hJ hcl hold; go_simp) ⟨Below.refl _ _, hJ, rfl⟩

  case s7 =>
    intro _ L ρ W hLi hcl hold hJ hT
    have q15 : ρ (.tmp 15) = .pointer (some ⟨g, 0, none⟩) := hT.1 15 6 rfl rfl
    refine Op1.of_run (v := .pointer (some ⟨g, 0, none⟩)) (W' := W) (by clear hT hJ hcl hold; go_simp) ⟨Below.refl _ _, hJ, rfl⟩

  case s8 =>
    intro _ L ρ W hLi hcl hold hJ hT
    have q16 : ρ (.tmp 16) = .pointer (some ⟨g, 0, none⟩) := hT.1 16 7 rfl rfl
    refine Op1.of_run (v := .pointer (some ⟨g, 1, none⟩)) (W' := W) (by clear hT hJ hcl hold; go_simp) ⟨Below.refl _ _, hJ, rfl⟩

  case s9 =>
    intro _ L ρ W hLi hcl hold hJ hT
    have q17 : ρ (.tmp 17) = .pointer (some ⟨g, 1, none⟩) := hT.1 17 8 rfl rfl
    have cc := (hJ.cell (World.block_lt_of_cell? _ _ kb1)).trans kb1
    refine Op1.of_run (v := .int .i64 S) (W' := W) (by clear hT hJ hcl hold; go_simp) ⟨Below.refl _ _, hJ, rfl⟩

  case s10 =>
    intro _ L ρ W hLi hcl hold hJ hT
    have q14 : ρ (.tmp 14) = .int .i64 off := hT.1 14 5 rfl rfl
    have q18 : ρ (.tmp 18) = .int .i64 S := hT.1 18 9 rfl rfl
    refine Op1.of_run (v := .bool false) (W' := W) (by clear hT hJ hcl hold; go_simp) ⟨Below.refl _ _, hJ, rfl⟩

  case s11 =>
    intro _ L ρ W hLi hcl hold hJ hT
    have q12 : ρ (.tmp 12) = .bool false := hT.1 12 3 rfl rfl
    have q19 : ρ (.tmp 19) = .bool false := hT.1 19 10 rfl rfl
    have qc := hT.2.2.1 (Go.Value.bool true)
    refine Op1.of_run (v := .bool false) (W' := W) (by clear hT hJ hcl hold; go_simp) ⟨Below.refl _ _, hJ, rfl⟩

  case s12 =>
    intro _ L ρ W hLi hcl hold hJ hT
    have q20 : ρ (.tmp 20) = .bool false := hT.1 20 11 rfl rfl
    refine Op1.of_run (v := .bool false) (W' := W) (by clear hT hJ hcl hold; go_simp) ⟨Below.refl _ _, hJ, rfl⟩

  case s13 =>
    intro _ L ρ W hLi hcl hold hJ hT
    have q3 := hT.2.1 3 _ t3 rfl
    refine Op1.of_run (v := .pointer (some ⟨X, 1, none⟩)) (W' := W) (by clear hT hJ hcl hold; go_simp) ⟨Below.refl _ _, hJ, rfl⟩

  case s14 =>
    intro _ L ρ W hLi hcl hold hJ hT
    have q22 : ρ (.tmp 22) = .pointer (some ⟨X, 1, none⟩) := hT.1 22 13 rfl rfl
    have cc := (hJ.cell (World.block_lt_of_cell? _ _ kx1)).trans kx1
    refine Op1.of_run (v := .string s) (W' := W) (by clear hT hJ hcl hold; go_simp) ⟨Below.refl _ _, hJ, rfl⟩

  case s15 =>
    intro _ L ρ W hLi hcl hold hJ hT
    have q23 : ρ (.tmp 23) = .string s := hT.1 23 14 rfl rfl
    refine Op1.of_run (v := .int .i64 (s.size : Int)) (W' := W) (by clear hT hJ hcl hold; go_simp) ⟨Below.refl _ _, hJ, rfl⟩

  case s16 =>
    intro _ L ρ W hLi hcl hold hJ hT
    have q0 := hT.2.1 0 _ t0_ rfl
    refine Op1.of_run (v := .pointer (some ⟨g, 0, none⟩)) (W' := W) (by clear hT hJ hcl hold; go_simp) ⟨Below.refl _ _, hJ, rfl⟩

  case s17 =>
    intro _ L ρ W hLi hcl hold hJ hT
    have q25 : ρ (.tmp 25) = .pointer (some ⟨g, 0, none⟩) := hT.1 25 16 rfl rfl
    refine Op1.of_run (v := .pointer (some ⟨g, 0, none⟩)) (W' := W) (by clear hT hJ hcl hold; go_simp) ⟨Below.refl _ _, hJ, rfl⟩

  case s18 =>
    intro _ L ρ W hLi hcl hold hJ hT
    have q26 : ρ (.tmp 26) = .pointer (some ⟨g, 0, none⟩) := hT.1 26 17 rfl rfl
    refine Op1.of_run (v := .pointer (some ⟨g, 1, none⟩)) (W' := W) (by clear hT hJ hcl hold; go_simp) ⟨Below.refl _ _, hJ, rfl⟩

  case s19 =>
    intro _ L ρ W hLi hcl hold hJ hT
    have q27 : ρ (.tmp 27) = .pointer (some ⟨g, 1, none⟩) := hT.1 27 18 rfl rfl
    have cc := (hJ.cell (World.block_lt_of_cell? _ _ kb1)).trans kb1
    refine Op1.of_run (v := .int .i64 S) (W' := W) (by clear hT hJ hcl hold; go_simp) ⟨Below.refl _ _, hJ, rfl⟩

  case s20 =>
    intro _ L ρ W hLi hcl hold hJ hT
    have q3 := hT.2.1 3 _ t3 rfl
    refine Op1.of_run (v := .pointer (some ⟨X, 0, none⟩)) (W' := W) (by clear hT hJ hcl hold; go_simp) ⟨Below.refl _ _, hJ, rfl⟩

  case s21 =>
    intro _ L ρ W hLi hcl hold hJ hT
    have q29 : ρ (.tmp 29) = .pointer (some ⟨X, 0, none⟩) := hT.1 29 20 rfl rfl
    have cc := (hJ.cell (World.block_lt_of_cell? _ _ kx0)).trans kx0
    refine Op1.of_run (v := .int .i64 off) (W' := W) (by clear hT hJ hcl hold; go_simp) ⟨Below.refl _ _, hJ, rfl⟩

  case s22 =>
    intro _ L ρ W hLi hcl hold hJ hT
    have q28 : ρ (.tmp 28) = .int .i64 S := hT.1 28 19 rfl rfl
    have q30 : ρ (.tmp 30) = .int .i64 off := hT.1 30 21 rfl rfl
    have e1 : IntKind.i64.wrap (S - off) = S - off := IntWalk.i64_in _ (by omega)
    refine Op1.of_run (v := .int .i64 (S - off)) (W' := W) (by clear hT hJ hcl hold; go_simp) ⟨Below.refl _ _, hJ, rfl⟩

  case s23 =>
    intro _ L ρ W hLi hcl hold hJ hT
    have q24 : ρ (.tmp 24) = .int .i64 (s.size : Int) := hT.1 24 15 rfl rfl
    have q31 : ρ (.tmp 31) = .int .i64 (S - off) := hT.1 31 22 rfl rfl
    refine Op1.of_run (v := .bool false) (W' := W) (by clear hT hJ hcl hold; go_simp) ⟨Below.refl _ _, hJ, rfl⟩

  case s24 =>
    intro _ L ρ W hLi hcl hold hJ hT
    have q21 : ρ (.tmp 21) = .bool false := hT.1 21 12 rfl rfl
    have q32 : ρ (.tmp 32) = .bool false := hT.1 32 23 rfl rfl
    have qc := hT.2.2.1 (Go.Value.bool true)
    refine Op1.of_run (v := .bool false) (W' := W) (by clear hT hJ hcl hold; go_simp) ⟨Below.refl _ _, hJ, rfl⟩

  case s25 =>
    intro _ L ρ W hLi hcl hold hJ hT
    have q33 : ρ (.tmp 33) = .bool false := hT.1 33 24 rfl rfl
    refine Op1.of_run (v := .bool false) (W' := W) (by clear hT hJ hcl hold; go_simp) ⟨Below.refl _ _, hJ, rfl⟩

  case s26 =>
    intro _ L ρ W hLi hcl hold hJ hT
    have q0 := hT.2.1 0 _ t0_ rfl
    refine Op1.of_run (v := .pointer (some ⟨g, 0, none⟩)) (W' := W) (by clear hT hJ hcl hold; go_simp) ⟨Below.refl _ _, hJ, rfl⟩

  case s27 =>
    intro _ L ρ W hLi hcl hold hJ hT
    have q35 : ρ (.tmp 35) = .pointer (some ⟨g, 0, none⟩) := hT.1 35 26 rfl rfl
    refine Op1.of_run (v := .pointer (some ⟨g, 0, none⟩)) (W' := W) (by clear hT hJ hcl hold; go_simp) ⟨Below.refl _ _, hJ, rfl⟩

  case s28 =>
    intro _ L ρ W hLi hcl hold hJ hT
    have q36 : ρ (.tmp 36) = .pointer (some ⟨g, 0, none⟩) := hT.1 36 27 rfl rfl
    refine Op1.of_run (v := .pointer (some ⟨g, 0, none⟩)) (W' := W) (by clear hT hJ hcl hold; go_simp) ⟨Below.refl _ _, hJ, rfl⟩

  case s29 =>
    intro _ L ρ W hLi hcl hold hJ hT
    have q37 : ρ (.tmp 37) = .pointer (some ⟨g, 0, none⟩) := hT.1 37 28 rfl rfl
    have cc := (hJ.cell (World.block_lt_of_cell? _ _ kb0)).trans kb0
    refine Op1.of_run (v := .string t) (W' := W) (by clear hT hJ hcl hold; go_simp) ⟨Below.refl _ _, hJ, rfl⟩

  case s30 =>
    intro _ L ρ W hLi hcl hold hJ hT
    have q3 := hT.2.1 3 _ t3 rfl
    refine Op1.of_run (v := .pointer (some ⟨X, 0, none⟩)) (W' := W) (by clear hT hJ hcl hold; go_simp) ⟨Below.refl _ _, hJ, rfl⟩

  case s31 =>
    intro _ L ρ W hLi hcl hold hJ hT
    have q39 : ρ (.tmp 39) = .pointer (some ⟨X, 0, none⟩) := hT.1 39 30 rfl rfl
    have cc := (hJ.cell (World.block_lt_of_cell? _ _ kx0)).trans kx0
    refine Op1.of_run (v := .int .i64 off) (W' := W) (by clear hT hJ hcl hold; go_simp) ⟨Below.refl _ _, hJ, rfl⟩

  case s32 =>
    intro _ L ρ W hLi hcl hold hJ hT
    have q3 := hT.2.1 3 _ t3 rfl
    have cc0 := (hJ.cell (World.block_lt_of_cell? _ _ kx0)).trans kx0
    have cc1 := (hJ.cell (World.block_lt_of_cell? _ _ kx1)).trans kx1
    have cc2 := (hJ.cell (World.block_lt_of_cell? _ _ kx2)).trans kx2
    refine Op1.of_run (v := .agg #[.int .i64 off, .string s, .bool fin]) (W' := W) (by clear hT hJ hcl hold; go_simp) ⟨Below.refl _ _, hJ, rfl⟩

  case s33 =>
    intro _ L ρ W hLi hcl hold hJ hT
    have q41 : ρ (.tmp 41) = .agg #[.int .i64 off, .string s, .bool fin] := hT.1 41 32 rfl rfl
    have hs : s.size ≤ 4611686018427387903 := by omega
    have qf := hT.2.2.2 63
    refine Op1.of_call (f := 63) (args := #[.agg #[.int .i64 off, .string s, .bool fin]]) (W' := W) (by clear hT hJ hcl hold; go_simp) ?_
    refine (OEnd_calls off s fin _ (by omega) hs).mono ?_
    rintro e2 W2 ⟨rfl, hb⟩
    exact ⟨_, rfl, hb, below_step hJ hb, rfl⟩

  case s34 =>
    intro _ L ρ W hLi hcl hold hJ hT
    have q38 : ρ (.tmp 38) = .string t := hT.1 38 29 rfl rfl
    have q40 : ρ (.tmp 40) = .int .i64 off := hT.1 40 31 rfl rfl
    have q42 : ρ (.tmp 42) = .int .i64 (off + (s.size : Int)) := hT.1 42 33 rfl rfl
    have a1 : off ≤ off + (s.size : Int) := by omega
    have a2 : off + (s.size : Int) ≤ (t.size : Int) := by omega
    have a0 : 0 ≤ off := by omega
    refine Op1.of_run (v := .string (t.extract off.toNat (off + (s.size : Int)).toNat)) (W' := W) (by clear hT hJ hcl hold; go_simp) ⟨Below.refl _ _, hJ, rfl⟩

  case s35 =>
    intro _ L ρ W hLi hcl hold hJ hT
    have q3 := hT.2.1 3 _ t3 rfl
    refine Op1.of_run (v := .pointer (some ⟨X, 1, none⟩)) (W' := W) (by clear hT hJ hcl hold; go_simp) ⟨Below.refl _ _, hJ, rfl⟩

  case s36 =>
    intro _ L ρ W hLi hcl hold hJ hT
    have q44 : ρ (.tmp 44) = .pointer (some ⟨X, 1, none⟩) := hT.1 44 35 rfl rfl
    have cc := (hJ.cell (World.block_lt_of_cell? _ _ kx1)).trans kx1
    refine Op1.of_run (v := .string s) (W' := W) (by clear hT hJ hcl hold; go_simp) ⟨Below.refl _ _, hJ, rfl⟩

  case s37 =>
    intro _ L ρ W hLi hcl hold hJ hT
    have q43 : ρ (.tmp 43) = .string (t.extract off.toNat (off + (s.size : Int)).toNat) := hT.1 43 34 rfl rfl
    have q45 : ρ (.tmp 45) = .string s := hT.1 45 36 rfl rfl
    refine Op1.of_run (v := .bool true) (W' := W) (by clear hT hJ hcl hold; go_simp) ⟨Below.refl _ _, hJ, rfl⟩

  case s38 =>
    intro _ L ρ W hLi hcl hold hJ hT
    have q34 : ρ (.tmp 34) = .bool false := hT.1 34 25 rfl rfl
    have q46 : ρ (.tmp 46) = .bool true := hT.1 46 37 rfl rfl
    have qc := hT.2.2.1 (Go.Value.bool true)
    refine Op1.of_run (v := .bool true) (W' := W) (by clear hT hJ hcl hold; go_simp) ⟨Below.refl _ _, hJ, rfl⟩

  case s39 =>
    intro _ L ρ W hLi hcl hold hJ hT
    have q47 : ρ (.tmp 47) = .bool true := hT.1 47 38 rfl rfl
    refine Op1.of_run (v := .bool true) (W' := W) (by clear hT hJ hcl hold; go_simp) ⟨Below.refl _ _, hJ, rfl⟩

  case hskip => intro i hi; simp at hi

  case hdone =>
    intro σ L W hL hJ hV
    exact hQ σ W ⟨hJ, hV 39 (by decide)⟩
def Was_r3e_val (g : Nat) (t : ByteArray) (S : Int) (X : Nat) (off : Int) (s : ByteArray) (fin : Bool) : Nat → Value → World → Prop := fun j v W => match j with
  | 0 => v = .pointer (some ⟨X, 0, none⟩)
  | 1 => v = .int .i64 off
  | 2 => v = .bool false
  | 3 => v = .bool false
  | 4 => v = .pointer (some ⟨X, 0, none⟩)
  | 5 => v = .int .i64 off
  | 6 => v = .pointer (some ⟨g, 0, none⟩)
  | 7 => v = .pointer (some ⟨g, 0, none⟩)
  | 8 => v = .pointer (some ⟨g, 1, none⟩)
  | 9 => v = .int .i64 S
  | 10 => v = .bool false
  | 11 => v = .bool false
  | 12 => v = .bool false
  | 13 => v = .pointer (some ⟨X, 1, none⟩)
  | 14 => v = .string s
  | 15 => v = .int .i64 (s.size : Int)
  | 16 => v = .pointer (some ⟨g, 0, none⟩)
  | 17 => v = .pointer (some ⟨g, 0, none⟩)
  | 18 => v = .pointer (some ⟨g, 1, none⟩)
  | 19 => v = .int .i64 S
  | 20 => v = .pointer (some ⟨X, 0, none⟩)
  | 21 => v = .int .i64 off
  | 22 => v = .int .i64 (S - off)
  | 23 => v = .bool false
  | 24 => v = .bool false
  | 25 => v = .bool false
  | 26 => v = .pointer (some ⟨g, 0, none⟩)
  | 27 => v = .pointer (some ⟨g, 0, none⟩)
  | 28 => v = .pointer (some ⟨g, 0, none⟩)
  | 29 => v = .string t
  | 30 => v = .pointer (some ⟨X, 0, none⟩)
  | 31 => v = .int .i64 off
  | 32 => v = .agg #[.int .i64 off, .string s, .bool fin]
  | 33 => v = .int .i64 (off + (s.size : Int))
  | 34 => v = .string (t.extract off.toNat (off + (s.size : Int)).toNat)
  | 35 => v = .pointer (some ⟨X, 1, none⟩)
  | 36 => v = .string s
  | 37 => v = .bool false
  | 38 => v = .bool false
  | 39 => v = .bool false
  | _ => True

set_option maxRecDepth 100000 in
set_option maxHeartbeats 4000000 in
theorem Was_r3e (g : Nat) (t : ByteArray) (S : Int) (X : Nat) (off : Int) (s : ByteArray) (fin : Bool) (t0 : List Value) (d0 : List Deferred) (w : World) (Q : Exit → Act → World → Prop) (hl : t0.length = ws3_tab.length)
    (t0_ : t0[0]? = some (.pointer (some ⟨g, 0, none⟩))) (t3 : t0[3]? = some (.pointer (some ⟨X, 0, none⟩))) (kb0 : w.cell? ⟨g, 0, none⟩ = some (.string t)) (kb1 : w.cell? ⟨g, 1, none⟩ = some (.int .i64 S)) (kx0 : w.cell? ⟨X, 0, none⟩ = some (.int .i64 off)) (kx1 : w.cell? ⟨X, 1, none⟩ = some (.string s)) (kx2 : w.cell? ⟨X, 2, none⟩ = some (.bool fin)) (h1 : ¬ off < 0) (h2 : ¬ S < off) (h3 : ¬ S - off < (s.size : Int)) (hx : ((t.extract off.toNat (off + (s.size : Int)).toNat).toList == s.toList) = true) (hSt : S ≤ (t.size : Int)) (hS : 0 ≤ S ∧ S ≤ 262144)
    (hQ : ∀ σ W, Below w.heap.size w W ∧ σ 39 = .bool false → Q .normal (lazyA (fun _ => true) σ t0 ws3_tab d0) W) :
    (Code.region 3 ws3_ops.toArray true).wp Try.prog Q { tmps := t0.toArray, defers := d0 } w := by
  refine wp_region_valsO (by kernel_rfl) ws3_tab (by kernel_rfl) hl (fun i => [].contains i) (fun i W W' => Below W.heap.size W W') (fun L W => Below w.heap.size w W) (Was_r3e_val g t S X off s fin) (below_drew (Below.refl _ _)) ?hst ⟨⟨(fun j b h => by cases h), fun _ => rfl⟩, ⟨(fun j b h => by cases h), fun _ => rfl⟩, ⟨(fun j b h => by cases h), fun _ => rfl⟩, ⟨(fun j b h => by cases h), fun _ => rfl⟩, ⟨(fun j b h v W hv => by cases h; exact hv), (fun h => by cases h)⟩, ⟨(fun j b h v W hv => by cases h; exact hv), (fun h => by cases h)⟩, ⟨(fun j b h v W hv => by cases h; exact hv), (fun h => by cases h)⟩, ⟨(fun j b h v W hv => by cases h; exact hv), (fun h => by cases h)⟩, ⟨(fun j b h v W hv => by cases h; exact hv), (fun h => by cases h)⟩, ⟨(fun j b h v W hv => by cases h; exact hv), (fun h => by cases h)⟩, ⟨(fun j b h v W hv => by cases h; exact hv), (fun h => by cases h)⟩, ⟨(fun j b h => by cases h), fun _ => rfl⟩, ⟨(fun j b h => by cases h), fun _ => rfl⟩, ⟨(fun j b h v W hv => by cases h; exact hv), (fun h => by cases h)⟩, ⟨(fun j b h v W hv => by cases h; exact hv), (fun h => by cases h)⟩, ⟨(fun j b h v W hv => by cases h; exact hv), (fun h => by cases h)⟩, ⟨(fun j b h v W hv => by cases h; exact hv), (fun h => by cases h)⟩, ⟨(fun j b h v W hv => by cases h; exact hv), (fun h => by cases h)⟩, ⟨(fun j b h v W hv => by cases h; exact hv), (fun h => by cases h)⟩, ⟨(fun j b h v W hv => by cases h; exact hv), (fun h => by cases h)⟩, ⟨(fun j b h v W hv => by cases h; exact hv), (fun h => by cases h)⟩, ⟨(fun j b h v W hv => by cases h; exact hv), (fun h => by cases h)⟩, ⟨(fun j b h v W hv => by cases h; exact hv), (fun h => by cases h)⟩, ⟨(fun j b h v W hv => by cases h; exact hv), (fun h => by cases h)⟩, ⟨(fun j b h => by cases h), fun _ => rfl⟩, ⟨(fun j b h => by cases h), fun _ => rfl⟩, ⟨(fun j b h v W hv => by cases h; exact hv), (fun h => by cases h)⟩, ⟨(fun j b h v W hv => by cases h; exact hv), (fun h => by cases h)⟩, ⟨(fun j b h v W hv => by cases h; exact hv), (fun h => by cases h)⟩, ⟨(fun j b h v W hv => by cases h; exact hv), (fun h => by cases h)⟩, ⟨(fun j b h v W hv => by cases h; exact hv), (fun h => by cases h)⟩, ⟨(fun j b h v W hv => by cases h; exact hv), (fun h => by cases h)⟩, ⟨(fun j b h v W hv => by cases h; exact hv), (fun h => by cases h)⟩, ⟨(fun j b h v W hv => by cases h; exact hv), (fun h => by cases h)⟩, ⟨(fun j b h v W hv => by cases h; exact hv), (fun h => by cases h)⟩, ⟨(fun j b h v W hv => by cases h; exact hv), (fun h => by cases h)⟩, ⟨(fun j b h v W hv => by cases h; exact hv), (fun h => by cases h)⟩, ⟨(fun j b h v W hv => by cases h; exact hv), (fun h => by cases h)⟩, ⟨(fun j b h => by cases h), fun _ => rfl⟩, ⟨(fun j b h => by cases h), fun _ => rfl⟩, trivial⟩ ⟨?s0, ?s1, ?s2, ?s3, ?s4, ?s5, ?s6, ?s7, ?s8, ?s9, ?s10, ?s11, ?s12, ?s13, ?s14, ?s15, ?s16, ?s17, ?s18, ?s19, ?s20, ?s21, ?s22, ?s23, ?s24, ?s25, ?s26, ?s27, ?s28, ?s29, ?s30, ?s31, ?s32, ?s33, ?s34, ?s35, ?s36, ?s37, ?s38, ?s39, trivial⟩ ?hskip ?hdone
  case hst =>
    intro L i j v W W' hLi hLj hne hcl hR h
    match j with
    | 0 => exact h
    | 1 => exact h
    | 2 => exact h
    | 3 => exact h
    | 4 => exact h
    | 5 => exact h
    | 6 => exact h
    | 7 => exact h
    | 8 => exact h
    | 9 => exact h
    | 10 => exact h
    | 11 => exact h
    | 12 => exact h
    | 13 => exact h
    | 14 => exact h
    | 15 => exact h
    | 16 => exact h
    | 17 => exact h
    | 18 => exact h
    | 19 => exact h
    | 20 => exact h
    | 21 => exact h
    | 22 => exact h
    | 23 => exact h
    | 24 => exact h
    | 25 => exact h
    | 26 => exact h
    | 27 => exact h
    | 28 => exact h
    | 29 => exact h
    | 30 => exact h
    | 31 => exact h
    | 32 => exact h
    | 33 => exact h
    | 34 => exact h
    | 35 => exact h
    | 36 => exact h
    | 37 => exact h
    | 38 => exact h
    | 39 => exact h
    | n + 40 => trivial

  case s0 =>
    intro _ L ρ W hLi hcl hold hJ hT
    have q3 := hT.2.1 3 _ t3 rfl
    refine Op1.of_run (v := .pointer (some ⟨X, 0, none⟩)) (W' := W) (by clear hT hJ hcl hold; go_simp) ⟨Below.refl _ _, hJ, rfl⟩

  case s1 =>
    intro _ L ρ W hLi hcl hold hJ hT
    have q9 : ρ (.tmp 9) = .pointer (some ⟨X, 0, none⟩) := hT.1 9 0 rfl rfl
    have cc := (hJ.cell (World.block_lt_of_cell? _ _ kx0)).trans kx0
    refine Op1.of_run (v := .int .i64 off) (W' := W) (by clear hT hJ hcl hold; go_simp) ⟨Below.refl _ _, hJ, rfl⟩

  case s2 =>
    intro _ L ρ W hLi hcl hold hJ hT
    have q10 : ρ (.tmp 10) = .int .i64 off := hT.1 10 1 rfl rfl
    have qc := hT.2.2.1 (Go.Value.int Go.IntKind.i64 0)
    refine Op1.of_run (v := .bool false) (W' := W) (by clear hT hJ hcl hold; go_simp) ⟨Below.refl _ _, hJ, rfl⟩

  case s3 =>
    intro _ L ρ W hLi hcl hold hJ hT
    have q11 : ρ (.tmp 11) = .bool false := hT.1 11 2 rfl rfl
    refine Op1.of_run (v := .bool false) (W' := W) (by clear hT hJ hcl hold; go_simp) ⟨Below.refl _ _, hJ, rfl⟩

  case s4 =>
    intro _ L ρ W hLi hcl hold hJ hT
    have q3 := hT.2.1 3 _ t3 rfl
    refine Op1.of_run (v := .pointer (some ⟨X, 0, none⟩)) (W' := W) (by clear hT hJ hcl hold; go_simp) ⟨Below.refl _ _, hJ, rfl⟩

  case s5 =>
    intro _ L ρ W hLi hcl hold hJ hT
    have q13 : ρ (.tmp 13) = .pointer (some ⟨X, 0, none⟩) := hT.1 13 4 rfl rfl
    have cc := (hJ.cell (World.block_lt_of_cell? _ _ kx0)).trans kx0
    refine Op1.of_run (v := .int .i64 off) (W' := W) (by clear hT hJ hcl hold; go_simp) ⟨Below.refl _ _, hJ, rfl⟩

  case s6 =>
    intro _ L ρ W hLi hcl hold hJ hT
    have q0 := hT.2.1 0 _ t0_ rfl
    refine Op1.of_run (v := .pointer (some ⟨g, 0, none⟩)) (W' := W) (by clear hT hJ hcl hold; go_simp) ⟨Below.refl _ _, hJ, rfl⟩

  case s7 =>
    intro _ L ρ W hLi hcl hold hJ hT
    have q15 : ρ (.tmp 15) = .pointer (some ⟨g, 0, none⟩) := hT.1 15 6 rfl rfl
    refine Op1.of_run (v := .pointer (some ⟨g, 0, none⟩)) (W' := W) (by clear hT hJ hcl hold; go_simp) ⟨Below.refl _ _, hJ, rfl⟩

  case s8 =>
    intro _ L ρ W hLi hcl hold hJ hT
    have q16 : ρ (.tmp 16) = .pointer (some ⟨g, 0, none⟩) := hT.1 16 7 rfl rfl
    refine Op1.of_run (v := .pointer (some ⟨g, 1, none⟩)) (W' := W) (by clear hT hJ hcl hold; go_simp) ⟨Below.refl _ _, hJ, rfl⟩

  case s9 =>
    intro _ L ρ W hLi hcl hold hJ hT
    have q17 : ρ (.tmp 17) = .pointer (some ⟨g, 1, none⟩) := hT.1 17 8 rfl rfl
    have cc := (hJ.cell (World.block_lt_of_cell? _ _ kb1)).trans kb1
    refine Op1.of_run (v := .int .i64 S) (W' := W) (by clear hT hJ hcl hold; go_simp) ⟨Below.refl _ _, hJ, rfl⟩

  case s10 =>
    intro _ L ρ W hLi hcl hold hJ hT
    have q14 : ρ (.tmp 14) = .int .i64 off := hT.1 14 5 rfl rfl
    have q18 : ρ (.tmp 18) = .int .i64 S := hT.1 18 9 rfl rfl
    refine Op1.of_run (v := .bool false) (W' := W) (by clear hT hJ hcl hold; go_simp) ⟨Below.refl _ _, hJ, rfl⟩

  case s11 =>
    intro _ L ρ W hLi hcl hold hJ hT
    have q12 : ρ (.tmp 12) = .bool false := hT.1 12 3 rfl rfl
    have q19 : ρ (.tmp 19) = .bool false := hT.1 19 10 rfl rfl
    have qc := hT.2.2.1 (Go.Value.bool true)
    refine Op1.of_run (v := .bool false) (W' := W) (by clear hT hJ hcl hold; go_simp) ⟨Below.refl _ _, hJ, rfl⟩

  case s12 =>
    intro _ L ρ W hLi hcl hold hJ hT
    have q20 : ρ (.tmp 20) = .bool false := hT.1 20 11 rfl rfl
    refine Op1.of_run (v := .bool false) (W' := W) (by clear hT hJ hcl hold; go_simp) ⟨Below.refl _ _, hJ, rfl⟩

  case s13 =>
    intro _ L ρ W hLi hcl hold hJ hT
    have q3 := hT.2.1 3 _ t3 rfl
    refine Op1.of_run (v := .pointer (some ⟨X, 1, none⟩)) (W' := W) (by clear hT hJ hcl hold; go_simp) ⟨Below.refl _ _, hJ, rfl⟩

  case s14 =>
    intro _ L ρ W hLi hcl hold hJ hT
    have q22 : ρ (.tmp 22) = .pointer (some ⟨X, 1, none⟩) := hT.1 22 13 rfl rfl
    have cc := (hJ.cell (World.block_lt_of_cell? _ _ kx1)).trans kx1
    refine Op1.of_run (v := .string s) (W' := W) (by clear hT hJ hcl hold; go_simp) ⟨Below.refl _ _, hJ, rfl⟩

  case s15 =>
    intro _ L ρ W hLi hcl hold hJ hT
    have q23 : ρ (.tmp 23) = .string s := hT.1 23 14 rfl rfl
    refine Op1.of_run (v := .int .i64 (s.size : Int)) (W' := W) (by clear hT hJ hcl hold; go_simp) ⟨Below.refl _ _, hJ, rfl⟩

  case s16 =>
    intro _ L ρ W hLi hcl hold hJ hT
    have q0 := hT.2.1 0 _ t0_ rfl
    refine Op1.of_run (v := .pointer (some ⟨g, 0, none⟩)) (W' := W) (by clear hT hJ hcl hold; go_simp) ⟨Below.refl _ _, hJ, rfl⟩

  case s17 =>
    intro _ L ρ W hLi hcl hold hJ hT
    have q25 : ρ (.tmp 25) = .pointer (some ⟨g, 0, none⟩) := hT.1 25 16 rfl rfl
    refine Op1.of_run (v := .pointer (some ⟨g, 0, none⟩)) (W' := W) (by clear hT hJ hcl hold; go_simp) ⟨Below.refl _ _, hJ, rfl⟩

  case s18 =>
    intro _ L ρ W hLi hcl hold hJ hT
    have q26 : ρ (.tmp 26) = .pointer (some ⟨g, 0, none⟩) := hT.1 26 17 rfl rfl
    refine Op1.of_run (v := .pointer (some ⟨g, 1, none⟩)) (W' := W) (by clear hT hJ hcl hold; go_simp) ⟨Below.refl _ _, hJ, rfl⟩

  case s19 =>
    intro _ L ρ W hLi hcl hold hJ hT
    have q27 : ρ (.tmp 27) = .pointer (some ⟨g, 1, none⟩) := hT.1 27 18 rfl rfl
    have cc := (hJ.cell (World.block_lt_of_cell? _ _ kb1)).trans kb1
    refine Op1.of_run (v := .int .i64 S) (W' := W) (by clear hT hJ hcl hold; go_simp) ⟨Below.refl _ _, hJ, rfl⟩

  case s20 =>
    intro _ L ρ W hLi hcl hold hJ hT
    have q3 := hT.2.1 3 _ t3 rfl
    refine Op1.of_run (v := .pointer (some ⟨X, 0, none⟩)) (W' := W) (by clear hT hJ hcl hold; go_simp) ⟨Below.refl _ _, hJ, rfl⟩

  case s21 =>
    intro _ L ρ W hLi hcl hold hJ hT
    have q29 : ρ (.tmp 29) = .pointer (some ⟨X, 0, none⟩) := hT.1 29 20 rfl rfl
    have cc := (hJ.cell (World.block_lt_of_cell? _ _ kx0)).trans kx0
    refine Op1.of_run (v := .int .i64 off) (W' := W) (by clear hT hJ hcl hold; go_simp) ⟨Below.refl _ _, hJ, rfl⟩

  case s22 =>
    intro _ L ρ W hLi hcl hold hJ hT
    have q28 : ρ (.tmp 28) = .int .i64 S := hT.1 28 19 rfl rfl
    have q30 : ρ (.tmp 30) = .int .i64 off := hT.1 30 21 rfl rfl
    have e1 : IntKind.i64.wrap (S - off) = S - off := IntWalk.i64_in _ (by omega)
    refine Op1.of_run (v := .int .i64 (S - off)) (W' := W) (by clear hT hJ hcl hold; go_simp) ⟨Below.refl _ _, hJ, rfl⟩

  case s23 =>
    intro _ L ρ W hLi hcl hold hJ hT
    have q24 : ρ (.tmp 24) = .int .i64 (s.size : Int) := hT.1 24 15 rfl rfl
    have q31 : ρ (.tmp 31) = .int .i64 (S - off) := hT.1 31 22 rfl rfl
    refine Op1.of_run (v := .bool false) (W' := W) (by clear hT hJ hcl hold; go_simp) ⟨Below.refl _ _, hJ, rfl⟩

  case s24 =>
    intro _ L ρ W hLi hcl hold hJ hT
    have q21 : ρ (.tmp 21) = .bool false := hT.1 21 12 rfl rfl
    have q32 : ρ (.tmp 32) = .bool false := hT.1 32 23 rfl rfl
    have qc := hT.2.2.1 (Go.Value.bool true)
    refine Op1.of_run (v := .bool false) (W' := W) (by clear hT hJ hcl hold; go_simp) ⟨Below.refl _ _, hJ, rfl⟩

  case s25 =>
    intro _ L ρ W hLi hcl hold hJ hT
    have q33 : ρ (.tmp 33) = .bool false := hT.1 33 24 rfl rfl
    refine Op1.of_run (v := .bool false) (W' := W) (by clear hT hJ hcl hold; go_simp) ⟨Below.refl _ _, hJ, rfl⟩

  case s26 =>
    intro _ L ρ W hLi hcl hold hJ hT
    have q0 := hT.2.1 0 _ t0_ rfl
    refine Op1.of_run (v := .pointer (some ⟨g, 0, none⟩)) (W' := W) (by clear hT hJ hcl hold; go_simp) ⟨Below.refl _ _, hJ, rfl⟩

  case s27 =>
    intro _ L ρ W hLi hcl hold hJ hT
    have q35 : ρ (.tmp 35) = .pointer (some ⟨g, 0, none⟩) := hT.1 35 26 rfl rfl
    refine Op1.of_run (v := .pointer (some ⟨g, 0, none⟩)) (W' := W) (by clear hT hJ hcl hold; go_simp) ⟨Below.refl _ _, hJ, rfl⟩

  case s28 =>
    intro _ L ρ W hLi hcl hold hJ hT
    have q36 : ρ (.tmp 36) = .pointer (some ⟨g, 0, none⟩) := hT.1 36 27 rfl rfl
    refine Op1.of_run (v := .pointer (some ⟨g, 0, none⟩)) (W' := W) (by clear hT hJ hcl hold; go_simp) ⟨Below.refl _ _, hJ, rfl⟩

  case s29 =>
    intro _ L ρ W hLi hcl hold hJ hT
    have q37 : ρ (.tmp 37) = .pointer (some ⟨g, 0, none⟩) := hT.1 37 28 rfl rfl
    have cc := (hJ.cell (World.block_lt_of_cell? _ _ kb0)).trans kb0
    refine Op1.of_run (v := .string t) (W' := W) (by clear hT hJ hcl hold; go_simp) ⟨Below.refl _ _, hJ, rfl⟩

  case s30 =>
    intro _ L ρ W hLi hcl hold hJ hT
    have q3 := hT.2.1 3 _ t3 rfl
    refine Op1.of_run (v := .pointer (some ⟨X, 0, none⟩)) (W' := W) (by clear hT hJ hcl hold; go_simp) ⟨Below.refl _ _, hJ, rfl⟩

  case s31 =>
    intro _ L ρ W hLi hcl hold hJ hT
    have q39 : ρ (.tmp 39) = .pointer (some ⟨X, 0, none⟩) := hT.1 39 30 rfl rfl
    have cc := (hJ.cell (World.block_lt_of_cell? _ _ kx0)).trans kx0
    refine Op1.of_run (v := .int .i64 off) (W' := W) (by clear hT hJ hcl hold; go_simp) ⟨Below.refl _ _, hJ, rfl⟩

  case s32 =>
    intro _ L ρ W hLi hcl hold hJ hT
    have q3 := hT.2.1 3 _ t3 rfl
    have cc0 := (hJ.cell (World.block_lt_of_cell? _ _ kx0)).trans kx0
    have cc1 := (hJ.cell (World.block_lt_of_cell? _ _ kx1)).trans kx1
    have cc2 := (hJ.cell (World.block_lt_of_cell? _ _ kx2)).trans kx2
    refine Op1.of_run (v := .agg #[.int .i64 off, .string s, .bool fin]) (W' := W) (by clear hT hJ hcl hold; go_simp) ⟨Below.refl _ _, hJ, rfl⟩

  case s33 =>
    intro _ L ρ W hLi hcl hold hJ hT
    have q41 : ρ (.tmp 41) = .agg #[.int .i64 off, .string s, .bool fin] := hT.1 41 32 rfl rfl
    have hs : s.size ≤ 4611686018427387903 := by omega
    have qf := hT.2.2.2 63
    refine Op1.of_call (f := 63) (args := #[.agg #[.int .i64 off, .string s, .bool fin]]) (W' := W) (by clear hT hJ hcl hold; go_simp) ?_
    refine (OEnd_calls off s fin _ (by omega) hs).mono ?_
    rintro e2 W2 ⟨rfl, hb⟩
    exact ⟨_, rfl, hb, below_step hJ hb, rfl⟩

  case s34 =>
    intro _ L ρ W hLi hcl hold hJ hT
    have q38 : ρ (.tmp 38) = .string t := hT.1 38 29 rfl rfl
    have q40 : ρ (.tmp 40) = .int .i64 off := hT.1 40 31 rfl rfl
    have q42 : ρ (.tmp 42) = .int .i64 (off + (s.size : Int)) := hT.1 42 33 rfl rfl
    have a1 : off ≤ off + (s.size : Int) := by omega
    have a2 : off + (s.size : Int) ≤ (t.size : Int) := by omega
    have a0 : 0 ≤ off := by omega
    refine Op1.of_run (v := .string (t.extract off.toNat (off + (s.size : Int)).toNat)) (W' := W) (by clear hT hJ hcl hold; go_simp) ⟨Below.refl _ _, hJ, rfl⟩

  case s35 =>
    intro _ L ρ W hLi hcl hold hJ hT
    have q3 := hT.2.1 3 _ t3 rfl
    refine Op1.of_run (v := .pointer (some ⟨X, 1, none⟩)) (W' := W) (by clear hT hJ hcl hold; go_simp) ⟨Below.refl _ _, hJ, rfl⟩

  case s36 =>
    intro _ L ρ W hLi hcl hold hJ hT
    have q44 : ρ (.tmp 44) = .pointer (some ⟨X, 1, none⟩) := hT.1 44 35 rfl rfl
    have cc := (hJ.cell (World.block_lt_of_cell? _ _ kx1)).trans kx1
    refine Op1.of_run (v := .string s) (W' := W) (by clear hT hJ hcl hold; go_simp) ⟨Below.refl _ _, hJ, rfl⟩

  case s37 =>
    intro _ L ρ W hLi hcl hold hJ hT
    have q43 : ρ (.tmp 43) = .string (t.extract off.toNat (off + (s.size : Int)).toNat) := hT.1 43 34 rfl rfl
    have q45 : ρ (.tmp 45) = .string s := hT.1 45 36 rfl rfl
    refine Op1.of_run (v := .bool false) (W' := W) (by clear hT hJ hcl hold; go_simp) ⟨Below.refl _ _, hJ, rfl⟩

  case s38 =>
    intro _ L ρ W hLi hcl hold hJ hT
    have q34 : ρ (.tmp 34) = .bool false := hT.1 34 25 rfl rfl
    have q46 : ρ (.tmp 46) = .bool false := hT.1 46 37 rfl rfl
    have qc := hT.2.2.1 (Go.Value.bool true)
    refine Op1.of_run (v := .bool false) (W' := W) (by clear hT hJ hcl hold; go_simp) ⟨Below.refl _ _, hJ, rfl⟩

  case s39 =>
    intro _ L ρ W hLi hcl hold hJ hT
    have q47 : ρ (.tmp 47) = .bool false := hT.1 47 38 rfl rfl
    refine Op1.of_run (v := .bool false) (W' := W) (by clear hT hJ hcl hold; go_simp) ⟨Below.refl _ _, hJ, rfl⟩

  case hskip => intro i hi; simp at hi

  case hdone =>
    intro σ L W hL hJ hV
    exact hQ σ W ⟨hJ, hV 39 (by decide)⟩
abbrev ws5_ops : List Oper := [{ dst := some 49, op := .fieldAddr 52 (.tmp 3) 2, type := 0, pos := "outbox.go:123", after := #[], guard := none },
  { dst := some 50, op := .load 4 (.tmp 49), type := 4, pos := "outbox.go:123", after := #[⟨0, .data⟩], guard := none },
  { dst := some 51, op := .move (.tmp 50), type := 4, pos := "outbox.go:123", after := #[⟨1, .data⟩], guard := none },
  { dst := some 52, op := .move (.tmp 0), type := 37, pos := "outbox.go:123", after := #[⟨2, .guard⟩], guard := some (2, true) },
  { dst := some 53, op := .nilCheck (.tmp 52), type := 0, pos := "outbox.go:123", after := #[⟨3, .data⟩, ⟨2, .guard⟩], guard := some (2, true) },
  { dst := some 54, op := .fieldAddr 114 (.tmp 53) 4, type := 0, pos := "outbox.go:123", after := #[⟨4, .data⟩, ⟨2, .guard⟩], guard := some (2, true) },
  { dst := some 55, op := .fieldAddr 112 (.tmp 54) 1, type := 0, pos := "outbox.go:123", after := #[⟨5, .data⟩, ⟨2, .guard⟩], guard := some (2, true) },
  { dst := some 56, op := .load 4 (.tmp 55), type := 4, pos := "outbox.go:123", after := #[⟨6, .data⟩, ⟨2, .guard⟩], guard := some (2, true) },
  { dst := some 57, op := .unOp .not 4 (.tmp 56), type := 4, pos := "outbox.go:123", after := #[⟨7, .data⟩, ⟨2, .guard⟩], guard := some (2, true) },
  { dst := some 58, op := .move (.tmp 57), type := 4, pos := "outbox.go:123", after := #[⟨8, .data⟩, ⟨2, .chain⟩, ⟨2, .guard⟩], guard := some (2, true) },
  { dst := some 59, op := .load 52 (.tmp 3), type := 52, pos := "outbox.go:123", after := #[⟨9, .guard⟩], guard := some (9, false) },
  { dst := some 60, op := .call { callee := .value (.func 63), args := #[.tmp 59], argTypes := #[52] }, type := 3, pos := "outbox.go:123", after := #[⟨10, .data⟩, ⟨9, .chain⟩, ⟨9, .guard⟩], guard := some (9, false) },
  { dst := some 61, op := .move (.tmp 0), type := 37, pos := "outbox.go:123", after := #[⟨9, .guard⟩], guard := some (9, false) },
  { dst := some 62, op := .nilCheck (.tmp 61), type := 0, pos := "outbox.go:123", after := #[⟨12, .data⟩, ⟨9, .guard⟩], guard := some (9, false) },
  { dst := some 63, op := .fieldAddr 114 (.tmp 62) 0, type := 0, pos := "outbox.go:123", after := #[⟨13, .data⟩, ⟨9, .guard⟩], guard := some (9, false) },
  { dst := some 64, op := .load 9 (.tmp 63), type := 9, pos := "outbox.go:123", after := #[⟨14, .data⟩, ⟨9, .guard⟩], guard := some (9, false) },
  { dst := some 65, op := .call { callee := .builtin .len, args := #[.tmp 64], argTypes := #[9] }, type := 3, pos := "outbox.go:123", after := #[⟨15, .data⟩, ⟨9, .guard⟩], guard := some (9, false) },
  { dst := some 66, op := .binOp .neq 3 (.tmp 60) (.tmp 65) 3, type := 4, pos := "outbox.go:123", after := #[⟨11, .data⟩, ⟨16, .data⟩, ⟨9, .guard⟩], guard := some (9, false) },
  { dst := some 67, op := .pick (.tmp 58) (.const (.bool true)) (.tmp 66), type := 4, pos := "outbox.go:123", after := #[⟨9, .data⟩, ⟨17, .data⟩, ⟨2, .guard⟩], guard := some (2, true) },
  { dst := some 68, op := .pick (.tmp 51) (.tmp 67) (.const (.bool false)), type := 4, pos := "outbox.go:123", after := #[⟨2, .data⟩, ⟨18, .data⟩], guard := none },
  { dst := some 48, op := .assign (.tmp 68), type := 4, pos := "outbox.go:123", after := #[⟨19, .data⟩, ⟨11, .chain⟩], guard := none }]
abbrev ws5_tab : List (Option Nat) := [none, none, none, none, none, none, none, none, none, none, none, none, none, none, none, none, none, none, none, none, none, none, none, none, none, none, none, none, none, none, none, none, none, none, none, none, none, none, none, none, none, none, none, none, none, none, none, none, some 20, some 0, some 1, some 2, some 3, some 4, some 5, some 6, some 7, some 8, some 9, some 10, some 11, some 12, some 13, some 14, some 15, some 16, some 17, some 18, some 19]

def Was_r5a_val (g : Nat) (t : ByteArray) (f2 : Bool) (X : Nat) (off : Int) (s : ByteArray) : Nat → Value → World → Prop := fun j v W => match j with
  | 0 => v = .pointer (some ⟨X, 2, none⟩)
  | 1 => v = .bool false
  | 2 => v = .bool false
  | 3 => v = undef
  | 4 => v = undef
  | 5 => v = undef
  | 6 => v = undef
  | 7 => v = undef
  | 8 => v = undef
  | 9 => v = undef
  | 10 => v = undef
  | 11 => v = undef
  | 12 => v = undef
  | 13 => v = undef
  | 14 => v = undef
  | 15 => v = undef
  | 16 => v = undef
  | 17 => v = undef
  | 18 => v = undef
  | 19 => v = .bool false
  | 20 => v = .bool false
  | _ => True

set_option maxRecDepth 100000 in
set_option maxHeartbeats 4000000 in
theorem Was_r5a (g : Nat) (t : ByteArray) (f2 : Bool) (X : Nat) (off : Int) (s : ByteArray) (t0 : List Value) (d0 : List Deferred) (w : World) (Q : Exit → Act → World → Prop) (hl : t0.length = ws5_tab.length)
    (t0_ : t0[0]? = some (.pointer (some ⟨g, 0, none⟩))) (t3 : t0[3]? = some (.pointer (some ⟨X, 0, none⟩))) (kb0 : w.cell? ⟨g, 0, none⟩ = some (.string t)) (kb5 : w.cell? ⟨g, 5, none⟩ = some (.bool f2)) (kx0 : w.cell? ⟨X, 0, none⟩ = some (.int .i64 off)) (kx1 : w.cell? ⟨X, 1, none⟩ = some (.string s)) (kx2 : w.cell? ⟨X, 2, none⟩ = some (.bool false)) (ho : 0 ≤ off ∧ off ≤ 4611686018427387903) (hs : s.size ≤ 4611686018427387903) 
    (hQ : ∀ σ W, Below w.heap.size w W ∧ σ 20 = .bool false → Q .normal (lazyA (fun _ => true) σ t0 ws5_tab d0) W) :
    (Code.region 5 ws5_ops.toArray true).wp Try.prog Q { tmps := t0.toArray, defers := d0 } w := by
  refine wp_region_valsU (by kernel_rfl) ws5_tab (by kernel_rfl) hl (fun i => [3, 4, 5, 6, 7, 8, 9, 10, 11, 12, 13, 14, 15, 16, 17, 18].contains i) (fun i W W' => Below W.heap.size W W') (fun L W => Below w.heap.size w W) (Was_r5a_val g t f2 X off s) (below_drew (Below.refl _ _)) ?hst ⟨⟨(fun j b h => by cases h), fun _ => rfl⟩, ⟨(fun j b h => by cases h), fun _ => rfl⟩, ⟨(fun j b h => by cases h), fun _ => rfl⟩, ⟨(fun j b h v W hv => by cases h; exact .inl hv), (fun h => by cases h)⟩, ⟨(fun j b h v W hv => by cases h; exact .inl hv), (fun h => by cases h)⟩, ⟨(fun j b h v W hv => by cases h; exact .inl hv), (fun h => by cases h)⟩, ⟨(fun j b h v W hv => by cases h; exact .inl hv), (fun h => by cases h)⟩, ⟨(fun j b h v W hv => by cases h; exact .inl hv), (fun h => by cases h)⟩, ⟨(fun j b h v W hv => by cases h; exact .inl hv), (fun h => by cases h)⟩, ⟨(fun j b h v W hv => by cases h; exact .inl hv), (fun h => by cases h)⟩, ⟨(fun j b h v W hv => by cases h; exact .inr ⟨rfl, hv⟩), (fun h => by cases h)⟩, ⟨(fun j b h v W hv => by cases h; exact .inr ⟨rfl, hv⟩), (fun h => by cases h)⟩, ⟨(fun j b h v W hv => by cases h; exact .inr ⟨rfl, hv⟩), (fun h => by cases h)⟩, ⟨(fun j b h v W hv => by cases h; exact .inr ⟨rfl, hv⟩), (fun h => by cases h)⟩, ⟨(fun j b h v W hv => by cases h; exact .inr ⟨rfl, hv⟩), (fun h => by cases h)⟩, ⟨(fun j b h v W hv => by cases h; exact .inr ⟨rfl, hv⟩), (fun h => by cases h)⟩, ⟨(fun j b h v W hv => by cases h; exact .inr ⟨rfl, hv⟩), (fun h => by cases h)⟩, ⟨(fun j b h v W hv => by cases h; exact .inr ⟨rfl, hv⟩), (fun h => by cases h)⟩, ⟨(fun j b h v W hv => by cases h; exact .inl hv), (fun h => by cases h)⟩, ⟨(fun j b h => by cases h), fun _ => rfl⟩, ⟨(fun j b h => by cases h), fun _ => rfl⟩, trivial⟩ ⟨?s0, ?s1, ?s2, ?s3, ?s4, ?s5, ?s6, ?s7, ?s8, ?s9, ?s10, ?s11, ?s12, ?s13, ?s14, ?s15, ?s16, ?s17, ?s18, ?s19, ?s20, trivial⟩ ?hskip ?hdone
  case hst =>
    intro L i j v W W' hLi hLj hne hcl hR h
    match j with
    | 0 => exact h
    | 1 => exact h
    | 2 => exact h
    | 3 => exact h
    | 4 => exact h
    | 5 => exact h
    | 6 => exact h
    | 7 => exact h
    | 8 => exact h
    | 9 => exact h
    | 10 => exact h
    | 11 => exact h
    | 12 => exact h
    | 13 => exact h
    | 14 => exact h
    | 15 => exact h
    | 16 => exact h
    | 17 => exact h
    | 18 => exact h
    | 19 => exact h
    | 20 => exact h
    | n + 21 => trivial

  case s0 =>
    intro _ L ρ W hLi hcl hold hJ hT
    have q3 := hT.2.1 3 _ t3 rfl
    refine Op1.of_run (v := .pointer (some ⟨X, 2, none⟩)) (W' := W) (by clear hT hJ hcl hold; go_simp) ⟨Below.refl _ _, hJ, rfl⟩

  case s1 =>
    intro _ L ρ W hLi hcl hold hJ hT
    have q49 : ρ (.tmp 49) = .pointer (some ⟨X, 2, none⟩) := hT.1 49 0 rfl rfl
    have cc := (hJ.cell (World.block_lt_of_cell? _ _ kx2)).trans kx2
    refine Op1.of_run (v := .bool false) (W' := W) (by clear hT hJ hcl hold; go_simp) ⟨Below.refl _ _, hJ, rfl⟩

  case s2 =>
    intro _ L ρ W hLi hcl hold hJ hT
    have q50 : ρ (.tmp 50) = .bool false := hT.1 50 1 rfl rfl
    refine Op1.of_run (v := .bool false) (W' := W) (by clear hT hJ hcl hold; go_simp) ⟨Below.refl _ _, hJ, rfl⟩

  case s3 => intro h; cases h

  case s4 => intro h; cases h

  case s5 => intro h; cases h

  case s6 => intro h; cases h

  case s7 => intro h; cases h

  case s8 => intro h; cases h

  case s9 => intro h; cases h

  case s10 => intro h; cases h

  case s11 => intro h; cases h

  case s12 => intro h; cases h

  case s13 => intro h; cases h

  case s14 => intro h; cases h

  case s15 => intro h; cases h

  case s16 => intro h; cases h

  case s17 => intro h; cases h

  case s18 => intro h; cases h

  case s19 =>
    intro _ L ρ W hLi hcl hold hJ hT
    have q51 : ρ (.tmp 51) = .bool false := hT.1 51 2 rfl rfl
    have q67 : ρ (.tmp 67) = undef := hT.1 67 18 rfl rfl
    have qc := hT.2.2.1 (Go.Value.bool false)
    refine Op1.of_run (v := .bool false) (W' := W) (by clear hT hJ hcl hold; go_simp) ⟨Below.refl _ _, hJ, rfl⟩

  case s20 =>
    intro _ L ρ W hLi hcl hold hJ hT
    have q68 : ρ (.tmp 68) = .bool false := hT.1 68 19 rfl rfl
    refine Op1.of_run (v := .bool false) (W' := W) (by clear hT hJ hcl hold; go_simp) ⟨Below.refl _ _, hJ, rfl⟩

  case hskip =>
    intro i hi L W hLi hJ
    have hi2 : i = 3 ∨ i = 4 ∨ i = 5 ∨ i = 6 ∨ i = 7 ∨ i = 8 ∨ i = 9 ∨ i = 10 ∨ i = 11 ∨ i = 12 ∨ i = 13 ∨ i = 14 ∨ i = 15 ∨ i = 16 ∨ i = 17 ∨ i = 18 := by simpa using hi
    rcases hi2 with rfl | rfl | rfl | rfl | rfl | rfl | rfl | rfl | rfl | rfl | rfl | rfl | rfl | rfl | rfl | rfl <;> exact ⟨hJ, rfl⟩

  case hdone =>
    intro σ L W hL hJ hV
    exact hQ σ W ⟨hJ, hV 20 (by decide)⟩
def Was_r5b_val (g : Nat) (t : ByteArray) (X : Nat) (off : Int) (s : ByteArray) : Nat → Value → World → Prop := fun j v W => match j with
  | 0 => v = .pointer (some ⟨X, 2, none⟩)
  | 1 => v = .bool true
  | 2 => v = .bool true
  | 3 => v = .pointer (some ⟨g, 0, none⟩)
  | 4 => v = .pointer (some ⟨g, 0, none⟩)
  | 5 => v = .pointer (some ⟨g, 4, none⟩)
  | 6 => v = .pointer (some ⟨g, 5, none⟩)
  | 7 => v = .bool false
  | 8 => v = .bool true
  | 9 => v = .bool true
  | 10 => True
  | 11 => True
  | 12 => True
  | 13 => True
  | 14 => True
  | 15 => True
  | 16 => True
  | 17 => True
  | 18 => v = .bool true
  | 19 => v = .bool true
  | 20 => v = .bool true
  | _ => True

set_option maxRecDepth 100000 in
set_option maxHeartbeats 4000000 in
theorem Was_r5b (g : Nat) (t : ByteArray) (X : Nat) (off : Int) (s : ByteArray) (t0 : List Value) (d0 : List Deferred) (w : World) (Q : Exit → Act → World → Prop) (hl : t0.length = ws5_tab.length)
    (t0_ : t0[0]? = some (.pointer (some ⟨g, 0, none⟩))) (t3 : t0[3]? = some (.pointer (some ⟨X, 0, none⟩))) (kb0 : w.cell? ⟨g, 0, none⟩ = some (.string t)) (kb5 : w.cell? ⟨g, 5, none⟩ = some (.bool false)) (kx0 : w.cell? ⟨X, 0, none⟩ = some (.int .i64 off)) (kx1 : w.cell? ⟨X, 1, none⟩ = some (.string s)) (kx2 : w.cell? ⟨X, 2, none⟩ = some (.bool true)) (ho : 0 ≤ off ∧ off ≤ 4611686018427387903) (hs : s.size ≤ 4611686018427387903) 
    (hQ : ∀ σ W, Below w.heap.size w W ∧ σ 20 = .bool true → Q .normal (lazyA (fun _ => true) σ t0 ws5_tab d0) W) :
    (Code.region 5 ws5_ops.toArray true).wp Try.prog Q { tmps := t0.toArray, defers := d0 } w := by
  refine wp_region_valsO (by kernel_rfl) ws5_tab (by kernel_rfl) hl (fun i => [10, 11, 12, 13, 14, 15, 16, 17].contains i) (fun i W W' => Below W.heap.size W W') (fun L W => Below w.heap.size w W) (Was_r5b_val g t X off s) (below_drew (Below.refl _ _)) ?hst ⟨⟨(fun j b h => by cases h), fun _ => rfl⟩, ⟨(fun j b h => by cases h), fun _ => rfl⟩, ⟨(fun j b h => by cases h), fun _ => rfl⟩, ⟨(fun j b h v W hv => by cases h; exact hv), (fun h => by cases h)⟩, ⟨(fun j b h v W hv => by cases h; exact hv), (fun h => by cases h)⟩, ⟨(fun j b h v W hv => by cases h; exact hv), (fun h => by cases h)⟩, ⟨(fun j b h v W hv => by cases h; exact hv), (fun h => by cases h)⟩, ⟨(fun j b h v W hv => by cases h; exact hv), (fun h => by cases h)⟩, ⟨(fun j b h v W hv => by cases h; exact hv), (fun h => by cases h)⟩, ⟨(fun j b h v W hv => by cases h; exact hv), (fun h => by cases h)⟩, ⟨(fun j b h v W hv => by cases h; exact hv), (fun h => by cases h)⟩, ⟨(fun j b h v W hv => by cases h; exact hv), (fun h => by cases h)⟩, ⟨(fun j b h v W hv => by cases h; exact hv), (fun h => by cases h)⟩, ⟨(fun j b h v W hv => by cases h; exact hv), (fun h => by cases h)⟩, ⟨(fun j b h v W hv => by cases h; exact hv), (fun h => by cases h)⟩, ⟨(fun j b h v W hv => by cases h; exact hv), (fun h => by cases h)⟩, ⟨(fun j b h v W hv => by cases h; exact hv), (fun h => by cases h)⟩, ⟨(fun j b h v W hv => by cases h; exact hv), (fun h => by cases h)⟩, ⟨(fun j b h v W hv => by cases h; exact hv), (fun h => by cases h)⟩, ⟨(fun j b h => by cases h), fun _ => rfl⟩, ⟨(fun j b h => by cases h), fun _ => rfl⟩, trivial⟩ ⟨?s0, ?s1, ?s2, ?s3, ?s4, ?s5, ?s6, ?s7, ?s8, ?s9, ?s10, ?s11, ?s12, ?s13, ?s14, ?s15, ?s16, ?s17, ?s18, ?s19, ?s20, trivial⟩ ?hskip ?hdone
  case hst =>
    intro L i j v W W' hLi hLj hne hcl hR h
    match j with
    | 0 => exact h
    | 1 => exact h
    | 2 => exact h
    | 3 => exact h
    | 4 => exact h
    | 5 => exact h
    | 6 => exact h
    | 7 => exact h
    | 8 => exact h
    | 9 => exact h
    | 10 => exact h
    | 11 => exact h
    | 12 => exact h
    | 13 => exact h
    | 14 => exact h
    | 15 => exact h
    | 16 => exact h
    | 17 => exact h
    | 18 => exact h
    | 19 => exact h
    | 20 => exact h
    | n + 21 => trivial

  case s0 =>
    intro _ L ρ W hLi hcl hold hJ hT
    have q3 := hT.2.1 3 _ t3 rfl
    refine Op1.of_run (v := .pointer (some ⟨X, 2, none⟩)) (W' := W) (by clear hT hJ hcl hold; go_simp) ⟨Below.refl _ _, hJ, rfl⟩

  case s1 =>
    intro _ L ρ W hLi hcl hold hJ hT
    have q49 : ρ (.tmp 49) = .pointer (some ⟨X, 2, none⟩) := hT.1 49 0 rfl rfl
    have cc := (hJ.cell (World.block_lt_of_cell? _ _ kx2)).trans kx2
    refine Op1.of_run (v := .bool true) (W' := W) (by clear hT hJ hcl hold; go_simp) ⟨Below.refl _ _, hJ, rfl⟩

  case s2 =>
    intro _ L ρ W hLi hcl hold hJ hT
    have q50 : ρ (.tmp 50) = .bool true := hT.1 50 1 rfl rfl
    refine Op1.of_run (v := .bool true) (W' := W) (by clear hT hJ hcl hold; go_simp) ⟨Below.refl _ _, hJ, rfl⟩

  case s3 =>
    intro _ L ρ W hLi hcl hold hJ hT
    have q0 := hT.2.1 0 _ t0_ rfl
    refine Op1.of_run (v := .pointer (some ⟨g, 0, none⟩)) (W' := W) (by clear hT hJ hcl hold; go_simp) ⟨Below.refl _ _, hJ, rfl⟩

  case s4 =>
    intro _ L ρ W hLi hcl hold hJ hT
    have q52 : ρ (.tmp 52) = .pointer (some ⟨g, 0, none⟩) := hT.1 52 3 rfl rfl
    refine Op1.of_run (v := .pointer (some ⟨g, 0, none⟩)) (W' := W) (by clear hT hJ hcl hold; go_simp) ⟨Below.refl _ _, hJ, rfl⟩

  case s5 =>
    intro _ L ρ W hLi hcl hold hJ hT
    have q53 : ρ (.tmp 53) = .pointer (some ⟨g, 0, none⟩) := hT.1 53 4 rfl rfl
    refine Op1.of_run (v := .pointer (some ⟨g, 4, none⟩)) (W' := W) (by clear hT hJ hcl hold; go_simp) ⟨Below.refl _ _, hJ, rfl⟩

  case s6 =>
    intro _ L ρ W hLi hcl hold hJ hT
    have q54 : ρ (.tmp 54) = .pointer (some ⟨g, 4, none⟩) := hT.1 54 5 rfl rfl
    refine Op1.of_run (v := .pointer (some ⟨g, 5, none⟩)) (W' := W) (by clear hT hJ hcl hold; go_simp) ⟨Below.refl _ _, hJ, rfl⟩

  case s7 =>
    intro _ L ρ W hLi hcl hold hJ hT
    have q55 : ρ (.tmp 55) = .pointer (some ⟨g, 5, none⟩) := hT.1 55 6 rfl rfl
    have cc := (hJ.cell (World.block_lt_of_cell? _ _ kb5)).trans kb5
    refine Op1.of_run (v := .bool false) (W' := W) (by clear hT hJ hcl hold; go_simp) ⟨Below.refl _ _, hJ, rfl⟩

  case s8 =>
    intro _ L ρ W hLi hcl hold hJ hT
    have q56 : ρ (.tmp 56) = .bool false := hT.1 56 7 rfl rfl
    refine Op1.of_run (v := .bool true) (W' := W) (by clear hT hJ hcl hold; go_simp) ⟨Below.refl _ _, hJ, rfl⟩

  case s9 =>
    intro _ L ρ W hLi hcl hold hJ hT
    have q57 : ρ (.tmp 57) = .bool true := hT.1 57 8 rfl rfl
    refine Op1.of_run (v := .bool true) (W' := W) (by clear hT hJ hcl hold; go_simp) ⟨Below.refl _ _, hJ, rfl⟩

  case s10 => intro h; cases h

  case s11 => intro h; cases h

  case s12 => intro h; cases h

  case s13 => intro h; cases h

  case s14 => intro h; cases h

  case s15 => intro h; cases h

  case s16 => intro h; cases h

  case s17 => intro h; cases h

  case s18 =>
    intro _ L ρ W hLi hcl hold hJ hT
    have q58 : ρ (.tmp 58) = .bool true := hT.1 58 9 rfl rfl
    have z66 := hT.1 66 17 rfl rfl
    have qc := hT.2.2.1 (Go.Value.bool true)
    refine Op1.of_run (v := .bool true) (W' := W) (by clear hT hJ hcl hold; go_simp) ⟨Below.refl _ _, hJ, rfl⟩

  case s19 =>
    intro _ L ρ W hLi hcl hold hJ hT
    have q51 : ρ (.tmp 51) = .bool true := hT.1 51 2 rfl rfl
    have q67 : ρ (.tmp 67) = .bool true := hT.1 67 18 rfl rfl
    have qc := hT.2.2.1 (Go.Value.bool false)
    refine Op1.of_run (v := .bool true) (W' := W) (by clear hT hJ hcl hold; go_simp) ⟨Below.refl _ _, hJ, rfl⟩

  case s20 =>
    intro _ L ρ W hLi hcl hold hJ hT
    have q68 : ρ (.tmp 68) = .bool true := hT.1 68 19 rfl rfl
    refine Op1.of_run (v := .bool true) (W' := W) (by clear hT hJ hcl hold; go_simp) ⟨Below.refl _ _, hJ, rfl⟩

  case hskip =>
    intro i hi L W hLi hJ
    have hi2 : i = 10 ∨ i = 11 ∨ i = 12 ∨ i = 13 ∨ i = 14 ∨ i = 15 ∨ i = 16 ∨ i = 17 := by simpa using hi
    rcases hi2 with rfl | rfl | rfl | rfl | rfl | rfl | rfl | rfl <;> exact ⟨hJ, trivial⟩

  case hdone =>
    intro σ L W hL hJ hV
    exact hQ σ W ⟨hJ, hV 20 (by decide)⟩
def Was_r5c_val (g : Nat) (t : ByteArray) (X : Nat) (off : Int) (s : ByteArray) : Nat → Value → World → Prop := fun j v W => match j with
  | 0 => v = .pointer (some ⟨X, 2, none⟩)
  | 1 => v = .bool true
  | 2 => v = .bool true
  | 3 => v = .pointer (some ⟨g, 0, none⟩)
  | 4 => v = .pointer (some ⟨g, 0, none⟩)
  | 5 => v = .pointer (some ⟨g, 4, none⟩)
  | 6 => v = .pointer (some ⟨g, 5, none⟩)
  | 7 => v = .bool true
  | 8 => v = .bool false
  | 9 => v = .bool false
  | 10 => v = .agg #[.int .i64 off, .string s, .bool true]
  | 11 => v = .int .i64 (off + (s.size : Int))
  | 12 => v = .pointer (some ⟨g, 0, none⟩)
  | 13 => v = .pointer (some ⟨g, 0, none⟩)
  | 14 => v = .pointer (some ⟨g, 0, none⟩)
  | 15 => v = .string t
  | 16 => v = .int .i64 (t.size : Int)
  | 17 => v = .bool true
  | 18 => v = .bool true
  | 19 => v = .bool true
  | 20 => v = .bool true
  | _ => True

set_option maxRecDepth 100000 in
set_option maxHeartbeats 4000000 in
theorem Was_r5c (g : Nat) (t : ByteArray) (X : Nat) (off : Int) (s : ByteArray) (t0 : List Value) (d0 : List Deferred) (w : World) (Q : Exit → Act → World → Prop) (hl : t0.length = ws5_tab.length)
    (t0_ : t0[0]? = some (.pointer (some ⟨g, 0, none⟩))) (t3 : t0[3]? = some (.pointer (some ⟨X, 0, none⟩))) (kb0 : w.cell? ⟨g, 0, none⟩ = some (.string t)) (kb5 : w.cell? ⟨g, 5, none⟩ = some (.bool true)) (kx0 : w.cell? ⟨X, 0, none⟩ = some (.int .i64 off)) (kx1 : w.cell? ⟨X, 1, none⟩ = some (.string s)) (kx2 : w.cell? ⟨X, 2, none⟩ = some (.bool true)) (ho : 0 ≤ off ∧ off ≤ 4611686018427387903) (hs : s.size ≤ 4611686018427387903) (he : (off + (s.size : Int) != (t.size : Int)) = true)
    (hQ : ∀ σ W, Below w.heap.size w W ∧ σ 20 = .bool true → Q .normal (lazyA (fun _ => true) σ t0 ws5_tab d0) W) :
    (Code.region 5 ws5_ops.toArray true).wp Try.prog Q { tmps := t0.toArray, defers := d0 } w := by
  refine wp_region_valsO (by kernel_rfl) ws5_tab (by kernel_rfl) hl (fun i => [].contains i) (fun i W W' => Below W.heap.size W W') (fun L W => Below w.heap.size w W) (Was_r5c_val g t X off s) (below_drew (Below.refl _ _)) ?hst ⟨⟨(fun j b h => by cases h), fun _ => rfl⟩, ⟨(fun j b h => by cases h), fun _ => rfl⟩, ⟨(fun j b h => by cases h), fun _ => rfl⟩, ⟨(fun j b h v W hv => by cases h; exact hv), (fun h => by cases h)⟩, ⟨(fun j b h v W hv => by cases h; exact hv), (fun h => by cases h)⟩, ⟨(fun j b h v W hv => by cases h; exact hv), (fun h => by cases h)⟩, ⟨(fun j b h v W hv => by cases h; exact hv), (fun h => by cases h)⟩, ⟨(fun j b h v W hv => by cases h; exact hv), (fun h => by cases h)⟩, ⟨(fun j b h v W hv => by cases h; exact hv), (fun h => by cases h)⟩, ⟨(fun j b h v W hv => by cases h; exact hv), (fun h => by cases h)⟩, ⟨(fun j b h v W hv => by cases h; exact hv), (fun h => by cases h)⟩, ⟨(fun j b h v W hv => by cases h; exact hv), (fun h => by cases h)⟩, ⟨(fun j b h v W hv => by cases h; exact hv), (fun h => by cases h)⟩, ⟨(fun j b h v W hv => by cases h; exact hv), (fun h => by cases h)⟩, ⟨(fun j b h v W hv => by cases h; exact hv), (fun h => by cases h)⟩, ⟨(fun j b h v W hv => by cases h; exact hv), (fun h => by cases h)⟩, ⟨(fun j b h v W hv => by cases h; exact hv), (fun h => by cases h)⟩, ⟨(fun j b h v W hv => by cases h; exact hv), (fun h => by cases h)⟩, ⟨(fun j b h v W hv => by cases h; exact hv), (fun h => by cases h)⟩, ⟨(fun j b h => by cases h), fun _ => rfl⟩, ⟨(fun j b h => by cases h), fun _ => rfl⟩, trivial⟩ ⟨?s0, ?s1, ?s2, ?s3, ?s4, ?s5, ?s6, ?s7, ?s8, ?s9, ?s10, ?s11, ?s12, ?s13, ?s14, ?s15, ?s16, ?s17, ?s18, ?s19, ?s20, trivial⟩ ?hskip ?hdone
  case hst =>
    intro L i j v W W' hLi hLj hne hcl hR h
    match j with
    | 0 => exact h
    | 1 => exact h
    | 2 => exact h
    | 3 => exact h
    | 4 => exact h
    | 5 => exact h
    | 6 => exact h
    | 7 => exact h
    | 8 => exact h
    | 9 => exact h
    | 10 => exact h
    | 11 => exact h
    | 12 => exact h
    | 13 => exact h
    | 14 => exact h
    | 15 => exact h
    | 16 => exact h
    | 17 => exact h
    | 18 => exact h
    | 19 => exact h
    | 20 => exact h
    | n + 21 => trivial

  case s0 =>
    intro _ L ρ W hLi hcl hold hJ hT
    have q3 := hT.2.1 3 _ t3 rfl
    refine Op1.of_run (v := .pointer (some ⟨X, 2, none⟩)) (W' := W) (by clear hT hJ hcl hold; go_simp) ⟨Below.refl _ _, hJ, rfl⟩

  case s1 =>
    intro _ L ρ W hLi hcl hold hJ hT
    have q49 : ρ (.tmp 49) = .pointer (some ⟨X, 2, none⟩) := hT.1 49 0 rfl rfl
    have cc := (hJ.cell (World.block_lt_of_cell? _ _ kx2)).trans kx2
    refine Op1.of_run (v := .bool true) (W' := W) (by clear hT hJ hcl hold; go_simp) ⟨Below.refl _ _, hJ, rfl⟩

  case s2 =>
    intro _ L ρ W hLi hcl hold hJ hT
    have q50 : ρ (.tmp 50) = .bool true := hT.1 50 1 rfl rfl
    refine Op1.of_run (v := .bool true) (W' := W) (by clear hT hJ hcl hold; go_simp) ⟨Below.refl _ _, hJ, rfl⟩

  case s3 =>
    intro _ L ρ W hLi hcl hold hJ hT
    have q0 := hT.2.1 0 _ t0_ rfl
    refine Op1.of_run (v := .pointer (some ⟨g, 0, none⟩)) (W' := W) (by clear hT hJ hcl hold; go_simp) ⟨Below.refl _ _, hJ, rfl⟩

  case s4 =>
    intro _ L ρ W hLi hcl hold hJ hT
    have q52 : ρ (.tmp 52) = .pointer (some ⟨g, 0, none⟩) := hT.1 52 3 rfl rfl
    refine Op1.of_run (v := .pointer (some ⟨g, 0, none⟩)) (W' := W) (by clear hT hJ hcl hold; go_simp) ⟨Below.refl _ _, hJ, rfl⟩

  case s5 =>
    intro _ L ρ W hLi hcl hold hJ hT
    have q53 : ρ (.tmp 53) = .pointer (some ⟨g, 0, none⟩) := hT.1 53 4 rfl rfl
    refine Op1.of_run (v := .pointer (some ⟨g, 4, none⟩)) (W' := W) (by clear hT hJ hcl hold; go_simp) ⟨Below.refl _ _, hJ, rfl⟩

  case s6 =>
    intro _ L ρ W hLi hcl hold hJ hT
    have q54 : ρ (.tmp 54) = .pointer (some ⟨g, 4, none⟩) := hT.1 54 5 rfl rfl
    refine Op1.of_run (v := .pointer (some ⟨g, 5, none⟩)) (W' := W) (by clear hT hJ hcl hold; go_simp) ⟨Below.refl _ _, hJ, rfl⟩

  case s7 =>
    intro _ L ρ W hLi hcl hold hJ hT
    have q55 : ρ (.tmp 55) = .pointer (some ⟨g, 5, none⟩) := hT.1 55 6 rfl rfl
    have cc := (hJ.cell (World.block_lt_of_cell? _ _ kb5)).trans kb5
    refine Op1.of_run (v := .bool true) (W' := W) (by clear hT hJ hcl hold; go_simp) ⟨Below.refl _ _, hJ, rfl⟩

  case s8 =>
    intro _ L ρ W hLi hcl hold hJ hT
    have q56 : ρ (.tmp 56) = .bool true := hT.1 56 7 rfl rfl
    refine Op1.of_run (v := .bool false) (W' := W) (by clear hT hJ hcl hold; go_simp) ⟨Below.refl _ _, hJ, rfl⟩

  case s9 =>
    intro _ L ρ W hLi hcl hold hJ hT
    have q57 : ρ (.tmp 57) = .bool false := hT.1 57 8 rfl rfl
    refine Op1.of_run (v := .bool false) (W' := W) (by clear hT hJ hcl hold; go_simp) ⟨Below.refl _ _, hJ, rfl⟩

  case s10 =>
    intro _ L ρ W hLi hcl hold hJ hT
    have q3 := hT.2.1 3 _ t3 rfl
    have cc0 := (hJ.cell (World.block_lt_of_cell? _ _ kx0)).trans kx0
    have cc1 := (hJ.cell (World.block_lt_of_cell? _ _ kx1)).trans kx1
    have cc2 := (hJ.cell (World.block_lt_of_cell? _ _ kx2)).trans kx2
    refine Op1.of_run (v := .agg #[.int .i64 off, .string s, .bool true]) (W' := W) (by clear hT hJ hcl hold; go_simp) ⟨Below.refl _ _, hJ, rfl⟩

  case s11 =>
    intro _ L ρ W hLi hcl hold hJ hT
    have q59 : ρ (.tmp 59) = .agg #[.int .i64 off, .string s, .bool true] := hT.1 59 10 rfl rfl
    have qf := hT.2.2.2 63
    refine Op1.of_call (f := 63) (args := #[.agg #[.int .i64 off, .string s, .bool true]]) (W' := W) (by clear hT hJ hcl hold; go_simp) ?_
    refine (OEnd_calls off s true _ (by omega) hs).mono ?_
    rintro e2 W2 ⟨rfl, hb⟩
    exact ⟨_, rfl, hb, below_step hJ hb, rfl⟩

  case s12 =>
    intro _ L ρ W hLi hcl hold hJ hT
    have q0 := hT.2.1 0 _ t0_ rfl
    refine Op1.of_run (v := .pointer (some ⟨g, 0, none⟩)) (W' := W) (by clear hT hJ hcl hold; go_simp) ⟨Below.refl _ _, hJ, rfl⟩

  case s13 =>
    intro _ L ρ W hLi hcl hold hJ hT
    have q61 : ρ (.tmp 61) = .pointer (some ⟨g, 0, none⟩) := hT.1 61 12 rfl rfl
    refine Op1.of_run (v := .pointer (some ⟨g, 0, none⟩)) (W' := W) (by clear hT hJ hcl hold; go_simp) ⟨Below.refl _ _, hJ, rfl⟩

  case s14 =>
    intro _ L ρ W hLi hcl hold hJ hT
    have q62 : ρ (.tmp 62) = .pointer (some ⟨g, 0, none⟩) := hT.1 62 13 rfl rfl
    refine Op1.of_run (v := .pointer (some ⟨g, 0, none⟩)) (W' := W) (by clear hT hJ hcl hold; go_simp) ⟨Below.refl _ _, hJ, rfl⟩

  case s15 =>
    intro _ L ρ W hLi hcl hold hJ hT
    have q63 : ρ (.tmp 63) = .pointer (some ⟨g, 0, none⟩) := hT.1 63 14 rfl rfl
    have cc := (hJ.cell (World.block_lt_of_cell? _ _ kb0)).trans kb0
    refine Op1.of_run (v := .string t) (W' := W) (by clear hT hJ hcl hold; go_simp) ⟨Below.refl _ _, hJ, rfl⟩

  case s16 =>
    intro _ L ρ W hLi hcl hold hJ hT
    have q64 : ρ (.tmp 64) = .string t := hT.1 64 15 rfl rfl
    refine Op1.of_run (v := .int .i64 (t.size : Int)) (W' := W) (by clear hT hJ hcl hold; go_simp) ⟨Below.refl _ _, hJ, rfl⟩

  case s17 =>
    intro _ L ρ W hLi hcl hold hJ hT
    have q60 : ρ (.tmp 60) = .int .i64 (off + (s.size : Int)) := hT.1 60 11 rfl rfl
    have q65 : ρ (.tmp 65) = .int .i64 (t.size : Int) := hT.1 65 16 rfl rfl
    refine Op1.of_run (v := .bool true) (W' := W) (by clear hT hJ hcl hold; go_simp) ⟨Below.refl _ _, hJ, rfl⟩

  case s18 =>
    intro _ L ρ W hLi hcl hold hJ hT
    have q58 : ρ (.tmp 58) = .bool false := hT.1 58 9 rfl rfl
    have q66 : ρ (.tmp 66) = .bool true := hT.1 66 17 rfl rfl
    have qc := hT.2.2.1 (Go.Value.bool true)
    refine Op1.of_run (v := .bool true) (W' := W) (by clear hT hJ hcl hold; go_simp) ⟨Below.refl _ _, hJ, rfl⟩

  case s19 =>
    intro _ L ρ W hLi hcl hold hJ hT
    have q51 : ρ (.tmp 51) = .bool true := hT.1 51 2 rfl rfl
    have q67 : ρ (.tmp 67) = .bool true := hT.1 67 18 rfl rfl
    have qc := hT.2.2.1 (Go.Value.bool false)
    refine Op1.of_run (v := .bool true) (W' := W) (by clear hT hJ hcl hold; go_simp) ⟨Below.refl _ _, hJ, rfl⟩

  case s20 =>
    intro _ L ρ W hLi hcl hold hJ hT
    have q68 : ρ (.tmp 68) = .bool true := hT.1 68 19 rfl rfl
    refine Op1.of_run (v := .bool true) (W' := W) (by clear hT hJ hcl hold; go_simp) ⟨Below.refl _ _, hJ, rfl⟩

  case hskip => intro i hi; simp at hi

  case hdone =>
    intro σ L W hL hJ hV
    exact hQ σ W ⟨hJ, hV 20 (by decide)⟩
def Was_r5d_val (g : Nat) (t : ByteArray) (X : Nat) (off : Int) (s : ByteArray) : Nat → Value → World → Prop := fun j v W => match j with
  | 0 => v = .pointer (some ⟨X, 2, none⟩)
  | 1 => v = .bool true
  | 2 => v = .bool true
  | 3 => v = .pointer (some ⟨g, 0, none⟩)
  | 4 => v = .pointer (some ⟨g, 0, none⟩)
  | 5 => v = .pointer (some ⟨g, 4, none⟩)
  | 6 => v = .pointer (some ⟨g, 5, none⟩)
  | 7 => v = .bool true
  | 8 => v = .bool false
  | 9 => v = .bool false
  | 10 => v = .agg #[.int .i64 off, .string s, .bool true]
  | 11 => v = .int .i64 (off + (s.size : Int))
  | 12 => v = .pointer (some ⟨g, 0, none⟩)
  | 13 => v = .pointer (some ⟨g, 0, none⟩)
  | 14 => v = .pointer (some ⟨g, 0, none⟩)
  | 15 => v = .string t
  | 16 => v = .int .i64 (t.size : Int)
  | 17 => v = .bool false
  | 18 => v = .bool false
  | 19 => v = .bool false
  | 20 => v = .bool false
  | _ => True

set_option maxRecDepth 100000 in
set_option maxHeartbeats 4000000 in
theorem Was_r5d (g : Nat) (t : ByteArray) (X : Nat) (off : Int) (s : ByteArray) (t0 : List Value) (d0 : List Deferred) (w : World) (Q : Exit → Act → World → Prop) (hl : t0.length = ws5_tab.length)
    (t0_ : t0[0]? = some (.pointer (some ⟨g, 0, none⟩))) (t3 : t0[3]? = some (.pointer (some ⟨X, 0, none⟩))) (kb0 : w.cell? ⟨g, 0, none⟩ = some (.string t)) (kb5 : w.cell? ⟨g, 5, none⟩ = some (.bool true)) (kx0 : w.cell? ⟨X, 0, none⟩ = some (.int .i64 off)) (kx1 : w.cell? ⟨X, 1, none⟩ = some (.string s)) (kx2 : w.cell? ⟨X, 2, none⟩ = some (.bool true)) (ho : 0 ≤ off ∧ off ≤ 4611686018427387903) (hs : s.size ≤ 4611686018427387903) (he : (off + (s.size : Int) != (t.size : Int)) = false)
    (hQ : ∀ σ W, Below w.heap.size w W ∧ σ 20 = .bool false → Q .normal (lazyA (fun _ => true) σ t0 ws5_tab d0) W) :
    (Code.region 5 ws5_ops.toArray true).wp Try.prog Q { tmps := t0.toArray, defers := d0 } w := by
  refine wp_region_valsO (by kernel_rfl) ws5_tab (by kernel_rfl) hl (fun i => [].contains i) (fun i W W' => Below W.heap.size W W') (fun L W => Below w.heap.size w W) (Was_r5d_val g t X off s) (below_drew (Below.refl _ _)) ?hst ⟨⟨(fun j b h => by cases h), fun _ => rfl⟩, ⟨(fun j b h => by cases h), fun _ => rfl⟩, ⟨(fun j b h => by cases h), fun _ => rfl⟩, ⟨(fun j b h v W hv => by cases h; exact hv), (fun h => by cases h)⟩, ⟨(fun j b h v W hv => by cases h; exact hv), (fun h => by cases h)⟩, ⟨(fun j b h v W hv => by cases h; exact hv), (fun h => by cases h)⟩, ⟨(fun j b h v W hv => by cases h; exact hv), (fun h => by cases h)⟩, ⟨(fun j b h v W hv => by cases h; exact hv), (fun h => by cases h)⟩, ⟨(fun j b h v W hv => by cases h; exact hv), (fun h => by cases h)⟩, ⟨(fun j b h v W hv => by cases h; exact hv), (fun h => by cases h)⟩, ⟨(fun j b h v W hv => by cases h; exact hv), (fun h => by cases h)⟩, ⟨(fun j b h v W hv => by cases h; exact hv), (fun h => by cases h)⟩, ⟨(fun j b h v W hv => by cases h; exact hv), (fun h => by cases h)⟩, ⟨(fun j b h v W hv => by cases h; exact hv), (fun h => by cases h)⟩, ⟨(fun j b h v W hv => by cases h; exact hv), (fun h => by cases h)⟩, ⟨(fun j b h v W hv => by cases h; exact hv), (fun h => by cases h)⟩, ⟨(fun j b h v W hv => by cases h; exact hv), (fun h => by cases h)⟩, ⟨(fun j b h v W hv => by cases h; exact hv), (fun h => by cases h)⟩, ⟨(fun j b h v W hv => by cases h; exact hv), (fun h => by cases h)⟩, ⟨(fun j b h => by cases h), fun _ => rfl⟩, ⟨(fun j b h => by cases h), fun _ => rfl⟩, trivial⟩ ⟨?s0, ?s1, ?s2, ?s3, ?s4, ?s5, ?s6, ?s7, ?s8, ?s9, ?s10, ?s11, ?s12, ?s13, ?s14, ?s15, ?s16, ?s17, ?s18, ?s19, ?s20, trivial⟩ ?hskip ?hdone
  case hst =>
    intro L i j v W W' hLi hLj hne hcl hR h
    match j with
    | 0 => exact h
    | 1 => exact h
    | 2 => exact h
    | 3 => exact h
    | 4 => exact h
    | 5 => exact h
    | 6 => exact h
    | 7 => exact h
    | 8 => exact h
    | 9 => exact h
    | 10 => exact h
    | 11 => exact h
    | 12 => exact h
    | 13 => exact h
    | 14 => exact h
    | 15 => exact h
    | 16 => exact h
    | 17 => exact h
    | 18 => exact h
    | 19 => exact h
    | 20 => exact h
    | n + 21 => trivial

  case s0 =>
    intro _ L ρ W hLi hcl hold hJ hT
    have q3 := hT.2.1 3 _ t3 rfl
    refine Op1.of_run (v := .pointer (some ⟨X, 2, none⟩)) (W' := W) (by clear hT hJ hcl hold; go_simp) ⟨Below.refl _ _, hJ, rfl⟩

  case s1 =>
    intro _ L ρ W hLi hcl hold hJ hT
    have q49 : ρ (.tmp 49) = .pointer (some ⟨X, 2, none⟩) := hT.1 49 0 rfl rfl
    have cc := (hJ.cell (World.block_lt_of_cell? _ _ kx2)).trans kx2
    refine Op1.of_run (v := .bool true) (W' := W) (by clear hT hJ hcl hold; go_simp) ⟨Below.refl _ _, hJ, rfl⟩

  case s2 =>
    intro _ L ρ W hLi hcl hold hJ hT
    have q50 : ρ (.tmp 50) = .bool true := hT.1 50 1 rfl rfl
    refine Op1.of_run (v := .bool true) (W' := W) (by clear hT hJ hcl hold; go_simp) ⟨Below.refl _ _, hJ, rfl⟩

  case s3 =>
    intro _ L ρ W hLi hcl hold hJ hT
    have q0 := hT.2.1 0 _ t0_ rfl
    refine Op1.of_run (v := .pointer (some ⟨g, 0, none⟩)) (W' := W) (by clear hT hJ hcl hold; go_simp) ⟨Below.refl _ _, hJ, rfl⟩

  case s4 =>
    intro _ L ρ W hLi hcl hold hJ hT
    have q52 : ρ (.tmp 52) = .pointer (some ⟨g, 0, none⟩) := hT.1 52 3 rfl rfl
    refine Op1.of_run (v := .pointer (some ⟨g, 0, none⟩)) (W' := W) (by clear hT hJ hcl hold; go_simp) ⟨Below.refl _ _, hJ, rfl⟩

  case s5 =>
    intro _ L ρ W hLi hcl hold hJ hT
    have q53 : ρ (.tmp 53) = .pointer (some ⟨g, 0, none⟩) := hT.1 53 4 rfl rfl
    refine Op1.of_run (v := .pointer (some ⟨g, 4, none⟩)) (W' := W) (by clear hT hJ hcl hold; go_simp) ⟨Below.refl _ _, hJ, rfl⟩

  case s6 =>
    intro _ L ρ W hLi hcl hold hJ hT
    have q54 : ρ (.tmp 54) = .pointer (some ⟨g, 4, none⟩) := hT.1 54 5 rfl rfl
    refine Op1.of_run (v := .pointer (some ⟨g, 5, none⟩)) (W' := W) (by clear hT hJ hcl hold; go_simp) ⟨Below.refl _ _, hJ, rfl⟩

  case s7 =>
    intro _ L ρ W hLi hcl hold hJ hT
    have q55 : ρ (.tmp 55) = .pointer (some ⟨g, 5, none⟩) := hT.1 55 6 rfl rfl
    have cc := (hJ.cell (World.block_lt_of_cell? _ _ kb5)).trans kb5
    refine Op1.of_run (v := .bool true) (W' := W) (by clear hT hJ hcl hold; go_simp) ⟨Below.refl _ _, hJ, rfl⟩

  case s8 =>
    intro _ L ρ W hLi hcl hold hJ hT
    have q56 : ρ (.tmp 56) = .bool true := hT.1 56 7 rfl rfl
    refine Op1.of_run (v := .bool false) (W' := W) (by clear hT hJ hcl hold; go_simp) ⟨Below.refl _ _, hJ, rfl⟩

  case s9 =>
    intro _ L ρ W hLi hcl hold hJ hT
    have q57 : ρ (.tmp 57) = .bool false := hT.1 57 8 rfl rfl
    refine Op1.of_run (v := .bool false) (W' := W) (by clear hT hJ hcl hold; go_simp) ⟨Below.refl _ _, hJ, rfl⟩

  case s10 =>
    intro _ L ρ W hLi hcl hold hJ hT
    have q3 := hT.2.1 3 _ t3 rfl
    have cc0 := (hJ.cell (World.block_lt_of_cell? _ _ kx0)).trans kx0
    have cc1 := (hJ.cell (World.block_lt_of_cell? _ _ kx1)).trans kx1
    have cc2 := (hJ.cell (World.block_lt_of_cell? _ _ kx2)).trans kx2
    refine Op1.of_run (v := .agg #[.int .i64 off, .string s, .bool true]) (W' := W) (by clear hT hJ hcl hold; go_simp) ⟨Below.refl _ _, hJ, rfl⟩

  case s11 =>
    intro _ L ρ W hLi hcl hold hJ hT
    have q59 : ρ (.tmp 59) = .agg #[.int .i64 off, .string s, .bool true] := hT.1 59 10 rfl rfl
    have qf := hT.2.2.2 63
    refine Op1.of_call (f := 63) (args := #[.agg #[.int .i64 off, .string s, .bool true]]) (W' := W) (by clear hT hJ hcl hold; go_simp) ?_
    refine (OEnd_calls off s true _ (by omega) hs).mono ?_
    rintro e2 W2 ⟨rfl, hb⟩
    exact ⟨_, rfl, hb, below_step hJ hb, rfl⟩

  case s12 =>
    intro _ L ρ W hLi hcl hold hJ hT
    have q0 := hT.2.1 0 _ t0_ rfl
    refine Op1.of_run (v := .pointer (some ⟨g, 0, none⟩)) (W' := W) (by clear hT hJ hcl hold; go_simp) ⟨Below.refl _ _, hJ, rfl⟩

  case s13 =>
    intro _ L ρ W hLi hcl hold hJ hT
    have q61 : ρ (.tmp 61) = .pointer (some ⟨g, 0, none⟩) := hT.1 61 12 rfl rfl
    refine Op1.of_run (v := .pointer (some ⟨g, 0, none⟩)) (W' := W) (by clear hT hJ hcl hold; go_simp) ⟨Below.refl _ _, hJ, rfl⟩

  case s14 =>
    intro _ L ρ W hLi hcl hold hJ hT
    have q62 : ρ (.tmp 62) = .pointer (some ⟨g, 0, none⟩) := hT.1 62 13 rfl rfl
    refine Op1.of_run (v := .pointer (some ⟨g, 0, none⟩)) (W' := W) (by clear hT hJ hcl hold; go_simp) ⟨Below.refl _ _, hJ, rfl⟩

  case s15 =>
    intro _ L ρ W hLi hcl hold hJ hT
    have q63 : ρ (.tmp 63) = .pointer (some ⟨g, 0, none⟩) := hT.1 63 14 rfl rfl
    have cc := (hJ.cell (World.block_lt_of_cell? _ _ kb0)).trans kb0
    refine Op1.of_run (v := .string t) (W' := W) (by clear hT hJ hcl hold; go_simp) ⟨Below.refl _ _, hJ, rfl⟩

  case s16 =>
    intro _ L ρ W hLi hcl hold hJ hT
    have q64 : ρ (.tmp 64) = .string t := hT.1 64 15 rfl rfl
    refine Op1.of_run (v := .int .i64 (t.size : Int)) (W' := W) (by clear hT hJ hcl hold; go_simp) ⟨Below.refl _ _, hJ, rfl⟩

  case s17 =>
    intro _ L ρ W hLi hcl hold hJ hT
    have q60 : ρ (.tmp 60) = .int .i64 (off + (s.size : Int)) := hT.1 60 11 rfl rfl
    have q65 : ρ (.tmp 65) = .int .i64 (t.size : Int) := hT.1 65 16 rfl rfl
    refine Op1.of_run (v := .bool false) (W' := W) (by clear hT hJ hcl hold; go_simp) ⟨Below.refl _ _, hJ, rfl⟩

  case s18 =>
    intro _ L ρ W hLi hcl hold hJ hT
    have q58 : ρ (.tmp 58) = .bool false := hT.1 58 9 rfl rfl
    have q66 : ρ (.tmp 66) = .bool false := hT.1 66 17 rfl rfl
    have qc := hT.2.2.1 (Go.Value.bool true)
    refine Op1.of_run (v := .bool false) (W' := W) (by clear hT hJ hcl hold; go_simp) ⟨Below.refl _ _, hJ, rfl⟩

  case s19 =>
    intro _ L ρ W hLi hcl hold hJ hT
    have q51 : ρ (.tmp 51) = .bool true := hT.1 51 2 rfl rfl
    have q67 : ρ (.tmp 67) = .bool false := hT.1 67 18 rfl rfl
    have qc := hT.2.2.1 (Go.Value.bool false)
    refine Op1.of_run (v := .bool false) (W' := W) (by clear hT hJ hcl hold; go_simp) ⟨Below.refl _ _, hJ, rfl⟩

  case s20 =>
    intro _ L ρ W hLi hcl hold hJ hT
    have q68 : ρ (.tmp 68) = .bool false := hT.1 68 19 rfl rfl
    refine Op1.of_run (v := .bool false) (W' := W) (by clear hT hJ hcl hold; go_simp) ⟨Below.refl _ _, hJ, rfl⟩

  case hskip => intro i hi; simp at hi

  case hdone =>
    intro σ L W hL hJ hV
    exact hQ σ W ⟨hJ, hV 20 (by decide)⟩
abbrev dn1_ops : List Oper := [{ dst := some 3, op := .move (.tmp 0), type := 37, pos := "outbox.go:179", after := #[], guard := none },
  { dst := some 4, op := .binOp .neq 37 (.tmp 3) (.const (.pointer none)) 37, type := 4, pos := "outbox.go:179", after := #[⟨0, .data⟩], guard := none },
  { dst := some 5, op := .move (.tmp 4), type := 4, pos := "outbox.go:179", after := #[⟨1, .data⟩], guard := none },
  { dst := some 6, op := .move (.tmp 0), type := 37, pos := "outbox.go:179", after := #[⟨2, .guard⟩], guard := some (2, true) },
  { dst := some 7, op := .nilCheck (.tmp 6), type := 0, pos := "outbox.go:179", after := #[⟨3, .data⟩, ⟨2, .guard⟩], guard := some (2, true) },
  { dst := some 8, op := .fieldAddr 114 (.tmp 7) 4, type := 0, pos := "outbox.go:179", after := #[⟨4, .data⟩, ⟨2, .guard⟩], guard := some (2, true) },
  { dst := some 9, op := .fieldAddr 112 (.tmp 8) 2, type := 0, pos := "outbox.go:179", after := #[⟨5, .data⟩, ⟨2, .guard⟩], guard := some (2, true) },
  { dst := some 10, op := .load 4 (.tmp 9), type := 4, pos := "outbox.go:179", after := #[⟨6, .data⟩, ⟨2, .guard⟩], guard := some (2, true) },
  { dst := some 11, op := .pick (.tmp 5) (.tmp 10) (.const (.bool false)), type := 4, pos := "outbox.go:179", after := #[⟨2, .data⟩, ⟨7, .data⟩], guard := none },
  { dst := some 12, op := .move (.tmp 11), type := 4, pos := "outbox.go:179", after := #[⟨8, .data⟩, ⟨2, .chain⟩], guard := none },
  { dst := some 13, op := .move (.tmp 0), type := 37, pos := "outbox.go:179", after := #[⟨9, .guard⟩], guard := some (9, true) },
  { dst := some 14, op := .nilCheck (.tmp 13), type := 0, pos := "outbox.go:179", after := #[⟨10, .data⟩, ⟨9, .guard⟩], guard := some (9, true) },
  { dst := some 15, op := .fieldAddr 114 (.tmp 14) 2, type := 0, pos := "outbox.go:179", after := #[⟨11, .data⟩, ⟨9, .guard⟩], guard := some (9, true) },
  { dst := some 16, op := .load 70 (.tmp 15), type := 70, pos := "outbox.go:179", after := #[⟨12, .data⟩, ⟨9, .guard⟩], guard := some (9, true) },
  { dst := some 17, op := .call { callee := .value (.func 50), args := #[.tmp 16], argTypes := #[70] }, type := 3, pos := "outbox.go:179", after := #[⟨13, .data⟩, ⟨9, .chain⟩, ⟨9, .guard⟩], guard := some (9, true) },
  { dst := some 18, op := .move (.tmp 0), type := 37, pos := "outbox.go:179", after := #[⟨9, .guard⟩], guard := some (9, true) },
  { dst := some 19, op := .nilCheck (.tmp 18), type := 0, pos := "outbox.go:179", after := #[⟨15, .data⟩, ⟨9, .guard⟩], guard := some (9, true) },
  { dst := some 20, op := .fieldAddr 114 (.tmp 19) 0, type := 0, pos := "outbox.go:179", after := #[⟨16, .data⟩, ⟨9, .guard⟩], guard := some (9, true) },
  { dst := some 21, op := .load 9 (.tmp 20), type := 9, pos := "outbox.go:179", after := #[⟨17, .data⟩, ⟨9, .guard⟩], guard := some (9, true) },
  { dst := some 22, op := .call { callee := .builtin .len, args := #[.tmp 21], argTypes := #[9] }, type := 3, pos := "outbox.go:179", after := #[⟨18, .data⟩, ⟨9, .guard⟩], guard := some (9, true) },
  { dst := some 23, op := .binOp .eql 3 (.tmp 17) (.tmp 22) 3, type := 4, pos := "outbox.go:179", after := #[⟨14, .data⟩, ⟨19, .data⟩, ⟨9, .guard⟩], guard := some (9, true) },
  { dst := some 24, op := .pick (.tmp 12) (.tmp 23) (.const (.bool false)), type := 4, pos := "outbox.go:179", after := #[⟨9, .data⟩, ⟨20, .data⟩], guard := none },
  { dst := some 2, op := .assign (.tmp 24), type := 4, pos := "outbox.go:179", after := #[⟨21, .data⟩, ⟨14, .chain⟩, ⟨0, .phase⟩, ⟨1, .phase⟩, ⟨2, .phase⟩, ⟨3, .phase⟩, ⟨4, .phase⟩, ⟨5, .phase⟩, ⟨6, .phase⟩, ⟨7, .phase⟩, ⟨8, .phase⟩, ⟨9, .phase⟩, ⟨10, .phase⟩, ⟨11, .phase⟩, ⟨12, .phase⟩, ⟨13, .phase⟩, ⟨14, .phase⟩, ⟨15, .phase⟩, ⟨16, .phase⟩, ⟨17, .phase⟩, ⟨18, .phase⟩, ⟨19, .phase⟩, ⟨20, .phase⟩, ⟨21, .phase⟩], guard := none }]
abbrev dn1_tab : List (Option Nat) := [none, none, some 22, some 0, some 1, some 2, some 3, some 4, some 5, some 6, some 7, some 8, some 9, some 10, some 11, some 12, some 13, some 14, some 15, some 16, some 17, some 18, some 19, some 20, some 21]

def Done_r1a_val (g gc : Nat) (t : ByteArray) (C : List S95) : Nat → Value → World → Prop := fun j v W => match j with
  | 0 => v = .pointer (some ⟨g, 0, none⟩)
  | 1 => v = .bool true
  | 2 => v = .bool true
  | 3 => v = .pointer (some ⟨g, 0, none⟩)
  | 4 => v = .pointer (some ⟨g, 0, none⟩)
  | 5 => v = .pointer (some ⟨g, 4, none⟩)
  | 6 => v = .pointer (some ⟨g, 6, none⟩)
  | 7 => v = .bool false
  | 8 => v = .bool false
  | 9 => v = .bool false
  | 10 => True
  | 11 => True
  | 12 => True
  | 13 => True
  | 14 => True
  | 15 => True
  | 16 => True
  | 17 => True
  | 18 => True
  | 19 => True
  | 20 => True
  | 21 => v = .bool false
  | 22 => v = .bool false
  | _ => True

set_option maxRecDepth 100000 in
set_option maxHeartbeats 4000000 in
theorem Done_r1a (g gc : Nat) (t : ByteArray) (C : List S95) (t0 : List Value) (d0 : List Deferred) (w : World) (Q : Exit → Act → World → Prop) (hl : t0.length = dn1_tab.length)
    (t0_ : t0[0]? = some (.pointer (some ⟨g, 0, none⟩))) (kb0 : w.cell? ⟨g, 0, none⟩ = some (.string t)) (kb2 : w.cell? ⟨g, 2, none⟩ = some (.pointer (some ⟨gc, 0, none⟩))) (kb6 : w.cell? ⟨g, 6, none⟩ = some (.bool false)) (h : SetAt w gc C) (hl2 : C.length < 8796093022208)
    (hQ : ∀ σ W, Below w.heap.size w W ∧ σ 22 = .bool false → Q .normal (lazyA (fun _ => true) σ t0 dn1_tab d0) W) :
    (Code.region 1 dn1_ops.toArray true).wp Try.prog Q { tmps := t0.toArray, defers := d0 } w := by
  refine wp_region_valsO (by kernel_rfl) dn1_tab (by kernel_rfl) hl (fun i => [10, 11, 12, 13, 14, 15, 16, 17, 18, 19, 20].contains i) (fun i W W' => Below W.heap.size W W') (fun L W => Below w.heap.size w W) (Done_r1a_val g gc t C) (below_drew (Below.refl _ _)) ?hst ⟨⟨(fun j b h => by cases h), fun _ => rfl⟩, ⟨(fun j b h => by cases h), fun _ => rfl⟩, ⟨(fun j b h => by cases h), fun _ => rfl⟩, ⟨(fun j b h v W hv => by cases h; exact hv), (fun h => by cases h)⟩, ⟨(fun j b h v W hv => by cases h; exact hv), (fun h => by cases h)⟩, ⟨(fun j b h v W hv => by cases h; exact hv), (fun h => by cases h)⟩, ⟨(fun j b h v W hv => by cases h; exact hv), (fun h => by cases h)⟩, ⟨(fun j b h v W hv => by cases h; exact hv), (fun h => by cases h)⟩, ⟨(fun j b h => by cases h), fun _ => rfl⟩, ⟨(fun j b h => by cases h), fun _ => rfl⟩, ⟨(fun j b h v W hv => by cases h; exact hv), (fun h => by cases h)⟩, ⟨(fun j b h v W hv => by cases h; exact hv), (fun h => by cases h)⟩, ⟨(fun j b h v W hv => by cases h; exact hv), (fun h => by cases h)⟩, ⟨(fun j b h v W hv => by cases h; exact hv), (fun h => by cases h)⟩, ⟨(fun j b h v W hv => by cases h; exact hv), (fun h => by cases h)⟩, ⟨(fun j b h v W hv => by cases h; exact hv), (fun h => by cases h)⟩, ⟨(fun j b h v W hv => by cases h; exact hv), (fun h => by cases h)⟩, ⟨(fun j b h v W hv => by cases h; exact hv), (fun h => by cases h)⟩, ⟨(fun j b h v W hv => by cases h; exact hv), (fun h => by cases h)⟩, ⟨(fun j b h v W hv => by cases h; exact hv), (fun h => by cases h)⟩, ⟨(fun j b h v W hv => by cases h; exact hv), (fun h => by cases h)⟩, ⟨(fun j b h => by cases h), fun _ => rfl⟩, ⟨(fun j b h => by cases h), fun _ => rfl⟩, trivial⟩ ⟨?s0, ?s1, ?s2, ?s3, ?s4, ?s5, ?s6, ?s7, ?s8, ?s9, ?s10, ?s11, ?s12, ?s13, ?s14, ?s15, ?s16, ?s17, ?s18, ?s19, ?s20, ?s21, ?s22, trivial⟩ ?hskip ?hdone
  case hst =>
    intro L i j v W W' hLi hLj hne hcl hR h
    match j with
    | 0 => exact h
    | 1 => exact h
    | 2 => exact h
    | 3 => exact h
    | 4 => exact h
    | 5 => exact h
    | 6 => exact h
    | 7 => exact h
    | 8 => exact h
    | 9 => exact h
    | 10 => exact h
    | 11 => exact h
    | 12 => exact h
    | 13 => exact h
    | 14 => exact h
    | 15 => exact h
    | 16 => exact h
    | 17 => exact h
    | 18 => exact h
    | 19 => exact h
    | 20 => exact h
    | 21 => exact h
    | 22 => exact h
    | n + 23 => trivial

  case s0 =>
    intro _ L ρ W hLi hcl hold hJ hT
    have q0 := hT.2.1 0 _ t0_ rfl
    refine Op1.of_run (v := .pointer (some ⟨g, 0, none⟩)) (W' := W) (by clear hT hJ hcl hold; go_simp) ⟨Below.refl _ _, hJ, rfl⟩

  case s1 =>
    intro _ L ρ W hLi hcl hold hJ hT
    have q3 : ρ (.tmp 3) = .pointer (some ⟨g, 0, none⟩) := hT.1 3 0 rfl rfl
    have qc := hT.2.2.1 (Go.Value.pointer none)
    refine Op1.of_run (v := .bool true) (W' := W) (by clear hT hJ hcl hold; go_simp) ⟨Below.refl _ _, hJ, rfl⟩

  case s2 =>
    intro _ L ρ W hLi hcl hold hJ hT
    have q4 : ρ (.tmp 4) = .bool true := hT.1 4 1 rfl rfl
    refine Op1.of_run (v := .bool true) (W' := W) (by clear hT hJ hcl hold; go_simp) ⟨Below.refl _ _, hJ, rfl⟩

  case s3 =>
    intro _ L ρ W hLi hcl hold hJ hT
    have q0 := hT.2.1 0 _ t0_ rfl
    refine Op1.of_run (v := .pointer (some ⟨g, 0, none⟩)) (W' := W) (by clear hT hJ hcl hold; go_simp) ⟨Below.refl _ _, hJ, rfl⟩

  case s4 =>
    intro _ L ρ W hLi hcl hold hJ hT
    have q6 : ρ (.tmp 6) = .pointer (some ⟨g, 0, none⟩) := hT.1 6 3 rfl rfl
    refine Op1.of_run (v := .pointer (some ⟨g, 0, none⟩)) (W' := W) (by clear hT hJ hcl hold; go_simp) ⟨Below.refl _ _, hJ, rfl⟩

  case s5 =>
    intro _ L ρ W hLi hcl hold hJ hT
    have q7 : ρ (.tmp 7) = .pointer (some ⟨g, 0, none⟩) := hT.1 7 4 rfl rfl
    refine Op1.of_run (v := .pointer (some ⟨g, 4, none⟩)) (W' := W) (by clear hT hJ hcl hold; go_simp) ⟨Below.refl _ _, hJ, rfl⟩

  case s6 =>
    intro _ L ρ W hLi hcl hold hJ hT
    have q8 : ρ (.tmp 8) = .pointer (some ⟨g, 4, none⟩) := hT.1 8 5 rfl rfl
    refine Op1.of_run (v := .pointer (some ⟨g, 6, none⟩)) (W' := W) (by clear hT hJ hcl hold; go_simp) ⟨Below.refl _ _, hJ, rfl⟩

  case s7 =>
    intro _ L ρ W hLi hcl hold hJ hT
    have q9 : ρ (.tmp 9) = .pointer (some ⟨g, 6, none⟩) := hT.1 9 6 rfl rfl
    have cc := (hJ.cell (World.block_lt_of_cell? _ _ kb6)).trans kb6
    refine Op1.of_run (v := .bool false) (W' := W) (by clear hT hJ hcl hold; go_simp) ⟨Below.refl _ _, hJ, rfl⟩

  case s8 =>
    intro _ L ρ W hLi hcl hold hJ hT
    have q5 : ρ (.tmp 5) = .bool true := hT.1 5 2 rfl rfl
    have q10 : ρ (.tmp 10) = .bool false := hT.1 10 7 rfl rfl
    have qc := hT.2.2.1 (Go.Value.bool false)
    refine Op1.of_run (v := .bool false) (W' := W) (by clear hT hJ hcl hold; go_simp) ⟨Below.refl _ _, hJ, rfl⟩

  case s9 =>
    intro _ L ρ W hLi hcl hold hJ hT
    have q11 : ρ (.tmp 11) = .bool false := hT.1 11 8 rfl rfl
    refine Op1.of_run (v := .bool false) (W' := W) (by clear hT hJ hcl hold; go_simp) ⟨Below.refl _ _, hJ, rfl⟩

  case s10 => intro h; cases h

  case s11 => intro h; cases h

  case s12 => intro h; cases h

  case s13 => intro h; cases h

  case s14 => intro h; cases h

  case s15 => intro h; cases h

  case s16 => intro h; cases h

  case s17 => intro h; cases h

  case s18 => intro h; cases h

  case s19 => intro h; cases h

  case s20 => intro h; cases h

  case s21 =>
    intro _ L ρ W hLi hcl hold hJ hT
    have q12 : ρ (.tmp 12) = .bool false := hT.1 12 9 rfl rfl
    have z23 := hT.1 23 20 rfl rfl
    have qc := hT.2.2.1 (Go.Value.bool false)
    refine Op1.of_run (v := .bool false) (W' := W) (by clear hT hJ hcl hold; go_simp) ⟨Below.refl _ _, hJ, rfl⟩

  case s22 =>
    intro _ L ρ W hLi hcl hold hJ hT
    have q24 : ρ (.tmp 24) = .bool false := hT.1 24 21 rfl rfl
    refine Op1.of_run (v := .bool false) (W' := W) (by clear hT hJ hcl hold; go_simp) ⟨Below.refl _ _, hJ, rfl⟩

  case hskip =>
    intro i hi L W hLi hJ
    have hi2 : i = 10 ∨ i = 11 ∨ i = 12 ∨ i = 13 ∨ i = 14 ∨ i = 15 ∨ i = 16 ∨ i = 17 ∨ i = 18 ∨ i = 19 ∨ i = 20 := by simpa using hi
    rcases hi2 with rfl | rfl | rfl | rfl | rfl | rfl | rfl | rfl | rfl | rfl | rfl <;> exact ⟨hJ, trivial⟩

  case hdone =>
    intro σ L W hL hJ hV
    exact hQ σ W ⟨hJ, hV 22 (by decide)⟩
def Done_r1b_val (g gc : Nat) (t : ByteArray) (C : List S95) : Nat → Value → World → Prop := fun j v W => match j with
  | 0 => v = .pointer (some ⟨g, 0, none⟩)
  | 1 => v = .bool true
  | 2 => v = .bool true
  | 3 => v = .pointer (some ⟨g, 0, none⟩)
  | 4 => v = .pointer (some ⟨g, 0, none⟩)
  | 5 => v = .pointer (some ⟨g, 4, none⟩)
  | 6 => v = .pointer (some ⟨g, 6, none⟩)
  | 7 => v = .bool true
  | 8 => v = .bool true
  | 9 => v = .bool true
  | 10 => v = .pointer (some ⟨g, 0, none⟩)
  | 11 => v = .pointer (some ⟨g, 0, none⟩)
  | 12 => v = .pointer (some ⟨g, 2, none⟩)
  | 13 => v = .pointer (some ⟨gc, 0, none⟩)
  | 14 => v = .int .i64 (cntF C)
  | 15 => v = .pointer (some ⟨g, 0, none⟩)
  | 16 => v = .pointer (some ⟨g, 0, none⟩)
  | 17 => v = .pointer (some ⟨g, 0, none⟩)
  | 18 => v = .string t
  | 19 => v = .int .i64 (t.size : Int)
  | 20 => v = .bool (cntF C == (t.size : Int))
  | 21 => v = .bool (cntF C == (t.size : Int))
  | 22 => v = .bool (cntF C == (t.size : Int))
  | _ => True

set_option maxRecDepth 100000 in
set_option maxHeartbeats 4000000 in
theorem Done_r1b (g gc : Nat) (t : ByteArray) (C : List S95) (t0 : List Value) (d0 : List Deferred) (w : World) (Q : Exit → Act → World → Prop) (hl : t0.length = dn1_tab.length)
    (t0_ : t0[0]? = some (.pointer (some ⟨g, 0, none⟩))) (kb0 : w.cell? ⟨g, 0, none⟩ = some (.string t)) (kb2 : w.cell? ⟨g, 2, none⟩ = some (.pointer (some ⟨gc, 0, none⟩))) (kb6 : w.cell? ⟨g, 6, none⟩ = some (.bool true)) (h : SetAt w gc C) (hl2 : C.length < 8796093022208)
    (hQ : ∀ σ W, Below w.heap.size w W ∧ σ 22 = .bool (cntF C == (t.size : Int)) → Q .normal (lazyA (fun _ => true) σ t0 dn1_tab d0) W) :
    (Code.region 1 dn1_ops.toArray true).wp Try.prog Q { tmps := t0.toArray, defers := d0 } w := by
  refine wp_region_valsO (by kernel_rfl) dn1_tab (by kernel_rfl) hl (fun i => [].contains i) (fun i W W' => Below W.heap.size W W') (fun L W => Below w.heap.size w W) (Done_r1b_val g gc t C) (below_drew (Below.refl _ _)) ?hst ⟨⟨(fun j b h => by cases h), fun _ => rfl⟩, ⟨(fun j b h => by cases h), fun _ => rfl⟩, ⟨(fun j b h => by cases h), fun _ => rfl⟩, ⟨(fun j b h v W hv => by cases h; exact hv), (fun h => by cases h)⟩, ⟨(fun j b h v W hv => by cases h; exact hv), (fun h => by cases h)⟩, ⟨(fun j b h v W hv => by cases h; exact hv), (fun h => by cases h)⟩, ⟨(fun j b h v W hv => by cases h; exact hv), (fun h => by cases h)⟩, ⟨(fun j b h v W hv => by cases h; exact hv), (fun h => by cases h)⟩, ⟨(fun j b h => by cases h), fun _ => rfl⟩, ⟨(fun j b h => by cases h), fun _ => rfl⟩, ⟨(fun j b h v W hv => by cases h; exact hv), (fun h => by cases h)⟩, ⟨(fun j b h v W hv => by cases h; exact hv), (fun h => by cases h)⟩, ⟨(fun j b h v W hv => by cases h; exact hv), (fun h => by cases h)⟩, ⟨(fun j b h v W hv => by cases h; exact hv), (fun h => by cases h)⟩, ⟨(fun j b h v W hv => by cases h; exact hv), (fun h => by cases h)⟩, ⟨(fun j b h v W hv => by cases h; exact hv), (fun h => by cases h)⟩, ⟨(fun j b h v W hv => by cases h; exact hv), (fun h => by cases h)⟩, ⟨(fun j b h v W hv => by cases h; exact hv), (fun h => by cases h)⟩, ⟨(fun j b h v W hv => by cases h; exact hv), (fun h => by cases h)⟩, ⟨(fun j b h v W hv => by cases h; exact hv), (fun h => by cases h)⟩, ⟨(fun j b h v W hv => by cases h; exact hv), (fun h => by cases h)⟩, ⟨(fun j b h => by cases h), fun _ => rfl⟩, ⟨(fun j b h => by cases h), fun _ => rfl⟩, trivial⟩ ⟨?s0, ?s1, ?s2, ?s3, ?s4, ?s5, ?s6, ?s7, ?s8, ?s9, ?s10, ?s11, ?s12, ?s13, ?s14, ?s15, ?s16, ?s17, ?s18, ?s19, ?s20, ?s21, ?s22, trivial⟩ ?hskip ?hdone
  case hst =>
    intro L i j v W W' hLi hLj hne hcl hR h
    match j with
    | 0 => exact h
    | 1 => exact h
    | 2 => exact h
    | 3 => exact h
    | 4 => exact h
    | 5 => exact h
    | 6 => exact h
    | 7 => exact h
    | 8 => exact h
    | 9 => exact h
    | 10 => exact h
    | 11 => exact h
    | 12 => exact h
    | 13 => exact h
    | 14 => exact h
    | 15 => exact h
    | 16 => exact h
    | 17 => exact h
    | 18 => exact h
    | 19 => exact h
    | 20 => exact h
    | 21 => exact h
    | 22 => exact h
    | n + 23 => trivial

  case s0 =>
    intro _ L ρ W hLi hcl hold hJ hT
    have q0 := hT.2.1 0 _ t0_ rfl
    refine Op1.of_run (v := .pointer (some ⟨g, 0, none⟩)) (W' := W) (by clear hT hJ hcl hold; go_simp) ⟨Below.refl _ _, hJ, rfl⟩

  case s1 =>
    intro _ L ρ W hLi hcl hold hJ hT
    have q3 : ρ (.tmp 3) = .pointer (some ⟨g, 0, none⟩) := hT.1 3 0 rfl rfl
    have qc := hT.2.2.1 (Go.Value.pointer none)
    refine Op1.of_run (v := .bool true) (W' := W) (by clear hT hJ hcl hold; go_simp) ⟨Below.refl _ _, hJ, rfl⟩

  case s2 =>
    intro _ L ρ W hLi hcl hold hJ hT
    have q4 : ρ (.tmp 4) = .bool true := hT.1 4 1 rfl rfl
    refine Op1.of_run (v := .bool true) (W' := W) (by clear hT hJ hcl hold; go_simp) ⟨Below.refl _ _, hJ, rfl⟩

  case s3 =>
    intro _ L ρ W hLi hcl hold hJ hT
    have q0 := hT.2.1 0 _ t0_ rfl
    refine Op1.of_run (v := .pointer (some ⟨g, 0, none⟩)) (W' := W) (by clear hT hJ hcl hold; go_simp) ⟨Below.refl _ _, hJ, rfl⟩

  case s4 =>
    intro _ L ρ W hLi hcl hold hJ hT
    have q6 : ρ (.tmp 6) = .pointer (some ⟨g, 0, none⟩) := hT.1 6 3 rfl rfl
    refine Op1.of_run (v := .pointer (some ⟨g, 0, none⟩)) (W' := W) (by clear hT hJ hcl hold; go_simp) ⟨Below.refl _ _, hJ, rfl⟩

  case s5 =>
    intro _ L ρ W hLi hcl hold hJ hT
    have q7 : ρ (.tmp 7) = .pointer (some ⟨g, 0, none⟩) := hT.1 7 4 rfl rfl
    refine Op1.of_run (v := .pointer (some ⟨g, 4, none⟩)) (W' := W) (by clear hT hJ hcl hold; go_simp) ⟨Below.refl _ _, hJ, rfl⟩

  case s6 =>
    intro _ L ρ W hLi hcl hold hJ hT
    have q8 : ρ (.tmp 8) = .pointer (some ⟨g, 4, none⟩) := hT.1 8 5 rfl rfl
    refine Op1.of_run (v := .pointer (some ⟨g, 6, none⟩)) (W' := W) (by clear hT hJ hcl hold; go_simp) ⟨Below.refl _ _, hJ, rfl⟩

  case s7 =>
    intro _ L ρ W hLi hcl hold hJ hT
    have q9 : ρ (.tmp 9) = .pointer (some ⟨g, 6, none⟩) := hT.1 9 6 rfl rfl
    have cc := (hJ.cell (World.block_lt_of_cell? _ _ kb6)).trans kb6
    refine Op1.of_run (v := .bool true) (W' := W) (by clear hT hJ hcl hold; go_simp) ⟨Below.refl _ _, hJ, rfl⟩

  case s8 =>
    intro _ L ρ W hLi hcl hold hJ hT
    have q5 : ρ (.tmp 5) = .bool true := hT.1 5 2 rfl rfl
    have q10 : ρ (.tmp 10) = .bool true := hT.1 10 7 rfl rfl
    have qc := hT.2.2.1 (Go.Value.bool false)
    refine Op1.of_run (v := .bool true) (W' := W) (by clear hT hJ hcl hold; go_simp) ⟨Below.refl _ _, hJ, rfl⟩

  case s9 =>
    intro _ L ρ W hLi hcl hold hJ hT
    have q11 : ρ (.tmp 11) = .bool true := hT.1 11 8 rfl rfl
    refine Op1.of_run (v := .bool true) (W' := W) (by clear hT hJ hcl hold; go_simp) ⟨Below.refl _ _, hJ, rfl⟩

  case s10 =>
    intro _ L ρ W hLi hcl hold hJ hT
    have q0 := hT.2.1 0 _ t0_ rfl
    refine Op1.of_run (v := .pointer (some ⟨g, 0, none⟩)) (W' := W) (by clear hT hJ hcl hold; go_simp) ⟨Below.refl _ _, hJ, rfl⟩

  case s11 =>
    intro _ L ρ W hLi hcl hold hJ hT
    have q13 : ρ (.tmp 13) = .pointer (some ⟨g, 0, none⟩) := hT.1 13 10 rfl rfl
    refine Op1.of_run (v := .pointer (some ⟨g, 0, none⟩)) (W' := W) (by clear hT hJ hcl hold; go_simp) ⟨Below.refl _ _, hJ, rfl⟩

  case s12 =>
    intro _ L ρ W hLi hcl hold hJ hT
    have q14 : ρ (.tmp 14) = .pointer (some ⟨g, 0, none⟩) := hT.1 14 11 rfl rfl
    refine Op1.of_run (v := .pointer (some ⟨g, 2, none⟩)) (W' := W) (by clear hT hJ hcl hold; go_simp) ⟨Below.refl _ _, hJ, rfl⟩

  case s13 =>
    intro _ L ρ W hLi hcl hold hJ hT
    have q15 : ρ (.tmp 15) = .pointer (some ⟨g, 2, none⟩) := hT.1 15 12 rfl rfl
    have cc := (hJ.cell (World.block_lt_of_cell? _ _ kb2)).trans kb2
    refine Op1.of_run (v := .pointer (some ⟨gc, 0, none⟩)) (W' := W) (by clear hT hJ hcl hold; go_simp) ⟨Below.refl _ _, hJ, rfl⟩

  case s14 =>
    intro _ L ρ W hLi hcl hold hJ hT
    have q16 : ρ (.tmp 16) = .pointer (some ⟨gc, 0, none⟩) := hT.1 16 13 rfl rfl
    have qf := hT.2.2.2 50
    refine Op1.of_call (f := 50) (args := #[.pointer (some ⟨gc, 0, none⟩)]) (W' := W) (by clear hT hJ hcl hold; go_simp) ?_
    refine (Set_Count.calls gc C W (h.below hJ).isSet hl2).mono ?_
    rintro e2 W2 ⟨rfl, hb⟩
    exact ⟨_, rfl, hb, below_step hJ hb, rfl⟩

  case s15 =>
    intro _ L ρ W hLi hcl hold hJ hT
    have q0 := hT.2.1 0 _ t0_ rfl
    refine Op1.of_run (v := .pointer (some ⟨g, 0, none⟩)) (W' := W) (by clear hT hJ hcl hold; go_simp) ⟨Below.refl _ _, hJ, rfl⟩

  case s16 =>
    intro _ L ρ W hLi hcl hold hJ hT
    have q18 : ρ (.tmp 18) = .pointer (some ⟨g, 0, none⟩) := hT.1 18 15 rfl rfl
    refine Op1.of_run (v := .pointer (some ⟨g, 0, none⟩)) (W' := W) (by clear hT hJ hcl hold; go_simp) ⟨Below.refl _ _, hJ, rfl⟩

  case s17 =>
    intro _ L ρ W hLi hcl hold hJ hT
    have q19 : ρ (.tmp 19) = .pointer (some ⟨g, 0, none⟩) := hT.1 19 16 rfl rfl
    refine Op1.of_run (v := .pointer (some ⟨g, 0, none⟩)) (W' := W) (by clear hT hJ hcl hold; go_simp) ⟨Below.refl _ _, hJ, rfl⟩

  case s18 =>
    intro _ L ρ W hLi hcl hold hJ hT
    have q20 : ρ (.tmp 20) = .pointer (some ⟨g, 0, none⟩) := hT.1 20 17 rfl rfl
    have cc := (hJ.cell (World.block_lt_of_cell? _ _ kb0)).trans kb0
    refine Op1.of_run (v := .string t) (W' := W) (by clear hT hJ hcl hold; go_simp) ⟨Below.refl _ _, hJ, rfl⟩

  case s19 =>
    intro _ L ρ W hLi hcl hold hJ hT
    have q21 : ρ (.tmp 21) = .string t := hT.1 21 18 rfl rfl
    refine Op1.of_run (v := .int .i64 (t.size : Int)) (W' := W) (by clear hT hJ hcl hold; go_simp) ⟨Below.refl _ _, hJ, rfl⟩

  case s20 =>
    intro _ L ρ W hLi hcl hold hJ hT
    have q17 : ρ (.tmp 17) = .int .i64 (cntF C) := hT.1 17 14 rfl rfl
    have q22 : ρ (.tmp 22) = .int .i64 (t.size : Int) := hT.1 22 19 rfl rfl
    refine Op1.of_run (v := .bool (cntF C == (t.size : Int))) (W' := W) (by clear hT hJ hcl hold; go_simp) ⟨Below.refl _ _, hJ, rfl⟩

  case s21 =>
    intro _ L ρ W hLi hcl hold hJ hT
    have q12 : ρ (.tmp 12) = .bool true := hT.1 12 9 rfl rfl
    have q23 : ρ (.tmp 23) = .bool (cntF C == (t.size : Int)) := hT.1 23 20 rfl rfl
    have qc := hT.2.2.1 (Go.Value.bool false)
    refine Op1.of_run (v := .bool (cntF C == (t.size : Int))) (W' := W) (by clear hT hJ hcl hold; go_simp) ⟨Below.refl _ _, hJ, rfl⟩

  case s22 =>
    intro _ L ρ W hLi hcl hold hJ hT
    have q24 : ρ (.tmp 24) = .bool (cntF C == (t.size : Int)) := hT.1 24 21 rfl rfl
    refine Op1.of_run (v := .bool (cntF C == (t.size : Int))) (W' := W) (by clear hT hJ hcl hold; go_simp) ⟨Below.refl _ _, hJ, rfl⟩

  case hskip => intro i hi; simp at hi

  case hdone =>
    intro σ L W hL hJ hV
    exact hQ σ W ⟨hJ, hV 22 (by decide)⟩
end Go.Proofs.Ytiladcdogbeomaa.QRangesPlays
