/- Law 17 (ranges): contracts of functions that its statements reach, and plain laws behind them (part 12 of 12). No condition. -/
import Derived.Test.YtiladcdogbeomaaMk
import Derived.Test.YtiladcdogbeomaaWWords
import Derived.Deep.Slices
import Derived.ChangeArms
import Derived.OpenShut
import Derived.DataReads
import Derived.WideShapes
namespace Go.Proofs.Ytiladcdogbeomaa.QRangesPlays
open Go.RowKit Go.Shelf Go.Proofs.YtiladcdogbeomaaW.PrintWords Go.Proofs.YtiladcdogbeomaaW.PrintLast Go.Proofs.YtiladcdogbeomaaW.PrintMore Go.Proofs.Ytiladcdogbeomaa.RowLaws Go.Proofs.Ytiladcdogbeomaa.Lazy
attribute [local go_sem] Oper.semAt_some
theorem add_at (f t : Int) (l l' : List S95) (b : Bool) (hw : wf 0 l) (he : addL f t l = l') (hb : decide (cntF l < cntF l') = b) (g : Nat) (w : World) (hs : SetAt w g l) :
    Calls Try.prog 37 #[.pointer (some ⟨g, 0, none⟩), .int .i64 f, .int .i64 t] w fun e w' => e = .returned (.bool b) ∧ SetAt w' g l' ∧ Only g w w' := by
  subst he
  refine (Add_calls g f t l w hs hw).mono ?_
  rintro e w' ⟨rfl, h1, h2, _⟩
  exact ⟨by rw [hb], h1, h2⟩
theorem R_only {α : Type} {d : Kd α} {e : Nat} {W W' : World} {B g : Nat} {v : Value} {xs : List α} (h : Kd.R d e W B (fun _ => True) v xs) (ho : Only g W W') (hg : g < B) : Kd.R d e W' B (fun _ => True) v xs :=
  Kd.R_mono (Kd.R_step (Kd.R_bound h) (fun k hk hlt => ho.block k hlt (by intro e; injection e with e; have := hk.2.1; omega))) (fun _ _ => trivial)
def two_ : List S95 := [⟨2, 3⟩, ⟨7, 9⟩]
theorem put2 : putTo numL two_ (two_.length - 1) = [9, 1, 2, 2, 1] := by kernel_rfl
theorem get2 : getF 12 [9, 1, 2, 2, 1] = some (two_, 5, 0) := by kernel_rfl
theorem chk2 : ranges_Check.f 4 two_ = some 0 := by kernel_rfl
theorem wf2 : wf 0 two_ := by simp [two_, wf]
theorem ad1 : addL 5 7 [] = [⟨5, 7⟩] := by kernel_rfl
theorem ad2 : addL 9 9 [⟨5, 7⟩] = [⟨5, 7⟩, ⟨9, 9⟩] := by kernel_rfl
theorem ad3 : addL 8 8 [⟨5, 7⟩, ⟨9, 9⟩] = [⟨5, 9⟩] := by kernel_rfl
theorem ad4 : addL 6 9 [⟨5, 9⟩] = [⟨5, 9⟩] := by kernel_rfl
theorem lit2 (W : World) : OwnS (W.alloc (.cells #[.int .i64 2, .int .i64 3, .int .i64 7, .int .i64 9] 95)) W.heap.size (.slice (some ⟨W.heap.size, 0, none⟩) 2 2) two_ :=
  World.ownsRow_lit W _ 2 (Nat.le_refl _) (by unfold maxLen; omega) rfl
theorem cn1 : cntF [⟨5, 9⟩] = 5 := by kernel_rfl
theorem str2 : strOfNums [9, 1, 2, 2, 1] = ⟨#[9, 1, 2, 2, 1]⟩ := by decide
theorem OwnS.reads' {W : World} {B : Nat} {A : Option Addr} {n c : Nat} {xs : List S95} (h : OwnS W B (.slice A n c) xs) : n ≤ c ∧ Kd.C k95 W A n xs := by
  obtain ⟨A2, c2, e, h1, h2⟩ := h.reads
  cases e
  exact ⟨h1, h2⟩
set_option maxRecDepth 100000 in
set_option maxHeartbeats 4000000 in
theorem Awake_calls (w : World) : Calls Try.prog 35 #[] w fun e w' => e = .returned (.bool true) ∧ Below w.heap.size w w' := by
  have HP := Aside0.mk (fun W A (hC : Kd.C k95 W A 2 two_) => Put_calls numL 10 4 numL_all A 2 two_ W hC (Nat.le_refl _) wf2 (by decide) (by decide) chk2)
  rw [put2] at HP
  have HGT := Aside0.mk (fun W A c (hC : Kd.C (Kd.int .u8) W A 5 [9, 1, 2, 2, 1]) (hc : 5 ≤ c) => Get_calls 12 A c [9, 1, 2, 2, 1] two_ 5 0 W hC hc (by decide) get2)
  have HA1 := Aside0.mk (add_at 5 7 [] _ true trivial ad1 (by kernel_rfl))
  have HA2 := Aside0.mk (add_at 9 9 [⟨5, 7⟩] _ true (by simp [wf]) ad2 (by kernel_rfl))
  have HA3 := Aside0.mk (add_at 8 8 [⟨5, 7⟩, ⟨9, 9⟩] _ true (by simp [wf]) ad3 (by kernel_rfl))
  have HA4 := Aside0.mk (add_at 6 9 [⟨5, 9⟩] _ false (by simp [wf]) ad4 (by kernel_rfl))
  have HLN := Aside0.mk (fun g W (hs : SetAt W g [⟨5, 9⟩]) => Set_Len.calls g [⟨5, 9⟩] W hs.isSet (by decide))
  have HCN := Aside0.mk (fun g W (hs : SetAt W g [⟨5, 9⟩]) => Set_Count.calls g [⟨5, 9⟩] W hs.isSet (by decide))
  rw [cn1] at HCN
  have HM : Mk_ 0 := rfl
  go_enter Try.func35, Try.ntmps35
  go_wp2_with (first
    | (have hm_ := (HM : Mk_ 0); clear hm_ HM; have HM : Mk_ 1 := rfl; go_at_call 36; refine (New_calls _).mono ?_; rintro e w2 ⟨g, rfl, hs, hb, hg⟩; have HS2 := Aside0.mk hs; have HB2 := Aside0.mk hb; have HG := Aside0.mk hg; have HL2 := Aside0.mk (lit2 w2); clear hs hb hg)
    | (have hm_ := (HM : Mk_ 1); clear hm_ HM; have HM : Mk_ 2 := rfl; go_at_call 42; refine (HP.out _ _ HL2.out.reads'.2).mono ?_; rintro e w3 ⟨v3, rfl, hr, hb⟩; obtain ⟨A3, c3, rfl, hc3, hC3⟩ := Kd.R_reads hr; have HS3 := Aside0.mk (HS2.out.below ((below_alloc (Below.refl w2.heap.size w2) _).trans (hb.mono (by simp)))); have HB3 := Aside0.mk (below_step (below_step HB2.out (below_alloc (Below.refl _ _) _)) hb); have HR3 := Aside0.mk (Kd.R_lower (base' := g + 1) hr (by have := HS2.out.lt; simp; omega)); have HC3 := Aside0.mk (And.intro hc3 hC3); have HL3 := Aside0.mk (Nat.le_trans (Nat.succ_le_of_lt HS2.out.lt) (Nat.le_trans (Nat.le_succ _) (Nat.le_trans (Nat.le_of_eq (World.size_alloc _ _).symm) hb.size))); clear hr hb hc3 hC3)
    | (have hm_ := (HM : Mk_ 2); clear hm_ HM; have HM : Mk_ 3 := rfl; go_at_call 44; refine (HGT.out _ _ _ HC3.out.2 HC3.out.1).mono ?_; rintro e w4 ⟨v4, rfl, hr, hb⟩; obtain ⟨A4, c4, rfl, hc4, hC4⟩ := Kd.R_reads hr; have HS4 := Aside0.mk (HS3.out.below hb); have HB4 := Aside0.mk (below_step HB3.out hb); have HR4 := Aside0.mk (Kd.R_below HR3.out hb); have HQ4 := Aside0.mk (Kd.R_lower (base' := g + 1) hr HL3.out); clear hr hb hc4 hC4)
    | (have hm_ := (HM : Mk_ 3); clear hm_ HM; have HM : Mk_ 4 := rfl; go_at_call 37; refine (HA1.out _ _ HS4.out).mono ?_; rintro e w5 ⟨rfl, hs, ho⟩; have HS5 := Aside0.mk hs; have HB5 := Aside0.mk (Only.belowN HB4.out ho (Nat.le_of_eq HG.out.symm) HB4.out.size); have HR5 := Aside0.mk (R_only HR4.out ho (Nat.lt_succ_self g)); have HQ5 := Aside0.mk (R_only HQ4.out ho (Nat.lt_succ_self g)); clear hs ho)
    | (have hm_ := (HM : Mk_ 4); clear hm_ HM; have HM : Mk_ 5 := rfl; go_at_call 37; refine (HA2.out _ _ HS5.out).mono ?_; rintro e w6 ⟨rfl, hs, ho⟩; have HS6 := Aside0.mk hs; have HB6 := Aside0.mk (Only.belowN HB5.out ho (Nat.le_of_eq HG.out.symm) HB5.out.size); have HR6 := Aside0.mk (R_only HR5.out ho (Nat.lt_succ_self g)); have HQ6 := Aside0.mk (R_only HQ5.out ho (Nat.lt_succ_self g)); clear hs ho)
    | (have hm_ := (HM : Mk_ 5); clear hm_ HM; have HM : Mk_ 6 := rfl; go_at_call 37; refine (HA3.out _ _ HS6.out).mono ?_; rintro e w7 ⟨rfl, hs, ho⟩; have HS7 := Aside0.mk hs; have HB7 := Aside0.mk (Only.belowN HB6.out ho (Nat.le_of_eq HG.out.symm) HB6.out.size); have HR7 := Aside0.mk (R_only HR6.out ho (Nat.lt_succ_self g)); have HQ7 := Aside0.mk (R_only HQ6.out ho (Nat.lt_succ_self g)); clear hs ho)
    | (have hm_ := (HM : Mk_ 6); clear hm_ HM; have HM : Mk_ 7 := rfl; go_at_call 37; refine (HA4.out _ _ HS7.out).mono ?_; rintro e w8 ⟨rfl, hs, ho⟩; have HS8 := Aside0.mk hs; have HB8 := Aside0.mk (Only.belowN HB7.out ho (Nat.le_of_eq HG.out.symm) HB7.out.size); have HR8 := Aside0.mk (R_only HR7.out ho (Nat.lt_succ_self g)); have HQ8 := Aside0.mk (R_only HQ7.out ho (Nat.lt_succ_self g)); clear hs ho)
    | (have hm_ := (HM : Mk_ 7); clear hm_ HM; have HM : Mk_ 8 := rfl; go_at_call 43; refine (HLN.out _ _ HS8.out).mono ?_; rintro e w9 ⟨rfl, hb⟩; have HS9 := Aside0.mk (HS8.out.below hb); have HB9 := Aside0.mk (below_step HB8.out hb); have HR9 := Aside0.mk (Kd.R_below HR8.out hb); have HQ9 := Aside0.mk (Kd.R_below HQ8.out hb); clear hb)
    | (have hm_ := (HM : Mk_ 8); clear hm_ HM; have HM : Mk_ 9 := rfl; go_at_call 50; refine (HCN.out _ _ HS9.out).mono ?_; rintro e wt ⟨rfl, hb⟩; have HBt := Aside0.mk (below_step HB9.out hb); have HRt := Aside0.mk (Kd.R_below HR9.out hb); have HQt := Aside0.mk (Kd.R_below HQ9.out hb); have hcv : (convert 23 9 (.slice A3 5 c3)).run Try.prog wt = .ok (.string ⟨#[9, 1, 2, 2, 1]⟩) wt := (by rw [← str2]; exact Kd.C_string (P := Try.prog) (src := 23) (dst := 9) Try.underlying23 Try.underlying5 Try.underlying9 (Kd.R_reads' HRt.out).2.2); clear hb)
    | (have hm_ := (HM : Mk_ 9); clear hm_ HM; have HM : Mk_ 10 := rfl; go_at_call 38; refine (RefSame_calls two_ _ rfl rfl (Kd.C_below (Kd.R_reads' HQt.out).2.2 (below_alloc (Below.refl _ _) _)) (lit2 wt).reads'.2 (Kd.R_reads' HQt.out).2.1 (Nat.le_refl _) (by decide)).mono ?_; rintro e wu ⟨rfl, hb⟩; have HBu := Aside0.mk (below_step (below_step HBt.out (below_alloc (Below.refl _ _) _)) hb); clear hb))
  go_ret
  exact ⟨rfl, HBu.out⟩
end Go.Proofs.Ytiladcdogbeomaa.QRangesPlays

set_option linter.unusedVariables false
namespace Go.Proofs.Ytiladcdogbeomaa.Opens
open Go.RowKit Go.ChangeShapes Go.WideShapes Go.Proofs.YtiladcdogbeomaaW.PrintWords

/-- Whatever reads as a datum of type t holds a value of kind k for which ok holds. -/
def Opens {α : Type} (P : Program) (t : TypeId) (k : Kd α) (ok : α → Prop) : Prop :=
  ∀ (H : Type) (enc : TypeId × Value → H) (W : World) (base : Nat) (spare : Nat → Bool) (held : Bool) (fuel : Nat) (cs : List Value) (x : DataW H × List MemPlace),
    DataW.trod enc P W base spare held fuel t cs = some x → ∃ y : α, k.K W y cs ∧ ok y

theorem opens_int {P : Program} {t : TypeId} {k : IntKind} (ht : P.underlying t = some (.int k)) : Opens P t (Kd.int k) (fun n => (Lit.int k n).wf = true) := by
  intro H enc W base spare held fuel cs x h
  obtain ⟨n, rfl, _, hw⟩ := DataW.trod_int ht h
  exact ⟨n, rfl, hw⟩

theorem opens_bool {P : Program} {t : TypeId} (ht : P.underlying t = some .bool) : Opens P t Kd.bool (fun _ => True) := by
  intro H enc W base spare held fuel cs x h
  obtain ⟨n, rfl, _⟩ := DataW.trod_bool ht h
  exact ⟨n, rfl, trivial⟩

theorem opens_string {P : Program} {t : TypeId} (ht : P.underlying t = some .string) : Opens P t Kd.string (fun s => s.size ≤ 9223372036854775807) := by
  intro H enc W base spare held fuel cs x h
  obtain ⟨s, rfl, _, hs⟩ := DataW.trod_string ht h
  exact ⟨s, rfl, hs⟩

theorem cells_get {W : World} {base : Nat} {a : Addr} {n : Nat} {cs : List Value} (h : W.cells? base a n = some cs) : cs.length = n ∧ ∀ i u, cs[i]? = some u → W.cell? (a.add i) = some u := by
  unfold World.cells? at h
  split at h
  · have hl := mapM_some_length h
    simp at hl
    refine ⟨hl, fun i u hi => ?_⟩
    have hlt : i < n := by
      have := (List.getElem?_eq_some_iff.1 hi).1
      omega
    have := mapM_some_get h i i (by simp [hlt])
    rw [this]; exact hi
  · cases h

theorem opens_slice {α : Type} {P : Program} {t e : TypeId} {k : Kd α} {ok : α → Prop} (ht : P.underlying t = some (.slice e)) (hk : P.cellsOf e = k.sz) (he : Opens P e k ok) [Inhabited α] :
    Opens P t (Kd.slice e k) (fun xs => xs.length ≤ 9223372036854775807 ∧ ∀ x ∈ xs, ok x) := by
  intro H enc W base spare held fuel cs x h
  rcases Deep.open_slice ht h with ⟨rfl, _⟩ | ⟨a, len, cap, m, n, D, Pl, rfl, hb, hl, hm, hmm, _, hel⟩
  · refine ⟨[], ⟨none, 0, rfl, by simp, ?_⟩, by simp, by simp⟩
    exact ⟨rfl, by simp, fun h => absurd h (by simp)⟩
  · have hlm : len ≤ m := by rw [hmm]; split <;> omega
    obtain ⟨f, hf⟩ := Deep.choose_lt (α := α) (n := len) (p := fun i y => ∃ c, W.cells? base (a.add (i * P.cellsOf e)) (P.cellsOf e) = some c ∧ k.K W y c ∧ ok y) (fun i hi => by
      obtain ⟨c, hc, ht'⟩ := hel i (by omega)
      obtain ⟨y, hy, oy⟩ := he H enc W base spare held _ _ _ ht'
      exact ⟨y, c, hc, hy, oy⟩)
    have hlen : ((List.range len).map f).length = len := by simp
    have hcap : cap ≤ 9223372036854775807 := by have := hm; unfold maxLen at this; omega
    refine ⟨(List.range len).map f, ⟨some a, cap, by rw [hlen], by rw [hlen]; exact hl, ?_⟩, by rw [hlen]; omega, ?_⟩
    · refine ⟨rfl, by rw [hlen]; omega, fun _ => ⟨a, rfl, fun j p hp => ?_⟩⟩
      have hj : j < len := by have := (List.getElem?_eq_some_iff.1 hp).1; rw [hlen] at this; exact this
      have hp' : f j = p := by simpa [hj] using hp
      obtain ⟨c, hc, hy, _⟩ := hf j hj
      obtain ⟨hcl, hcg⟩ := cells_get hc
      refine ⟨c, by rw [hcl, hk], by rw [← hp']; exact hy, fun i u hu => ?_⟩
      have := hcg i u hu
      rwa [Deep.add_add, hk] at this
    · intro x hx
      obtain ⟨i, hi, rfl⟩ := List.mem_map.1 hx
      obtain ⟨_, _, _, oy⟩ := hf i (by simpa using hi)
      exact oy

/-- The parts of a struct or an array, from one on: their types and places. -/
def OpensAt {α : Type} (P : Program) (fs : List (TypeId × Nat)) (total off : Nat) (k : Kd α) (ok : α → Prop) : Prop :=
  ∀ (H : Type) (enc : TypeId × Value → H) (W : World) (base : Nat) (spare : Nat → Bool) (held : Bool) (fuel : Nat) (cs : List Value), cs.length = total →
    (∀ f ∈ fs, ∃ x, DataW.trod enc P W base spare held fuel f.1 ((cs.drop f.2).take (P.cellsOf f.1)) = some x) → ∃ y : α, k.K W y (cs.drop off) ∧ ok y

theorem at_last {α : Type} {P : Program} {t : TypeId} {total off : Nat} {k : Kd α} {ok : α → Prop} (h : Opens P t k ok) (hs : total = off + P.cellsOf t) : OpensAt P [(t, off)] total off k ok := by
  intro H enc W base spare held fuel cs hl hf
  obtain ⟨x, hx⟩ := hf _ (List.mem_singleton.2 rfl)
  rw [List.take_of_length_le (by rw [List.length_drop]; dsimp only; omega)] at hx
  exact h H enc W base spare held fuel _ x hx

theorem at_cons {α β : Type} {P : Program} {t : TypeId} {fs : List (TypeId × Nat)} {total off off' : Nat} {k : Kd α} {k' : Kd β} {ok : α → Prop} {ok' : β → Prop} (h : Opens P t k ok) (hr : OpensAt P fs total off' k' ok') (hs : off' = off + P.cellsOf t) :
    OpensAt P ((t, off) :: fs) total off (Kd.pair k k') (fun y => ok y.1 ∧ ok' y.2) := by
  intro H enc W base spare held fuel cs hl hf
  obtain ⟨x, hx⟩ := hf _ List.mem_cons_self
  obtain ⟨y, hy, oy⟩ := h H enc W base spare held fuel _ x hx
  obtain ⟨z, hz, oz⟩ := hr H enc W base spare held fuel cs hl (fun f hm => hf f (List.mem_cons_of_mem _ hm))
  refine ⟨(y, z), ⟨_, _, ?_, hy, hz⟩, oy, oz⟩
  rw [hs, ← List.drop_drop, List.take_append_drop]

theorem opens_struct {α β : Type} {P : Program} {t : TypeId} {fs : Array Field} {ps : List (TypeId × Nat)} {k : Kd α} {ok : α → Prop} (f : β → α) (g : α → β) (hg : ∀ a, f (g a) = a) (ht : P.underlying t = some (.struct fs))
    (hps : fs.toList.map (fun f => (f.type, f.offset)) = ps) (h : OpensAt P ps (P.cellsOf t) 0 k ok) : Opens P t (Kd.iso k f) (fun b => ok (f b)) := by
  intro H enc W base spare held fuel cs x hx
  cases fuel with
  | zero => simp [DataW.trod] at hx
  | succ n =>
    unfold DataW.trod at hx
    rw [ht] at hx
    simp only at hx
    split at hx
    · rename_i hl
      obtain ⟨xs, hxs, _⟩ := Option.map_eq_some_iff.1 hx
      obtain ⟨y, hy, oy⟩ := h H enc W base spare held n cs hl (fun p hp => by
        rw [← hps] at hp
        obtain ⟨q, hq, rfl⟩ := List.mem_map.1 hp
        exact mapM_each hxs q hq)
      refine ⟨g y, ?_, ?_⟩
      · show k.K W (f (g y)) cs
        rw [hg]; simpa using hy
      · show ok (f (g y))
        rw [hg]; exact oy
    · cases hx

theorem opens_array {α β : Type} {P : Program} {t e : TypeId} {n : Nat} {ps : List (TypeId × Nat)} {k : Kd α} {ok : α → Prop} (f : β → α) (g : α → β) (hg : ∀ a, f (g a) = a) (ht : P.underlying t = some (.array n e))
    (hps : (List.range n).map (fun i => (e, i * P.cellsOf e)) = ps) (h : OpensAt P ps (P.cellsOf t) 0 k ok) : Opens P t (Kd.iso k f) (fun b => ok (f b)) := by
  intro H enc W base spare held fuel cs x hx
  cases fuel with
  | zero => simp [DataW.trod] at hx
  | succ n' =>
    unfold DataW.trod at hx
    rw [ht] at hx
    simp only at hx
    split at hx
    · rename_i hl
      obtain ⟨xs, hxs, _⟩ := Option.map_eq_some_iff.1 hx
      obtain ⟨y, hy, oy⟩ := h H enc W base spare held n' cs hl (fun p hp => by
        rw [← hps] at hp
        obtain ⟨i, hi, rfl⟩ := List.mem_map.1 hp
        exact mapM_each hxs i hi)
      refine ⟨g y, ?_, ?_⟩
      · show k.K W (f (g y)) cs
        rw [hg]; simpa using hy
      · show ok (f (g y))
        rw [hg]; exact oy
    · cases hx

end Go.Proofs.Ytiladcdogbeomaa.Opens

namespace Go.Proofs.Ytiladcdogbeomaa.Acts
open Go.RowKit Go.Proofs.Ytiladcdogbeomaa.Opens Go.Proofs.YtiladcdogbeomaaW.PrintWords Go.Proofs.Ytiladcdogbeomaa.QRangesPlays
abbrev S84 := Int × Int × Int
def k84 : Kd S84 := Kd.pair (Kd.int .u8) (Kd.pair (Kd.int .i64) (Kd.int .i64))
def ok84 (x : S84) : Prop := (Lit.int .u8 x.1).wf = true ∧ (Lit.int .i64 x.2.1).wf = true ∧ (Lit.int .i64 x.2.2).wf = true
def okActs (xs : List S84) : Prop := xs.length ≤ 9223372036854775807 ∧ ∀ x ∈ xs, ok84 x
def okBytes (xs : List Int) : Prop := xs.length ≤ 9223372036854775807 ∧ ∀ x ∈ xs, (Lit.int .u8 x).wf = true
theorem k84_open {w : World} {x : S84} {cs : List Value} (h : k84.K w x cs) : cs = [.int .u8 x.1, .int .i64 x.2.1, .int .i64 x.2.2] := by
  obtain ⟨c1, c2, e, h1, c3, c4, e2, h2, h3⟩ := h
  have h1' : c1 = [.int .u8 x.1] := h1
  have h2' : c3 = [.int .i64 x.2.1] := h2
  have h3' : c4 = [.int .i64 x.2.2] := h3
  rw [e, e2, h1', h2', h3']
  rfl
theorem opens84 : Opens Try.prog 84 k84 ok84 :=
  opens_struct (fun x : S84 => x) (fun y => y) (fun _ => rfl) Try.underlying84 (by kernel_rfl) (at_cons (off := 0) (off' := 1) (opens_int Try.underlying5) (at_cons (off := 1) (off' := 2) (opens_int Try.underlying3) (at_last (off := 2) (opens_int Try.underlying3) (by kernel_rfl)) (by kernel_rfl)) (by kernel_rfl))
theorem opens78 : Opens Try.prog 78 (Kd.slice 84 k84) okActs := opens_slice Try.underlying78 (by kernel_rfl) opens84
theorem opens23 : Opens Try.prog 23 (Kd.slice 5 (Kd.int .u8)) okBytes := opens_slice Try.underlying23 (by kernel_rfl) (opens_int Try.underlying5)
theorem actRow_of {W : World} {A : Option Addr} {n : Nat} {l : List S84} (h : Kd.C k84 W A n l) : ActRow W A l := by
  have hz : k84.sz = 3 := rfl
  have key : ∀ j (hj : j < l.length), ∃ ad, A = some ad ∧ W.cell? (ad.add (j * 3)) = some (.int .u8 l[j].1) ∧ W.cell? (ad.add (j * 3 + 1)) = some (.int .i64 l[j].2.1) ∧ W.cell? (ad.add (j * 3 + 2)) = some (.int .i64 l[j].2.2) := by
    intro j hj
    obtain ⟨ad, rfl, hc⟩ := h.2.2 (by have := h.1; omega)
    obtain ⟨c, hl, hx, hcell⟩ := hc j l[j] (List.getElem?_eq_getElem hj)
    have hx' := k84_open hx
    subst hx'
    have e0 := hcell 0 (.int .u8 l[j].1) rfl
    have e1 := hcell 1 (.int .i64 l[j].2.1) rfl
    have e2 := hcell 2 (.int .i64 l[j].2.2) rfl
    rw [hz] at e0 e1 e2
    exact ⟨ad, rfl, by simpa using e0, e1, e2⟩
  intro i hi
  obtain ⟨ad, hA, z0, _⟩ := key 0 (by omega)
  have hsp : ad.spot = none := by
    have e : ad.add (0 * 3) = ad := by unfold Addr.add; rw [if_pos (by omega)]
    rw [e] at z0
    unfold World.cell? at z0
    split at z0
    · split at z0
      · cases z0
      · rename_i hs; simpa using hs
    · cases z0
  obtain ⟨b, o, sp⟩ := ad
  obtain rfl : sp = none := hsp
  obtain ⟨ad2, hA2, z0, z1, z2⟩ := key i hi
  rw [hA] at hA2
  obtain rfl : (⟨b, o, none⟩ : Addr) = ad2 := Option.some.inj hA2
  have ha : ∀ j, Addr.add ⟨b, o, none⟩ j = ⟨b, o + j, none⟩ := fun j => by
    unfold Addr.add
    split
    · rename_i h; subst h; rfl
    · rfl
  rw [ha] at z0 z1 z2
  exact ⟨b, o, hA, z0, z1, z2⟩
theorem wf_u8 {x : Int} (h : (Lit.int .u8 x).wf = true) : 0 ≤ x ∧ x < 256 := by
  have := h
  simp [Lit.wf, IntKind.min, IntKind.max, IntKind.signed, IntKind.bits] at this
  omega
theorem wf_i64 {x : Int} (h : (Lit.int .i64 x).wf = true) : -9223372036854775808 ≤ x ∧ x ≤ 9223372036854775807 := by
  have := h
  simp [Lit.wf, IntKind.min, IntKind.max, IntKind.signed, IntKind.bits] at this
  omega
theorem actsOk_of {l : List S84} (h : okActs l) : ActsOk l := fun x hx => by
  have h1 := h.2 x hx
  have := wf_u8 h1.1
  have := wf_i64 h1.2.1
  omega
end Go.Proofs.Ytiladcdogbeomaa.Acts
