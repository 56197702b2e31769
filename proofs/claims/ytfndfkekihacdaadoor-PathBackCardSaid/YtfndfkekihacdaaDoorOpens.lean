/- What reads as data is told as the walks want it: an argument of whatever type made of whole numbers, bools, strings, slices, structs and arrays, that can be read, holds a plain Lean value. No condition. -/
import Derived.Test.YtfndfkekihacdaaDoorWWords
import Derived.Deep.Slices
import Derived.ChangeArms
import Derived.OpenShut
import Derived.DataReads
import Derived.WideShapes
set_option linter.unusedVariables false
namespace Go.Proofs.YtfndfkekihacdaaDoor.Opens
open Go.RowKit Go.ChangeShapes Go.WideShapes Go.Proofs.YtfndfkekihacdaaDoorW.PrintWords

/-- Whatever reads as a datum of type t holds a value of kind k for which ok holds. -/
def Opens {α : Type} (P : Program) (t : TypeId) (k : Kd α) (ok : α → Prop) : Prop :=
  ∀ (H : Type) (enc : TypeId × Value → H) (W : World) (base : Nat) (spare : Nat → Bool) (held : Bool) (fuel : Nat) (cs : List Value) (x : DataW H × List MemPlace),
    DataW.trod enc P W base spare held fuel t cs = some x → ∃ y : α, k.K W y cs ∧ ok y

theorem opens_int {P : Program} {t : TypeId} {k : IntKind} (ht : P.underlying t = some (.int k)) : Opens P t (Kd.int k) (fun n => (Lit.int k n).wf = true) := by
  intro H enc W base spare held fuel cs x h
  obtain ⟨n, rfl, _, hw⟩ := DataW.trod_int ht h
  exact ⟨n, rfl, hw⟩

theorem opens_bool {P : Program} {t : TypeId} (ht : P.underlying t = some .bool) : Opens P t Kd.bool (fun _ => True) := by
  intro H enc W base spare held fuel cs x h
  obtain ⟨n, rfl, _⟩ := DataW.trod_bool ht h
  exact ⟨n, rfl, trivial⟩

theorem opens_string {P : Program} {t : TypeId} (ht : P.underlying t = some .string) : Opens P t Kd.string (fun s => s.size ≤ 9223372036854775807) := by
  intro H enc W base spare held fuel cs x h
  obtain ⟨s, rfl, _, hs⟩ := DataW.trod_string ht h
  exact ⟨s, rfl, hs⟩

theorem cells_get {W : World} {base : Nat} {a : Addr} {n : Nat} {cs : List Value} (h : W.cells? base a n = some cs) : cs.length = n ∧ ∀ i u, cs[i]? = some u → W.cell? (a.add i) = some u := by
  unfold World.cells? at h
  split at h
  · have hl := mapM_some_length h
    simp at hl
    refine ⟨hl, fun i u hi => ?_⟩
    have hlt : i < n := by
      have := (List.getElem?_eq_some_iff.1 hi).1
      omega
    have := mapM_some_get h i i (by simp [hlt])
    rw [this]; exact hi
  · cases h

theorem opens_slice {α : Type} {P : Program} {t e : TypeId} {k : Kd α} {ok : α → Prop} (ht : P.underlying t = some (.slice e)) (hk : P.cellsOf e = k.sz) (he : Opens P e k ok) [Inhabited α] :
    Opens P t (Kd.slice e k) (fun xs => xs.length ≤ 9223372036854775807 ∧ ∀ x ∈ xs, ok x) := by
  intro H enc W base spare held fuel cs x h
  rcases Deep.open_slice ht h with ⟨rfl, _⟩ | ⟨a, len, cap, m, n, D, Pl, rfl, hb, hl, hm, hmm, _, hel⟩
  · refine ⟨[], ⟨none, 0, rfl, by simp, ?_⟩, by simp, by simp⟩
    exact ⟨rfl, by simp, fun h => absurd h (by simp)⟩
  · have hlm : len ≤ m := by rw [hmm]; split <;> omega
    obtain ⟨f, hf⟩ := Deep.choose_lt (α := α) (n := len) (p := fun i y => ∃ c, W.cells? base (a.add (i * P.cellsOf e)) (P.cellsOf e) = some c ∧ k.K W y c ∧ ok y) (fun i hi => by
      obtain ⟨c, hc, ht'⟩ := hel i (by omega)
      obtain ⟨y, hy, oy⟩ := he H enc W base spare held _ _ _ ht'
      exact ⟨y, c, hc, hy, oy⟩)
    have hlen : ((List.range len).map f).length = len := by simp
    have hcap : cap ≤ 9223372036854775807 := by have := hm; unfold maxLen at this; omega
    refine ⟨(List.range len).map f, ⟨some a, cap, by rw [hlen], by rw [hlen]; exact hl, ?_⟩, by rw [hlen]; omega, ?_⟩
    · refine ⟨rfl, by rw [hlen]; omega, fun _ => ⟨a, rfl, fun j p hp => ?_⟩⟩
      have hj : j < len := by have := (List.getElem?_eq_some_iff.1 hp).1; rw [hlen] at this; exact this
      have hp' : f j = p := by simpa [hj] using hp
      obtain ⟨c, hc, hy, _⟩ := hf j hj
      obtain ⟨hcl, hcg⟩ := cells_get hc
      refine ⟨c, by rw [hcl, hk], by rw [← hp']; exact hy, fun i u hu => ?_⟩
      have := hcg i u hu
      rwa [Deep.add_add, hk] at this
    · intro x hx
      obtain ⟨i, hi, rfl⟩ := List.mem_map.1 hx
      obtain ⟨_, _, _, oy⟩ := hf i (by simpa using hi)
      exact oy

/-- The parts of a struct or an array, from one on: their types and places. -/
def OpensAt {α : Type} (P : Program) (fs : List (TypeId × Nat)) (total off : Nat) (k : Kd α) (ok : α → Prop) : Prop :=
  ∀ (H : Type) (enc : TypeId × Value → H) (W : World) (base : Nat) (spare : Nat → Bool) (held : Bool) (fuel : Nat) (cs : List Value), cs.length = total →
    (∀ f ∈ fs, ∃ x, DataW.trod enc P W base spare held fuel f.1 ((cs.drop f.2).take (P.cellsOf f.1)) = some x) → ∃ y : α, k.K W y (cs.drop off) ∧ ok y

theorem at_last {α : Type} {P : Program} {t : TypeId} {total off : Nat} {k : Kd α} {ok : α → Prop} (h : Opens P t k ok) (hs : total = off + P.cellsOf t) : OpensAt P [(t, off)] total off k ok := by
  intro H enc W base spare held fuel cs hl hf
  obtain ⟨x, hx⟩ := hf _ (List.mem_singleton.2 rfl)
  rw [List.take_of_length_le (by rw [List.length_drop]; dsimp only; omega)] at hx
  exact h H enc W base spare held fuel _ x hx

theorem at_cons {α β : Type} {P : Program} {t : TypeId} {fs : List (TypeId × Nat)} {total off off' : Nat} {k : Kd α} {k' : Kd β} {ok : α → Prop} {ok' : β → Prop} (h : Opens P t k ok) (hr : OpensAt P fs total off' k' ok') (hs : off' = off + P.cellsOf t) :
    OpensAt P ((t, off) :: fs) total off (Kd.pair k k') (fun y => ok y.1 ∧ ok' y.2) := by
  intro H enc W base spare held fuel cs hl hf
  obtain ⟨x, hx⟩ := hf _ List.mem_cons_self
  obtain ⟨y, hy, oy⟩ := h H enc W base spare held fuel _ x hx
  obtain ⟨z, hz, oz⟩ := hr H enc W base spare held fuel cs hl (fun f hm => hf f (List.mem_cons_of_mem _ hm))
  refine ⟨(y, z), ⟨_, _, ?_, hy, hz⟩, oy, oz⟩
  rw [hs, ← List.drop_drop, List.take_append_drop]

theorem opens_struct {α β : Type} {P : Program} {t : TypeId} {fs : Array Field} {ps : List (TypeId × Nat)} {k : Kd α} {ok : α → Prop} (f : β → α) (g : α → β) (hg : ∀ a, f (g a) = a) (ht : P.underlying t = some (.struct fs))
    (hps : fs.toList.map (fun f => (f.type, f.offset)) = ps) (h : OpensAt P ps (P.cellsOf t) 0 k ok) : Opens P t (Kd.iso k f) (fun b => ok (f b)) := by
  intro H enc W base spare held fuel cs x hx
  cases fuel with
  | zero => simp [DataW.trod] at hx
  | succ n =>
    unfold DataW.trod at hx
    rw [ht] at hx
    simp only at hx
    split at hx
    · rename_i hl
      obtain ⟨xs, hxs, _⟩ := Option.map_eq_some_iff.1 hx
      obtain ⟨y, hy, oy⟩ := h H enc W base spare held n cs hl (fun p hp => by
        rw [← hps] at hp
        obtain ⟨q, hq, rfl⟩ := List.mem_map.1 hp
        exact mapM_each hxs q hq)
      refine ⟨g y, ?_, ?_⟩
      · show k.K W (f (g y)) cs
        rw [hg]; simpa using hy
      · show ok (f (g y))
        rw [hg]; exact oy
    · cases hx

theorem opens_array {α β : Type} {P : Program} {t e : TypeId} {n : Nat} {ps : List (TypeId × Nat)} {k : Kd α} {ok : α → Prop} (f : β → α) (g : α → β) (hg : ∀ a, f (g a) = a) (ht : P.underlying t = some (.array n e))
    (hps : (List.range n).map (fun i => (e, i * P.cellsOf e)) = ps) (h : OpensAt P ps (P.cellsOf t) 0 k ok) : Opens P t (Kd.iso k f) (fun b => ok (f b)) := by
  intro H enc W base spare held fuel cs x hx
  cases fuel with
  | zero => simp [DataW.trod] at hx
  | succ n' =>
    unfold DataW.trod at hx
    rw [ht] at hx
    simp only at hx
    split at hx
    · rename_i hl
      obtain ⟨xs, hxs, _⟩ := Option.map_eq_some_iff.1 hx
      obtain ⟨y, hy, oy⟩ := h H enc W base spare held n' cs hl (fun p hp => by
        rw [← hps] at hp
        obtain ⟨i, hi, rfl⟩ := List.mem_map.1 hp
        exact mapM_each hxs i hi)
      refine ⟨g y, ?_, ?_⟩
      · show k.K W (f (g y)) cs
        rw [hg]; simpa using hy
      · show ok (f (g y))
        rw [hg]; exact oy
    · cases hx

end Go.Proofs.YtfndfkekihacdaaDoor.Opens
