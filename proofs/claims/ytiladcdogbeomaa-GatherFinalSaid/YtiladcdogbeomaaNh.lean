/- Law 23 (gather): contracts of functions that its statements reach, and plain laws behind them (part 8). No condition. -/
import Derived.Test.YtiladcdogbeomaaNg
import Derived.Test.YtiladcdogbeomaaNc
namespace Go.Proofs.Ytiladcdogbeomaa.QRangesPlays
open Go.RowKit Go.Shelf Go.Proofs.YtiladcdogbeomaaW.PrintWords Go.Proofs.YtiladcdogbeomaaW.PrintLast Go.Proofs.YtiladcdogbeomaaW.PrintMore Go.Proofs.Ytiladcdogbeomaa.RowLaws Go.Proofs.Ytiladcdogbeomaa.Lazy
open Go.Maps
attribute [local go_sem] Oper.semAt_some max2_int min2_int max_two min_two
theorem cnt_range {lo hi : Int} : ∀ {l : List S95}, wf lo l → lo ≤ hi → (∀ n, has l n → n < hi) → cnt l ≤ hi - lo
  | [], _, h, _ => by simp [cnt]; omega
  | x :: r, ⟨h1, h2, h3, h4⟩, h, hn => by
    have hx := hn x.f1 ⟨x, by simp, h2, Int.le_refl _⟩
    rw [cnt_cons]
    by_cases h5 : x.f1 + 2 ≤ hi
    · have := cnt_range h4 h5 (fun n hh => hn n (has_cons.2 (.inr hh))); omega
    · have hr : r = [] := by
        cases r with
        | nil => rfl
        | cons y t =>
          have := h4.1
          have := hn y.f1 (has_cons.2 (.inr ⟨y, by simp, h4.2.1, Int.le_refl _⟩))
          have := h4.2.1
          omega
      subst hr; simp [cnt]; omega
theorem ready_eq {l : List S95} {T m : Int} (hw : wf 0 l) (hlo : ∀ n, has l n → T ≤ n) (h0 : 0 ≤ m) (h1 : ∀ x, T ≤ x → x < T + m → has l x) (h2 : ¬ has l (T + m)) : readyL l T = m := by
  cases l with
  | nil =>
    simp only [readyL]
    by_cases h : m = 0
    · omega
    · have := h1 T (Int.le_refl _) (by omega); simp [has] at this
  | cons x r =>
    obtain ⟨w1, w2, w3, w4⟩ := hw
    have hx := hlo x.f0 ⟨x, by simp, Int.le_refl _, w2⟩
    by_cases h : m = 0
    · subst h
      have : x.f0 ≠ T := by intro e; exact h2 ⟨x, by simp, by omega, by omega⟩
      simp only [readyL, if_neg this]
    · have hT := h1 T (Int.le_refl _) (by omega)
      have e : x.f0 = T := by
        rcases has_cons.1 hT with hh | hh
        · omega
        · have := wf_lo w4 hh; omega
      simp only [readyL, if_pos e]
      have a : ¬ x.f1 < T + m - 1 := by
        intro hlt
        rcases has_cons.1 (h1 (x.f1 + 1) (by omega) (by omega)) with hh | hh
        · omega
        · have := wf_lo w4 hh; omega
      have b : ¬ T + m ≤ x.f1 := fun hle => h2 ⟨x, by simp, by omega, hle⟩
      omega
structure GSP (g gm gs : Nat) (w : World) (P : Int → Prop) (T H F : Int) (d : Int → Int) (W : World) : Prop where
  st : ∃ n l D, BufAt W g gm gs n l T H F D ∧ Gat l T H F D d ∧ ∀ n, has l n ↔ P n
  dok : DOk d
  hb : Below w.heap.size w W
  l1 : w.heap.size ≤ g
  l2 : w.heap.size ≤ gm
  l3 : w.heap.size ≤ gs
  n1 : gm ≠ g
  n2 : gs ≠ g
  n3 : gs ≠ gm
section
variable {g gm gs : Nat} {w : World} {P : Int → Prop} {T H F : Int} {d : Int → Int} {W W' : World}
theorem GSP.below (h : GSP g gm gs w P T H F d W) (hb : Below W.heap.size W W') : GSP g gm gs w P T H F d W' := by
  obtain ⟨n, l, D, h1, h2, h3⟩ := h.st
  exact ⟨⟨n, l, D, h1.below hb, h2, h3⟩, h.dok, below_step h.hb hb, h.l1, h.l2, h.l3, h.n1, h.n2, h.n3⟩
theorem GSP.is (h : GSP g gm gs w P T H F d W) {Q : Int → Prop} (hp : ∀ n, Q n ↔ P n) : GSP g gm gs w Q T H F d W := by
  obtain ⟨n, l, D, h1, h2, h3⟩ := h.st
  exact ⟨⟨n, l, D, h1, h2, fun n => (h3 n).trans (hp n).symm⟩, h.dok, h.hb, h.l1, h.l2, h.l3, h.n1, h.n2, h.n3⟩
theorem GSP.bounds (h : GSP g gm gs w P T H F d W) : (∀ n, P n → T ≤ n ∧ n < H) ∧ 0 ≤ T ∧ T ≤ H ∧ H ≤ 1099511627776 ∧ (F = -1 ∨ (H ≤ F ∧ F ≤ 1099511627776)) := by
  obtain ⟨n, l, D, h1, h2, h3⟩ := h.st
  exact ⟨fun n hn => h2.hin n ((h3 n).2 hn), h2.b0, h2.b1, h2.b2, h2.fin⟩
theorem GSP.new (hb : Below w.heap.size w W) (d : Int → Int) (hd : DOk d) : Calls Try.prog 13 #[] W fun x w' => ∃ g gm gs, x = .returned (.pointer (some ⟨g, 0, none⟩)) ∧ GSP g gm gs w (fun _ => False) 0 0 (-1) d w' := by
  refine (GNew_calls W).mono ?_
  rintro x w' ⟨g, gm, gs, rfl, h1, h2, h3, h4, h5, h6, h7, h8⟩
  have hs := hb.size
  refine ⟨g, gm, gs, rfl, ⟨0, [], _, h1, ⟨gat_new.w, gat_new.hin, gat_new.b0, gat_new.b1, gat_new.b2, gat_new.fin, gat_new.ty, gat_new.key, gat_new.sz, fun n h => by simp [has] at h⟩, fun n => by simp [has]⟩, hd, below_step hb h2, by omega, by omega, by omega, h8, h7, h6⟩
theorem tri_low (hb : Below w.heap.size w W) (l1 : w.heap.size ≤ g) (l2 : w.heap.size ≤ gm) (l3 : w.heap.size ≤ gs) (h : ∀ B, B ≤ g → B ≤ gm → B ≤ gs → B ≤ W.heap.size → Below B W W') : Below w.heap.size w W' := hb.trans (h _ l1 l2 l3 hb.size)
/-- What put tells and leaves, by the places. -/
theorem GSP.put (h : GSP g gm gs w P T H F d W) (off : Int) (s : ByteArray) (fin : Bool) (d2 : Int → Int) (hk : DOk d2) (hd1 : ∀ x, P x → d2 x = d x) (hd2 : ∀ x, off ≤ x → x < off + (s.size : Int) → T ≤ x → ¬ P x → s[(x - off).toNat]?.map (fun b => (b.toNat : Int)) = some (d2 x)) :
    Calls Try.prog 14 #[.pointer (some ⟨g, 0, none⟩), .int .i64 off, .string s, .bool fin] W fun x w' => ∃ c, x = .returned (.int .i64 c) ∧
      ((0 ≤ off → off + (s.size : Int) ≤ 30000 → H ≤ 30000 → fitsL H F (off + (s.size : Int)) fin = true → c = 0) ∧ (0 ≤ off → off + (s.size : Int) ≤ 1099511627776 → fitsL H F (off + (s.size : Int)) fin = false → c = 18)) ∧
      (c ≠ 0 → Below W.heap.size W w') ∧
      (c = 0 → fitsL H F (off + (s.size : Int)) fin = true ∧ GSP g gm gs w (fun n => P n ∨ (off ≤ n ∧ T ≤ n ∧ n < off + (s.size : Int))) T (hiL H (off + (s.size : Int))) (fiL F (off + (s.size : Int)) fin) d2 w') := by
  obtain ⟨n, l, D, h1, h2, h3⟩ := h.st
  have hd1' : ∀ x, has l x → d2 x = d x := fun x hx => hd1 x ((h3 x).1 hx)
  have hd2' : ∀ x, off ≤ x → x < off + (s.size : Int) → T ≤ x → ¬ has l x → s[(x - off).toNat]?.map (fun b => (b.toNat : Int)) = some (d2 x) := fun x a b c e => hd2 x a b c (fun hp => e ((h3 x).2 hp))
  have key : (0 ≤ off → off + (s.size : Int) ≤ 30000 → H ≤ 30000 → fitsL H F (off + (s.size : Int)) fin = true → putC l T H F off s.size fin = 0) ∧ (0 ≤ off → off + (s.size : Int) ≤ 1099511627776 → fitsL H F (off + (s.size : Int)) fin = false → putC l T H F off s.size fin = 18) := by
    refine ⟨fun a b c e => ?_, fun a b e => ?_⟩
    · unfold putC
      rw [if_neg (by omega), if_neg (by simp [e])]
      have f1 := (put_fresh (fr := putF off T (off + (s.size : Int)) l) h2 a (show off + (s.size : Int) ≤ 1099511627776 by omega) rfl)
      have f2 := cnt_range (hi := 30000) f1.1 (by omega) (fun n hn => by have := (f1.2 n).1 hn; omega)
      have f3 := cnt_range (hi := 30000) h2.w (by omega) (fun n hn => by have := h2.hin n hn; omega)
      rw [if_neg (by omega)]
    · unfold putC
      rw [if_neg (by omega), if_pos e]
  by_cases hc : putC l T H F off s.size fin = 0
  · refine (GPut_ok g gm gs n l T H F off s fin D d d2 W h1 h2 h.n1 h.n2 h.n3 hc hd1' hd2').mono ?_
    rintro x w' ⟨rfl, l', D', k1, k2, k3, k4, k5⟩
    rw [hc] at key
    have hfit : fitsL H F (off + (s.size : Int)) fin = true := by
      cases hf : fitsL H F (off + (s.size : Int)) fin with
      | true => rfl
      | false =>
        exfalso
        unfold putC at hc
        split at hc
        · cases hc
        · first | (cases hc; done) | (rw [if_pos hf] at hc; cases hc)
    exact ⟨0, rfl, key, fun e => absurd rfl e, fun _ => ⟨hfit, ⟨_, l', D', k1, k2, fun n => by rw [k3 n, h3 n]⟩, hk, tri_low h.hb h.l1 h.l2 h.l3 k5, h.l1, h.l2, h.l3, h.n1, h.n2, h.n3⟩⟩
  · refine (GPut_no g gm gs n l T H F off s fin D d W h1 h2 h.n1 h.n2 h.n3 hc d2 hd1' hd2').mono ?_
    rintro x w' ⟨rfl, hb⟩
    exact ⟨_, rfl, key, fun _ => hb, fun e => absurd e hc⟩
/-- What read tells and leaves. -/
theorem GSP.read (h : GSP g gm gs w P T H F d W) (k : Int) :
    Calls Try.prog 15 #[.pointer (some ⟨g, 0, none⟩), .int .i64 k] W fun x w' => ∃ m : Nat, (∀ r : Int, 0 ≤ r → (∀ x, T ≤ x → x < T + r → P x) → ¬ P (T + r) → (m : Int) = max 0 (min k r)) ∧ (∀ x, T ≤ x → x < T + m → P x) ∧
      x = .returned (.tuple #[.string ⟨(bytesFrom d T m).toArray⟩, .bool (finB F && ((T + (m : Int)) == finV F))]) ∧ GSP g gm gs w (fun n => P n ∧ T + m ≤ n) (T + m) H F d w' := by
  obtain ⟨n, l, D, h1, h2, h3⟩ := h.st
  refine (GRead_calls g gm gs n l T H F D d k W h1 h2 h.dok h.n1 h.n2 h.n3).mono ?_
  rintro x w' ⟨m, l', D', hm, rfl, k1, k2, k3, k4, k5⟩
  refine ⟨m, fun r r0 r1 r2 => ?_, fun x a b => ?_, rfl, ⟨n, l', D', k1, k2, fun n => by rw [k3 n, h3 n]⟩, h.dok, tri_low h.hb h.l1 h.l2 h.l3 k5, h.l1, h.l2, h.l3, h.n1, h.n2, h.n3⟩
  · rw [hm, ready_eq h2.w (fun n hn => (h2.hin n hn).1) r0 (fun x a b => (h3 x).2 (r1 x a b)) (fun hh => r2 ((h3 _).1 hh))]
  · have := ready_has (l := l) (T := T) (j := x - T) (by omega) (by omega)
    rw [show T + (x - T) = x by omega] at this
    exact (h3 x).1 this
theorem GSP.end_ (h : GSP g gm gs w P T H F d W) (f : Int) :
    Calls Try.prog 32 #[.pointer (some ⟨g, 0, none⟩), .int .i64 f] W fun x w' => ∃ c, x = .returned (.int .i64 c) ∧ (GSP g gm gs w P T H F d w' ∨ (H ≤ f ∧ (F = -1 ∨ F = f) ∧ GSP g gm gs w P T f f d w')) := by
  obtain ⟨n, l, D, h1, h2, h3⟩ := h.st
  by_cases he : endL H F f = 0
  · refine (GEnd_ok g gm gs n l T H F f D W h1 h.n1 h.n2 he).mono ?_
    rintro x w' ⟨rfl, k1, k2⟩
    have e2 : 0 ≤ f ∧ f ≤ 1099511627776 ∧ H ≤ f ∧ (F = -1 ∨ F = f) := by
      unfold endL at he
      split at he
      · cases he
      · split at he
        · cases he
        · rename_i a b
          refine ⟨by omega, by omega, by omega, ?_⟩
          by_cases hF : F = -1
          · exact .inl hF
          · by_cases hF2 : F = f
            · exact .inr hF2
            · exact absurd (.inr ⟨hF, hF2⟩) b
    have hT := h2.b1
    refine ⟨0, rfl, .inr ⟨e2.2.2.1, e2.2.2.2, ⟨n, l, D, k1, ⟨h2.w, fun n hn => by have := h2.hin n hn; omega, h2.b0, by omega, e2.2.1, .inr ⟨Int.le_refl _, e2.2.1⟩, h2.ty, h2.key, h2.sz, h2.val⟩, h3⟩, h.dok, low_only h.hb k2 h.l1 h.hb.size, h.l1, h.l2, h.l3, h.n1, h.n2, h.n3⟩⟩
  · refine (GEnd_bad g gm gs n l T H F f D W h1 he).mono ?_
    rintro x w' ⟨rfl, hb⟩
    exact ⟨_, rfl, .inl (h.below hb)⟩
theorem GSP.taken (h : GSP g gm gs w P T H F d W) : Calls Try.prog 16 #[.pointer (some ⟨g, 0, none⟩)] W fun x w' => x = .returned (.int .i64 T) ∧ Below W.heap.size W w' := by
  obtain ⟨n, l, D, h1, h2, h3⟩ := h.st
  exact GTaken_calls g gm gs n l T H F D W h1
theorem GSP.high (h : GSP g gm gs w P T H F d W) : Calls Try.prog 34 #[.pointer (some ⟨g, 0, none⟩)] W fun x w' => x = .returned (.int .i64 H) ∧ Below W.heap.size W w' := by
  obtain ⟨n, l, D, h1, h2, h3⟩ := h.st
  exact GHigh_calls g gm gs n l T H F D W h1
theorem GSP.final (h : GSP g gm gs w P T H F d W) : Calls Try.prog 33 #[.pointer (some ⟨g, 0, none⟩)] W fun x w' => x = .returned (.tuple #[.int .i64 (finV F), .bool (finB F)]) ∧ Below W.heap.size W w' := by
  obtain ⟨n, l, D, h1, h2, h3⟩ := h.st
  exact GFinal_calls g gm gs n l T H F D W h1
theorem GSP.done (h : GSP g gm gs w P T H F d W) : Calls Try.prog 56 #[.pointer (some ⟨g, 0, none⟩)] W fun x w' => x = .returned (.bool (finB F && (T == finV F))) ∧ Below W.heap.size W w' := by
  obtain ⟨n, l, D, h1, h2, h3⟩ := h.st
  exact GDone_calls g gm gs n l T H F D W h1
/-- How many wait: one number for all worlds that hold the same buffer's state; none where no place waits. -/
theorem GSP.held (h : GSP g gm gs w P T H F d W) : ∃ c : Nat, ((∀ n, ¬ P n) → c = 0) ∧ ∀ W', Below W.heap.size W W' → Calls Try.prog 17 #[.pointer (some ⟨g, 0, none⟩)] W' fun x w' => x = .returned (.int .i64 c) ∧ Below W'.heap.size W' w' := by
  obtain ⟨n, l, D, h1, h2, h3⟩ := h.st
  refine ⟨Maps.size D, fun hn => ?_, fun W' hb => GHeld_calls g gm gs n l T H F D W' (h1.below hb)⟩
  have hl : l = [] := by
    cases l with
    | nil => rfl
    | cons x r => exact absurd ((h3 x.f0).1 ⟨x, by simp, Int.le_refl _, h2.w.2.1⟩) (hn _)
  have := h2.sz
  rw [hl] at this
  simp only [cnt] at this
  omega
end
end Go.Proofs.Ytiladcdogbeomaa.QRangesPlays

namespace Go.Proofs.Ytiladcdogbeomaa.QRangesPlays
open Go.RowKit Go.Shelf Go.Proofs.YtiladcdogbeomaaW.PrintWords Go.Proofs.YtiladcdogbeomaaW.PrintLast Go.Proofs.YtiladcdogbeomaaW.PrintMore Go.Proofs.Ytiladcdogbeomaa.RowLaws Go.Proofs.Ytiladcdogbeomaa.Lazy
open Go.Maps
attribute [local go_sem] Oper.semAt_some
/-- A text's bytes by their places. -/
def dT (s : ByteArray) (n : Int) : Int := match s[n.toNat]? with | some b => (b.toNat : Int) | none => 0
theorem dT_ok (s : ByteArray) : DOk (dT s) := by
  intro n
  unfold dT
  split
  · rename_i b _; have := b.toNat_lt; omega
  · omega
abbrev dA : Int → Int := dT ⟨#[97, 98, 99, 100]⟩
section
variable {g gm gs : Nat} {w : World} {W : World}
theorem aw1 (h : GSP g gm gs w (fun _ => False) 0 0 (-1) dA W) : Calls Try.prog 14 #[.pointer (some ⟨g, 0, none⟩), .int .i64 2, .string ⟨#[99, 100]⟩, .bool true] W fun x w' => x = .returned (.int .i64 0) ∧ GSP g gm gs w (fun n => 2 ≤ n ∧ n < 4) 0 4 4 dA w' := by
  refine (h.put 2 ⟨#[99, 100]⟩ true dA (dT_ok _) (fun x hx => hx.elim) ?_).mono ?_
  · intro x a b c e
    have hx : x = 2 ∨ x = 3 := by have : ((⟨#[99, 100]⟩ : ByteArray).size : Int) = 2 := rfl; omega
    rcases hx with rfl | rfl <;> rfl
  · rintro x w' ⟨c, rfl, ⟨k1, _⟩, _, k3⟩
    have hc := k1 (by decide) (by decide) (by decide) (by decide)
    subst hc
    refine ⟨rfl, (k3 rfl).2.is (fun n => ?_)⟩
    have : ((⟨#[99, 100]⟩ : ByteArray).size : Int) = 2 := rfl
    rw [this]
    constructor
    · intro h; exact .inr ⟨h.1, by omega, by omega⟩
    · rintro (h | h); exact h.elim; exact ⟨h.1, by omega⟩
theorem aw2 (h : GSP g gm gs w (fun n => 2 ≤ n ∧ n < 4) 0 4 4 dA W) : Calls Try.prog 15 #[.pointer (some ⟨g, 0, none⟩), .int .i64 9] W fun x w' => x = .returned (.tuple #[.string ⟨#[]⟩, .bool false]) ∧ GSP g gm gs w (fun n => 2 ≤ n ∧ n < 4) 0 4 4 dA w' := by
  refine (h.read 9).mono ?_
  rintro x w' ⟨m, hm, _, rfl, hs⟩
  have h0 : (m : Int) = 0 := by rw [hm 0 (by omega) (fun x a b => by omega) (by omega)]; decide
  obtain rfl : m = 0 := by omega
  exact ⟨rfl, hs.is (fun n => by first | (simp; done) | (simp; omega))⟩
theorem aw3 (h : GSP g gm gs w (fun n => 2 ≤ n ∧ n < 4) 0 4 4 dA W) : Calls Try.prog 14 #[.pointer (some ⟨g, 0, none⟩), .int .i64 0, .string ⟨#[97, 98, 88]⟩, .bool false] W fun x w' => x = .returned (.int .i64 0) ∧ GSP g gm gs w (fun n => 0 ≤ n ∧ n < 4) 0 4 4 dA w' := by
  have hz : ((⟨#[97, 98, 88]⟩ : ByteArray).size : Int) = 3 := rfl
  refine (h.put 0 ⟨#[97, 98, 88]⟩ false dA (dT_ok _) (fun x hx => rfl) ?_).mono ?_
  · intro x a b c e
    have hx : x = 0 ∨ x = 1 := by omega
    rcases hx with rfl | rfl <;> rfl
  · rintro x w' ⟨c, rfl, ⟨k1, _⟩, _, k3⟩
    have hc := k1 (by decide) (by decide) (by decide) (by decide)
    subst hc
    refine ⟨rfl, (k3 rfl).2.is (fun n => ?_)⟩
    rw [hz]
    constructor
    · intro h; by_cases h2 : 2 ≤ n; exact .inl ⟨h2, h.2⟩; exact .inr ⟨h.1, h.1, by omega⟩
    · rintro (h | h); exact ⟨by omega, h.2⟩; exact ⟨by omega, by omega⟩
theorem aw4 (h : GSP g gm gs w (fun n => 0 ≤ n ∧ n < 4) 0 4 4 dA W) : Calls Try.prog 15 #[.pointer (some ⟨g, 0, none⟩), .int .i64 9] W fun x w' => x = .returned (.tuple #[.string ⟨#[97, 98, 99, 100]⟩, .bool true]) ∧ GSP g gm gs w (fun _ => False) 4 4 4 dA w' := by
  refine (h.read 9).mono ?_
  rintro x w' ⟨m, hm, _, rfl, hs⟩
  have h0 : (m : Int) = 4 := by rw [hm 4 (by omega) (fun x a b => by omega) (by omega)]; decide
  obtain rfl : m = 4 := by omega
  exact ⟨rfl, hs.is (fun n => by first | (simp; done) | (simp; omega))⟩
theorem aw5 (h : GSP g gm gs w (fun _ => False) 4 4 4 dA W) : Calls Try.prog 56 #[.pointer (some ⟨g, 0, none⟩)] W fun x w' => x = .returned (.bool true) ∧ GSP g gm gs w (fun _ => False) 4 4 4 dA w' := by
  refine h.done.mono ?_
  rintro x w' ⟨rfl, hb⟩
  exact ⟨rfl, h.below hb⟩
theorem aw6 (h : GSP g gm gs w (fun _ => False) 4 4 4 dA W) : Calls Try.prog 14 #[.pointer (some ⟨g, 0, none⟩), .int .i64 4, .string ⟨#[120]⟩, .bool false] W fun x w' => x = .returned (.int .i64 18) ∧ Below w.heap.size w w' := by
  have hz : ((⟨#[120]⟩ : ByteArray).size : Int) = 1 := rfl
  refine (h.put 4 ⟨#[120]⟩ false (fun n => if n = 4 then 120 else 0) (fun n => by dsimp only; split <;> omega) (fun x hx => hx.elim) ?_).mono ?_
  · intro x a b c e
    obtain rfl : x = 4 := by omega
    rfl
  · rintro x w' ⟨c, rfl, ⟨_, k1⟩, k2, _⟩
    have hc := k1 (by decide) (by decide) (by decide)
    subst hc
    exact ⟨rfl, below_step h.hb (k2 (by decide))⟩
end
set_option maxRecDepth 100000 in
set_option maxHeartbeats 4000000 in
theorem GAwake_calls (w : World) : Calls Try.prog 12 #[] w fun e w' => e = .returned (.bool true) ∧ Below w.heap.size w w' := by
  have HMK : Mk_ 0 := rfl
  go_enter Try.func12, Try.ntmps12
  go_wp2_with (first
    | (go_at_call 13; refine (GSP.new (Below.refl _ _) dA (dT_ok _)).mono ?_; rintro e w2 ⟨g, gm, gs, rfl, hs⟩; have HS := Aside0.mk hs; clear hs)
    | (have hm_ := (HMK : Mk_ 0); clear hm_ HMK; have HMK : Mk_ 1 := rfl; go_at_call 14; refine (aw1 HS.out).mono ?_; rintro e w3 ⟨rfl, hs⟩; have HS1 := Aside0.mk hs; clear hs)
    | (have hm_ := (HMK : Mk_ 1); clear hm_ HMK; have HMK : Mk_ 2 := rfl; go_at_call 15; refine (aw2 HS1.out).mono ?_; rintro e w4 ⟨rfl, hs⟩; have HS2 := Aside0.mk hs; clear hs)
    | (have hm_ := (HMK : Mk_ 2); clear hm_ HMK; have HMK : Mk_ 3 := rfl; go_at_call 14; refine (aw3 HS2.out).mono ?_; rintro e w5 ⟨rfl, hs⟩; have HS3 := Aside0.mk hs; clear hs)
    | (have hm_ := (HMK : Mk_ 3); clear hm_ HMK; have HMK : Mk_ 4 := rfl; go_at_call 15; refine (aw4 HS3.out).mono ?_; rintro e w6 ⟨rfl, hs⟩; have HS4 := Aside0.mk hs; clear hs)
    | (go_at_call 56; refine (aw5 HS4.out).mono ?_; rintro e w7 ⟨rfl, hs⟩; have HS5 := Aside0.mk hs; clear hs)
    | (have hm_ := (HMK : Mk_ 4); clear hm_ HMK; have HMK : Mk_ 5 := rfl; go_at_call 14; refine (aw6 HS5.out).mono ?_; rintro e w8 ⟨rfl, hb⟩; have HB := Aside0.mk hb; clear hb))
  go_ret
  exact ⟨rfl, HB.out⟩
end Go.Proofs.Ytiladcdogbeomaa.QRangesPlays

namespace Go.Proofs.Ytiladcdogbeomaa.QRangesPlays
open Go.RowKit Go.Shelf Go.Proofs.YtiladcdogbeomaaW.PrintWords Go.Proofs.YtiladcdogbeomaaW.PrintLast Go.Proofs.YtiladcdogbeomaaW.PrintMore Go.Proofs.Ytiladcdogbeomaa.RowLaws Go.Proofs.Ytiladcdogbeomaa.Lazy
open Go.Maps
attribute [local go_sem] Oper.semAt_some
/-- A buffer in some state whose final size is F (-1: not known). -/
def GF (g gm gs : Nat) (w : World) (F : Int) (W : World) : Prop := ∃ P T H d, GSP g gm gs w P T H F d W
section
variable {g gm gs : Nat} {w : World} {F : Int} {W W' : World}
theorem GF.below (h : GF g gm gs w F W) (hb : Below W.heap.size W W') : GF g gm gs w F W' := by
  obtain ⟨P, T, H, d, h⟩ := h
  exact ⟨P, T, H, d, h.below hb⟩
theorem GF.hb (h : GF g gm gs w F W) : Below w.heap.size w W := by
  obtain ⟨P, T, H, d, h⟩ := h
  exact h.hb
theorem fits_fin {H F e : Int} {fin : Bool} (h : fitsL H F e fin = true) (hF : F ≠ -1) : fiL F e fin = F := by
  unfold fitsL at h
  rw [if_neg hF] at h
  unfold fiL
  cases fin with
  | false => rfl
  | true => have hh : e ≤ F ∧ e = F := by simpa using h
            exact hh.2
theorem GF.put (h : GF g gm gs w F W) (off : Int) (s : ByteArray) (fin : Bool) : Calls Try.prog 14 #[.pointer (some ⟨g, 0, none⟩), .int .i64 off, .string s, .bool fin] W fun x w' => (∃ c, x = .returned (.int .i64 c) ∧ (c ≠ 0 → Below W.heap.size W w')) ∧ ∃ F', (F ≠ -1 → F' = F) ∧ GF g gm gs w F' w' := by
  obtain ⟨P, T, H, d, h⟩ := h
  classical
  obtain ⟨d2, hd2⟩ : ∃ d2 : Int → Int, d2 = fun x => if P x then d x else dT s (x - off) := ⟨_, rfl⟩
  refine (h.put off s fin d2 (fun n => by rw [hd2]; dsimp only; split; exact h.dok n; exact dT_ok s _) (fun x hx => by rw [hd2]; dsimp only; rw [if_pos hx]) (fun x a b c e => by
    rw [hd2]; dsimp only; rw [if_neg e]
    unfold dT
    have hi : (x - off).toNat < s.size := by omega
    rw [ByteArray.getElem?_lt' s _ hi]; rfl)).mono ?_
  rintro x w' ⟨c, rfl, _, k2, k3⟩
  refine ⟨⟨c, rfl, k2⟩, ?_⟩
  by_cases hc : c = 0
  · obtain ⟨hf, hs⟩ := k3 hc
    exact ⟨_, fun hF => fits_fin hf hF, _, _, _, _, hs⟩
  · exact ⟨F, fun _ => rfl, P, T, H, d, h.below (k2 hc)⟩
theorem GF.read (h : GF g gm gs w F W) (k : Int) : Calls Try.prog 15 #[.pointer (some ⟨g, 0, none⟩), .int .i64 k] W fun x w' => (∃ s b, x = .returned (.tuple #[.string s, .bool b])) ∧ GF g gm gs w F w' := by
  obtain ⟨P, T, H, d, h⟩ := h
  refine (h.read k).mono ?_
  rintro x w' ⟨m, _, _, rfl, hs⟩
  exact ⟨⟨_, _, rfl⟩, _, _, _, _, hs⟩
theorem GF.end_ (h : GF g gm gs w F W) (f : Int) : Calls Try.prog 32 #[.pointer (some ⟨g, 0, none⟩), .int .i64 f] W fun x w' => (∃ c, x = .returned (.int .i64 c)) ∧ ∃ F', (F ≠ -1 → F' = F) ∧ GF g gm gs w F' w' := by
  obtain ⟨P, T, H, d, h⟩ := h
  refine (h.end_ f).mono ?_
  rintro x w' ⟨c, rfl, hs | ⟨_, hF, hs⟩⟩
  · exact ⟨⟨c, rfl⟩, F, fun _ => rfl, _, _, _, _, hs⟩
  · exact ⟨⟨c, rfl⟩, f, fun hh => (hF.resolve_left hh).symm, _, _, _, _, hs⟩
end
abbrev gf9_ops : List Oper := [{ dst := some 36, op := .move (.tmp 5), type := 25, pos := "own.go:51", after := #[], guard := none },
  { dst := some 37, op := .move (.tmp 0), type := 62, pos := "own.go:51", after := #[], guard := none },
  { dst := some 38, op := .move (.tmp 7), type := 3, pos := "own.go:51", after := #[], guard := none },
  { dst := some 39, op := .indexAddr 62 (.tmp 37) (.tmp 38), type := 0, pos := "own.go:51", after := #[⟨1, .data⟩, ⟨2, .data⟩], guard := none },
  { dst := some 40, op := .fieldAddr 64 (.tmp 39) 1, type := 0, pos := "own.go:51", after := #[⟨3, .data⟩], guard := none },
  { dst := some 41, op := .load 3 (.tmp 40), type := 3, pos := "own.go:51", after := #[⟨4, .data⟩], guard := none },
  { dst := some 42, op := .move (.tmp 0), type := 62, pos := "own.go:51", after := #[], guard := none },
  { dst := some 43, op := .move (.tmp 7), type := 3, pos := "own.go:51", after := #[], guard := none },
  { dst := some 44, op := .indexAddr 62 (.tmp 42) (.tmp 43), type := 0, pos := "own.go:51", after := #[⟨6, .data⟩, ⟨7, .data⟩], guard := none },
  { dst := some 45, op := .fieldAddr 64 (.tmp 44) 2, type := 0, pos := "own.go:51", after := #[⟨8, .data⟩], guard := none },
  { dst := some 46, op := .load 9 (.tmp 45), type := 9, pos := "own.go:51", after := #[⟨9, .data⟩], guard := none },
  { dst := some 47, op := .move (.tmp 0), type := 62, pos := "own.go:51", after := #[], guard := none },
  { dst := some 48, op := .move (.tmp 7), type := 3, pos := "own.go:51", after := #[], guard := none },
  { dst := some 49, op := .indexAddr 62 (.tmp 47) (.tmp 48), type := 0, pos := "own.go:51", after := #[⟨11, .data⟩, ⟨12, .data⟩], guard := none },
  { dst := some 50, op := .fieldAddr 64 (.tmp 49) 3, type := 0, pos := "own.go:51", after := #[⟨13, .data⟩], guard := none },
  { dst := some 51, op := .load 4 (.tmp 50), type := 4, pos := "own.go:51", after := #[⟨14, .data⟩], guard := none },
  { dst := some 52, op := .call { callee := .value (.func 14), args := #[.tmp 36, .tmp 41, .tmp 46, .tmp 51], argTypes := #[25, 3, 9, 4] }, type := 29, pos := "own.go:51", after := #[⟨0, .data⟩, ⟨5, .data⟩, ⟨10, .data⟩, ⟨15, .data⟩], guard := none }]
abbrev gf9_tab : List (Option Nat) := [none, none, none, none, none, none, none, none, none, none, none, none, none, none, none, none, none, none, none, none, none, none, none, none, none, none, none, none, none, none, none, none, none, none, none, none, some 0, some 1, some 2, some 3, some 4, some 5, some 6, some 7, some 8, some 9, some 10, some 11, some 12, some 13, some 14, some 15, some 16, none, none, none, none, none, none, none, none, none, none, none, none, none, none, none, none, none, none, none, none, none, none, none, none, none, none, none, none, none, none, none, none, none, none, none, none, none, none, none, none, none, none, none, none, none, none, none, none, none, none, none, none, none, none, none, none, none, none, none, none, none, none, none, none, none, none, none, none, none, none, none, none, none, none, none, none, none, none, none, none, none, none, none, none, none, none, none, none, none, none]

def gf9_val (g gm gs b0 o0 n c0 i : Nat) (w0 : World) (F f : Int) (s : ByteArray) (fin : Bool) : Nat → Value → World → Prop := fun j v W => match j with
  | 0 => v = .pointer (some ⟨g, 0, none⟩)
  | 1 => v = .slice (some ⟨b0, o0, none⟩) n c0
  | 2 => v = .int .i64 (i : Int)
  | 3 => v = .pointer (some ⟨b0, o0 + i * 4, none⟩)
  | 4 => v = .pointer (some ⟨b0, o0 + i * 4 + 1, none⟩)
  | 5 => v = .int .i64 f
  | 6 => v = .slice (some ⟨b0, o0, none⟩) n c0
  | 7 => v = .int .i64 (i : Int)
  | 8 => v = .pointer (some ⟨b0, o0 + i * 4, none⟩)
  | 9 => v = .pointer (some ⟨b0, o0 + i * 4 + 2, none⟩)
  | 10 => v = .string s
  | 11 => v = .slice (some ⟨b0, o0, none⟩) n c0
  | 12 => v = .int .i64 (i : Int)
  | 13 => v = .pointer (some ⟨b0, o0 + i * 4, none⟩)
  | 14 => v = .pointer (some ⟨b0, o0 + i * 4 + 3, none⟩)
  | 15 => v = .bool fin
  | 16 => True
  | _ => True

set_option maxRecDepth 100000 in
set_option maxHeartbeats 4000000 in
theorem GFin_r9 (g gm gs b0 o0 n c0 i : Nat) (w0 : World) (F f : Int) (s : ByteArray) (fin : Bool) (t0 : List Value) (d0 : List Deferred) (w : World) (Q : Exit → Act → World → Prop) (hl : t0.length = gf9_tab.length)
    (t5 : t0[5]? = some (.pointer (some ⟨g, 0, none⟩))) (t0_ : t0[0]? = some (.slice (some ⟨b0, o0, none⟩) n c0)) (t7 : t0[7]? = some (.int .i64 (i : Int))) (hi : i < n) (h : GF g gm gs w0 F w)
    (z1 : w.cell? ⟨b0, o0 + i * 4 + 1, none⟩ = some (.int .i64 f)) (z2 : w.cell? ⟨b0, o0 + i * 4 + 2, none⟩ = some (.string s)) (z3 : w.cell? ⟨b0, o0 + i * 4 + 3, none⟩ = some (.bool fin))
    (hQ : ∀ σ W, (∃ F', (F ≠ -1 → F' = F) ∧ GF g gm gs w0 F' W) → Q .normal (lazyA (fun _ => true) σ t0 gf9_tab d0) W) :
    (Code.region 9 gf9_ops.toArray true).wp Try.prog Q { tmps := t0.toArray, defers := d0 } w := by
  refine wp_region_valsO (by kernel_rfl) gf9_tab (by kernel_rfl) hl (fun i => [].contains i) (fun i W W' => True) (fun L W => (L 16 = false → Below w.heap.size w W) ∧ (L 16 = true → (∃ F', (F ≠ -1 → F' = F) ∧ GF g gm gs w0 F' W))) (gf9_val g gm gs b0 o0 n c0 i w0 F f s fin) (⟨fun _ => below_drew (Below.refl _ _), fun e => by cases e⟩) ?hst ⟨⟨(fun j b h => by cases h), fun _ => rfl⟩, ⟨(fun j b h => by cases h), fun _ => rfl⟩, ⟨(fun j b h => by cases h), fun _ => rfl⟩, ⟨(fun j b h => by cases h), fun _ => rfl⟩, ⟨(fun j b h => by cases h), fun _ => rfl⟩, ⟨(fun j b h => by cases h), fun _ => rfl⟩, ⟨(fun j b h => by cases h), fun _ => rfl⟩, ⟨(fun j b h => by cases h), fun _ => rfl⟩, ⟨(fun j b h => by cases h), fun _ => rfl⟩, ⟨(fun j b h => by cases h), fun _ => rfl⟩, ⟨(fun j b h => by cases h), fun _ => rfl⟩, ⟨(fun j b h => by cases h), fun _ => rfl⟩, ⟨(fun j b h => by cases h), fun _ => rfl⟩, ⟨(fun j b h => by cases h), fun _ => rfl⟩, ⟨(fun j b h => by cases h), fun _ => rfl⟩, ⟨(fun j b h => by cases h), fun _ => rfl⟩, ⟨(fun j b h => by cases h), fun _ => rfl⟩, trivial⟩ ⟨?s0, ?s1, ?s2, ?s3, ?s4, ?s5, ?s6, ?s7, ?s8, ?s9, ?s10, ?s11, ?s12, ?s13, ?s14, ?s15, ?s16, trivial⟩ ?hskip ?hdone
  case hst =>
    intro L i j v W W' hLi hLj hne hcl hR h
    match j with
    | 0 => exact h
    | 1 => exact h
    | 2 => exact h
    | 3 => exact h
    | 4 => exact h
    | 5 => exact h
    | 6 => exact h
    | 7 => exact h
    | 8 => exact h
    | 9 => exact h
    | 10 => exact h
    | 11 => exact h
    | 12 => exact h
    | 13 => exact h
    | 14 => exact h
    | 15 => exact h
    | 16 => exact h
    | n + 17 => trivial

  case s0 =>
    intro _ L ρ W hLi hcl hold hJ hT
    have q5 := hT.2.1 5 _ t5 rfl
    have nk : L 16 = false := Bool.eq_false_iff.2 fun e => by have a0 := hcl 16 0 (by rfl) e; rw [a0] at hLi; cases hLi
    have hB := hJ.1 nk
    refine Op1.of_run (v := .pointer (some ⟨g, 0, none⟩)) (W' := W) (by clear hT hJ hcl hold; go_simp) ⟨trivial, ⟨fun _ => hB, fun e => by rw [upd_ne (by decide), nk] at e; cases e⟩, rfl⟩

  case s1 =>
    intro _ L ρ W hLi hcl hold hJ hT
    have q0 := hT.2.1 0 _ t0_ rfl
    have nk : L 16 = false := Bool.eq_false_iff.2 fun e => by have a5 := hcl 16 5 (by rfl) e; have a4 := hcl 5 4 (by rfl) a5; have a3 := hcl 4 3 (by rfl) a4; have a1 := hcl 3 1 (by rfl) a3; rw [a1] at hLi; cases hLi
    have hB := hJ.1 nk
    refine Op1.of_run (v := .slice (some ⟨b0, o0, none⟩) n c0) (W' := W) (by clear hT hJ hcl hold; go_simp) ⟨trivial, ⟨fun _ => hB, fun e => by rw [upd_ne (by decide), nk] at e; cases e⟩, rfl⟩

  case s2 =>
    intro _ L ρ W hLi hcl hold hJ hT
    have q7 := hT.2.1 7 _ t7 rfl
    have nk : L 16 = false := Bool.eq_false_iff.2 fun e => by have a5 := hcl 16 5 (by rfl) e; have a4 := hcl 5 4 (by rfl) a5; have a3 := hcl 4 3 (by rfl) a4; have a2 := hcl 3 2 (by rfl) a3; rw [a2] at hLi; cases hLi
    have hB := hJ.1 nk
    refine Op1.of_run (v := .int .i64 (i : Int)) (W' := W) (by clear hT hJ hcl hold; go_simp) ⟨trivial, ⟨fun _ => hB, fun e => by rw [upd_ne (by decide), nk] at e; cases e⟩, rfl⟩

  case s3 =>
    intro _ L ρ W hLi hcl hold hJ hT
    have q37 : ρ (.tmp 37) = .slice (some ⟨b0, o0, none⟩) n c0 := hT.1 37 1 rfl rfl
    have q38 : ρ (.tmp 38) = .int .i64 (i : Int) := hT.1 38 2 rfl rfl
    have nk : L 16 = false := Bool.eq_false_iff.2 fun e => by have a5 := hcl 16 5 (by rfl) e; have a4 := hcl 5 4 (by rfl) a5; have a3 := hcl 4 3 (by rfl) a4; rw [a3] at hLi; cases hLi
    have hB := hJ.1 nk
    have i1 : (i : Int) < (n : Int) := by omega
    refine Op1.of_run (v := .pointer (some ⟨b0, o0 + i * 4, none⟩)) (W' := W) (by clear hT hJ hcl hold; go_simp) ⟨trivial, ⟨fun _ => hB, fun e => by rw [upd_ne (by decide), nk] at e; cases e⟩, rfl⟩

  case s4 =>
    intro _ L ρ W hLi hcl hold hJ hT
    have q39 : ρ (.tmp 39) = .pointer (some ⟨b0, o0 + i * 4, none⟩) := hT.1 39 3 rfl rfl
    have nk : L 16 = false := Bool.eq_false_iff.2 fun e => by have a5 := hcl 16 5 (by rfl) e; have a4 := hcl 5 4 (by rfl) a5; rw [a4] at hLi; cases hLi
    have hB := hJ.1 nk
    refine Op1.of_run (v := .pointer (some ⟨b0, o0 + i * 4 + 1, none⟩)) (W' := W) (by clear hT hJ hcl hold; go_simp) ⟨trivial, ⟨fun _ => hB, fun e => by rw [upd_ne (by decide), nk] at e; cases e⟩, rfl⟩

  case s5 =>
    intro _ L ρ W hLi hcl hold hJ hT
    have q40 : ρ (.tmp 40) = .pointer (some ⟨b0, o0 + i * 4 + 1, none⟩) := hT.1 40 4 rfl rfl
    have nk : L 16 = false := Bool.eq_false_iff.2 fun e => by have a5 := hcl 16 5 (by rfl) e; rw [a5] at hLi; cases hLi
    have hB := hJ.1 nk
    have cc := (hB.cell (World.block_lt_of_cell? _ _ z1)).trans z1
    refine Op1.of_run (v := .int .i64 f) (W' := W) (by clear hT hJ hcl hold; go_simp) ⟨trivial, ⟨fun _ => hB, fun e => by rw [upd_ne (by decide), nk] at e; cases e⟩, rfl⟩

  case s6 =>
    intro _ L ρ W hLi hcl hold hJ hT
    have q0 := hT.2.1 0 _ t0_ rfl
    have nk : L 16 = false := Bool.eq_false_iff.2 fun e => by have a10 := hcl 16 10 (by rfl) e; have a9 := hcl 10 9 (by rfl) a10; have a8 := hcl 9 8 (by rfl) a9; have a6 := hcl 8 6 (by rfl) a8; rw [a6] at hLi; cases hLi
    have hB := hJ.1 nk
    refine Op1.of_run (v := .slice (some ⟨b0, o0, none⟩) n c0) (W' := W) (by clear hT hJ hcl hold; go_simp) ⟨trivial, ⟨fun _ => hB, fun e => by rw [upd_ne (by decide), nk] at e; cases e⟩, rfl⟩

  case s7 =>
    intro _ L ρ W hLi hcl hold hJ hT
    have q7 := hT.2.1 7 _ t7 rfl
    have nk : L 16 = false := Bool.eq_false_iff.2 fun e => by have a10 := hcl 16 10 (by rfl) e; have a9 := hcl 10 9 (by rfl) a10; have a8 := hcl 9 8 (by rfl) a9; have a7 := hcl 8 7 (by rfl) a8; rw [a7] at hLi; cases hLi
    have hB := hJ.1 nk
    refine Op1.of_run (v := .int .i64 (i : Int)) (W' := W) (by clear hT hJ hcl hold; go_simp) ⟨trivial, ⟨fun _ => hB, fun e => by rw [upd_ne (by decide), nk] at e; cases e⟩, rfl⟩

  case s8 =>
    intro _ L ρ W hLi hcl hold hJ hT
    have q42 : ρ (.tmp 42) = .slice (some ⟨b0, o0, none⟩) n c0 := hT.1 42 6 rfl rfl
    have q43 : ρ (.tmp 43) = .int .i64 (i : Int) := hT.1 43 7 rfl rfl
    have nk : L 16 = false := Bool.eq_false_iff.2 fun e => by have a10 := hcl 16 10 (by rfl) e; have a9 := hcl 10 9 (by rfl) a10; have a8 := hcl 9 8 (by rfl) a9; rw [a8] at hLi; cases hLi
    have hB := hJ.1 nk
    have i1 : (i : Int) < (n : Int) := by omega
    refine Op1.of_run (v := .pointer (some ⟨b0, o0 + i * 4, none⟩)) (W' := W) (by clear hT hJ hcl hold; go_simp) ⟨trivial, ⟨fun _ => hB, fun e => by rw [upd_ne (by decide), nk] at e; cases e⟩, rfl⟩

  case s9 =>
    intro _ L ρ W hLi hcl hold hJ hT
    have q44 : ρ (.tmp 44) = .pointer (some ⟨b0, o0 + i * 4, none⟩) := hT.1 44 8 rfl rfl
    have nk : L 16 = false := Bool.eq_false_iff.2 fun e => by have a10 := hcl 16 10 (by rfl) e; have a9 := hcl 10 9 (by rfl) a10; rw [a9] at hLi; cases hLi
    have hB := hJ.1 nk
    refine Op1.of_run (v := .pointer (some ⟨b0, o0 + i * 4 + 2, none⟩)) (W' := W) (by clear hT hJ hcl hold; go_simp) ⟨trivial, ⟨fun _ => hB, fun e => by rw [upd_ne (by decide), nk] at e; cases e⟩, rfl⟩

  case s10 =>
    intro _ L ρ W hLi hcl hold hJ hT
    have q45 : ρ (.tmp 45) = .pointer (some ⟨b0, o0 + i * 4 + 2, none⟩) := hT.1 45 9 rfl rfl
    have nk : L 16 = false := Bool.eq_false_iff.2 fun e => by have a10 := hcl 16 10 (by rfl) e; rw [a10] at hLi; cases hLi
    have hB := hJ.1 nk
    have cc := (hB.cell (World.block_lt_of_cell? _ _ z2)).trans z2
    refine Op1.of_run (v := .string s) (W' := W) (by clear hT hJ hcl hold; go_simp) ⟨trivial, ⟨fun _ => hB, fun e => by rw [upd_ne (by decide), nk] at e; cases e⟩, rfl⟩

  case s11 =>
    intro _ L ρ W hLi hcl hold hJ hT
    have q0 := hT.2.1 0 _ t0_ rfl
    have nk : L 16 = false := Bool.eq_false_iff.2 fun e => by have a15 := hcl 16 15 (by rfl) e; have a14 := hcl 15 14 (by rfl) a15; have a13 := hcl 14 13 (by rfl) a14; have a11 := hcl 13 11 (by rfl) a13; rw [a11] at hLi; cases hLi
    have hB := hJ.1 nk
    refine Op1.of_run (v := .slice (some ⟨b0, o0, none⟩) n c0) (W' := W) (by clear hT hJ hcl hold; go_simp) ⟨trivial, ⟨fun _ => hB, fun e => by rw [upd_ne (by decide), nk] at e; cases e⟩, rfl⟩

  case s12 =>
    intro _ L ρ W hLi hcl hold hJ hT
    have q7 := hT.2.1 7 _ t7 rfl
    have nk : L 16 = false := Bool.eq_false_iff.2 fun e => by have a15 := hcl 16 15 (by rfl) e; have a14 := hcl 15 14 (by rfl) a15; have a13 := hcl 14 13 (by rfl) a14; have a12 := hcl 13 12 (by rfl) a13; rw [a12] at hLi; cases hLi
    have hB := hJ.1 nk
    refine Op1.of_run (v := .int .i64 (i : Int)) (W' := W) (by clear hT hJ hcl hold; go_simp) ⟨trivial, ⟨fun _ => hB, fun e => by rw [upd_ne (by decide), nk] at e; cases e⟩, rfl⟩

  case s13 =>
    intro _ L ρ W hLi hcl hold hJ hT
    have q47 : ρ (.tmp 47) = .slice (some ⟨b0, o0, none⟩) n c0 := hT.1 47 11 rfl rfl
    have q48 : ρ (.tmp 48) = .int .i64 (i : Int) := hT.1 48 12 rfl rfl
    have nk : L 16 = false := Bool.eq_false_iff.2 fun e => by have a15 := hcl 16 15 (by rfl) e; have a14 := hcl 15 14 (by rfl) a15; have a13 := hcl 14 13 (by rfl) a14; rw [a13] at hLi; cases hLi
    have hB := hJ.1 nk
    have i1 : (i : Int) < (n : Int) := by omega
    refine Op1.of_run (v := .pointer (some ⟨b0, o0 + i * 4, none⟩)) (W' := W) (by clear hT hJ hcl hold; go_simp) ⟨trivial, ⟨fun _ => hB, fun e => by rw [upd_ne (by decide), nk] at e; cases e⟩, rfl⟩

  case s14 =>
    intro _ L ρ W hLi hcl hold hJ hT
    have q49 : ρ (.tmp 49) = .pointer (some ⟨b0, o0 + i * 4, none⟩) := hT.1 49 13 rfl rfl
    have nk : L 16 = false := Bool.eq_false_iff.2 fun e => by have a15 := hcl 16 15 (by rfl) e; have a14 := hcl 15 14 (by rfl) a15; rw [a14] at hLi; cases hLi
    have hB := hJ.1 nk
    refine Op1.of_run (v := .pointer (some ⟨b0, o0 + i * 4 + 3, none⟩)) (W' := W) (by clear hT hJ hcl hold; go_simp) ⟨trivial, ⟨fun _ => hB, fun e => by rw [upd_ne (by decide), nk] at e; cases e⟩, rfl⟩

  case s15 =>
    intro _ L ρ W hLi hcl hold hJ hT
    have q50 : ρ (.tmp 50) = .pointer (some ⟨b0, o0 + i * 4 + 3, none⟩) := hT.1 50 14 rfl rfl
    have nk : L 16 = false := Bool.eq_false_iff.2 fun e => by have a15 := hcl 16 15 (by rfl) e; rw [a15] at hLi; cases hLi
    have hB := hJ.1 nk
    have cc := (hB.cell (World.block_lt_of_cell? _ _ z3)).trans z3
    refine Op1.of_run (v := .bool fin) (W' := W) (by clear hT hJ hcl hold; go_simp) ⟨trivial, ⟨fun _ => hB, fun e => by rw [upd_ne (by decide), nk] at e; cases e⟩, rfl⟩

  case s16 =>
    intro _ L ρ W hLi hcl hold hJ hT
    have q36 : ρ (.tmp 36) = .pointer (some ⟨g, 0, none⟩) := hT.1 36 0 rfl rfl
    have q41 : ρ (.tmp 41) = .int .i64 f := hT.1 41 5 rfl rfl
    have q46 : ρ (.tmp 46) = .string s := hT.1 46 10 rfl rfl
    have q51 : ρ (.tmp 51) = .bool fin := hT.1 51 15 rfl rfl
    have hB := hJ.1 hLi
    have qf := hT.2.2.2 14
    refine Op1.of_call (f := 14) (args := #[.pointer (some ⟨g, 0, none⟩), .int .i64 f, .string s, .bool fin]) (W' := W) (by clear hT hJ hcl hold; go_simp) ?_
    refine ((h.below hB).put f s fin).mono ?_
    rintro e W2 ⟨⟨c, rfl, _⟩, hF⟩
    exact ⟨_, rfl, trivial, ⟨(fun e => by rw [upd_self] at e; cases e), fun _ => hF⟩, trivial⟩

  case hskip => intro i hi; simp at hi

  case hdone =>
    intro σ L W hL hJ hV
    exact hQ σ W (hJ.2 (hL 16 (by decide)))
end Go.Proofs.Ytiladcdogbeomaa.QRangesPlays

namespace Go.Proofs.Ytiladcdogbeomaa.QRangesPlays
open Go.RowKit Go.Shelf Go.Proofs.YtiladcdogbeomaaW.PrintWords Go.Proofs.YtiladcdogbeomaaW.PrintLast Go.Proofs.YtiladcdogbeomaaW.PrintMore Go.Proofs.Ytiladcdogbeomaa.RowLaws Go.Proofs.Ytiladcdogbeomaa.Lazy
open Go.Maps
attribute [local go_sem] Oper.semAt_some max2_int min2_int max_two min_two
abbrev G4 := Int × Int × ByteArray × Bool
def GRow (W : World) (A : Option Addr) (xs : List G4) : Prop := ∀ i (hi : i < xs.length), ∃ b o, A = some ⟨b, o, none⟩ ∧ W.cell? ⟨b, o + i * 4, none⟩ = some (.int .u8 xs[i].1) ∧ W.cell? ⟨b, o + i * 4 + 1, none⟩ = some (.int .i64 xs[i].2.1) ∧ W.cell? ⟨b, o + i * 4 + 2, none⟩ = some (.string xs[i].2.2.1) ∧ W.cell? ⟨b, o + i * 4 + 3, none⟩ = some (.bool xs[i].2.2.2)
theorem GRow.below {W W' : World} {A : Option Addr} {xs : List G4} (h : GRow W A xs) (hb : Below W.heap.size W W') : GRow W' A xs := by
  intro i hi
  obtain ⟨b, o, hA, z0, z1, z2, z3⟩ := h i hi
  have key : ∀ p v, W.cell? p = some v → W'.cell? p = some v := fun p v hc => (hb.cell (World.block_lt_of_cell? _ _ hc)).trans hc
  exact ⟨b, o, hA, key _ _ z0, key _ _ z1, key _ _ z2, key _ _ z3⟩
theorem GRow.one (W : World) (k f : Int) (s : ByteArray) (fin : Bool) (m : Nat) (hm : m = W.heap.size) : GRow (W.alloc (.cells #[.int .u8 k, .int .i64 f, .string s, .bool fin] 64)) (some ⟨m, 0, none⟩) [(k, f, s, fin)] := by
  subst hm
  intro i hi
  obtain rfl : i = 0 := by simpa using hi
  have hb := heap_alloc_new W (.cells #[.int .u8 k, .int .i64 f, .string s, .bool fin] 64)
  refine ⟨W.heap.size, 0, rfl, ?_, ?_, ?_, ?_⟩ <;> (unfold World.cell?; rw [hb]; rfl)
def FewP (n : Nat) (w : World) (e : Ending) (w' : World) : Prop := ∃ b, e = .returned (.bool b) ∧ Below w.heap.size w w' ∧ (b = true → n ≤ 60)
set_option maxRecDepth 100000 in
set_option maxHeartbeats 4000000 in
theorem GFew_calls (A : Option Addr) (c : Nat) (xs : List G4) (w : World) (hA : GRow w A xs) (hc : xs.length ≤ c) :
    Calls Try.prog 31 #[.slice A xs.length c] w fun e w' => FewP xs.length w e w' := by
  obtain ⟨n, hn⟩ : ∃ n, xs.length = n := ⟨_, rfl⟩
  have HA := Aside0.mk hA
  have HN := Aside0.mk hn
  rw [hn] at hc ⊢
  clear hA hn
  by_cases h1 : 60 < n
  · have e1 : (60 : Int) < (n : Int) := by omega
    go_enter Try.func31, Try.ntmps31
    go_wp2
    go_ret
    exact ⟨false, rfl, Below.refl _ _, fun h => by cases h⟩
  · have e1 : ¬ (60 : Int) < (n : Int) := by omega
    have HNN := Aside0.mk h1
    go_enter Try.func31, Try.ntmps31
    go_wp2
    go_loopw [3, 4] (fun nv i wr => ∃ (q : Nat) (z : Int), q ≤ n ∧ 0 ≤ z ∧ z ≤ 2000 ∧ i = .int .i64 q ∧ nv = .int .i64 z ∧ Aside0 (Below w.heap.size w wr)) (fun _ i _ => n - (intOf i).toNat)
    case atStart => exact ⟨0, 0, Nat.zero_le _, by omega, by omega, rfl, rfl, ⟨Below.refl _ _⟩⟩
    case round =>
      obtain ⟨q, z, hq, hz1, hz2, rfl, rfl, HW⟩ := hrel
      by_cases hlt : q < n
      · have hlt2 : (q : Int) < (n : Int) := by omega
        obtain ⟨b0, o0, rfl, z0, y1, y2, y3⟩ := (HA.out.below HW.out) q (by have := HN.out; omega)
        generalize (xs[q]'(by have := HN.out; omega)).2.2.1 = s at *
        obtain ⟨mn, hmn⟩ : ∃ mn, (if (2001 : Int) < (s.size : Int) then 2001 else (s.size : Int)) = mn := ⟨_, rfl⟩
        have hmb : 0 ≤ mn ∧ mn ≤ 2001 := by rw [← hmn]; split <;> omega
        have e2 : IntKind.i64.wrap (z + mn) = z + mn := IntWalk.i64_in _ (by omega)
        have e3 : IntKind.i64.wrap ((q : Int) + 1) = (q : Int) + 1 := IntWalk.i64_in _ (by omega)
        clear z0 y1 y3
        by_cases hbig : 2000 < z + mn
        · go_wp2
          go_ret
          exact ⟨false, rfl, HW.out, fun h => by cases h⟩
        · go_wp2
          go_roundw
          case rel => exact ⟨q + 1, z + mn, by omega, by omega, by omega, by simp, rfl, HW⟩
          case measure => simp [intOf]; omega
      · have hqn : q = n := by omega
        subst hqn
        go_wp2
        go_ret
        exact ⟨true, rfl, HW.out, fun _ => by have := HNN.out; omega⟩
theorem GFin_boxed {W W' : World} {X : Nat} {k f : Int} {s : ByteArray} {fin : Bool} (h : W.heap[X]? = some (.cells #[.int .u8 k, .int .i64 f, .string s, .bool fin] 64 (0, 0))) (hb : Below W.heap.size W W') : W'.heap[X]? = some (.cells #[.int .u8 k, .int .i64 f, .string s, .bool fin] 64 (0, 0)) := (hb.block X (lt_of_block h)).trans h
theorem box4 {W : World} {X : Nat} {k f : Int} {s : ByteArray} {fin : Bool} (h : W.heap[X]? = some (.cells #[.int .u8 k, .int .i64 f, .string s, .bool fin] 64 (0, 0))) : W.cell? ⟨X, 0, none⟩ = some (.int .u8 k) ∧ W.cell? ⟨X, 1, none⟩ = some (.int .i64 f) ∧ W.cell? ⟨X, 2, none⟩ = some (.string s) ∧ W.cell? ⟨X, 3, none⟩ = some (.bool fin) := by
  refine ⟨?_, ?_, ?_, ?_⟩ <;> (unfold World.cell?; rw [h]; rfl)
set_option maxRecDepth 100000 in
set_option maxHeartbeats 8000000 in
theorem GatherFinal_walk (A : Option Addr) (c : Nat) (xs : List G4) (k f : Int) (s : ByteArray) (fin : Bool) (w : World) (hA : GRow w A xs) (hx : ∀ x ∈ xs, 0 ≤ x.1 ∧ x.1 < 256) (hc : xs.length ≤ c) :
    Calls Try.prog 5 #[.slice A xs.length c, .agg #[.int .u8 k, .int .i64 f, .string s, .bool fin]] w fun e w' => e = .returned (.bool true) ∧ Below w.heap.size w w' := by
  have HFEW := Aside0.mk (fun W (hb : Below w.heap.size w W) => GFew_calls A c xs W (hA.below hb) hc)
  have HA := Aside0.mk hA
  have HX := Aside0.mk hx
  obtain ⟨n, hn⟩ : ∃ n, xs.length = n := ⟨_, rfl⟩
  have HN := Aside0.mk hn
  rw [hn] at HFEW hc ⊢
  have hb0 := below_alloc (Below.refl w.heap.size w) (.cells #[.int .u8 k, .int .i64 f, .string s, .bool fin] 64)
  have HB0 := Aside0.mk hb0
  have HBX := Aside0.mk (heap_alloc_new w (.cells #[.int .u8 k, .int .i64 f, .string s, .bool fin] 64))
  clear hA hx hn hb0
  go_enter Try.func5, Try.ntmps5
  go_wp2_with (go_at_call 31; refine (HFEW.out _ HB0.out).mono ?_; rintro e w2 ⟨b1, rfl, hb, h60⟩; refine park ?_)
  have HB2 := Aside0.mk (below_step HB0.out hb)
  have HX2 := Aside0.mk (GFin_boxed HBX.out hb)
  clear hb
  cases b1 with
  | false =>
    refine ⟨?_⟩
    go_wp2_with (go_at_call 12; refine (GAwake_calls _).mono ?_; rintro e w9 ⟨rfl, hb⟩; have HB9 := Aside0.mk hb; clear hb)
    go_ret
    exact ⟨rfl, below_step HB2.out HB9.out⟩
  | true =>
    have h60' : n ≤ 60 := h60 rfl
    obtain ⟨x0, x1, x2, x3⟩ := box4 HX2.out
    have HB3 := Aside0.mk (below_alloc (Below.refl w2.heap.size w2) (.cells #[.int .u8 k, .int .i64 f, .string s, .bool fin] 64))
    have HR3 := Aside0.mk (GRow.one w2 k f s fin _ rfl)
    refine ⟨?_⟩
    clear h60 HBX HFEW
    go_wp2_with (go_at_call 31; refine (GFew_calls _ 1 [(k, f, s, fin)] _ HR3.out (Nat.le_refl _)).mono ?_; rintro e w3 ⟨b2, rfl, hb, -⟩; refine park ?_)
    have HB4 := Aside0.mk (below_step HB2.out (below_step HB3.out hb))
    have HX4 := Aside0.mk (GFin_boxed (GFin_boxed HX2.out HB3.out) hb)
    clear hb HB3 HR3 x0 x1 x2 x3
    cases b2 with
    | false =>
      refine ⟨?_⟩
      go_wp2_with (go_at_call 12; refine (GAwake_calls _).mono ?_; rintro e w9 ⟨rfl, hb⟩; have HB9 := Aside0.mk hb; clear hb)
      go_ret
      exact ⟨rfl, below_step HB4.out HB9.out⟩
    | true =>
      refine ⟨?_⟩
      go_wp2_with (go_at_call 13; refine (GSP.new (Below.refl _ _) dA (dT_ok _)).mono ?_; rintro e w4 ⟨g, gm, gs, rfl, hs⟩; have HS4 := Aside0.mk hs; clear hs)
      obtain ⟨X, hX⟩ : ∃ X, w.heap.size = X := ⟨_, rfl⟩
      rw [hX] at HX4 HX2 ⊢
      have HXW := Aside0.mk hX
      clear hX
      go_loopw [6, 7] (fun fv i wr => ∃ (q : Nat) (F : Int), q ≤ n ∧ i = .int .i64 q ∧ fv = .int .i64 F ∧ Aside0 (GF g gm gs w3 F wr)) (fun _ i _ => n - (intOf i).toNat)
      case atStart => exact ⟨0, -1, Nat.zero_le _, rfl, rfl, ⟨_, _, _, _, HS4.out⟩⟩
      case round =>
        obtain ⟨q, F, hq, rfl, rfl, HF⟩ := hrel
        by_cases hlt : q < n
        · have hlt2 : (q : Int) < (n : Int) := by omega
          have e3 : IntKind.i64.wrap ((q : Int) + 1) = (q : Int) + 1 := IntWalk.i64_in _ (by omega)
          have hqx : q < xs.length := by have := HN.out; omega
          obtain ⟨b0, o0, rfl, z0, z1, z2, z3⟩ := (HA.out.below (below_step HB4.out HF.out.hb)) q hqx
          have hkq := HX.out xs[q] (List.getElem_mem _)
          generalize xs[q].1 = kq at *
          generalize xs[q].2.1 = fq at *
          generalize xs[q].2.2.1 = sq at *
          generalize xs[q].2.2.2 = nq at *
          obtain ⟨κ, hκ⟩ : ∃ κ, kq % 6 = κ := ⟨_, rfl⟩
          have hk2 : Int.tmod kq 6 = κ := by rw [Int.tmod_eq_emod_of_nonneg hkq.1, hκ]
          have hκb : 0 ≤ κ ∧ κ < 6 := by omega
          clear hκ hkq
          by_cases h4 : κ = 4
          · subst h4
            go_wp2_with (go_at_call 15; refine (HF.out.read fq).mono ?_; rintro e w5 ⟨⟨s5, b5, rfl⟩, hf⟩; refine park ?_)
            obtain ⟨F2, hF2, hFF⟩ : ∃ F2, (F ≠ -1 → F2 = F) ∧ F2 = F := ⟨F, fun _ => rfl, rfl⟩
            have HF2 := Aside0.mk (show GF g gm gs w3 F2 w5 by rw [hFF]; exact hf)
            clear hf hFF z0 z1 z2 z3
            refine ⟨?_⟩
            obtain ⟨P, T, H, d, hs⟩ := HF2.out
            obtain ⟨-, bT, bTH, -, bF⟩ := hs.bounds
            have HS := Aside0.mk hs
            have HFN := Aside0.mk hs.final
            clear hs
            by_cases e2 : F2 = -1
            · subst e2
              have e1 : F = -1 := by
                by_cases h : F = -1
                · exact h
                · exact (hF2 h).symm
              subst e1
              rw [show finV (-1) = 0 from rfl, show finB (-1) = false from rfl] at HFN
              clear hF2 HF2 bF bT bTH
              go_wp2_with (go_at_call 33; refine HFN.out.mono ?_; rintro e w6 ⟨rfl, hb⟩; have HS6 := Aside0.mk (HS.out.below hb); clear hb)
              go_roundw
              case rel => exact ⟨q + 1, -1, by omega, by simp, rfl, ⟨P, T, H, d, HS6.out⟩⟩
              case measure => simp [intOf]; omega
            · have bF2 : H ≤ F2 := by rcases bF with h | h; exact absurd h e2; exact h.1
              have bT2 : T ≤ F2 := by omega
              have b1 : ¬ F2 < H := by omega
              have b2 : ¬ F2 < T := by omega
              rw [show finV F2 = F2 from if_neg e2, show finB F2 = true by simp [finB, e2]] at HFN
              by_cases e1 : F = -1
              · subst e1
                clear hF2 HF2 bF bT bTH
                go_wp2_with (first | (go_at_call 33; refine HFN.out.mono ?_; rintro e w6 ⟨rfl, hb⟩; have HS6 := Aside0.mk (HS.out.below hb); clear hb) | (go_at_call 34; refine HS6.out.high.mono ?_; rintro e w7 ⟨rfl, hb⟩; have HS7 := Aside0.mk (HS6.out.below hb); clear hb) | (go_at_call 16; refine HS7.out.taken.mono ?_; rintro e w8 ⟨rfl, hb⟩; have HS8 := Aside0.mk (HS7.out.below hb); clear hb))
                go_roundw
                case rel => exact ⟨q + 1, F2, by omega, by simp, rfl, ⟨P, T, H, d, HS8.out⟩⟩
                case measure => simp [intOf]; omega
              · obtain rfl : F2 = F := hF2 e1
                have b3 : 0 ≤ F2 := by omega
                clear hF2 HF2 bF bT bTH
                go_wp2_with (first | (go_at_call 33; refine HFN.out.mono ?_; rintro e w6 ⟨rfl, hb⟩; have HS6 := Aside0.mk (HS.out.below hb); clear hb) | (go_at_call 34; refine HS6.out.high.mono ?_; rintro e w7 ⟨rfl, hb⟩; have HS7 := Aside0.mk (HS6.out.below hb); clear hb) | (go_at_call 16; refine HS7.out.taken.mono ?_; rintro e w8 ⟨rfl, hb⟩; have HS8 := Aside0.mk (HS7.out.below hb); clear hb))
                go_roundw
                case rel => exact ⟨q + 1, F2, by omega, by simp, rfl, ⟨P, T, H, d, HS8.out⟩⟩
                case measure => simp [intOf]; omega
          · by_cases h5 : κ = 5
            · subst h5
              go_wp2_with (go_at_call 32; refine (HF.out.end_ fq).mono ?_; rintro e w5 ⟨⟨c5, rfl⟩, F2, hF2, hf⟩; refine park ?_)
              have HF2 := Aside0.mk hf
              clear hf z0 z1 z2 z3
              refine ⟨?_⟩
              obtain ⟨P, T, H, d, hs⟩ := HF2.out
              obtain ⟨-, bT, bTH, -, bF⟩ := hs.bounds
              have HS := Aside0.mk hs
              have HFN := Aside0.mk hs.final
              clear hs
              by_cases e2 : F2 = -1
              · subst e2
                have e1 : F = -1 := by
                  by_cases h : F = -1
                  · exact h
                  · exact (hF2 h).symm
                subst e1
                rw [show finV (-1) = 0 from rfl, show finB (-1) = false from rfl] at HFN
                clear hF2 HF2 bF bT bTH
                go_wp2_with (go_at_call 33; refine HFN.out.mono ?_; rintro e w6 ⟨rfl, hb⟩; have HS6 := Aside0.mk (HS.out.below hb); clear hb)
                go_roundw
                case rel => exact ⟨q + 1, -1, by omega, by simp, rfl, ⟨P, T, H, d, HS6.out⟩⟩
                case measure => simp [intOf]; omega
              · have bF2 : H ≤ F2 := by rcases bF with h | h; exact absurd h e2; exact h.1
                have bT2 : T ≤ F2 := by omega
                have b1 : ¬ F2 < H := by omega
                have b2 : ¬ F2 < T := by omega
                rw [show finV F2 = F2 from if_neg e2, show finB F2 = true by simp [finB, e2]] at HFN
                by_cases e1 : F = -1
                · subst e1
                  clear hF2 HF2 bF bT bTH
                  go_wp2_with (first | (go_at_call 33; refine HFN.out.mono ?_; rintro e w6 ⟨rfl, hb⟩; have HS6 := Aside0.mk (HS.out.below hb); clear hb) | (go_at_call 34; refine HS6.out.high.mono ?_; rintro e w7 ⟨rfl, hb⟩; have HS7 := Aside0.mk (HS6.out.below hb); clear hb) | (go_at_call 16; refine HS7.out.taken.mono ?_; rintro e w8 ⟨rfl, hb⟩; have HS8 := Aside0.mk (HS7.out.below hb); clear hb))
                  go_roundw
                  case rel => exact ⟨q + 1, F2, by omega, by simp, rfl, ⟨P, T, H, d, HS8.out⟩⟩
                  case measure => simp [intOf]; omega
                · obtain rfl : F2 = F := hF2 e1
                  have b3 : 0 ≤ F2 := by omega
                  clear hF2 HF2 bF bT bTH
                  go_wp2_with (first | (go_at_call 33; refine HFN.out.mono ?_; rintro e w6 ⟨rfl, hb⟩; have HS6 := Aside0.mk (HS.out.below hb); clear hb) | (go_at_call 34; refine HS6.out.high.mono ?_; rintro e w7 ⟨rfl, hb⟩; have HS7 := Aside0.mk (HS6.out.below hb); clear hb) | (go_at_call 16; refine HS7.out.taken.mono ?_; rintro e w8 ⟨rfl, hb⟩; have HS8 := Aside0.mk (HS7.out.below hb); clear hb))
                  go_roundw
                  case rel => exact ⟨q + 1, F2, by omega, by simp, rfl, ⟨P, T, H, d, HS8.out⟩⟩
                  case measure => simp [intOf]; omega
            · have e4 : (κ == 4) = false := beq_eq_false_iff_ne.2 h4
              have e5 : (κ == 5) = false := beq_eq_false_iff_ne.2 h5
              clear h4 h5
              go_wp2
              refine GFin_r9 g gm gs b0 o0 n c q w3 F fq sq nq _ _ _ _ (by rfl) (by rfl) (by rfl) (by rfl) hlt HF.out z1 z2 z3 ?_
              intro σ w5 ⟨F2, hF2, hf⟩
              have HF2 := Aside0.mk hf
              simp only [lazyA, lazyT, gf9_tab, List.zipWith_cons_cons, List.zipWith_nil_left, cond_true]
              clear hf z0 z1 z2 z3
              obtain ⟨P, T, H, d, hs⟩ := HF2.out
              obtain ⟨-, bT, bTH, -, bF⟩ := hs.bounds
              have HS := Aside0.mk hs
              have HFN := Aside0.mk hs.final
              clear hs
              by_cases e2 : F2 = -1
              · subst e2
                have e1 : F = -1 := by
                  by_cases h : F = -1
                  · exact h
                  · exact (hF2 h).symm
                subst e1
                rw [show finV (-1) = 0 from rfl, show finB (-1) = false from rfl] at HFN
                clear hF2 HF2 bF bT bTH
                go_wp2_with (go_at_call 33; refine HFN.out.mono ?_; rintro e w6 ⟨rfl, hb⟩; have HS6 := Aside0.mk (HS.out.below hb); clear hb)
                go_roundw
                case rel => exact ⟨q + 1, -1, by omega, by simp, rfl, ⟨P, T, H, d, HS6.out⟩⟩
                case measure => simp [intOf]; omega
              · have bF2 : H ≤ F2 := by rcases bF with h | h; exact absurd h e2; exact h.1
                have bT2 : T ≤ F2 := by omega
                have b1 : ¬ F2 < H := by omega
                have b2 : ¬ F2 < T := by omega
                rw [show finV F2 = F2 from if_neg e2, show finB F2 = true by simp [finB, e2]] at HFN
                by_cases e1 : F = -1
                · subst e1
                  clear hF2 HF2 bF bT bTH
                  go_wp2_with (first | (go_at_call 33; refine HFN.out.mono ?_; rintro e w6 ⟨rfl, hb⟩; have HS6 := Aside0.mk (HS.out.below hb); clear hb) | (go_at_call 34; refine HS6.out.high.mono ?_; rintro e w7 ⟨rfl, hb⟩; have HS7 := Aside0.mk (HS6.out.below hb); clear hb) | (go_at_call 16; refine HS7.out.taken.mono ?_; rintro e w8 ⟨rfl, hb⟩; have HS8 := Aside0.mk (HS7.out.below hb); clear hb))
                  go_roundw
                  case rel => exact ⟨q + 1, F2, by omega, by simp, rfl, ⟨P, T, H, d, HS8.out⟩⟩
                  case measure => simp [intOf]; omega
                · obtain rfl : F2 = F := hF2 e1
                  have b3 : 0 ≤ F2 := by omega
                  clear hF2 HF2 bF bT bTH
                  go_wp2_with (first | (go_at_call 33; refine HFN.out.mono ?_; rintro e w6 ⟨rfl, hb⟩; have HS6 := Aside0.mk (HS.out.below hb); clear hb) | (go_at_call 34; refine HS6.out.high.mono ?_; rintro e w7 ⟨rfl, hb⟩; have HS7 := Aside0.mk (HS6.out.below hb); clear hb) | (go_at_call 16; refine HS7.out.taken.mono ?_; rintro e w8 ⟨rfl, hb⟩; have HS8 := Aside0.mk (HS7.out.below hb); clear hb))
                  go_roundw
                  case rel => exact ⟨q + 1, F2, by omega, by simp, rfl, ⟨P, T, H, d, HS8.out⟩⟩
                  case measure => simp [intOf]; omega
        · have hqn : q = n := by omega
          subst hqn
          obtain ⟨P, T, H, d, hs⟩ := HF.out
          obtain ⟨ch, -, hheld⟩ := hs.held
          have HS := Aside0.mk hs
          have HH := Aside0.mk hheld
          have HXR := Aside0.mk ((HF.out.hb.block X (lt_of_block HX4.out)).trans HX4.out)
          have HBR := Aside0.mk (below_step HB4.out HF.out.hb)
          clear hs hheld HF
          go_wp2_with (first
            | (go_at_call 17; refine (HH.out _ (Below.refl _ _)).mono ?_; rintro e w5 ⟨rfl, hb⟩; have HB5 := Aside0.mk hb; clear hb)
            | (go_at_call 34; refine (HS.out.below HB5.out).high.mono ?_; rintro e w6 ⟨rfl, hb⟩; have HB6 := Aside0.mk (below_step HB5.out hb); clear hb)
            | (go_at_call 16; refine (HS.out.below HB6.out).taken.mono ?_; rintro e w7 ⟨rfl, hb⟩; have HB7 := Aside0.mk (below_step HB6.out hb); clear hb; refine park ?_))
          obtain ⟨x0, x1, x2, x3⟩ := box4 (GFin_boxed HXR.out HB7.out)
          refine ⟨?_⟩
          clear HB5 HB6
          go_wp2_with (go_at_call 14; refine ((show GF g gm gs w3 F w7 from ⟨P, T, H, d, HS.out.below HB7.out⟩).put f s fin).mono ?_; rintro e w8 ⟨⟨c8, rfl, hb8⟩, F8, hF8, hf8⟩; refine park ?_)
          have HF8 := Aside0.mk hf8
          clear hF8 hf8 x0 x1 x2 x3
          by_cases h8 : c8 = 0
          · subst h8
            have HB8 := Aside0.mk (below_step HB4.out HF8.out.hb)
            clear hb8
            refine ⟨?_⟩
            go_wp2_with (go_at_call 12; refine (GAwake_calls _).mono ?_; rintro e w9 ⟨rfl, hb⟩; have HB9 := Aside0.mk (below_step HB8.out hb); clear hb)
            go_ret
            exact ⟨rfl, HB9.out⟩
          · have HB8 := Aside0.mk (below_step HB7.out (hb8 h8))
            have e8 : (c8 == 0) = false := beq_eq_false_iff_ne.2 h8
            clear hb8 h8
            refine ⟨?_⟩
            go_wp2_with (first
              | (go_at_call 17; refine (HH.out _ HB8.out).mono ?_; rintro e w9 ⟨rfl, hb⟩; have HB9 := Aside0.mk (below_step HB8.out hb); clear hb)
              | (go_at_call 34; refine (HS.out.below HB9.out).high.mono ?_; rintro e w10 ⟨rfl, hb⟩; have HB10 := Aside0.mk (below_step HB9.out hb); clear hb)
              | (go_at_call 16; refine (HS.out.below HB10.out).taken.mono ?_; rintro e w11 ⟨rfl, hb⟩; have HB11 := Aside0.mk (below_step HB10.out hb); clear hb)
              | (go_at_call 12; refine (GAwake_calls _).mono ?_; rintro e w12 ⟨rfl, hb⟩; have HB12 := Aside0.mk (below_step HB11.out hb); clear hb))
            go_ret
            exact ⟨by simp, below_step HBR.out HB12.out⟩
end Go.Proofs.Ytiladcdogbeomaa.QRangesPlays
