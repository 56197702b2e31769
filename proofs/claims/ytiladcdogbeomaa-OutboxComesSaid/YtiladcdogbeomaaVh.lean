/- Law 24 (outbox): contracts of functions that its statements reach, and plain laws behind them (part 8). No condition. -/
import Derived.Test.YtiladcdogbeomaaVg
namespace Go.Proofs.Ytiladcdogbeomaa.QRangesPlays
open Go.RowKit Go.Shelf Go.Proofs.YtiladcdogbeomaaW.PrintWords Go.Proofs.YtiladcdogbeomaaW.PrintLast Go.Proofs.YtiladcdogbeomaaW.PrintMore Go.Proofs.Ytiladcdogbeomaa.RowLaws Go.Proofs.Ytiladcdogbeomaa.Lazy
open Go.Maps
attribute [local go_sem] Oper.semAt_some max2_int min2_int max_two min_two
theorem cnt_range {lo hi : Int} : ∀ {l : List S95}, wf lo l → lo ≤ hi → (∀ n, has l n → n < hi) → cnt l ≤ hi - lo
  | [], _, h, _ => by simp [cnt]; omega
  | x :: r, ⟨h1, h2, h3, h4⟩, h, hn => by
    have hx := hn x.f1 ⟨x, by simp, h2, Int.le_refl _⟩
    rw [cnt_cons]
    by_cases h5 : x.f1 + 2 ≤ hi
    · have := cnt_range h4 h5 (fun n hh => hn n (has_cons.2 (.inr hh))); omega
    · have hr : r = [] := by
        cases r with
        | nil => rfl
        | cons y t =>
          have := h4.1
          have := hn y.f1 (has_cons.2 (.inr ⟨y, by simp, h4.2.1, Int.le_refl _⟩))
          have := h4.2.1
          omega
      subst hr; simp [cnt]; omega
theorem ready_eq {l : List S95} {T m : Int} (hw : wf 0 l) (hlo : ∀ n, has l n → T ≤ n) (h0 : 0 ≤ m) (h1 : ∀ x, T ≤ x → x < T + m → has l x) (h2 : ¬ has l (T + m)) : readyL l T = m := by
  cases l with
  | nil =>
    simp only [readyL]
    by_cases h : m = 0
    · omega
    · have := h1 T (Int.le_refl _) (by omega); simp [has] at this
  | cons x r =>
    obtain ⟨w1, w2, w3, w4⟩ := hw
    have hx := hlo x.f0 ⟨x, by simp, Int.le_refl _, w2⟩
    by_cases h : m = 0
    · subst h
      have : x.f0 ≠ T := by intro e; exact h2 ⟨x, by simp, by omega, by omega⟩
      simp only [readyL, if_neg this]
    · have hT := h1 T (Int.le_refl _) (by omega)
      have e : x.f0 = T := by
        rcases has_cons.1 hT with hh | hh
        · omega
        · have := wf_lo w4 hh; omega
      simp only [readyL, if_pos e]
      have a : ¬ x.f1 < T + m - 1 := by
        intro hlt
        rcases has_cons.1 (h1 (x.f1 + 1) (by omega) (by omega)) with hh | hh
        · omega
        · have := wf_lo w4 hh; omega
      have b : ¬ T + m ≤ x.f1 := fun hle => h2 ⟨x, by simp, by omega, hle⟩
      omega
structure GSP (g gm gs : Nat) (w : World) (P : Int → Prop) (T H F : Int) (d : Int → Int) (W : World) : Prop where
  st : ∃ n l D, BufAt W g gm gs n l T H F D ∧ Gat l T H F D d ∧ ∀ n, has l n ↔ P n
  dok : DOk d
  hb : Below w.heap.size w W
  l1 : w.heap.size ≤ g
  l2 : w.heap.size ≤ gm
  l3 : w.heap.size ≤ gs
  n1 : gm ≠ g
  n2 : gs ≠ g
  n3 : gs ≠ gm
section
variable {g gm gs : Nat} {w : World} {P : Int → Prop} {T H F : Int} {d : Int → Int} {W W' : World}
theorem GSP.below (h : GSP g gm gs w P T H F d W) (hb : Below W.heap.size W W') : GSP g gm gs w P T H F d W' := by
  obtain ⟨n, l, D, h1, h2, h3⟩ := h.st
  exact ⟨⟨n, l, D, h1.below hb, h2, h3⟩, h.dok, below_step h.hb hb, h.l1, h.l2, h.l3, h.n1, h.n2, h.n3⟩
theorem GSP.is (h : GSP g gm gs w P T H F d W) {Q : Int → Prop} (hp : ∀ n, Q n ↔ P n) : GSP g gm gs w Q T H F d W := by
  obtain ⟨n, l, D, h1, h2, h3⟩ := h.st
  exact ⟨⟨n, l, D, h1, h2, fun n => (h3 n).trans (hp n).symm⟩, h.dok, h.hb, h.l1, h.l2, h.l3, h.n1, h.n2, h.n3⟩
theorem GSP.bounds (h : GSP g gm gs w P T H F d W) : (∀ n, P n → T ≤ n ∧ n < H) ∧ 0 ≤ T ∧ T ≤ H ∧ H ≤ 1099511627776 ∧ (F = -1 ∨ (H ≤ F ∧ F ≤ 1099511627776)) := by
  obtain ⟨n, l, D, h1, h2, h3⟩ := h.st
  exact ⟨fun n hn => h2.hin n ((h3 n).2 hn), h2.b0, h2.b1, h2.b2, h2.fin⟩
theorem GSP.new (hb : Below w.heap.size w W) (d : Int → Int) (hd : DOk d) : Calls Try.prog 13 #[] W fun x w' => ∃ g gm gs, x = .returned (.pointer (some ⟨g, 0, none⟩)) ∧ GSP g gm gs w (fun _ => False) 0 0 (-1) d w' := by
  refine (GNew_calls W).mono ?_
  rintro x w' ⟨g, gm, gs, rfl, h1, h2, h3, h4, h5, h6, h7, h8⟩
  have hs := hb.size
  refine ⟨g, gm, gs, rfl, ⟨0, [], _, h1, ⟨gat_new.w, gat_new.hin, gat_new.b0, gat_new.b1, gat_new.b2, gat_new.fin, gat_new.ty, gat_new.key, gat_new.sz, fun n h => by simp [has] at h⟩, fun n => by simp [has]⟩, hd, below_step hb h2, by omega, by omega, by omega, h8, h7, h6⟩
theorem tri_low (hb : Below w.heap.size w W) (l1 : w.heap.size ≤ g) (l2 : w.heap.size ≤ gm) (l3 : w.heap.size ≤ gs) (h : ∀ B, B ≤ g → B ≤ gm → B ≤ gs → B ≤ W.heap.size → Below B W W') : Below w.heap.size w W' := hb.trans (h _ l1 l2 l3 hb.size)
/-- What put tells and leaves, by the places. -/
theorem GSP.put (h : GSP g gm gs w P T H F d W) (off : Int) (s : ByteArray) (fin : Bool) (d2 : Int → Int) (hk : DOk d2) (hd1 : ∀ x, P x → d2 x = d x) (hd2 : ∀ x, off ≤ x → x < off + (s.size : Int) → T ≤ x → ¬ P x → s[(x - off).toNat]?.map (fun b => (b.toNat : Int)) = some (d2 x)) :
    Calls Try.prog 14 #[.pointer (some ⟨g, 0, none⟩), .int .i64 off, .string s, .bool fin] W fun x w' => ∃ c, x = .returned (.int .i64 c) ∧
      ((0 ≤ off → off + (s.size : Int) ≤ 30000 → H ≤ 30000 → fitsL H F (off + (s.size : Int)) fin = true → c = 0) ∧ (0 ≤ off → off + (s.size : Int) ≤ 1099511627776 → fitsL H F (off + (s.size : Int)) fin = false → c = 18)) ∧
      (c ≠ 0 → Below W.heap.size W w') ∧
      (c = 0 → fitsL H F (off + (s.size : Int)) fin = true ∧ GSP g gm gs w (fun n => P n ∨ (off ≤ n ∧ T ≤ n ∧ n < off + (s.size : Int))) T (hiL H (off + (s.size : Int))) (fiL F (off + (s.size : Int)) fin) d2 w') := by
  obtain ⟨n, l, D, h1, h2, h3⟩ := h.st
  have hd1' : ∀ x, has l x → d2 x = d x := fun x hx => hd1 x ((h3 x).1 hx)
  have hd2' : ∀ x, off ≤ x → x < off + (s.size : Int) → T ≤ x → ¬ has l x → s[(x - off).toNat]?.map (fun b => (b.toNat : Int)) = some (d2 x) := fun x a b c e => hd2 x a b c (fun hp => e ((h3 x).2 hp))
  have key : (0 ≤ off → off + (s.size : Int) ≤ 30000 → H ≤ 30000 → fitsL H F (off + (s.size : Int)) fin = true → putC l T H F off s.size fin = 0) ∧ (0 ≤ off → off + (s.size : Int) ≤ 1099511627776 → fitsL H F (off + (s.size : Int)) fin = false → putC l T H F off s.size fin = 18) := by
    refine ⟨fun a b c e => ?_, fun a b e => ?_⟩
    · unfold putC
      rw [if_neg (by omega), if_neg (by simp [e])]
      have f1 := (put_fresh (fr := putF off T (off + (s.size : Int)) l) h2 a (show off + (s.size : Int) ≤ 1099511627776 by omega) rfl)
      have f2 := cnt_range (hi := 30000) f1.1 (by omega) (fun n hn => by have := (f1.2 n).1 hn; omega)
      have f3 := cnt_range (hi := 30000) h2.w (by omega) (fun n hn => by have := h2.hin n hn; omega)
      rw [if_neg (by omega)]
    · unfold putC
      rw [if_neg (by omega), if_pos e]
  by_cases hc : putC l T H F off s.size fin = 0
  · refine (GPut_ok g gm gs n l T H F off s fin D d d2 W h1 h2 h.n1 h.n2 h.n3 hc hd1' hd2').mono ?_
    rintro x w' ⟨rfl, l', D', k1, k2, k3, k4, k5⟩
    rw [hc] at key
    have hfit : fitsL H F (off + (s.size : Int)) fin = true := by
      cases hf : fitsL H F (off + (s.size : Int)) fin with
      | true => rfl
      | false =>
        exfalso
        unfold putC at hc
        split at hc
        · cases hc
        · first | (cases hc; done) | (rw [if_pos hf] at hc; cases hc)
    exact ⟨0, rfl, key, fun e => absurd rfl e, fun _ => ⟨hfit, ⟨_, l', D', k1, k2, fun n => by rw [k3 n, h3 n]⟩, hk, tri_low h.hb h.l1 h.l2 h.l3 k5, h.l1, h.l2, h.l3, h.n1, h.n2, h.n3⟩⟩
  · refine (GPut_no g gm gs n l T H F off s fin D d W h1 h2 h.n1 h.n2 h.n3 hc d2 hd1' hd2').mono ?_
    rintro x w' ⟨rfl, hb⟩
    exact ⟨_, rfl, key, fun _ => hb, fun e => absurd e hc⟩
/-- What read tells and leaves. -/
theorem GSP.read (h : GSP g gm gs w P T H F d W) (k : Int) :
    Calls Try.prog 15 #[.pointer (some ⟨g, 0, none⟩), .int .i64 k] W fun x w' => ∃ m : Nat, (∀ r : Int, 0 ≤ r → (∀ x, T ≤ x → x < T + r → P x) → ¬ P (T + r) → (m : Int) = max 0 (min k r)) ∧ (∀ x, T ≤ x → x < T + m → P x) ∧
      x = .returned (.tuple #[.string ⟨(bytesFrom d T m).toArray⟩, .bool (finB F && ((T + (m : Int)) == finV F))]) ∧ GSP g gm gs w (fun n => P n ∧ T + m ≤ n) (T + m) H F d w' := by
  obtain ⟨n, l, D, h1, h2, h3⟩ := h.st
  refine (GRead_calls g gm gs n l T H F D d k W h1 h2 h.dok h.n1 h.n2 h.n3).mono ?_
  rintro x w' ⟨m, l', D', hm, rfl, k1, k2, k3, k4, k5⟩
  refine ⟨m, fun r r0 r1 r2 => ?_, fun x a b => ?_, rfl, ⟨n, l', D', k1, k2, fun n => by rw [k3 n, h3 n]⟩, h.dok, tri_low h.hb h.l1 h.l2 h.l3 k5, h.l1, h.l2, h.l3, h.n1, h.n2, h.n3⟩
  · rw [hm, ready_eq h2.w (fun n hn => (h2.hin n hn).1) r0 (fun x a b => (h3 x).2 (r1 x a b)) (fun hh => r2 ((h3 _).1 hh))]
  · have := ready_has (l := l) (T := T) (j := x - T) (by omega) (by omega)
    rw [show T + (x - T) = x by omega] at this
    exact (h3 x).1 this
theorem GSP.end_ (h : GSP g gm gs w P T H F d W) (f : Int) :
    Calls Try.prog 32 #[.pointer (some ⟨g, 0, none⟩), .int .i64 f] W fun x w' => ∃ c, x = .returned (.int .i64 c) ∧ (GSP g gm gs w P T H F d w' ∨ (H ≤ f ∧ (F = -1 ∨ F = f) ∧ GSP g gm gs w P T f f d w')) := by
  obtain ⟨n, l, D, h1, h2, h3⟩ := h.st
  by_cases he : endL H F f = 0
  · refine (GEnd_ok g gm gs n l T H F f D W h1 h.n1 h.n2 he).mono ?_
    rintro x w' ⟨rfl, k1, k2⟩
    have e2 : 0 ≤ f ∧ f ≤ 1099511627776 ∧ H ≤ f ∧ (F = -1 ∨ F = f) := by
      unfold endL at he
      split at he
      · cases he
      · split at he
        · cases he
        · rename_i a b
          refine ⟨by omega, by omega, by omega, ?_⟩
          by_cases hF : F = -1
          · exact .inl hF
          · by_cases hF2 : F = f
            · exact .inr hF2
            · exact absurd (.inr ⟨hF, hF2⟩) b
    have hT := h2.b1
    refine ⟨0, rfl, .inr ⟨e2.2.2.1, e2.2.2.2, ⟨n, l, D, k1, ⟨h2.w, fun n hn => by have := h2.hin n hn; omega, h2.b0, by omega, e2.2.1, .inr ⟨Int.le_refl _, e2.2.1⟩, h2.ty, h2.key, h2.sz, h2.val⟩, h3⟩, h.dok, low_only h.hb k2 h.l1 h.hb.size, h.l1, h.l2, h.l3, h.n1, h.n2, h.n3⟩⟩
  · refine (GEnd_bad g gm gs n l T H F f D W h1 he).mono ?_
    rintro x w' ⟨rfl, hb⟩
    exact ⟨_, rfl, .inl (h.below hb)⟩
theorem GSP.taken (h : GSP g gm gs w P T H F d W) : Calls Try.prog 16 #[.pointer (some ⟨g, 0, none⟩)] W fun x w' => x = .returned (.int .i64 T) ∧ Below W.heap.size W w' := by
  obtain ⟨n, l, D, h1, h2, h3⟩ := h.st
  exact GTaken_calls g gm gs n l T H F D W h1
theorem GSP.high (h : GSP g gm gs w P T H F d W) : Calls Try.prog 34 #[.pointer (some ⟨g, 0, none⟩)] W fun x w' => x = .returned (.int .i64 H) ∧ Below W.heap.size W w' := by
  obtain ⟨n, l, D, h1, h2, h3⟩ := h.st
  exact GHigh_calls g gm gs n l T H F D W h1
theorem GSP.final (h : GSP g gm gs w P T H F d W) : Calls Try.prog 33 #[.pointer (some ⟨g, 0, none⟩)] W fun x w' => x = .returned (.tuple #[.int .i64 (finV F), .bool (finB F)]) ∧ Below W.heap.size W w' := by
  obtain ⟨n, l, D, h1, h2, h3⟩ := h.st
  exact GFinal_calls g gm gs n l T H F D W h1
theorem GSP.done (h : GSP g gm gs w P T H F d W) : Calls Try.prog 56 #[.pointer (some ⟨g, 0, none⟩)] W fun x w' => x = .returned (.bool (finB F && (T == finV F))) ∧ Below W.heap.size W w' := by
  obtain ⟨n, l, D, h1, h2, h3⟩ := h.st
  exact GDone_calls g gm gs n l T H F D W h1
/-- How many wait: one number for all worlds that hold the same buffer's state; none where no place waits. -/
theorem GSP.held (h : GSP g gm gs w P T H F d W) : ∃ c : Nat, ((∀ n, ¬ P n) → c = 0) ∧ ∀ W', Below W.heap.size W W' → Calls Try.prog 17 #[.pointer (some ⟨g, 0, none⟩)] W' fun x w' => x = .returned (.int .i64 c) ∧ Below W'.heap.size W' w' := by
  obtain ⟨n, l, D, h1, h2, h3⟩ := h.st
  refine ⟨Maps.size D, fun hn => ?_, fun W' hb => GHeld_calls g gm gs n l T H F D W' (h1.below hb)⟩
  have hl : l = [] := by
    cases l with
    | nil => rfl
    | cons x r => exact absurd ((h3 x.f0).1 ⟨x, by simp, Int.le_refl _, h2.w.2.1⟩) (hn _)
  have := h2.sz
  rw [hl] at this
  simp only [cnt] at this
  omega
end
end Go.Proofs.Ytiladcdogbeomaa.QRangesPlays

namespace Go.Proofs.Ytiladcdogbeomaa.QRangesPlays
open Go.RowKit Go.Shelf Go.Proofs.YtiladcdogbeomaaW.PrintWords Go.Proofs.YtiladcdogbeomaaW.PrintLast Go.Proofs.YtiladcdogbeomaaW.PrintMore Go.Proofs.Ytiladcdogbeomaa.RowLaws Go.Proofs.Ytiladcdogbeomaa.Lazy
open Go.Maps
attribute [local go_sem] Oper.semAt_some
/-- A text's bytes by their places. -/
def dT (s : ByteArray) (n : Int) : Int := match s[n.toNat]? with | some b => (b.toNat : Int) | none => 0
theorem dT_ok (s : ByteArray) : DOk (dT s) := by
  intro n
  unfold dT
  split
  · rename_i b _; have := b.toNat_lt; omega
  · omega
abbrev dA : Int → Int := dT ⟨#[97, 98, 99, 100]⟩
section
variable {g gm gs : Nat} {w : World} {W : World}
theorem aw1 (h : GSP g gm gs w (fun _ => False) 0 0 (-1) dA W) : Calls Try.prog 14 #[.pointer (some ⟨g, 0, none⟩), .int .i64 2, .string ⟨#[99, 100]⟩, .bool true] W fun x w' => x = .returned (.int .i64 0) ∧ GSP g gm gs w (fun n => 2 ≤ n ∧ n < 4) 0 4 4 dA w' := by
  refine (h.put 2 ⟨#[99, 100]⟩ true dA (dT_ok _) (fun x hx => hx.elim) ?_).mono ?_
  · intro x a b c e
    have hx : x = 2 ∨ x = 3 := by have : ((⟨#[99, 100]⟩ : ByteArray).size : Int) = 2 := rfl; omega
    rcases hx with rfl | rfl <;> rfl
  · rintro x w' ⟨c, rfl, ⟨k1, _⟩, _, k3⟩
    have hc := k1 (by decide) (by decide) (by decide) (by decide)
    subst hc
    refine ⟨rfl, (k3 rfl).2.is (fun n => ?_)⟩
    have : ((⟨#[99, 100]⟩ : ByteArray).size : Int) = 2 := rfl
    rw [this]
    constructor
    · intro h; exact .inr ⟨h.1, by omega, by omega⟩
    · rintro (h | h); exact h.elim; exact ⟨h.1, by omega⟩
theorem aw2 (h : GSP g gm gs w (fun n => 2 ≤ n ∧ n < 4) 0 4 4 dA W) : Calls Try.prog 15 #[.pointer (some ⟨g, 0, none⟩), .int .i64 9] W fun x w' => x = .returned (.tuple #[.string ⟨#[]⟩, .bool false]) ∧ GSP g gm gs w (fun n => 2 ≤ n ∧ n < 4) 0 4 4 dA w' := by
  refine (h.read 9).mono ?_
  rintro x w' ⟨m, hm, _, rfl, hs⟩
  have h0 : (m : Int) = 0 := by rw [hm 0 (by omega) (fun x a b => by omega) (by omega)]; decide
  obtain rfl : m = 0 := by omega
  exact ⟨rfl, hs.is (fun n => by first | (simp; done) | (simp; omega))⟩
theorem aw3 (h : GSP g gm gs w (fun n => 2 ≤ n ∧ n < 4) 0 4 4 dA W) : Calls Try.prog 14 #[.pointer (some ⟨g, 0, none⟩), .int .i64 0, .string ⟨#[97, 98, 88]⟩, .bool false] W fun x w' => x = .returned (.int .i64 0) ∧ GSP g gm gs w (fun n => 0 ≤ n ∧ n < 4) 0 4 4 dA w' := by
  have hz : ((⟨#[97, 98, 88]⟩ : ByteArray).size : Int) = 3 := rfl
  refine (h.put 0 ⟨#[97, 98, 88]⟩ false dA (dT_ok _) (fun x hx => rfl) ?_).mono ?_
  · intro x a b c e
    have hx : x = 0 ∨ x = 1 := by omega
    rcases hx with rfl | rfl <;> rfl
  · rintro x w' ⟨c, rfl, ⟨k1, _⟩, _, k3⟩
    have hc := k1 (by decide) (by decide) (by decide) (by decide)
    subst hc
    refine ⟨rfl, (k3 rfl).2.is (fun n => ?_)⟩
    rw [hz]
    constructor
    · intro h; by_cases h2 : 2 ≤ n; exact .inl ⟨h2, h.2⟩; exact .inr ⟨h.1, h.1, by omega⟩
    · rintro (h | h); exact ⟨by omega, h.2⟩; exact ⟨by omega, by omega⟩
theorem aw4 (h : GSP g gm gs w (fun n => 0 ≤ n ∧ n < 4) 0 4 4 dA W) : Calls Try.prog 15 #[.pointer (some ⟨g, 0, none⟩), .int .i64 9] W fun x w' => x = .returned (.tuple #[.string ⟨#[97, 98, 99, 100]⟩, .bool true]) ∧ GSP g gm gs w (fun _ => False) 4 4 4 dA w' := by
  refine (h.read 9).mono ?_
  rintro x w' ⟨m, hm, _, rfl, hs⟩
  have h0 : (m : Int) = 4 := by rw [hm 4 (by omega) (fun x a b => by omega) (by omega)]; decide
  obtain rfl : m = 4 := by omega
  exact ⟨rfl, hs.is (fun n => by first | (simp; done) | (simp; omega))⟩
theorem aw5 (h : GSP g gm gs w (fun _ => False) 4 4 4 dA W) : Calls Try.prog 56 #[.pointer (some ⟨g, 0, none⟩)] W fun x w' => x = .returned (.bool true) ∧ GSP g gm gs w (fun _ => False) 4 4 4 dA w' := by
  refine h.done.mono ?_
  rintro x w' ⟨rfl, hb⟩
  exact ⟨rfl, h.below hb⟩
theorem aw6 (h : GSP g gm gs w (fun _ => False) 4 4 4 dA W) : Calls Try.prog 14 #[.pointer (some ⟨g, 0, none⟩), .int .i64 4, .string ⟨#[120]⟩, .bool false] W fun x w' => x = .returned (.int .i64 18) ∧ Below w.heap.size w w' := by
  have hz : ((⟨#[120]⟩ : ByteArray).size : Int) = 1 := rfl
  refine (h.put 4 ⟨#[120]⟩ false (fun n => if n = 4 then 120 else 0) (fun n => by dsimp only; split <;> omega) (fun x hx => hx.elim) ?_).mono ?_
  · intro x a b c e
    obtain rfl : x = 4 := by omega
    rfl
  · rintro x w' ⟨c, rfl, ⟨_, k1⟩, k2, _⟩
    have hc := k1 (by decide) (by decide) (by decide)
    subst hc
    exact ⟨rfl, below_step h.hb (k2 (by decide))⟩
end
set_option maxRecDepth 100000 in
set_option maxHeartbeats 4000000 in
theorem GAwake_calls (w : World) : Calls Try.prog 12 #[] w fun e w' => e = .returned (.bool true) ∧ Below w.heap.size w w' := by
  have HMK : Mk_ 0 := rfl
  go_enter Try.func12, Try.ntmps12
  go_wp2_with (first
    | (go_at_call 13; refine (GSP.new (Below.refl _ _) dA (dT_ok _)).mono ?_; rintro e w2 ⟨g, gm, gs, rfl, hs⟩; have HS := Aside0.mk hs; clear hs)
    | (have hm_ := (HMK : Mk_ 0); clear hm_ HMK; have HMK : Mk_ 1 := rfl; go_at_call 14; refine (aw1 HS.out).mono ?_; rintro e w3 ⟨rfl, hs⟩; have HS1 := Aside0.mk hs; clear hs)
    | (have hm_ := (HMK : Mk_ 1); clear hm_ HMK; have HMK : Mk_ 2 := rfl; go_at_call 15; refine (aw2 HS1.out).mono ?_; rintro e w4 ⟨rfl, hs⟩; have HS2 := Aside0.mk hs; clear hs)
    | (have hm_ := (HMK : Mk_ 2); clear hm_ HMK; have HMK : Mk_ 3 := rfl; go_at_call 14; refine (aw3 HS2.out).mono ?_; rintro e w5 ⟨rfl, hs⟩; have HS3 := Aside0.mk hs; clear hs)
    | (have hm_ := (HMK : Mk_ 3); clear hm_ HMK; have HMK : Mk_ 4 := rfl; go_at_call 15; refine (aw4 HS3.out).mono ?_; rintro e w6 ⟨rfl, hs⟩; have HS4 := Aside0.mk hs; clear hs)
    | (go_at_call 56; refine (aw5 HS4.out).mono ?_; rintro e w7 ⟨rfl, hs⟩; have HS5 := Aside0.mk hs; clear hs)
    | (have hm_ := (HMK : Mk_ 4); clear hm_ HMK; have HMK : Mk_ 5 := rfl; go_at_call 14; refine (aw6 HS5.out).mono ?_; rintro e w8 ⟨rfl, hb⟩; have HB := Aside0.mk hb; clear hb))
  go_ret
  exact ⟨rfl, HB.out⟩
end Go.Proofs.Ytiladcdogbeomaa.QRangesPlays
