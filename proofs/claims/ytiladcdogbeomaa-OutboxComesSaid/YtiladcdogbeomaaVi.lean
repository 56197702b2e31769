/- Law 24 (outbox): contracts of functions that its statements reach, and plain laws behind them (part 9). No condition. -/
import Derived.Test.YtiladcdogbeomaaVh
import Derived.Test.YtiladcdogbeomaaVc
import Derived.Test.YtiladcdogbeomaaWWords
import Derived.Deep.Slices
import Derived.ChangeArms
import Derived.OpenShut
import Derived.DataReads
import Derived.WideShapes
import Derived.Test.YtiladcdogbeomaaVd
namespace Go.Proofs.Ytiladcdogbeomaa.QRangesPlays
open Go.RowKit Go.Shelf Go.Proofs.YtiladcdogbeomaaW.PrintWords Go.Proofs.YtiladcdogbeomaaW.PrintLast Go.Proofs.YtiladcdogbeomaaW.PrintMore Go.Proofs.Ytiladcdogbeomaa.RowLaws Go.Proofs.Ytiladcdogbeomaa.Lazy
open Go.Maps
attribute [local go_sem] Oper.semAt_some max2_int min2_int max_two min_two
def ByteRow (W : World) (A : Option Addr) (ys : List Int) : Prop := ∀ i (hi : i < ys.length), ∃ b o, A = some ⟨b, o, none⟩ ∧ W.cell? ⟨b, o + i, none⟩ = some (.int .u8 ys[i])
theorem ext_size (s : ByteArray) (a b : Nat) (h1 : a ≤ b) (h2 : b ≤ s.size) : (s.extract a b).size = b - a := by
  rw [ByteArray.size_extract]; omega
theorem ext_at (s : ByteArray) (a b i : Nat) (h1 : a + i < b) (h2 : b ≤ s.size) : (s.extract a b)[i]? = s[a + i]? := by
  have hi : i < (s.extract a b).size := by rw [ext_size s a b (by omega) h2]; omega
  rw [ByteArray.getElem?_lt' _ _ hi, ByteArray.getElem?_lt' s (a + i) (by omega), ByteArray.getElem_extract]
theorem dT_at (s : ByteArray) (x : Int) (h0 : 0 ≤ x) (h : x < s.size) : s[x.toNat]?.map (fun b => (b.toNat : Int)) = some (dT s x) := by
  unfold dT
  rw [ByteArray.getElem?_lt' s x.toNat (by omega)]; rfl
theorem bytes_ext (s : ByteArray) (t m : Nat) (h : t + m ≤ s.size) : (⟨(bytesFrom (dT s) t m).toArray⟩ : ByteArray) = s.extract t (t + m) := by
  apply ByteArray.ext
  apply Array.ext
  · have e1 := ext_size s t (t + m) (by omega) h
    have e2 : (s.extract t (t + m)).data.size = (s.extract t (t + m)).size := rfl
    simp [bytesFrom_len]; omega
  · intro i h1 h2
    have him : i < m := by simpa [bytesFrom_len] using h1
    have e := ext_at s t (t + m) i (by omega) h
    have hi2 : i < (s.extract t (t + m)).size := h2
    rw [ByteArray.getElem?_lt' _ _ hi2, ByteArray.getElem?_lt' s (t + i) (by omega)] at e
    have e3 : (s.extract t (t + m)).data[i] = s[t + i] := Option.some.inj e
    rw [e3]
    have e4 : dT s ((t : Int) + (i : Int)) = (s[t + i].toNat : Int) := by
      unfold dT
      rw [show ((t : Int) + (i : Int)).toNat = t + i by omega, ByteArray.getElem?_lt' s (t + i) (by omega)]
    simp [bytesFrom, e4]
theorem ext_app (s : ByteArray) (t m : Nat) (h : t + m ≤ s.size) : s.extract 0 t ++ s.extract t (t + m) = s.extract 0 (t + m) := by
  apply ByteArray.ext
  simp [ByteArray.data_append, ByteArray.data_extract]
theorem finB_nat (n : Nat) : finB (n : Int) = true := by first | (simp [finB]; done) | (simp [finB]; omega)
theorem finV_nat (n : Nat) : finV (n : Int) = n := by unfold finV; rw [if_neg (by omega)]
/-- The buffer behind some pieces of s, of which tn bytes were read. -/
def BK (g gm gs : Nat) (w : World) (s : ByteArray) (tn : Nat) (W : World) : Prop := ∃ P H F, GSP g gm gs w P tn H F (dT s) W ∧ H ≤ s.size ∧ (F = -1 ∨ F = s.size)
section
variable {g gm gs : Nat} {w : World} {s : ByteArray} {tn : Nat} {W W' : World}
theorem BK.below (h : BK g gm gs w s tn W) (hb : Below W.heap.size W W') : BK g gm gs w s tn W' := by
  obtain ⟨P, H, F, h, r⟩ := h
  exact ⟨P, H, F, h.below hb, r⟩
theorem BK.hb (h : BK g gm gs w s tn W) : Below w.heap.size w W := by
  obtain ⟨P, H, F, h, r⟩ := h
  exact h.hb
theorem BK.put (h : BK g gm gs w s tn W) (h5 : s.size ≤ 500) {a t : Int} (h0 : 0 ≤ a) (h1 : a ≤ t) (h2 : t ≤ s.size) {fin : Bool} (hf : fin = true ↔ t = s.size) : Calls Try.prog 14 #[.pointer (some ⟨g, 0, none⟩), .int .i64 a, .string (s.extract a.toNat t.toNat), .bool fin] W fun x w' => x = .returned (.int .i64 0) ∧ BK g gm gs w s tn w' := by
  obtain ⟨P, H, F, h, hH, hF⟩ := h
  have hz : ((s.extract a.toNat t.toNat).size : Int) = t - a := by rw [ext_size s _ _ (by omega) (by omega)]; omega
  have hfit : fitsL H F (a + ((s.extract a.toNat t.toNat).size : Int)) fin = true := by
    rw [hz, show a + (t - a) = t by omega]
    unfold fitsL
    rcases hF with e | e
    · rw [if_pos e]
      cases fin with
      | false => rfl
      | true => have := hf.1 rfl; simp; omega
    · rw [if_neg (by omega), e]
      cases fin with
      | false => simp; omega
      | true => have := hf.1 rfl; simp; omega
  refine (h.put a (s.extract a.toNat t.toNat) fin (dT s) (dT_ok s) (fun _ _ => rfl) ?_).mono ?_
  · intro x b1 b2 b3 b4
    rw [hz] at b2
    rw [ext_at s _ _ _ (by omega) (by omega), show a.toNat + (x - a).toNat = x.toNat by omega]
    exact dT_at s x (by omega) (by omega)
  · rintro x w' ⟨c, rfl, ⟨k1, _⟩, _, k3⟩
    have hc := k1 h0 (by omega) (by omega) hfit
    subst hc
    obtain ⟨_, hs⟩ := k3 rfl
    refine ⟨rfl, _, _, _, hs, ?_, ?_⟩
    · rw [hz]; unfold hiL; split <;> omega
    · rw [hz]; unfold fiL
      cases fin with
      | false => exact hF
      | true => have := hf.1 rfl; right; simp; omega
theorem BK.read (h : BK g gm gs w s tn W) (ht : tn ≤ s.size) (k : Int) : Calls Try.prog 15 #[.pointer (some ⟨g, 0, none⟩), .int .i64 k] W fun x w' => ∃ (m : Nat) (xv : ByteArray) (b : Bool), x = .returned (.tuple #[.string xv, .bool b]) ∧ tn + m ≤ s.size ∧ xv = s.extract tn (tn + m) ∧ xv.size = m ∧ BK g gm gs w s (tn + m) w' := by
  obtain ⟨P, H, F, h, hH, hF⟩ := h
  have hb := h.bounds
  refine (h.read k).mono ?_
  rintro x w' ⟨m, _, hm, rfl, hs⟩
  have hle : tn + m ≤ s.size := by
    cases m with
    | zero => omega
    | succ m => have := (hb.1 _ (hm ((tn : Int) + m) (by omega) (by omega))).2; omega
  refine ⟨m, _, _, rfl, hle, bytes_ext s tn m hle, ?_, _, H, F, by rw [Int.natCast_add]; exact hs, hH, hF⟩
  rw [bytes_ext s tn m hle, ext_size s _ _ (by omega) hle]; omega
/-- The whole text is put. -/
theorem BK.last (h : BK g gm gs w s tn W) (h5 : s.size ≤ 500) (ht : tn ≤ s.size) : Calls Try.prog 14 #[.pointer (some ⟨g, 0, none⟩), .int .i64 0, .string s, .bool true] W fun x w' => x = .returned (.int .i64 0) ∧ GSP g gm gs w (fun n => (tn : Int) ≤ n ∧ n < s.size) tn s.size s.size (dT s) w' := by
  obtain ⟨P, H, F, h, hH, hF⟩ := h
  have hb := h.bounds
  have hfit : fitsL H F (0 + (s.size : Int)) true = true := by
    rw [Int.zero_add]
    unfold fitsL
    rcases hF with e | e
    · rw [if_pos e]; simp; omega
    · rw [if_neg (by omega), e]; simp
  refine (h.put 0 s true (dT s) (dT_ok s) (fun _ _ => rfl) ?_).mono ?_
  · intro x b1 b2 b3 b4
    rw [Int.sub_zero]
    exact dT_at s x (by omega) (by omega)
  · rintro x w' ⟨c, rfl, ⟨k1, _⟩, _, k3⟩
    have hc := k1 (by omega) (by omega) (by omega) hfit
    subst hc
    obtain ⟨_, hs⟩ := k3 rfl
    have e1 : hiL H (0 + (s.size : Int)) = s.size := by rw [Int.zero_add]; unfold hiL; split <;> omega
    have e2 : fiL F (0 + (s.size : Int)) true = s.size := by rw [Int.zero_add]; rfl
    rw [e1, e2] at hs
    refine ⟨rfl, hs.is (fun n => ?_)⟩
    constructor
    · intro hn; exact .inr ⟨by omega, hn.1, by omega⟩
    · rintro (hn | hn)
      · have := hb.1 n hn; exact ⟨this.1, by omega⟩
      · exact ⟨hn.2.1, by omega⟩
/-- The rest is read. -/
theorem GSP.rest (h : GSP g gm gs w (fun n => (tn : Int) ≤ n ∧ n < s.size) tn s.size s.size (dT s) W) (h5 : s.size ≤ 500) (ht : tn ≤ s.size) : Calls Try.prog 15 #[.pointer (some ⟨g, 0, none⟩), .int .i64 1000] W fun x w' => ∃ xv : ByteArray, x = .returned (.tuple #[.string xv, .bool true]) ∧ xv = s.extract tn s.size ∧ GSP g gm gs w (fun _ => False) s.size s.size s.size (dT s) w' := by
  refine (h.read 1000).mono ?_
  rintro x w' ⟨m, hm, _, rfl, hs⟩
  have h1 : (m : Int) = s.size - tn := by rw [hm (s.size - tn) (by omega) (fun x a b => ⟨a, by omega⟩) (by omega)]; omega
  have h2 : tn + m = s.size := by omega
  refine ⟨_, by rw [finB_nat, finV_nat, show (tn : Int) + (m : Int) = s.size by omega, beq_self_eq_true]; rfl, ?_, ?_⟩
  · rw [bytes_ext s tn m (by omega), h2]
  · rw [show (tn : Int) + (m : Int) = s.size by omega] at hs
    exact hs.is (fun n => by first | (simp; done) | (simp; omega))
theorem GSP.rest_done (h : GSP g gm gs w (fun _ => False) s.size s.size s.size (dT s) W) : Calls Try.prog 15 #[.pointer (some ⟨g, 0, none⟩), .int .i64 1000] W fun x w' => x = .returned (.tuple #[.string ⟨#[]⟩, .bool true]) ∧ GSP g gm gs w (fun _ => False) s.size s.size s.size (dT s) w' := by
  refine (h.read 1000).mono ?_
  rintro x w' ⟨m, hm, _, rfl, hs⟩
  have h1 : (m : Int) = 0 := by rw [hm 0 (by omega) (fun x a b => by omega) (by simp)]; decide
  obtain rfl : m = 0 := by omega
  refine ⟨?_, ?_⟩
  · rw [finB_nat, finV_nat, show ((s.size : Int) + ((0 : Nat) : Int)) = s.size by omega, beq_self_eq_true]; rfl
  · rw [show ((s.size : Int) + ((0 : Nat) : Int)) = s.size by omega] at hs
    exact hs.is (fun n => by simp)
theorem held_none {T H F : Int} {d : Int → Int} (h : GSP g gm gs w (fun _ => False) T H F d W) : Calls Try.prog 17 #[.pointer (some ⟨g, 0, none⟩)] W fun x w' => x = .returned (.int .i64 0) ∧ Below W.heap.size W w' := by
  obtain ⟨c, h1, h2⟩ := h.held
  obtain rfl := h1 (fun _ h => h)
  exact h2 W (Below.refl _ _)
theorem ext_all (s : ByteArray) (t : Nat) (h : t ≤ s.size) : s.extract 0 t ++ s.extract t s.size = s := by
  have e := ext_app s t (s.size - t) (by omega)
  rw [show t + (s.size - t) = s.size by omega] at e
  rw [e]
  apply ByteArray.ext
  rw [ByteArray.data_extract]
  show s.data.extract 0 s.data.size = s.data
  simp
end
set_option maxRecDepth 100000 in
set_option maxHeartbeats 8000000 in
theorem GatherBack_walk (s : ByteArray) (A : Option Addr) (c : Nat) (xs : List (Int × Int)) (A' : Option Addr) (c' : Nat) (ys : List Int) (w : World) (hA : PairRow w A xs) (hx : PairsOk xs) (hc : xs.length ≤ c) (hY : ByteRow w A' ys) (hc' : ys.length ≤ c') :
    Calls Try.prog 3 #[.string s, .slice A xs.length c, .slice A' ys.length c'] w fun e w' => e = .returned (.bool true) ∧ Below w.heap.size w w' := by
  have HA := Aside0.mk hA
  have HX := Aside0.mk hx
  have HY := Aside0.mk hY
  obtain ⟨n, hn⟩ : ∃ n, xs.length = n := ⟨_, rfl⟩
  obtain ⟨r, hr⟩ : ∃ r, ys.length = r := ⟨_, rfl⟩
  have HN := Aside0.mk (And.intro hn hr)
  rw [hn] at hc ⊢
  rw [hr] at hc' ⊢
  clear hA hx hY hn hr
  by_cases h5 : 500 < s.size
  · have e1 : (500 : Int) < (s.size : Int) := by omega
    go_enter Try.func3, Try.ntmps3
    go_wp2_with (go_at_call 12; refine (GAwake_calls _).mono ?_; rintro e w9 ⟨rfl, hb⟩; have HB9 := Aside0.mk hb; clear hb)
    go_ret
    exact ⟨rfl, HB9.out⟩
  · have e1 : ¬ (500 : Int) < (s.size : Int) := by omega
    by_cases h6 : 60 < n
    · have e2 : (60 : Int) < (n : Int) := by omega
      go_enter Try.func3, Try.ntmps3
      go_wp2_with (go_at_call 12; refine (GAwake_calls _).mono ?_; rintro e w9 ⟨rfl, hb⟩; have HB9 := Aside0.mk hb; clear hb)
      go_ret
      exact ⟨rfl, HB9.out⟩
    · have e2 : ¬ (60 : Int) < (n : Int) := by omega
      have hS : s.size ≤ 500 := by omega
      have HS5 := Aside0.mk hS
      go_enter Try.func3, Try.ntmps3
      go_wp2_with (go_at_call 13; refine (GSP.new (Below.refl _ _) (dT s) (dT_ok _)).mono ?_; rintro e w4 ⟨g, gm, gs, rfl, hs⟩; have HS4 := Aside0.mk hs; clear hs)
      go_loopw [8, 9] (fun gv iv wr => ∃ (j tn : Nat) (gb : ByteArray), j ≤ n ∧ gv = .string gb ∧ iv = .int .i64 j ∧ gb.size = tn ∧ tn ≤ s.size ∧ Aside0 (gb = s.extract 0 tn) ∧ Aside0 (BK g gm gs w s tn wr)) (fun _ iv _ => n - (intOf iv).toNat)
      case atStart => exact ⟨0, 0, ⟨#[]⟩, Nat.zero_le _, rfl, rfl, rfl, Nat.zero_le _, ⟨by apply ByteArray.ext; simp [ByteArray.data_extract]⟩, ⟨_, 0, -1, HS4.out, by omega, .inl rfl⟩⟩
      case round =>
        obtain ⟨j, tn, gb, hj, rfl, rfl, hgs, hts, HG, HB⟩ := hrel
        by_cases hlt : j < n
        · have hlt2 : (j : Int) < (n : Int) := by omega
          have hjx : j < xs.length := by have := HN.out.1; omega
          obtain ⟨b0, o0, rfl, r0, r1⟩ := HA.out j hjx
          have hok := HX.out xs[j] (List.getElem_mem _)
          have y0 := (HB.out.hb.cell (World.block_lt_of_cell? _ _ r0)).trans r0
          have y1 := (HB.out.hb.cell (World.block_lt_of_cell? _ _ r1)).trans r1
          generalize xs[j].1 = p0 at *
          generalize xs[j].2 = p1 at *
          obtain ⟨a, ha⟩ : ∃ a, Int.tmod p0 ((s.size : Int) + 1) = a := ⟨_, rfl⟩
          have hab : 0 ≤ a ∧ a ≤ s.size := by
            rw [Int.tmod_eq_emod_of_nonneg hok.1.1] at ha
            have h1 := Int.emod_nonneg p0 (show (s.size : Int) + 1 ≠ 0 by omega)
            have h2 := Int.emod_lt_of_pos p0 (show 0 < (s.size : Int) + 1 by omega)
            omega
          obtain ⟨u, hu⟩ : ∃ u, Int.tmod p1 ((s.size : Int) - a + 1) = u := ⟨_, rfl⟩
          have hub : 0 ≤ u ∧ u ≤ s.size - a := by
            rw [Int.tmod_eq_emod_of_nonneg hok.2.1] at hu
            have h1 := Int.emod_nonneg p1 (show (s.size : Int) - a + 1 ≠ 0 by omega)
            have h2 := Int.emod_lt_of_pos p1 (show 0 < (s.size : Int) - a + 1 by omega)
            omega
          obtain ⟨t, ht⟩ : ∃ t, a + u = t := ⟨_, rfl⟩
          have htb : a ≤ t ∧ t ≤ s.size := by omega
          have q1 : IntKind.i64.wrap ((s.size : Int) + 1) = (s.size : Int) + 1 := IntWalk.i64_in _ (by omega)
          have q2 : IntKind.i64.wrap ((s.size : Int) - a) = (s.size : Int) - a := IntWalk.i64_in _ (by omega)
          have q3 : IntKind.i64.wrap ((s.size : Int) - a + 1) = (s.size : Int) - a + 1 := IntWalk.i64_in _ (by omega)
          have q4 : IntKind.i64.wrap (a + u) = t := by rw [IntWalk.i64_in _ (by omega), ht]
          have q5 : IntKind.i64.wrap a = a := IntWalk.i64_in _ (by omega)
          have q6 : IntKind.i64.wrap u = u := IntWalk.i64_in _ (by omega)
          have q7 : IntKind.i64.wrap p0 = p0 := IntWalk.i64_in _ (by omega)
          have q8 : IntKind.i64.wrap p1 = p1 := IntWalk.i64_in _ (by omega)
          have q9 : IntKind.i64.wrap ((j : Int) + 1) = (j : Int) + 1 := IntWalk.i64_in _ (by omega)
          have hAB := Aside0.mk (And.intro hab htb)
          clear r0 r1 hok hub ht
          have hex : s.extract 0 tn = gb := HG.out.symm
          have hge : ¬ ((s.size : Int) < (tn : Int)) := by omega
          go_wp2_with (go_at_call 14; refine (HB.out.put HS5.out hAB.out.1.1 hAB.out.2.1 hAB.out.2.2 beq_iff_eq).mono ?_; rintro e w5 ⟨rfl, hb⟩; have HB5 := Aside0.mk hb; clear hb; refine park ?_)
          clear y0 y1 q1 q2 q3 q4 q5 q6 q7 q8 hab htb ha hu
          by_cases hlr : j < r
          · have hlr2 : (j : Int) < (r : Int) := by omega
            obtain ⟨b2, o2, rfl, v0⟩ := HY.out j (by have := HN.out.2; omega)
            have v1 := (HB5.out.hb.cell (World.block_lt_of_cell? _ _ v0)).trans v0
            generalize ys[j]'(by have := HN.out.2; omega) = yv at *
            clear v0 hex hge
            refine ⟨?_⟩
            go_wp2_with (go_at_call 15; refine (HB5.out.read hts _).mono ?_; rintro e w6 ⟨m, xv, bv, rfl, hle, hxv, hxs, hb⟩; have HB6 := Aside0.mk hb; have HXV := Aside0.mk hxv; clear hb hxv; refine park ?_)
            obtain ⟨gb2, hg2⟩ : ∃ gb2, gb ++ xv = gb2 := ⟨_, rfl⟩
            obtain ⟨t2, ht2⟩ : ∃ t2, tn + m = t2 := ⟨_, rfl⟩
            have hex : s.extract 0 t2 = gb2 := by rw [← hg2, HXV.out, HG.out, ext_app s tn m hle, ht2]
            have hgs2 : gb2.size = t2 := by rw [← hex, ext_size s _ _ (Nat.zero_le _) (by omega)]; omega
            have hge : ¬ ((s.size : Int) < (t2 : Int)) := by omega
            have hno : ¬ (9223372036854775807 < tn + m) := by omega
            have HE := Aside0.mk (show gb2.size = t2 ∧ t2 ≤ s.size ∧ gb2 = s.extract 0 t2 from ⟨hgs2, by omega, hex.symm⟩)
            rw [ht2] at HB6
            rw [ht2] at hno
            have hss : gb.size + xv.size = t2 := by omega
            clear HXV ht2 hle HG HB
            refine ⟨?_⟩
            go_wp2
            go_roundw
            case rel => exact ⟨j + 1, t2, gb2, by omega, rfl, by simp, HE.out.1, HE.out.2.1, ⟨HE.out.2.2⟩, HB6⟩
            case measure => simp [intOf]; omega
          · have hlr2 : ¬ (j : Int) < (r : Int) := by omega
            refine ⟨?_⟩
            go_wp2
            go_roundw
            case rel => exact ⟨j + 1, tn, gb, by omega, rfl, by simp, hgs, hts, HG, HB5⟩
            case measure => simp [intOf]; omega
        · have hjn : j = n := by omega
          subst hjn
          have HBW := Aside0.mk HB.out.hb
          have HMK : Mk_ 0 := rfl
          have hno : ¬ (9223372036854775807 < s.size) := by omega
          go_wp2_with (first
            | (go_at_call 14; refine (HB.out.last HS5.out hts).mono ?_; rintro e w5 ⟨rfl, hb⟩; have HB5 := Aside0.mk hb; clear hb)
            | (have hm_ := (HMK : Mk_ 0); clear hm_ HMK; have HMK : Mk_ 1 := rfl; go_at_call 15; refine (HB5.out.rest HS5.out hts).mono ?_; rintro e w6 ⟨xv, rfl, hxv, hb⟩; have HB6 := Aside0.mk hb; clear hb; have hg2 : gb ++ xv = s := by { rw [hxv, HG.out]; exact ext_all s tn hts }; have hss : gb.size + xv.size = s.size := by { rw [hxv, hgs, ext_size s _ _ hts (Nat.le_refl _)]; omega }; clear hxv)
            | (have hm_ := (HMK : Mk_ 1); clear hm_ HMK; have HMK : Mk_ 2 := rfl; go_at_call 15; refine (HB6.out.rest_done).mono ?_; rintro e w7 ⟨rfl, hb⟩; have HB7 := Aside0.mk hb; clear hb)
            | (go_at_call 16; refine HB7.out.taken.mono ?_; rintro e w8 ⟨rfl, hb⟩; have HB8 := Aside0.mk (HB7.out.below hb); clear hb)
            | (go_at_call 17; refine (held_none HB8.out).mono ?_; rintro e w9 ⟨rfl, hb⟩; have HB9 := Aside0.mk (below_step HB8.out.hb hb); clear hb)
            | (go_at_call 12; refine (GAwake_calls _).mono ?_; rintro e w10 ⟨rfl, hb⟩; have HB10 := Aside0.mk (below_step HB9.out hb); clear hb))
          go_ret
          exact ⟨by simp, HB10.out⟩
end Go.Proofs.Ytiladcdogbeomaa.QRangesPlays

set_option linter.unusedVariables false
namespace Go.Proofs.Ytiladcdogbeomaa.Opens
open Go.RowKit Go.ChangeShapes Go.WideShapes Go.Proofs.YtiladcdogbeomaaW.PrintWords

/-- Whatever reads as a datum of type t holds a value of kind k for which ok holds. -/
def Opens {α : Type} (P : Program) (t : TypeId) (k : Kd α) (ok : α → Prop) : Prop :=
  ∀ (H : Type) (enc : TypeId × Value → H) (W : World) (base : Nat) (spare : Nat → Bool) (held : Bool) (fuel : Nat) (cs : List Value) (x : DataW H × List MemPlace),
    DataW.trod enc P W base spare held fuel t cs = some x → ∃ y : α, k.K W y cs ∧ ok y

theorem opens_int {P : Program} {t : TypeId} {k : IntKind} (ht : P.underlying t = some (.int k)) : Opens P t (Kd.int k) (fun n => (Lit.int k n).wf = true) := by
  intro H enc W base spare held fuel cs x h
  obtain ⟨n, rfl, _, hw⟩ := DataW.trod_int ht h
  exact ⟨n, rfl, hw⟩

theorem opens_bool {P : Program} {t : TypeId} (ht : P.underlying t = some .bool) : Opens P t Kd.bool (fun _ => True) := by
  intro H enc W base spare held fuel cs x h
  obtain ⟨n, rfl, _⟩ := DataW.trod_bool ht h
  exact ⟨n, rfl, trivial⟩

theorem opens_string {P : Program} {t : TypeId} (ht : P.underlying t = some .string) : Opens P t Kd.string (fun s => s.size ≤ 9223372036854775807) := by
  intro H enc W base spare held fuel cs x h
  obtain ⟨s, rfl, _, hs⟩ := DataW.trod_string ht h
  exact ⟨s, rfl, hs⟩

theorem cells_get {W : World} {base : Nat} {a : Addr} {n : Nat} {cs : List Value} (h : W.cells? base a n = some cs) : cs.length = n ∧ ∀ i u, cs[i]? = some u → W.cell? (a.add i) = some u := by
  unfold World.cells? at h
  split at h
  · have hl := mapM_some_length h
    simp at hl
    refine ⟨hl, fun i u hi => ?_⟩
    have hlt : i < n := by
      have := (List.getElem?_eq_some_iff.1 hi).1
      omega
    have := mapM_some_get h i i (by simp [hlt])
    rw [this]; exact hi
  · cases h

theorem opens_slice {α : Type} {P : Program} {t e : TypeId} {k : Kd α} {ok : α → Prop} (ht : P.underlying t = some (.slice e)) (hk : P.cellsOf e = k.sz) (he : Opens P e k ok) [Inhabited α] :
    Opens P t (Kd.slice e k) (fun xs => xs.length ≤ 9223372036854775807 ∧ ∀ x ∈ xs, ok x) := by
  intro H enc W base spare held fuel cs x h
  rcases Deep.open_slice ht h with ⟨rfl, _⟩ | ⟨a, len, cap, m, n, D, Pl, rfl, hb, hl, hm, hmm, _, hel⟩
  · refine ⟨[], ⟨none, 0, rfl, by simp, ?_⟩, by simp, by simp⟩
    exact ⟨rfl, by simp, fun h => absurd h (by simp)⟩
  · have hlm : len ≤ m := by rw [hmm]; split <;> omega
    obtain ⟨f, hf⟩ := Deep.choose_lt (α := α) (n := len) (p := fun i y => ∃ c, W.cells? base (a.add (i * P.cellsOf e)) (P.cellsOf e) = some c ∧ k.K W y c ∧ ok y) (fun i hi => by
      obtain ⟨c, hc, ht'⟩ := hel i (by omega)
      obtain ⟨y, hy, oy⟩ := he H enc W base spare held _ _ _ ht'
      exact ⟨y, c, hc, hy, oy⟩)
    have hlen : ((List.range len).map f).length = len := by simp
    have hcap : cap ≤ 9223372036854775807 := by have := hm; unfold maxLen at this; omega
    refine ⟨(List.range len).map f, ⟨some a, cap, by rw [hlen], by rw [hlen]; exact hl, ?_⟩, by rw [hlen]; omega, ?_⟩
    · refine ⟨rfl, by rw [hlen]; omega, fun _ => ⟨a, rfl, fun j p hp => ?_⟩⟩
      have hj : j < len := by have := (List.getElem?_eq_some_iff.1 hp).1; rw [hlen] at this; exact this
      have hp' : f j = p := by simpa [hj] using hp
      obtain ⟨c, hc, hy, _⟩ := hf j hj
      obtain ⟨hcl, hcg⟩ := cells_get hc
      refine ⟨c, by rw [hcl, hk], by rw [← hp']; exact hy, fun i u hu => ?_⟩
      have := hcg i u hu
      rwa [Deep.add_add, hk] at this
    · intro x hx
      obtain ⟨i, hi, rfl⟩ := List.mem_map.1 hx
      obtain ⟨_, _, _, oy⟩ := hf i (by simpa using hi)
      exact oy

/-- The parts of a struct or an array, from one on: their types and places. -/
def OpensAt {α : Type} (P : Program) (fs : List (TypeId × Nat)) (total off : Nat) (k : Kd α) (ok : α → Prop) : Prop :=
  ∀ (H : Type) (enc : TypeId × Value → H) (W : World) (base : Nat) (spare : Nat → Bool) (held : Bool) (fuel : Nat) (cs : List Value), cs.length = total →
    (∀ f ∈ fs, ∃ x, DataW.trod enc P W base spare held fuel f.1 ((cs.drop f.2).take (P.cellsOf f.1)) = some x) → ∃ y : α, k.K W y (cs.drop off) ∧ ok y

theorem at_last {α : Type} {P : Program} {t : TypeId} {total off : Nat} {k : Kd α} {ok : α → Prop} (h : Opens P t k ok) (hs : total = off + P.cellsOf t) : OpensAt P [(t, off)] total off k ok := by
  intro H enc W base spare held fuel cs hl hf
  obtain ⟨x, hx⟩ := hf _ (List.mem_singleton.2 rfl)
  rw [List.take_of_length_le (by rw [List.length_drop]; dsimp only; omega)] at hx
  exact h H enc W base spare held fuel _ x hx

theorem at_cons {α β : Type} {P : Program} {t : TypeId} {fs : List (TypeId × Nat)} {total off off' : Nat} {k : Kd α} {k' : Kd β} {ok : α → Prop} {ok' : β → Prop} (h : Opens P t k ok) (hr : OpensAt P fs total off' k' ok') (hs : off' = off + P.cellsOf t) :
    OpensAt P ((t, off) :: fs) total off (Kd.pair k k') (fun y => ok y.1 ∧ ok' y.2) := by
  intro H enc W base spare held fuel cs hl hf
  obtain ⟨x, hx⟩ := hf _ List.mem_cons_self
  obtain ⟨y, hy, oy⟩ := h H enc W base spare held fuel _ x hx
  obtain ⟨z, hz, oz⟩ := hr H enc W base spare held fuel cs hl (fun f hm => hf f (List.mem_cons_of_mem _ hm))
  refine ⟨(y, z), ⟨_, _, ?_, hy, hz⟩, oy, oz⟩
  rw [hs, ← List.drop_drop, List.take_append_drop]

theorem opens_struct {α β : Type} {P : Program} {t : TypeId} {fs : Array Field} {ps : List (TypeId × Nat)} {k : Kd α} {ok : α → Prop} (f : β → α) (g : α → β) (hg : ∀ a, f (g a) = a) (ht : P.underlying t = some (.struct fs))
    (hps : fs.toList.map (fun f => (f.type, f.offset)) = ps) (h : OpensAt P ps (P.cellsOf t) 0 k ok) : Opens P t (Kd.iso k f) (fun b => ok (f b)) := by
  intro H enc W base spare held fuel cs x hx
  cases fuel with
  | zero => simp [DataW.trod] at hx
  | succ n =>
    unfold DataW.trod at hx
    rw [ht] at hx
    simp only at hx
    split at hx
    · rename_i hl
      obtain ⟨xs, hxs, _⟩ := Option.map_eq_some_iff.1 hx
      obtain ⟨y, hy, oy⟩ := h H enc W base spare held n cs hl (fun p hp => by
        rw [← hps] at hp
        obtain ⟨q, hq, rfl⟩ := List.mem_map.1 hp
        exact mapM_each hxs q hq)
      refine ⟨g y, ?_, ?_⟩
      · show k.K W (f (g y)) cs
        rw [hg]; simpa using hy
      · show ok (f (g y))
        rw [hg]; exact oy
    · cases hx

theorem opens_array {α β : Type} {P : Program} {t e : TypeId} {n : Nat} {ps : List (TypeId × Nat)} {k : Kd α} {ok : α → Prop} (f : β → α) (g : α → β) (hg : ∀ a, f (g a) = a) (ht : P.underlying t = some (.array n e))
    (hps : (List.range n).map (fun i => (e, i * P.cellsOf e)) = ps) (h : OpensAt P ps (P.cellsOf t) 0 k ok) : Opens P t (Kd.iso k f) (fun b => ok (f b)) := by
  intro H enc W base spare held fuel cs x hx
  cases fuel with
  | zero => simp [DataW.trod] at hx
  | succ n' =>
    unfold DataW.trod at hx
    rw [ht] at hx
    simp only at hx
    split at hx
    · rename_i hl
      obtain ⟨xs, hxs, _⟩ := Option.map_eq_some_iff.1 hx
      obtain ⟨y, hy, oy⟩ := h H enc W base spare held n' cs hl (fun p hp => by
        rw [← hps] at hp
        obtain ⟨i, hi, rfl⟩ := List.mem_map.1 hp
        exact mapM_each hxs i hi)
      refine ⟨g y, ?_, ?_⟩
      · show k.K W (f (g y)) cs
        rw [hg]; simpa using hy
      · show ok (f (g y))
        rw [hg]; exact oy
    · cases hx

end Go.Proofs.Ytiladcdogbeomaa.Opens

namespace Go.Proofs.Ytiladcdogbeomaa.Acts
open Go.RowKit Go.Proofs.Ytiladcdogbeomaa.Opens Go.Proofs.YtiladcdogbeomaaW.PrintWords Go.Proofs.Ytiladcdogbeomaa.QRangesPlays
def okBytes (xs : List Int) : Prop := xs.length ≤ 9223372036854775807 ∧ ∀ x ∈ xs, (Lit.int .u8 x).wf = true
theorem opens23 : Opens Try.prog 23 (Kd.slice 5 (Kd.int .u8)) okBytes := opens_slice Try.underlying23 (by kernel_rfl) (opens_int Try.underlying5)
theorem wf_u8 {x : Int} (h : (Lit.int .u8 x).wf = true) : 0 ≤ x ∧ x < 256 := by
  have := h
  simp [Lit.wf, IntKind.min, IntKind.max, IntKind.signed, IntKind.bits] at this
  omega
end Go.Proofs.Ytiladcdogbeomaa.Acts

namespace Go.Proofs.Ytiladcdogbeomaa.Acts
open Go.RowKit Go.Proofs.Ytiladcdogbeomaa.Opens Go.Proofs.YtiladcdogbeomaaW.PrintWords Go.Proofs.Ytiladcdogbeomaa.QRangesPlays
def kpair : Kd (Int × Int) := Kd.pair (Kd.int .u16) (Kd.int .u16)
def okPair (x : Int × Int) : Prop := (Lit.int .u16 x.1).wf = true ∧ (Lit.int .u16 x.2).wf = true
def okPairs (xs : List (Int × Int)) : Prop := xs.length ≤ 9223372036854775807 ∧ ∀ x ∈ xs, okPair x
theorem kpair_open {w : World} {x : Int × Int} {cs : List Value} (h : kpair.K w x cs) : cs = [.int .u16 x.1, .int .u16 x.2] := by
  obtain ⟨c1, c2, e, h1, h2⟩ := h
  have h1' : c1 = [.int .u16 x.1] := h1
  have h2' : c2 = [.int .u16 x.2] := h2
  rw [e, h1', h2']
  rfl
theorem opens28 : Opens Try.prog 28 kpair okPair :=
  opens_array (fun x : Int × Int => x) (fun y => y) (fun _ => rfl) Try.underlying28 (by kernel_rfl) (at_cons (off := 0) (off' := 1) (opens_int Try.underlying27) (at_last (off := 1) (opens_int Try.underlying27) (by kernel_rfl)) (by kernel_rfl))
theorem opens22 : Opens Try.prog 22 (Kd.slice 28 kpair) okPairs := opens_slice Try.underlying22 (by kernel_rfl) opens28
theorem pairRow_of {W : World} {A : Option Addr} {n : Nat} {l : List (Int × Int)} (h : Kd.C kpair W A n l) : PairRow W A l := by
  have hz : kpair.sz = 2 := rfl
  have key : ∀ j (hj : j < l.length), ∃ ad, A = some ad ∧ W.cell? (ad.add (j * 2)) = some (.int .u16 l[j].1) ∧ W.cell? (ad.add (j * 2 + 1)) = some (.int .u16 l[j].2) := by
    intro j hj
    obtain ⟨ad, rfl, hc⟩ := h.2.2 (by have := h.1; omega)
    obtain ⟨c, hl, hx, hcell⟩ := hc j l[j] (List.getElem?_eq_getElem hj)
    have hx' := kpair_open hx
    subst hx'
    have e0 := hcell 0 (.int .u16 l[j].1) rfl
    have e1 := hcell 1 (.int .u16 l[j].2) rfl
    rw [hz] at e0 e1
    exact ⟨ad, rfl, by simpa using e0, e1⟩
  intro i hi
  obtain ⟨ad, hA, z0, _⟩ := key 0 (by omega)
  have hsp : ad.spot = none := by
    have e : ad.add (0 * 2) = ad := by unfold Addr.add; rw [if_pos (by omega)]
    rw [e] at z0
    unfold World.cell? at z0
    split at z0
    · split at z0
      · cases z0
      · rename_i hs; simpa using hs
    · cases z0
  obtain ⟨b, o, sp⟩ := ad
  obtain rfl : sp = none := hsp
  obtain ⟨ad2, hA2, z0, z1⟩ := key i hi
  rw [hA] at hA2
  obtain rfl : (⟨b, o, none⟩ : Addr) = ad2 := Option.some.inj hA2
  have ha : ∀ j, Addr.add ⟨b, o, none⟩ j = ⟨b, o + j, none⟩ := fun j => by
    unfold Addr.add
    split
    · rename_i h; subst h; rfl
    · rfl
  rw [ha] at z0 z1
  exact ⟨b, o, hA, z0, z1⟩
theorem wf_u16 {x : Int} (h : (Lit.int .u16 x).wf = true) : 0 ≤ x ∧ x < 65536 := by
  have := h
  simp [Lit.wf, IntKind.min, IntKind.max, IntKind.signed, IntKind.bits] at this
  omega
theorem pairsOk_of {l : List (Int × Int)} (h : okPairs l) : PairsOk l := fun x hx => ⟨wf_u16 (h.2 x hx).1, wf_u16 (h.2 x hx).2⟩
end Go.Proofs.Ytiladcdogbeomaa.Acts
