/- Contracts and plain laws for the statement RecordImaged, part c: several texts of this session behind one another. No condition. -/
import Derived.Test.YtiohgpcbdefokaaDoorMRecordImagedb
import Derived.WalkLawsBesides
import Derived.Lib.Hide
import Derived.WalkSpells
import Derived.Deep.RegionHeld3
import Derived.Deep.QuietTactic
import Derived.BigQuiet
import Derived.StillTailTactics
import Derived.Deep.DeepCutAuto
/- slices.IndexFunc over parts, by the two predicates that record uses. No condition. -/
namespace Go.Proofs.YtiohgpcbdefokaaDoor.B
open Go.RowKit Go.Proofs.YtiohgpcbdefokaaDoorW.PrintWords
attribute [local go_sem ↓ high] lvO_hs ldO_hs stO_hs lvO_pt ldO_pt stO_pt zero_pt eqA_pt lvO_ptR ldO_ptR stO_ptR zero_ptR eqA_ptR lvO_rc ldO_rc stO_rc zero_rc eqA_rc lvO_rcR ldO_rcR stO_rcR zero_rcR eqA_rcR lvO_tk ldO_tk stO_tk zero_tk eqA_tk lvO_tkR ldO_tkR stO_tkR zero_tkR eqA_tkR lvO_it ldO_it stO_it zero_it eqA_it blO_pt blO_ptR blO_rc blO_rcR blO_tk blO_tkR blO_it bsO_pt bsO_ptR bsO_rc bsO_rcR bsO_it
attribute [local go_sem high] rowAt_setCell rowAt_setRow cell_setRow_ne isRow_setRow_ne rowAt_alloc rowAt_drew isRow_alloc isRow_drew isRow_setCell rowRun_some okL_hs ldV_hs ldA_hs stA_hs setRow_alloc get_pt_id get_pt_path cut_pt_sum get_pt_size get_pt_off cut_pt okL_pt size_pt lenb_pt eta_pt ldV_pt ldA_pt stA_pt ldV_ptR ldA_ptR stA_ptR get_rc_kind get_rc_id get_rc_path cut_rc_sum get_rc_size get_rc_off cut_rc okL_rc size_rc lenb_rc eta_rc ldV_rc ldA_rc stA_rc ldV_rcR ldA_rcR stA_rcR get_tk_path cut_tk_sum get_tk_size get_tk_off cut_tk_old cut_tk okL_tk size_tk lenb_tk eta_tk ldV_tk ldA_tk stA_tk ldV_tkR ldA_tkR stA_tkR get_it_path get_it_dir get_it_size cut_it_sum cut_it okL_it size_it lenb_it eta_it ldV_it ldA_it stA_it bld_pt_01234 bld_pt_0123 bld_pt_z bld_ptR_01234 bld_ptR_0123 bld_ptR_z bld_rc_012345 bld_rc_015 bld_rc_01 bld_rc_z bld_rc_01234 bld_rc_24 bld_rc_05 bld_rc_0 bld_rcR_012345 bld_rcR_015 bld_rcR_01 bld_rcR_z bld_rcR_01234 bld_rcR_24 bld_rcR_05 bld_rcR_0 bld_tk_01234 bld_tk_0 bld_tk_z bld_tkR_01234 bld_tkR_0 bld_tkR_z bld_it_0123 bld_it_023 bld_it_01 bld_it_0 bld_it_z bs0_pt bs1_pt bs0_ptR bs1_ptR bs0_rc bs1_rc bs0_rcR bs1_rcR bs0_it bs1_it
/-- The place of the first, or -1. -/
def fstI {α : Type} (p : α → Bool) (l : List α) : Int := match l.findIdx? p with
  | some i => i
  | none => -1
theorem fstI_hit {α : Type} {p : α → Bool} {l : List α} {k : Nat} {x : α} (hx : l[k]? = some x) (hp : p x = true) (hn : ∀ j, j < k → ∀ y, l[j]? = some y → p y = false) : fstI p l = k := by
  unfold fstI
  have hk := (List.getElem?_eq_some_iff.1 hx)
  have : l.findIdx? p = some k := by
    rw [List.findIdx?_eq_some_iff_getElem]
    refine ⟨hk.1, by rw [hk.2]; exact hp, fun j hj => ?_⟩
    have := hn j hj _ (List.getElem?_eq_getElem (show j < l.length by have := hk.1; omega))
    simpa using this
  rw [this]
theorem fstI_none {α : Type} {p : α → Bool} {l : List α} (hn : ∀ j, j < l.length → ∀ y, l[j]? = some y → p y = false) : fstI p l = -1 := by
  unfold fstI
  have : l.findIdx? p = none := by
    rw [List.findIdx?_eq_none_iff]
    intro x hx
    obtain ⟨j, hj, rfl⟩ := List.getElem_of_mem hx
    exact hn j hj _ (List.getElem?_eq_getElem hj)
  rw [this]
set_option maxRecDepth 100000 in
set_option maxHeartbeats 4000000 in
theorem byId (x : Pt) (id : Int) (g : Nat) (w : World) (h : w.cell? ⟨g, 1, none⟩ = some (.int .i64 id)) :
    Calls Tryd.prog 81 #[.agg (ptL x).toArray, .pointer (some ⟨g, 0, none⟩)] w fun e w' => e = .returned (.bool (decide (x.id = id))) ∧ Below w.heap.size w w' := by
  have hg := World.block_lt_of_cell? _ _ h
  have hn : ¬ g = w.heap.size := by have : g < w.heap.size := hg; omega
  go_enter Tryd.func81, Tryd.ntmps81
  go_wp2
  go_ret
  exact ⟨rfl, below_alloc (Below.refl _ _) _⟩
set_option maxRecDepth 100000 in
set_option maxHeartbeats 4000000 in
theorem byPath (x : Pt) (p : ByteArray) (g : Nat) (w : World) (h : w.cell? ⟨g, 0, none⟩ = some (.string p)) :
    Calls Tryd.prog 84 #[.agg (ptL x).toArray, .pointer (some ⟨g, 0, none⟩)] w fun e w' => e = .returned (.bool (decide (x.path = p))) ∧ Below w.heap.size w w' := by
  have hg := World.block_lt_of_cell? _ _ h
  have hn : ¬ g = w.heap.size := by have : g < w.heap.size := hg; omega
  go_enter Tryd.func84, Tryd.ntmps84
  go_wp2
  go_ret
  exact ⟨by rw [str_eq]; rfl, below_alloc (Below.refl _ _) _⟩
set_option maxRecDepth 100000 in
set_option maxHeartbeats 4000000 in
theorem idx_id (A : Option Addr) (c : Nat) (l : List Pt) (id : Int) (g : Nat) (w : World) (hC : Kd.C kPt w A l.length l) (hlen : l.length ≤ 1000) (h : w.cell? ⟨g, 1, none⟩ = some (.int .i64 id)) :
    Calls Tryd.prog 80 #[.slice A l.length c, .func (.func 81) #[] #[.pointer (some ⟨g, 0, none⟩)]] w fun e w' => e = .returned (.int .i64 (fstI (fun x => decide (x.id = id)) l)) ∧ Below w.heap.size w w' := by
  have hg := World.block_lt_of_cell? _ _ h
  have HC := Aside0.mk hC
  have HH := Aside0.mk h
  have HG := Aside0.mk hg
  clear hC h hg
  go_enter Tryd.func80, Tryd.ntmps80
  go_wp2
  go_loopw [8] (fun i wr => ∃ k : Nat, k ≤ l.length ∧ i = .int .i64 k ∧ Aside0 (Below w.heap.size w wr) ∧ Aside0 (∀ j, j < k → ∀ x, l[j]? = some x → decide (x.id = id) = false)) (fun i _ => l.length - (intOf i).toNat)
  case atStart => exact ⟨0, Nat.zero_le _, rfl, ⟨Below.refl _ _⟩, ⟨fun j hj => by omega⟩⟩
  case round =>
    obtain ⟨k, hk, rfl, HB, HN⟩ := hrel
    by_cases hlt : k < l.length
    · obtain ⟨b, o, hA, hb, hr⟩ := flat_at HC.out (by decide) (by omega)
      subst hA
      obtain ⟨hrow, _⟩ := hr k hlt
      rw [← rowAt_below HB.out hb] at hrow
      have HX := Aside0.mk (show l[k]? = some l[k] from List.getElem?_eq_getElem hlt)
      obtain ⟨x, hx⟩ : ∃ x, x = l[k] := ⟨_, rfl⟩
      rw [← hx] at hrow HX
      clear hr hx
      by_cases hp : x.id = id
      · have HP := Aside0.mk (decide_eq_true hp)
        clear hp
        go_wp2_with (go_at_call 81; refine (byId x _ g _ ((HB.out.cell HG.out).trans HH.out)).mono ?_; rintro e w2 ⟨rfl, hb2⟩; rw [HP.out]; have HB2 := Aside0.mk (below_step HB.out hb2); clear hb2)
        go_ret
        exact ⟨by rw [fstI_hit HX.out HP.out HN.out]; rfl, HB2.out⟩
      · have HP := Aside0.mk (decide_eq_false hp)
        clear hp
        go_wp2_with (go_at_call 81; refine (byId x _ g _ ((HB.out.cell HG.out).trans HH.out)).mono ?_; rintro e w2 ⟨rfl, hb2⟩; rw [HP.out]; have HB2 := Aside0.mk (below_step HB.out hb2); clear hb2)
        go_roundw
        case rel =>
          refine ⟨k + 1, by omega, by simp, HB2, ⟨fun j hj y hy => ?_⟩⟩
          by_cases hjk : j = k
          · subst hjk
            have := HX.out.symm.trans hy
            injection this with this
            subst this
            exact HP.out
          · exact HN.out j (by omega) y hy
        case measure => simp [intOf]; omega
    · have hk2 : k = l.length := by omega
      subst hk2
      go_wp2
      go_ret
      exact ⟨by rw [fstI_none HN.out]; rfl, HB.out⟩
set_option maxRecDepth 100000 in
set_option maxHeartbeats 4000000 in
theorem idx_path (A : Option Addr) (c : Nat) (l : List Pt) (p : ByteArray) (g : Nat) (w : World) (hC : Kd.C kPt w A l.length l) (hlen : l.length ≤ 1000) (h : w.cell? ⟨g, 0, none⟩ = some (.string p)) :
    Calls Tryd.prog 80 #[.slice A l.length c, .func (.func 84) #[] #[.pointer (some ⟨g, 0, none⟩)]] w fun e w' => e = .returned (.int .i64 (fstI (fun x => decide (x.path = p)) l)) ∧ Below w.heap.size w w' := by
  have hg := World.block_lt_of_cell? _ _ h
  have HC := Aside0.mk hC
  have HH := Aside0.mk h
  have HG := Aside0.mk hg
  clear hC h hg
  go_enter Tryd.func80, Tryd.ntmps80
  go_wp2
  go_loopw [8] (fun i wr => ∃ k : Nat, k ≤ l.length ∧ i = .int .i64 k ∧ Aside0 (Below w.heap.size w wr) ∧ Aside0 (∀ j, j < k → ∀ x, l[j]? = some x → decide (x.path = p) = false)) (fun i _ => l.length - (intOf i).toNat)
  case atStart => exact ⟨0, Nat.zero_le _, rfl, ⟨Below.refl _ _⟩, ⟨fun j hj => by omega⟩⟩
  case round =>
    obtain ⟨k, hk, rfl, HB, HN⟩ := hrel
    by_cases hlt : k < l.length
    · obtain ⟨b, o, hA, hb, hr⟩ := flat_at HC.out (by decide) (by omega)
      subst hA
      obtain ⟨hrow, _⟩ := hr k hlt
      rw [← rowAt_below HB.out hb] at hrow
      have HX := Aside0.mk (show l[k]? = some l[k] from List.getElem?_eq_getElem hlt)
      obtain ⟨x, hx⟩ : ∃ x, x = l[k] := ⟨_, rfl⟩
      rw [← hx] at hrow HX
      clear hr hx
      by_cases hp : x.path = p
      · have HP := Aside0.mk (decide_eq_true hp)
        clear hp
        go_wp2_with (go_at_call 84; refine (byPath x _ g _ ((HB.out.cell HG.out).trans HH.out)).mono ?_; rintro e w2 ⟨rfl, hb2⟩; rw [HP.out]; have HB2 := Aside0.mk (below_step HB.out hb2); clear hb2)
        go_ret
        exact ⟨by rw [fstI_hit HX.out HP.out HN.out]; rfl, HB2.out⟩
      · have HP := Aside0.mk (decide_eq_false hp)
        clear hp
        go_wp2_with (go_at_call 84; refine (byPath x _ g _ ((HB.out.cell HG.out).trans HH.out)).mono ?_; rintro e w2 ⟨rfl, hb2⟩; rw [HP.out]; have HB2 := Aside0.mk (below_step HB.out hb2); clear hb2)
        go_roundw
        case rel =>
          refine ⟨k + 1, by omega, by simp, HB2, ⟨fun j hj y hy => ?_⟩⟩
          by_cases hjk : j = k
          · subst hjk
            have := HX.out.symm.trans hy
            injection this with this
            subst this
            exact HP.out
          · exact HN.out j (by omega) y hy
        case measure => simp [intOf]; omega
    · have hk2 : k = l.length := by omega
      subst hk2
      go_wp2
      go_ret
      exact ⟨by rw [fstI_none HN.out]; rfl, HB.out⟩
end Go.Proofs.YtiohgpcbdefokaaDoor.B
/- record.Find: which part a path is. No condition. -/
namespace Go.Proofs.YtiohgpcbdefokaaDoor.B
open Go.RowKit Go.Proofs.YtiohgpcbdefokaaDoorW.PrintWords
attribute [local go_sem ↓ high] lvO_hs ldO_hs stO_hs lvO_pt ldO_pt stO_pt zero_pt eqA_pt lvO_ptR ldO_ptR stO_ptR zero_ptR eqA_ptR lvO_rc ldO_rc stO_rc zero_rc eqA_rc lvO_rcR ldO_rcR stO_rcR zero_rcR eqA_rcR lvO_tk ldO_tk stO_tk zero_tk eqA_tk lvO_tkR ldO_tkR stO_tkR zero_tkR eqA_tkR lvO_it ldO_it stO_it zero_it eqA_it blO_pt blO_ptR blO_rc blO_rcR blO_tk blO_tkR blO_it bsO_pt bsO_ptR bsO_rc bsO_rcR bsO_it
attribute [local go_sem high] rowAt_setCell rowAt_setRow cell_setRow_ne isRow_setRow_ne rowAt_alloc rowAt_drew isRow_alloc isRow_drew isRow_setCell rowRun_some okL_hs ldV_hs ldA_hs stA_hs setRow_alloc get_pt_id get_pt_path cut_pt_sum get_pt_size get_pt_off cut_pt okL_pt size_pt lenb_pt eta_pt ldV_pt ldA_pt stA_pt ldV_ptR ldA_ptR stA_ptR get_rc_kind get_rc_id get_rc_path cut_rc_sum get_rc_size get_rc_off cut_rc okL_rc size_rc lenb_rc eta_rc ldV_rc ldA_rc stA_rc ldV_rcR ldA_rcR stA_rcR get_tk_path cut_tk_sum get_tk_size get_tk_off cut_tk_old cut_tk okL_tk size_tk lenb_tk eta_tk ldV_tk ldA_tk stA_tk ldV_tkR ldA_tkR stA_tkR get_it_path get_it_dir get_it_size cut_it_sum cut_it okL_it size_it lenb_it eta_it ldV_it ldA_it stA_it bld_pt_01234 bld_pt_0123 bld_pt_z bld_ptR_01234 bld_ptR_0123 bld_ptR_z bld_rc_012345 bld_rc_015 bld_rc_01 bld_rc_z bld_rc_01234 bld_rc_24 bld_rc_05 bld_rc_0 bld_rcR_012345 bld_rcR_015 bld_rcR_01 bld_rcR_z bld_rcR_01234 bld_rcR_24 bld_rcR_05 bld_rcR_0 bld_tk_01234 bld_tk_0 bld_tk_z bld_tkR_01234 bld_tkR_0 bld_tkR_z bld_it_0123 bld_it_023 bld_it_01 bld_it_0 bld_it_z bs0_pt bs1_pt bs0_ptR bs1_ptR bs0_rc bs1_rc bs0_rcR bs1_rcR bs0_it bs1_it
theorem fstI_cases {α : Type} (p : α → Bool) (l : List α) : (fstI p l = -1 ∧ ∀ x ∈ l, p x = false) ∨ ∃ i x, fstI p l = ((i : Nat) : Int) ∧ l[i]? = some x ∧ p x = true ∧ ∀ j, j < i → ∀ y, l[j]? = some y → p y = false := by
  unfold fstI
  cases h : l.findIdx? p with
  | none => exact .inl ⟨rfl, by rw [List.findIdx?_eq_none_iff] at h; exact h⟩
  | some i =>
    rw [List.findIdx?_eq_some_iff_getElem] at h
    obtain ⟨h1, h2, h3⟩ := h
    refine .inr ⟨i, l[i], rfl, List.getElem?_eq_getElem h1, h2, fun j hj y hy => ?_⟩
    have := h3 j hj
    rw [List.getElem?_eq_getElem (by omega)] at hy
    injection hy with hy
    rw [← hy]; simpa using this
/-- The part of a path. -/
def findP (l : List Pt) (p : ByteArray) : Pt × Bool := match l.find? (fun x => decide (x.path = p)) with
  | some x => (x, true)
  | none => (Pt.zero, false)
theorem findP_none {l : List Pt} {p : ByteArray} (h : ∀ x ∈ l, decide (x.path = p) = false) : findP l p = (Pt.zero, false) := by
  unfold findP
  rw [List.find?_eq_none.2 (fun x hx => by rw [h x hx]; decide)]
theorem findP_some {l : List Pt} {p : ByteArray} {i : Nat} {x : Pt} (hx : l[i]? = some x) (hp : decide (x.path = p) = true) (hn : ∀ j, j < i → ∀ y, l[j]? = some y → decide (y.path = p) = false) : findP l p = (x, true) := by
  unfold findP
  have hi := List.getElem?_eq_some_iff.1 hx
  have : l.find? (fun x => decide (x.path = p)) = some x := by
    rw [List.find?_eq_some_iff_getElem]
    refine ⟨hp, i, hi.1, hi.2, fun j hj => ?_⟩
    have := hn j hj _ (List.getElem?_eq_getElem (show j < l.length by have := hi.1; omega))
    simpa using this
  rw [this]
set_option maxRecDepth 100000 in
set_option maxHeartbeats 4000000 in
theorem Find_calls (A : Option Addr) (c : Nat) (l : List Pt) (nx : Int) (p : ByteArray) (w : World) (hC : Kd.C kPt w A l.length l) (hlen : l.length ≤ 1000) :
    Calls Tryd.prog 33 #[.agg #[.slice A l.length c, .int .i64 nx], .string p] w fun e w' => e = .returned (.tuple #[.agg (ptL (findP l p).1).toArray, .bool (findP l p).2]) ∧ Below w.heap.size w w' := by
  have HC := Aside0.mk hC
  rcases fstI_cases (fun x : Pt => decide (x.path = p)) l with ⟨hi, hn⟩ | ⟨i, x, hi, hx, hp, hn⟩
  · have HI := Aside0.mk hi
    have HF := Aside0.mk (findP_none hn)
    clear hC hi hn
    go_enter Tryd.func33, Tryd.ntmps33
    go_wp2_with (go_at_call 80; refine (idx_path A c l p _ _ (Kd.C_below HC.out ?_) hlen ?_).mono ?_; (exact below_alloc (below_alloc (below_alloc (Below.refl _ _) _) _) _); (go_simp); rintro e w2 ⟨rfl, hb2⟩; rw [HI.out]; have hr2 : isRow w2 (w.heap.size + 1 + 1) 36 = true := (by rw [isRow_below hb2 (by simp)]; go_simp); have HB2 := Aside0.mk (Below.trans (below_alloc (below_alloc (below_alloc (Below.refl w.heap.size w) _) _) _) (hb2.mono (by simp; omega))); clear hb2)
    refine bodyPost_ret (v := .tuple #[.agg (ptL Pt.zero).toArray, .bool false]) (res2 rfl rfl (lv_pt (by rw [rowAt_setRow_same hr2 _ _ _ (by decide), cut_pt]; rfl)) rfl) rfl ⟨by rw [HF.out], below_setRow HB2.out (by omega) _⟩
  · have HI := Aside0.mk hi
    have HF := Aside0.mk (findP_some hx hp hn)
    have hil := (List.getElem?_eq_some_iff.1 hx)
    obtain ⟨b, o, hA, hb, hr⟩ := flat_at hC (by decide) (Nat.lt_of_le_of_lt (Nat.zero_le _) hil.1)
    subst hA
    have hrow := (hr i hil.1).1
    rw [hil.2] at hrow
    have hil := hil.1
    have HR := Aside0.mk hrow
    clear hC hi hn hx hp hr hrow
    go_enter Tryd.func33, Tryd.ntmps33
    go_wp2_with (go_at_call 80; refine (idx_path _ c l p _ _ (Kd.C_below HC.out ?_) hlen ?_).mono ?_; (exact below_alloc (below_alloc (below_alloc (Below.refl _ _) _) _) _); (go_simp); rintro e w2 ⟨rfl, hb2⟩; rw [HI.out]; have hr2 : isRow w2 (w.heap.size + 1 + 1) 36 = true := (by rw [isRow_below hb2 (by simp)]; go_simp); have hc2 : w2.cell? ⟨w.heap.size, 0, none⟩ = some (.slice (some ⟨b, o, none⟩) l.length c) := (by rw [hb2.cell (p := ⟨w.heap.size, 0, none⟩) (by simp; omega)]; go_simp); have hb3 := (Below.trans (below_alloc (below_alloc (below_alloc (Below.refl w.heap.size w) _) _) _) (hb2.mono (by simp; omega))); have hx2 := HR.out; rw [← rowAt_below hb3 hb] at hx2; have HB2 := Aside0.mk hb3; clear hb2 hb3)
    refine bodyPost_ret (v := .tuple #[.agg (ptL x).toArray, .bool true]) (res2 rfl rfl (lv_pt (by rw [rowAt_setRow_same hr2 _ _ _ (by decide), cut_pt])) rfl) rfl ⟨by rw [HF.out], below_setRow HB2.out (by omega) _⟩
end Go.Proofs.YtiohgpcbdefokaaDoor.B
/- slices.Clone, slices.Delete over parts; (State).own. No condition. -/
namespace Go.Proofs.YtiohgpcbdefokaaDoor.B
open Go.RowKit Go.Proofs.YtiohgpcbdefokaaDoorW.PrintWords Go.Proofs.YtiohgpcbdefokaaDoor.RowLaws
attribute [local go_sem ↓ high] lvO_hs ldO_hs stO_hs lvO_pt ldO_pt stO_pt zero_pt eqA_pt lvO_ptR ldO_ptR stO_ptR zero_ptR eqA_ptR lvO_rc ldO_rc stO_rc zero_rc eqA_rc lvO_rcR ldO_rcR stO_rcR zero_rcR eqA_rcR lvO_tk ldO_tk stO_tk zero_tk eqA_tk lvO_tkR ldO_tkR stO_tkR zero_tkR eqA_tkR lvO_it ldO_it stO_it zero_it eqA_it blO_pt blO_ptR blO_rc blO_rcR blO_tk blO_tkR blO_it bsO_pt bsO_ptR bsO_rc bsO_rcR bsO_it
attribute [local go_sem high] rowAt_setCell rowAt_setRow cell_setRow_ne isRow_setRow_ne rowAt_alloc rowAt_drew isRow_alloc isRow_drew isRow_setCell rowRun_some okL_hs ldV_hs ldA_hs stA_hs setRow_alloc get_pt_id get_pt_path cut_pt_sum get_pt_size get_pt_off cut_pt okL_pt size_pt lenb_pt eta_pt ldV_pt ldA_pt stA_pt ldV_ptR ldA_ptR stA_ptR get_rc_kind get_rc_id get_rc_path cut_rc_sum get_rc_size get_rc_off cut_rc okL_rc size_rc lenb_rc eta_rc ldV_rc ldA_rc stA_rc ldV_rcR ldA_rcR stA_rcR get_tk_path cut_tk_sum get_tk_size get_tk_off cut_tk_old cut_tk okL_tk size_tk lenb_tk eta_tk ldV_tk ldA_tk stA_tk ldV_tkR ldA_tkR stA_tkR get_it_path get_it_dir get_it_size cut_it_sum cut_it okL_it size_it lenb_it eta_it ldV_it ldA_it stA_it bld_pt_01234 bld_pt_0123 bld_pt_z bld_ptR_01234 bld_ptR_0123 bld_ptR_z bld_rc_012345 bld_rc_015 bld_rc_01 bld_rc_z bld_rc_01234 bld_rc_24 bld_rc_05 bld_rc_0 bld_rcR_012345 bld_rcR_015 bld_rcR_01 bld_rcR_z bld_rcR_01234 bld_rcR_24 bld_rcR_05 bld_rcR_0 bld_tk_01234 bld_tk_0 bld_tk_z bld_tkR_01234 bld_tkR_0 bld_tkR_z bld_it_0123 bld_it_023 bld_it_01 bld_it_0 bld_it_z bs0_pt bs1_pt bs0_ptR bs1_ptR bs0_rc bs1_rc bs0_rcR bs1_rcR bs0_it bs1_it
theorem bcell {W w1 : World} (hb : Below W.heap.size W w1) : (∀ b o, b < W.heap.size → w1.cell? ⟨b, o, none⟩ = W.cell? ⟨b, o, none⟩) ∧ (∀ b o, b < W.heap.size → w1.frozen? ⟨b, o, none⟩ = W.frozen? ⟨b, o, none⟩) :=
  ⟨fun b o h => hb.cell (p := ⟨b, o, none⟩) h, fun b o h => hb.frozen (p := ⟨b, o, none⟩) h⟩
theorem flat_elder {α : Type} {n : Nat} {enc : α → List Value} {hl : ∀ x, (enc x).length = n} {h1 : ∀ x, ∀ v ∈ enc x, v.oneCell' = true} {e : Nat} {W W' : World} {B : Nat} {ok : Nat → Prop} {v : Value} {xs : List α} (h : Kd.R (flat n enc hl h1) e W B ok v xs) (hm : ∀ k, B ≤ k → W'.heap[k]? = W.heap[k]?) : Kd.R (flat n enc hl h1) e W' B ok v xs := by
  obtain ⟨h0, inner, ho, hr⟩ := h
  exact ⟨h0, inner, own_move ho (fun k hk => hm k (own_base ho k hk)), hr⟩
theorem flat_keep {α : Type} {n : Nat} {enc : α → List Value} {hl : ∀ x, (enc x).length = n} {h1 : ∀ x, ∀ v ∈ enc x, v.oneCell' = true} {e : Nat} {W : World} {B g o : Nat} {u : Value} {ok : Nat → Prop} {v : Value} {xs : List α} (h : Kd.R (flat n enc hl h1) e W B ok v xs) (hg : v.ownBlock ≠ some g) : Kd.R (flat n enc hl h1) e (W.setCell ⟨g, o, none⟩ u) B ok v xs := by
  obtain ⟨h0, inner, ho, hr⟩ := h
  exact ⟨h0, inner, own_move ho (fun k hk => Below.heap_setCell _ _ _ _ (by show k ≠ g; intro e; exact hg (by rw [hk, e]))), hr⟩
theorem flat_put {α : Type} {n : Nat} {enc : α → List Value} {hl : ∀ x, (enc x).length = n} {h1 : ∀ x, ∀ v ∈ enc x, v.oneCell' = true} {e : Nat} {W : World} {B g o : Nat} {u : Value} {ok : Nat → Prop} {v : Value} {xs : List α} (h : Kd.R (flat n enc hl h1) e W B ok v xs) (hg : g < B) : Kd.R (flat n enc hl h1) e (W.setCell ⟨g, o, none⟩ u) B ok v xs :=
  flat_elder h fun k hk => Below.heap_setCell _ _ _ _ (by show k ≠ g; omega)
theorem flat_putRow {α : Type} {n : Nat} {enc : α → List Value} {hl : ∀ x, (enc x).length = n} {h1 : ∀ x, ∀ v ∈ enc x, v.oneCell' = true} {e : Nat} {W : World} {B g : Nat} {c : Array Value} {ok : Nat → Prop} {v : Value} {xs : List α} (h : Kd.R (flat n enc hl h1) e W B ok v xs) (hg : g < B) : Kd.R (flat n enc hl h1) e (W.setRow g c) B ok v xs :=
  flat_elder h fun k hk => setRow_other W g k c (by omega)
theorem infoPt : (Tryd.prog.info? 75).map (fun i => (i.zero, i.size, i.bytes)) = some (some (.agg (ptL Pt.zero).toArray), 36, 72) := by kernel_rfl
set_option maxHeartbeats 4000000 in
set_option maxRecDepth 100000 in
theorem Clone_calls (A : Option Addr) (c : Nat) (l : List Pt) (w : World) (hC : Kd.C kPt w A l.length l) (hc : l.length ≤ c) (hlen : l.length ≤ 1000) :
    Calls Tryd.prog 124 #[.slice A l.length c] w fun e w' => ∃ v : Value, e = .returned v ∧ Kd.R kPt 75 w' w.heap.size (fun _ => True) v l ∧ Below w.heap.size w w' := by
  have HR := Aside0.mk hC
  have HB := Aside0.mk (Below.refl w.heap.size w)
  clear hC
  have hnil := fun W a n c => Lib.run_eql_slice_nil (P := Tryd.prog) W 58 75 a n c 0 0 Tryd.underlying58
  cases A with
  | none =>
    have hn : l = [] := by
      rcases Nat.eq_zero_or_pos l.length with h0 | h0
      · exact List.eq_nil_of_length_eq_zero h0
      · obtain ⟨ad, he, _⟩ := HR.out.2.2 h0
        cases he
    subst hn
    go_enter Tryd.func124, Tryd.ntmps124
    go_wp2
    go_ret
    exact ⟨_, rfl, Kd.R_nil _ _ _ _ _, Below.refl _ _⟩
  | some ad =>
    go_enter Tryd.func124, Tryd.ntmps124
    go_wp2_with (first
      | ((with_reducible refine gate_dst (N := 5) rfl ?_); refine Kd.R_lit kPt _ 75 ?hg (N := 5) ?hd (xs := ([] : List Pt)) (inner := []) (ok := fun _ => True) (okp := fun _ => True) ?hr ?hp (fun _ hk => hk) trivial (Below.refl _ _) (Nat.le_refl _) (by simp) ?_; (case hd => rfl); (case hg => rfl); (case hr => first | (go_simp; done) | (go_simp; rfl)); (case hp => exact (Reps.none _ _)); intro v1 w1 ho hb _ _; have HO1 := Aside0.mk ho; have HB1 := Aside0.mk hb; clear ho hb)
      | ((with_reducible refine gate_builtin (b := .append) (xs := #[.tmp 5, .tmp 6]) rfl ?_); at_builtin; refine Kd.R_append_rows kPt (w0 := w) w.heap.size rfl (.tmp 5) (.tmp 6) 58 75 _ 72 rfl Tryd.underlying58 infoPt (ptL_len _) (by decide) (by omega) v1 [] l _ _ _ (fun _ => True) (fun _ => False) rfl rfl ?aO ?aR (fun _ _ h => h) (fun _ h => h.elim) ?aF ?aB ?aS ?aL ?_; (case aR => exact Kd.C_below HR.out HB1.out); (case aB => exact HB1.out); (case aF => exact (fun _ _ => trivial)); (case aO => exact HO1.out); (case aS => exact HB1.out.size); (case aL => simp; omega); intro v2 w2 ho hb _ _; have HO2 := Aside0.mk ho; have HB2 := Aside0.mk hb; clear ho hb))
    go_ret
    exact ⟨_, rfl, Kd.R_mono (by simpa using HO2.out) (fun _ _ => trivial), HB2.out⟩
#print axioms Clone_calls
end Go.Proofs.YtiohgpcbdefokaaDoor.B
/- record.read of a mark's body. No condition. -/
namespace Go.Proofs.YtiohgpcbdefokaaDoor.B
open Go.RowKit Go.Proofs.YtiohgpcbdefokaaDoorW.PrintWords Go.Proofs.YtiohgpcbdefokaaDoor.RowLaws
attribute [local go_sem ↓ high] lvO_hs ldO_hs stO_hs lvO_pt ldO_pt stO_pt zero_pt eqA_pt lvO_ptR ldO_ptR stO_ptR zero_ptR eqA_ptR lvO_rc ldO_rc stO_rc zero_rc eqA_rc lvO_rcR ldO_rcR stO_rcR zero_rcR eqA_rcR lvO_tk ldO_tk stO_tk zero_tk eqA_tk lvO_tkR ldO_tkR stO_tkR zero_tkR eqA_tkR lvO_it ldO_it stO_it zero_it eqA_it blO_pt blO_ptR blO_rc blO_rcR blO_tk blO_tkR blO_it bsO_pt bsO_ptR bsO_rc bsO_rcR bsO_it
attribute [local go_sem high] rowAt_setCell rowAt_setRow cell_setRow_ne isRow_setRow_ne rowAt_alloc rowAt_drew isRow_alloc isRow_drew isRow_setCell rowRun_some okL_hs ldV_hs ldA_hs stA_hs setRow_alloc get_pt_id get_pt_path cut_pt_sum get_pt_size get_pt_off cut_pt okL_pt size_pt lenb_pt eta_pt ldV_pt ldA_pt stA_pt ldV_ptR ldA_ptR stA_ptR get_rc_kind get_rc_id get_rc_path cut_rc_sum get_rc_size get_rc_off cut_rc okL_rc size_rc lenb_rc eta_rc ldV_rc ldA_rc stA_rc ldV_rcR ldA_rcR stA_rcR get_tk_path cut_tk_sum get_tk_size get_tk_off cut_tk_old cut_tk okL_tk size_tk lenb_tk eta_tk ldV_tk ldA_tk stA_tk ldV_tkR ldA_tkR stA_tkR get_it_path get_it_dir get_it_size cut_it_sum cut_it okL_it size_it lenb_it eta_it ldV_it ldA_it stA_it bld_pt_01234 bld_pt_0123 bld_pt_z bld_ptR_01234 bld_ptR_0123 bld_ptR_z bld_rc_012345 bld_rc_015 bld_rc_01 bld_rc_z bld_rc_01234 bld_rc_24 bld_rc_05 bld_rc_0 bld_rcR_012345 bld_rcR_015 bld_rcR_01 bld_rcR_z bld_rcR_01234 bld_rcR_24 bld_rcR_05 bld_rcR_0 bld_tk_01234 bld_tk_0 bld_tk_z bld_tkR_01234 bld_tkR_0 bld_tkR_z bld_it_0123 bld_it_023 bld_it_01 bld_it_0 bld_it_z bs0_pt bs1_pt bs0_ptR bs1_ptR bs0_rc bs1_rc bs0_rcR bs1_rcR bs0_it bs1_it
theorem isRow_only {w w' : World} {g b n : Nat} (h : Only g w w') (hb : b < w.heap.size) (hne : b ≠ g) : isRow w' b n = isRow w b n := by
  unfold isRow
  rw [h.block b hb (by intro e; injection e with e; exact hne e)]
theorem rcL_off (r : Rc) (x : Int) : (rcL r).toArray.setIfInBounds 36 (.int .i64 x) = (rcL { r with off := x }).toArray := by
  obtain ⟨b0, b1, b2, b3, b4, b5, b6, b7, b8, b9, b10, b11, b12, b13, b14, b15, b16, b17, b18, b19, b20, b21, b22, b23, b24, b25, b26, b27, b28, b29, b30, b31, e0⟩ := hs_lit r.sum
  simp [rcL, e0]
/-- A row made whole, with its last cell written. -/
theorem row_off {w w5 : World} {g : Nat} {r : Rc} {x : Int} (ho : Only g (w.alloc (.cells (rcL r).toArray 51)) w5) (hg : g < w.heap.size) : rowAt (w5.setCell ⟨w.heap.size, 36, none⟩ (.int .i64 x)) ⟨w.heap.size, 0, none⟩ 37 = some (rcL { r with off := x }) ∧ w5.frozen? ⟨w.heap.size, 36, none⟩ = false ∧ w5.cell? ⟨w.heap.size, 36, none⟩ = some (.int .i64 r.off) := by
  have h0 : w5.heap[w.heap.size]? = some (.cells (rcL r).toArray 51 (0, 0)) := (ho.block _ (by simp) (by intro e; injection e; omega)).trans (heap_alloc_new _ _)
  refine ⟨?_, blk_frozen h0 _, ?_⟩
  · have h1 := blk_set h0 36 (.int .i64 x)
    rw [rcL_off] at h1
    rw [rowAt_block h1 0 37 (by simp [rcL_len])]
    rw [List.drop_zero, List.take_of_length_le (by simp [rcL_len])]
  · rw [cell_of_row _ _ _ _ _ _ h0]
    obtain ⟨b0, b1, b2, b3, b4, b5, b6, b7, b8, b9, b10, b11, b12, b13, b14, b15, b16, b17, b18, b19, b20, b21, b22, b23, b24, b25, b26, b27, b28, b29, b30, b31, e0⟩ := hs_lit r.sum
    simp [rcL, e0]
theorem isRow_lt {w : World} {g n : Nat} (h : isRow w g n = true) : g < w.heap.size := by
  obtain ⟨cs, t, hc, _⟩ := isRow_get h
  exact (Array.getElem?_eq_some_iff.1 hc).1
theorem keepRd {r : Rc} {b g h : Nat} {w W : World} (hS : rowAt w ⟨b, 0, none⟩ 37 = some (rcL r) ∧ isRow w h 37 = true ∧ RdAt w g [] 0 ∧ TabOK w) (hb : Below w.heap.size w W) : rowAt W ⟨b, 0, none⟩ 37 = some (rcL r) ∧ isRow W h 37 = true ∧ RdAt W g [] 0 ∧ TabOK W := by
  obtain ⟨h1, h2, h3, h4⟩ := hS
  have hlt : b < w.heap.size := by
    have := (rowAt_some h1).2 0 _ (List.getElem?_eq_getElem (show 0 < (rcL r).length by rw [rcL_len]; decide))
    exact World.block_lt_of_cell? _ _ this
  exact ⟨by rw [rowAt_below hb hlt]; exact h1, by rw [isRow_below hb (isRow_lt h2)]; exact h2, h3.below hb, h4.below hb⟩
theorem keepRd2 {r q : Rc} {b g h : Nat} {w : World} (hS : rowAt w ⟨b, 0, none⟩ 37 = some (rcL r) ∧ isRow w h 37 = true ∧ RdAt w g [] 0 ∧ TabOK w) (h1 : b ≠ h) (h2 : g ≠ h) (hT : TabOK (w.setRow h (rcL q).toArray)) :
    rowAt (w.setRow h (rcL q).toArray) ⟨b, 0, none⟩ 37 = some (rcL r) ∧ isRow (w.setRow h (rcL q).toArray) h 37 = true ∧ RdAt (w.setRow h (rcL q).toArray) g [] 0 ∧ TabOK (w.setRow h (rcL q).toArray) := by
  obtain ⟨a1, a2, a3, a4⟩ := hS
  refine ⟨by rw [rowAt_setRow _ _ _ _ _ _ h1]; exact a1, by rw [isRow_setRow_same a2]; simp [rcL_len], ?_, hT⟩
  obtain ⟨A, c, b0, b1, b2⟩ := a3
  have ho : Only h w (w.setRow h (rcL q).toArray) := (Only.refl _ _).setRow _
  have hg : g < w.heap.size := (Array.getElem?_eq_some_iff.1 b0).1
  refine ⟨A, c, (ho.block g hg (by intro e; injection e with e; exact h2 e)).trans b0, b1, fun W hW => ⟨rfl, Nat.zero_le _, fun h => absurd h (Nat.lt_irrefl 0)⟩⟩
theorem rd_far {w : World} {g b o : Nat} {u : Value} (h : RdAt w g [] 0) (hne : g ≠ b) : RdAt (w.setCell ⟨b, o, none⟩ u) g [] 0 := by
  obtain ⟨A, c, b0, b1, b2⟩ := h
  exact ⟨A, c, (Below.heap_setCell _ _ _ _ (by exact hne)).trans b0, b1, fun W hW => ⟨rfl, Nat.zero_le _, fun h => absurd h (Nat.lt_irrefl 0)⟩⟩
theorem rdOf {r : Rc} {b g h : Nat} {w : World} (hS : rowAt w ⟨b, 0, none⟩ 37 = some (rcL r) ∧ isRow w h 37 = true ∧ RdAt w g [] 0 ∧ TabOK w) : RdAt w g [] 0 := hS.2.2.1
theorem tabOf {r : Rc} {b g h : Nat} {w : World} (hS : rowAt w ⟨b, 0, none⟩ 37 = some (rcL r) ∧ isRow w h 37 = true ∧ RdAt w g [] 0 ∧ TabOK w) : TabOK w := hS.2.2.2
set_option linter.unusedVariables false in
set_option maxHeartbeats 4000000 in
set_option maxRecDepth 100000 in
theorem ReadMark_calls (k : Nat) (A : Option Addr) (c : Nat) (l1 : List Int) (id u1 off u2 : Int) (w : World) (hT : TabOK w) (hC : Kd.C (Kd.int .u8) w A (1 :: l1).length (1 :: l1)) (hc : (1 :: l1).length ≤ c)
    (h1 : varint_Shortest.f k l1 = some (id, u1, 0)) (hu1 : 0 ≤ u1 ∧ u1 ≤ l1.length) (hid : ¬ 1099511627776 < id) (h2 : varint_Shortest.f k (l1.drop u1.toNat) = some (off, u2, 0)) (hu2 : 0 ≤ u2 ∧ u2 ≤ (l1.drop u1.toNat).length) (hoff : ¬ 65536 < off)
    (hn : (l1.drop u1.toNat).drop u2.toNat = []) (hk : chkE ⟨1, id, ByteArray.empty, Hs.zero, 0, off⟩ = 0) :
    Calls Tryd.prog 127 #[.slice A (1 :: l1).length c] w fun e w' => e = .returned (.tuple #[.agg (rcL ⟨1, id, ByteArray.empty, Hs.zero, 0, off⟩).toArray, .bool true]) ∧ Below w.heap.size w w' := by
  have HT := Aside0.mk hT
  have HC := Aside0.mk (And.intro hC hc)
  obtain ⟨l2, hl2⟩ : ∃ l2, l1.drop u1.toNat = l2 := ⟨_, rfl⟩
  rw [hl2] at h2 hu2 hn
  have HN1 := Aside0.mk (show numP id u1 0 l1 1099511627776 = (id, l2, 0) by have e : lookF id u1 0 1099511627776 = (id, u1, 0) := if_neg (fun h => hid h.2); unfold numP; rw [e]; simp only; rw [if_true, hl2])
  have HN2 := Aside0.mk (show numP off u2 0 l2 65536 = (off, [], 0) by have e : lookF off u2 0 65536 = (off, u2, 0) := if_neg (fun h => hoff h.2); unfold numP; rw [e]; simp only; rw [if_true, hn])
  have H1 := Aside0.mk (And.intro h1 hu1)
  have H2 := Aside0.mk (And.intro h2 hu2)
  have HK := Aside0.mk hk
  obtain ⟨n, hn0⟩ : ∃ n, (1 :: l1).length = n := ⟨_, rfl⟩
  rw [hn0]
  have HN := Aside0.mk hn0
  clear hT hC hc h1 hu1 hid h2 hu2 hoff hn hk hl2 hn0
  go_enter Tryd.func127, Tryd.ntmps127
  go_wp2_with (first
    | (go_at_call 62; rw [← HN.out]; refine (New_calls A c (1 :: l1) _ (Kd.C_below HC.out.1 ?_) HC.out.2).mono ?_; (exact below_alloc (Below.refl _ _) _); rintro e w2 ⟨rfl, hr2, hb2⟩; rw [World.size_alloc] at hr2; have HR2 := Aside0.mk hr2; have HB2 := Aside0.mk (Below.trans (below_alloc (Below.refl w.heap.size w) _) (hb2.mono (by simp))); have i2 : isRow w2 w.heap.size 37 = true := (by rw [isRow_below hb2 (by simp)]; first | (go_simp; done) | (simp [*]; done)); have HLT := Aside0.mk hr2.lt; clear hr2 hb2)
    | (go_at_call 89; refine (Byte_calls (w.heap.size + 1) 1 l1 _ HR2.out (by decide) (by decide)).mono ?_; rintro e w3 ⟨rfl, hr3, ho3⟩; have HR3 := Aside0.mk hr3; have HO3 := Aside0.mk ho3; have i3 : isRow w3 w.heap.size 37 = true := (by rw [isRow_only ho3 (by have := HLT.out; omega) (by omega)]; exact i2); have HB3 := Aside0.mk (Below.trans HB2.out (ho3.below (n := w.heap.size) (by omega) (by have := HLT.out; omega))); clear hr3 ho3)
    | (go_at_call 65; with_reducible refine Calls.mono (Num_calls k (w.heap.size + 1) l1 1099511627776 id u1 0 w3 HR3.out H1.out.1 (fun _ => H1.out.2)) ?_; rw [HN1.out]; rintro e w4 ⟨rfl, hr4, ho4⟩; have HR4 := Aside0.mk hr4; have HLT4 := Aside0.mk hr4.lt; have i4 : isRow w4 w.heap.size 37 = true := (by rw [isRow_only ho4 (by have := HR3.out.lt; omega) (by omega)]; exact i3); have HB4 := Aside0.mk (Below.trans HB3.out (ho4.below (n := w.heap.size) (by omega) (by have := HR3.out.lt; omega))); clear hr4 ho4)
    | (go_at_call 65; with_reducible refine Calls.mono (Num_calls k (w.heap.size + 1) l2 65536 off u2 0 _ (HR4.out.below (below_alloc (Below.refl _ _) _)) H2.out.1 (fun _ => H2.out.2)) ?_; rw [HN2.out]; rintro e w5 ⟨rfl, hr5, ho5⟩; obtain ⟨rw5, fz5, cc5⟩ := row_off (x := off) ho5 HLT4.out; have HR5 := Aside0.mk hr5; have HO5 := Aside0.mk ho5; have i5 : isRow w5 w.heap.size 37 = true := (by rw [isRow_only ho5 (by have := HLT4.out; simp; omega) (by omega), isRow_below (below_alloc (Below.refl w4.heap.size w4) _) (by have := HLT4.out; omega)]; exact i4); have HB5 := Aside0.mk (Below.trans HB4.out (Below.trans ((below_alloc (Below.refl w4.heap.size w4) _).mono (by have := HLT4.out; omega)) (ho5.below (n := w.heap.size) (by omega) (by have := HLT4.out; simp; omega)))); have HS5 := Aside0.mk (show w4.heap.size + 1 ≤ w5.heap.size from by have := ho5.size; simpa using this); clear hr5 ho5))
  have hS : rowAt (w5.setCell ⟨w4.heap.size, 36, none⟩ (.int .i64 off)) ⟨w4.heap.size, 0, none⟩ 37 = some (rcL ⟨1, id, ByteArray.empty, Hs.zero, 0, off⟩) ∧ isRow (w5.setCell ⟨w4.heap.size, 36, none⟩ (.int .i64 off)) w.heap.size 37 = true ∧ RdAt (w5.setCell ⟨w4.heap.size, 36, none⟩ (.int .i64 off)) (w.heap.size + 1) [] 0 ∧ TabOK (w5.setCell ⟨w4.heap.size, 36, none⟩ (.int .i64 off)) := ⟨rw5, by rw [isRow_setCell]; exact i5, rd_far HR5.out (by have := HLT4.out; omega), HT.out.below (below_setCell HB5.out (by have := HLT4.out; omega) _)⟩
  have HB6 := Aside0.mk (show Below w.heap.size w (w5.setCell ⟨w4.heap.size, 36, none⟩ (.int .i64 off)) from below_setCell HB5.out (by have := HLT4.out; omega) _)
  generalize w5.setCell ⟨w4.heap.size, 36, none⟩ (.int .i64 off) = w6 at hS HB6 ⊢
  clear rw5 fz5 cc5 i2 i3 i4 i5
  go_region_held3 (fun w' => rowAt w' ⟨w4.heap.size, 0, none⟩ 37 = some (rcL ⟨1, id, ByteArray.empty, Hs.zero, 0, off⟩) ∧ isRow w' w.heap.size 37 = true ∧ RdAt w' (w.heap.size + 1) [] 0 ∧ TabOK w') (first | assumption | exact keepRd (by assumption) (below_drew (Below.refl _ _)) | exact keepRd2 (by assumption) (by have := HLT4.out; omega) (by omega) (HT.out.below (below_setRow HB8.out (Nat.le_refl _) _)))
    (first
      | (go_at_call 66; refine (Done_calls (w.heap.size + 1) [] 0 _ (rdOf (by assumption))).mono ?_; rintro e w7 ⟨rfl, hb7⟩; have hS7 := keepRd (by assumption) hb7; have HB7 := Aside0.mk (below_step (by first | exact HB6.out | exact below_drew HB6.out) hb7); clear hb7)
      | (go_at_call 26; refine (Check_calls ⟨1, id, ByteArray.empty, Hs.zero, 0, off⟩ _ (tabOf (by assumption))).mono ?_; rintro e w8 ⟨rfl, hb8⟩; rw [HK.out]; have hS8 := keepRd (by assumption) hb8; have HB8 := Aside0.mk (below_step (by first | exact HB7.out | exact below_drew HB7.out) hb8); clear hb8))
  go_wp2
  refine bodyPost_ret (v := .tuple #[.agg (rcL ⟨1, id, ByteArray.empty, Hs.zero, 0, off⟩).toArray, .bool true]) (res2 rfl rfl (lv_rc (by rw [rowAt_setRow_same hS8.2.1 _ _ _ (by decide), cut_rc])) rfl) rfl ⟨rfl, below_setRow HB8.out (Nat.le_refl _) _⟩
end Go.Proofs.YtiohgpcbdefokaaDoor.B
/- record.first, record.Scan of eight bytes that hold a mark. No condition. -/
namespace Go.Proofs.YtiohgpcbdefokaaDoor.B
open Go.RowKit Go.Proofs.YtiohgpcbdefokaaDoorW.PrintWords Go.Proofs.YtiohgpcbdefokaaDoor.RowLaws
attribute [local go_sem ↓ high] lvO_hs ldO_hs stO_hs lvO_pt ldO_pt stO_pt zero_pt eqA_pt lvO_ptR ldO_ptR stO_ptR zero_ptR eqA_ptR lvO_rc ldO_rc stO_rc zero_rc eqA_rc lvO_rcR ldO_rcR stO_rcR zero_rcR eqA_rcR lvO_tk ldO_tk stO_tk zero_tk eqA_tk lvO_tkR ldO_tkR stO_tkR zero_tkR eqA_tkR lvO_it ldO_it stO_it zero_it eqA_it blO_pt blO_ptR blO_rc blO_rcR blO_tk blO_tkR blO_it bsO_pt bsO_ptR bsO_rc bsO_rcR bsO_it
attribute [local go_sem high] rowAt_setCell rowAt_setRow cell_setRow_ne isRow_setRow_ne rowAt_alloc rowAt_drew isRow_alloc isRow_drew isRow_setCell rowRun_some okL_hs ldV_hs ldA_hs stA_hs setRow_alloc get_pt_id get_pt_path cut_pt_sum get_pt_size get_pt_off cut_pt okL_pt size_pt lenb_pt eta_pt ldV_pt ldA_pt stA_pt ldV_ptR ldA_ptR stA_ptR get_rc_kind get_rc_id get_rc_path cut_rc_sum get_rc_size get_rc_off cut_rc okL_rc size_rc lenb_rc eta_rc ldV_rc ldA_rc stA_rc ldV_rcR ldA_rcR stA_rcR get_tk_path cut_tk_sum get_tk_size get_tk_off cut_tk_old cut_tk okL_tk size_tk lenb_tk eta_tk ldV_tk ldA_tk stA_tk ldV_tkR ldA_tkR stA_tkR get_it_path get_it_dir get_it_size cut_it_sum cut_it okL_it size_it lenb_it eta_it ldV_it ldA_it stA_it bld_pt_01234 bld_pt_0123 bld_pt_z bld_ptR_01234 bld_ptR_0123 bld_ptR_z bld_rc_012345 bld_rc_015 bld_rc_01 bld_rc_z bld_rc_01234 bld_rc_24 bld_rc_05 bld_rc_0 bld_rcR_012345 bld_rcR_015 bld_rcR_01 bld_rcR_z bld_rcR_01234 bld_rcR_24 bld_rcR_05 bld_rcR_0 bld_tk_01234 bld_tk_0 bld_tk_z bld_tkR_01234 bld_tkR_0 bld_tkR_z bld_it_0123 bld_it_023 bld_it_01 bld_it_0 bld_it_z bs0_pt bs1_pt bs0_ptR bs1_ptR bs0_rc bs1_rc bs0_rcR bs1_rcR bs0_it bs1_it
/-- Eight bytes that hold the mark r. -/
structure Eight (k : Nat) (l : List Int) (r : Rc) : Prop where
  len : l.length = 8
  num : varint_Shortest.f k l = some (7, 1, 0)
  open_ : crc_Open.f k ((l.take 8).drop 1) = some ([1, r.id, r.off], 0)
  one : varint_Shortest.f k [r.id, r.off] = some (r.id, 1, 0)
  two : varint_Shortest.f k [r.off] = some (r.off, 1, 0)
  lo : ¬ 1099511627776 < r.id
  lo2 : ¬ 65536 < r.off
  is : r = ⟨1, r.id, ByteArray.empty, Hs.zero, 0, r.off⟩
  chk : chkE r = 0
set_option linter.unusedVariables false in
set_option maxHeartbeats 4000000 in
set_option maxRecDepth 100000 in
theorem First_calls (k : Nat) (A : Option Addr) (c : Nat) (l : List Int) (r : Rc) (w : World) (hT : TabOK w) (hC : Kd.C (Kd.int .u8) w A 8 l) (hc : 8 ≤ c) (h : Eight k l r) :
    Calls Tryd.prog 85 #[.slice A 8 c] w fun e w' => e = .returned (.tuple #[.agg (rcL r).toArray, .int .i64 8, .int .i64 0]) ∧ Below w.heap.size w w' := by
  have HT := Aside0.mk hT
  have HH := Aside0.mk h
  have hC' : Kd.C (Kd.int .u8) w A l.length l := by rw [h.len]; exact hC
  obtain ⟨A2, hm1, hm2, hm3⟩ := print_mid_of (P := Tryd.prog) (Value.int .u8) 0 22 5 .i64 .i64 Tryd.underlying22 (info_parts info5).choose_spec.1 (info_parts info5).choose_spec.2.2.1 A c l 1 8 (by decide) (by decide) (by rw [h.len]; decide) (by rw [h.len]; exact hc)
  rw [show ((8 : Int)).toNat = 8 from rfl, show ((1 : Int)).toNat = 1 from rfl] at hm1 hm2 hm3
  obtain ⟨y, hy⟩ : ∃ y, (l.take 8).drop 1 = y := ⟨_, rfl⟩
  have ho := h.open_
  rw [hy] at hm1 hm2 hm3 ho
  rw [h.len] at hm1
  have hyl : y.length = 7 := by rw [← hy, List.length_drop, List.length_take, h.len]; decide
  have HM := Aside0.mk (And.intro hm1 (And.intro hm2 hm3))
  have HYL := Aside0.mk hyl
  have HO := Aside0.mk ho
  have HC := Aside0.mk hC'
  have HC8 := Aside0.mk (show l.length ≤ c by rw [h.len]; exact hc)
  have HL := Aside0.mk h.len
  have HNUM := Aside0.mk h.num
  clear hT hC hc hC' hm1 hm2 hm3 hy ho hyl h
  go_enter Tryd.func85, Tryd.ntmps85
  go_wp2_with (first
    | (go_at_call 125; rw [← HL.out]; refine (varint_Shortest.calls k A c l 7 1 0 _ (Kd.C_below HC.out ?_) HC8.out HNUM.out).mono ?_; (exact below_alloc (Below.refl _ _) _); rintro e w2 ⟨rfl, hb2⟩; rw [HL.out]; have i2 : isRow w2 w.heap.size 37 = true := (by rw [isRow_below hb2 (by simp)]; first | (go_simp; done) | (simp [*]; done)); have HB2 := Aside0.mk (Below.trans (below_alloc (Below.refl w.heap.size w) _) (hb2.mono (by simp))); have hcut := HM.out.1 w2; rw [HYL.out] at hcut; have HLT := Aside0.mk (isRow_lt i2); clear hb2)
    | (go_at_call 126; rw [← HYL.out]; refine (crc_Open.calls k A2 _ y [1, r.id, r.off] 0 w2 (Kd.C_of_reads (h1 := fun _ => rfl) (HM.out.2.1 w2 (Kd.reads_of_C (Kd.C_below HC.out HB2.out)))) HM.out.2.2 (HT.out.below HB2.out) HO.out).mono ?_; rintro e w3 ⟨v3, rfl, ho3, hb3⟩; rw [HYL.out]; obtain ⟨A3, c3, rfl⟩ := Kd.R_slice ho3; have i3 : isRow w3 w.heap.size 37 = true := (by rw [isRow_below hb3 HLT.out]; exact i2); have HB3 := Aside0.mk (below_step HB2.out hb3); have HR3 := Aside0.mk (Kd.R_reads' ho3); clear ho3 hb3)
    | (go_at_call 127; have hq := ReadMark_calls k A3 c3 [r.id, r.off] r.id 1 r.off 1 w3 (HT.out.below HB3.out) HR3.out.2.2 HR3.out.2.1 HH.out.one ⟨by decide, by simp only [List.length_cons]; omega⟩ HH.out.lo HH.out.two ⟨by decide, by simp⟩ HH.out.lo2 rfl (by rw [← HH.out.is]; exact HH.out.chk); rw [← HH.out.is] at hq; refine Calls.mono (show Calls _ _ #[.slice A3 3 c3] w3 _ from hq) ?_; clear hq; rintro e w4 ⟨rfl, hb4⟩; have i4 : isRow w4 w.heap.size 37 = true := (by rw [isRow_below hb4 (isRow_lt i3)]; exact i3); have HB4 := Aside0.mk (below_step HB3.out hb4); have HLT4 := Aside0.mk (isRow_lt i4); have n4 : ¬ (w.heap.size = w4.heap.size) := (by have := isRow_lt i4; omega); clear hb4))
  refine bodyPost_ret (v := .tuple #[.agg (rcL r).toArray, .int .i64 8, .int .i64 0]) (res3 rfl rfl (lv_rc (by rw [rowAt_below (below_alloc (Below.refl _ _) _) (by simpa using HLT4.out), rowAt_setRow_same i4 _ _ _ (by decide), cut_rc])) rfl rfl) rfl ⟨rfl, below_alloc (below_setRow HB4.out (Nat.le_refl _) _) _⟩
theorem infoRc : (Tryd.prog.info? 51).map (fun i => (i.zero, i.size, i.bytes)) = some (some (.agg (rcL Rc.zero).toArray), 37, 80) := by kernel_rfl
theorem zcRc : (Value.agg (rcL Rc.zero).toArray).cells.size = 37 := by simp [Value.cells, rcL_len]
set_option linter.unusedVariables false in
set_option maxHeartbeats 4000000 in
set_option maxRecDepth 100000 in
theorem Scan_calls (k : Nat) (A : Option Addr) (c : Nat) (l : List Int) (r : Rc) (w : World) (hT : TabOK w) (hC : Kd.C (Kd.int .u8) w A 8 l) (hc : 8 ≤ c) (h : Eight k l r) :
    Calls Tryd.prog 35 #[.slice A 8 c] w fun e w' => ∃ v : Value, e = .returned (.tuple #[v, .int .i64 8, .int .i64 0]) ∧ Kd.R kRc 51 w' w.heap.size (fun _ => True) v [r] ∧ Below w.heap.size w w' := by
  have HT := Aside0.mk hT
  have HH := Aside0.mk h
  have hC' : Kd.C (Kd.int .u8) w A l.length l := by rw [h.len]; exact hC
  obtain ⟨A2, hm1, hm2, hm3⟩ := print_drop_of (P := Tryd.prog) (Value.int .u8) 0 22 5 .i64 Tryd.underlying22 (info_parts info5).choose_spec.1 (info_parts info5).choose_spec.2.2.1 A c l 0 (by decide) (by rw [h.len]; decide) (by rw [h.len]; exact hc)
  rw [show ((0 : Int)).toNat = 0 from rfl, List.drop_zero] at hm1 hm2 hm3
  rw [Nat.sub_zero] at hm1 hm3
  rw [h.len] at hm1 hm2 hm3
  have HM := Aside0.mk (And.intro hm1 (And.intro hm2 hm3))
  have HC := Aside0.mk hC
  clear hT hC hc hC' hm1 hm2 hm3 h
  go_enter Tryd.func35, Tryd.ntmps35
  go_wp2
  go_loopw [5, 6] (fun ov av wr => (ov = .slice none 0 0 ∧ av = .int .i64 0 ∧ Aside0 (Below w.heap.size w wr)) ∨ (∃ (A3 : Option Addr) (c3 : Nat), ov = .slice A3 1 c3 ∧ av = .int .i64 8 ∧ Aside0 (Below w.heap.size w wr) ∧ Aside0 (Kd.R kRc 51 wr w.heap.size (fun _ => True) (.slice A3 1 c3) [r]))) (fun _ av _ => 8 - (intOf av).toNat)
  case atStart => exact .inl ⟨rfl, rfl, ⟨Below.refl _ _⟩⟩
  case round =>
    rcases hrel with ⟨rfl, rfl, HB⟩ | ⟨A3, c3, rfl, rfl, HB, HR⟩
    · have hcut := HM.out.1 wr
      go_wp2_with (first
        | (go_at_call 85; refine (First_calls k A2 c l r _ (HT.out.below HB.out) (Kd.C_of_reads (h1 := fun _ => rfl) (HM.out.2.1 wr (Kd.reads_of_C (Kd.C_below HC.out HB.out)))) HM.out.2.2 HH.out).mono ?_; rintro e w2 ⟨rfl, hb2⟩; have HB2 := Aside0.mk (below_step HB.out hb2); clear hb2)
        | ((with_reducible refine gate_builtin (b := .append) (xs := #[.tmp 27, .tmp 29]) rfl ?_); at_builtin; refine Kd.R_append kRc (w0 := w) w.heap.size rfl (.tmp 27) (.tmp 29) 57 51 _ 80 rfl Tryd.underlying57 infoRc zcRc (by decide) (by decide) (.slice none 0 0) [] r (rcL r) (fun _ => True) (fun _ => False) rfl ?aX rfl (fun _ h => h.elim) (fun _ _ => trivial) (Kd.R_nil _ _ _ _ _) ?aB ?aS (by decide) ?_; (case aX => rw [World.size_alloc]; rfl); (case aB => exact below_alloc HB2.out _); (case aS => have h_ := HB2.out.size; simp; omega); intro v5 w5 ho5 hb5 hg5 hat5; obtain ⟨A5, c5, rfl⟩ := Kd.R_slice ho5; have HO5 := Aside0.mk ho5; have HB5 := Aside0.mk hb5; clear ho5 hb5 hg5 hat5))
      go_roundw
      case rel => exact .inr ⟨A5, c5, rfl, rfl, HB5, HO5⟩
      case measure => simp [intOf]
    · go_wp2
      go_ret3
      exact ⟨_, rfl, HR.out, HB.out⟩
end Go.Proofs.YtiohgpcbdefokaaDoor.B
/- record.Put of a mark. No condition. -/
namespace Go.Proofs.YtiohgpcbdefokaaDoor.B
open Go.RowKit Go.Proofs.YtiohgpcbdefokaaDoorW.PrintWords Go.Proofs.YtiohgpcbdefokaaDoor.RowLaws
attribute [local go_sem ↓ high] lvO_hs ldO_hs stO_hs lvO_pt ldO_pt stO_pt zero_pt eqA_pt lvO_ptR ldO_ptR stO_ptR zero_ptR eqA_ptR lvO_rc ldO_rc stO_rc zero_rc eqA_rc lvO_rcR ldO_rcR stO_rcR zero_rcR eqA_rcR lvO_tk ldO_tk stO_tk zero_tk eqA_tk lvO_tkR ldO_tkR stO_tkR zero_tkR eqA_tkR lvO_it ldO_it stO_it zero_it eqA_it blO_pt blO_ptR blO_rc blO_rcR blO_tk blO_tkR blO_it bsO_pt bsO_ptR bsO_rc bsO_rcR bsO_it
attribute [local go_sem high] rowAt_setCell rowAt_setRow cell_setRow_ne isRow_setRow_ne rowAt_alloc rowAt_drew isRow_alloc isRow_drew isRow_setCell rowRun_some okL_hs ldV_hs ldA_hs stA_hs setRow_alloc get_pt_id get_pt_path cut_pt_sum get_pt_size get_pt_off cut_pt okL_pt size_pt lenb_pt eta_pt ldV_pt ldA_pt stA_pt ldV_ptR ldA_ptR stA_ptR get_rc_kind get_rc_id get_rc_path cut_rc_sum get_rc_size get_rc_off cut_rc okL_rc size_rc lenb_rc eta_rc ldV_rc ldA_rc stA_rc ldV_rcR ldA_rcR stA_rcR get_tk_path cut_tk_sum get_tk_size get_tk_off cut_tk_old cut_tk okL_tk size_tk lenb_tk eta_tk ldV_tk ldA_tk stA_tk ldV_tkR ldA_tkR stA_tkR get_it_path get_it_dir get_it_size cut_it_sum cut_it okL_it size_it lenb_it eta_it ldV_it ldA_it stA_it bld_pt_01234 bld_pt_0123 bld_pt_z bld_ptR_01234 bld_ptR_0123 bld_ptR_z bld_rc_012345 bld_rc_015 bld_rc_01 bld_rc_z bld_rc_01234 bld_rc_24 bld_rc_05 bld_rc_0 bld_rcR_012345 bld_rcR_015 bld_rcR_01 bld_rcR_z bld_rcR_01234 bld_rcR_24 bld_rcR_05 bld_rcR_0 bld_tk_01234 bld_tk_0 bld_tk_z bld_tkR_01234 bld_tkR_0 bld_tkR_z bld_it_0123 bld_it_023 bld_it_01 bld_it_0 bld_it_z bs0_pt bs1_pt bs0_ptR bs1_ptR bs0_rc bs1_rc bs0_rcR bs1_rcR bs0_it bs1_it
theorem lit1_R (W : World) (x : Int) (B : Nat) (hB : B ≤ W.heap.size) : Kd.R (Kd.int .u8) 5 (W.alloc (.cells #[.int .u8 x] 5)) B (fun _ => True) (.slice (some ⟨W.heap.size, 0, none⟩) 1 1) [x] :=
  Kd.R_of_own (h1 := fun _ => rfl) ⟨rfl, .inr ⟨W.heap.size, 1, #[.int .u8 x], rfl, hB, heap_alloc_new _ _, Nat.le_refl 1, by unfold maxLen; decide, rfl, rfl⟩⟩ (fun _ _ => trivial)
set_option linter.unusedVariables false in
set_option maxHeartbeats 4000000 in
set_option maxRecDepth 100000 in
theorem PutMark_calls (k : Nat) (r : Rc) (a b s t : List Int) (w : World) (hT : TabOK w) (hk : r.kind = 1) (hc : chkE r = 0) (ha : field_Num.f k r.id = some a) (hb : field_Num.f k r.off = some b) (hl : a.length + b.length ≤ 100)
    (hs : crc_Seal.f k (([1] ++ a) ++ b) = some s) (ht : field_Text.f k (strOfNums s) = some t) :
    Calls Tryd.prog 23 #[.agg (rcL r).toArray] w fun e w' => ∃ v : Value, e = .returned (.tuple #[v, .int .i64 0]) ∧ Kd.R (Kd.int .u8) 5 w' w.heap.size (fun _ => True) v t ∧ Below w.heap.size w w' := by
  obtain ⟨x1, hx1⟩ : ∃ x1, [1] ++ a = x1 := ⟨_, rfl⟩
  rw [hx1] at hs
  obtain ⟨x2, hx2⟩ : ∃ x2, x1 ++ b = x2 := ⟨_, rfl⟩
  rw [hx2] at hs
  have HX1 := Aside0.mk hx1
  have HX2 := Aside0.mk hx2
  have HLL := Aside0.mk (show x1.length + b.length ≤ 101 ∧ x2.length ≤ 101 by rw [← hx2, List.length_append, ← hx1, List.length_append, List.length_singleton]; omega)
  clear hx1 hx2
  have HT := Aside0.mk hT
  have HC := Aside0.mk hc
  have HA := Aside0.mk ha
  have HB := Aside0.mk hb
  have HS := Aside0.mk hs
  have HTX := Aside0.mk ht
  have HL := Aside0.mk hl
  clear hT hc ha hb hs ht hl
  go_enter Tryd.func23, Tryd.ntmps23
  go_wp2_with (first
    | (go_at_call 26; refine (Check_calls r _ (HT.out.below ?_)).mono ?_; (exact below_alloc (Below.refl _ _) _); rintro e w2 ⟨rfl, hb2⟩; rw [HC.out]; obtain ⟨hcl, hfz⟩ := bcell0 hb2; have c0 : w2.cell? ⟨w.heap.size, 0, none⟩ = some (.int .u8 r.kind) := (by rw [hcl _ _ (by simp)]; first | (go_simp; done) | (simp [*]; done)); have c1 : w2.cell? ⟨w.heap.size, 1, none⟩ = some (.int .i64 r.id) := (by rw [hcl _ _ (by simp)]; first | (go_simp; done) | (simp [*]; done)); have c5 : w2.cell? ⟨w.heap.size, 36, none⟩ = some (.int .i64 r.off) := (by rw [hcl _ _ (by simp)]; first | (go_simp; done) | (simp [*]; done)); have HB2 := Aside0.mk (Below.trans (below_alloc (Below.refl w.heap.size w) _) (hb2.mono (by simp))); have HS2 := Aside0.mk (show w.heap.size + 1 ≤ w2.heap.size from by have h_ := hb2.size; simpa using h_); clear hb2 hcl hfz))
  go_region_held3 (fun w' => w'.cell? ⟨w.heap.size, 0, none⟩ = some (.int .u8 r.kind) ∧ w'.cell? ⟨w.heap.size, 1, none⟩ = some (.int .i64 r.id)) (first | go_keep)
    (first
      | (go_at_call 54; refine (field_Num.calls k r.id a _ HA.out).mono ?_; rintro e w4 ⟨v4, rfl, ho4, hb4⟩; obtain ⟨A4, n4, rfl⟩ := Kd.R_slice ho4;
          (first
            | have HX := Aside0.mk (And.intro (show Below (w.heap.size + 1) w2 w4 from Below.trans (below_drew (Below.alloc (Below.refl _ _) HS2.out _)) (hb4.mono (by have := HS2.out; simp; omega))) (Kd.R_below (Kd.R_drew (lit1_R w2 1 (w.heap.size + 1) HS2.out)) hb4))
            | have HX := Aside0.mk (And.intro (show Below (w.heap.size + 1) w2 w4 from Below.trans (below_drew (Below.refl _ _)) (hb4.mono (by have := HS2.out; simp; omega))) True.intro));
          have HO4 := Aside0.mk (Kd.R_lower (base' := w.heap.size + 1) ho4 (by have := HS2.out; simp; omega));
          have c40 : w4.cell? ⟨w.heap.size, 0, none⟩ = some (.int .u8 r.kind) := (HX.out.1.cell (p := ⟨w.heap.size, 0, none⟩) (by simp)).trans c0;
          have c41 : w4.cell? ⟨w.heap.size, 1, none⟩ = some (.int .i64 r.id) := (HX.out.1.cell (p := ⟨w.heap.size, 1, none⟩) (by simp)).trans c1;
          clear ho4 hb4)
      | ((with_reducible refine gate_stepb (b := .append) (xs := #[.tmp 13, .tmp 16]) rfl ?_);
          refine Kd.R_append_rows_step (Kd.int .u8) (w0 := w2) (w.heap.size + 1) rfl (.tmp 13) (.tmp 16) 22 5 (.int .u8 0) 1 rfl Tryd.underlying22 info5 rfl (by decide) (by decide) _ [1] a A4 a.length n4 (fun _ => True) (fun _ => False) rfl rfl ?aO ?aR (fun _ _ h => h) (fun _ h => h.elim) (fun _ _ => trivial) ?aB ?aS ?aL ?_;
          (case aO => first | exact HX.out.2 | exact lit1_R w4 1 (w.heap.size + 1) (by have h_ := HX.out.1.size; have := HS2.out; omega));
          (case aR => first | exact (Kd.R_reads' HO4.out).2.2 | exact Kd.C_below (Kd.R_reads' HO4.out).2.2 (below_alloc (Below.refl _ _) _));
          (case aB => first | exact HX.out.1 | exact Below.alloc HX.out.1 (by have h_ := HX.out.1.size; have := HS2.out; omega) _);
          (case aS => have h_ := HX.out.1.size; have := HS2.out; simp; omega);
          (case aL => have := HL.out; simp; omega);
          intro v5 w5 ho5 hb5 hg5 hat5;
          rw [HX1.out] at ho5;
          have HO5 := Aside0.mk ho5;
          have HB5 := Aside0.mk hb5;
          have c50 : w5.cell? ⟨w.heap.size, 0, none⟩ = some (.int .u8 r.kind) := (hb5.cell (p := ⟨w.heap.size, 0, none⟩) (by simp)).trans c0;
          have c51 : w5.cell? ⟨w.heap.size, 1, none⟩ = some (.int .i64 r.id) := (hb5.cell (p := ⟨w.heap.size, 1, none⟩) (by simp)).trans c1;
          have c55 : w5.cell? ⟨w.heap.size, 36, none⟩ = some (.int .i64 r.off) := (hb5.cell (p := ⟨w.heap.size, 36, none⟩) (by simp)).trans c5;
          clear ho5 hb5 hg5 hat5))
  all_goals
    obtain ⟨A5, n5, rfl⟩ := Kd.R_slice HO5.out
    go_wp2_with (first
      | (go_at_call 54; refine (field_Num.calls k r.off b _ HB.out).mono ?_; rintro e w6 ⟨v6, rfl, ho6, hb6⟩; obtain ⟨A6, n6, rfl⟩ := Kd.R_slice ho6;
          have HB6 := Aside0.mk (show Below (w.heap.size + 1) w2 w6 from Below.trans HB5.out (hb6.mono (by have h_ := HB5.out.size; have := HS2.out; omega)));
          have HO6 := Aside0.mk (Kd.R_lower (base' := w.heap.size + 1) ho6 (by have h_ := HB5.out.size; have := HS2.out; omega));
          have HO56 := Aside0.mk (Kd.R_below HO5.out hb6);
          clear ho6 hb6)
      | ((with_reducible refine gate_builtin (b := .append) (xs := #[.tmp 36, .tmp 39]) rfl ?_); at_builtin;
          refine Kd.R_append_rows (Kd.int .u8) (w0 := w2) (w.heap.size + 1) rfl (.tmp 36) (.tmp 39) 22 5 (.int .u8 0) 1 rfl Tryd.underlying22 info5 rfl (by decide) (by decide) (.slice A5 x1.length n5) x1 b A6 b.length n6 (fun _ => True) (fun _ => False) rfl rfl ?aO ?aR (fun _ _ h => h) (fun _ h => h.elim) (fun _ _ => trivial) ?aB ?aS ?aL ?_;
          (case aO => exact HO56.out);
          (case aR => exact (Kd.R_reads' HO6.out).2.2);
          (case aB => exact HB6.out);
          (case aS => have h_ := HB6.out.size; have := HS2.out; omega);
          (case aL => have := HLL.out; omega);
          intro v7 w7 ho7 hb7 hg7 hat7;
          rw [HX2.out] at ho7;
          obtain ⟨A7, n7, rfl⟩ := Kd.R_slice ho7;
          have HO7 := Aside0.mk ho7;
          have HB7 := Aside0.mk hb7;
          clear ho7 hb7 hg7 hat7)
      | (go_at_call 72; refine (crc_Seal.calls k A7 n7 x2 s _ (Kd.R_reads' HO7.out).2.2 (Kd.R_reads' HO7.out).2.1 (HT.out.below (Below.trans HB2.out (HB7.out.mono (by omega)))) HS.out).mono ?_; rintro e w8 ⟨v8, rfl, ho8, hb8⟩; obtain ⟨A8, n8, rfl⟩ := Kd.R_slice ho8;
          have HB8 := Aside0.mk (show Below (w.heap.size + 1) w2 w8 from Below.trans HB7.out (hb8.mono (by have h_ := HB7.out.size; have := HS2.out; omega)));
          have hcv := Kd.C_string (P := Tryd.prog) (src := 22) (dst := 9) (c := n8) Tryd.underlying22 Tryd.underlying5 Tryd.underlying9 (Kd.R_reads' ho8).2.2;
          clear ho8 hb8)
      | (go_at_call 53; refine (field_Text.calls k (strOfNums s) t _ HTX.out).mono ?_; rintro e w9 ⟨v9, rfl, ho9, hb9⟩; obtain ⟨A9, n9, rfl⟩ := Kd.R_slice ho9;
          have HO9 := Aside0.mk (Kd.R_lower (base' := w.heap.size) ho9 (by have h_ := HB8.out.size; have := HS2.out; omega));
          have HB9 := Aside0.mk (show Below w.heap.size w w9 from Below.trans HB2.out ((Below.trans HB8.out (hb9.mono (by have h_ := HB8.out.size; have := HS2.out; omega))).mono (by omega)));
          clear ho9 hb9))
    go_ret2
    exact ⟨_, rfl, HO9.out, HB9.out⟩
end Go.Proofs.YtiohgpcbdefokaaDoor.B
/- slices.Delete of one part of a row of the call's own. No condition. -/
namespace Go.Proofs.YtiohgpcbdefokaaDoor.B
open Go.RowKit Go.Proofs.YtiohgpcbdefokaaDoorW.PrintWords Go.Proofs.YtiohgpcbdefokaaDoor.RowLaws
attribute [local go_sem ↓ high] lvO_hs ldO_hs stO_hs lvO_pt ldO_pt stO_pt zero_pt eqA_pt lvO_ptR ldO_ptR stO_ptR zero_ptR eqA_ptR lvO_rc ldO_rc stO_rc zero_rc eqA_rc lvO_rcR ldO_rcR stO_rcR zero_rcR eqA_rcR lvO_tk ldO_tk stO_tk zero_tk eqA_tk lvO_tkR ldO_tkR stO_tkR zero_tkR eqA_tkR lvO_it ldO_it stO_it zero_it eqA_it blO_pt blO_ptR blO_rc blO_rcR blO_tk blO_tkR blO_it bsO_pt bsO_ptR bsO_rc bsO_rcR bsO_it
attribute [local go_sem high] rowAt_setCell rowAt_setRow cell_setRow_ne isRow_setRow_ne rowAt_alloc rowAt_drew isRow_alloc isRow_drew isRow_setCell rowRun_some okL_hs ldV_hs ldA_hs stA_hs setRow_alloc get_pt_id get_pt_path cut_pt_sum get_pt_size get_pt_off cut_pt okL_pt size_pt lenb_pt eta_pt ldV_pt ldA_pt stA_pt ldV_ptR ldA_ptR stA_ptR get_rc_kind get_rc_id get_rc_path cut_rc_sum get_rc_size get_rc_off cut_rc okL_rc size_rc lenb_rc eta_rc ldV_rc ldA_rc stA_rc ldV_rcR ldA_rcR stA_rcR get_tk_path cut_tk_sum get_tk_size get_tk_off cut_tk_old cut_tk okL_tk size_tk lenb_tk eta_tk ldV_tk ldA_tk stA_tk ldV_tkR ldA_tkR stA_tkR get_it_path get_it_dir get_it_size cut_it_sum cut_it okL_it size_it lenb_it eta_it ldV_it ldA_it stA_it bld_pt_01234 bld_pt_0123 bld_pt_z bld_ptR_01234 bld_ptR_0123 bld_ptR_z bld_rc_012345 bld_rc_015 bld_rc_01 bld_rc_z bld_rc_01234 bld_rc_24 bld_rc_05 bld_rc_0 bld_rcR_012345 bld_rcR_015 bld_rcR_01 bld_rcR_z bld_rcR_01234 bld_rcR_24 bld_rcR_05 bld_rcR_0 bld_tk_01234 bld_tk_0 bld_tk_z bld_tkR_01234 bld_tkR_0 bld_tkR_z bld_it_0123 bld_it_023 bld_it_01 bld_it_0 bld_it_z bs0_pt bs1_pt bs0_ptR bs1_ptR bs0_rc bs1_rc bs0_rcR bs1_rcR bs0_it bs1_it
theorem szPt : (Tryd.prog.info? 75).map (·.size) = some 36 := by kernel_rfl
theorem zcPt : (Value.agg (ptL Pt.zero).toArray).cells.size = 36 := by simp [Value.cells, ptL_len]
theorem zoPt : ∀ u ∈ (Value.agg (ptL Pt.zero).toArray).cells.toList, u.oneCell' = true := by simp only [Value.cells]; exact ptL_one _
/-- What lies behind a row's length may turn. -/
theorem R_tail {W W' : World} {B g n c : Nat} {ok : Nat → Prop} {l : List Pt} (h : Kd.R kPt 75 W B ok (.slice (some ⟨g, 0, none⟩) n c) l) {cur : List Value} {off : Nat} {Z : List Value} (hg : W.heap[g]? = some (.cells cur.toArray 75 (0, 0)))
    (hg' : W'.heap[g]? = some (.cells (splice cur off Z).toArray 75 (0, 0))) (hoff : n * 36 ≤ off) (hfit : off + Z.length ≤ cur.length) : Kd.R kPt 75 W' B ok (.slice (some ⟨g, 0, none⟩) n c) l := by
  obtain ⟨h0, inner, h1, h2⟩ := h
  refine ⟨h0, inner, ⟨h1.1, ?_⟩, h2⟩
  rcases h1.2 with ⟨hv, _⟩ | ⟨g', cap', cur', hv, hb, hh, hnc, hcm, hcs, ht⟩
  · cases hv
  injection hv with ha hn hc
  injection ha with ha
  injection ha with ha
  subst ha hc
  have hl : n = l.length := hn
  rw [hg] at hh
  injection hh with hh
  injection hh with hh
  subst hh
  refine .inr ⟨g, c, (splice cur off Z).toArray, by rw [hl], hb, hg', hnc, hcm, ?_, ?_⟩
  · have : cur.length = c * 36 := by simpa [kPt, flat] using hcs
    simp only [List.size_toArray]
    rw [length_splice _ _ _ hfit, this]; rfl
  · have e : (splice cur off Z).toArray.toList.take (l.length * kPt.sz) = cur.toArray.toList.take (l.length * kPt.sz) := by
      have hz : l.length * kPt.sz ≤ off := by rw [← hl]; exact hoff
      simp only [splice]
      rw [List.take_append_of_le_length (by simp; omega), List.take_take, Nat.min_eq_left hz]
    rw [e]; exact ht
theorem R_block {W : World} {B g n c : Nat} {ok : Nat → Prop} {l : List Pt} (h : Kd.R kPt 75 W B ok (.slice (some ⟨g, 0, none⟩) n c) l) : n = l.length ∧ n ≤ c ∧ B ≤ g ∧ ∃ cur : List Value, W.heap[g]? = some (.cells cur.toArray 75 (0, 0)) ∧ cur.length = c * 36 ∧ c ≤ maxLen := by
  obtain ⟨h0, inner, h1, h2⟩ := h
  rcases h1.2 with ⟨hv, _⟩ | ⟨g', cap', cur', hv, hb, hh, hnc, hcm, hcs, ht⟩
  · cases hv
  injection hv with ha hn hc
  injection ha with ha
  injection ha with ha
  subst ha hc
  exact ⟨hn, by rw [hn]; exact hnc, hb, cur'.toList, by simpa using hh, by simpa [kPt, flat] using hcs, hcm⟩
set_option maxHeartbeats 4000000 in
set_option maxRecDepth 100000 in
theorem Delete_calls (g m c i B : Nat) (ok : Nat → Prop) (l : List Pt) (w : World) (hO : Kd.R kPt 75 w B ok (.slice (some ⟨g, 0, none⟩) (m + 1) c) l) (hi : i ≤ m) (hn : m + 1 ≤ 1000) (hB : B ≤ w.heap.size) :
    Calls Tryd.prog 83 #[.slice (some ⟨g, 0, none⟩) (m + 1) c, .int .i64 (i : Int), .int .i64 ((i : Int) + 1)] w fun e w' => e = .returned (.slice (some ⟨g, 0, none⟩) m c) ∧ Kd.R kPt 75 w' B ok (.slice (some ⟨g, 0, none⟩) m c) (l.eraseIdx i) ∧ Only g w w' := by
  obtain ⟨hnl, hnc, hBg, _⟩ := R_block hO
  have HL := Aside0.mk hnl
  have HO := Aside0.mk hO
  clear hO hnl
  have hw2 : (0 : Int) ≤ (i : Int) + 1 := by omega
  have hw3 : ((i : Int) + 1).toNat = i + 1 := by omega
  have hw4 : (i : Int) + 1 ≤ (m : Int) + 1 := by omega
  have hw5 : ((i : Int) == (i : Int) + 1) = false := by simp; omega
  have hw6 : (i : Int) ≤ (m : Int) + 1 := by omega
  have hw7 : i ≤ c := by omega
  have hw8 : i + 1 ≤ m + 1 := by omega
  have hw9 : (i : Int) ≤ (c : Int) := by omega
  have hnn : (m : Int) + 1 ≤ (c : Int) := by omega
  have hmc : m ≤ c := by omega
  have hmi : (m : Int) ≤ (c : Int) := by omega
  have hcm : ¬ c = m := by omega
  by_cases hcc : i + 1 = c
  case neg =>
    have hcn : ¬ c = i + 1 := fun e => hcc e.symm
    clear hcc
    go_enter Tryd.func83, Tryd.ntmps83
    go_wp2
    refine still_tail_at 6 (by kernel_rfl) (by kernel_rfl) ?_
    intro W hW
    have HOW := Aside0.mk (show Kd.R kPt 75 W B ok (.slice (some ⟨g, 0, none⟩) (m + 1) c) l from by rw [hW]; exact Kd.R_drew HO.out)
    have HBW := Aside0.mk (show Only g w W from by rw [hW]; exact (Only.refl _ _).drew)
    clear hW
    simp only [List.take_succ_cons, List.take_zero, List.drop_succ_cons, List.drop_zero]
    repeat still_step
    refine wpStill_nil ?_
    clear hw2 hw3 hw4 hw5 hw6 hw7 hw8 hw9
    go_wp2_with (first
      | ((with_reducible refine gate_builtin (b := .append) (xs := #[.tmp 22, .tmp 25]) rfl ?_); refine Kd.R_delete kPt (w0 := W) B rfl (.tmp 22) (.tmp 25) 58 75 rfl Tryd.underlying58 szPt (g := g) (n := m + 1) (c := c) (k := i) rfl rfl ?hA ?hm HOW.out (by omega) (Below.refl _ _) ?hb ?_; (case hA => simp [hcn, Addr.add_mid, kPt, flat]); (case hm => omega); (case hb => exact Nat.le_trans hB HBW.out.size); intro w1 ho1 hb1 hg1; rw [Nat.add_sub_cancel] at ho1; rw [Nat.add_sub_cancel]; have HO1 := Aside0.mk ho1; have HG1 := Aside0.mk (HBW.out.trans hg1); obtain ⟨he1, he2, he3, cur, hk1, hk2, hk3⟩ := R_block ho1; have HK1 := Aside0.mk hk1; have HK2 := Aside0.mk hk2; clear ho1 hb1 hg1 hk1 hk2 hk3 he1 he2 he3)
      | ((with_reducible refine gate_builtin (b := .clear) (xs := #[.tmp 31]) rfl ?_); refine wpList_clear_rows rfl (.tmp 31) 58 rfl 75 (.agg (ptL Pt.zero).toArray) 36 Tryd.underlying58 zero_pt zcPt zoPt _ _ _ rfl g (m * 36) cur 75 HK1.out ?hp ?hf ?_; (case hp => intro _; rfl); (case hf => have := HK2.out; omega); intro w2 Z hZ hg2 ho2; have HZ := Aside0.mk hZ; have HG2 := Aside0.mk hg2; have HO2 := Aside0.mk ho2; clear hZ hg2 ho2))
    go_ret
    refine ⟨rfl, ?_, HG1.out.trans HO2.out⟩
    exact R_tail HO1.out HK1.out HG2.out (Nat.le_refl _) (by have := HK2.out; have := HZ.out; omega)
  case pos =>
    go_enter Tryd.func83, Tryd.ntmps83
    go_wp2
    refine still_tail_at 6 (by kernel_rfl) (by kernel_rfl) ?_
    intro W hW
    have HOW := Aside0.mk (show Kd.R kPt 75 W B ok (.slice (some ⟨g, 0, none⟩) (m + 1) c) l from by rw [hW]; exact Kd.R_drew HO.out)
    have HBW := Aside0.mk (show Only g w W from by rw [hW]; exact (Only.refl _ _).drew)
    clear hW
    simp only [List.take_succ_cons, List.take_zero, List.drop_succ_cons, List.drop_zero]
    repeat still_step
    refine wpStill_nil ?_
    clear hw2 hw3 hw4 hw5 hw6 hw7 hw8 hw9
    go_wp2_with (first
      | ((with_reducible refine gate_builtin (b := .append) (xs := #[.tmp 22, .tmp 25]) rfl ?_); refine Kd.R_delete kPt (w0 := W) B rfl (.tmp 22) (.tmp 25) 58 75 rfl Tryd.underlying58 szPt (g := g) (n := m + 1) (c := c) (k := i) rfl rfl ?hA ?hm HOW.out (by omega) (Below.refl _ _) ?hb ?_; (case hA => simp [hcc, Addr.add_mid, kPt, flat]); (case hm => omega); (case hb => exact Nat.le_trans hB HBW.out.size); intro w1 ho1 hb1 hg1; rw [Nat.add_sub_cancel] at ho1; rw [Nat.add_sub_cancel]; have HO1 := Aside0.mk ho1; have HG1 := Aside0.mk (HBW.out.trans hg1); obtain ⟨he1, he2, he3, cur, hk1, hk2, hk3⟩ := R_block ho1; have HK1 := Aside0.mk hk1; have HK2 := Aside0.mk hk2; clear ho1 hb1 hg1 hk1 hk2 hk3 he1 he2 he3)
      | ((with_reducible refine gate_builtin (b := .clear) (xs := #[.tmp 31]) rfl ?_); refine wpList_clear_rows rfl (.tmp 31) 58 rfl 75 (.agg (ptL Pt.zero).toArray) 36 Tryd.underlying58 zero_pt zcPt zoPt _ _ _ rfl g (m * 36) cur 75 HK1.out ?hp ?hf ?_; (case hp => intro _; rfl); (case hf => have := HK2.out; omega); intro w2 Z hZ hg2 ho2; have HZ := Aside0.mk hZ; have HG2 := Aside0.mk hg2; have HO2 := Aside0.mk ho2; clear hZ hg2 ho2))
    go_ret
    refine ⟨rfl, ?_, HG1.out.trans HO2.out⟩
    exact R_tail HO1.out HK1.out HG2.out (Nat.le_refl _) (by have := HK2.out; have := HZ.out; omega)
theorem R_some {e : Nat} {W : World} {B n c : Nat} {ok : Nat → Prop} {A : Option Addr} {l : List Pt} (h : Kd.R kPt e W B ok (.slice A n c) l) (hl : 0 < l.length) : ∃ g, A = some ⟨g, 0, none⟩ ∧ B ≤ g ∧ g < W.heap.size := by
  have hlt := Kd.R_lt h
  have hb := Kd.R_base h
  obtain ⟨h0, inner, h1, h2⟩ := h
  rcases h1.2 with ⟨hv, hn⟩ | ⟨g', cap', cur', hv, _⟩
  · omega
  · injection hv with ha
    subst ha
    exact ⟨g', rfl, hb g' rfl, hlt g' rfl⟩
theorem Delete_at (g c i B : Nat) (ok : Nat → Prop) (l : List Pt) (w : World) (hO : Kd.R kPt 75 w B ok (.slice (some ⟨g, 0, none⟩) l.length c) l) (hi : i < l.length) (hn : l.length ≤ 1000) (hB : B ≤ w.heap.size) :
    Calls Tryd.prog 83 #[.slice (some ⟨g, 0, none⟩) l.length c, .int .i64 (i : Int), .int .i64 ((i : Int) + 1)] w fun e w' => e = .returned (.slice (some ⟨g, 0, none⟩) (l.length - 1) c) ∧ Kd.R kPt 75 w' B ok (.slice (some ⟨g, 0, none⟩) (l.length - 1) c) (l.eraseIdx i) ∧ Only g w w' := by
  obtain ⟨m, hm⟩ : ∃ m, l.length = m + 1 := ⟨l.length - 1, by omega⟩
  rw [hm] at hO ⊢
  exact Delete_calls g m c i B ok l w hO (by omega) (by omega) hB
end Go.Proofs.YtiohgpcbdefokaaDoor.B
/- What a record makes of a state: (State).own, (State).begins. No condition. -/
namespace Go.Proofs.YtiohgpcbdefokaaDoor.B
open Go.RowKit Go.Proofs.YtiohgpcbdefokaaDoorW.PrintWords Go.Proofs.YtiohgpcbdefokaaDoor.RowLaws
attribute [local go_sem ↓ high] lvO_hs ldO_hs stO_hs lvO_pt ldO_pt stO_pt zero_pt eqA_pt lvO_ptR ldO_ptR stO_ptR zero_ptR eqA_ptR lvO_rc ldO_rc stO_rc zero_rc eqA_rc lvO_rcR ldO_rcR stO_rcR zero_rcR eqA_rcR lvO_tk ldO_tk stO_tk zero_tk eqA_tk lvO_tkR ldO_tkR stO_tkR zero_tkR eqA_tkR lvO_it ldO_it stO_it zero_it eqA_it blO_pt blO_ptR blO_rc blO_rcR blO_tk blO_tkR blO_it bsO_pt bsO_ptR bsO_rc bsO_rcR bsO_it
attribute [local go_sem high] rowAt_setCell rowAt_setRow cell_setRow_ne isRow_setRow_ne rowAt_alloc rowAt_drew isRow_alloc isRow_drew isRow_setCell rowRun_some okL_hs ldV_hs ldA_hs stA_hs setRow_alloc get_pt_id get_pt_path cut_pt_sum get_pt_size get_pt_off cut_pt okL_pt size_pt lenb_pt eta_pt ldV_pt ldA_pt stA_pt ldV_ptR ldA_ptR stA_ptR get_rc_kind get_rc_id get_rc_path cut_rc_sum get_rc_size get_rc_off cut_rc okL_rc size_rc lenb_rc eta_rc ldV_rc ldA_rc stA_rc ldV_rcR ldA_rcR stA_rcR get_tk_path cut_tk_sum get_tk_size get_tk_off cut_tk_old cut_tk okL_tk size_tk lenb_tk eta_tk ldV_tk ldA_tk stA_tk ldV_tkR ldA_tkR stA_tkR get_it_path get_it_dir get_it_size cut_it_sum cut_it okL_it size_it lenb_it eta_it ldV_it ldA_it stA_it bld_pt_01234 bld_pt_0123 bld_pt_z bld_ptR_01234 bld_ptR_0123 bld_ptR_z bld_rc_012345 bld_rc_015 bld_rc_01 bld_rc_z bld_rc_01234 bld_rc_24 bld_rc_05 bld_rc_0 bld_rcR_012345 bld_rcR_015 bld_rcR_01 bld_rcR_z bld_rcR_01234 bld_rcR_24 bld_rcR_05 bld_rcR_0 bld_tk_01234 bld_tk_0 bld_tk_z bld_tkR_01234 bld_tkR_0 bld_tkR_z bld_it_0123 bld_it_023 bld_it_01 bld_it_0 bld_it_z bs0_pt bs1_pt bs0_ptR bs1_ptR bs0_rc bs1_rc bs0_rcR bs1_rcR bs0_it bs1_it
theorem grown_cell {W w1 : World} {row : Option Nat} {g o : Nat} {v : Value} (hg : W.grownBy w1 row) (hne : row ≠ some g) (hc : W.cell? ⟨g, o, none⟩ = some v) : w1.cell? ⟨g, o, none⟩ = some v :=
  (World.cell?_of_block (hg.block g (World.block_lt_of_cell? _ _ hc) (fun e => hne e.symm))).trans hc
theorem grown_froz {W w1 : World} {row : Option Nat} {g o : Nat} (hg : W.grownBy w1 row) (hne : row ≠ some g) (hl : g < W.heap.size) (hf : W.frozen? ⟨g, o, none⟩ = false) : w1.frozen? ⟨g, o, none⟩ = false :=
  (World.frozen?_of_block (hg.block g hl (fun e => hne e.symm))).trans hf
set_option maxHeartbeats 4000000 in
set_option maxRecDepth 100000 in
theorem ownS_calls (A : Option Addr) (c : Nat) (l : List Pt) (nx : Int) (w : World) (hC : Kd.C kPt w A l.length l) (hc : l.length ≤ c) (hlen : l.length ≤ 1000) :
    Calls Tryd.prog 79 #[.agg #[.slice A l.length c, .int .i64 nx]] w fun e w' => ∃ v : Value, e = .returned (.agg #[v, .int .i64 nx]) ∧ Kd.R kPt 75 w' w.heap.size (fun _ => True) v l ∧ Below w.heap.size w w' := by
  have HC := Aside0.mk hC
  clear hC
  go_enter Tryd.func79, Tryd.ntmps79
  go_wp2_with (go_at_call 124; refine (Clone_calls A c l _ (Kd.C_below HC.out ?_) hc hlen).mono ?_; (exact below_alloc (below_alloc (Below.refl _ _) _) _); rintro e w2 ⟨v, rfl, ho, hb2⟩; obtain ⟨hcl, hfz⟩ := bcell hb2; obtain ⟨A2, c2, rfl⟩ := Kd.R_slice ho; have HO2 := Aside0.mk (Kd.R_lower (base' := w.heap.size + 1 + 1) ho (by simp)); have HB2 := Aside0.mk (Below.trans (below_alloc (below_alloc (Below.refl w.heap.size w) _) _) (hb2.mono (by simp; omega))); have c0_0 : w2.cell? ⟨w.heap.size, 0, none⟩ = some (.slice A l.length c) := (by rw [hcl _ _ (by simp; try omega)]; first | (go_simp; done) | (simp [*]; done)); have f0_0 : w2.frozen? ⟨w.heap.size, 0, none⟩ = false := (by rw [hfz _ _ (by simp; try omega)]; first | (go_simp; done) | (simp [*]; done)); have c0_1 : w2.cell? ⟨w.heap.size, 1, none⟩ = some (.int .i64 nx) := (by rw [hcl _ _ (by simp; try omega)]; first | (go_simp; done) | (simp [*]; done)); have f0_1 : w2.frozen? ⟨w.heap.size, 1, none⟩ = false := (by rw [hfz _ _ (by simp; try omega)]; first | (go_simp; done) | (simp [*]; done)); have c1_0 : w2.cell? ⟨w.heap.size + 1, 0, none⟩ = some (.slice none 0 0) := (by rw [hcl _ _ (by simp; try omega)]; first | (go_simp; done) | (simp [*]; done)); have f1_0 : w2.frozen? ⟨w.heap.size + 1, 0, none⟩ = false := (by rw [hfz _ _ (by simp; try omega)]; first | (go_simp; done) | (simp [*]; done)); have c1_1 : w2.cell? ⟨w.heap.size + 1, 1, none⟩ = some (.int .i64 0) := (by rw [hcl _ _ (by simp; try omega)]; first | (go_simp; done) | (simp [*]; done)); have f1_1 : w2.frozen? ⟨w.heap.size + 1, 1, none⟩ = false := (by rw [hfz _ _ (by simp; try omega)]; first | (go_simp; done) | (simp [*]; done)); clear ho hb2 hcl hfz)
  refine bodyPost_ret (v := .agg #[.slice A2 l.length c2, .int .i64 nx]) (by simp [results, Tryd.results79, go_sem, *]) rfl ⟨_, rfl, ?_, ?_⟩
  · exact Kd.R_lower (flat_put (flat_put (flat_put HO2.out (by omega)) (by omega)) (by omega)) (by omega)
  · exact below_setCell (below_setCell (below_setCell HB2.out (by omega) _) (by omega) _) (by omega) _
end Go.Proofs.YtiohgpcbdefokaaDoor.B
/- (State).begins: a part more, or none. No condition. -/
namespace Go.Proofs.YtiohgpcbdefokaaDoor.B
open Go.RowKit Go.Proofs.YtiohgpcbdefokaaDoorW.PrintWords Go.Proofs.YtiohgpcbdefokaaDoor.RowLaws
attribute [local go_sem ↓ high] lvO_hs ldO_hs stO_hs lvO_pt ldO_pt stO_pt zero_pt eqA_pt lvO_ptR ldO_ptR stO_ptR zero_ptR eqA_ptR lvO_rc ldO_rc stO_rc zero_rc eqA_rc lvO_rcR ldO_rcR stO_rcR zero_rcR eqA_rcR lvO_tk ldO_tk stO_tk zero_tk eqA_tk lvO_tkR ldO_tkR stO_tkR zero_tkR eqA_tkR lvO_it ldO_it stO_it zero_it eqA_it blO_pt blO_ptR blO_rc blO_rcR blO_tk blO_tkR blO_it bsO_pt bsO_ptR bsO_rc bsO_rcR bsO_it
attribute [local go_sem high] rowAt_setCell rowAt_setRow cell_setRow_ne isRow_setRow_ne rowAt_alloc rowAt_drew isRow_alloc isRow_drew isRow_setCell rowRun_some okL_hs ldV_hs ldA_hs stA_hs setRow_alloc get_pt_id get_pt_path cut_pt_sum get_pt_size get_pt_off cut_pt okL_pt size_pt lenb_pt eta_pt ldV_pt ldA_pt stA_pt ldV_ptR ldA_ptR stA_ptR get_rc_kind get_rc_id get_rc_path cut_rc_sum get_rc_size get_rc_off cut_rc okL_rc size_rc lenb_rc eta_rc ldV_rc ldA_rc stA_rc ldV_rcR ldA_rcR stA_rcR get_tk_path cut_tk_sum get_tk_size get_tk_off cut_tk_old cut_tk okL_tk size_tk lenb_tk eta_tk ldV_tk ldA_tk stA_tk ldV_tkR ldA_tkR stA_tkR get_it_path get_it_dir get_it_size cut_it_sum cut_it okL_it size_it lenb_it eta_it ldV_it ldA_it stA_it bld_pt_01234 bld_pt_0123 bld_pt_z bld_ptR_01234 bld_ptR_0123 bld_ptR_z bld_rc_012345 bld_rc_015 bld_rc_01 bld_rc_z bld_rc_01234 bld_rc_24 bld_rc_05 bld_rc_0 bld_rcR_012345 bld_rcR_015 bld_rcR_01 bld_rcR_z bld_rcR_01234 bld_rcR_24 bld_rcR_05 bld_rcR_0 bld_tk_01234 bld_tk_0 bld_tk_z bld_tkR_01234 bld_tkR_0 bld_tkR_z bld_it_0123 bld_it_023 bld_it_01 bld_it_0 bld_it_z bs0_pt bs1_pt bs0_ptR bs1_ptR bs0_rc bs1_rc bs0_rcR bs1_rcR bs0_it bs1_it
structure St where
  parts : List Pt
  next : Int
deriving DecidableEq
def St.zero : St := ⟨[], 0⟩
def beginP (s : St) (r : Rc) : St × Bool :=
  if (findP s.parts r.path).2 = true ∨ r.id < s.next ∨ 64 ≤ s.parts.length then (s, false)
  else (⟨s.parts ++ [⟨r.id, r.path, r.sum, r.size, 0⟩], r.id + 1⟩, true)
set_option maxHeartbeats 4000000 in
set_option maxRecDepth 100000 in
theorem begins_calls (A : Option Addr) (c : Nat) (l : List Pt) (nx : Int) (r : Rc) (B : Nat) (w : World) (hO : Kd.R kPt 75 w B (fun _ => True) (.slice A l.length c) l) (hlen : l.length ≤ 64) (hB : B ≤ w.heap.size) (hid : r.id ≤ 2199023255552) (hid0 : -9223372036854775808 ≤ r.id) :
    Calls Tryd.prog 82 #[.agg #[.slice A l.length c, .int .i64 nx], .agg (rcL r).toArray] w fun e w' => ∃ v : Value, e = .returned (.tuple #[.agg #[v, .int .i64 (beginP ⟨l, nx⟩ r).1.next], .bool (beginP ⟨l, nx⟩ r).2]) ∧ Kd.R kPt 75 w' B (fun _ => True) v (beginP ⟨l, nx⟩ r).1.parts ∧ Below B w w' := by
  obtain ⟨hl0, hc, hC⟩ := Kd.R_reads' hO
  clear hl0
  have HC := Aside0.mk hC
  have HO := Aside0.mk hO
  clear hO hC
  have HNE := Aside0.mk (show ∀ k, w.heap.size ≤ k → (Value.slice A l.length c).ownBlock ≠ some k from fun k hk e => by have := Kd.R_lt HO.out k e; omega)
  have hw1 : IntKind.i64.wrap (r.id + 1) = r.id + 1 := IntWalk.i64_in _ (by omega)
  have HF := Aside0.mk (show findP l r.path = ((findP l r.path).1, (findP l r.path).2) from rfl)
  obtain ⟨q, hq⟩ : ∃ q, (findP l r.path).1 = q := ⟨_, rfl⟩
  by_cases hf : (findP l r.path).2 = true
  · have HP := Aside0.mk (show beginP ⟨l, nx⟩ r = (⟨l, nx⟩, false) by unfold beginP; rw [if_pos (.inl hf)])
    rw [hf, hq] at HF
    clear hf hq
    go_enter Tryd.func82, Tryd.ntmps82
    go_wp2_with (go_at_call 33; refine (Find_calls A c l nx r.path _ (Kd.C_below HC.out ?_) (Nat.le_trans hlen (by decide))).mono ?_; (exact below_alloc (below_alloc (below_alloc (Below.refl _ _) _) _) _); rintro e w2 ⟨rfl, hb2⟩; rw [HF.out]; obtain ⟨hcl, hfz⟩ := bcell hb2; have z0 : ¬ (w.heap.size = w2.heap.size) := (by have h_ := hb2.size; simp at h_; omega); have y0 : w.heap.size < w2.heap.size := (by have h_ := hb2.size; simp at h_; omega); have c0_0 : w2.cell? ⟨w.heap.size, 0, none⟩ = some (.slice A l.length c) := (by rw [hcl _ _ (by simp; try omega)]; first | (go_simp; done) | (simp [*]; done)); have f0_0 : w2.frozen? ⟨w.heap.size, 0, none⟩ = false := (by rw [hfz _ _ (by simp; try omega)]; first | (go_simp; done) | (simp [*]; done)); have c0_1 : w2.cell? ⟨w.heap.size, 1, none⟩ = some (.int .i64 nx) := (by rw [hcl _ _ (by simp; try omega)]; first | (go_simp; done) | (simp [*]; done)); have f0_1 : w2.frozen? ⟨w.heap.size, 1, none⟩ = false := (by rw [hfz _ _ (by simp; try omega)]; first | (go_simp; done) | (simp [*]; done)); have z1 : ¬ (w.heap.size + 1 = w2.heap.size) := (by have h_ := hb2.size; simp at h_; omega); have y1 : w.heap.size + 1 < w2.heap.size := (by have h_ := hb2.size; simp at h_; omega); have c1_1 : w2.cell? ⟨w.heap.size + 1, 1, none⟩ = some (.int .i64 r.id) := (by rw [hcl _ _ (by simp; try omega)]; first | (go_simp; done) | (simp [*]; done)); have c1_2 : w2.cell? ⟨w.heap.size + 1, 2, none⟩ = some (.string r.path) := (by rw [hcl _ _ (by simp; try omega)]; first | (go_simp; done) | (simp [*]; done)); have c1_35 : w2.cell? ⟨w.heap.size + 1, 35, none⟩ = some (.int .i64 r.size) := (by rw [hcl _ _ (by simp; try omega)]; first | (go_simp; done) | (simp [*]; done)); have z2 : ¬ (w.heap.size + 1 + 1 = w2.heap.size) := (by have h_ := hb2.size; simp at h_; omega); have y2 : w.heap.size + 1 + 1 < w2.heap.size := (by have h_ := hb2.size; simp at h_; omega); have c2_0 : w2.cell? ⟨w.heap.size + 1 + 1, 0, none⟩ = some (.slice none 0 0) := (by rw [hcl _ _ (by simp; try omega)]; first | (go_simp; done) | (simp [*]; done)); have f2_0 : w2.frozen? ⟨w.heap.size + 1 + 1, 0, none⟩ = false := (by rw [hfz _ _ (by simp; try omega)]; first | (go_simp; done) | (simp [*]; done)); have c2_1 : w2.cell? ⟨w.heap.size + 1 + 1, 1, none⟩ = some (.int .i64 0) := (by rw [hcl _ _ (by simp; try omega)]; first | (go_simp; done) | (simp [*]; done)); have f2_1 : w2.frozen? ⟨w.heap.size + 1 + 1, 1, none⟩ = false := (by rw [hfz _ _ (by simp; try omega)]; first | (go_simp; done) | (simp [*]; done)); have r0 : rowAt w2 ⟨w.heap.size + 1, 3, none⟩ 32 = some (hsL r.sum) := (by rw [rowAt_below hb2 (by simp; try omega)]; first | (go_simp; done) | (simp [*]; done)); have HO2 := Aside0.mk (Kd.R_below (Kd.R_alloc (Kd.R_alloc (Kd.R_alloc HO.out _) _) _) hb2); have HB2 := Aside0.mk (Below.trans (below_alloc (below_alloc (below_alloc (Below.refl w.heap.size w) _) _) _) (hb2.mono (by simp; omega))); clear hb2 hcl hfz)
    refine bodyPost_ret (v := .tuple #[.agg #[.slice A l.length c, .int .i64 nx], .bool false]) (by simp [results, Tryd.results82, go_sem, *]) rfl ⟨_, by rw [HP.out], ?_, ?_⟩
    · rw [HP.out]; refine Kd.R_below HO.out ?_; have hs2 := HB2.out.size; (repeat' (first | exact HB2.out | (with_reducible refine below_setCell ?_ ?_ _) | (with_reducible refine below_setRow ?_ ?_ _) | (with_reducible refine Below.alloc ?_ ?_ _) | (with_reducible refine below_drew ?_) | (with_reducible exact Below.refl _ _) | omega | (simp; done) | (simp; omega)))
    · refine Below.mono ?_ hB; have hs2 := HB2.out.size; (repeat' (first | exact HB2.out | (with_reducible refine below_setCell ?_ ?_ _) | (with_reducible refine below_setRow ?_ ?_ _) | (with_reducible refine Below.alloc ?_ ?_ _) | (with_reducible refine below_drew ?_) | (with_reducible exact Below.refl _ _) | omega | (simp; done) | (simp; omega)))
  · have hf0 : (findP l r.path).2 = false := by simpa using hf
    rw [hf0, hq] at HF
    by_cases h1 : r.id < nx
    · have HP := Aside0.mk (show beginP ⟨l, nx⟩ r = (⟨l, nx⟩, false) by unfold beginP; rw [if_pos (.inr (.inl h1))])
      clear hf hf0 hq
      go_enter Tryd.func82, Tryd.ntmps82
      go_wp2_with (go_at_call 33; refine (Find_calls A c l nx r.path _ (Kd.C_below HC.out ?_) (Nat.le_trans hlen (by decide))).mono ?_; (exact below_alloc (below_alloc (below_alloc (Below.refl _ _) _) _) _); rintro e w2 ⟨rfl, hb2⟩; rw [HF.out]; obtain ⟨hcl, hfz⟩ := bcell hb2; have z0 : ¬ (w.heap.size = w2.heap.size) := (by have h_ := hb2.size; simp at h_; omega); have y0 : w.heap.size < w2.heap.size := (by have h_ := hb2.size; simp at h_; omega); have c0_0 : w2.cell? ⟨w.heap.size, 0, none⟩ = some (.slice A l.length c) := (by rw [hcl _ _ (by simp; try omega)]; first | (go_simp; done) | (simp [*]; done)); have f0_0 : w2.frozen? ⟨w.heap.size, 0, none⟩ = false := (by rw [hfz _ _ (by simp; try omega)]; first | (go_simp; done) | (simp [*]; done)); have c0_1 : w2.cell? ⟨w.heap.size, 1, none⟩ = some (.int .i64 nx) := (by rw [hcl _ _ (by simp; try omega)]; first | (go_simp; done) | (simp [*]; done)); have f0_1 : w2.frozen? ⟨w.heap.size, 1, none⟩ = false := (by rw [hfz _ _ (by simp; try omega)]; first | (go_simp; done) | (simp [*]; done)); have z1 : ¬ (w.heap.size + 1 = w2.heap.size) := (by have h_ := hb2.size; simp at h_; omega); have y1 : w.heap.size + 1 < w2.heap.size := (by have h_ := hb2.size; simp at h_; omega); have c1_1 : w2.cell? ⟨w.heap.size + 1, 1, none⟩ = some (.int .i64 r.id) := (by rw [hcl _ _ (by simp; try omega)]; first | (go_simp; done) | (simp [*]; done)); have c1_2 : w2.cell? ⟨w.heap.size + 1, 2, none⟩ = some (.string r.path) := (by rw [hcl _ _ (by simp; try omega)]; first | (go_simp; done) | (simp [*]; done)); have c1_35 : w2.cell? ⟨w.heap.size + 1, 35, none⟩ = some (.int .i64 r.size) := (by rw [hcl _ _ (by simp; try omega)]; first | (go_simp; done) | (simp [*]; done)); have z2 : ¬ (w.heap.size + 1 + 1 = w2.heap.size) := (by have h_ := hb2.size; simp at h_; omega); have y2 : w.heap.size + 1 + 1 < w2.heap.size := (by have h_ := hb2.size; simp at h_; omega); have c2_0 : w2.cell? ⟨w.heap.size + 1 + 1, 0, none⟩ = some (.slice none 0 0) := (by rw [hcl _ _ (by simp; try omega)]; first | (go_simp; done) | (simp [*]; done)); have f2_0 : w2.frozen? ⟨w.heap.size + 1 + 1, 0, none⟩ = false := (by rw [hfz _ _ (by simp; try omega)]; first | (go_simp; done) | (simp [*]; done)); have c2_1 : w2.cell? ⟨w.heap.size + 1 + 1, 1, none⟩ = some (.int .i64 0) := (by rw [hcl _ _ (by simp; try omega)]; first | (go_simp; done) | (simp [*]; done)); have f2_1 : w2.frozen? ⟨w.heap.size + 1 + 1, 1, none⟩ = false := (by rw [hfz _ _ (by simp; try omega)]; first | (go_simp; done) | (simp [*]; done)); have r0 : rowAt w2 ⟨w.heap.size + 1, 3, none⟩ 32 = some (hsL r.sum) := (by rw [rowAt_below hb2 (by simp; try omega)]; first | (go_simp; done) | (simp [*]; done)); have HO2 := Aside0.mk (Kd.R_below (Kd.R_alloc (Kd.R_alloc (Kd.R_alloc HO.out _) _) _) hb2); have HB2 := Aside0.mk (Below.trans (below_alloc (below_alloc (below_alloc (Below.refl w.heap.size w) _) _) _) (hb2.mono (by simp; omega))); clear hb2 hcl hfz)
      refine bodyPost_ret (v := .tuple #[.agg #[.slice A l.length c, .int .i64 nx], .bool false]) (by simp [results, Tryd.results82, go_sem, *]) rfl ⟨_, by rw [HP.out], ?_, ?_⟩
      · rw [HP.out]; refine Kd.R_below HO.out ?_; have hs2 := HB2.out.size; (repeat' (first | exact HB2.out | (with_reducible refine below_setCell ?_ ?_ _) | (with_reducible refine below_setRow ?_ ?_ _) | (with_reducible refine Below.alloc ?_ ?_ _) | (with_reducible refine below_drew ?_) | (with_reducible exact Below.refl _ _) | omega | (simp; done) | (simp; omega)))
      · refine Below.mono ?_ hB; have hs2 := HB2.out.size; (repeat' (first | exact HB2.out | (with_reducible refine below_setCell ?_ ?_ _) | (with_reducible refine below_setRow ?_ ?_ _) | (with_reducible refine Below.alloc ?_ ?_ _) | (with_reducible refine below_drew ?_) | (with_reducible exact Below.refl _ _) | omega | (simp; done) | (simp; omega)))
    · by_cases h2 : 64 ≤ l.length
      · have HP := Aside0.mk (show beginP ⟨l, nx⟩ r = (⟨l, nx⟩, false) by unfold beginP; rw [if_pos (.inr (.inr h2))])
        have h3 : (64 : Int) ≤ (l.length : Int) := by omega
        clear hf hf0 hq
        go_enter Tryd.func82, Tryd.ntmps82
        go_wp2_with (go_at_call 33; refine (Find_calls A c l nx r.path _ (Kd.C_below HC.out ?_) (Nat.le_trans hlen (by decide))).mono ?_; (exact below_alloc (below_alloc (below_alloc (Below.refl _ _) _) _) _); rintro e w2 ⟨rfl, hb2⟩; rw [HF.out]; obtain ⟨hcl, hfz⟩ := bcell hb2; have z0 : ¬ (w.heap.size = w2.heap.size) := (by have h_ := hb2.size; simp at h_; omega); have y0 : w.heap.size < w2.heap.size := (by have h_ := hb2.size; simp at h_; omega); have c0_0 : w2.cell? ⟨w.heap.size, 0, none⟩ = some (.slice A l.length c) := (by rw [hcl _ _ (by simp; try omega)]; first | (go_simp; done) | (simp [*]; done)); have f0_0 : w2.frozen? ⟨w.heap.size, 0, none⟩ = false := (by rw [hfz _ _ (by simp; try omega)]; first | (go_simp; done) | (simp [*]; done)); have c0_1 : w2.cell? ⟨w.heap.size, 1, none⟩ = some (.int .i64 nx) := (by rw [hcl _ _ (by simp; try omega)]; first | (go_simp; done) | (simp [*]; done)); have f0_1 : w2.frozen? ⟨w.heap.size, 1, none⟩ = false := (by rw [hfz _ _ (by simp; try omega)]; first | (go_simp; done) | (simp [*]; done)); have z1 : ¬ (w.heap.size + 1 = w2.heap.size) := (by have h_ := hb2.size; simp at h_; omega); have y1 : w.heap.size + 1 < w2.heap.size := (by have h_ := hb2.size; simp at h_; omega); have c1_1 : w2.cell? ⟨w.heap.size + 1, 1, none⟩ = some (.int .i64 r.id) := (by rw [hcl _ _ (by simp; try omega)]; first | (go_simp; done) | (simp [*]; done)); have c1_2 : w2.cell? ⟨w.heap.size + 1, 2, none⟩ = some (.string r.path) := (by rw [hcl _ _ (by simp; try omega)]; first | (go_simp; done) | (simp [*]; done)); have c1_35 : w2.cell? ⟨w.heap.size + 1, 35, none⟩ = some (.int .i64 r.size) := (by rw [hcl _ _ (by simp; try omega)]; first | (go_simp; done) | (simp [*]; done)); have z2 : ¬ (w.heap.size + 1 + 1 = w2.heap.size) := (by have h_ := hb2.size; simp at h_; omega); have y2 : w.heap.size + 1 + 1 < w2.heap.size := (by have h_ := hb2.size; simp at h_; omega); have c2_0 : w2.cell? ⟨w.heap.size + 1 + 1, 0, none⟩ = some (.slice none 0 0) := (by rw [hcl _ _ (by simp; try omega)]; first | (go_simp; done) | (simp [*]; done)); have f2_0 : w2.frozen? ⟨w.heap.size + 1 + 1, 0, none⟩ = false := (by rw [hfz _ _ (by simp; try omega)]; first | (go_simp; done) | (simp [*]; done)); have c2_1 : w2.cell? ⟨w.heap.size + 1 + 1, 1, none⟩ = some (.int .i64 0) := (by rw [hcl _ _ (by simp; try omega)]; first | (go_simp; done) | (simp [*]; done)); have f2_1 : w2.frozen? ⟨w.heap.size + 1 + 1, 1, none⟩ = false := (by rw [hfz _ _ (by simp; try omega)]; first | (go_simp; done) | (simp [*]; done)); have r0 : rowAt w2 ⟨w.heap.size + 1, 3, none⟩ 32 = some (hsL r.sum) := (by rw [rowAt_below hb2 (by simp; try omega)]; first | (go_simp; done) | (simp [*]; done)); have HO2 := Aside0.mk (Kd.R_below (Kd.R_alloc (Kd.R_alloc (Kd.R_alloc HO.out _) _) _) hb2); have HB2 := Aside0.mk (Below.trans (below_alloc (below_alloc (below_alloc (Below.refl w.heap.size w) _) _) _) (hb2.mono (by simp; omega))); clear hb2 hcl hfz)
        refine bodyPost_ret (v := .tuple #[.agg #[.slice A l.length c, .int .i64 nx], .bool false]) (by simp [results, Tryd.results82, go_sem, *]) rfl ⟨_, by rw [HP.out], ?_, ?_⟩
        · rw [HP.out]; refine Kd.R_below HO.out ?_; have hs2 := HB2.out.size; (repeat' (first | exact HB2.out | (with_reducible refine below_setCell ?_ ?_ _) | (with_reducible refine below_setRow ?_ ?_ _) | (with_reducible refine Below.alloc ?_ ?_ _) | (with_reducible refine below_drew ?_) | (with_reducible exact Below.refl _ _) | omega | (simp; done) | (simp; omega)))
        · refine Below.mono ?_ hB; have hs2 := HB2.out.size; (repeat' (first | exact HB2.out | (with_reducible refine below_setCell ?_ ?_ _) | (with_reducible refine below_setRow ?_ ?_ _) | (with_reducible refine Below.alloc ?_ ?_ _) | (with_reducible refine below_drew ?_) | (with_reducible exact Below.refl _ _) | omega | (simp; done) | (simp; omega)))
      · have HP := Aside0.mk (show beginP ⟨l, nx⟩ r = (⟨l ++ [⟨r.id, r.path, r.sum, r.size, 0⟩], r.id + 1⟩, true) by unfold beginP; rw [if_neg (fun h => h.elim hf (fun h => h.elim h1 h2))])
        have h3 : ¬ (64 : Int) ≤ (l.length : Int) := by omega
        clear hf hf0 hq
        go_enter Tryd.func82, Tryd.ntmps82
        go_wp2_with (first | (go_at_call 33; refine (Find_calls A c l nx r.path _ (Kd.C_below HC.out ?_) (Nat.le_trans hlen (by decide))).mono ?_; (exact below_alloc (below_alloc (below_alloc (Below.refl _ _) _) _) _); rintro e w2 ⟨rfl, hb2⟩; rw [HF.out]; obtain ⟨hcl, hfz⟩ := bcell hb2; have z0 : ¬ (w.heap.size = w2.heap.size) := (by have h_ := hb2.size; simp at h_; omega); have y0 : w.heap.size < w2.heap.size := (by have h_ := hb2.size; simp at h_; omega); have c0_0 : w2.cell? ⟨w.heap.size, 0, none⟩ = some (.slice A l.length c) := (by rw [hcl _ _ (by simp; try omega)]; first | (go_simp; done) | (simp [*]; done)); have f0_0 : w2.frozen? ⟨w.heap.size, 0, none⟩ = false := (by rw [hfz _ _ (by simp; try omega)]; first | (go_simp; done) | (simp [*]; done)); have c0_1 : w2.cell? ⟨w.heap.size, 1, none⟩ = some (.int .i64 nx) := (by rw [hcl _ _ (by simp; try omega)]; first | (go_simp; done) | (simp [*]; done)); have f0_1 : w2.frozen? ⟨w.heap.size, 1, none⟩ = false := (by rw [hfz _ _ (by simp; try omega)]; first | (go_simp; done) | (simp [*]; done)); have z1 : ¬ (w.heap.size + 1 = w2.heap.size) := (by have h_ := hb2.size; simp at h_; omega); have y1 : w.heap.size + 1 < w2.heap.size := (by have h_ := hb2.size; simp at h_; omega); have c1_1 : w2.cell? ⟨w.heap.size + 1, 1, none⟩ = some (.int .i64 r.id) := (by rw [hcl _ _ (by simp; try omega)]; first | (go_simp; done) | (simp [*]; done)); have c1_2 : w2.cell? ⟨w.heap.size + 1, 2, none⟩ = some (.string r.path) := (by rw [hcl _ _ (by simp; try omega)]; first | (go_simp; done) | (simp [*]; done)); have c1_35 : w2.cell? ⟨w.heap.size + 1, 35, none⟩ = some (.int .i64 r.size) := (by rw [hcl _ _ (by simp; try omega)]; first | (go_simp; done) | (simp [*]; done)); have z2 : ¬ (w.heap.size + 1 + 1 = w2.heap.size) := (by have h_ := hb2.size; simp at h_; omega); have y2 : w.heap.size + 1 + 1 < w2.heap.size := (by have h_ := hb2.size; simp at h_; omega); have c2_0 : w2.cell? ⟨w.heap.size + 1 + 1, 0, none⟩ = some (.slice none 0 0) := (by rw [hcl _ _ (by simp; try omega)]; first | (go_simp; done) | (simp [*]; done)); have f2_0 : w2.frozen? ⟨w.heap.size + 1 + 1, 0, none⟩ = false := (by rw [hfz _ _ (by simp; try omega)]; first | (go_simp; done) | (simp [*]; done)); have c2_1 : w2.cell? ⟨w.heap.size + 1 + 1, 1, none⟩ = some (.int .i64 0) := (by rw [hcl _ _ (by simp; try omega)]; first | (go_simp; done) | (simp [*]; done)); have f2_1 : w2.frozen? ⟨w.heap.size + 1 + 1, 1, none⟩ = false := (by rw [hfz _ _ (by simp; try omega)]; first | (go_simp; done) | (simp [*]; done)); have r0 : rowAt w2 ⟨w.heap.size + 1, 3, none⟩ 32 = some (hsL r.sum) := (by rw [rowAt_below hb2 (by simp; try omega)]; first | (go_simp; done) | (simp [*]; done)); have HO2 := Aside0.mk (Kd.R_below (Kd.R_alloc (Kd.R_alloc (Kd.R_alloc HO.out _) _) _) hb2); have HB2 := Aside0.mk (Below.trans (below_alloc (below_alloc (below_alloc (Below.refl w.heap.size w) _) _) _) (hb2.mono (by simp; omega))); clear hb2 hcl hfz) | ((with_reducible refine gate_builtin (b := .append) (xs := #[.tmp 31, .tmp 41]) rfl ?_); at_builtin; refine Kd.R_append kPt (w0 := w) B rfl (.tmp 31) (.tmp 41) 58 75 _ 72 rfl Tryd.underlying58 infoPt zcPt (by decide) (by decide) (.slice A l.length c) l ⟨r.id, r.path, r.sum, r.size, 0⟩ (ptL ⟨r.id, r.path, r.sum, r.size, 0⟩) (fun _ => True) (fun _ => False) rfl ?aX rfl (fun _ hk => hk.elim) (fun _ _ => trivial) (Kd.R_alloc HO2.out _) ?aB ?aS ?aL ?_; (case aX => first | rfl | (go_simp; done) | (simp; done)); (case aB => exact (HB2.out.mono hB).alloc (by omega) _); (case aS => simp; omega); (case aL => omega); intro v3 w3 ho3 hb3 hg3 hat3; have HNE3 := Aside0.mk (show ∀ k, w.heap.size ≤ k → k ≤ w.heap.size + 2 → v3.ownBlock ≠ some k from fun k hk hk2 e => by rcases hat3 with h | ⟨b, h, h2⟩; (exact HNE.out k hk (h.symm.trans e)); (rw [e] at h; injection h with h; simp at h2; omega)); have cg0_0 : w3.cell? ⟨w.heap.size, 0, none⟩ = some (.slice A l.length c) := grown_cell hg3 (HNE.out _ (by omega)) (by first | (go_simp; done) | (simp [*]; done)); have fg0_0 : w3.frozen? ⟨w.heap.size, 0, none⟩ = false := grown_froz hg3 (HNE.out _ (by omega)) (by simp; omega) (by first | (go_simp; done) | (simp [*]; done)); have cg0_1 : w3.cell? ⟨w.heap.size, 1, none⟩ = some (.int .i64 nx) := grown_cell hg3 (HNE.out _ (by omega)) (by first | (go_simp; done) | (simp [*]; done)); have fg0_1 : w3.frozen? ⟨w.heap.size, 1, none⟩ = false := grown_froz hg3 (HNE.out _ (by omega)) (by simp; omega) (by first | (go_simp; done) | (simp [*]; done)); have cg1_1 : w3.cell? ⟨w.heap.size + 1, 1, none⟩ = some (.int .i64 r.id) := grown_cell hg3 (HNE.out _ (by omega)) (by first | (go_simp; done) | (simp [*]; done)); have cg1_2 : w3.cell? ⟨w.heap.size + 1, 2, none⟩ = some (.string r.path) := grown_cell hg3 (HNE.out _ (by omega)) (by first | (go_simp; done) | (simp [*]; done)); have cg1_35 : w3.cell? ⟨w.heap.size + 1, 35, none⟩ = some (.int .i64 r.size) := grown_cell hg3 (HNE.out _ (by omega)) (by first | (go_simp; done) | (simp [*]; done)); have cg2_0 : w3.cell? ⟨w.heap.size + 1 + 1, 0, none⟩ = some (.slice none 0 0) := grown_cell hg3 (HNE.out _ (by omega)) (by first | (go_simp; done) | (simp [*]; done)); have fg2_0 : w3.frozen? ⟨w.heap.size + 1 + 1, 0, none⟩ = false := grown_froz hg3 (HNE.out _ (by omega)) (by simp; omega) (by first | (go_simp; done) | (simp [*]; done)); have cg2_1 : w3.cell? ⟨w.heap.size + 1 + 1, 1, none⟩ = some (.int .i64 0) := grown_cell hg3 (HNE.out _ (by omega)) (by first | (go_simp; done) | (simp [*]; done)); have fg2_1 : w3.frozen? ⟨w.heap.size + 1 + 1, 1, none⟩ = false := grown_froz hg3 (HNE.out _ (by omega)) (by simp; omega) (by first | (go_simp; done) | (simp [*]; done)); obtain ⟨A3, c3, rfl⟩ := Kd.R_slice ho3; have HO3 := Aside0.mk ho3; have HB3 := Aside0.mk hb3; have hs3 := Aside0.mk hg3.size; clear ho3 hb3 hg3 hat3))
        rw [HP.out]
        refine bodyPost_ret (v := .tuple #[.agg #[.slice A3 (l ++ [(⟨r.id, r.path, r.sum, r.size, 0⟩ : Pt)]).length c3, .int .i64 (r.id + 1)], .bool true]) (by simp [results, Tryd.results82, go_sem, *]) rfl ⟨_, rfl, ?_, ?_⟩
        · refine flat_keep (flat_keep (flat_keep (flat_keep HO3.out ?_) ?_) ?_) ?_ <;> exact HNE3.out _ (by omega) (by omega)
        · have hs3 := hs3.out; simp at hs3; (repeat' (first | exact HB3.out | (with_reducible refine below_setCell ?_ ?_ _) | (with_reducible refine below_setRow ?_ ?_ _) | (with_reducible refine Below.alloc ?_ ?_ _) | (with_reducible refine below_drew ?_) | (with_reducible exact Below.refl _ _) | omega | (simp; done) | (simp; omega)))
end Go.Proofs.YtiohgpcbdefokaaDoor.B
/- record.Step: what a record makes of a state. No condition. -/
namespace Go.Proofs.YtiohgpcbdefokaaDoor.B
open Go.RowKit Go.Proofs.YtiohgpcbdefokaaDoorW.PrintWords Go.Proofs.YtiohgpcbdefokaaDoor.RowLaws
attribute [local go_sem ↓ high] lvO_hs ldO_hs stO_hs lvO_pt ldO_pt stO_pt zero_pt eqA_pt lvO_ptR ldO_ptR stO_ptR zero_ptR eqA_ptR lvO_rc ldO_rc stO_rc zero_rc eqA_rc lvO_rcR ldO_rcR stO_rcR zero_rcR eqA_rcR lvO_tk ldO_tk stO_tk zero_tk eqA_tk lvO_tkR ldO_tkR stO_tkR zero_tkR eqA_tkR lvO_it ldO_it stO_it zero_it eqA_it blO_pt blO_ptR blO_rc blO_rcR blO_tk blO_tkR blO_it bsO_pt bsO_ptR bsO_rc bsO_rcR bsO_it
attribute [local go_sem high] rowAt_setCell rowAt_setRow cell_setRow_ne isRow_setRow_ne rowAt_alloc rowAt_drew isRow_alloc isRow_drew isRow_setCell rowRun_some okL_hs ldV_hs ldA_hs stA_hs setRow_alloc get_pt_id get_pt_path cut_pt_sum get_pt_size get_pt_off cut_pt okL_pt size_pt lenb_pt eta_pt ldV_pt ldA_pt stA_pt ldV_ptR ldA_ptR stA_ptR get_rc_kind get_rc_id get_rc_path cut_rc_sum get_rc_size get_rc_off cut_rc okL_rc size_rc lenb_rc eta_rc ldV_rc ldA_rc stA_rc ldV_rcR ldA_rcR stA_rcR get_tk_path cut_tk_sum get_tk_size get_tk_off cut_tk_old cut_tk okL_tk size_tk lenb_tk eta_tk ldV_tk ldA_tk stA_tk ldV_tkR ldA_tkR stA_tkR get_it_path get_it_dir get_it_size cut_it_sum cut_it okL_it size_it lenb_it eta_it ldV_it ldA_it stA_it bld_pt_01234 bld_pt_0123 bld_pt_z bld_ptR_01234 bld_ptR_0123 bld_ptR_z bld_rc_012345 bld_rc_015 bld_rc_01 bld_rc_z bld_rc_01234 bld_rc_24 bld_rc_05 bld_rc_0 bld_rcR_012345 bld_rcR_015 bld_rcR_01 bld_rcR_z bld_rcR_01234 bld_rcR_24 bld_rcR_05 bld_rcR_0 bld_tk_01234 bld_tk_0 bld_tk_z bld_tkR_01234 bld_tkR_0 bld_tkR_z bld_it_0123 bld_it_023 bld_it_01 bld_it_0 bld_it_z bs0_pt bs1_pt bs0_ptR bs1_ptR bs0_rc bs1_rc bs0_rcR bs1_rcR bs0_it bs1_it
theorem ptL_off (p : Pt) (x : Int) : (ptL p).take 35 ++ [.int .i64 x] ++ (ptL p).drop 36 = ptL { p with off := x } := by
  obtain ⟨b0, b1, b2, b3, b4, b5, b6, b7, b8, b9, b10, b11, b12, b13, b14, b15, b16, b17, b18, b19, b20, b21, b22, b23, b24, b25, b26, b27, b28, b29, b30, b31, e0⟩ := hs_lit p.sum
  simp [ptL, e0]
theorem part_cells {e : Nat} {W : World} {B c i g : Nat} {ok : Nat → Prop} {l : List Pt} {p : Pt} (h : Kd.R kPt e W B ok (.slice (some ⟨g, 0, none⟩) l.length c) l) (hx : l[i]? = some p) : W.cell? ⟨g, i * 36 + 34, none⟩ = some (.int .i64 p.size) ∧ W.cell? ⟨g, i * 36 + 35, none⟩ = some (.int .i64 p.off) := by
  have hi := List.getElem?_eq_some_iff.1 hx
  obtain ⟨b, o, hA, _, hr⟩ := flat_at (Kd.R_reads' h).2.2 (by decide) (Nat.lt_of_le_of_lt (Nat.zero_le _) hi.1)
  injection hA with hA
  injection hA with hb ho
  subst hb ho
  have h2 := (hr i hi.1).2
  rw [hi.2] at h2
  have h3 := h2 34 _ (get_pt_size p)
  have h4 := h2 35 _ (get_pt_off p)
  rw [Nat.zero_add] at h3 h4
  exact ⟨h3, h4⟩
def idP (l : List Pt) (i : Int) : Int := fstI (fun x => decide (x.id = i)) l
/-- What a record makes of a state. -/
def stepP (s : St) (r : Rc) : St × Bool :=
  if r.kind = 0 then beginP s r
  else if r.kind = 4 then (if r.id < s.next then (s, false) else (⟨s.parts, r.id + 1⟩, true))
  else if r.kind = 1 then
    match s.parts.findIdx? (fun x => decide (x.id = r.id)) with
    | none => (s, false)
    | some i => match s.parts[i]? with
      | none => (s, false)
      | some p => if r.off < p.off ∨ p.size < r.off then (s, false) else (⟨s.parts.set i { p with off := r.off }, s.next⟩, true)
  else if r.kind = 2 ∨ r.kind = 3 then
    match s.parts.findIdx? (fun x => decide (x.id = r.id)) with
    | none => (s, false)
    | some i => (⟨s.parts.eraseIdx i, s.next⟩, true)
  else (s, false)
set_option linter.unusedVariables false in
set_option maxHeartbeats 8000000 in
set_option maxRecDepth 100000 in
theorem Step_other (A : Option Addr) (c : Nat) (l : List Pt) (nx : Int) (r : Rc) (w : World) (hC : Kd.C kPt w A l.length l) (hc : l.length ≤ c) (hlen : l.length ≤ 64) (hid : r.id ≤ 2199023255552) (hid0 : -9223372036854775808 ≤ r.id) (h0 : ¬ r.kind = 0) (h1 : ¬ r.kind = 1) (h2 : ¬ r.kind = 2) (h3 : ¬ r.kind = 3) (h4 : ¬ r.kind = 4) :
    Calls Tryd.prog 27 #[.agg #[.slice A l.length c, .int .i64 nx], .agg (rcL r).toArray] w fun e w' => ∃ v : Value, e = .returned (.tuple #[.agg #[v, .int .i64 (stepP ⟨l, nx⟩ r).1.next], .bool (stepP ⟨l, nx⟩ r).2]) ∧ Kd.R kPt 75 w' w.heap.size (fun _ => True) v (stepP ⟨l, nx⟩ r).1.parts ∧ Below w.heap.size w w' := by
  have HC := Aside0.mk hC
  clear hC
  have HP := Aside0.mk (show stepP ⟨l, nx⟩ r = (⟨l, nx⟩, false) by simp [stepP, *])
  go_enter Tryd.func27, Tryd.ntmps27
  go_wp2_with (first | (go_at_call 79; refine (ownS_calls A c l nx _ (Kd.C_below HC.out ?_) hc (Nat.le_trans hlen (by decide))).mono ?_; (exact below_alloc (below_alloc (below_alloc (Below.refl _ _) _) _) _); rintro e w2 ⟨v, rfl, ho, hb2⟩; obtain ⟨A2, c2, rfl⟩ := Kd.R_slice ho; obtain ⟨hcl, hfz⟩ := bcell hb2; have z0 : ¬ (w.heap.size = w2.heap.size) := (by have h_ := hb2.size; simp at h_; omega); have y0 : w.heap.size < w2.heap.size := (by have h_ := hb2.size; simp at h_; omega); have c0_0 : w2.cell? ⟨w.heap.size, 0, none⟩ = some (.slice A l.length c) := (by rw [hcl _ _ (by first | omega | (simp; done) | (simp; omega))]; first | (go_simp; done) | (simp [*]; done) | (simp [go_sem, *]; done)); have f0_0 : w2.frozen? ⟨w.heap.size, 0, none⟩ = false := (by rw [hfz _ _ (by first | omega | (simp; done) | (simp; omega))]; first | (go_simp; done) | (simp [*]; done) | (simp [go_sem, *]; done)); have c0_1 : w2.cell? ⟨w.heap.size, 1, none⟩ = some (.int .i64 nx) := (by rw [hcl _ _ (by first | omega | (simp; done) | (simp; omega))]; first | (go_simp; done) | (simp [*]; done) | (simp [go_sem, *]; done)); have f0_1 : w2.frozen? ⟨w.heap.size, 1, none⟩ = false := (by rw [hfz _ _ (by first | omega | (simp; done) | (simp; omega))]; first | (go_simp; done) | (simp [*]; done) | (simp [go_sem, *]; done)); have z1 : ¬ (w.heap.size + 1 = w2.heap.size) := (by have h_ := hb2.size; simp at h_; omega); have y1 : w.heap.size + 1 < w2.heap.size := (by have h_ := hb2.size; simp at h_; omega); have c1_0 : w2.cell? ⟨w.heap.size + 1, 0, none⟩ = some (.int .u8 r.kind) := (by rw [hcl _ _ (by first | omega | (simp; done) | (simp; omega))]; first | (go_simp; done) | (simp [*]; done) | (simp [go_sem, *]; done)); have c1_1 : w2.cell? ⟨w.heap.size + 1, 1, none⟩ = some (.int .i64 r.id) := (by rw [hcl _ _ (by first | omega | (simp; done) | (simp; omega))]; first | (go_simp; done) | (simp [*]; done) | (simp [go_sem, *]; done)); have c1_36 : w2.cell? ⟨w.heap.size + 1, 36, none⟩ = some (.int .i64 r.off) := (by rw [hcl _ _ (by first | omega | (simp; done) | (simp; omega))]; first | (go_simp; done) | (simp [*]; done) | (simp [go_sem, *]; done)); have z2 : ¬ (w.heap.size + 1 + 1 = w2.heap.size) := (by have h_ := hb2.size; simp at h_; omega); have y2 : w.heap.size + 1 + 1 < w2.heap.size := (by have h_ := hb2.size; simp at h_; omega); have c2_0 : w2.cell? ⟨w.heap.size + 1 + 1, 0, none⟩ = some (.slice none 0 0) := (by rw [hcl _ _ (by first | omega | (simp; done) | (simp; omega))]; first | (go_simp; done) | (simp [*]; done) | (simp [go_sem, *]; done)); have f2_0 : w2.frozen? ⟨w.heap.size + 1 + 1, 0, none⟩ = false := (by rw [hfz _ _ (by first | omega | (simp; done) | (simp; omega))]; first | (go_simp; done) | (simp [*]; done) | (simp [go_sem, *]; done)); have c2_1 : w2.cell? ⟨w.heap.size + 1 + 1, 1, none⟩ = some (.int .i64 0) := (by rw [hcl _ _ (by first | omega | (simp; done) | (simp; omega))]; first | (go_simp; done) | (simp [*]; done) | (simp [go_sem, *]; done)); have f2_1 : w2.frozen? ⟨w.heap.size + 1 + 1, 1, none⟩ = false := (by rw [hfz _ _ (by first | omega | (simp; done) | (simp; omega))]; first | (go_simp; done) | (simp [*]; done) | (simp [go_sem, *]; done)); have r0 : rowAt w2 ⟨w.heap.size + 1, 0, none⟩ 37 = some (rcL r) := (by rw [rowAt_below hb2 (by first | omega | (simp; done) | (simp; omega))]; first | (go_simp; done) | (simp [*]; done) | (simp [go_sem, *]; done)); have HO2 := Aside0.mk (Kd.R_lower (base' := w.heap.size + 1 + 1 + 1) ho (by simp)); have HB2 := Aside0.mk (Below.trans (below_alloc (below_alloc (below_alloc (Below.refl w.heap.size w) _) _) _) (hb2.mono (by simp; omega))); clear hb2 hcl hfz ho) | (go_at_call 80; refine (idx_id A2 c2 l r.id _ _ (Kd.R_reads' (flat_put (flat_put HO2.out (by omega)) (by omega))).2.2 (Nat.le_trans hlen (by decide)) ?hc1).mono ?_; (case hc1 => first | (go_simp; done) | (simp [go_sem, *]; done)); rintro e w3 ⟨rfl, hb3⟩; obtain ⟨hcl, hfz⟩ := bcell hb3; have zi0 : ¬ (w.heap.size = w3.heap.size) := (by have h_ := hb3.size; simp at h_; omega); have yi0 : w.heap.size < w3.heap.size := (by have h_ := hb3.size; simp at h_; omega); have ci0_0 : w3.cell? ⟨w.heap.size, 0, none⟩ = some (.slice A2 l.length c2) := (by rw [hcl _ _ (by first | omega | (simp; done) | (simp; omega))]; first | (go_simp; done) | (simp [*]; done) | (simp [go_sem, *]; done)); have fi0_0 : w3.frozen? ⟨w.heap.size, 0, none⟩ = false := (by rw [hfz _ _ (by first | omega | (simp; done) | (simp; omega))]; first | (go_simp; done) | (simp [*]; done) | (simp [go_sem, *]; done)); have ci0_1 : w3.cell? ⟨w.heap.size, 1, none⟩ = some (.int .i64 nx) := (by rw [hcl _ _ (by first | omega | (simp; done) | (simp; omega))]; first | (go_simp; done) | (simp [*]; done) | (simp [go_sem, *]; done)); have fi0_1 : w3.frozen? ⟨w.heap.size, 1, none⟩ = false := (by rw [hfz _ _ (by first | omega | (simp; done) | (simp; omega))]; first | (go_simp; done) | (simp [*]; done) | (simp [go_sem, *]; done)); have zi1 : ¬ (w.heap.size + 1 = w3.heap.size) := (by have h_ := hb3.size; simp at h_; omega); have yi1 : w.heap.size + 1 < w3.heap.size := (by have h_ := hb3.size; simp at h_; omega); have ci1_0 : w3.cell? ⟨w.heap.size + 1, 0, none⟩ = some (.int .u8 r.kind) := (by rw [hcl _ _ (by first | omega | (simp; done) | (simp; omega))]; first | (go_simp; done) | (simp [*]; done) | (simp [go_sem, *]; done)); have ci1_1 : w3.cell? ⟨w.heap.size + 1, 1, none⟩ = some (.int .i64 r.id) := (by rw [hcl _ _ (by first | omega | (simp; done) | (simp; omega))]; first | (go_simp; done) | (simp [*]; done) | (simp [go_sem, *]; done)); have ci1_36 : w3.cell? ⟨w.heap.size + 1, 36, none⟩ = some (.int .i64 r.off) := (by rw [hcl _ _ (by first | omega | (simp; done) | (simp; omega))]; first | (go_simp; done) | (simp [*]; done) | (simp [go_sem, *]; done)); have zi2 : ¬ (w.heap.size + 1 + 1 = w3.heap.size) := (by have h_ := hb3.size; simp at h_; omega); have yi2 : w.heap.size + 1 + 1 < w3.heap.size := (by have h_ := hb3.size; simp at h_; omega); have ci2_0 : w3.cell? ⟨w.heap.size + 1 + 1, 0, none⟩ = some (.slice none 0 0) := (by rw [hcl _ _ (by first | omega | (simp; done) | (simp; omega))]; first | (go_simp; done) | (simp [*]; done) | (simp [go_sem, *]; done)); have fi2_0 : w3.frozen? ⟨w.heap.size + 1 + 1, 0, none⟩ = false := (by rw [hfz _ _ (by first | omega | (simp; done) | (simp; omega))]; first | (go_simp; done) | (simp [*]; done) | (simp [go_sem, *]; done)); have ci2_1 : w3.cell? ⟨w.heap.size + 1 + 1, 1, none⟩ = some (.int .i64 0) := (by rw [hcl _ _ (by first | omega | (simp; done) | (simp; omega))]; first | (go_simp; done) | (simp [*]; done) | (simp [go_sem, *]; done)); have fi2_1 : w3.frozen? ⟨w.heap.size + 1 + 1, 1, none⟩ = false := (by rw [hfz _ _ (by first | omega | (simp; done) | (simp; omega))]; first | (go_simp; done) | (simp [*]; done) | (simp [go_sem, *]; done)); have ri0 : rowAt w3 ⟨w.heap.size + 1, 0, none⟩ 37 = some (rcL r) := (by rw [rowAt_below hb3 (by first | omega | (simp; done) | (simp; omega))]; first | (go_simp; done) | (simp [*]; done) | (simp [go_sem, *]; done)); have HO3 := Aside0.mk (Kd.R_below (flat_put (flat_put HO2.out (by omega)) (by omega)) hb3); have HB3 := Aside0.mk (Below.trans (below_setCell (below_setCell HB2.out (by omega) _) (by omega) _) (hb3.mono (by simp; omega))); clear hb3 hcl hfz))
  refine bodyPost_ret (v := .tuple #[.agg #[.slice A2 l.length c2, .int .i64 nx], .bool false]) (by simp [results, Tryd.results27, go_sem, *]) rfl ⟨_, by rw [HP.out], ?_, ?_⟩
  · rw [HP.out]; exact Kd.R_lower (flat_put (flat_put (HO3.out) (by omega)) (by omega)) (by omega)
  · have hs3 := HB3.out.size; (repeat' (first | exact HB3.out | (with_reducible refine below_setCell ?_ ?_ _) | (with_reducible refine below_setRow ?_ ?_ _) | (with_reducible refine Below.alloc ?_ ?_ _) | (with_reducible refine below_drew ?_) | (with_reducible refine pw_below_drewN ?_ _) | (with_reducible exact Below.refl _ _) | omega | (simp; done) | (simp; omega)))
set_option linter.unusedVariables false in
set_option maxHeartbeats 8000000 in
set_option maxRecDepth 100000 in
theorem Step_skip0 (A : Option Addr) (c : Nat) (l : List Pt) (nx : Int) (r : Rc) (w : World) (hC : Kd.C kPt w A l.length l) (hc : l.length ≤ c) (hlen : l.length ≤ 64) (hid : r.id ≤ 2199023255552) (hid0 : -9223372036854775808 ≤ r.id) (hk : r.kind = 4) (h1 : r.id < nx) :
    Calls Tryd.prog 27 #[.agg #[.slice A l.length c, .int .i64 nx], .agg (rcL r).toArray] w fun e w' => ∃ v : Value, e = .returned (.tuple #[.agg #[v, .int .i64 (stepP ⟨l, nx⟩ r).1.next], .bool (stepP ⟨l, nx⟩ r).2]) ∧ Kd.R kPt 75 w' w.heap.size (fun _ => True) v (stepP ⟨l, nx⟩ r).1.parts ∧ Below w.heap.size w w' := by
  have HC := Aside0.mk hC
  clear hC
  have HP := Aside0.mk (show stepP ⟨l, nx⟩ r = (⟨l, nx⟩, false) by simp [stepP, *])
  go_enter Tryd.func27, Tryd.ntmps27
  go_wp2_with (first | (go_at_call 79; refine (ownS_calls A c l nx _ (Kd.C_below HC.out ?_) hc (Nat.le_trans hlen (by decide))).mono ?_; (exact below_alloc (below_alloc (below_alloc (Below.refl _ _) _) _) _); rintro e w2 ⟨v, rfl, ho, hb2⟩; obtain ⟨A2, c2, rfl⟩ := Kd.R_slice ho; obtain ⟨hcl, hfz⟩ := bcell hb2; have z0 : ¬ (w.heap.size = w2.heap.size) := (by have h_ := hb2.size; simp at h_; omega); have y0 : w.heap.size < w2.heap.size := (by have h_ := hb2.size; simp at h_; omega); have c0_0 : w2.cell? ⟨w.heap.size, 0, none⟩ = some (.slice A l.length c) := (by rw [hcl _ _ (by first | omega | (simp; done) | (simp; omega))]; first | (go_simp; done) | (simp [*]; done) | (simp [go_sem, *]; done)); have f0_0 : w2.frozen? ⟨w.heap.size, 0, none⟩ = false := (by rw [hfz _ _ (by first | omega | (simp; done) | (simp; omega))]; first | (go_simp; done) | (simp [*]; done) | (simp [go_sem, *]; done)); have c0_1 : w2.cell? ⟨w.heap.size, 1, none⟩ = some (.int .i64 nx) := (by rw [hcl _ _ (by first | omega | (simp; done) | (simp; omega))]; first | (go_simp; done) | (simp [*]; done) | (simp [go_sem, *]; done)); have f0_1 : w2.frozen? ⟨w.heap.size, 1, none⟩ = false := (by rw [hfz _ _ (by first | omega | (simp; done) | (simp; omega))]; first | (go_simp; done) | (simp [*]; done) | (simp [go_sem, *]; done)); have z1 : ¬ (w.heap.size + 1 = w2.heap.size) := (by have h_ := hb2.size; simp at h_; omega); have y1 : w.heap.size + 1 < w2.heap.size := (by have h_ := hb2.size; simp at h_; omega); have c1_0 : w2.cell? ⟨w.heap.size + 1, 0, none⟩ = some (.int .u8 r.kind) := (by rw [hcl _ _ (by first | omega | (simp; done) | (simp; omega))]; first | (go_simp; done) | (simp [*]; done) | (simp [go_sem, *]; done)); have c1_1 : w2.cell? ⟨w.heap.size + 1, 1, none⟩ = some (.int .i64 r.id) := (by rw [hcl _ _ (by first | omega | (simp; done) | (simp; omega))]; first | (go_simp; done) | (simp [*]; done) | (simp [go_sem, *]; done)); have c1_36 : w2.cell? ⟨w.heap.size + 1, 36, none⟩ = some (.int .i64 r.off) := (by rw [hcl _ _ (by first | omega | (simp; done) | (simp; omega))]; first | (go_simp; done) | (simp [*]; done) | (simp [go_sem, *]; done)); have z2 : ¬ (w.heap.size + 1 + 1 = w2.heap.size) := (by have h_ := hb2.size; simp at h_; omega); have y2 : w.heap.size + 1 + 1 < w2.heap.size := (by have h_ := hb2.size; simp at h_; omega); have c2_0 : w2.cell? ⟨w.heap.size + 1 + 1, 0, none⟩ = some (.slice none 0 0) := (by rw [hcl _ _ (by first | omega | (simp; done) | (simp; omega))]; first | (go_simp; done) | (simp [*]; done) | (simp [go_sem, *]; done)); have f2_0 : w2.frozen? ⟨w.heap.size + 1 + 1, 0, none⟩ = false := (by rw [hfz _ _ (by first | omega | (simp; done) | (simp; omega))]; first | (go_simp; done) | (simp [*]; done) | (simp [go_sem, *]; done)); have c2_1 : w2.cell? ⟨w.heap.size + 1 + 1, 1, none⟩ = some (.int .i64 0) := (by rw [hcl _ _ (by first | omega | (simp; done) | (simp; omega))]; first | (go_simp; done) | (simp [*]; done) | (simp [go_sem, *]; done)); have f2_1 : w2.frozen? ⟨w.heap.size + 1 + 1, 1, none⟩ = false := (by rw [hfz _ _ (by first | omega | (simp; done) | (simp; omega))]; first | (go_simp; done) | (simp [*]; done) | (simp [go_sem, *]; done)); have r0 : rowAt w2 ⟨w.heap.size + 1, 0, none⟩ 37 = some (rcL r) := (by rw [rowAt_below hb2 (by first | omega | (simp; done) | (simp; omega))]; first | (go_simp; done) | (simp [*]; done) | (simp [go_sem, *]; done)); have HO2 := Aside0.mk (Kd.R_lower (base' := w.heap.size + 1 + 1 + 1) ho (by simp)); have HB2 := Aside0.mk (Below.trans (below_alloc (below_alloc (below_alloc (Below.refl w.heap.size w) _) _) _) (hb2.mono (by simp; omega))); clear hb2 hcl hfz ho) | (go_at_call 80; refine (idx_id A2 c2 l r.id _ _ (Kd.R_reads' (flat_put (flat_put HO2.out (by omega)) (by omega))).2.2 (Nat.le_trans hlen (by decide)) ?hc1).mono ?_; (case hc1 => first | (go_simp; done) | (simp [go_sem, *]; done)); rintro e w3 ⟨rfl, hb3⟩; obtain ⟨hcl, hfz⟩ := bcell hb3; have zi0 : ¬ (w.heap.size = w3.heap.size) := (by have h_ := hb3.size; simp at h_; omega); have yi0 : w.heap.size < w3.heap.size := (by have h_ := hb3.size; simp at h_; omega); have ci0_0 : w3.cell? ⟨w.heap.size, 0, none⟩ = some (.slice A2 l.length c2) := (by rw [hcl _ _ (by first | omega | (simp; done) | (simp; omega))]; first | (go_simp; done) | (simp [*]; done) | (simp [go_sem, *]; done)); have fi0_0 : w3.frozen? ⟨w.heap.size, 0, none⟩ = false := (by rw [hfz _ _ (by first | omega | (simp; done) | (simp; omega))]; first | (go_simp; done) | (simp [*]; done) | (simp [go_sem, *]; done)); have ci0_1 : w3.cell? ⟨w.heap.size, 1, none⟩ = some (.int .i64 nx) := (by rw [hcl _ _ (by first | omega | (simp; done) | (simp; omega))]; first | (go_simp; done) | (simp [*]; done) | (simp [go_sem, *]; done)); have fi0_1 : w3.frozen? ⟨w.heap.size, 1, none⟩ = false := (by rw [hfz _ _ (by first | omega | (simp; done) | (simp; omega))]; first | (go_simp; done) | (simp [*]; done) | (simp [go_sem, *]; done)); have zi1 : ¬ (w.heap.size + 1 = w3.heap.size) := (by have h_ := hb3.size; simp at h_; omega); have yi1 : w.heap.size + 1 < w3.heap.size := (by have h_ := hb3.size; simp at h_; omega); have ci1_0 : w3.cell? ⟨w.heap.size + 1, 0, none⟩ = some (.int .u8 r.kind) := (by rw [hcl _ _ (by first | omega | (simp; done) | (simp; omega))]; first | (go_simp; done) | (simp [*]; done) | (simp [go_sem, *]; done)); have ci1_1 : w3.cell? ⟨w.heap.size + 1, 1, none⟩ = some (.int .i64 r.id) := (by rw [hcl _ _ (by first | omega | (simp; done) | (simp; omega))]; first | (go_simp; done) | (simp [*]; done) | (simp [go_sem, *]; done)); have ci1_36 : w3.cell? ⟨w.heap.size + 1, 36, none⟩ = some (.int .i64 r.off) := (by rw [hcl _ _ (by first | omega | (simp; done) | (simp; omega))]; first | (go_simp; done) | (simp [*]; done) | (simp [go_sem, *]; done)); have zi2 : ¬ (w.heap.size + 1 + 1 = w3.heap.size) := (by have h_ := hb3.size; simp at h_; omega); have yi2 : w.heap.size + 1 + 1 < w3.heap.size := (by have h_ := hb3.size; simp at h_; omega); have ci2_0 : w3.cell? ⟨w.heap.size + 1 + 1, 0, none⟩ = some (.slice none 0 0) := (by rw [hcl _ _ (by first | omega | (simp; done) | (simp; omega))]; first | (go_simp; done) | (simp [*]; done) | (simp [go_sem, *]; done)); have fi2_0 : w3.frozen? ⟨w.heap.size + 1 + 1, 0, none⟩ = false := (by rw [hfz _ _ (by first | omega | (simp; done) | (simp; omega))]; first | (go_simp; done) | (simp [*]; done) | (simp [go_sem, *]; done)); have ci2_1 : w3.cell? ⟨w.heap.size + 1 + 1, 1, none⟩ = some (.int .i64 0) := (by rw [hcl _ _ (by first | omega | (simp; done) | (simp; omega))]; first | (go_simp; done) | (simp [*]; done) | (simp [go_sem, *]; done)); have fi2_1 : w3.frozen? ⟨w.heap.size + 1 + 1, 1, none⟩ = false := (by rw [hfz _ _ (by first | omega | (simp; done) | (simp; omega))]; first | (go_simp; done) | (simp [*]; done) | (simp [go_sem, *]; done)); have ri0 : rowAt w3 ⟨w.heap.size + 1, 0, none⟩ 37 = some (rcL r) := (by rw [rowAt_below hb3 (by first | omega | (simp; done) | (simp; omega))]; first | (go_simp; done) | (simp [*]; done) | (simp [go_sem, *]; done)); have HO3 := Aside0.mk (Kd.R_below (flat_put (flat_put HO2.out (by omega)) (by omega)) hb3); have HB3 := Aside0.mk (Below.trans (below_setCell (below_setCell HB2.out (by omega) _) (by omega) _) (hb3.mono (by simp; omega))); clear hb3 hcl hfz))
  refine bodyPost_ret (v := .tuple #[.agg #[.slice A2 l.length c2, .int .i64 nx], .bool false]) (by simp [results, Tryd.results27, go_sem, *]) rfl ⟨_, by rw [HP.out], ?_, ?_⟩
  · rw [HP.out]; exact Kd.R_lower (flat_put (flat_put (HO3.out) (by omega)) (by omega)) (by omega)
  · have hs3 := HB3.out.size; (repeat' (first | exact HB3.out | (with_reducible refine below_setCell ?_ ?_ _) | (with_reducible refine below_setRow ?_ ?_ _) | (with_reducible refine Below.alloc ?_ ?_ _) | (with_reducible refine below_drew ?_) | (with_reducible refine pw_below_drewN ?_ _) | (with_reducible exact Below.refl _ _) | omega | (simp; done) | (simp; omega)))
set_option linter.unusedVariables false in
set_option maxHeartbeats 8000000 in
set_option maxRecDepth 100000 in
theorem Step_skip1 (A : Option Addr) (c : Nat) (l : List Pt) (nx : Int) (r : Rc) (w : World) (hC : Kd.C kPt w A l.length l) (hc : l.length ≤ c) (hlen : l.length ≤ 64) (hid : r.id ≤ 2199023255552) (hid0 : -9223372036854775808 ≤ r.id) (hk : r.kind = 4) (h1 : ¬ r.id < nx) :
    Calls Tryd.prog 27 #[.agg #[.slice A l.length c, .int .i64 nx], .agg (rcL r).toArray] w fun e w' => ∃ v : Value, e = .returned (.tuple #[.agg #[v, .int .i64 (stepP ⟨l, nx⟩ r).1.next], .bool (stepP ⟨l, nx⟩ r).2]) ∧ Kd.R kPt 75 w' w.heap.size (fun _ => True) v (stepP ⟨l, nx⟩ r).1.parts ∧ Below w.heap.size w w' := by
  have HC := Aside0.mk hC
  clear hC
  have HP := Aside0.mk (show stepP ⟨l, nx⟩ r = (⟨l, r.id + 1⟩, true) by simp [stepP, *])
  have hw1 : IntKind.i64.wrap (r.id + 1) = r.id + 1 := IntWalk.i64_in _ (by omega)
  go_enter Tryd.func27, Tryd.ntmps27
  go_wp2_with (first | (go_at_call 79; refine (ownS_calls A c l nx _ (Kd.C_below HC.out ?_) hc (Nat.le_trans hlen (by decide))).mono ?_; (exact below_alloc (below_alloc (below_alloc (Below.refl _ _) _) _) _); rintro e w2 ⟨v, rfl, ho, hb2⟩; obtain ⟨A2, c2, rfl⟩ := Kd.R_slice ho; obtain ⟨hcl, hfz⟩ := bcell hb2; have z0 : ¬ (w.heap.size = w2.heap.size) := (by have h_ := hb2.size; simp at h_; omega); have y0 : w.heap.size < w2.heap.size := (by have h_ := hb2.size; simp at h_; omega); have c0_0 : w2.cell? ⟨w.heap.size, 0, none⟩ = some (.slice A l.length c) := (by rw [hcl _ _ (by first | omega | (simp; done) | (simp; omega))]; first | (go_simp; done) | (simp [*]; done) | (simp [go_sem, *]; done)); have f0_0 : w2.frozen? ⟨w.heap.size, 0, none⟩ = false := (by rw [hfz _ _ (by first | omega | (simp; done) | (simp; omega))]; first | (go_simp; done) | (simp [*]; done) | (simp [go_sem, *]; done)); have c0_1 : w2.cell? ⟨w.heap.size, 1, none⟩ = some (.int .i64 nx) := (by rw [hcl _ _ (by first | omega | (simp; done) | (simp; omega))]; first | (go_simp; done) | (simp [*]; done) | (simp [go_sem, *]; done)); have f0_1 : w2.frozen? ⟨w.heap.size, 1, none⟩ = false := (by rw [hfz _ _ (by first | omega | (simp; done) | (simp; omega))]; first | (go_simp; done) | (simp [*]; done) | (simp [go_sem, *]; done)); have z1 : ¬ (w.heap.size + 1 = w2.heap.size) := (by have h_ := hb2.size; simp at h_; omega); have y1 : w.heap.size + 1 < w2.heap.size := (by have h_ := hb2.size; simp at h_; omega); have c1_0 : w2.cell? ⟨w.heap.size + 1, 0, none⟩ = some (.int .u8 r.kind) := (by rw [hcl _ _ (by first | omega | (simp; done) | (simp; omega))]; first | (go_simp; done) | (simp [*]; done) | (simp [go_sem, *]; done)); have c1_1 : w2.cell? ⟨w.heap.size + 1, 1, none⟩ = some (.int .i64 r.id) := (by rw [hcl _ _ (by first | omega | (simp; done) | (simp; omega))]; first | (go_simp; done) | (simp [*]; done) | (simp [go_sem, *]; done)); have c1_36 : w2.cell? ⟨w.heap.size + 1, 36, none⟩ = some (.int .i64 r.off) := (by rw [hcl _ _ (by first | omega | (simp; done) | (simp; omega))]; first | (go_simp; done) | (simp [*]; done) | (simp [go_sem, *]; done)); have z2 : ¬ (w.heap.size + 1 + 1 = w2.heap.size) := (by have h_ := hb2.size; simp at h_; omega); have y2 : w.heap.size + 1 + 1 < w2.heap.size := (by have h_ := hb2.size; simp at h_; omega); have c2_0 : w2.cell? ⟨w.heap.size + 1 + 1, 0, none⟩ = some (.slice none 0 0) := (by rw [hcl _ _ (by first | omega | (simp; done) | (simp; omega))]; first | (go_simp; done) | (simp [*]; done) | (simp [go_sem, *]; done)); have f2_0 : w2.frozen? ⟨w.heap.size + 1 + 1, 0, none⟩ = false := (by rw [hfz _ _ (by first | omega | (simp; done) | (simp; omega))]; first | (go_simp; done) | (simp [*]; done) | (simp [go_sem, *]; done)); have c2_1 : w2.cell? ⟨w.heap.size + 1 + 1, 1, none⟩ = some (.int .i64 0) := (by rw [hcl _ _ (by first | omega | (simp; done) | (simp; omega))]; first | (go_simp; done) | (simp [*]; done) | (simp [go_sem, *]; done)); have f2_1 : w2.frozen? ⟨w.heap.size + 1 + 1, 1, none⟩ = false := (by rw [hfz _ _ (by first | omega | (simp; done) | (simp; omega))]; first | (go_simp; done) | (simp [*]; done) | (simp [go_sem, *]; done)); have r0 : rowAt w2 ⟨w.heap.size + 1, 0, none⟩ 37 = some (rcL r) := (by rw [rowAt_below hb2 (by first | omega | (simp; done) | (simp; omega))]; first | (go_simp; done) | (simp [*]; done) | (simp [go_sem, *]; done)); have HO2 := Aside0.mk (Kd.R_lower (base' := w.heap.size + 1 + 1 + 1) ho (by simp)); have HB2 := Aside0.mk (Below.trans (below_alloc (below_alloc (below_alloc (Below.refl w.heap.size w) _) _) _) (hb2.mono (by simp; omega))); clear hb2 hcl hfz ho) | (go_at_call 80; refine (idx_id A2 c2 l r.id _ _ (Kd.R_reads' (flat_put (flat_put HO2.out (by omega)) (by omega))).2.2 (Nat.le_trans hlen (by decide)) ?hc1).mono ?_; (case hc1 => first | (go_simp; done) | (simp [go_sem, *]; done)); rintro e w3 ⟨rfl, hb3⟩; obtain ⟨hcl, hfz⟩ := bcell hb3; have zi0 : ¬ (w.heap.size = w3.heap.size) := (by have h_ := hb3.size; simp at h_; omega); have yi0 : w.heap.size < w3.heap.size := (by have h_ := hb3.size; simp at h_; omega); have ci0_0 : w3.cell? ⟨w.heap.size, 0, none⟩ = some (.slice A2 l.length c2) := (by rw [hcl _ _ (by first | omega | (simp; done) | (simp; omega))]; first | (go_simp; done) | (simp [*]; done) | (simp [go_sem, *]; done)); have fi0_0 : w3.frozen? ⟨w.heap.size, 0, none⟩ = false := (by rw [hfz _ _ (by first | omega | (simp; done) | (simp; omega))]; first | (go_simp; done) | (simp [*]; done) | (simp [go_sem, *]; done)); have ci0_1 : w3.cell? ⟨w.heap.size, 1, none⟩ = some (.int .i64 nx) := (by rw [hcl _ _ (by first | omega | (simp; done) | (simp; omega))]; first | (go_simp; done) | (simp [*]; done) | (simp [go_sem, *]; done)); have fi0_1 : w3.frozen? ⟨w.heap.size, 1, none⟩ = false := (by rw [hfz _ _ (by first | omega | (simp; done) | (simp; omega))]; first | (go_simp; done) | (simp [*]; done) | (simp [go_sem, *]; done)); have zi1 : ¬ (w.heap.size + 1 = w3.heap.size) := (by have h_ := hb3.size; simp at h_; omega); have yi1 : w.heap.size + 1 < w3.heap.size := (by have h_ := hb3.size; simp at h_; omega); have ci1_0 : w3.cell? ⟨w.heap.size + 1, 0, none⟩ = some (.int .u8 r.kind) := (by rw [hcl _ _ (by first | omega | (simp; done) | (simp; omega))]; first | (go_simp; done) | (simp [*]; done) | (simp [go_sem, *]; done)); have ci1_1 : w3.cell? ⟨w.heap.size + 1, 1, none⟩ = some (.int .i64 r.id) := (by rw [hcl _ _ (by first | omega | (simp; done) | (simp; omega))]; first | (go_simp; done) | (simp [*]; done) | (simp [go_sem, *]; done)); have ci1_36 : w3.cell? ⟨w.heap.size + 1, 36, none⟩ = some (.int .i64 r.off) := (by rw [hcl _ _ (by first | omega | (simp; done) | (simp; omega))]; first | (go_simp; done) | (simp [*]; done) | (simp [go_sem, *]; done)); have zi2 : ¬ (w.heap.size + 1 + 1 = w3.heap.size) := (by have h_ := hb3.size; simp at h_; omega); have yi2 : w.heap.size + 1 + 1 < w3.heap.size := (by have h_ := hb3.size; simp at h_; omega); have ci2_0 : w3.cell? ⟨w.heap.size + 1 + 1, 0, none⟩ = some (.slice none 0 0) := (by rw [hcl _ _ (by first | omega | (simp; done) | (simp; omega))]; first | (go_simp; done) | (simp [*]; done) | (simp [go_sem, *]; done)); have fi2_0 : w3.frozen? ⟨w.heap.size + 1 + 1, 0, none⟩ = false := (by rw [hfz _ _ (by first | omega | (simp; done) | (simp; omega))]; first | (go_simp; done) | (simp [*]; done) | (simp [go_sem, *]; done)); have ci2_1 : w3.cell? ⟨w.heap.size + 1 + 1, 1, none⟩ = some (.int .i64 0) := (by rw [hcl _ _ (by first | omega | (simp; done) | (simp; omega))]; first | (go_simp; done) | (simp [*]; done) | (simp [go_sem, *]; done)); have fi2_1 : w3.frozen? ⟨w.heap.size + 1 + 1, 1, none⟩ = false := (by rw [hfz _ _ (by first | omega | (simp; done) | (simp; omega))]; first | (go_simp; done) | (simp [*]; done) | (simp [go_sem, *]; done)); have ri0 : rowAt w3 ⟨w.heap.size + 1, 0, none⟩ 37 = some (rcL r) := (by rw [rowAt_below hb3 (by first | omega | (simp; done) | (simp; omega))]; first | (go_simp; done) | (simp [*]; done) | (simp [go_sem, *]; done)); have HO3 := Aside0.mk (Kd.R_below (flat_put (flat_put HO2.out (by omega)) (by omega)) hb3); have HB3 := Aside0.mk (Below.trans (below_setCell (below_setCell HB2.out (by omega) _) (by omega) _) (hb3.mono (by simp; omega))); clear hb3 hcl hfz))
  refine bodyPost_ret (v := .tuple #[.agg #[.slice A2 l.length c2, .int .i64 (r.id + 1)], .bool true]) (by simp [results, Tryd.results27, go_sem, *]) rfl ⟨_, by rw [HP.out], ?_, ?_⟩
  · rw [HP.out]; exact Kd.R_lower (flat_put (flat_put (flat_put (HO3.out) (by omega)) (by omega)) (by omega)) (by omega)
  · have hs3 := HB3.out.size; (repeat' (first | exact HB3.out | (with_reducible refine below_setCell ?_ ?_ _) | (with_reducible refine below_setRow ?_ ?_ _) | (with_reducible refine Below.alloc ?_ ?_ _) | (with_reducible refine below_drew ?_) | (with_reducible refine pw_below_drewN ?_ _) | (with_reducible exact Below.refl _ _) | omega | (simp; done) | (simp; omega)))
set_option linter.unusedVariables false in
set_option maxHeartbeats 8000000 in
set_option maxRecDepth 100000 in
theorem Step_del0 (A : Option Addr) (c : Nat) (l : List Pt) (nx : Int) (r : Rc) (w : World) (hC : Kd.C kPt w A l.length l) (hc : l.length ≤ c) (hlen : l.length ≤ 64) (hid : r.id ≤ 2199023255552) (hid0 : -9223372036854775808 ≤ r.id) (hk : r.kind = 2 ∨ r.kind = 3) (hn : l.findIdx? (fun x => decide (x.id = r.id)) = none) :
    Calls Tryd.prog 27 #[.agg #[.slice A l.length c, .int .i64 nx], .agg (rcL r).toArray] w fun e w' => ∃ v : Value, e = .returned (.tuple #[.agg #[v, .int .i64 (stepP ⟨l, nx⟩ r).1.next], .bool (stepP ⟨l, nx⟩ r).2]) ∧ Kd.R kPt 75 w' w.heap.size (fun _ => True) v (stepP ⟨l, nx⟩ r).1.parts ∧ Below w.heap.size w w' := by
  have HC := Aside0.mk hC
  clear hC
  have hi := show fstI (fun x : Pt => decide (x.id = r.id)) l = -1 by unfold fstI; rw [hn]
  have HI := Aside0.mk hi
  have HP := Aside0.mk (show stepP ⟨l, nx⟩ r = (⟨l, nx⟩, false) by rcases hk with hk | hk <;> simp [stepP, hk, hn])
  clear hi hn
  rcases hk with hk | hk
  all_goals
    go_enter Tryd.func27, Tryd.ntmps27
    go_wp2_with (first | (go_at_call 79; refine (ownS_calls A c l nx _ (Kd.C_below HC.out ?_) hc (Nat.le_trans hlen (by decide))).mono ?_; (exact below_alloc (below_alloc (below_alloc (Below.refl _ _) _) _) _); rintro e w2 ⟨v, rfl, ho, hb2⟩; obtain ⟨A2, c2, rfl⟩ := Kd.R_slice ho; obtain ⟨hcl, hfz⟩ := bcell hb2; have z0 : ¬ (w.heap.size = w2.heap.size) := (by have h_ := hb2.size; simp at h_; omega); have y0 : w.heap.size < w2.heap.size := (by have h_ := hb2.size; simp at h_; omega); have c0_0 : w2.cell? ⟨w.heap.size, 0, none⟩ = some (.slice A l.length c) := (by rw [hcl _ _ (by first | omega | (simp; done) | (simp; omega))]; first | (go_simp; done) | (simp [*]; done) | (simp [go_sem, *]; done)); have f0_0 : w2.frozen? ⟨w.heap.size, 0, none⟩ = false := (by rw [hfz _ _ (by first | omega | (simp; done) | (simp; omega))]; first | (go_simp; done) | (simp [*]; done) | (simp [go_sem, *]; done)); have c0_1 : w2.cell? ⟨w.heap.size, 1, none⟩ = some (.int .i64 nx) := (by rw [hcl _ _ (by first | omega | (simp; done) | (simp; omega))]; first | (go_simp; done) | (simp [*]; done) | (simp [go_sem, *]; done)); have f0_1 : w2.frozen? ⟨w.heap.size, 1, none⟩ = false := (by rw [hfz _ _ (by first | omega | (simp; done) | (simp; omega))]; first | (go_simp; done) | (simp [*]; done) | (simp [go_sem, *]; done)); have z1 : ¬ (w.heap.size + 1 = w2.heap.size) := (by have h_ := hb2.size; simp at h_; omega); have y1 : w.heap.size + 1 < w2.heap.size := (by have h_ := hb2.size; simp at h_; omega); have c1_0 : w2.cell? ⟨w.heap.size + 1, 0, none⟩ = some (.int .u8 r.kind) := (by rw [hcl _ _ (by first | omega | (simp; done) | (simp; omega))]; first | (go_simp; done) | (simp [*]; done) | (simp [go_sem, *]; done)); have c1_1 : w2.cell? ⟨w.heap.size + 1, 1, none⟩ = some (.int .i64 r.id) := (by rw [hcl _ _ (by first | omega | (simp; done) | (simp; omega))]; first | (go_simp; done) | (simp [*]; done) | (simp [go_sem, *]; done)); have c1_36 : w2.cell? ⟨w.heap.size + 1, 36, none⟩ = some (.int .i64 r.off) := (by rw [hcl _ _ (by first | omega | (simp; done) | (simp; omega))]; first | (go_simp; done) | (simp [*]; done) | (simp [go_sem, *]; done)); have z2 : ¬ (w.heap.size + 1 + 1 = w2.heap.size) := (by have h_ := hb2.size; simp at h_; omega); have y2 : w.heap.size + 1 + 1 < w2.heap.size := (by have h_ := hb2.size; simp at h_; omega); have c2_0 : w2.cell? ⟨w.heap.size + 1 + 1, 0, none⟩ = some (.slice none 0 0) := (by rw [hcl _ _ (by first | omega | (simp; done) | (simp; omega))]; first | (go_simp; done) | (simp [*]; done) | (simp [go_sem, *]; done)); have f2_0 : w2.frozen? ⟨w.heap.size + 1 + 1, 0, none⟩ = false := (by rw [hfz _ _ (by first | omega | (simp; done) | (simp; omega))]; first | (go_simp; done) | (simp [*]; done) | (simp [go_sem, *]; done)); have c2_1 : w2.cell? ⟨w.heap.size + 1 + 1, 1, none⟩ = some (.int .i64 0) := (by rw [hcl _ _ (by first | omega | (simp; done) | (simp; omega))]; first | (go_simp; done) | (simp [*]; done) | (simp [go_sem, *]; done)); have f2_1 : w2.frozen? ⟨w.heap.size + 1 + 1, 1, none⟩ = false := (by rw [hfz _ _ (by first | omega | (simp; done) | (simp; omega))]; first | (go_simp; done) | (simp [*]; done) | (simp [go_sem, *]; done)); have r0 : rowAt w2 ⟨w.heap.size + 1, 0, none⟩ 37 = some (rcL r) := (by rw [rowAt_below hb2 (by first | omega | (simp; done) | (simp; omega))]; first | (go_simp; done) | (simp [*]; done) | (simp [go_sem, *]; done)); have HO2 := Aside0.mk (Kd.R_lower (base' := w.heap.size + 1 + 1 + 1) ho (by simp)); have HB2 := Aside0.mk (Below.trans (below_alloc (below_alloc (below_alloc (Below.refl w.heap.size w) _) _) _) (hb2.mono (by simp; omega))); clear hb2 hcl hfz ho) | (go_at_call 80; refine (idx_id A2 c2 l r.id _ _ (Kd.R_reads' (flat_put (flat_put HO2.out (by omega)) (by omega))).2.2 (Nat.le_trans hlen (by decide)) ?hc1).mono ?_; (case hc1 => first | (go_simp; done) | (simp [go_sem, *]; done)); rintro e w3 ⟨rfl, hb3⟩; obtain ⟨hcl, hfz⟩ := bcell hb3; have zi0 : ¬ (w.heap.size = w3.heap.size) := (by have h_ := hb3.size; simp at h_; omega); have yi0 : w.heap.size < w3.heap.size := (by have h_ := hb3.size; simp at h_; omega); have ci0_0 : w3.cell? ⟨w.heap.size, 0, none⟩ = some (.slice A2 l.length c2) := (by rw [hcl _ _ (by first | omega | (simp; done) | (simp; omega))]; first | (go_simp; done) | (simp [*]; done) | (simp [go_sem, *]; done)); have fi0_0 : w3.frozen? ⟨w.heap.size, 0, none⟩ = false := (by rw [hfz _ _ (by first | omega | (simp; done) | (simp; omega))]; first | (go_simp; done) | (simp [*]; done) | (simp [go_sem, *]; done)); have ci0_1 : w3.cell? ⟨w.heap.size, 1, none⟩ = some (.int .i64 nx) := (by rw [hcl _ _ (by first | omega | (simp; done) | (simp; omega))]; first | (go_simp; done) | (simp [*]; done) | (simp [go_sem, *]; done)); have fi0_1 : w3.frozen? ⟨w.heap.size, 1, none⟩ = false := (by rw [hfz _ _ (by first | omega | (simp; done) | (simp; omega))]; first | (go_simp; done) | (simp [*]; done) | (simp [go_sem, *]; done)); have zi1 : ¬ (w.heap.size + 1 = w3.heap.size) := (by have h_ := hb3.size; simp at h_; omega); have yi1 : w.heap.size + 1 < w3.heap.size := (by have h_ := hb3.size; simp at h_; omega); have ci1_0 : w3.cell? ⟨w.heap.size + 1, 0, none⟩ = some (.int .u8 r.kind) := (by rw [hcl _ _ (by first | omega | (simp; done) | (simp; omega))]; first | (go_simp; done) | (simp [*]; done) | (simp [go_sem, *]; done)); have ci1_1 : w3.cell? ⟨w.heap.size + 1, 1, none⟩ = some (.int .i64 r.id) := (by rw [hcl _ _ (by first | omega | (simp; done) | (simp; omega))]; first | (go_simp; done) | (simp [*]; done) | (simp [go_sem, *]; done)); have ci1_36 : w3.cell? ⟨w.heap.size + 1, 36, none⟩ = some (.int .i64 r.off) := (by rw [hcl _ _ (by first | omega | (simp; done) | (simp; omega))]; first | (go_simp; done) | (simp [*]; done) | (simp [go_sem, *]; done)); have zi2 : ¬ (w.heap.size + 1 + 1 = w3.heap.size) := (by have h_ := hb3.size; simp at h_; omega); have yi2 : w.heap.size + 1 + 1 < w3.heap.size := (by have h_ := hb3.size; simp at h_; omega); have ci2_0 : w3.cell? ⟨w.heap.size + 1 + 1, 0, none⟩ = some (.slice none 0 0) := (by rw [hcl _ _ (by first | omega | (simp; done) | (simp; omega))]; first | (go_simp; done) | (simp [*]; done) | (simp [go_sem, *]; done)); have fi2_0 : w3.frozen? ⟨w.heap.size + 1 + 1, 0, none⟩ = false := (by rw [hfz _ _ (by first | omega | (simp; done) | (simp; omega))]; first | (go_simp; done) | (simp [*]; done) | (simp [go_sem, *]; done)); have ci2_1 : w3.cell? ⟨w.heap.size + 1 + 1, 1, none⟩ = some (.int .i64 0) := (by rw [hcl _ _ (by first | omega | (simp; done) | (simp; omega))]; first | (go_simp; done) | (simp [*]; done) | (simp [go_sem, *]; done)); have fi2_1 : w3.frozen? ⟨w.heap.size + 1 + 1, 1, none⟩ = false := (by rw [hfz _ _ (by first | omega | (simp; done) | (simp; omega))]; first | (go_simp; done) | (simp [*]; done) | (simp [go_sem, *]; done)); have ri0 : rowAt w3 ⟨w.heap.size + 1, 0, none⟩ 37 = some (rcL r) := (by rw [rowAt_below hb3 (by first | omega | (simp; done) | (simp; omega))]; first | (go_simp; done) | (simp [*]; done) | (simp [go_sem, *]; done)); have HO3 := Aside0.mk (Kd.R_below (flat_put (flat_put HO2.out (by omega)) (by omega)) hb3); have HB3 := Aside0.mk (Below.trans (below_setCell (below_setCell HB2.out (by omega) _) (by omega) _) (hb3.mono (by simp; omega))); clear hb3 hcl hfz; rw [HI.out]))
    refine bodyPost_ret (v := .tuple #[.agg #[.slice A2 l.length c2, .int .i64 nx], .bool false]) (by simp [results, Tryd.results27, go_sem, *]) rfl ⟨_, by rw [HP.out], ?_, ?_⟩
    · rw [HP.out]; exact Kd.R_lower (flat_put (flat_put (HO3.out) (by omega)) (by omega)) (by omega)
    · have hs3 := HB3.out.size; (repeat' (first | exact HB3.out | (with_reducible refine below_setCell ?_ ?_ _) | (with_reducible refine below_setRow ?_ ?_ _) | (with_reducible refine Below.alloc ?_ ?_ _) | (with_reducible refine below_drew ?_) | (with_reducible refine pw_below_drewN ?_ _) | (with_reducible exact Below.refl _ _) | omega | (simp; done) | (simp; omega)))
  
set_option linter.unusedVariables false in
set_option maxHeartbeats 8000000 in
set_option maxRecDepth 100000 in
theorem Step_del1 (A : Option Addr) (c : Nat) (l : List Pt) (nx : Int) (r : Rc) (w : World) (hC : Kd.C kPt w A l.length l) (hc : l.length ≤ c) (hlen : l.length ≤ 64) (hid : r.id ≤ 2199023255552) (hid0 : -9223372036854775808 ≤ r.id) (i : Nat) (hk : r.kind = 2 ∨ r.kind = 3) (hn : l.findIdx? (fun x => decide (x.id = r.id)) = some i) :
    Calls Tryd.prog 27 #[.agg #[.slice A l.length c, .int .i64 nx], .agg (rcL r).toArray] w fun e w' => ∃ v : Value, e = .returned (.tuple #[.agg #[v, .int .i64 (stepP ⟨l, nx⟩ r).1.next], .bool (stepP ⟨l, nx⟩ r).2]) ∧ Kd.R kPt 75 w' w.heap.size (fun _ => True) v (stepP ⟨l, nx⟩ r).1.parts ∧ Below w.heap.size w w' := by
  have HC := Aside0.mk hC
  clear hC
  obtain ⟨hil, hid2, hid3⟩ := List.findIdx?_eq_some_iff_getElem.1 hn
  clear hid3
  have hi := show fstI (fun x : Pt => decide (x.id = r.id)) l = (i : Int) by unfold fstI; rw [hn]
  have HI := Aside0.mk hi
  have HIL := Aside0.mk hil
  have HP := Aside0.mk (show stepP ⟨l, nx⟩ r = (⟨l.eraseIdx i, nx⟩, true) by rcases hk with hk | hk <;> simp [stepP, hk, hn])
  have hw1 : IntKind.i64.wrap ((i : Int) + 1) = (i : Int) + 1 := IntWalk.i64_in _ (by omega)
  clear hi hn hil hid2
  rcases hk with hk | hk
  all_goals
    go_enter Tryd.func27, Tryd.ntmps27
    go_wp2_with (first | (go_at_call 79; refine (ownS_calls A c l nx _ (Kd.C_below HC.out ?_) hc (Nat.le_trans hlen (by decide))).mono ?_; (exact below_alloc (below_alloc (below_alloc (Below.refl _ _) _) _) _); rintro e w2 ⟨v, rfl, ho, hb2⟩; obtain ⟨A2, c2, rfl⟩ := Kd.R_slice ho; obtain ⟨hcl, hfz⟩ := bcell hb2; have z0 : ¬ (w.heap.size = w2.heap.size) := (by have h_ := hb2.size; simp at h_; omega); have y0 : w.heap.size < w2.heap.size := (by have h_ := hb2.size; simp at h_; omega); have c0_0 : w2.cell? ⟨w.heap.size, 0, none⟩ = some (.slice A l.length c) := (by rw [hcl _ _ (by first | omega | (simp; done) | (simp; omega))]; first | (go_simp; done) | (simp [*]; done) | (simp [go_sem, *]; done)); have f0_0 : w2.frozen? ⟨w.heap.size, 0, none⟩ = false := (by rw [hfz _ _ (by first | omega | (simp; done) | (simp; omega))]; first | (go_simp; done) | (simp [*]; done) | (simp [go_sem, *]; done)); have c0_1 : w2.cell? ⟨w.heap.size, 1, none⟩ = some (.int .i64 nx) := (by rw [hcl _ _ (by first | omega | (simp; done) | (simp; omega))]; first | (go_simp; done) | (simp [*]; done) | (simp [go_sem, *]; done)); have f0_1 : w2.frozen? ⟨w.heap.size, 1, none⟩ = false := (by rw [hfz _ _ (by first | omega | (simp; done) | (simp; omega))]; first | (go_simp; done) | (simp [*]; done) | (simp [go_sem, *]; done)); have z1 : ¬ (w.heap.size + 1 = w2.heap.size) := (by have h_ := hb2.size; simp at h_; omega); have y1 : w.heap.size + 1 < w2.heap.size := (by have h_ := hb2.size; simp at h_; omega); have c1_0 : w2.cell? ⟨w.heap.size + 1, 0, none⟩ = some (.int .u8 r.kind) := (by rw [hcl _ _ (by first | omega | (simp; done) | (simp; omega))]; first | (go_simp; done) | (simp [*]; done) | (simp [go_sem, *]; done)); have c1_1 : w2.cell? ⟨w.heap.size + 1, 1, none⟩ = some (.int .i64 r.id) := (by rw [hcl _ _ (by first | omega | (simp; done) | (simp; omega))]; first | (go_simp; done) | (simp [*]; done) | (simp [go_sem, *]; done)); have c1_36 : w2.cell? ⟨w.heap.size + 1, 36, none⟩ = some (.int .i64 r.off) := (by rw [hcl _ _ (by first | omega | (simp; done) | (simp; omega))]; first | (go_simp; done) | (simp [*]; done) | (simp [go_sem, *]; done)); have z2 : ¬ (w.heap.size + 1 + 1 = w2.heap.size) := (by have h_ := hb2.size; simp at h_; omega); have y2 : w.heap.size + 1 + 1 < w2.heap.size := (by have h_ := hb2.size; simp at h_; omega); have c2_0 : w2.cell? ⟨w.heap.size + 1 + 1, 0, none⟩ = some (.slice none 0 0) := (by rw [hcl _ _ (by first | omega | (simp; done) | (simp; omega))]; first | (go_simp; done) | (simp [*]; done) | (simp [go_sem, *]; done)); have f2_0 : w2.frozen? ⟨w.heap.size + 1 + 1, 0, none⟩ = false := (by rw [hfz _ _ (by first | omega | (simp; done) | (simp; omega))]; first | (go_simp; done) | (simp [*]; done) | (simp [go_sem, *]; done)); have c2_1 : w2.cell? ⟨w.heap.size + 1 + 1, 1, none⟩ = some (.int .i64 0) := (by rw [hcl _ _ (by first | omega | (simp; done) | (simp; omega))]; first | (go_simp; done) | (simp [*]; done) | (simp [go_sem, *]; done)); have f2_1 : w2.frozen? ⟨w.heap.size + 1 + 1, 1, none⟩ = false := (by rw [hfz _ _ (by first | omega | (simp; done) | (simp; omega))]; first | (go_simp; done) | (simp [*]; done) | (simp [go_sem, *]; done)); have r0 : rowAt w2 ⟨w.heap.size + 1, 0, none⟩ 37 = some (rcL r) := (by rw [rowAt_below hb2 (by first | omega | (simp; done) | (simp; omega))]; first | (go_simp; done) | (simp [*]; done) | (simp [go_sem, *]; done)); have HO2 := Aside0.mk (Kd.R_lower (base' := w.heap.size + 1 + 1 + 1) ho (by simp)); have HB2 := Aside0.mk (Below.trans (below_alloc (below_alloc (below_alloc (Below.refl w.heap.size w) _) _) _) (hb2.mono (by simp; omega))); clear hb2 hcl hfz ho) | (go_at_call 80; refine (idx_id A2 c2 l r.id _ _ (Kd.R_reads' (flat_put (flat_put HO2.out (by omega)) (by omega))).2.2 (Nat.le_trans hlen (by decide)) ?hc1).mono ?_; (case hc1 => first | (go_simp; done) | (simp [go_sem, *]; done)); rintro e w3 ⟨rfl, hb3⟩; obtain ⟨hcl, hfz⟩ := bcell hb3; have zi0 : ¬ (w.heap.size = w3.heap.size) := (by have h_ := hb3.size; simp at h_; omega); have yi0 : w.heap.size < w3.heap.size := (by have h_ := hb3.size; simp at h_; omega); have ci0_0 : w3.cell? ⟨w.heap.size, 0, none⟩ = some (.slice A2 l.length c2) := (by rw [hcl _ _ (by first | omega | (simp; done) | (simp; omega))]; first | (go_simp; done) | (simp [*]; done) | (simp [go_sem, *]; done)); have fi0_0 : w3.frozen? ⟨w.heap.size, 0, none⟩ = false := (by rw [hfz _ _ (by first | omega | (simp; done) | (simp; omega))]; first | (go_simp; done) | (simp [*]; done) | (simp [go_sem, *]; done)); have ci0_1 : w3.cell? ⟨w.heap.size, 1, none⟩ = some (.int .i64 nx) := (by rw [hcl _ _ (by first | omega | (simp; done) | (simp; omega))]; first | (go_simp; done) | (simp [*]; done) | (simp [go_sem, *]; done)); have fi0_1 : w3.frozen? ⟨w.heap.size, 1, none⟩ = false := (by rw [hfz _ _ (by first | omega | (simp; done) | (simp; omega))]; first | (go_simp; done) | (simp [*]; done) | (simp [go_sem, *]; done)); have zi1 : ¬ (w.heap.size + 1 = w3.heap.size) := (by have h_ := hb3.size; simp at h_; omega); have yi1 : w.heap.size + 1 < w3.heap.size := (by have h_ := hb3.size; simp at h_; omega); have ci1_0 : w3.cell? ⟨w.heap.size + 1, 0, none⟩ = some (.int .u8 r.kind) := (by rw [hcl _ _ (by first | omega | (simp; done) | (simp; omega))]; first | (go_simp; done) | (simp [*]; done) | (simp [go_sem, *]; done)); have ci1_1 : w3.cell? ⟨w.heap.size + 1, 1, none⟩ = some (.int .i64 r.id) := (by rw [hcl _ _ (by first | omega | (simp; done) | (simp; omega))]; first | (go_simp; done) | (simp [*]; done) | (simp [go_sem, *]; done)); have ci1_36 : w3.cell? ⟨w.heap.size + 1, 36, none⟩ = some (.int .i64 r.off) := (by rw [hcl _ _ (by first | omega | (simp; done) | (simp; omega))]; first | (go_simp; done) | (simp [*]; done) | (simp [go_sem, *]; done)); have zi2 : ¬ (w.heap.size + 1 + 1 = w3.heap.size) := (by have h_ := hb3.size; simp at h_; omega); have yi2 : w.heap.size + 1 + 1 < w3.heap.size := (by have h_ := hb3.size; simp at h_; omega); have ci2_0 : w3.cell? ⟨w.heap.size + 1 + 1, 0, none⟩ = some (.slice none 0 0) := (by rw [hcl _ _ (by first | omega | (simp; done) | (simp; omega))]; first | (go_simp; done) | (simp [*]; done) | (simp [go_sem, *]; done)); have fi2_0 : w3.frozen? ⟨w.heap.size + 1 + 1, 0, none⟩ = false := (by rw [hfz _ _ (by first | omega | (simp; done) | (simp; omega))]; first | (go_simp; done) | (simp [*]; done) | (simp [go_sem, *]; done)); have ci2_1 : w3.cell? ⟨w.heap.size + 1 + 1, 1, none⟩ = some (.int .i64 0) := (by rw [hcl _ _ (by first | omega | (simp; done) | (simp; omega))]; first | (go_simp; done) | (simp [*]; done) | (simp [go_sem, *]; done)); have fi2_1 : w3.frozen? ⟨w.heap.size + 1 + 1, 1, none⟩ = false := (by rw [hfz _ _ (by first | omega | (simp; done) | (simp; omega))]; first | (go_simp; done) | (simp [*]; done) | (simp [go_sem, *]; done)); have ri0 : rowAt w3 ⟨w.heap.size + 1, 0, none⟩ 37 = some (rcL r) := (by rw [rowAt_below hb3 (by first | omega | (simp; done) | (simp; omega))]; first | (go_simp; done) | (simp [*]; done) | (simp [go_sem, *]; done)); have HO3 := Aside0.mk (Kd.R_below (flat_put (flat_put HO2.out (by omega)) (by omega)) hb3); have HB3 := Aside0.mk (Below.trans (below_setCell (below_setCell HB2.out (by omega) _) (by omega) _) (hb3.mono (by simp; omega))); clear hb3 hcl hfz; rw [HI.out]; obtain ⟨g, rfl, hg1, hg2⟩ := R_some HO3.out (Nat.lt_of_le_of_lt (Nat.zero_le _) HIL.out); have HG := Aside0.mk (And.intro hg1 hg2); clear hg1 hg2) | (go_at_call 83; refine (Delete_at g c2 i (w.heap.size + 1 + 1 + 1) _ l w3 HO3.out HIL.out (Nat.le_trans hlen (by decide)) (by have := HG.out.2; omega)).mono ?_; rintro e w4 ⟨rfl, ho4, hon⟩; have hb4 := hon.below HG.out.1 (by have := HG.out.2; omega); have hcl : ∀ b o, b < w.heap.size + 1 + 1 + 1 → w4.cell? ⟨b, o, none⟩ = w3.cell? ⟨b, o, none⟩ := fun b o h => hb4.cell (p := ⟨b, o, none⟩) h; have hfz : ∀ b o, b < w.heap.size + 1 + 1 + 1 → w4.frozen? ⟨b, o, none⟩ = w3.frozen? ⟨b, o, none⟩ := fun b o h => hb4.frozen (p := ⟨b, o, none⟩) h; have cd0_0 : w4.cell? ⟨w.heap.size, 0, none⟩ = some (.slice (some ⟨g, 0, none⟩) l.length c2) := (by rw [hcl _ _ (by first | omega | (simp; done) | (simp; omega))]; first | (go_simp; done) | (simp [*]; done) | (simp [go_sem, *]; done)); have fd0_0 : w4.frozen? ⟨w.heap.size, 0, none⟩ = false := (by rw [hfz _ _ (by first | omega | (simp; done) | (simp; omega))]; first | (go_simp; done) | (simp [*]; done) | (simp [go_sem, *]; done)); have cd0_1 : w4.cell? ⟨w.heap.size, 1, none⟩ = some (.int .i64 nx) := (by rw [hcl _ _ (by first | omega | (simp; done) | (simp; omega))]; first | (go_simp; done) | (simp [*]; done) | (simp [go_sem, *]; done)); have fd0_1 : w4.frozen? ⟨w.heap.size, 1, none⟩ = false := (by rw [hfz _ _ (by first | omega | (simp; done) | (simp; omega))]; first | (go_simp; done) | (simp [*]; done) | (simp [go_sem, *]; done)); have cd1_0 : w4.cell? ⟨w.heap.size + 1 + 1, 0, none⟩ = some (.slice none 0 0) := (by rw [hcl _ _ (by first | omega | (simp; done) | (simp; omega))]; first | (go_simp; done) | (simp [*]; done) | (simp [go_sem, *]; done)); have fd1_0 : w4.frozen? ⟨w.heap.size + 1 + 1, 0, none⟩ = false := (by rw [hfz _ _ (by first | omega | (simp; done) | (simp; omega))]; first | (go_simp; done) | (simp [*]; done) | (simp [go_sem, *]; done)); have cd1_1 : w4.cell? ⟨w.heap.size + 1 + 1, 1, none⟩ = some (.int .i64 0) := (by rw [hcl _ _ (by first | omega | (simp; done) | (simp; omega))]; first | (go_simp; done) | (simp [*]; done) | (simp [go_sem, *]; done)); have fd1_1 : w4.frozen? ⟨w.heap.size + 1 + 1, 1, none⟩ = false := (by rw [hfz _ _ (by first | omega | (simp; done) | (simp; omega))]; first | (go_simp; done) | (simp [*]; done) | (simp [go_sem, *]; done)); have HO4 := Aside0.mk ho4; have HB4 := Aside0.mk (HB3.out.trans (hb4.mono (by omega))); have HS4 := Aside0.mk hon.size; clear ho4 hon hb4 hcl hfz))
    refine bodyPost_ret (v := .tuple #[.agg #[.slice (some ⟨g, 0, none⟩) (l.length - 1) c2, .int .i64 nx], .bool true]) (by simp [results, Tryd.results27, go_sem, *]) rfl ⟨_, by rw [HP.out], ?_, ?_⟩
    · rw [HP.out]; exact Kd.R_lower (flat_put (flat_put (flat_put (HO4.out) (by omega)) (by omega)) (by omega)) (by omega)
    · have hs4 := HS4.out; have hs3 := HG.out.2; (repeat' (first | exact HB4.out | (with_reducible refine below_setCell ?_ ?_ _) | (with_reducible refine below_setRow ?_ ?_ _) | (with_reducible refine Below.alloc ?_ ?_ _) | (with_reducible refine below_drew ?_) | (with_reducible refine pw_below_drewN ?_ _) | (with_reducible exact Below.refl _ _) | omega | (simp; done) | (simp; omega)))
end Go.Proofs.YtiohgpcbdefokaaDoor.B
/- Laws for regions that draw their order and only read: one operation after the other, with the rest kept shut. No condition. -/
namespace Go.Proofs.YtiohgpcbdefokaaDoor.B
open Go.RowKit
theorem wpStill_plain {P : Program} {ops : Array Oper} {w : World} {Q : Act → Prop} {a : Act} {o : Oper} {rest : List Oper} (hg : o.guard = none)
    (h : ∀ K : Act → Prop, Hid (K = wpStill P ops w Q rest) → o.still P a w K) : wpStill P ops w Q (o :: rest) a := by
  show if _ then _ else _
  rw [if_pos (by simp [Region.wanted, hg])]; exact h _ rfl
theorem wpStill_held {P : Program} {ops : Array Oper} {w : World} {Q : Act → Prop} {a : Act} {o : Oper} {rest : List Oper} (hg : Region.wanted o (yielded ops a.tmps) = true)
    (h : ∀ K : Act → Prop, Hid (K = wpStill P ops w Q rest) → o.still P a w K) : wpStill P ops w Q (o :: rest) a := by
  show if _ then _ else _
  rw [if_pos hg]; exact h _ rfl
theorem wpStill_skip {P : Program} {ops : Array Oper} {w : World} {Q : Act → Prop} {a : Act} {o : Oper} {rest : List Oper} (hg : Region.wanted o (yielded ops a.tmps) = false)
    (h : ∀ K : Act → Prop, Hid (K = wpStill P ops w Q rest) → K (a.put o.dst undef)) : wpStill P ops w Q (o :: rest) a := by
  show if _ then _ else _
  rw [if_neg (by rw [hg]; decide)]; exact h _ rfl
theorem still_back {K F : Act → Prop} {a : Act} (h : Hid (K = F)) (hf : F a) : K a := by rw [show K = F from h]; exact hf
end Go.Proofs.YtiohgpcbdefokaaDoor.B
/- record.Step at a mark. No condition. -/
namespace Go.Proofs.YtiohgpcbdefokaaDoor.B
open Go.RowKit Go.Proofs.YtiohgpcbdefokaaDoorW.PrintWords Go.Proofs.YtiohgpcbdefokaaDoor.RowLaws
attribute [local go_sem ↓ high] lvO_hs ldO_hs stO_hs lvO_pt ldO_pt stO_pt zero_pt eqA_pt lvO_ptR ldO_ptR stO_ptR zero_ptR eqA_ptR lvO_rc ldO_rc stO_rc zero_rc eqA_rc lvO_rcR ldO_rcR stO_rcR zero_rcR eqA_rcR lvO_tk ldO_tk stO_tk zero_tk eqA_tk lvO_tkR ldO_tkR stO_tkR zero_tkR eqA_tkR lvO_it ldO_it stO_it zero_it eqA_it blO_pt blO_ptR blO_rc blO_rcR blO_tk blO_tkR blO_it bsO_pt bsO_ptR bsO_rc bsO_rcR bsO_it
attribute [local go_sem high] rowAt_setCell rowAt_setRow cell_setRow_ne isRow_setRow_ne rowAt_alloc rowAt_drew isRow_alloc isRow_drew isRow_setCell rowRun_some okL_hs ldV_hs ldA_hs stA_hs setRow_alloc get_pt_id get_pt_path cut_pt_sum get_pt_size get_pt_off cut_pt okL_pt size_pt lenb_pt eta_pt ldV_pt ldA_pt stA_pt ldV_ptR ldA_ptR stA_ptR get_rc_kind get_rc_id get_rc_path cut_rc_sum get_rc_size get_rc_off cut_rc okL_rc size_rc lenb_rc eta_rc ldV_rc ldA_rc stA_rc ldV_rcR ldA_rcR stA_rcR get_tk_path cut_tk_sum get_tk_size get_tk_off cut_tk_old cut_tk okL_tk size_tk lenb_tk eta_tk ldV_tk ldA_tk stA_tk ldV_tkR ldA_tkR stA_tkR get_it_path get_it_dir get_it_size cut_it_sum cut_it okL_it size_it lenb_it eta_it ldV_it ldA_it stA_it bld_pt_01234 bld_pt_0123 bld_pt_z bld_ptR_01234 bld_ptR_0123 bld_ptR_z bld_rc_012345 bld_rc_015 bld_rc_01 bld_rc_z bld_rc_01234 bld_rc_24 bld_rc_05 bld_rc_0 bld_rcR_012345 bld_rcR_015 bld_rcR_01 bld_rcR_z bld_rcR_01234 bld_rcR_24 bld_rcR_05 bld_rcR_0 bld_tk_01234 bld_tk_0 bld_tk_z bld_tkR_01234 bld_tkR_0 bld_tkR_z bld_it_0123 bld_it_023 bld_it_01 bld_it_0 bld_it_z bs0_pt bs1_pt bs0_ptR bs1_ptR bs0_rc bs1_rc bs0_rcR bs1_rcR bs0_it bs1_it
attribute [local irreducible] wpStill
theorem part_off {e : Nat} {W : World} {B c i g n : Nat} {ok : Nat → Prop} {l : List Pt} {p : Pt} (h : Kd.R kPt e W B ok (.slice (some ⟨g, 0, none⟩) n c) l) (hx : l[i]? = some p) (x : Int) :
    Kd.R kPt e (W.setCell ⟨g, i * 36 + 35, none⟩ (.int .i64 x)) B ok (.slice (some ⟨g, 0, none⟩) n c) (l.set i { p with off := x }) := by
  have hi := List.getElem?_eq_some_iff.1 hx
  obtain rfl := (Kd.R_reads' h).1
  have hil := hi.1
  obtain ⟨b, o, hA, _, hr⟩ := flat_at (Kd.R_reads' h).2.2 (by decide) (Nat.lt_of_le_of_lt (Nat.zero_le _) hil)
  injection hA with hA
  injection hA with hb ho
  subst hb ho
  have h2 := (hr i hi.1).2
  rw [hi.2] at h2
  have := Kd.R_seg (okp := fun k => ok k ∧ k ≠ g) (x' := { p with off := x }) h (i : Int) (by omega) (by omega) (c := ptL p) (seg := [.int .i64 x]) (j := 35) (ptL_len p) (fun j u hu => by have := h2 j u hu; rw [Nat.zero_add] at this; exact this) (show 35 + 1 ≤ 36 by decide) (show (ptL p).take 35 ++ [Value.int .i64 x] ++ (ptL p).drop (35 + 1) = ptL _ from ptL_off p x) (fun _ h => h)
  exact this.1
theorem part_frozen {W : World} {B c g n : Nat} {ok : Nat → Prop} {l : List Pt} (h : Kd.R kPt 75 W B ok (.slice (some ⟨g, 0, none⟩) n c) l) (j : Nat) : W.frozen? ⟨g, j, none⟩ = false := by
  obtain ⟨_, _, _, cur, hc, _⟩ := R_block h
  exact blk_frozen hc _
set_option linter.unusedVariables false in
set_option maxHeartbeats 8000000 in
set_option maxRecDepth 100000 in
theorem Step_mark1 (A : Option Addr) (c : Nat) (l : List Pt) (nx : Int) (r : Rc) (w : World) (hC : Kd.C kPt w A l.length l) (hc : l.length ≤ c) (hlen : l.length ≤ 64) (hid : r.id ≤ 2199023255552) (hid0 : -9223372036854775808 ≤ r.id) (hk : r.kind = 1) (i : Nat) (p : Pt) (hn : l.findIdx? (fun x => decide (x.id = r.id)) = some i) (hx : l[i]? = some p) (h1 : r.off < p.off) :
    Calls Tryd.prog 27 #[.agg #[.slice A l.length c, .int .i64 nx], .agg (rcL r).toArray] w fun e w' => ∃ v : Value, e = .returned (.tuple #[.agg #[v, .int .i64 (stepP ⟨l, nx⟩ r).1.next], .bool (stepP ⟨l, nx⟩ r).2]) ∧ Kd.R kPt 75 w' w.heap.size (fun _ => True) v (stepP ⟨l, nx⟩ r).1.parts ∧ Below w.heap.size w w' := by
  have HC := Aside0.mk hC
  clear hC
  obtain ⟨hil, hid2, hid3⟩ := List.findIdx?_eq_some_iff_getElem.1 hn
  clear hid3
  have hi := show fstI (fun x : Pt => decide (x.id = r.id)) l = (i : Int) by unfold fstI; rw [hn]
  have HI := Aside0.mk hi
  have HIL := Aside0.mk hil
  have HX := Aside0.mk hx
  have HP := Aside0.mk (show stepP ⟨l, nx⟩ r = (⟨l, nx⟩, false) by simp only [stepP]; rw [if_neg (by rw [hk]; decide), if_neg (by rw [hk]; decide), if_pos hk]; simp only [hn, hx]; rw [if_pos (.inl h1)])
  have hw2 : (i : Int) < (l.length : Int) := by omega
  clear hi hn hil hid2 hx
  go_enter Tryd.func27, Tryd.ntmps27
  go_wp2_with (first | (go_at_call 79; refine (ownS_calls A c l nx _ (Kd.C_below HC.out ?_) hc (Nat.le_trans hlen (by decide))).mono ?_; (exact below_alloc (below_alloc (below_alloc (Below.refl _ _) _) _) _); rintro e w2 ⟨v, rfl, ho, hb2⟩; obtain ⟨A2, c2, rfl⟩ := Kd.R_slice ho; obtain ⟨hcl, hfz⟩ := bcell hb2; have z0 : ¬ (w.heap.size = w2.heap.size) := (by have h_ := hb2.size; simp at h_; omega); have y0 : w.heap.size < w2.heap.size := (by have h_ := hb2.size; simp at h_; omega); have c0_0 : w2.cell? ⟨w.heap.size, 0, none⟩ = some (.slice A l.length c) := (by rw [hcl _ _ (by first | omega | (simp; done) | (simp; omega))]; first | (go_simp; done) | (simp [*]; done) | (simp [go_sem, *]; done)); have f0_0 : w2.frozen? ⟨w.heap.size, 0, none⟩ = false := (by rw [hfz _ _ (by first | omega | (simp; done) | (simp; omega))]; first | (go_simp; done) | (simp [*]; done) | (simp [go_sem, *]; done)); have c0_1 : w2.cell? ⟨w.heap.size, 1, none⟩ = some (.int .i64 nx) := (by rw [hcl _ _ (by first | omega | (simp; done) | (simp; omega))]; first | (go_simp; done) | (simp [*]; done) | (simp [go_sem, *]; done)); have f0_1 : w2.frozen? ⟨w.heap.size, 1, none⟩ = false := (by rw [hfz _ _ (by first | omega | (simp; done) | (simp; omega))]; first | (go_simp; done) | (simp [*]; done) | (simp [go_sem, *]; done)); have z1 : ¬ (w.heap.size + 1 = w2.heap.size) := (by have h_ := hb2.size; simp at h_; omega); have y1 : w.heap.size + 1 < w2.heap.size := (by have h_ := hb2.size; simp at h_; omega); have c1_0 : w2.cell? ⟨w.heap.size + 1, 0, none⟩ = some (.int .u8 r.kind) := (by rw [hcl _ _ (by first | omega | (simp; done) | (simp; omega))]; first | (go_simp; done) | (simp [*]; done) | (simp [go_sem, *]; done)); have c1_1 : w2.cell? ⟨w.heap.size + 1, 1, none⟩ = some (.int .i64 r.id) := (by rw [hcl _ _ (by first | omega | (simp; done) | (simp; omega))]; first | (go_simp; done) | (simp [*]; done) | (simp [go_sem, *]; done)); have c1_36 : w2.cell? ⟨w.heap.size + 1, 36, none⟩ = some (.int .i64 r.off) := (by rw [hcl _ _ (by first | omega | (simp; done) | (simp; omega))]; first | (go_simp; done) | (simp [*]; done) | (simp [go_sem, *]; done)); have z2 : ¬ (w.heap.size + 1 + 1 = w2.heap.size) := (by have h_ := hb2.size; simp at h_; omega); have y2 : w.heap.size + 1 + 1 < w2.heap.size := (by have h_ := hb2.size; simp at h_; omega); have c2_0 : w2.cell? ⟨w.heap.size + 1 + 1, 0, none⟩ = some (.slice none 0 0) := (by rw [hcl _ _ (by first | omega | (simp; done) | (simp; omega))]; first | (go_simp; done) | (simp [*]; done) | (simp [go_sem, *]; done)); have f2_0 : w2.frozen? ⟨w.heap.size + 1 + 1, 0, none⟩ = false := (by rw [hfz _ _ (by first | omega | (simp; done) | (simp; omega))]; first | (go_simp; done) | (simp [*]; done) | (simp [go_sem, *]; done)); have c2_1 : w2.cell? ⟨w.heap.size + 1 + 1, 1, none⟩ = some (.int .i64 0) := (by rw [hcl _ _ (by first | omega | (simp; done) | (simp; omega))]; first | (go_simp; done) | (simp [*]; done) | (simp [go_sem, *]; done)); have f2_1 : w2.frozen? ⟨w.heap.size + 1 + 1, 1, none⟩ = false := (by rw [hfz _ _ (by first | omega | (simp; done) | (simp; omega))]; first | (go_simp; done) | (simp [*]; done) | (simp [go_sem, *]; done)); have r0 : rowAt w2 ⟨w.heap.size + 1, 0, none⟩ 37 = some (rcL r) := (by rw [rowAt_below hb2 (by first | omega | (simp; done) | (simp; omega))]; first | (go_simp; done) | (simp [*]; done) | (simp [go_sem, *]; done)); have HO2 := Aside0.mk (Kd.R_lower (base' := w.heap.size + 1 + 1 + 1) ho (by simp)); have HB2 := Aside0.mk (Below.trans (below_alloc (below_alloc (below_alloc (Below.refl w.heap.size w) _) _) _) (hb2.mono (by simp; omega))); clear hb2 hcl hfz ho) | (go_at_call 80; refine (idx_id A2 c2 l r.id _ _ (Kd.R_reads' (flat_put (flat_put HO2.out (by omega)) (by omega))).2.2 (Nat.le_trans hlen (by decide)) ?hc1).mono ?_; (case hc1 => first | (go_simp; done) | (simp [go_sem, *]; done)); rintro e w3 ⟨rfl, hb3⟩; obtain ⟨hcl, hfz⟩ := bcell hb3; have zi0 : ¬ (w.heap.size = w3.heap.size) := (by have h_ := hb3.size; simp at h_; omega); have yi0 : w.heap.size < w3.heap.size := (by have h_ := hb3.size; simp at h_; omega); have ci0_0 : w3.cell? ⟨w.heap.size, 0, none⟩ = some (.slice A2 l.length c2) := (by rw [hcl _ _ (by first | omega | (simp; done) | (simp; omega))]; first | (go_simp; done) | (simp [*]; done) | (simp [go_sem, *]; done)); have fi0_0 : w3.frozen? ⟨w.heap.size, 0, none⟩ = false := (by rw [hfz _ _ (by first | omega | (simp; done) | (simp; omega))]; first | (go_simp; done) | (simp [*]; done) | (simp [go_sem, *]; done)); have ci0_1 : w3.cell? ⟨w.heap.size, 1, none⟩ = some (.int .i64 nx) := (by rw [hcl _ _ (by first | omega | (simp; done) | (simp; omega))]; first | (go_simp; done) | (simp [*]; done) | (simp [go_sem, *]; done)); have fi0_1 : w3.frozen? ⟨w.heap.size, 1, none⟩ = false := (by rw [hfz _ _ (by first | omega | (simp; done) | (simp; omega))]; first | (go_simp; done) | (simp [*]; done) | (simp [go_sem, *]; done)); have zi1 : ¬ (w.heap.size + 1 = w3.heap.size) := (by have h_ := hb3.size; simp at h_; omega); have yi1 : w.heap.size + 1 < w3.heap.size := (by have h_ := hb3.size; simp at h_; omega); have ci1_0 : w3.cell? ⟨w.heap.size + 1, 0, none⟩ = some (.int .u8 r.kind) := (by rw [hcl _ _ (by first | omega | (simp; done) | (simp; omega))]; first | (go_simp; done) | (simp [*]; done) | (simp [go_sem, *]; done)); have ci1_1 : w3.cell? ⟨w.heap.size + 1, 1, none⟩ = some (.int .i64 r.id) := (by rw [hcl _ _ (by first | omega | (simp; done) | (simp; omega))]; first | (go_simp; done) | (simp [*]; done) | (simp [go_sem, *]; done)); have ci1_36 : w3.cell? ⟨w.heap.size + 1, 36, none⟩ = some (.int .i64 r.off) := (by rw [hcl _ _ (by first | omega | (simp; done) | (simp; omega))]; first | (go_simp; done) | (simp [*]; done) | (simp [go_sem, *]; done)); have zi2 : ¬ (w.heap.size + 1 + 1 = w3.heap.size) := (by have h_ := hb3.size; simp at h_; omega); have yi2 : w.heap.size + 1 + 1 < w3.heap.size := (by have h_ := hb3.size; simp at h_; omega); have ci2_0 : w3.cell? ⟨w.heap.size + 1 + 1, 0, none⟩ = some (.slice none 0 0) := (by rw [hcl _ _ (by first | omega | (simp; done) | (simp; omega))]; first | (go_simp; done) | (simp [*]; done) | (simp [go_sem, *]; done)); have fi2_0 : w3.frozen? ⟨w.heap.size + 1 + 1, 0, none⟩ = false := (by rw [hfz _ _ (by first | omega | (simp; done) | (simp; omega))]; first | (go_simp; done) | (simp [*]; done) | (simp [go_sem, *]; done)); have ci2_1 : w3.cell? ⟨w.heap.size + 1 + 1, 1, none⟩ = some (.int .i64 0) := (by rw [hcl _ _ (by first | omega | (simp; done) | (simp; omega))]; first | (go_simp; done) | (simp [*]; done) | (simp [go_sem, *]; done)); have fi2_1 : w3.frozen? ⟨w.heap.size + 1 + 1, 1, none⟩ = false := (by rw [hfz _ _ (by first | omega | (simp; done) | (simp; omega))]; first | (go_simp; done) | (simp [*]; done) | (simp [go_sem, *]; done)); have ri0 : rowAt w3 ⟨w.heap.size + 1, 0, none⟩ 37 = some (rcL r) := (by rw [rowAt_below hb3 (by first | omega | (simp; done) | (simp; omega))]; first | (go_simp; done) | (simp [*]; done) | (simp [go_sem, *]; done)); have HO3 := Aside0.mk (Kd.R_below (flat_put (flat_put HO2.out (by omega)) (by omega)) hb3); have HB3 := Aside0.mk (Below.trans (below_setCell (below_setCell HB2.out (by omega) _) (by omega) _) (hb3.mono (by simp; omega))); clear hb3 hcl hfz; rw [HI.out]; obtain ⟨g, rfl, hg1, hg2⟩ := R_some HO3.out (Nat.lt_of_le_of_lt (Nat.zero_le _) HIL.out); have HG := Aside0.mk (And.intro hg1 hg2); clear hg1 hg2; obtain ⟨x4, x5⟩ := part_cells HO3.out HX.out; have HG0 := Aside0.mk HB3.out.size))
  refine still_tail_at 23 (by kernel_rfl) (by kernel_rfl) ?_
  intro W hW
  have HOW := Aside0.mk (show Kd.R kPt 75 W (w.heap.size + 1 + 1 + 1) (fun _ => True) (.slice (some ⟨g, 0, none⟩) l.length c2) l from by rw [hW]; exact Kd.R_drew HO3.out)
  have HBW := Aside0.mk (show Below w.heap.size w W from by rw [hW]; exact below_drew HB3.out)
  have hd1 : decide ((i : Int) < 0) = false := by simp
  have hd2 : decide (r.off < p.off) = true := by simp; omega
  have k0 : W.cell? ⟨w.heap.size, 0, none⟩ = some (.slice (some ⟨g, 0, none⟩) l.length c2) := by rw [hW]; exact ci0_0
  have k1 : W.cell? ⟨w.heap.size + 1, 36, none⟩ = some (.int .i64 r.off) := by rw [hW]; exact ci1_36
  have k2 : W.cell? ⟨g, i * 36 + 34, none⟩ = some (.int .i64 p.size) := by rw [hW]; exact x4
  have k3 : W.cell? ⟨g, i * 36 + 35, none⟩ = some (.int .i64 p.off) := by rw [hW]; exact x5
  have HZ := Aside0.mk (show W.cell? ⟨w.heap.size, 0, none⟩ = some (.slice (some ⟨g, 0, none⟩) l.length c2) ∧ W.cell? ⟨w.heap.size, 1, none⟩ = some (.int .i64 nx) ∧ W.frozen? ⟨w.heap.size, 0, none⟩ = false ∧ W.frozen? ⟨w.heap.size, 1, none⟩ = false ∧ W.cell? ⟨w.heap.size + 1 + 1, 0, none⟩ = some (.slice none 0 0) ∧ W.cell? ⟨w.heap.size + 1 + 1, 1, none⟩ = some (.int .i64 0) ∧ W.frozen? ⟨w.heap.size + 1 + 1, 0, none⟩ = false ∧ W.frozen? ⟨w.heap.size + 1 + 1, 1, none⟩ = false from by rw [hW]; exact ⟨ci0_0, ci0_1, fi0_0, fi0_1, ci2_0, ci2_1, fi2_0, fi2_1⟩)
  clear hW z0 y0 c0_0 f0_0 c0_1 f0_1 z1 y1 c1_0 c1_1 c1_36 z2 y2 c2_0 f2_0 c2_1 f2_1 r0 zi0 yi0 ci0_0 fi0_0 ci0_1 fi0_1 zi1 yi1 ci1_0 ci1_1 ci1_36 zi2 yi2 ci2_0 fi2_0 ci2_1 fi2_1 ri0 x4 x5 h1
  simp only [List.take_succ_cons, List.take_zero, List.drop_succ_cons, List.drop_zero]
  repeat (first | ((with_reducible refine wpStill_plain ?hg (fun K hK => ?_)); (case hg => with_reducible rfl); go_simp; refine still_back hK ?_; clear hK K) | ((with_reducible refine wpStill_skip ?hg (fun K hK => ?_)); (case hg => exact rfl); go_simp; refine still_back hK ?_; clear hK K) | ((with_reducible refine wpStill_held ?hg (fun K hK => ?_)); (case hg => exact rfl); go_simp; refine still_back hK ?_; clear hK K))
  refine wpStill_nil ?_
  obtain ⟨j0, j1, j2, j3, j4, j5, j6, j7⟩ := HZ.out
  go_wp2
  refine bodyPost_ret (v := .tuple #[.agg #[.slice (some ⟨g, 0, none⟩) l.length c2, .int .i64 nx], .bool false]) (by simp [results, Tryd.results27, go_sem, *]) rfl ⟨_, by rw [HP.out], ?_, ?_⟩
  · rw [HP.out]; exact Kd.R_lower (flat_put (flat_put (HOW.out) (by omega)) (by omega)) (by omega)
  · have hs3 := HG0.out; (repeat' (first | exact HBW.out | (with_reducible refine below_setCell ?_ ?_ _) | (with_reducible refine below_setRow ?_ ?_ _) | (with_reducible refine Below.alloc ?_ ?_ _) | (with_reducible refine below_drew ?_) | (with_reducible refine pw_below_drewN ?_ _) | (with_reducible exact Below.refl _ _) | omega | (simp; done) | (simp; omega)))
set_option linter.unusedVariables false in
set_option maxHeartbeats 8000000 in
set_option maxRecDepth 100000 in
theorem Step_mark2 (A : Option Addr) (c : Nat) (l : List Pt) (nx : Int) (r : Rc) (w : World) (hC : Kd.C kPt w A l.length l) (hc : l.length ≤ c) (hlen : l.length ≤ 64) (hid : r.id ≤ 2199023255552) (hid0 : -9223372036854775808 ≤ r.id) (hk : r.kind = 1) (i : Nat) (p : Pt) (hn : l.findIdx? (fun x => decide (x.id = r.id)) = some i) (hx : l[i]? = some p) (h1 : ¬ r.off < p.off) (h2 : p.size < r.off) :
    Calls Tryd.prog 27 #[.agg #[.slice A l.length c, .int .i64 nx], .agg (rcL r).toArray] w fun e w' => ∃ v : Value, e = .returned (.tuple #[.agg #[v, .int .i64 (stepP ⟨l, nx⟩ r).1.next], .bool (stepP ⟨l, nx⟩ r).2]) ∧ Kd.R kPt 75 w' w.heap.size (fun _ => True) v (stepP ⟨l, nx⟩ r).1.parts ∧ Below w.heap.size w w' := by
  have HC := Aside0.mk hC
  clear hC
  obtain ⟨hil, hid2, hid3⟩ := List.findIdx?_eq_some_iff_getElem.1 hn
  clear hid3
  have hi := show fstI (fun x : Pt => decide (x.id = r.id)) l = (i : Int) by unfold fstI; rw [hn]
  have HI := Aside0.mk hi
  have HIL := Aside0.mk hil
  have HX := Aside0.mk hx
  have HP := Aside0.mk (show stepP ⟨l, nx⟩ r = (⟨l, nx⟩, false) by simp only [stepP]; rw [if_neg (by rw [hk]; decide), if_neg (by rw [hk]; decide), if_pos hk]; simp only [hn, hx]; rw [if_pos (.inr h2)])
  have hw2 : (i : Int) < (l.length : Int) := by omega
  clear hi hn hil hid2 hx
  go_enter Tryd.func27, Tryd.ntmps27
  go_wp2_with (first | (go_at_call 79; refine (ownS_calls A c l nx _ (Kd.C_below HC.out ?_) hc (Nat.le_trans hlen (by decide))).mono ?_; (exact below_alloc (below_alloc (below_alloc (Below.refl _ _) _) _) _); rintro e w2 ⟨v, rfl, ho, hb2⟩; obtain ⟨A2, c2, rfl⟩ := Kd.R_slice ho; obtain ⟨hcl, hfz⟩ := bcell hb2; have z0 : ¬ (w.heap.size = w2.heap.size) := (by have h_ := hb2.size; simp at h_; omega); have y0 : w.heap.size < w2.heap.size := (by have h_ := hb2.size; simp at h_; omega); have c0_0 : w2.cell? ⟨w.heap.size, 0, none⟩ = some (.slice A l.length c) := (by rw [hcl _ _ (by first | omega | (simp; done) | (simp; omega))]; first | (go_simp; done) | (simp [*]; done) | (simp [go_sem, *]; done)); have f0_0 : w2.frozen? ⟨w.heap.size, 0, none⟩ = false := (by rw [hfz _ _ (by first | omega | (simp; done) | (simp; omega))]; first | (go_simp; done) | (simp [*]; done) | (simp [go_sem, *]; done)); have c0_1 : w2.cell? ⟨w.heap.size, 1, none⟩ = some (.int .i64 nx) := (by rw [hcl _ _ (by first | omega | (simp; done) | (simp; omega))]; first | (go_simp; done) | (simp [*]; done) | (simp [go_sem, *]; done)); have f0_1 : w2.frozen? ⟨w.heap.size, 1, none⟩ = false := (by rw [hfz _ _ (by first | omega | (simp; done) | (simp; omega))]; first | (go_simp; done) | (simp [*]; done) | (simp [go_sem, *]; done)); have z1 : ¬ (w.heap.size + 1 = w2.heap.size) := (by have h_ := hb2.size; simp at h_; omega); have y1 : w.heap.size + 1 < w2.heap.size := (by have h_ := hb2.size; simp at h_; omega); have c1_0 : w2.cell? ⟨w.heap.size + 1, 0, none⟩ = some (.int .u8 r.kind) := (by rw [hcl _ _ (by first | omega | (simp; done) | (simp; omega))]; first | (go_simp; done) | (simp [*]; done) | (simp [go_sem, *]; done)); have c1_1 : w2.cell? ⟨w.heap.size + 1, 1, none⟩ = some (.int .i64 r.id) := (by rw [hcl _ _ (by first | omega | (simp; done) | (simp; omega))]; first | (go_simp; done) | (simp [*]; done) | (simp [go_sem, *]; done)); have c1_36 : w2.cell? ⟨w.heap.size + 1, 36, none⟩ = some (.int .i64 r.off) := (by rw [hcl _ _ (by first | omega | (simp; done) | (simp; omega))]; first | (go_simp; done) | (simp [*]; done) | (simp [go_sem, *]; done)); have z2 : ¬ (w.heap.size + 1 + 1 = w2.heap.size) := (by have h_ := hb2.size; simp at h_; omega); have y2 : w.heap.size + 1 + 1 < w2.heap.size := (by have h_ := hb2.size; simp at h_; omega); have c2_0 : w2.cell? ⟨w.heap.size + 1 + 1, 0, none⟩ = some (.slice none 0 0) := (by rw [hcl _ _ (by first | omega | (simp; done) | (simp; omega))]; first | (go_simp; done) | (simp [*]; done) | (simp [go_sem, *]; done)); have f2_0 : w2.frozen? ⟨w.heap.size + 1 + 1, 0, none⟩ = false := (by rw [hfz _ _ (by first | omega | (simp; done) | (simp; omega))]; first | (go_simp; done) | (simp [*]; done) | (simp [go_sem, *]; done)); have c2_1 : w2.cell? ⟨w.heap.size + 1 + 1, 1, none⟩ = some (.int .i64 0) := (by rw [hcl _ _ (by first | omega | (simp; done) | (simp; omega))]; first | (go_simp; done) | (simp [*]; done) | (simp [go_sem, *]; done)); have f2_1 : w2.frozen? ⟨w.heap.size + 1 + 1, 1, none⟩ = false := (by rw [hfz _ _ (by first | omega | (simp; done) | (simp; omega))]; first | (go_simp; done) | (simp [*]; done) | (simp [go_sem, *]; done)); have r0 : rowAt w2 ⟨w.heap.size + 1, 0, none⟩ 37 = some (rcL r) := (by rw [rowAt_below hb2 (by first | omega | (simp; done) | (simp; omega))]; first | (go_simp; done) | (simp [*]; done) | (simp [go_sem, *]; done)); have HO2 := Aside0.mk (Kd.R_lower (base' := w.heap.size + 1 + 1 + 1) ho (by simp)); have HB2 := Aside0.mk (Below.trans (below_alloc (below_alloc (below_alloc (Below.refl w.heap.size w) _) _) _) (hb2.mono (by simp; omega))); clear hb2 hcl hfz ho) | (go_at_call 80; refine (idx_id A2 c2 l r.id _ _ (Kd.R_reads' (flat_put (flat_put HO2.out (by omega)) (by omega))).2.2 (Nat.le_trans hlen (by decide)) ?hc1).mono ?_; (case hc1 => first | (go_simp; done) | (simp [go_sem, *]; done)); rintro e w3 ⟨rfl, hb3⟩; obtain ⟨hcl, hfz⟩ := bcell hb3; have zi0 : ¬ (w.heap.size = w3.heap.size) := (by have h_ := hb3.size; simp at h_; omega); have yi0 : w.heap.size < w3.heap.size := (by have h_ := hb3.size; simp at h_; omega); have ci0_0 : w3.cell? ⟨w.heap.size, 0, none⟩ = some (.slice A2 l.length c2) := (by rw [hcl _ _ (by first | omega | (simp; done) | (simp; omega))]; first | (go_simp; done) | (simp [*]; done) | (simp [go_sem, *]; done)); have fi0_0 : w3.frozen? ⟨w.heap.size, 0, none⟩ = false := (by rw [hfz _ _ (by first | omega | (simp; done) | (simp; omega))]; first | (go_simp; done) | (simp [*]; done) | (simp [go_sem, *]; done)); have ci0_1 : w3.cell? ⟨w.heap.size, 1, none⟩ = some (.int .i64 nx) := (by rw [hcl _ _ (by first | omega | (simp; done) | (simp; omega))]; first | (go_simp; done) | (simp [*]; done) | (simp [go_sem, *]; done)); have fi0_1 : w3.frozen? ⟨w.heap.size, 1, none⟩ = false := (by rw [hfz _ _ (by first | omega | (simp; done) | (simp; omega))]; first | (go_simp; done) | (simp [*]; done) | (simp [go_sem, *]; done)); have zi1 : ¬ (w.heap.size + 1 = w3.heap.size) := (by have h_ := hb3.size; simp at h_; omega); have yi1 : w.heap.size + 1 < w3.heap.size := (by have h_ := hb3.size; simp at h_; omega); have ci1_0 : w3.cell? ⟨w.heap.size + 1, 0, none⟩ = some (.int .u8 r.kind) := (by rw [hcl _ _ (by first | omega | (simp; done) | (simp; omega))]; first | (go_simp; done) | (simp [*]; done) | (simp [go_sem, *]; done)); have ci1_1 : w3.cell? ⟨w.heap.size + 1, 1, none⟩ = some (.int .i64 r.id) := (by rw [hcl _ _ (by first | omega | (simp; done) | (simp; omega))]; first | (go_simp; done) | (simp [*]; done) | (simp [go_sem, *]; done)); have ci1_36 : w3.cell? ⟨w.heap.size + 1, 36, none⟩ = some (.int .i64 r.off) := (by rw [hcl _ _ (by first | omega | (simp; done) | (simp; omega))]; first | (go_simp; done) | (simp [*]; done) | (simp [go_sem, *]; done)); have zi2 : ¬ (w.heap.size + 1 + 1 = w3.heap.size) := (by have h_ := hb3.size; simp at h_; omega); have yi2 : w.heap.size + 1 + 1 < w3.heap.size := (by have h_ := hb3.size; simp at h_; omega); have ci2_0 : w3.cell? ⟨w.heap.size + 1 + 1, 0, none⟩ = some (.slice none 0 0) := (by rw [hcl _ _ (by first | omega | (simp; done) | (simp; omega))]; first | (go_simp; done) | (simp [*]; done) | (simp [go_sem, *]; done)); have fi2_0 : w3.frozen? ⟨w.heap.size + 1 + 1, 0, none⟩ = false := (by rw [hfz _ _ (by first | omega | (simp; done) | (simp; omega))]; first | (go_simp; done) | (simp [*]; done) | (simp [go_sem, *]; done)); have ci2_1 : w3.cell? ⟨w.heap.size + 1 + 1, 1, none⟩ = some (.int .i64 0) := (by rw [hcl _ _ (by first | omega | (simp; done) | (simp; omega))]; first | (go_simp; done) | (simp [*]; done) | (simp [go_sem, *]; done)); have fi2_1 : w3.frozen? ⟨w.heap.size + 1 + 1, 1, none⟩ = false := (by rw [hfz _ _ (by first | omega | (simp; done) | (simp; omega))]; first | (go_simp; done) | (simp [*]; done) | (simp [go_sem, *]; done)); have ri0 : rowAt w3 ⟨w.heap.size + 1, 0, none⟩ 37 = some (rcL r) := (by rw [rowAt_below hb3 (by first | omega | (simp; done) | (simp; omega))]; first | (go_simp; done) | (simp [*]; done) | (simp [go_sem, *]; done)); have HO3 := Aside0.mk (Kd.R_below (flat_put (flat_put HO2.out (by omega)) (by omega)) hb3); have HB3 := Aside0.mk (Below.trans (below_setCell (below_setCell HB2.out (by omega) _) (by omega) _) (hb3.mono (by simp; omega))); clear hb3 hcl hfz; rw [HI.out]; obtain ⟨g, rfl, hg1, hg2⟩ := R_some HO3.out (Nat.lt_of_le_of_lt (Nat.zero_le _) HIL.out); have HG := Aside0.mk (And.intro hg1 hg2); clear hg1 hg2; obtain ⟨x4, x5⟩ := part_cells HO3.out HX.out; have HG0 := Aside0.mk HB3.out.size))
  refine still_tail_at 23 (by kernel_rfl) (by kernel_rfl) ?_
  intro W hW
  have HOW := Aside0.mk (show Kd.R kPt 75 W (w.heap.size + 1 + 1 + 1) (fun _ => True) (.slice (some ⟨g, 0, none⟩) l.length c2) l from by rw [hW]; exact Kd.R_drew HO3.out)
  have HBW := Aside0.mk (show Below w.heap.size w W from by rw [hW]; exact below_drew HB3.out)
  have hd1 : decide ((i : Int) < 0) = false := by simp
  have hd2 : decide (r.off < p.off) = false := by simp; omega
  have hd3 : decide (p.size < r.off) = true := by simp; omega
  have k0 : W.cell? ⟨w.heap.size, 0, none⟩ = some (.slice (some ⟨g, 0, none⟩) l.length c2) := by rw [hW]; exact ci0_0
  have k1 : W.cell? ⟨w.heap.size + 1, 36, none⟩ = some (.int .i64 r.off) := by rw [hW]; exact ci1_36
  have k2 : W.cell? ⟨g, i * 36 + 34, none⟩ = some (.int .i64 p.size) := by rw [hW]; exact x4
  have k3 : W.cell? ⟨g, i * 36 + 35, none⟩ = some (.int .i64 p.off) := by rw [hW]; exact x5
  have HZ := Aside0.mk (show W.cell? ⟨w.heap.size, 0, none⟩ = some (.slice (some ⟨g, 0, none⟩) l.length c2) ∧ W.cell? ⟨w.heap.size, 1, none⟩ = some (.int .i64 nx) ∧ W.frozen? ⟨w.heap.size, 0, none⟩ = false ∧ W.frozen? ⟨w.heap.size, 1, none⟩ = false ∧ W.cell? ⟨w.heap.size + 1 + 1, 0, none⟩ = some (.slice none 0 0) ∧ W.cell? ⟨w.heap.size + 1 + 1, 1, none⟩ = some (.int .i64 0) ∧ W.frozen? ⟨w.heap.size + 1 + 1, 0, none⟩ = false ∧ W.frozen? ⟨w.heap.size + 1 + 1, 1, none⟩ = false from by rw [hW]; exact ⟨ci0_0, ci0_1, fi0_0, fi0_1, ci2_0, ci2_1, fi2_0, fi2_1⟩)
  clear hW z0 y0 c0_0 f0_0 c0_1 f0_1 z1 y1 c1_0 c1_1 c1_36 z2 y2 c2_0 f2_0 c2_1 f2_1 r0 zi0 yi0 ci0_0 fi0_0 ci0_1 fi0_1 zi1 yi1 ci1_0 ci1_1 ci1_36 zi2 yi2 ci2_0 fi2_0 ci2_1 fi2_1 ri0 x4 x5 h1 h2
  simp only [List.take_succ_cons, List.take_zero, List.drop_succ_cons, List.drop_zero]
  repeat (first | ((with_reducible refine wpStill_plain ?hg (fun K hK => ?_)); (case hg => with_reducible rfl); go_simp; refine still_back hK ?_; clear hK K) | ((with_reducible refine wpStill_skip ?hg (fun K hK => ?_)); (case hg => exact rfl); go_simp; refine still_back hK ?_; clear hK K) | ((with_reducible refine wpStill_held ?hg (fun K hK => ?_)); (case hg => exact rfl); go_simp; refine still_back hK ?_; clear hK K))
  refine wpStill_nil ?_
  obtain ⟨j0, j1, j2, j3, j4, j5, j6, j7⟩ := HZ.out
  go_wp2
  refine bodyPost_ret (v := .tuple #[.agg #[.slice (some ⟨g, 0, none⟩) l.length c2, .int .i64 nx], .bool false]) (by simp [results, Tryd.results27, go_sem, *]) rfl ⟨_, by rw [HP.out], ?_, ?_⟩
  · rw [HP.out]; exact Kd.R_lower (flat_put (flat_put (HOW.out) (by omega)) (by omega)) (by omega)
  · have hs3 := HG0.out; (repeat' (first | exact HBW.out | (with_reducible refine below_setCell ?_ ?_ _) | (with_reducible refine below_setRow ?_ ?_ _) | (with_reducible refine Below.alloc ?_ ?_ _) | (with_reducible refine below_drew ?_) | (with_reducible refine pw_below_drewN ?_ _) | (with_reducible exact Below.refl _ _) | omega | (simp; done) | (simp; omega)))
set_option linter.unusedVariables false in
set_option maxHeartbeats 8000000 in
set_option maxRecDepth 100000 in
theorem Step_mark3 (A : Option Addr) (c : Nat) (l : List Pt) (nx : Int) (r : Rc) (w : World) (hC : Kd.C kPt w A l.length l) (hc : l.length ≤ c) (hlen : l.length ≤ 64) (hid : r.id ≤ 2199023255552) (hid0 : -9223372036854775808 ≤ r.id) (hk : r.kind = 1) (i : Nat) (p : Pt) (hn : l.findIdx? (fun x => decide (x.id = r.id)) = some i) (hx : l[i]? = some p) (h1 : ¬ r.off < p.off) (h2 : ¬ p.size < r.off) :
    Calls Tryd.prog 27 #[.agg #[.slice A l.length c, .int .i64 nx], .agg (rcL r).toArray] w fun e w' => ∃ v : Value, e = .returned (.tuple #[.agg #[v, .int .i64 (stepP ⟨l, nx⟩ r).1.next], .bool (stepP ⟨l, nx⟩ r).2]) ∧ Kd.R kPt 75 w' w.heap.size (fun _ => True) v (stepP ⟨l, nx⟩ r).1.parts ∧ Below w.heap.size w w' := by
  have HC := Aside0.mk hC
  clear hC
  obtain ⟨hil, hid2, hid3⟩ := List.findIdx?_eq_some_iff_getElem.1 hn
  clear hid3
  have hi := show fstI (fun x : Pt => decide (x.id = r.id)) l = (i : Int) by unfold fstI; rw [hn]
  have HI := Aside0.mk hi
  have HIL := Aside0.mk hil
  have HX := Aside0.mk hx
  have HP := Aside0.mk (show stepP ⟨l, nx⟩ r = (⟨l.set i { p with off := r.off }, nx⟩, true) by simp only [stepP]; rw [if_neg (by rw [hk]; decide), if_neg (by rw [hk]; decide), if_pos hk]; simp only [hn, hx]; rw [if_neg (fun h => h.elim h1 h2)])
  have hw2 : (i : Int) < (l.length : Int) := by omega
  clear hi hn hil hid2 hx
  go_enter Tryd.func27, Tryd.ntmps27
  go_wp2_with (first | (go_at_call 79; refine (ownS_calls A c l nx _ (Kd.C_below HC.out ?_) hc (Nat.le_trans hlen (by decide))).mono ?_; (exact below_alloc (below_alloc (below_alloc (Below.refl _ _) _) _) _); rintro e w2 ⟨v, rfl, ho, hb2⟩; obtain ⟨A2, c2, rfl⟩ := Kd.R_slice ho; obtain ⟨hcl, hfz⟩ := bcell hb2; have z0 : ¬ (w.heap.size = w2.heap.size) := (by have h_ := hb2.size; simp at h_; omega); have y0 : w.heap.size < w2.heap.size := (by have h_ := hb2.size; simp at h_; omega); have c0_0 : w2.cell? ⟨w.heap.size, 0, none⟩ = some (.slice A l.length c) := (by rw [hcl _ _ (by first | omega | (simp; done) | (simp; omega))]; first | (go_simp; done) | (simp [*]; done) | (simp [go_sem, *]; done)); have f0_0 : w2.frozen? ⟨w.heap.size, 0, none⟩ = false := (by rw [hfz _ _ (by first | omega | (simp; done) | (simp; omega))]; first | (go_simp; done) | (simp [*]; done) | (simp [go_sem, *]; done)); have c0_1 : w2.cell? ⟨w.heap.size, 1, none⟩ = some (.int .i64 nx) := (by rw [hcl _ _ (by first | omega | (simp; done) | (simp; omega))]; first | (go_simp; done) | (simp [*]; done) | (simp [go_sem, *]; done)); have f0_1 : w2.frozen? ⟨w.heap.size, 1, none⟩ = false := (by rw [hfz _ _ (by first | omega | (simp; done) | (simp; omega))]; first | (go_simp; done) | (simp [*]; done) | (simp [go_sem, *]; done)); have z1 : ¬ (w.heap.size + 1 = w2.heap.size) := (by have h_ := hb2.size; simp at h_; omega); have y1 : w.heap.size + 1 < w2.heap.size := (by have h_ := hb2.size; simp at h_; omega); have c1_0 : w2.cell? ⟨w.heap.size + 1, 0, none⟩ = some (.int .u8 r.kind) := (by rw [hcl _ _ (by first | omega | (simp; done) | (simp; omega))]; first | (go_simp; done) | (simp [*]; done) | (simp [go_sem, *]; done)); have c1_1 : w2.cell? ⟨w.heap.size + 1, 1, none⟩ = some (.int .i64 r.id) := (by rw [hcl _ _ (by first | omega | (simp; done) | (simp; omega))]; first | (go_simp; done) | (simp [*]; done) | (simp [go_sem, *]; done)); have c1_36 : w2.cell? ⟨w.heap.size + 1, 36, none⟩ = some (.int .i64 r.off) := (by rw [hcl _ _ (by first | omega | (simp; done) | (simp; omega))]; first | (go_simp; done) | (simp [*]; done) | (simp [go_sem, *]; done)); have z2 : ¬ (w.heap.size + 1 + 1 = w2.heap.size) := (by have h_ := hb2.size; simp at h_; omega); have y2 : w.heap.size + 1 + 1 < w2.heap.size := (by have h_ := hb2.size; simp at h_; omega); have c2_0 : w2.cell? ⟨w.heap.size + 1 + 1, 0, none⟩ = some (.slice none 0 0) := (by rw [hcl _ _ (by first | omega | (simp; done) | (simp; omega))]; first | (go_simp; done) | (simp [*]; done) | (simp [go_sem, *]; done)); have f2_0 : w2.frozen? ⟨w.heap.size + 1 + 1, 0, none⟩ = false := (by rw [hfz _ _ (by first | omega | (simp; done) | (simp; omega))]; first | (go_simp; done) | (simp [*]; done) | (simp [go_sem, *]; done)); have c2_1 : w2.cell? ⟨w.heap.size + 1 + 1, 1, none⟩ = some (.int .i64 0) := (by rw [hcl _ _ (by first | omega | (simp; done) | (simp; omega))]; first | (go_simp; done) | (simp [*]; done) | (simp [go_sem, *]; done)); have f2_1 : w2.frozen? ⟨w.heap.size + 1 + 1, 1, none⟩ = false := (by rw [hfz _ _ (by first | omega | (simp; done) | (simp; omega))]; first | (go_simp; done) | (simp [*]; done) | (simp [go_sem, *]; done)); have r0 : rowAt w2 ⟨w.heap.size + 1, 0, none⟩ 37 = some (rcL r) := (by rw [rowAt_below hb2 (by first | omega | (simp; done) | (simp; omega))]; first | (go_simp; done) | (simp [*]; done) | (simp [go_sem, *]; done)); have HO2 := Aside0.mk (Kd.R_lower (base' := w.heap.size + 1 + 1 + 1) ho (by simp)); have HB2 := Aside0.mk (Below.trans (below_alloc (below_alloc (below_alloc (Below.refl w.heap.size w) _) _) _) (hb2.mono (by simp; omega))); clear hb2 hcl hfz ho) | (go_at_call 80; refine (idx_id A2 c2 l r.id _ _ (Kd.R_reads' (flat_put (flat_put HO2.out (by omega)) (by omega))).2.2 (Nat.le_trans hlen (by decide)) ?hc1).mono ?_; (case hc1 => first | (go_simp; done) | (simp [go_sem, *]; done)); rintro e w3 ⟨rfl, hb3⟩; obtain ⟨hcl, hfz⟩ := bcell hb3; have zi0 : ¬ (w.heap.size = w3.heap.size) := (by have h_ := hb3.size; simp at h_; omega); have yi0 : w.heap.size < w3.heap.size := (by have h_ := hb3.size; simp at h_; omega); have ci0_0 : w3.cell? ⟨w.heap.size, 0, none⟩ = some (.slice A2 l.length c2) := (by rw [hcl _ _ (by first | omega | (simp; done) | (simp; omega))]; first | (go_simp; done) | (simp [*]; done) | (simp [go_sem, *]; done)); have fi0_0 : w3.frozen? ⟨w.heap.size, 0, none⟩ = false := (by rw [hfz _ _ (by first | omega | (simp; done) | (simp; omega))]; first | (go_simp; done) | (simp [*]; done) | (simp [go_sem, *]; done)); have ci0_1 : w3.cell? ⟨w.heap.size, 1, none⟩ = some (.int .i64 nx) := (by rw [hcl _ _ (by first | omega | (simp; done) | (simp; omega))]; first | (go_simp; done) | (simp [*]; done) | (simp [go_sem, *]; done)); have fi0_1 : w3.frozen? ⟨w.heap.size, 1, none⟩ = false := (by rw [hfz _ _ (by first | omega | (simp; done) | (simp; omega))]; first | (go_simp; done) | (simp [*]; done) | (simp [go_sem, *]; done)); have zi1 : ¬ (w.heap.size + 1 = w3.heap.size) := (by have h_ := hb3.size; simp at h_; omega); have yi1 : w.heap.size + 1 < w3.heap.size := (by have h_ := hb3.size; simp at h_; omega); have ci1_0 : w3.cell? ⟨w.heap.size + 1, 0, none⟩ = some (.int .u8 r.kind) := (by rw [hcl _ _ (by first | omega | (simp; done) | (simp; omega))]; first | (go_simp; done) | (simp [*]; done) | (simp [go_sem, *]; done)); have ci1_1 : w3.cell? ⟨w.heap.size + 1, 1, none⟩ = some (.int .i64 r.id) := (by rw [hcl _ _ (by first | omega | (simp; done) | (simp; omega))]; first | (go_simp; done) | (simp [*]; done) | (simp [go_sem, *]; done)); have ci1_36 : w3.cell? ⟨w.heap.size + 1, 36, none⟩ = some (.int .i64 r.off) := (by rw [hcl _ _ (by first | omega | (simp; done) | (simp; omega))]; first | (go_simp; done) | (simp [*]; done) | (simp [go_sem, *]; done)); have zi2 : ¬ (w.heap.size + 1 + 1 = w3.heap.size) := (by have h_ := hb3.size; simp at h_; omega); have yi2 : w.heap.size + 1 + 1 < w3.heap.size := (by have h_ := hb3.size; simp at h_; omega); have ci2_0 : w3.cell? ⟨w.heap.size + 1 + 1, 0, none⟩ = some (.slice none 0 0) := (by rw [hcl _ _ (by first | omega | (simp; done) | (simp; omega))]; first | (go_simp; done) | (simp [*]; done) | (simp [go_sem, *]; done)); have fi2_0 : w3.frozen? ⟨w.heap.size + 1 + 1, 0, none⟩ = false := (by rw [hfz _ _ (by first | omega | (simp; done) | (simp; omega))]; first | (go_simp; done) | (simp [*]; done) | (simp [go_sem, *]; done)); have ci2_1 : w3.cell? ⟨w.heap.size + 1 + 1, 1, none⟩ = some (.int .i64 0) := (by rw [hcl _ _ (by first | omega | (simp; done) | (simp; omega))]; first | (go_simp; done) | (simp [*]; done) | (simp [go_sem, *]; done)); have fi2_1 : w3.frozen? ⟨w.heap.size + 1 + 1, 1, none⟩ = false := (by rw [hfz _ _ (by first | omega | (simp; done) | (simp; omega))]; first | (go_simp; done) | (simp [*]; done) | (simp [go_sem, *]; done)); have ri0 : rowAt w3 ⟨w.heap.size + 1, 0, none⟩ 37 = some (rcL r) := (by rw [rowAt_below hb3 (by first | omega | (simp; done) | (simp; omega))]; first | (go_simp; done) | (simp [*]; done) | (simp [go_sem, *]; done)); have HO3 := Aside0.mk (Kd.R_below (flat_put (flat_put HO2.out (by omega)) (by omega)) hb3); have HB3 := Aside0.mk (Below.trans (below_setCell (below_setCell HB2.out (by omega) _) (by omega) _) (hb3.mono (by simp; omega))); clear hb3 hcl hfz; rw [HI.out]; obtain ⟨g, rfl, hg1, hg2⟩ := R_some HO3.out (Nat.lt_of_le_of_lt (Nat.zero_le _) HIL.out); have HG := Aside0.mk (And.intro hg1 hg2); clear hg1 hg2; obtain ⟨x4, x5⟩ := part_cells HO3.out HX.out; have HG0 := Aside0.mk HB3.out.size))
  refine still_tail_at 23 (by kernel_rfl) (by kernel_rfl) ?_
  intro W hW
  have HOW := Aside0.mk (show Kd.R kPt 75 W (w.heap.size + 1 + 1 + 1) (fun _ => True) (.slice (some ⟨g, 0, none⟩) l.length c2) l from by rw [hW]; exact Kd.R_drew HO3.out)
  have HBW := Aside0.mk (show Below w.heap.size w W from by rw [hW]; exact below_drew HB3.out)
  have hd1 : decide ((i : Int) < 0) = false := by simp
  have hd2 : decide (r.off < p.off) = false := by simp; omega
  have hd3 : decide (p.size < r.off) = false := by simp; omega
  have k0 : W.cell? ⟨w.heap.size, 0, none⟩ = some (.slice (some ⟨g, 0, none⟩) l.length c2) := by rw [hW]; exact ci0_0
  have k1 : W.cell? ⟨w.heap.size + 1, 36, none⟩ = some (.int .i64 r.off) := by rw [hW]; exact ci1_36
  have k2 : W.cell? ⟨g, i * 36 + 34, none⟩ = some (.int .i64 p.size) := by rw [hW]; exact x4
  have k3 : W.cell? ⟨g, i * 36 + 35, none⟩ = some (.int .i64 p.off) := by rw [hW]; exact x5
  have HZ := Aside0.mk (show W.cell? ⟨w.heap.size, 0, none⟩ = some (.slice (some ⟨g, 0, none⟩) l.length c2) ∧ W.cell? ⟨w.heap.size, 1, none⟩ = some (.int .i64 nx) ∧ W.frozen? ⟨w.heap.size, 0, none⟩ = false ∧ W.frozen? ⟨w.heap.size, 1, none⟩ = false ∧ W.cell? ⟨w.heap.size + 1 + 1, 0, none⟩ = some (.slice none 0 0) ∧ W.cell? ⟨w.heap.size + 1 + 1, 1, none⟩ = some (.int .i64 0) ∧ W.frozen? ⟨w.heap.size + 1 + 1, 0, none⟩ = false ∧ W.frozen? ⟨w.heap.size + 1 + 1, 1, none⟩ = false ∧ W.cell? ⟨g, i * 36 + 35, none⟩ = some (.int .i64 p.off) ∧ W.frozen? ⟨g, i * 36 + 35, none⟩ = false from by rw [hW]; exact ⟨ci0_0, ci0_1, fi0_0, fi0_1, ci2_0, ci2_1, fi2_0, fi2_1, x5, part_frozen HO3.out _⟩)
  clear hW z0 y0 c0_0 f0_0 c0_1 f0_1 z1 y1 c1_0 c1_1 c1_36 z2 y2 c2_0 f2_0 c2_1 f2_1 r0 zi0 yi0 ci0_0 fi0_0 ci0_1 fi0_1 zi1 yi1 ci1_0 ci1_1 ci1_36 zi2 yi2 ci2_0 fi2_0 ci2_1 fi2_1 ri0 x4 x5 h1 h2
  simp only [List.take_succ_cons, List.take_zero, List.drop_succ_cons, List.drop_zero]
  repeat (first | ((with_reducible refine wpStill_plain ?hg (fun K hK => ?_)); (case hg => with_reducible rfl); go_simp; refine still_back hK ?_; clear hK K) | ((with_reducible refine wpStill_skip ?hg (fun K hK => ?_)); (case hg => exact rfl); go_simp; refine still_back hK ?_; clear hK K) | ((with_reducible refine wpStill_held ?hg (fun K hK => ?_)); (case hg => exact rfl); go_simp; refine still_back hK ?_; clear hK K))
  refine wpStill_nil ?_
  obtain ⟨j0, j1, j2, j3, j4, j5, j6, j7, j8, j9⟩ := HZ.out
  have n1 : ¬ (w.heap.size = g) := by have := HG.out.1; omega
  have n2 : ¬ (g = w.heap.size) := by have := HG.out.1; omega
  have n3 : ¬ (w.heap.size + 1 = g) := by have := HG.out.1; omega
  have n4 : ¬ (w.heap.size + 1 + 1 = g) := by have := HG.out.1; omega
  go_wp2
  refine bodyPost_ret (v := .tuple #[.agg #[.slice (some ⟨g, 0, none⟩) l.length c2, .int .i64 nx], .bool true]) (by simp [results, Tryd.results27, go_sem, *]) rfl ⟨_, by rw [HP.out], ?_, ?_⟩
  · have hg3 := HG.out.1; rw [HP.out]; exact Kd.R_lower (flat_put (flat_put (part_off HOW.out HX.out r.off) (by omega)) (by omega)) (by omega)
  · have hs3 := HG0.out; have hg3 := HG.out.1; (repeat' (first | exact HBW.out | (with_reducible refine below_setCell ?_ ?_ _) | (with_reducible refine below_setRow ?_ ?_ _) | (with_reducible refine Below.alloc ?_ ?_ _) | (with_reducible refine below_drew ?_) | (with_reducible refine pw_below_drewN ?_ _) | (with_reducible exact Below.refl _ _) | omega | (simp; done) | (simp; omega)))
set_option linter.unusedVariables false in
set_option maxHeartbeats 8000000 in
set_option maxRecDepth 100000 in
theorem Step_mark0 (A : Option Addr) (c : Nat) (l : List Pt) (nx : Int) (r : Rc) (w : World) (hC : Kd.C kPt w A l.length l) (hc : l.length ≤ c) (hlen : l.length ≤ 64) (hid : r.id ≤ 2199023255552) (hid0 : -9223372036854775808 ≤ r.id) (hk : r.kind = 1) (hn : l.findIdx? (fun x => decide (x.id = r.id)) = none) :
    Calls Tryd.prog 27 #[.agg #[.slice A l.length c, .int .i64 nx], .agg (rcL r).toArray] w fun e w' => ∃ v : Value, e = .returned (.tuple #[.agg #[v, .int .i64 (stepP ⟨l, nx⟩ r).1.next], .bool (stepP ⟨l, nx⟩ r).2]) ∧ Kd.R kPt 75 w' w.heap.size (fun _ => True) v (stepP ⟨l, nx⟩ r).1.parts ∧ Below w.heap.size w w' := by
  have HC := Aside0.mk hC
  clear hC
  have hi := show fstI (fun x : Pt => decide (x.id = r.id)) l = -1 by unfold fstI; rw [hn]
  have HI := Aside0.mk hi
  have HP := Aside0.mk (show stepP ⟨l, nx⟩ r = (⟨l, nx⟩, false) by simp [stepP, hk, hn])
  clear hi hn
  go_enter Tryd.func27, Tryd.ntmps27
  go_wp2_with (first | (go_at_call 79; refine (ownS_calls A c l nx _ (Kd.C_below HC.out ?_) hc (Nat.le_trans hlen (by decide))).mono ?_; (exact below_alloc (below_alloc (below_alloc (Below.refl _ _) _) _) _); rintro e w2 ⟨v, rfl, ho, hb2⟩; obtain ⟨A2, c2, rfl⟩ := Kd.R_slice ho; obtain ⟨hcl, hfz⟩ := bcell hb2; have z0 : ¬ (w.heap.size = w2.heap.size) := (by have h_ := hb2.size; simp at h_; omega); have y0 : w.heap.size < w2.heap.size := (by have h_ := hb2.size; simp at h_; omega); have c0_0 : w2.cell? ⟨w.heap.size, 0, none⟩ = some (.slice A l.length c) := (by rw [hcl _ _ (by first | omega | (simp; done) | (simp; omega))]; first | (go_simp; done) | (simp [*]; done) | (simp [go_sem, *]; done)); have f0_0 : w2.frozen? ⟨w.heap.size, 0, none⟩ = false := (by rw [hfz _ _ (by first | omega | (simp; done) | (simp; omega))]; first | (go_simp; done) | (simp [*]; done) | (simp [go_sem, *]; done)); have c0_1 : w2.cell? ⟨w.heap.size, 1, none⟩ = some (.int .i64 nx) := (by rw [hcl _ _ (by first | omega | (simp; done) | (simp; omega))]; first | (go_simp; done) | (simp [*]; done) | (simp [go_sem, *]; done)); have f0_1 : w2.frozen? ⟨w.heap.size, 1, none⟩ = false := (by rw [hfz _ _ (by first | omega | (simp; done) | (simp; omega))]; first | (go_simp; done) | (simp [*]; done) | (simp [go_sem, *]; done)); have z1 : ¬ (w.heap.size + 1 = w2.heap.size) := (by have h_ := hb2.size; simp at h_; omega); have y1 : w.heap.size + 1 < w2.heap.size := (by have h_ := hb2.size; simp at h_; omega); have c1_0 : w2.cell? ⟨w.heap.size + 1, 0, none⟩ = some (.int .u8 r.kind) := (by rw [hcl _ _ (by first | omega | (simp; done) | (simp; omega))]; first | (go_simp; done) | (simp [*]; done) | (simp [go_sem, *]; done)); have c1_1 : w2.cell? ⟨w.heap.size + 1, 1, none⟩ = some (.int .i64 r.id) := (by rw [hcl _ _ (by first | omega | (simp; done) | (simp; omega))]; first | (go_simp; done) | (simp [*]; done) | (simp [go_sem, *]; done)); have c1_36 : w2.cell? ⟨w.heap.size + 1, 36, none⟩ = some (.int .i64 r.off) := (by rw [hcl _ _ (by first | omega | (simp; done) | (simp; omega))]; first | (go_simp; done) | (simp [*]; done) | (simp [go_sem, *]; done)); have z2 : ¬ (w.heap.size + 1 + 1 = w2.heap.size) := (by have h_ := hb2.size; simp at h_; omega); have y2 : w.heap.size + 1 + 1 < w2.heap.size := (by have h_ := hb2.size; simp at h_; omega); have c2_0 : w2.cell? ⟨w.heap.size + 1 + 1, 0, none⟩ = some (.slice none 0 0) := (by rw [hcl _ _ (by first | omega | (simp; done) | (simp; omega))]; first | (go_simp; done) | (simp [*]; done) | (simp [go_sem, *]; done)); have f2_0 : w2.frozen? ⟨w.heap.size + 1 + 1, 0, none⟩ = false := (by rw [hfz _ _ (by first | omega | (simp; done) | (simp; omega))]; first | (go_simp; done) | (simp [*]; done) | (simp [go_sem, *]; done)); have c2_1 : w2.cell? ⟨w.heap.size + 1 + 1, 1, none⟩ = some (.int .i64 0) := (by rw [hcl _ _ (by first | omega | (simp; done) | (simp; omega))]; first | (go_simp; done) | (simp [*]; done) | (simp [go_sem, *]; done)); have f2_1 : w2.frozen? ⟨w.heap.size + 1 + 1, 1, none⟩ = false := (by rw [hfz _ _ (by first | omega | (simp; done) | (simp; omega))]; first | (go_simp; done) | (simp [*]; done) | (simp [go_sem, *]; done)); have r0 : rowAt w2 ⟨w.heap.size + 1, 0, none⟩ 37 = some (rcL r) := (by rw [rowAt_below hb2 (by first | omega | (simp; done) | (simp; omega))]; first | (go_simp; done) | (simp [*]; done) | (simp [go_sem, *]; done)); have HO2 := Aside0.mk (Kd.R_lower (base' := w.heap.size + 1 + 1 + 1) ho (by simp)); have HB2 := Aside0.mk (Below.trans (below_alloc (below_alloc (below_alloc (Below.refl w.heap.size w) _) _) _) (hb2.mono (by simp; omega))); clear hb2 hcl hfz ho) | (go_at_call 80; refine (idx_id A2 c2 l r.id _ _ (Kd.R_reads' (flat_put (flat_put HO2.out (by omega)) (by omega))).2.2 (Nat.le_trans hlen (by decide)) ?hc1).mono ?_; (case hc1 => first | (go_simp; done) | (simp [go_sem, *]; done)); rintro e w3 ⟨rfl, hb3⟩; obtain ⟨hcl, hfz⟩ := bcell hb3; have zi0 : ¬ (w.heap.size = w3.heap.size) := (by have h_ := hb3.size; simp at h_; omega); have yi0 : w.heap.size < w3.heap.size := (by have h_ := hb3.size; simp at h_; omega); have ci0_0 : w3.cell? ⟨w.heap.size, 0, none⟩ = some (.slice A2 l.length c2) := (by rw [hcl _ _ (by first | omega | (simp; done) | (simp; omega))]; first | (go_simp; done) | (simp [*]; done) | (simp [go_sem, *]; done)); have fi0_0 : w3.frozen? ⟨w.heap.size, 0, none⟩ = false := (by rw [hfz _ _ (by first | omega | (simp; done) | (simp; omega))]; first | (go_simp; done) | (simp [*]; done) | (simp [go_sem, *]; done)); have ci0_1 : w3.cell? ⟨w.heap.size, 1, none⟩ = some (.int .i64 nx) := (by rw [hcl _ _ (by first | omega | (simp; done) | (simp; omega))]; first | (go_simp; done) | (simp [*]; done) | (simp [go_sem, *]; done)); have fi0_1 : w3.frozen? ⟨w.heap.size, 1, none⟩ = false := (by rw [hfz _ _ (by first | omega | (simp; done) | (simp; omega))]; first | (go_simp; done) | (simp [*]; done) | (simp [go_sem, *]; done)); have zi1 : ¬ (w.heap.size + 1 = w3.heap.size) := (by have h_ := hb3.size; simp at h_; omega); have yi1 : w.heap.size + 1 < w3.heap.size := (by have h_ := hb3.size; simp at h_; omega); have ci1_0 : w3.cell? ⟨w.heap.size + 1, 0, none⟩ = some (.int .u8 r.kind) := (by rw [hcl _ _ (by first | omega | (simp; done) | (simp; omega))]; first | (go_simp; done) | (simp [*]; done) | (simp [go_sem, *]; done)); have ci1_1 : w3.cell? ⟨w.heap.size + 1, 1, none⟩ = some (.int .i64 r.id) := (by rw [hcl _ _ (by first | omega | (simp; done) | (simp; omega))]; first | (go_simp; done) | (simp [*]; done) | (simp [go_sem, *]; done)); have ci1_36 : w3.cell? ⟨w.heap.size + 1, 36, none⟩ = some (.int .i64 r.off) := (by rw [hcl _ _ (by first | omega | (simp; done) | (simp; omega))]; first | (go_simp; done) | (simp [*]; done) | (simp [go_sem, *]; done)); have zi2 : ¬ (w.heap.size + 1 + 1 = w3.heap.size) := (by have h_ := hb3.size; simp at h_; omega); have yi2 : w.heap.size + 1 + 1 < w3.heap.size := (by have h_ := hb3.size; simp at h_; omega); have ci2_0 : w3.cell? ⟨w.heap.size + 1 + 1, 0, none⟩ = some (.slice none 0 0) := (by rw [hcl _ _ (by first | omega | (simp; done) | (simp; omega))]; first | (go_simp; done) | (simp [*]; done) | (simp [go_sem, *]; done)); have fi2_0 : w3.frozen? ⟨w.heap.size + 1 + 1, 0, none⟩ = false := (by rw [hfz _ _ (by first | omega | (simp; done) | (simp; omega))]; first | (go_simp; done) | (simp [*]; done) | (simp [go_sem, *]; done)); have ci2_1 : w3.cell? ⟨w.heap.size + 1 + 1, 1, none⟩ = some (.int .i64 0) := (by rw [hcl _ _ (by first | omega | (simp; done) | (simp; omega))]; first | (go_simp; done) | (simp [*]; done) | (simp [go_sem, *]; done)); have fi2_1 : w3.frozen? ⟨w.heap.size + 1 + 1, 1, none⟩ = false := (by rw [hfz _ _ (by first | omega | (simp; done) | (simp; omega))]; first | (go_simp; done) | (simp [*]; done) | (simp [go_sem, *]; done)); have ri0 : rowAt w3 ⟨w.heap.size + 1, 0, none⟩ 37 = some (rcL r) := (by rw [rowAt_below hb3 (by first | omega | (simp; done) | (simp; omega))]; first | (go_simp; done) | (simp [*]; done) | (simp [go_sem, *]; done)); have HO3 := Aside0.mk (Kd.R_below (flat_put (flat_put HO2.out (by omega)) (by omega)) hb3); have HB3 := Aside0.mk (Below.trans (below_setCell (below_setCell HB2.out (by omega) _) (by omega) _) (hb3.mono (by simp; omega))); clear hb3 hcl hfz; rw [HI.out]; have HG0 := Aside0.mk HB3.out.size))
  refine still_tail_at 23 (by kernel_rfl) (by kernel_rfl) ?_
  intro W hW
  have HOW := Aside0.mk (show Kd.R kPt 75 W (w.heap.size + 1 + 1 + 1) (fun _ => True) (.slice A2 l.length c2) l from by rw [hW]; exact Kd.R_drew HO3.out)
  have HBW := Aside0.mk (show Below w.heap.size w W from by rw [hW]; exact below_drew HB3.out)
  have HZ := Aside0.mk (show W.cell? ⟨w.heap.size, 0, none⟩ = some (.slice A2 l.length c2) ∧ W.cell? ⟨w.heap.size, 1, none⟩ = some (.int .i64 nx) ∧ W.frozen? ⟨w.heap.size, 0, none⟩ = false ∧ W.frozen? ⟨w.heap.size, 1, none⟩ = false ∧ W.cell? ⟨w.heap.size + 1 + 1, 0, none⟩ = some (.slice none 0 0) ∧ W.cell? ⟨w.heap.size + 1 + 1, 1, none⟩ = some (.int .i64 0) ∧ W.frozen? ⟨w.heap.size + 1 + 1, 0, none⟩ = false ∧ W.frozen? ⟨w.heap.size + 1 + 1, 1, none⟩ = false from by rw [hW]; exact ⟨ci0_0, ci0_1, fi0_0, fi0_1, ci2_0, ci2_1, fi2_0, fi2_1⟩)
  clear hW z0 y0 c0_0 f0_0 c0_1 f0_1 z1 y1 c1_0 c1_1 c1_36 z2 y2 c2_0 f2_0 c2_1 f2_1 r0 zi0 yi0 ci0_0 fi0_0 ci0_1 fi0_1 zi1 yi1 ci1_0 ci1_1 ci1_36 zi2 yi2 ci2_0 fi2_0 ci2_1 fi2_1 ri0 
  simp only [List.take_succ_cons, List.take_zero, List.drop_succ_cons, List.drop_zero]
  repeat (first | ((with_reducible refine wpStill_plain ?hg (fun K hK => ?_)); (case hg => with_reducible rfl); go_simp; refine still_back hK ?_; clear hK K) | ((with_reducible refine wpStill_skip ?hg (fun K hK => ?_)); (case hg => exact rfl); go_simp; refine still_back hK ?_; clear hK K) | ((with_reducible refine wpStill_held ?hg (fun K hK => ?_)); (case hg => exact rfl); go_simp; refine still_back hK ?_; clear hK K))
  refine wpStill_nil ?_
  obtain ⟨j0, j1, j2, j3, j4, j5, j6, j7⟩ := HZ.out
  go_wp2
  refine bodyPost_ret (v := .tuple #[.agg #[.slice A2 l.length c2, .int .i64 nx], .bool false]) (by simp [results, Tryd.results27, go_sem, *]) rfl ⟨_, by rw [HP.out], ?_, ?_⟩
  · rw [HP.out]; exact Kd.R_lower (flat_put (flat_put (HOW.out) (by omega)) (by omega)) (by omega)
  · have hs3 := HG0.out; (repeat' (first | exact HBW.out | (with_reducible refine below_setCell ?_ ?_ _) | (with_reducible refine below_setRow ?_ ?_ _) | (with_reducible refine Below.alloc ?_ ?_ _) | (with_reducible refine below_drew ?_) | (with_reducible refine pw_below_drewN ?_ _) | (with_reducible exact Below.refl _ _) | omega | (simp; done) | (simp; omega)))
end Go.Proofs.YtiohgpcbdefokaaDoor.B
/- record.Step, whole. No condition. -/
namespace Go.Proofs.YtiohgpcbdefokaaDoor.B
open Go.RowKit Go.Proofs.YtiohgpcbdefokaaDoorW.PrintWords Go.Proofs.YtiohgpcbdefokaaDoor.RowLaws
attribute [local go_sem ↓ high] lvO_hs ldO_hs stO_hs lvO_pt ldO_pt stO_pt zero_pt eqA_pt lvO_ptR ldO_ptR stO_ptR zero_ptR eqA_ptR lvO_rc ldO_rc stO_rc zero_rc eqA_rc lvO_rcR ldO_rcR stO_rcR zero_rcR eqA_rcR lvO_tk ldO_tk stO_tk zero_tk eqA_tk lvO_tkR ldO_tkR stO_tkR zero_tkR eqA_tkR lvO_it ldO_it stO_it zero_it eqA_it blO_pt blO_ptR blO_rc blO_rcR blO_tk blO_tkR blO_it bsO_pt bsO_ptR bsO_rc bsO_rcR bsO_it
attribute [local go_sem high] rowAt_setCell rowAt_setRow cell_setRow_ne isRow_setRow_ne rowAt_alloc rowAt_drew isRow_alloc isRow_drew isRow_setCell rowRun_some okL_hs ldV_hs ldA_hs stA_hs setRow_alloc get_pt_id get_pt_path cut_pt_sum get_pt_size get_pt_off cut_pt okL_pt size_pt lenb_pt eta_pt ldV_pt ldA_pt stA_pt ldV_ptR ldA_ptR stA_ptR get_rc_kind get_rc_id get_rc_path cut_rc_sum get_rc_size get_rc_off cut_rc okL_rc size_rc lenb_rc eta_rc ldV_rc ldA_rc stA_rc ldV_rcR ldA_rcR stA_rcR get_tk_path cut_tk_sum get_tk_size get_tk_off cut_tk_old cut_tk okL_tk size_tk lenb_tk eta_tk ldV_tk ldA_tk stA_tk ldV_tkR ldA_tkR stA_tkR get_it_path get_it_dir get_it_size cut_it_sum cut_it okL_it size_it lenb_it eta_it ldV_it ldA_it stA_it bld_pt_01234 bld_pt_0123 bld_pt_z bld_ptR_01234 bld_ptR_0123 bld_ptR_z bld_rc_012345 bld_rc_015 bld_rc_01 bld_rc_z bld_rc_01234 bld_rc_24 bld_rc_05 bld_rc_0 bld_rcR_012345 bld_rcR_015 bld_rcR_01 bld_rcR_z bld_rcR_01234 bld_rcR_24 bld_rcR_05 bld_rcR_0 bld_tk_01234 bld_tk_0 bld_tk_z bld_tkR_01234 bld_tkR_0 bld_tkR_z bld_it_0123 bld_it_023 bld_it_01 bld_it_0 bld_it_z bs0_pt bs1_pt bs0_ptR bs1_ptR bs0_rc bs1_rc bs0_rcR bs1_rcR bs0_it bs1_it
set_option linter.unusedVariables false in
set_option maxHeartbeats 8000000 in
set_option maxRecDepth 100000 in
theorem Step_begin (A : Option Addr) (c : Nat) (l : List Pt) (nx : Int) (r : Rc) (w : World) (hC : Kd.C kPt w A l.length l) (hc : l.length ≤ c) (hlen : l.length ≤ 64) (hid : r.id ≤ 2199023255552) (hid0 : -9223372036854775808 ≤ r.id) (hk : r.kind = 0) :
    Calls Tryd.prog 27 #[.agg #[.slice A l.length c, .int .i64 nx], .agg (rcL r).toArray] w fun e w' => ∃ v : Value, e = .returned (.tuple #[.agg #[v, .int .i64 (stepP ⟨l, nx⟩ r).1.next], .bool (stepP ⟨l, nx⟩ r).2]) ∧ Kd.R kPt 75 w' w.heap.size (fun _ => True) v (stepP ⟨l, nx⟩ r).1.parts ∧ Below w.heap.size w w' := by
  have HC := Aside0.mk hC
  clear hC
  obtain ⟨q, hq⟩ : ∃ q, beginP ⟨l, nx⟩ r = q := ⟨_, rfl⟩
  have HQ := Aside0.mk hq
  have HP := Aside0.mk (show stepP ⟨l, nx⟩ r = q by unfold stepP; rw [if_pos hk, hq])
  clear hq
  obtain ⟨⟨ql, qn⟩, qb⟩ := q
  go_enter Tryd.func27, Tryd.ntmps27
  go_wp2_with (first | (go_at_call 79; refine (ownS_calls A c l nx _ (Kd.C_below HC.out ?_) hc (Nat.le_trans hlen (by decide))).mono ?_; (exact below_alloc (below_alloc (below_alloc (Below.refl _ _) _) _) _); rintro e w2 ⟨v, rfl, ho, hb2⟩; obtain ⟨A2, c2, rfl⟩ := Kd.R_slice ho; obtain ⟨hcl, hfz⟩ := bcell hb2; have z0 : ¬ (w.heap.size = w2.heap.size) := (by have h_ := hb2.size; simp at h_; omega); have y0 : w.heap.size < w2.heap.size := (by have h_ := hb2.size; simp at h_; omega); have c0_0 : w2.cell? ⟨w.heap.size, 0, none⟩ = some (.slice A l.length c) := (by rw [hcl _ _ (by first | omega | (simp; done) | (simp; omega))]; first | (go_simp; done) | (simp [*]; done) | (simp [go_sem, *]; done)); have f0_0 : w2.frozen? ⟨w.heap.size, 0, none⟩ = false := (by rw [hfz _ _ (by first | omega | (simp; done) | (simp; omega))]; first | (go_simp; done) | (simp [*]; done) | (simp [go_sem, *]; done)); have c0_1 : w2.cell? ⟨w.heap.size, 1, none⟩ = some (.int .i64 nx) := (by rw [hcl _ _ (by first | omega | (simp; done) | (simp; omega))]; first | (go_simp; done) | (simp [*]; done) | (simp [go_sem, *]; done)); have f0_1 : w2.frozen? ⟨w.heap.size, 1, none⟩ = false := (by rw [hfz _ _ (by first | omega | (simp; done) | (simp; omega))]; first | (go_simp; done) | (simp [*]; done) | (simp [go_sem, *]; done)); have z1 : ¬ (w.heap.size + 1 = w2.heap.size) := (by have h_ := hb2.size; simp at h_; omega); have y1 : w.heap.size + 1 < w2.heap.size := (by have h_ := hb2.size; simp at h_; omega); have c1_0 : w2.cell? ⟨w.heap.size + 1, 0, none⟩ = some (.int .u8 r.kind) := (by rw [hcl _ _ (by first | omega | (simp; done) | (simp; omega))]; first | (go_simp; done) | (simp [*]; done) | (simp [go_sem, *]; done)); have c1_1 : w2.cell? ⟨w.heap.size + 1, 1, none⟩ = some (.int .i64 r.id) := (by rw [hcl _ _ (by first | omega | (simp; done) | (simp; omega))]; first | (go_simp; done) | (simp [*]; done) | (simp [go_sem, *]; done)); have c1_36 : w2.cell? ⟨w.heap.size + 1, 36, none⟩ = some (.int .i64 r.off) := (by rw [hcl _ _ (by first | omega | (simp; done) | (simp; omega))]; first | (go_simp; done) | (simp [*]; done) | (simp [go_sem, *]; done)); have z2 : ¬ (w.heap.size + 1 + 1 = w2.heap.size) := (by have h_ := hb2.size; simp at h_; omega); have y2 : w.heap.size + 1 + 1 < w2.heap.size := (by have h_ := hb2.size; simp at h_; omega); have c2_0 : w2.cell? ⟨w.heap.size + 1 + 1, 0, none⟩ = some (.slice none 0 0) := (by rw [hcl _ _ (by first | omega | (simp; done) | (simp; omega))]; first | (go_simp; done) | (simp [*]; done) | (simp [go_sem, *]; done)); have f2_0 : w2.frozen? ⟨w.heap.size + 1 + 1, 0, none⟩ = false := (by rw [hfz _ _ (by first | omega | (simp; done) | (simp; omega))]; first | (go_simp; done) | (simp [*]; done) | (simp [go_sem, *]; done)); have c2_1 : w2.cell? ⟨w.heap.size + 1 + 1, 1, none⟩ = some (.int .i64 0) := (by rw [hcl _ _ (by first | omega | (simp; done) | (simp; omega))]; first | (go_simp; done) | (simp [*]; done) | (simp [go_sem, *]; done)); have f2_1 : w2.frozen? ⟨w.heap.size + 1 + 1, 1, none⟩ = false := (by rw [hfz _ _ (by first | omega | (simp; done) | (simp; omega))]; first | (go_simp; done) | (simp [*]; done) | (simp [go_sem, *]; done)); have r0 : rowAt w2 ⟨w.heap.size + 1, 0, none⟩ 37 = some (rcL r) := (by rw [rowAt_below hb2 (by first | omega | (simp; done) | (simp; omega))]; first | (go_simp; done) | (simp [*]; done) | (simp [go_sem, *]; done)); have HO2 := Aside0.mk (Kd.R_lower (base' := w.heap.size + 1 + 1 + 1) ho (by simp)); have HB2 := Aside0.mk (Below.trans (below_alloc (below_alloc (below_alloc (Below.refl w.heap.size w) _) _) _) (hb2.mono (by simp; omega))); clear hb2 hcl hfz ho) | (go_at_call 80; refine (idx_id A2 c2 l r.id _ _ (Kd.R_reads' (flat_put (flat_put HO2.out (by omega)) (by omega))).2.2 (Nat.le_trans hlen (by decide)) ?hc1).mono ?_; (case hc1 => first | (go_simp; done) | (simp [go_sem, *]; done)); rintro e w3 ⟨rfl, hb3⟩; obtain ⟨hcl, hfz⟩ := bcell hb3; have zi0 : ¬ (w.heap.size = w3.heap.size) := (by have h_ := hb3.size; simp at h_; omega); have yi0 : w.heap.size < w3.heap.size := (by have h_ := hb3.size; simp at h_; omega); have ci0_0 : w3.cell? ⟨w.heap.size, 0, none⟩ = some (.slice A2 l.length c2) := (by rw [hcl _ _ (by first | omega | (simp; done) | (simp; omega))]; first | (go_simp; done) | (simp [*]; done) | (simp [go_sem, *]; done)); have fi0_0 : w3.frozen? ⟨w.heap.size, 0, none⟩ = false := (by rw [hfz _ _ (by first | omega | (simp; done) | (simp; omega))]; first | (go_simp; done) | (simp [*]; done) | (simp [go_sem, *]; done)); have ci0_1 : w3.cell? ⟨w.heap.size, 1, none⟩ = some (.int .i64 nx) := (by rw [hcl _ _ (by first | omega | (simp; done) | (simp; omega))]; first | (go_simp; done) | (simp [*]; done) | (simp [go_sem, *]; done)); have fi0_1 : w3.frozen? ⟨w.heap.size, 1, none⟩ = false := (by rw [hfz _ _ (by first | omega | (simp; done) | (simp; omega))]; first | (go_simp; done) | (simp [*]; done) | (simp [go_sem, *]; done)); have zi1 : ¬ (w.heap.size + 1 = w3.heap.size) := (by have h_ := hb3.size; simp at h_; omega); have yi1 : w.heap.size + 1 < w3.heap.size := (by have h_ := hb3.size; simp at h_; omega); have ci1_0 : w3.cell? ⟨w.heap.size + 1, 0, none⟩ = some (.int .u8 r.kind) := (by rw [hcl _ _ (by first | omega | (simp; done) | (simp; omega))]; first | (go_simp; done) | (simp [*]; done) | (simp [go_sem, *]; done)); have ci1_1 : w3.cell? ⟨w.heap.size + 1, 1, none⟩ = some (.int .i64 r.id) := (by rw [hcl _ _ (by first | omega | (simp; done) | (simp; omega))]; first | (go_simp; done) | (simp [*]; done) | (simp [go_sem, *]; done)); have ci1_36 : w3.cell? ⟨w.heap.size + 1, 36, none⟩ = some (.int .i64 r.off) := (by rw [hcl _ _ (by first | omega | (simp; done) | (simp; omega))]; first | (go_simp; done) | (simp [*]; done) | (simp [go_sem, *]; done)); have zi2 : ¬ (w.heap.size + 1 + 1 = w3.heap.size) := (by have h_ := hb3.size; simp at h_; omega); have yi2 : w.heap.size + 1 + 1 < w3.heap.size := (by have h_ := hb3.size; simp at h_; omega); have ci2_0 : w3.cell? ⟨w.heap.size + 1 + 1, 0, none⟩ = some (.slice none 0 0) := (by rw [hcl _ _ (by first | omega | (simp; done) | (simp; omega))]; first | (go_simp; done) | (simp [*]; done) | (simp [go_sem, *]; done)); have fi2_0 : w3.frozen? ⟨w.heap.size + 1 + 1, 0, none⟩ = false := (by rw [hfz _ _ (by first | omega | (simp; done) | (simp; omega))]; first | (go_simp; done) | (simp [*]; done) | (simp [go_sem, *]; done)); have ci2_1 : w3.cell? ⟨w.heap.size + 1 + 1, 1, none⟩ = some (.int .i64 0) := (by rw [hcl _ _ (by first | omega | (simp; done) | (simp; omega))]; first | (go_simp; done) | (simp [*]; done) | (simp [go_sem, *]; done)); have fi2_1 : w3.frozen? ⟨w.heap.size + 1 + 1, 1, none⟩ = false := (by rw [hfz _ _ (by first | omega | (simp; done) | (simp; omega))]; first | (go_simp; done) | (simp [*]; done) | (simp [go_sem, *]; done)); have ri0 : rowAt w3 ⟨w.heap.size + 1, 0, none⟩ 37 = some (rcL r) := (by rw [rowAt_below hb3 (by first | omega | (simp; done) | (simp; omega))]; first | (go_simp; done) | (simp [*]; done) | (simp [go_sem, *]; done)); have HO3 := Aside0.mk (Kd.R_below (flat_put (flat_put HO2.out (by omega)) (by omega)) hb3); have HB3 := Aside0.mk (Below.trans (below_setCell (below_setCell HB2.out (by omega) _) (by omega) _) (hb3.mono (by simp; omega))); clear hb3 hcl hfz; have HG0 := Aside0.mk HB3.out.size) | (go_at_call 82; refine (begins_calls A2 c2 l nx r (w.heap.size + 1 + 1 + 1) _ HO3.out hlen (by omega) hid hid0).mono ?_; rintro e w4 ⟨v4, he4, ho4, hb4⟩; rw [HQ.out] at he4 ho4; subst he4; obtain ⟨A4, c4, rfl⟩ := Kd.R_slice ho4; have hcl : ∀ b o, b < w.heap.size + 1 + 1 + 1 → w4.cell? ⟨b, o, none⟩ = w3.cell? ⟨b, o, none⟩ := fun b o h => hb4.cell (p := ⟨b, o, none⟩) h; have hfz : ∀ b o, b < w.heap.size + 1 + 1 + 1 → w4.frozen? ⟨b, o, none⟩ = w3.frozen? ⟨b, o, none⟩ := fun b o h => hb4.frozen (p := ⟨b, o, none⟩) h; have cd0_0 : w4.cell? ⟨w.heap.size + 1 + 1, 0, none⟩ = some (.slice none 0 0) := (by rw [hcl _ _ (by first | omega | (simp; done) | (simp; omega))]; first | (go_simp; done) | (simp [*]; done) | (simp [go_sem, *]; done)); have fd0_0 : w4.frozen? ⟨w.heap.size + 1 + 1, 0, none⟩ = false := (by rw [hfz _ _ (by first | omega | (simp; done) | (simp; omega))]; first | (go_simp; done) | (simp [*]; done) | (simp [go_sem, *]; done)); have cd0_1 : w4.cell? ⟨w.heap.size + 1 + 1, 1, none⟩ = some (.int .i64 0) := (by rw [hcl _ _ (by first | omega | (simp; done) | (simp; omega))]; first | (go_simp; done) | (simp [*]; done) | (simp [go_sem, *]; done)); have fd0_1 : w4.frozen? ⟨w.heap.size + 1 + 1, 1, none⟩ = false := (by rw [hfz _ _ (by first | omega | (simp; done) | (simp; omega))]; first | (go_simp; done) | (simp [*]; done) | (simp [go_sem, *]; done)); have HO4 := Aside0.mk ho4; have HB4 := Aside0.mk (HB3.out.trans (hb4.mono (by omega))); clear ho4 hb4 hcl hfz))
  refine bodyPost_ret (v := .tuple #[.agg #[.slice A4 ql.length c4, .int .i64 qn], .bool qb]) (by simp [results, Tryd.results27, go_sem, *]) rfl ⟨_, by rw [HP.out], ?_, ?_⟩
  · rw [HP.out]; exact Kd.R_lower (flat_put (flat_put (HO4.out) (by omega)) (by omega)) (by omega)
  · (repeat' (first | exact HB4.out | (with_reducible refine below_setCell ?_ ?_ _) | (with_reducible refine below_setRow ?_ ?_ _) | (with_reducible refine Below.alloc ?_ ?_ _) | (with_reducible refine below_drew ?_) | (with_reducible refine pw_below_drewN ?_ _) | (with_reducible exact Below.refl _ _) | omega | (simp; done) | (simp; omega)))
theorem Step_calls (A : Option Addr) (c : Nat) (l : List Pt) (nx : Int) (r : Rc) (w : World) (hC : Kd.C kPt w A l.length l) (hc : l.length ≤ c) (hlen : l.length ≤ 64) (hid : r.id ≤ 2199023255552) (hid0 : -9223372036854775808 ≤ r.id) :
    Calls Tryd.prog 27 #[.agg #[.slice A l.length c, .int .i64 nx], .agg (rcL r).toArray] w fun e w' => ∃ v : Value, e = .returned (.tuple #[.agg #[v, .int .i64 (stepP ⟨l, nx⟩ r).1.next], .bool (stepP ⟨l, nx⟩ r).2]) ∧ Kd.R kPt 75 w' w.heap.size (fun _ => True) v (stepP ⟨l, nx⟩ r).1.parts ∧ Below w.heap.size w w' := by
  by_cases h0 : r.kind = 0
  · exact Step_begin A c l nx r w hC hc hlen hid hid0 h0
  by_cases h4 : r.kind = 4
  · by_cases h : r.id < nx
    · exact Step_skip0 A c l nx r w hC hc hlen hid hid0 h4 h
    · exact Step_skip1 A c l nx r w hC hc hlen hid hid0 h4 h
  by_cases h1 : r.kind = 1
  · cases hn : l.findIdx? (fun x => decide (x.id = r.id)) with
    | none => exact Step_mark0 A c l nx r w hC hc hlen hid hid0 h1 hn
    | some i =>
      obtain ⟨hil, _, _⟩ := List.findIdx?_eq_some_iff_getElem.1 hn
      have hx : l[i]? = some l[i] := List.getElem?_eq_getElem hil
      by_cases h2 : r.off < l[i].off
      · exact Step_mark1 A c l nx r w hC hc hlen hid hid0 h1 i _ hn hx h2
      by_cases h3 : l[i].size < r.off
      · exact Step_mark2 A c l nx r w hC hc hlen hid hid0 h1 i _ hn hx h2 h3
      · exact Step_mark3 A c l nx r w hC hc hlen hid hid0 h1 i _ hn hx h2 h3
  by_cases h2 : r.kind = 2 ∨ r.kind = 3
  · cases hn : l.findIdx? (fun x => decide (x.id = r.id)) with
    | none => exact Step_del0 A c l nx r w hC hc hlen hid hid0 h2 hn
    | some i => exact Step_del1 A c l nx r w hC hc hlen hid hid0 i h2 hn
  · exact Step_other A c l nx r w hC hc hlen hid hid0 h0 h1 (fun h => h2 (.inl h)) (fun h => h2 (.inr h)) h4
#print axioms Step_calls
end Go.Proofs.YtiohgpcbdefokaaDoor.B
/- What RecordRises asks, in plain words: what a record that may be makes of a state keeps its order. No condition. -/
namespace Go.Proofs.YtiohgpcbdefokaaDoor.B
/-- Parts with rising IDs below the next one, unlike paths, offsets up to their sizes. -/
structure Good (s : St) : Prop where
  few : s.parts.length ≤ 64
  at_ : ∀ x ∈ s.parts, x.id < s.next ∧ 0 ≤ x.off ∧ x.off ≤ x.size
  ids : s.parts.Pairwise (fun a b => a.id < b.id)
  paths : s.parts.Pairwise (fun a b => a.path ≠ b.path)
theorem good_zero : Good St.zero := ⟨by decide, (by intro x hx; cases hx), .nil, .nil⟩
theorem findP_mem {l : List Pt} (h : l.Pairwise (fun a b => a.path ≠ b.path)) {x : Pt} (hx : x ∈ l) : findP l x.path = (x, true) := by
  obtain ⟨i, hi, rfl⟩ := List.getElem_of_mem hx
  refine findP_some (i := i) (List.getElem?_eq_getElem hi) (by simp) fun j hj y hy => ?_
  have hjl : j < l.length := by omega
  rw [List.getElem?_eq_getElem hjl] at hy
  injection hy with hy
  have := (List.pairwise_iff_getElem.1 h) j i hjl hi hj
  subst hy
  simpa using this
theorem findP_true {l : List Pt} {p : ByteArray} {x : Pt} (h : findP l p = (x, true)) : x ∈ l ∧ x.path = p := by
  unfold findP at h
  cases hf : l.find? (fun x => decide (x.path = p)) with
  | none => rw [hf] at h; cases h
  | some y =>
    rw [hf] at h
    injection h with h _
    subst h
    exact ⟨List.mem_of_find?_eq_some hf, by simpa using List.find?_some hf⟩
theorem findP_ne {l : List Pt} {p : ByteArray} (h : ¬ (findP l p).2 = true) : ∀ x ∈ l, x.path ≠ p := by
  intro x hx he
  unfold findP at h
  cases hf : l.find? (fun x => decide (x.path = p)) with
  | none => rw [List.find?_eq_none] at hf; exact hf x hx (by simp [he])
  | some y => rw [hf] at h; exact h rfl
/-- What becomes of a state: it stays good; refused it is as it was; the next number never falls, nor an offset. -/
structure Goes (s t : St) (ok : Bool) : Prop where
  good : Good t
  same : ok = false → t = s
  next : s.next ≤ t.next
  off : ∀ p ∈ t.parts, ∀ old, findP s.parts p.path = (old, true) → old.id = p.id → old.off ≤ p.off
theorem goes_refl {s : St} (h : Good s) : Goes s s false := ⟨h, fun _ => rfl, Int.le_refl _, fun p hp old ho _ => by rw [findP_mem h.paths hp] at ho; injection ho with ho; rw [ho]; exact Int.le_refl _⟩
theorem mem_set {α : Type} {l : List α} {i : Nat} {y x : α} (h : x ∈ l.set i y) : x = y ∨ x ∈ l := by
  rcases List.mem_or_eq_of_mem_set h with h | h
  · exact .inr h
  · exact .inl h
theorem goes_set {s : St} {i : Nat} {p : Pt} {o : Int} (h : Good s) (hi : s.parts[i]? = some p) (h1 : p.off ≤ o) (h2 : o ≤ p.size) : Goes s ⟨s.parts.set i { p with off := o }, s.next⟩ true := by
  have hp := List.mem_of_getElem? hi
  have h0 := h.at_ p hp
  have hil := (List.getElem?_eq_some_iff.1 hi)
  have key : ∀ j (hj : j < (s.parts.set i { p with off := o }).length), ((s.parts.set i { p with off := o })[j]).id = (s.parts[j]'(by simpa using hj)).id ∧ ((s.parts.set i { p with off := o })[j]).path = (s.parts[j]'(by simpa using hj)).path := by
    intro j hj
    rw [List.getElem_set]
    split
    · rename_i he
      subst he
      rw [hil.2]; exact ⟨rfl, rfl⟩
    · exact ⟨rfl, rfl⟩
  refine ⟨⟨by simpa using h.few, ?_, ?_, ?_⟩, (by intro h; cases h), Int.le_refl _, ?_⟩
  · intro x hx
    rcases mem_set hx with rfl | hx
    · exact ⟨h0.1, Int.le_trans h0.2.1 h1, h2⟩
    · exact h.at_ x hx
  · rw [List.pairwise_iff_getElem]
    intro a b ha hb hab
    have := (List.pairwise_iff_getElem.1 h.ids) a b (by simpa using ha) (by simpa using hb) hab
    rw [(key a ha).1, (key b hb).1]; exact this
  · rw [List.pairwise_iff_getElem]
    intro a b ha hb hab
    have := (List.pairwise_iff_getElem.1 h.paths) a b (by simpa using ha) (by simpa using hb) hab
    rw [(key a ha).2, (key b hb).2]; exact this
  · intro x hx old ho _
    rcases mem_set hx with rfl | hx
    · have e : findP s.parts p.path = (p, true) := findP_mem h.paths hp
      have ho : findP s.parts p.path = (old, true) := ho
      rw [e] at ho
      injection ho with ho
      rw [← ho]; exact h1
    · rw [findP_mem h.paths hx] at ho
      injection ho with ho
      rw [ho]; exact Int.le_refl _
theorem goes_erase {s : St} {i : Nat} (h : Good s) : Goes s ⟨s.parts.eraseIdx i, s.next⟩ true := by
  have hs : (s.parts.eraseIdx i).Sublist s.parts := List.eraseIdx_sublist _ _
  refine ⟨⟨Nat.le_trans hs.length_le h.few, fun x hx => h.at_ x (hs.subset hx), h.ids.sublist hs, h.paths.sublist hs⟩, (by intro h; cases h), Int.le_refl _, fun x hx old ho _ => ?_⟩
  rw [findP_mem h.paths (hs.subset hx)] at ho
  injection ho with ho
  rw [ho]; exact Int.le_refl _
theorem goes_skip {s : St} {n : Int} (h : Good s) (hn : s.next ≤ n) : Goes s ⟨s.parts, n + 1⟩ true := by
  refine ⟨⟨h.few, fun x hx => ?_, h.ids, h.paths⟩, (by intro h; cases h), by show s.next ≤ n + 1; omega, fun x hx old ho _ => ?_⟩
  · have := h.at_ x hx
    exact ⟨by show x.id < n + 1; omega, this.2⟩
  · rw [findP_mem h.paths hx] at ho
    injection ho with ho
    rw [ho]; exact Int.le_refl _
theorem goes_begin {s : St} {r : Rc} (h : Good s) (hz : 0 ≤ r.size) : Goes s (beginP s r).1 (beginP s r).2 := by
  unfold beginP
  split
  · exact goes_refl h
  · rename_i hn
    have h1 : ¬ (findP s.parts r.path).2 = true := fun e => hn (.inl e)
    have h2 : ¬ r.id < s.next := fun e => hn (.inr (.inl e))
    have h3 : ¬ 64 ≤ s.parts.length := fun e => hn (.inr (.inr e))
    have hne := findP_ne h1
    refine ⟨⟨?_, ?_, ?_, ?_⟩, (by intro h; cases h), by show s.next ≤ r.id + 1; omega, ?_⟩
    · show (s.parts ++ [_]).length ≤ 64
      rw [List.length_append]; simp only [List.length_singleton]; omega
    · intro x hx
      rcases List.mem_append.1 hx with hx | hx
      · have := h.at_ x hx
        exact ⟨by show x.id < r.id + 1; omega, this.2⟩
      · obtain rfl := List.mem_singleton.1 hx
        exact ⟨by show r.id < r.id + 1; omega, Int.le_refl _, hz⟩
    · refine List.pairwise_append.2 ⟨h.ids, List.pairwise_singleton _ _, fun a ha b hb => ?_⟩
      obtain rfl := List.mem_singleton.1 hb
      have := (h.at_ a ha).1
      show a.id < r.id
      omega
    · refine List.pairwise_append.2 ⟨h.paths, List.pairwise_singleton _ _, fun a ha b hb => ?_⟩
      obtain rfl := List.mem_singleton.1 hb
      exact hne a ha
    · intro x hx old ho _
      rcases List.mem_append.1 hx with hx | hx
      · rw [findP_mem h.paths hx] at ho
        injection ho with ho
        rw [ho]; exact Int.le_refl _
      · obtain rfl := List.mem_singleton.1 hx
        have ho : findP s.parts r.path = (old, true) := ho
        rw [ho] at h1
        exact absurd rfl h1
theorem goes_step {s : St} {r : Rc} (h : Good s) (hz : r.kind = 0 → 0 ≤ r.size) : Goes s (stepP s r).1 (stepP s r).2 := by
  unfold stepP
  split
  · rename_i h0; exact goes_begin h (hz h0)
  split
  · split
    · exact goes_refl h
    · exact goes_skip h (by omega)
  split
  · split
    · exact goes_refl h
    · rename_i i hi
      split
      · exact goes_refl h
      · rename_i p hp
        split
        · exact goes_refl h
        · rename_i hn
          exact goes_set h hp (by omega) (by omega)
  split
  · split
    · exact goes_refl h
    · exact goes_erase h
  · exact goes_refl h
end Go.Proofs.YtiohgpcbdefokaaDoor.B
/- What RecordImaged asks, in plain words: the image of a good state plays just that. No condition. -/
namespace Go.Proofs.YtiohgpcbdefokaaDoor.B
/-- What records make of a state, and how many were taken. -/
def playAt (s : St) : List Rc → St × Nat
  | [] => (s, 0)
  | r :: l => if (stepP s r).2 = true then (let q := playAt (stepP s r).1 l; (q.1, q.2 + 1)) else (s, 0)
def playP (l : List Rc) : St × Nat := playAt St.zero l
/-- The records of a part. -/
def imgPt (p : Pt) : List Rc := ⟨0, p.id, p.path, p.sum, p.size, 0⟩ :: (if 0 < p.off then [⟨1, p.id, ByteArray.empty, Hs.zero, 0, p.off⟩] else [])
/-- The next number behind parts. -/
def nextOf (l : List Pt) : Int := match l.getLast? with
  | some p => p.id + 1
  | none => 0
def imageP (s : St) : List Rc := s.parts.flatMap imgPt ++ (if nextOf s.parts < s.next then [⟨4, s.next - 1, ByteArray.empty, Hs.zero, 0, 0⟩] else [])
theorem playAt_one {s : St} {r : Rc} {l : List Rc} (h : (stepP s r).2 = true) : playAt s (r :: l) = ((playAt (stepP s r).1 l).1, (playAt (stepP s r).1 l).2 + 1) := by
  show (if (stepP s r).2 = true then _ else _) = _
  rw [if_pos h]
theorem playAt_append {l m : List Rc} : ∀ {s : St}, (playAt s l).2 = l.length → playAt s (l ++ m) = ((playAt (playAt s l).1 m).1, l.length + (playAt (playAt s l).1 m).2) := by
  induction l with
  | nil => intro s _; simp [playAt]
  | cons r l ih =>
    intro s h
    by_cases hs : (stepP s r).2 = true
    · rw [playAt_one hs] at h
      rw [List.cons_append, playAt_one hs, playAt_one hs]
      have h : (playAt (stepP s r).1 l).2 = l.length := by simpa using h
      rw [ih h]
      simp only [List.length_cons]
      congr 1
      omega
    · have : playAt s (r :: l) = (s, 0) := by
        show (if (stepP s r).2 = true then _ else _) = _
        rw [if_neg hs]
      rw [this] at h
      simp at h
/-- A part of the image behind the parts before it. -/
theorem play_part {pre : List Pt} {n : Int} {p : Pt} (hf : findP pre p.path = (Pt.zero, false)) (hn : n ≤ p.id) (hl : pre.length < 64) (ho : 0 ≤ p.off) (hz : p.off ≤ p.size) (hid : ∀ x ∈ pre, x.id ≠ p.id) :
    playAt ⟨pre, n⟩ (imgPt p) = (⟨pre ++ [p], p.id + 1⟩, (imgPt p).length) := by
  have e1 : stepP ⟨pre, n⟩ ⟨0, p.id, p.path, p.sum, p.size, 0⟩ = (⟨pre ++ [⟨p.id, p.path, p.sum, p.size, 0⟩], p.id + 1⟩, true) := by
    unfold stepP
    rw [if_pos rfl]
    unfold beginP
    rw [if_neg]
    simp only [hf]
    intro h
    rcases h with h | h | h
    · cases h
    · omega
    · omega
  unfold imgPt
  by_cases hp : 0 < p.off
  · rw [if_pos hp, playAt_one (by rw [e1]), e1]
    simp only
    have hx : (pre ++ [(⟨p.id, p.path, p.sum, p.size, 0⟩ : Pt)]).findIdx? (fun x => decide (x.id = p.id)) = some pre.length := by
      rw [List.findIdx?_eq_some_iff_getElem]
      refine ⟨by simp, by simp, fun j hj => ?_⟩
      rw [List.getElem_append_left hj]
      have := hid _ (List.getElem_mem hj)
      simpa using this
    have e2 : stepP ⟨pre ++ [⟨p.id, p.path, p.sum, p.size, 0⟩], p.id + 1⟩ ⟨1, p.id, ByteArray.empty, Hs.zero, 0, p.off⟩ = (⟨pre ++ [p], p.id + 1⟩, true) := by
      unfold stepP
      rw [if_neg (show ¬ (1 : Int) = 0 by decide), if_neg (show ¬ (1 : Int) = 4 by decide), if_pos rfl]
      simp only [hx]
      rw [List.getElem?_append_right (Nat.le_refl _)]
      simp only [Nat.sub_self, List.getElem?_cons_zero]
      rw [if_neg (show ¬ (p.off < 0 ∨ p.size < p.off) by omega)]
      congr 2
      rw [List.set_append_right _ _ (Nat.le_refl _)]
      simp
    rw [playAt_one (by rw [e2]), e2]
    simp [playAt]
  · rw [if_neg hp, playAt_one (by rw [e1]), e1]
    simp only [playAt]
    have : p.off = 0 := by omega
    obtain ⟨a, b, c, d, e⟩ := p
    simp only at this
    subst this
    rfl
theorem nextOf_snoc (l : List Pt) (p : Pt) : nextOf (l ++ [p]) = p.id + 1 := by simp [nextOf]
theorem nextOf_le {l : List Pt} {n : Int} (h0 : 0 ≤ n) (h : ∀ x ∈ l, x.id < n) : nextOf l ≤ n := by
  unfold nextOf
  cases hl : l.getLast? with
  | none => exact h0
  | some p => have := h p (List.mem_of_getLast? hl); simp only; omega
theorem findP_none_of {l : List Pt} {p : ByteArray} (h : ∀ x ∈ l, x.path ≠ p) : findP l p = (Pt.zero, false) := findP_none fun x hx => by simpa using h x hx
theorem play_parts {s : St} (hg : Good s) (h0 : ∀ x ∈ s.parts, 0 ≤ x.id) : ∀ k, k ≤ s.parts.length →
    playAt St.zero ((s.parts.take k).flatMap imgPt) = (⟨s.parts.take k, nextOf (s.parts.take k)⟩, ((s.parts.take k).flatMap imgPt).length)
  | 0, _ => rfl
  | k + 1, hk => by
    have ih := play_parts hg h0 k (by omega)
    have hkl : k < s.parts.length := by omega
    have e : s.parts.take (k + 1) = s.parts.take k ++ [s.parts[k]] := List.take_succ_eq_append_getElem hkl
    have hm : s.parts[k] ∈ s.parts := List.getElem_mem hkl
    have ha := hg.at_ _ hm
    have hlt : ∀ x ∈ s.parts.take k, x.id < s.parts[k].id ∧ x.path ≠ s.parts[k].path := by
      intro x hx
      obtain ⟨j, hj, rfl⟩ := List.getElem_of_mem hx
      have hj2 : j < k := by simp at hj; omega
      rw [List.getElem_take]
      exact ⟨(List.pairwise_iff_getElem.1 hg.ids) j k (by omega) hkl hj2, (List.pairwise_iff_getElem.1 hg.paths) j k (by omega) hkl hj2⟩
    rw [e, List.flatMap_append, List.flatMap_cons, List.flatMap_nil, List.append_nil, playAt_append (by rw [ih]), ih]
    simp only
    rw [play_part (findP_none_of fun x hx => (hlt x hx).2) (nextOf_le (h0 _ hm) fun x hx => (hlt x hx).1) (by rw [List.length_take]; have := hg.few; omega) ha.2.1 ha.2.2 (fun x hx => by have := (hlt x hx).1; omega)]
    rw [nextOf_snoc, List.length_append]
/-- The image of a good state plays just that. -/
theorem play_image {s : St} (hg : Good s) (h0 : ∀ x ∈ s.parts, 0 ≤ x.id) (hn : 0 ≤ s.next) : playP (imageP s) = (s, (imageP s).length) := by
  have hp := play_parts hg h0 s.parts.length (Nat.le_refl _)
  rw [List.take_length] at hp
  unfold playP imageP
  have hle := nextOf_le hn fun x hx => (hg.at_ x hx).1
  by_cases h : nextOf s.parts < s.next
  · rw [if_pos h, playAt_append (by rw [hp]), hp]
    have e : stepP ⟨s.parts, nextOf s.parts⟩ ⟨4, s.next - 1, ByteArray.empty, Hs.zero, 0, 0⟩ = (s, true) := by
      unfold stepP
      rw [if_neg (show ¬ (4 : Int) = 0 by decide), if_pos rfl, if_neg (by show ¬ s.next - 1 < nextOf s.parts; omega)]
      obtain ⟨a, b⟩ := s
      simp only [Int.sub_add_cancel]
    rw [playAt_one (by rw [e]), e]
    simp [playAt]
  · rw [if_neg h, List.append_nil, hp]
    have : nextOf s.parts = s.next := by omega
    rw [this]
theorem playAt_nil (s : St) : playAt s [] = (s, 0) := rfl
end Go.Proofs.YtiohgpcbdefokaaDoor.B
/- record.Play: what records make. No condition. -/
namespace Go.Proofs.YtiohgpcbdefokaaDoor.B
open Go.RowKit Go.Proofs.YtiohgpcbdefokaaDoorW.PrintWords Go.Proofs.YtiohgpcbdefokaaDoor.RowLaws
attribute [local go_sem ↓ high] lvO_hs ldO_hs stO_hs lvO_pt ldO_pt stO_pt zero_pt eqA_pt lvO_ptR ldO_ptR stO_ptR zero_ptR eqA_ptR lvO_rc ldO_rc stO_rc zero_rc eqA_rc lvO_rcR ldO_rcR stO_rcR zero_rcR eqA_rcR lvO_tk ldO_tk stO_tk zero_tk eqA_tk lvO_tkR ldO_tkR stO_tkR zero_tkR eqA_tkR lvO_it ldO_it stO_it zero_it eqA_it blO_pt blO_ptR blO_rc blO_rcR blO_tk blO_tkR blO_it bsO_pt bsO_ptR bsO_rc bsO_rcR bsO_it
attribute [local go_sem high] rowAt_setCell rowAt_setRow cell_setRow_ne isRow_setRow_ne rowAt_alloc rowAt_drew isRow_alloc isRow_drew isRow_setCell rowRun_some okL_hs ldV_hs ldA_hs stA_hs setRow_alloc get_pt_id get_pt_path cut_pt_sum get_pt_size get_pt_off cut_pt okL_pt size_pt lenb_pt eta_pt ldV_pt ldA_pt stA_pt ldV_ptR ldA_ptR stA_ptR get_rc_kind get_rc_id get_rc_path cut_rc_sum get_rc_size get_rc_off cut_rc okL_rc size_rc lenb_rc eta_rc ldV_rc ldA_rc stA_rc ldV_rcR ldA_rcR stA_rcR get_tk_path cut_tk_sum get_tk_size get_tk_off cut_tk_old cut_tk okL_tk size_tk lenb_tk eta_tk ldV_tk ldA_tk stA_tk ldV_tkR ldA_tkR stA_tkR get_it_path get_it_dir get_it_size cut_it_sum cut_it okL_it size_it lenb_it eta_it ldV_it ldA_it stA_it bld_pt_01234 bld_pt_0123 bld_pt_z bld_ptR_01234 bld_ptR_0123 bld_ptR_z bld_rc_012345 bld_rc_015 bld_rc_01 bld_rc_z bld_rc_01234 bld_rc_24 bld_rc_05 bld_rc_0 bld_rcR_012345 bld_rcR_015 bld_rcR_01 bld_rcR_z bld_rcR_01234 bld_rcR_24 bld_rcR_05 bld_rcR_0 bld_tk_01234 bld_tk_0 bld_tk_z bld_tkR_01234 bld_tkR_0 bld_tkR_z bld_it_0123 bld_it_023 bld_it_01 bld_it_0 bld_it_z bs0_pt bs1_pt bs0_ptR bs1_ptR bs0_rc bs1_rc bs0_rcR bs1_rcR bs0_it bs1_it
theorem beginP_len (s : St) (r : Rc) (h : s.parts.length ≤ 64) : (beginP s r).1.parts.length ≤ 64 := by
  unfold beginP
  split
  · exact h
  · rename_i hn
    show (s.parts ++ [_]).length ≤ 64
    rw [List.length_append, List.length_singleton]
    have : ¬ 64 ≤ s.parts.length := fun e => hn (.inr (.inr e))
    omega
theorem stepP_len (s : St) (r : Rc) (h : s.parts.length ≤ 64) : (stepP s r).1.parts.length ≤ 64 := by
  unfold stepP
  split
  · exact beginP_len s r h
  split
  · split <;> exact h
  split
  · split
    · exact h
    · split
      · exact h
      · split
        · exact h
        · show (s.parts.set _ _).length ≤ 64
          rw [List.length_set]; exact h
  split
  · split
    · exact h
    · exact Nat.le_trans (List.length_eraseIdx_le _ _) h
  · exact h
/-- IDs that Step can take. -/
def okId (r : Rc) : Prop := r.id ≤ 2199023255552 ∧ -9223372036854775808 ≤ r.id
/-- The boxes of Play, at the loop's head. -/
structure PlayW (w : World) (ps : List Pt) (nx : Int) (wr : World) : Prop where
  b : Below w.heap.size w wr
  z : w.heap.size + 1 + 1 ≤ wr.heap.size
  len : ps.length ≤ 64
  at_ : ∃ A2 c2, wr.cell? ⟨w.heap.size, 0, none⟩ = some (.slice none 0 0) ∧ wr.cell? ⟨w.heap.size, 1, none⟩ = some (.int .i64 0) ∧ wr.cell? ⟨w.heap.size + 1, 0, none⟩ = some (.slice A2 ps.length c2) ∧ wr.cell? ⟨w.heap.size + 1, 1, none⟩ = some (.int .i64 nx) ∧
    wr.frozen? ⟨w.heap.size, 0, none⟩ = false ∧ wr.frozen? ⟨w.heap.size, 1, none⟩ = false ∧ wr.frozen? ⟨w.heap.size + 1, 0, none⟩ = false ∧ wr.frozen? ⟨w.heap.size + 1, 1, none⟩ = false ∧ Kd.R kPt 75 wr (w.heap.size + 1 + 1) (fun _ => True) (.slice A2 ps.length c2) ps
set_option maxHeartbeats 4000000 in
theorem playW_next {w w4 : World} {ql : List Pt} {qn : Int} {A4 : Option Addr} {c4 : Nat} {x y : Value} {o : Obj} (hb : Below w.heap.size w w4) (hz : w.heap.size + 1 + 1 ≤ w4.heap.size) (hl : ql.length ≤ 64)
    (h0 : w4.cell? ⟨w.heap.size, 0, none⟩ = some (.slice none 0 0)) (h1 : w4.cell? ⟨w.heap.size, 1, none⟩ = some (.int .i64 0)) (h2 : w4.cell? ⟨w.heap.size + 1, 0, none⟩ = some x) (h3 : w4.cell? ⟨w.heap.size + 1, 1, none⟩ = some y)
    (f0 : w4.frozen? ⟨w.heap.size, 0, none⟩ = false) (f1 : w4.frozen? ⟨w.heap.size, 1, none⟩ = false) (f2 : w4.frozen? ⟨w.heap.size + 1, 0, none⟩ = false) (f3 : w4.frozen? ⟨w.heap.size + 1, 1, none⟩ = false)
    (hO : Kd.R kPt 75 w4 (w.heap.size + 1 + 1) (fun _ => True) (.slice A4 ql.length c4) ql) :
    PlayW w ql qn (((w4.setCell ⟨w.heap.size + 1, 0, none⟩ (.slice A4 ql.length c4)).setCell ⟨w.heap.size + 1, 1, none⟩ (.int .i64 qn)).alloc o) := by
  have n0 : ¬ (w.heap.size = w4.heap.size) := by omega
  have n1 : ¬ (w.heap.size + 1 = w4.heap.size) := by omega
  have n2 : w.heap.size < w4.heap.size := by omega
  have n3 : w.heap.size + 1 < w4.heap.size := by omega
  refine ⟨below_alloc (below_setCell (below_setCell hb (by omega) _) (by omega) _) _, by simp; omega, hl, A4, c4, ?_, ?_, ?_, ?_, ?_, ?_, ?_, ?_, Kd.R_below (flat_put (flat_put hO (by omega)) (by omega)) (below_alloc (Below.refl _ _) _)⟩ <;> clear hO hb <;> first | (go_simp; done) | (simp [*]; done) | (simp [go_sem, *]; done)
theorem play_step {s t : St} {l : List Rc} {k : Nat} {x : Rc} (hx : l[k]? = some x) (h : stepP s x = (t, true)) : playAt s (l.drop k) = ((playAt t (l.drop (k + 1))).1, (playAt t (l.drop (k + 1))).2 + 1) := by
  obtain ⟨hk, hx⟩ := List.getElem?_eq_some_iff.1 hx
  rw [List.drop_eq_getElem_cons hk, hx, playAt_one (by rw [h]), h]
theorem play_stop {s t : St} {l : List Rc} {k : Nat} {x : Rc} (hx : l[k]? = some x) (h : stepP s x = (t, false)) : playAt s (l.drop k) = (s, 0) := by
  obtain ⟨hk, hx⟩ := List.getElem?_eq_some_iff.1 hx
  rw [List.drop_eq_getElem_cons hk, hx]
  show (if (stepP s x).2 = true then _ else _) = _
  rw [if_neg (by rw [h]; exact Bool.false_ne_true)]
set_option linter.unusedVariables false in
set_option maxHeartbeats 8000000 in
set_option maxRecDepth 100000 in
theorem Play_calls (A : Option Addr) (c : Nat) (l : List Rc) (w : World) (hC : Kd.C kRc w A l.length l) (hlen : l.length ≤ 1000) (hid : ∀ r ∈ l, okId r) :
    Calls Tryd.prog 31 #[.slice A l.length c] w fun e w' => ∃ v : Value, e = .returned (.tuple #[.agg #[v, .int .i64 (playP l).1.next], .int .i64 ((playP l).2 : Nat)]) ∧ Kd.R kPt 75 w' w.heap.size (fun _ => True) v (playP l).1.parts ∧ Below w.heap.size w w' := by
  have HC := Aside0.mk hC
  have HID := Aside0.mk hid
  clear hC hid
  go_enter Tryd.func31, Tryd.ntmps31
  go_wp2
  go_loopw [11] (fun iv wr => ∃ (k : Nat) (ps : List Pt) (nx : Int), k ≤ l.length ∧ iv = .int .i64 k ∧ Aside0 (PlayW w ps nx wr) ∧ Aside0 (playP l = ((playAt ⟨ps, nx⟩ (l.drop k)).1, (playAt ⟨ps, nx⟩ (l.drop k)).2 + k))) (fun iv _ => l.length - (intOf iv).toNat)
  case atStart =>
    refine ⟨0, [], 0, Nat.zero_le _, rfl, ⟨?_⟩, ⟨by rw [List.drop_zero]; rfl⟩⟩
    refine ⟨below_alloc (below_alloc (Below.refl _ _) _) _, by simp, by decide, none, 0, ?_, ?_, ?_, ?_, ?_, ?_, ?_, ?_, Kd.R_nil _ _ _ _ _⟩ <;> first | (go_simp; done) | (simp; done)
  case round =>
    obtain ⟨k, ps, nx, hk, rfl, HW, HP⟩ := hrel
    obtain ⟨A2, c2, m0, m1, m2, m3, m4, m5, m6, m7, hO⟩ := HW.out.at_
    have HB := Aside0.mk HW.out.b
    have hz := HW.out.z
    have HO := Aside0.mk hO
    have HCR := Aside0.mk (Kd.R_reads' hO).2.2
    have HL := Aside0.mk (And.intro HW.out.len (Kd.R_reads' hO).2.1)
    clear hO
    have n2 : w.heap.size < wr.heap.size := by omega
    have n3 : w.heap.size + 1 < wr.heap.size := by omega
    have n0 : ¬ (w.heap.size = wr.heap.size) := by omega
    have n1 : ¬ (w.heap.size + 1 = wr.heap.size) := by omega
    by_cases hlt : k < l.length
    · obtain ⟨b, o, hA, hb, hr⟩ := flat_at HC.out (by decide) (by omega)
      subst hA
      obtain ⟨hrow, _⟩ := hr k hlt
      rw [← rowAt_below HB.out hb] at hrow
      have HX := Aside0.mk (show l[k]? = some l[k] from List.getElem?_eq_getElem hlt)
      have HX1 := Aside0.mk (HID.out l[k] (List.getElem_mem hlt))
      obtain ⟨x, hx⟩ : ∃ x, x = l[k] := ⟨_, rfl⟩
      rw [← hx] at hrow HX HX1
      clear hr hx
      have hlt2 : (k : Int) < (l.length : Int) := by omega
      have HBB := Aside0.mk (show b < wr.heap.size from by have := HB.out.size; omega)
      obtain ⟨q, hq⟩ : ∃ q, stepP ⟨ps, nx⟩ x = q := ⟨_, rfl⟩
      have HLQ := Aside0.mk (stepP_len ⟨ps, nx⟩ x HL.out.1)
      rw [hq] at HLQ
      have HQ := Aside0.mk hq
      clear hq
      obtain ⟨⟨ql, qn⟩, qb⟩ := q
      cases qb with
      | true =>
        go_wp2_with (go_at_call 27; refine (Step_calls A2 c2 ps nx x _ ?hc1 HL.out.2 HL.out.1 HX1.out.1 HX1.out.2).mono ?_; (case hc1 => exact Kd.C_below HCR.out (below_alloc (Below.refl _ _) _)); rintro e w4 ⟨v4, he4, ho4, hb4⟩; rw [HQ.out] at he4 ho4; subst he4; obtain ⟨A4, c4, rfl⟩ := Kd.R_slice ho4; obtain ⟨hcl, hfz⟩ := bcell hb4; have zd0 : ¬ (w.heap.size = w4.heap.size) := (by have h_ := hb4.size; simp at h_; omega); have yd0 : w.heap.size < w4.heap.size := (by have h_ := hb4.size; simp at h_; omega); have cd0_0 : w4.cell? ⟨w.heap.size, 0, none⟩ = some (.slice none 0 0) := (by rw [hcl _ _ (by first | omega | (simp; done) | (simp; omega))]; first | (go_simp; done) | (simp [*]; done) | (simp [go_sem, *]; done)); have fd0_0 : w4.frozen? ⟨w.heap.size, 0, none⟩ = false := (by rw [hfz _ _ (by first | omega | (simp; done) | (simp; omega))]; first | (go_simp; done) | (simp [*]; done) | (simp [go_sem, *]; done)); have cd0_1 : w4.cell? ⟨w.heap.size, 1, none⟩ = some (.int .i64 0) := (by rw [hcl _ _ (by first | omega | (simp; done) | (simp; omega))]; first | (go_simp; done) | (simp [*]; done) | (simp [go_sem, *]; done)); have fd0_1 : w4.frozen? ⟨w.heap.size, 1, none⟩ = false := (by rw [hfz _ _ (by first | omega | (simp; done) | (simp; omega))]; first | (go_simp; done) | (simp [*]; done) | (simp [go_sem, *]; done)); have zd1 : ¬ (w.heap.size + 1 = w4.heap.size) := (by have h_ := hb4.size; simp at h_; omega); have yd1 : w.heap.size + 1 < w4.heap.size := (by have h_ := hb4.size; simp at h_; omega); have cd1_0 : w4.cell? ⟨w.heap.size + 1, 0, none⟩ = some (.slice A2 ps.length c2) := (by rw [hcl _ _ (by first | omega | (simp; done) | (simp; omega))]; first | (go_simp; done) | (simp [*]; done) | (simp [go_sem, *]; done)); have fd1_0 : w4.frozen? ⟨w.heap.size + 1, 0, none⟩ = false := (by rw [hfz _ _ (by first | omega | (simp; done) | (simp; omega))]; first | (go_simp; done) | (simp [*]; done) | (simp [go_sem, *]; done)); have cd1_1 : w4.cell? ⟨w.heap.size + 1, 1, none⟩ = some (.int .i64 nx) := (by rw [hcl _ _ (by first | omega | (simp; done) | (simp; omega))]; first | (go_simp; done) | (simp [*]; done) | (simp [go_sem, *]; done)); have fd1_1 : w4.frozen? ⟨w.heap.size + 1, 1, none⟩ = false := (by rw [hfz _ _ (by first | omega | (simp; done) | (simp; omega))]; first | (go_simp; done) | (simp [*]; done) | (simp [go_sem, *]; done)); have HO4 := Aside0.mk (Kd.R_lower (base' := w.heap.size + 1 + 1) ho4 (by simp; omega)); have HB4 := Aside0.mk (Below.trans (below_alloc HB.out _) (hb4.mono (by simp; omega))); have HS4 := Aside0.mk (show wr.heap.size + 1 ≤ w4.heap.size from by have h_ := hb4.size; simpa using h_); have HBS := Aside0.mk hb4; clear ho4 hb4 hcl hfz)
        go_roundw
        case rel =>
          refine ⟨k + 1, ql, qn, by omega, by simp, ⟨?_⟩, ⟨by rw [HP.out, play_step HX.out HQ.out]; simp only; congr 1; omega⟩⟩
          exact playW_next HB4.out (by have := HS4.out; omega) HLQ.out cd0_0 cd0_1 cd1_0 cd1_1 fd0_0 fd0_1 fd1_0 fd1_1 HO4.out
        case measure => simp [intOf]; omega
      | false =>
        go_wp2_with (go_at_call 27; refine (Step_calls A2 c2 ps nx x _ ?hc1 HL.out.2 HL.out.1 HX1.out.1 HX1.out.2).mono ?_; (case hc1 => exact Kd.C_below HCR.out (below_alloc (Below.refl _ _) _)); rintro e w4 ⟨v4, he4, ho4, hb4⟩; rw [HQ.out] at he4 ho4; subst he4; obtain ⟨A4, c4, rfl⟩ := Kd.R_slice ho4; obtain ⟨hcl, hfz⟩ := bcell hb4; have zd0 : ¬ (w.heap.size = w4.heap.size) := (by have h_ := hb4.size; simp at h_; omega); have yd0 : w.heap.size < w4.heap.size := (by have h_ := hb4.size; simp at h_; omega); have cd0_0 : w4.cell? ⟨w.heap.size, 0, none⟩ = some (.slice none 0 0) := (by rw [hcl _ _ (by first | omega | (simp; done) | (simp; omega))]; first | (go_simp; done) | (simp [*]; done) | (simp [go_sem, *]; done)); have fd0_0 : w4.frozen? ⟨w.heap.size, 0, none⟩ = false := (by rw [hfz _ _ (by first | omega | (simp; done) | (simp; omega))]; first | (go_simp; done) | (simp [*]; done) | (simp [go_sem, *]; done)); have cd0_1 : w4.cell? ⟨w.heap.size, 1, none⟩ = some (.int .i64 0) := (by rw [hcl _ _ (by first | omega | (simp; done) | (simp; omega))]; first | (go_simp; done) | (simp [*]; done) | (simp [go_sem, *]; done)); have fd0_1 : w4.frozen? ⟨w.heap.size, 1, none⟩ = false := (by rw [hfz _ _ (by first | omega | (simp; done) | (simp; omega))]; first | (go_simp; done) | (simp [*]; done) | (simp [go_sem, *]; done)); have zd1 : ¬ (w.heap.size + 1 = w4.heap.size) := (by have h_ := hb4.size; simp at h_; omega); have yd1 : w.heap.size + 1 < w4.heap.size := (by have h_ := hb4.size; simp at h_; omega); have cd1_0 : w4.cell? ⟨w.heap.size + 1, 0, none⟩ = some (.slice A2 ps.length c2) := (by rw [hcl _ _ (by first | omega | (simp; done) | (simp; omega))]; first | (go_simp; done) | (simp [*]; done) | (simp [go_sem, *]; done)); have fd1_0 : w4.frozen? ⟨w.heap.size + 1, 0, none⟩ = false := (by rw [hfz _ _ (by first | omega | (simp; done) | (simp; omega))]; first | (go_simp; done) | (simp [*]; done) | (simp [go_sem, *]; done)); have cd1_1 : w4.cell? ⟨w.heap.size + 1, 1, none⟩ = some (.int .i64 nx) := (by rw [hcl _ _ (by first | omega | (simp; done) | (simp; omega))]; first | (go_simp; done) | (simp [*]; done) | (simp [go_sem, *]; done)); have fd1_1 : w4.frozen? ⟨w.heap.size + 1, 1, none⟩ = false := (by rw [hfz _ _ (by first | omega | (simp; done) | (simp; omega))]; first | (go_simp; done) | (simp [*]; done) | (simp [go_sem, *]; done)); have HO4 := Aside0.mk (Kd.R_lower (base' := w.heap.size + 1 + 1) ho4 (by simp; omega)); have HB4 := Aside0.mk (Below.trans (below_alloc HB.out _) (hb4.mono (by simp; omega))); have HS4 := Aside0.mk (show wr.heap.size + 1 ≤ w4.heap.size from by have h_ := hb4.size; simpa using h_); have HBS := Aside0.mk hb4; clear ho4 hb4 hcl hfz)
        refine bodyPost_ret (v := .tuple #[.agg #[.slice A2 ps.length c2, .int .i64 nx], .int .i64 k]) (by simp [results, Tryd.results31, go_sem, *]) rfl ⟨.slice A2 ps.length c2, ?_, ?_, ?_⟩
        · rw [HP.out, play_stop HX.out HQ.out]; simp
        · rw [HP.out, play_stop HX.out HQ.out]
          exact Kd.R_lower (Kd.R_below (flat_put (flat_put (Kd.R_below (Kd.R_below HO.out (below_alloc (Below.refl _ _) _)) HBS.out) (by omega)) (by omega)) (below_alloc (Below.refl _ _) _)) (by omega)
        · have hs4 := HS4.out; (repeat' (first | exact HB4.out | (with_reducible refine below_setCell ?_ ?_ _) | (with_reducible refine below_setRow ?_ ?_ _) | (with_reducible refine Below.alloc ?_ ?_ _) | (with_reducible refine below_drew ?_) | (with_reducible refine pw_below_drewN ?_ _) | (with_reducible exact Below.refl _ _) | omega | (simp; done) | (simp; omega)))
    · have hk2 : k = l.length := by omega
      subst hk2
      go_wp2
      refine bodyPost_ret (v := .tuple #[.agg #[.slice A2 ps.length c2, .int .i64 nx], .int .i64 l.length]) (by simp [results, Tryd.results31, go_sem, *]) rfl ⟨.slice A2 ps.length c2, ?_, ?_, ?_⟩
      · rw [HP.out, List.drop_length, playAt_nil]; simp
      · rw [HP.out, List.drop_length, playAt_nil]
        exact Kd.R_lower (flat_put (flat_put HO.out (by omega)) (by omega)) (by omega)
      · exact below_setCell (below_setCell HB.out (by omega) _) (by omega) _
end Go.Proofs.YtiohgpcbdefokaaDoor.B
/- sumpterlaw15.awake. No condition. -/
namespace Go.Proofs.YtiohgpcbdefokaaDoor.B
open Go.RowKit Go.Proofs.YtiohgpcbdefokaaDoorW.PrintWords Go.Proofs.YtiohgpcbdefokaaDoor.RowLaws
attribute [local go_sem ↓ high] lvO_hs ldO_hs stO_hs lvO_pt ldO_pt stO_pt zero_pt eqA_pt lvO_ptR ldO_ptR stO_ptR zero_ptR eqA_ptR lvO_rc ldO_rc stO_rc zero_rc eqA_rc lvO_rcR ldO_rcR stO_rcR zero_rcR eqA_rcR lvO_tk ldO_tk stO_tk zero_tk eqA_tk lvO_tkR ldO_tkR stO_tkR zero_tkR eqA_tkR lvO_it ldO_it stO_it zero_it eqA_it blO_pt blO_ptR blO_rc blO_rcR blO_tk blO_tkR blO_it bsO_pt bsO_ptR bsO_rc bsO_rcR bsO_it
attribute [local go_sem high] rowAt_setCell rowAt_setRow cell_setRow_ne isRow_setRow_ne rowAt_alloc rowAt_drew isRow_alloc isRow_drew isRow_setCell rowRun_some okL_hs ldV_hs ldA_hs stA_hs setRow_alloc get_pt_id get_pt_path cut_pt_sum get_pt_size get_pt_off cut_pt okL_pt size_pt lenb_pt eta_pt ldV_pt ldA_pt stA_pt ldV_ptR ldA_ptR stA_ptR get_rc_kind get_rc_id get_rc_path cut_rc_sum get_rc_size get_rc_off cut_rc okL_rc size_rc lenb_rc eta_rc ldV_rc ldA_rc stA_rc ldV_rcR ldA_rcR stA_rcR get_tk_path cut_tk_sum get_tk_size get_tk_off cut_tk_old cut_tk okL_tk size_tk lenb_tk eta_tk ldV_tk ldA_tk stA_tk ldV_tkR ldA_tkR stA_tkR get_it_path get_it_dir get_it_size cut_it_sum cut_it okL_it size_it lenb_it eta_it ldV_it ldA_it stA_it bld_pt_01234 bld_pt_0123 bld_pt_z bld_ptR_01234 bld_ptR_0123 bld_ptR_z bld_rc_012345 bld_rc_015 bld_rc_01 bld_rc_z bld_rc_01234 bld_rc_24 bld_rc_05 bld_rc_0 bld_rcR_012345 bld_rcR_015 bld_rcR_01 bld_rcR_z bld_rcR_01234 bld_rcR_24 bld_rcR_05 bld_rcR_0 bld_tk_01234 bld_tk_0 bld_tk_z bld_tkR_01234 bld_tkR_0 bld_tkR_z bld_it_0123 bld_it_023 bld_it_01 bld_it_0 bld_it_z bs0_pt bs1_pt bs0_ptR bs1_ptR bs0_rc bs1_rc bs0_rcR bs1_rcR bs0_it bs1_it
def rA : Rc := ⟨1, 5, ByteArray.empty, Hs.zero, 0, 9⟩
def sA : List Int := (crc_Seal.f 40 (([1] ++ [5]) ++ [9])).getD []
def tA : List Int := (field_Text.f 40 (strOfNums sA)).getD []
theorem sA_eq : crc_Seal.f 40 (([1] ++ [5]) ++ [9]) = some sA := by decide +kernel
theorem tA_eq : field_Text.f 40 (strOfNums sA) = some tA := by decide +kernel
theorem chkA : chkE rA = 0 := by
  unfold chkE
  rw [if_neg (by decide), if_neg (by decide), if_pos (show rA = bareRc rA from rfl)]
  decide
theorem eightA : Eight 40 tA rA where
  len := by decide +kernel
  num := by decide +kernel
  open_ := by decide +kernel
  one := by decide +kernel
  two := by decide +kernel
  lo := by decide
  lo2 := by decide
  is := rfl
  chk := chkA
theorem takeA : tA.take 4 = [7, 1, 5, 9] := by decide +kernel
def r1A : Rc := ⟨0, 0, ⟨#[97]⟩, Hs.zero, 9, 0⟩
def r2A : Rc := ⟨1, 0, ByteArray.empty, Hs.zero, 0, 3⟩
def r3A : Rc := ⟨2, 0, ByteArray.empty, Hs.zero, 0, 0⟩
theorem playA : playP [r1A, r2A, r3A] = (⟨[], 1⟩, 3) := by decide +kernel
theorem numA5 : field_Num.f 40 5 = some [5] := by decide +kernel
theorem numA9 : field_Num.f 40 9 = some [9] := by decide +kernel
theorem bs3_rc (w : World) : (bslRow 57 3 #[(0, .agg (rcL ⟨0, 0, ⟨#[97]⟩, Hs.zero, 9, 0⟩).toArray), (1, .agg (rcL ⟨1, 0, ByteArray.empty, Hs.zero, 0, 3⟩).toArray), (2, .agg (rcL ⟨2, 0, ByteArray.empty, Hs.zero, 0, 0⟩).toArray)]).run Tryd.prog w = .ok (.slice (some ⟨w.heap.size, 0, none⟩) 3 3) (w.alloc (.cells (rcL r1A ++ (rcL r2A ++ rcL r3A)).toArray 51)) := by kernel_rfl
theorem C3 (w : World) (a b c : Rc) (t : TypeId) : Kd.C kRc (w.alloc (.cells (rcL a ++ (rcL b ++ rcL c)).toArray t)) (some ⟨w.heap.size, 0, none⟩) 3 [a, b, c] := by
  refine ⟨rfl, by decide, fun _ => ⟨_, rfl, fun j p hp => ⟨rcL p, rcL_len p, rfl, fun i u hu => ?_⟩⟩⟩
  have hi : i < 37 := by have := (List.getElem?_eq_some_iff.1 hu).1; rwa [rcL_len] at this
  have hz : kRc.sz = 37 := rfl
  rw [hz, Addr.add_mid, cell_of_row _ _ _ _ _ _ (heap_alloc_new _ _)]
  rw [List.getElem?_toArray, Nat.zero_add]
  match j, hp with
  | 0, hp =>
    obtain rfl : a = p := by simpa using hp
    rw [List.getElem?_append_left (by rw [rcL_len]; omega)]
    simpa using hu
  | 1, hp =>
    obtain rfl : b = p := by simpa using hp
    rw [List.getElem?_append_right (by rw [rcL_len]; omega), List.getElem?_append_left (by rw [rcL_len, rcL_len]; omega), rcL_len]
    rw [show 1 * 37 + i - 37 = i by omega]; exact hu
  | 2, hp =>
    obtain rfl : c = p := by simpa using hp
    rw [List.getElem?_append_right (by rw [rcL_len]; omega), List.getElem?_append_right (by rw [rcL_len, rcL_len]; omega), rcL_len, rcL_len]
    rw [show 2 * 37 + i - 37 - 37 = i by omega]; exact hu
attribute [local go_sem high] bs3_rc
set_option linter.unusedVariables false in
set_option maxHeartbeats 8000000 in
set_option maxRecDepth 100000 in
theorem awake_calls (w : World) (hT : TabOK w) : Calls Tryd.prog 22 #[] w fun e w' => e = .returned (.bool true) ∧ Below w.heap.size w w' := by
  have HT := Aside0.mk hT
  have HT8 := Aside0.mk eightA.len
  clear hT
  go_enter Tryd.func22, Tryd.ntmps22
  go_wp2_with (first
    | (go_at_call 23; refine (PutMark_calls 40 rA [5] [9] sA tA _ HT.out rfl chkA numA5 numA9 (by decide) sA_eq tA_eq).mono ?_; rintro e w2 ⟨v2, rfl, ho2, hb2⟩; obtain ⟨A2, c2, rfl⟩ := Kd.R_slice ho2; have HR2 := Aside0.mk (Kd.R_reads' ho2); rw [HT8.out]; rw [HT8.out] at HR2; have HB2 := Aside0.mk hb2; clear ho2 hb2)
    | (go_at_call 35; refine (Scan_calls 40 A2 c2 tA rA _ (HT.out.below HB2.out) HR2.out.2.2 HR2.out.2.1 eightA).mono ?_; rintro e w3 ⟨v3, rfl, ho3, hb3⟩; obtain ⟨A3, c3, rfl⟩ := Kd.R_slice ho3; have HR3 := Aside0.mk (Kd.R_reads' ho3).2.2; have HC3 := Aside0.mk (Kd.C_below HR2.out.2.2 hb3); have HB3 := Aside0.mk (below_step HB2.out hb3); clear ho3 hb3)
    | (go_at_call 31; have hq := Play_calls (some ⟨w3.heap.size, 0, none⟩) 3 [r1A, r2A, r3A] (w3.alloc (.cells (rcL r1A ++ (rcL r2A ++ rcL r3A)).toArray 51)) (C3 w3 r1A r2A r3A _) (by decide) (by intro r hr; simp only [List.mem_cons, List.not_mem_nil, or_false] at hr; rcases hr with rfl | rfl | rfl <;> exact ⟨by decide, by decide⟩); rw [playA] at hq; refine Calls.mono (show Calls _ _ #[.slice (some ⟨w3.heap.size, 0, none⟩) 3 3] _ _ from hq) ?_; clear hq; rintro e w4 ⟨v4, rfl, ho4, hb4⟩; obtain ⟨A4, c4, rfl⟩ := Kd.R_slice ho4; have HB4 := Aside0.mk (below_step (below_alloc HB3.out _) hb4); have HC4 := Aside0.mk (Kd.C_below (Kd.C_below HC3.out (below_alloc (Below.refl _ _) _)) hb4); have hr4 := Kd.C_below (Kd.C_below HR3.out (below_alloc (Below.refl _ _) _)) hb4;
        obtain ⟨b, o, rfl, hb, hcl⟩ := flat_at hr4 (by decide) (by decide);
        have q36 := (hcl 0 (by decide)).2 36 _ (get_rc_off rA);
        rw [Nat.zero_mul, Nat.add_zero] at q36;
        have q36' : w4.cell? ⟨b, o + 36, none⟩ = some (.int .i64 9) := q36;
        have hbn : ¬ (b = w4.heap.size) := (by omega);
        have ht := print_take_of (P := Tryd.prog) (Value.int .u8) 0 22 5 .i64 Tryd.underlying22 (info_parts info5).choose_spec.1 (info_parts info5).choose_spec.2.2.1 A2 c2 tA 4 (by decide) (by rw [HT8.out]; decide) (by have := HR2.out.2.1; rw [HT8.out]; exact this);
        rw [show ((4 : Int)).toNat = 4 from rfl, takeA, HT8.out] at ht;
        have hcut := ht.1 (w4.alloc (.cells #[.slice A4 0 c4, .int .i64 1] 60));
        have hcv := Kd.C_string (P := Tryd.prog) (src := 22) (dst := 9) (c := c2) Tryd.underlying22 Tryd.underlying5 Tryd.underlying9 (Kd.C_below (Kd.C_of_reads (h1 := fun _ => rfl) (ht.2.1 w4 (Kd.reads_of_C HC4.out))) (below_alloc (Below.refl _ _) (.cells #[.slice A4 0 c4, .int .i64 1] 60)));
        rw [show strOfNums [7, 1, 5, 9] = ⟨#[7, 1, 5, 9]⟩ from rfl, show ([7, 1, 5, 9] : List Int).length = 4 from rfl] at hcv;
        rw [show ([7, 1, 5, 9] : List Int).length = 4 from rfl] at hcut;
        clear ho4 hb4 hr4 hcl ht q36))
  go_ret
  exact ⟨rfl, below_alloc HB4.out _⟩
end Go.Proofs.YtiohgpcbdefokaaDoor.B
/- A record of the one side is a record of the other. No condition. -/
namespace Go.Proofs.YtiohgpcbdefokaaDoor.B
open Go.RowKit Go.Proofs.YtiohgpcbdefokaaDoorW.PrintWords
attribute [local go_sem ↓ high] lvO_hs ldO_hs stO_hs lvO_pt ldO_pt stO_pt zero_pt eqA_pt lvO_ptR ldO_ptR stO_ptR zero_ptR eqA_ptR lvO_rc ldO_rc stO_rc zero_rc eqA_rc lvO_rcR ldO_rcR stO_rcR zero_rcR eqA_rcR lvO_tk ldO_tk stO_tk zero_tk eqA_tk lvO_tkR ldO_tkR stO_tkR zero_tkR eqA_tkR lvO_it ldO_it stO_it zero_it eqA_it blO_pt blO_ptR blO_rc blO_rcR blO_tk blO_tkR blO_it bsO_pt bsO_ptR bsO_rc bsO_rcR bsO_it
attribute [local go_sem high] rowAt_setCell rowAt_setRow cell_setRow_ne isRow_setRow_ne rowAt_alloc rowAt_drew isRow_alloc isRow_drew isRow_setCell rowRun_some okL_hs ldV_hs ldA_hs stA_hs setRow_alloc get_pt_id get_pt_path cut_pt_sum get_pt_size get_pt_off cut_pt okL_pt size_pt lenb_pt eta_pt ldV_pt ldA_pt stA_pt ldV_ptR ldA_ptR stA_ptR get_rc_kind get_rc_id get_rc_path cut_rc_sum get_rc_size get_rc_off cut_rc okL_rc size_rc lenb_rc eta_rc ldV_rc ldA_rc stA_rc ldV_rcR ldA_rcR stA_rcR get_tk_path cut_tk_sum get_tk_size get_tk_off cut_tk_old cut_tk okL_tk size_tk lenb_tk eta_tk ldV_tk ldA_tk stA_tk ldV_tkR ldA_tkR stA_tkR get_it_path get_it_dir get_it_size cut_it_sum cut_it okL_it size_it lenb_it eta_it ldV_it ldA_it stA_it bld_pt_01234 bld_pt_0123 bld_pt_z bld_ptR_01234 bld_ptR_0123 bld_ptR_z bld_rc_012345 bld_rc_015 bld_rc_01 bld_rc_z bld_rc_01234 bld_rc_24 bld_rc_05 bld_rc_0 bld_rcR_012345 bld_rcR_015 bld_rcR_01 bld_rcR_z bld_rcR_01234 bld_rcR_24 bld_rcR_05 bld_rcR_0 bld_tk_01234 bld_tk_0 bld_tk_z bld_tkR_01234 bld_tkR_0 bld_tkR_z bld_it_0123 bld_it_023 bld_it_01 bld_it_0 bld_it_z bs0_pt bs1_pt bs0_ptR bs1_ptR bs0_rc bs1_rc bs0_rcR bs1_rcR bs0_it bs1_it
set_option maxRecDepth 100000 in
set_option maxHeartbeats 4000000 in
theorem own_calls (r : Rc) (w : World) :
    Calls Tryd.prog 24 #[.agg (rcL r).toArray] w fun e w' => e = .returned (.agg (rcL r).toArray) ∧ Below w.heap.size w w' := by
  go_enter Tryd.func24, Tryd.ntmps24
  go_wp2
  exact bodyPost_ret (v := .agg (rcL r).toArray) (res1 rfl rfl (lv_rc (by simp [rowAt_alloc, cut_rc]))) rfl ⟨rfl, below_alloc (below_alloc (Below.refl _ _) _) _⟩
set_option maxRecDepth 100000 in
set_option maxHeartbeats 4000000 in
theorem as_calls (r : Rc) (w : World) :
    Calls Tryd.prog 86 #[.agg (rcL r).toArray] w fun e w' => e = .returned (.agg (rcL r).toArray) ∧ Below w.heap.size w w' := by
  go_enter Tryd.func86, Tryd.ntmps86
  go_wp2
  exact bodyPost_ret (v := .agg (rcL r).toArray) (res1 rfl rfl (lv_rcR (by simp [rowAt_alloc, cut_rc]))) rfl ⟨rfl, below_alloc (below_alloc (Below.refl _ _) _) _⟩
end Go.Proofs.YtiohgpcbdefokaaDoor.B
/- What the walks of RecordRises and RecordImaged tell of the box of the state. No condition. -/
namespace Go.Proofs.YtiohgpcbdefokaaDoor.B
open Go.RowKit Go.Proofs.YtiohgpcbdefokaaDoorW.PrintWords Go.Proofs.YtiohgpcbdefokaaDoor.RowLaws
attribute [local go_sem ↓ high] lvO_hs ldO_hs stO_hs lvO_pt ldO_pt stO_pt zero_pt eqA_pt lvO_ptR ldO_ptR stO_ptR zero_ptR eqA_ptR lvO_rc ldO_rc stO_rc zero_rc eqA_rc lvO_rcR ldO_rcR stO_rcR zero_rcR eqA_rcR lvO_tk ldO_tk stO_tk zero_tk eqA_tk lvO_tkR ldO_tkR stO_tkR zero_tkR eqA_tkR lvO_it ldO_it stO_it zero_it eqA_it blO_pt blO_ptR blO_rc blO_rcR blO_tk blO_tkR blO_it bsO_pt bsO_ptR bsO_rc bsO_rcR bsO_it
attribute [local go_sem high] rowAt_setCell rowAt_setRow cell_setRow_ne isRow_setRow_ne rowAt_alloc rowAt_drew isRow_alloc isRow_drew isRow_setCell rowRun_some okL_hs ldV_hs ldA_hs stA_hs setRow_alloc get_pt_id get_pt_path cut_pt_sum get_pt_size get_pt_off cut_pt okL_pt size_pt lenb_pt eta_pt ldV_pt ldA_pt stA_pt ldV_ptR ldA_ptR stA_ptR get_rc_kind get_rc_id get_rc_path cut_rc_sum get_rc_size get_rc_off cut_rc okL_rc size_rc lenb_rc eta_rc ldV_rc ldA_rc stA_rc ldV_rcR ldA_rcR stA_rcR get_tk_path cut_tk_sum get_tk_size get_tk_off cut_tk_old cut_tk okL_tk size_tk lenb_tk eta_tk ldV_tk ldA_tk stA_tk ldV_tkR ldA_tkR stA_tkR get_it_path get_it_dir get_it_size cut_it_sum cut_it okL_it size_it lenb_it eta_it ldV_it ldA_it stA_it bld_pt_01234 bld_pt_0123 bld_pt_z bld_ptR_01234 bld_ptR_0123 bld_ptR_z bld_rc_012345 bld_rc_015 bld_rc_01 bld_rc_z bld_rc_01234 bld_rc_24 bld_rc_05 bld_rc_0 bld_rcR_012345 bld_rcR_015 bld_rcR_01 bld_rcR_z bld_rcR_01234 bld_rcR_24 bld_rcR_05 bld_rcR_0 bld_tk_01234 bld_tk_0 bld_tk_z bld_tkR_01234 bld_tkR_0 bld_tkR_z bld_it_0123 bld_it_023 bld_it_01 bld_it_0 bld_it_z bs0_pt bs1_pt bs0_ptR bs1_ptR bs0_rc bs1_rc bs0_rcR bs1_rcR bs0_it bs1_it
attribute [local irreducible] wpStill
/-- The box of the state, and its parts. -/
structure StW (w : World) (ps : List Pt) (nx : Int) (wr : World) : Prop where
  b : Below w.heap.size w wr
  z : w.heap.size + 1 ≤ wr.heap.size
  good : Good ⟨ps, nx⟩
  at_ : ∃ A2 c2, wr.cell? ⟨w.heap.size, 0, none⟩ = some (.slice A2 ps.length c2) ∧ wr.cell? ⟨w.heap.size, 1, none⟩ = some (.int .i64 nx) ∧ wr.frozen? ⟨w.heap.size, 0, none⟩ = false ∧ wr.frozen? ⟨w.heap.size, 1, none⟩ = false ∧ Kd.R kPt 75 wr (w.heap.size + 1) (fun _ => True) (.slice A2 ps.length c2) ps
theorem StW.below {w : World} {ps : List Pt} {nx : Int} {wr W : World} (h : StW w ps nx wr) (hb : Below wr.heap.size wr W) : StW w ps nx W := by
  obtain ⟨h1, h2, h3, A2, c2, m0, m1, m2, m3, hO⟩ := h
  have hs := hb.size
  exact ⟨below_step h1 hb, by omega, h3, A2, c2, (hb.cell (p := ⟨w.heap.size, 0, none⟩) (by show w.heap.size < _; omega)).trans m0, (hb.cell (p := ⟨w.heap.size, 1, none⟩) (by show w.heap.size < _; omega)).trans m1, (hb.frozen (p := ⟨w.heap.size, 0, none⟩) (by show w.heap.size < _; omega)).trans m2, (hb.frozen (p := ⟨w.heap.size, 1, none⟩) (by show w.heap.size < _; omega)).trans m3, Kd.R_below hO hb⟩
/-- What an argument's record holds, as it can be read. -/
def okRc (r : Rc) : Prop := 0 ≤ r.kind ∧ -9223372036854775808 ≤ r.id ∧ r.path.size ≤ 9223372036854775807
theorem chk_size {r : Rc} (h : chkE r = 0) : r.kind = 0 → 0 ≤ r.size := by
  intro hk
  unfold chkE at h
  by_cases h1 : 4 < r.kind ∨ r.id < 0 ∨ 1099511627776 < r.id
  · rw [if_pos h1] at h; cases h
  rw [if_neg h1, if_pos hk] at h
  by_cases hb : beginE r = 0
  · unfold beginE at hb
    by_cases h2 : pathE r.path = 0
    · rw [if_pos h2] at hb
      by_cases h3 : resv r.path = true
      · rw [if_pos h3] at hb; cases hb
      rw [if_neg h3] at hb
      by_cases h4 : sizeB r.size = true
      · unfold sizeB at h4
        exact (of_decide_eq_true h4).1
      · rw [if_neg h4] at hb; cases hb
    · rw [if_neg h2] at hb; exact absurd hb h2
  · rw [if_neg hb] at h; exact absurd h hb
theorem keepS {A : Option Addr} {n c g b o B : Nat} {nx : Int} {x : Rc} {w W : World} (hS : w.cell? ⟨g, 0, none⟩ = some (.slice A n c) ∧ w.cell? ⟨g, 1, none⟩ = some (.int .i64 nx) ∧ rowAt w ⟨b, o, none⟩ 37 = some (rcL x)) (hb : Below B w W) (h1 : g < B) (h2 : b < B) :
    W.cell? ⟨g, 0, none⟩ = some (.slice A n c) ∧ W.cell? ⟨g, 1, none⟩ = some (.int .i64 nx) ∧ rowAt W ⟨b, o, none⟩ 37 = some (rcL x) :=
  ⟨(hb.cell (p := ⟨g, 0, none⟩) h1).trans hS.1, (hb.cell (p := ⟨g, 1, none⟩) h1).trans hS.2.1, by rw [rowAt_below hb h2]; exact hS.2.2⟩
/-- Behind a step: the box tb of the new state. -/
structure TB (w : World) (A2 : Option Addr) (c2 : Nat) (ps : List Pt) (nx : Int) (A6 : Option Addr) (c6 : Nat) (ql : List Pt) (qn : Int) (tb : Nat) (W : World) : Prop where
  b : Below w.heap.size w W
  cps : Kd.C kPt W A2 ps.length ps
  lo : w.heap.size + 1 ≤ tb
  hi : tb < W.heap.size
  t0 : W.cell? ⟨tb, 0, none⟩ = some (.slice A6 ql.length c6)
  t1 : W.cell? ⟨tb, 1, none⟩ = some (.int .i64 qn)
  s0 : W.cell? ⟨w.heap.size, 0, none⟩ = some (.slice A2 ps.length c2)
  s1 : W.cell? ⟨w.heap.size, 1, none⟩ = some (.int .i64 nx)
  f0 : W.frozen? ⟨w.heap.size, 0, none⟩ = false
  f1 : W.frozen? ⟨w.heap.size, 1, none⟩ = false
  o : Kd.R kPt 75 W (w.heap.size + 1) (fun _ => True) (.slice A6 ql.length c6) ql
theorem TB.below {w : World} {A2 : Option Addr} {c2 : Nat} {ps : List Pt} {nx : Int} {A6 : Option Addr} {c6 : Nat} {ql : List Pt} {qn : Int} {tb : Nat} {W W' : World} (h : TB w A2 c2 ps nx A6 c6 ql qn tb W) (hb : Below W.heap.size W W') : TB w A2 c2 ps nx A6 c6 ql qn tb W' := by
  have hs := hb.size
  have hw := World.block_lt_of_cell? _ _ h.s0
  exact ⟨below_step h.b hb, Kd.C_below h.cps hb, h.lo, by have := h.hi; omega, (hb.cell (World.block_lt_of_cell? _ _ h.t0)).trans h.t0, (hb.cell (World.block_lt_of_cell? _ _ h.t1)).trans h.t1, (hb.cell (World.block_lt_of_cell? _ _ h.s0)).trans h.s0, (hb.cell (World.block_lt_of_cell? _ _ h.s1)).trans h.s1, (hb.frozen (p := ⟨w.heap.size, 0, none⟩) hw).trans h.f0, (hb.frozen (p := ⟨w.heap.size, 1, none⟩) hw).trans h.f1, Kd.R_below h.o hb⟩
theorem tb_alloc {w wr w6 : World} {A2 : Option Addr} {c2 : Nat} {ps : List Pt} {nx : Int} {A6 : Option Addr} {c6 : Nat} {ql : List Pt} {qn : Int} {t : TypeId} (hbw : Below w.heap.size w wr) (hcp : Kd.C kPt wr A2 ps.length ps) (hz : w.heap.size < wr.heap.size) (hf : wr.frozen? ⟨w.heap.size, 0, none⟩ = false ∧ wr.frozen? ⟨w.heap.size, 1, none⟩ = false) (hb : Below wr.heap.size wr w6) (h0 : w6.cell? ⟨w.heap.size, 0, none⟩ = some (.slice A2 ps.length c2)) (h1 : w6.cell? ⟨w.heap.size, 1, none⟩ = some (.int .i64 nx))
    (hO : Kd.R kPt 75 w6 (w.heap.size + 1) (fun _ => True) (.slice A6 ql.length c6) ql) : TB w A2 c2 ps nx A6 c6 ql qn w6.heap.size (w6.alloc (.cells #[.slice A6 ql.length c6, .int .i64 qn] t)) := by
  have hn : Below w6.heap.size w6 (w6.alloc (.cells #[.slice A6 ql.length c6, .int .i64 qn] t)) := below_alloc (Below.refl _ _) _
  have hw := below_step hb hn
  have hs := hb.size
  exact ⟨below_step hbw hw, Kd.C_below hcp hw, by omega, by simp, cell_of_row _ _ _ _ _ _ (heap_alloc_new _ _), cell_of_row _ _ _ _ _ _ (heap_alloc_new _ _), (hn.cell (World.block_lt_of_cell? _ _ h0)).trans h0, (hn.cell (World.block_lt_of_cell? _ _ h1)).trans h1, (hw.frozen (p := ⟨w.heap.size, 0, none⟩) hz).trans hf.1, (hw.frozen (p := ⟨w.heap.size, 1, none⟩) hz).trans hf.2, Kd.R_below hO hn⟩
theorem cell_two {W : World} {X : Nat} {a b p q : Value} (t0 : W.cell? ⟨X, 0, none⟩ = some p) (t1 : W.cell? ⟨X, 1, none⟩ = some q) : ((W.setCell ⟨X, 0, none⟩ a).setCell ⟨X, 1, none⟩ b).cell? ⟨X, 0, none⟩ = some a ∧ ((W.setCell ⟨X, 0, none⟩ a).setCell ⟨X, 1, none⟩ b).cell? ⟨X, 1, none⟩ = some b := by
  constructor <;> simp [go_sem, *]
theorem tb_set {w wr w6 : World} {A2 : Option Addr} {c2 : Nat} {ps : List Pt} {nx : Int} {A6 : Option Addr} {c6 : Nat} {ql : List Pt} {qn : Int} {X X2 : Nat} {p q : Value} (hbw : Below w.heap.size w wr) (hcp : Kd.C kPt wr A2 ps.length ps) (hz : w.heap.size < wr.heap.size) (hf : wr.frozen? ⟨w.heap.size, 0, none⟩ = false ∧ wr.frozen? ⟨w.heap.size, 1, none⟩ = false) (hb : Below wr.heap.size wr w6) (h0 : w6.cell? ⟨w.heap.size, 0, none⟩ = some (.slice A2 ps.length c2)) (h1 : w6.cell? ⟨w.heap.size, 1, none⟩ = some (.int .i64 nx))
    (hO : Kd.R kPt 75 w6 X2 (fun _ => True) (.slice A6 ql.length c6) ql) (hX2 : w.heap.size + 1 ≤ X2 ∧ X < X2) (hX : wr.heap.size ≤ X) (hX3 : X < w6.heap.size) (t0 : w6.cell? ⟨X, 0, none⟩ = some p) (t1 : w6.cell? ⟨X, 1, none⟩ = some q) :
    TB w A2 c2 ps nx A6 c6 ql qn X ((w6.setCell ⟨X, 0, none⟩ (.slice A6 ql.length c6)).setCell ⟨X, 1, none⟩ (.int .i64 qn)) := by
  have hn : Below wr.heap.size w6 ((w6.setCell ⟨X, 0, none⟩ (.slice A6 ql.length c6)).setCell ⟨X, 1, none⟩ (.int .i64 qn)) := below_setCell (below_setCell (Below.refl _ _) hX _) hX _
  have hw := Below.trans hb hn
  obtain ⟨e0, e1⟩ := cell_two (a := .slice A6 ql.length c6) (b := .int .i64 qn) t0 t1
  exact ⟨below_step hbw hw, Kd.C_below hcp hw, by omega, by simpa [World.setCell] using hX3, e0, e1, (hn.cell (p := ⟨w.heap.size, 0, none⟩) hz).trans h0, (hn.cell (p := ⟨w.heap.size, 1, none⟩) hz).trans h1, (hw.frozen (p := ⟨w.heap.size, 0, none⟩) hz).trans hf.1, (hw.frozen (p := ⟨w.heap.size, 1, none⟩) hz).trans hf.2, Kd.R_lower (flat_put (flat_put hO hX2.2) hX2.2) hX2.1⟩
theorem stw_next {w : World} {A2 : Option Addr} {c2 : Nat} {ps : List Pt} {nx : Int} {A6 : Option Addr} {c6 : Nat} {ql : List Pt} {qn : Int} {tb : Nat} {W : World} (h : TB w A2 c2 ps nx A6 c6 ql qn tb W) (hg : Good ⟨ql, qn⟩) : StW w ql qn ((W.setCell ⟨w.heap.size, 0, none⟩ (.slice A6 ql.length c6)).setCell ⟨w.heap.size, 1, none⟩ (.int .i64 qn)) := by
  obtain ⟨e0, e1⟩ := cell_two (a := .slice A6 ql.length c6) (b := .int .i64 qn) h.s0 h.s1
  have hlt := World.block_lt_of_cell? _ _ h.s0
  have g0 : ((W.setCell ⟨w.heap.size, 0, none⟩ (.slice A6 ql.length c6)).setCell ⟨w.heap.size, 1, none⟩ (.int .i64 qn)).frozen? ⟨w.heap.size, 0, none⟩ = false := by have := h.f0; simp [go_sem, *]
  have g1 : ((W.setCell ⟨w.heap.size, 0, none⟩ (.slice A6 ql.length c6)).setCell ⟨w.heap.size, 1, none⟩ (.int .i64 qn)).frozen? ⟨w.heap.size, 1, none⟩ = false := by have := h.f1; simp [go_sem, *]
  exact ⟨below_setCell (below_setCell h.b (Nat.le_refl _) _) (Nat.le_refl _) _, by have : w.heap.size < W.heap.size := hlt; simp [World.setCell]; omega, hg, A6, c6, e0, e1, g0, g1, flat_put (flat_put h.o (by omega)) (by omega)⟩
theorem step_slice (A2 : Option Addr) (c2 : Nat) (ps : List Pt) (nx : Int) (x : Rc) (hc : ps.length ≤ c2) (hl : ps.length ≤ 64) (h1 : x.id ≤ 2199023255552) (h2 : -9223372036854775808 ≤ x.id) {ql : List Pt} {qn : Int} {qb : Bool} (hq : stepP ⟨ps, nx⟩ x = (⟨ql, qn⟩, qb)) (W : World) (hC : Kd.C kPt W A2 ps.length ps) :
    Calls Tryd.prog 27 #[.agg #[.slice A2 ps.length c2, .int .i64 nx], .agg (rcL x).toArray] W fun e w' => ∃ (A6 : Option Addr) (c6 : Nat), e = .returned (.tuple #[.agg #[.slice A6 ql.length c6, .int .i64 qn], .bool qb]) ∧ Kd.R kPt 75 w' W.heap.size (fun _ => True) (.slice A6 ql.length c6) ql ∧ Below W.heap.size W w' := by
  refine (Step_calls A2 c2 ps nx x W hC hc hl h1 h2).mono ?_
  rintro e w6 ⟨v6, he6, ho6, hb6⟩
  rw [hq] at he6 ho6
  subst he6
  obtain ⟨A6, c6, rfl⟩ := Kd.R_slice ho6
  exact ⟨A6, c6, rfl, ho6, hb6⟩
end Go.Proofs.YtiohgpcbdefokaaDoor.B
/- slices.Equal over parts; record.Same. No condition. -/
namespace Go.Proofs.YtiohgpcbdefokaaDoor.B
open Go.RowKit Go.Proofs.YtiohgpcbdefokaaDoorW.PrintWords Go.Proofs.YtiohgpcbdefokaaDoor.RowLaws
attribute [local go_sem ↓ high] lvO_hs ldO_hs stO_hs lvO_pt ldO_pt stO_pt zero_pt eqA_pt lvO_ptR ldO_ptR stO_ptR zero_ptR eqA_ptR lvO_rc ldO_rc stO_rc zero_rc eqA_rc lvO_rcR ldO_rcR stO_rcR zero_rcR eqA_rcR lvO_tk ldO_tk stO_tk zero_tk eqA_tk lvO_tkR ldO_tkR stO_tkR zero_tkR eqA_tkR lvO_it ldO_it stO_it zero_it eqA_it blO_pt blO_ptR blO_rc blO_rcR blO_tk blO_tkR blO_it bsO_pt bsO_ptR bsO_rc bsO_rcR bsO_it
attribute [local go_sem high] rowAt_setCell rowAt_setRow cell_setRow_ne isRow_setRow_ne rowAt_alloc rowAt_drew isRow_alloc isRow_drew isRow_setCell rowRun_some okL_hs ldV_hs ldA_hs stA_hs setRow_alloc get_pt_id get_pt_path cut_pt_sum get_pt_size get_pt_off cut_pt okL_pt size_pt lenb_pt eta_pt ldV_pt ldA_pt stA_pt ldV_ptR ldA_ptR stA_ptR get_rc_kind get_rc_id get_rc_path cut_rc_sum get_rc_size get_rc_off cut_rc okL_rc size_rc lenb_rc eta_rc ldV_rc ldA_rc stA_rc ldV_rcR ldA_rcR stA_rcR get_tk_path cut_tk_sum get_tk_size get_tk_off cut_tk_old cut_tk okL_tk size_tk lenb_tk eta_tk ldV_tk ldA_tk stA_tk ldV_tkR ldA_tkR stA_tkR get_it_path get_it_dir get_it_size cut_it_sum cut_it okL_it size_it lenb_it eta_it ldV_it ldA_it stA_it bld_pt_01234 bld_pt_0123 bld_pt_z bld_ptR_01234 bld_ptR_0123 bld_ptR_z bld_rc_012345 bld_rc_015 bld_rc_01 bld_rc_z bld_rc_01234 bld_rc_24 bld_rc_05 bld_rc_0 bld_rcR_012345 bld_rcR_015 bld_rcR_01 bld_rcR_z bld_rcR_01234 bld_rcR_24 bld_rcR_05 bld_rcR_0 bld_tk_01234 bld_tk_0 bld_tk_z bld_tkR_01234 bld_tkR_0 bld_tkR_z bld_it_0123 bld_it_023 bld_it_01 bld_it_0 bld_it_z bs0_pt bs1_pt bs0_ptR bs1_ptR bs0_rc bs1_rc bs0_rcR bs1_rcR bs0_it bs1_it
attribute [local irreducible] wpStill
theorem eq_of_all {l m : List Pt} (hl : l.length = m.length) (h : ∀ j, j < l.length → ∀ x y, l[j]? = some x → m[j]? = some y → x = y) : l = m := by
  refine List.ext_getElem hl fun i h1 h2 => ?_
  exact h i h1 _ _ (List.getElem?_eq_getElem h1) (List.getElem?_eq_getElem h2)
set_option linter.unusedVariables false in
set_option maxHeartbeats 8000000 in
set_option maxRecDepth 100000 in
theorem Equal_calls (A A' : Option Addr) (c c' : Nat) (l m : List Pt) (w : World) (hC : Kd.C kPt w A l.length l) (hD : Kd.C kPt w A' m.length m) (hlen : l.length ≤ 1000) :
    Calls Tryd.prog 87 #[.slice A l.length c, .slice A' m.length c'] w fun e w' => e = .returned (.bool (decide (l = m))) ∧ Below w.heap.size w w' := by
  have HC := Aside0.mk hC
  have HD := Aside0.mk hD
  clear hC hD
  by_cases hlm : l.length = m.length
  · rw [← hlm]
    rw [← hlm] at HD
    have HLM := Aside0.mk hlm
    clear hlm
    go_enter Tryd.func87, Tryd.ntmps87
    go_wp2
    go_loopw [13] (fun i wr => ∃ k : Nat, k ≤ l.length ∧ i = .int .i64 k ∧ Aside0 (Below w.heap.size w wr) ∧ Aside0 (∀ j, j < k → ∀ x y, l[j]? = some x → m[j]? = some y → x = y)) (fun i _ => l.length - (intOf i).toNat)
    case atStart => exact ⟨0, Nat.zero_le _, rfl, ⟨Below.refl _ _⟩, ⟨fun j hj => by omega⟩⟩
    case round =>
      obtain ⟨k, hk, rfl, HB, HN⟩ := hrel
      by_cases hlt : k < l.length
      · obtain ⟨b, o, hA, hb, hr⟩ := flat_at HC.out (by decide) (by omega)
        obtain ⟨b', o', hA', hb', hr'⟩ := flat_at HD.out (by decide) (by omega)
        subst hA hA'
        have hrow := (hr k hlt).1
        have hrow' := (hr' k (by rw [← HLM.out]; exact hlt)).1
        rw [← rowAt_below HB.out hb] at hrow
        rw [← rowAt_below HB.out hb'] at hrow'
        have HX := Aside0.mk (show l[k]? = some l[k] from List.getElem?_eq_getElem hlt)
        have hm : k < m.length := by rw [← HLM.out]; exact hlt
        have HY := Aside0.mk (show m[k]? = some m[k] from List.getElem?_eq_getElem hm)
        obtain ⟨x, hx⟩ : ∃ x, x = l[k] := ⟨_, rfl⟩
        obtain ⟨y, hy⟩ : ∃ y, y = m[k] := ⟨_, rfl⟩
        rw [← hx] at hrow HX
        rw [← hy] at hrow' HY
        clear hr hr' hx hy hm
        have hlt2 : (k : Int) < (l.length : Int) := by omega
        by_cases hxy : x = y
        case pos =>
          subst hxy
          go_wp2
          refine still_tail_at 8 (by kernel_rfl) (by kernel_rfl) ?_
          intro W hW
          have r1 : rowAt W ⟨b, o + k * 36, none⟩ 36 = some (ptL x) := by rw [hW, rowAt_drew]; exact hrow
          have r2 : rowAt W ⟨b', o' + k * 36, none⟩ 36 = some (ptL x) := by rw [hW, rowAt_drew]; exact hrow'
          have HBW := Aside0.mk (show Below w.heap.size w W from by rw [hW]; exact below_drew HB.out)
          clear hW hrow hrow'
          simp only [List.take_succ_cons, List.take_zero, List.drop_succ_cons, List.drop_zero]
          repeat (first | ((with_reducible refine wpStill_plain ?hg (fun K hK => ?_)); (case hg => with_reducible rfl); go_simp; refine still_back hK ?_; clear hK K) | ((with_reducible refine wpStill_skip ?hg (fun K hK => ?_)); (case hg => exact rfl); go_simp; refine still_back hK ?_; clear hK K) | ((with_reducible refine wpStill_held ?hg (fun K hK => ?_)); (case hg => exact rfl); go_simp; refine still_back hK ?_; clear hK K))
          refine wpStill_nil ?_
          go_wp2
          go_roundw
          case rel =>
            refine ⟨k + 1, by omega, by simp, HBW, ⟨fun j hj x' y' hx' hy' => ?_⟩⟩
            by_cases hjk : j = k
            · subst hjk
              have e1 := HX.out.symm.trans hx'
              have e2 := HY.out.symm.trans hy'
              injection e1 with e1
              injection e2 with e2
              rw [← e1, ← e2]
            · exact HN.out j (by omega) x' y' hx' hy'
          case measure => simp [intOf]; omega
        case neg =>
          have hd : decide (x = y) = false := decide_eq_false hxy
          have HNE := Aside0.mk hxy
          clear hxy
          go_wp2
          refine still_tail_at 8 (by kernel_rfl) (by kernel_rfl) ?_
          intro W hW
          have r1 : rowAt W ⟨b, o + k * 36, none⟩ 36 = some (ptL x) := by rw [hW, rowAt_drew]; exact hrow
          have r2 : rowAt W ⟨b', o' + k * 36, none⟩ 36 = some (ptL y) := by rw [hW, rowAt_drew]; exact hrow'
          have HBW := Aside0.mk (show Below w.heap.size w W from by rw [hW]; exact below_drew HB.out)
          clear hW hrow hrow'
          simp only [List.take_succ_cons, List.take_zero, List.drop_succ_cons, List.drop_zero]
          repeat (first | ((with_reducible refine wpStill_plain ?hg (fun K hK => ?_)); (case hg => with_reducible rfl); go_simp; refine still_back hK ?_; clear hK K) | ((with_reducible refine wpStill_skip ?hg (fun K hK => ?_)); (case hg => exact rfl); go_simp; refine still_back hK ?_; clear hK K) | ((with_reducible refine wpStill_held ?hg (fun K hK => ?_)); (case hg => exact rfl); go_simp; refine still_back hK ?_; clear hK K))
          refine wpStill_nil ?_
          go_wp2
          go_ret
          refine ⟨?_, HBW.out⟩
          have : ¬ l = m := fun e => by
            rw [e] at HX
            have e1 := HX.out.symm.trans HY.out
            injection e1 with e1
            exact HNE.out e1
          rw [decide_eq_false this]; rfl
      · have hk2 : k = l.length := by omega
        subst hk2
        go_wp2
        go_ret
        have : l = m := eq_of_all HLM.out HN.out
        exact ⟨by rw [decide_eq_true this]; rfl, HB.out⟩
  · have hne : ¬ (l.length : Int) = (m.length : Int) := by omega
    have HN := Aside0.mk (show ¬ l = m from fun e => hlm (by rw [e]))
    clear hlm
    go_enter Tryd.func87, Tryd.ntmps87
    go_wp2
    go_ret
    exact ⟨by rw [decide_eq_false HN.out]; rfl, Below.refl _ _⟩
set_option linter.unusedVariables false in
set_option maxHeartbeats 8000000 in
set_option maxRecDepth 100000 in
theorem Same_calls (A A' : Option Addr) (c c' : Nat) (l m : List Pt) (nx ny : Int) (w : World) (hC : Kd.C kPt w A l.length l) (hD : Kd.C kPt w A' m.length m) (hlen : l.length ≤ 1000) :
    Calls Tryd.prog 37 #[.agg #[.slice A l.length c, .int .i64 nx], .agg #[.slice A' m.length c', .int .i64 ny]] w fun e w' => e = .returned (.bool (decide ((⟨l, nx⟩ : St) = ⟨m, ny⟩))) ∧ Below w.heap.size w w' := by
  have HC := Aside0.mk hC
  have HD := Aside0.mk hD
  clear hC hD
  by_cases h : nx = ny
  · subst h
    have HE := Aside0.mk (show decide ((⟨l, nx⟩ : St) = ⟨m, nx⟩) = decide (l = m) by simp)
    go_enter Tryd.func37, Tryd.ntmps37
    go_wp2_with (go_at_call 87; refine (Equal_calls A A' c c' l m _ (Kd.C_below HC.out ?_) (Kd.C_below HD.out ?_) hlen).mono ?_; (exact below_alloc (below_alloc (Below.refl _ _) _) _); (exact below_alloc (below_alloc (Below.refl _ _) _) _); rintro e w2 ⟨rfl, hb2⟩; have HB2 := Aside0.mk (Below.trans (below_alloc (below_alloc (Below.refl w.heap.size w) _) _) (hb2.mono (by simp; omega))); clear hb2)
    go_ret
    exact ⟨by rw [HE.out]; rfl, HB2.out⟩
  · have HE := Aside0.mk (show decide ((⟨l, nx⟩ : St) = ⟨m, ny⟩) = false by simp [h])
    have hd : decide (nx = ny) = false := decide_eq_false h
    go_enter Tryd.func37, Tryd.ntmps37
    go_wp2
    go_ret
    exact ⟨by rw [HE.out]; rfl, below_alloc (below_alloc (Below.refl _ _) _) _⟩
end Go.Proofs.YtiohgpcbdefokaaDoor.B
