/- Contracts and plain laws for the statement RecordImaged, part d: several texts of this session behind one another. No condition. -/
import Derived.Test.YtiohgpcbdefokaaDoorMRecordImagedc
import Derived.Test.YtiohgpcbdefokaaDoorMRecordImagedb
/- record.Image: records that make a state. No condition. -/
namespace Go.Proofs.YtiohgpcbdefokaaDoor.B
open Go.RowKit Go.Proofs.YtiohgpcbdefokaaDoorW.PrintWords Go.Proofs.YtiohgpcbdefokaaDoor.RowLaws
attribute [local go_sem ↓ high] lvO_hs ldO_hs stO_hs lvO_pt ldO_pt stO_pt zero_pt eqA_pt lvO_ptR ldO_ptR stO_ptR zero_ptR eqA_ptR lvO_rc ldO_rc stO_rc zero_rc eqA_rc lvO_rcR ldO_rcR stO_rcR zero_rcR eqA_rcR lvO_tk ldO_tk stO_tk zero_tk eqA_tk lvO_tkR ldO_tkR stO_tkR zero_tkR eqA_tkR lvO_it ldO_it stO_it zero_it eqA_it blO_pt blO_ptR blO_rc blO_rcR blO_tk blO_tkR blO_it bsO_pt bsO_ptR bsO_rc bsO_rcR bsO_it
attribute [local go_sem high] rowAt_setCell rowAt_setRow cell_setRow_ne isRow_setRow_ne rowAt_alloc rowAt_drew isRow_alloc isRow_drew isRow_setCell rowRun_some okL_hs ldV_hs ldA_hs stA_hs setRow_alloc get_pt_id get_pt_path cut_pt_sum get_pt_size get_pt_off cut_pt okL_pt size_pt lenb_pt eta_pt ldV_pt ldA_pt stA_pt ldV_ptR ldA_ptR stA_ptR get_rc_kind get_rc_id get_rc_path cut_rc_sum get_rc_size get_rc_off cut_rc okL_rc size_rc lenb_rc eta_rc ldV_rc ldA_rc stA_rc ldV_rcR ldA_rcR stA_rcR get_tk_path cut_tk_sum get_tk_size get_tk_off cut_tk_old cut_tk okL_tk size_tk lenb_tk eta_tk ldV_tk ldA_tk stA_tk ldV_tkR ldA_tkR stA_tkR get_it_path get_it_dir get_it_size cut_it_sum cut_it okL_it size_it lenb_it eta_it ldV_it ldA_it stA_it bld_pt_01234 bld_pt_0123 bld_pt_z bld_ptR_01234 bld_ptR_0123 bld_ptR_z bld_rc_012345 bld_rc_015 bld_rc_01 bld_rc_z bld_rc_01234 bld_rc_24 bld_rc_05 bld_rc_0 bld_rcR_012345 bld_rcR_015 bld_rcR_01 bld_rcR_z bld_rcR_01234 bld_rcR_24 bld_rcR_05 bld_rcR_0 bld_tk_01234 bld_tk_0 bld_tk_z bld_tkR_01234 bld_tkR_0 bld_tkR_z bld_it_0123 bld_it_023 bld_it_01 bld_it_0 bld_it_z bs0_pt bs1_pt bs0_ptR bs1_ptR bs0_rc bs1_rc bs0_rcR bs1_rcR bs0_it bs1_it
theorem img_len (l : List Pt) : (l.flatMap imgPt).length ≤ 2 * l.length := by
  induction l with
  | nil => simp
  | cons p l ih =>
    rw [List.flatMap_cons, List.length_append, List.length_cons]
    have : (imgPt p).length ≤ 2 := by unfold imgPt; split <;> simp
    omega
set_option linter.unusedVariables false in
set_option maxHeartbeats 8000000 in
set_option maxRecDepth 100000 in
theorem Image_calls (A : Option Addr) (c : Nat) (l : List Pt) (nx : Int) (w : World) (hC : Kd.C kPt w A l.length l) (hlen : l.length ≤ 64) (hid : ∀ p ∈ l, -9223372036854775808 ≤ p.id ∧ p.id ≤ 2199023255552) (hnx : -9223372036854775808 < nx ∧ nx ≤ 2199023255553) :
    Calls Tryd.prog 38 #[.agg #[.slice A l.length c, .int .i64 nx]] w fun e w' => ∃ (A9 : Option Addr) (c9 : Nat), e = .returned (.slice A9 (imageP ⟨l, nx⟩).length c9) ∧ Kd.R kRc 51 w' (w.heap.size + 1) (fun _ => True) (.slice A9 (imageP ⟨l, nx⟩).length c9) (imageP ⟨l, nx⟩) ∧ Below w.heap.size w w' := by
  have HC := Aside0.mk hC
  have HID := Aside0.mk hid
  have HNX := Aside0.mk hnx
  clear hC hid hnx
  go_enter Tryd.func38, Tryd.ntmps38
  go_wp2
  go_loopw [3, 4, 10] (fun ov nv iv wr => ∃ (k : Nat) (A3 : Option Addr) (c3 : Nat) (xs : List Rc) (m : Int), k ≤ l.length ∧ iv = .int .i64 k ∧ nv = .int .i64 m ∧ ov = .slice A3 xs.length c3 ∧ Aside0 (m = nextOf (l.take k)) ∧ Aside0 (xs = (l.take k).flatMap imgPt) ∧ w.heap.size + 1 ≤ wr.heap.size ∧ Aside0 (Below (w.heap.size + 1) (w.alloc (.cells #[.slice A l.length c, .int .i64 nx] 60)) wr) ∧ Aside0 (Kd.R kRc 51 wr (w.heap.size + 1) (fun _ => True) (.slice A3 xs.length c3) xs)) (fun _ _ iv _ => l.length - (intOf iv).toNat)
  case atStart => exact ⟨0, none, 0, [], 0, Nat.zero_le _, rfl, rfl, rfl, ⟨rfl⟩, ⟨rfl⟩, by simp, ⟨Below.refl _ _⟩, ⟨Kd.R_nil _ _ _ _ _⟩⟩
  case round =>
    obtain ⟨k, A3, c3, xs, m, hk, rfl, rfl, rfl, HM, HXS, hzr, HB, HO⟩ := hrel
    have HBW := Aside0.mk (show Below w.heap.size w wr from Below.trans (below_alloc (Below.refl _ _) _) (HB.out.mono (by omega)))
    have HLX := Aside0.mk (show xs.length ≤ 128 by rw [HXS.out]; have := img_len (l.take k); rw [List.length_take] at this; omega)
    have s1 : wr.cell? ⟨w.heap.size, 1, none⟩ = some (.int .i64 nx) := (HB.out.cell (p := ⟨w.heap.size, 1, none⟩) (by simp)).trans (cell_of_row _ _ _ _ _ _ (heap_alloc_new _ _))
    by_cases hlt : k < l.length
    · obtain ⟨b, o, hA, hb, hr⟩ := flat_at HC.out (by decide) (by omega)
      subst hA
      have hrow := (hr k hlt).1
      rw [← rowAt_below HBW.out hb] at hrow
      have HTK := Aside0.mk (show l.take (k + 1) = l.take k ++ [l[k]] from List.take_succ_eq_append_getElem hlt)
      have HI := Aside0.mk (HID.out l[k] (List.getElem_mem hlt))
      obtain ⟨p, hp⟩ : ∃ p, p = l[k] := ⟨_, rfl⟩
      rw [← hp] at hrow HTK HI
      clear hr hp
      have hlt2 : (k : Int) < (l.length : Int) := by omega
      have hw1 : IntKind.i64.wrap (p.id + 1) = p.id + 1 := IntWalk.i64_in _ (by have := HI.out; omega)
      have HNE := Aside0.mk (show (Value.slice A3 xs.length c3).ownBlock ≠ some wr.heap.size from fun e => by have := Kd.R_lt HO.out _ e; omega)
      obtain ⟨ys, hys⟩ : ∃ ys, xs ++ [(⟨0, p.id, p.path, p.sum, p.size, 0⟩ : Rc)] = ys := ⟨_, rfl⟩
      have HX1 := Aside0.mk hys
      have HLY := Aside0.mk (show ys.length ≤ 129 by rw [← hys, List.length_append, List.length_singleton]; have := HLX.out; omega)
      clear hys
      by_cases hoff : 0 < p.off
      · have hd : decide (0 < p.off) = true := decide_eq_true hoff
        obtain ⟨zs, hzs⟩ : ∃ zs, ys ++ [(⟨1, p.id, ByteArray.empty, Hs.zero, 0, p.off⟩ : Rc)] = zs := ⟨_, rfl⟩
        have HX2 := Aside0.mk hzs
        have HOFF := Aside0.mk hoff
        clear hzs hoff
        go_wp2_with (first | ((with_reducible refine gate_builtin (b := .append) (xs := #[.tmp 14, .tmp 24]) rfl ?_); at_builtin; refine Kd.R_append kRc (w0 := ?w04) (w.heap.size + 1) rfl (.tmp 14) (.tmp 24) 57 51 _ 80 rfl Tryd.underlying57 infoRc zcRc (by decide) (by decide) (.slice A3 xs.length c3) xs (⟨0, p.id, p.path, p.sum, p.size, 0⟩ : Rc) (rcL (⟨0, p.id, p.path, p.sum, p.size, 0⟩ : Rc)) (fun _ => True) (fun _ => False) rfl ?aX rfl (fun _ h => h.elim) (fun _ _ => trivial) ?aO ?aB ?aS ?aL ?_; (case aX => first | rfl | (rw [World.size_alloc]; rfl)); (case aO => exact Kd.R_below HO.out (below_alloc (Below.refl _ _) _)); (case aB => exact Below.alloc HB.out hzr _); (case aS => first | omega | (simp; omega)); (case aL => have := HLX.out; omega); intro v5 w5 ho5 hb5 hg5 hat5; rw [HX1.out] at ho5; obtain ⟨A5, c5, rfl⟩ := Kd.R_slice ho5; have HO5 := Aside0.mk ho5; have HB5 := Aside0.mk hb5; have hs5 := hb5.size; have hz5 : w.heap.size + 1 ≤ w5.heap.size := (by have h_ := hg5.size; simp at h_; omega); have e0 : w5.cell? ⟨wr.heap.size, 0, none⟩ = some (.int .i64 p.id) := grown_cell hg5 HNE.out (by first | (go_simp; done) | (simp [*]; done) | (simp [go_sem, *]; done)); have e35 : w5.cell? ⟨wr.heap.size, 35, none⟩ = some (.int .i64 p.off) := grown_cell hg5 HNE.out (by first | (go_simp; done) | (simp [*]; done) | (simp [go_sem, *]; done)); have HNE5 := Aside0.mk (show (Value.slice A5 ys.length c5).ownBlock ≠ some wr.heap.size from fun e => by rcases hat5 with h | ⟨b9, h, hb9⟩; (rw [h] at e; exact HNE.out e); (rw [h] at e; injection e with e; simp at hb9; omega)); have e05 := e0; clear ho5 hb5 hg5 hat5) | ((with_reducible refine gate_builtin (b := .append) (xs := #[.tmp 29, .tmp 35]) rfl ?_); at_builtin; refine Kd.R_append kRc (w0 := ?w06) (w.heap.size + 1) rfl (.tmp 29) (.tmp 35) 57 51 _ 80 rfl Tryd.underlying57 infoRc zcRc (by decide) (by decide) (.slice A5 ys.length c5) ys (⟨1, p.id, ByteArray.empty, Hs.zero, 0, p.off⟩ : Rc) (rcL (⟨1, p.id, ByteArray.empty, Hs.zero, 0, p.off⟩ : Rc)) (fun _ => True) (fun _ => False) rfl ?aX rfl (fun _ h => h.elim) (fun _ _ => trivial) ?aO ?aB ?aS ?aL ?_; (case aX => first | rfl | (rw [World.size_alloc]; rfl)); (case aO => exact HO5.out); (case aB => exact HB5.out); (case aS => first | omega | (simp; omega)); (case aL => have := HLY.out; omega); intro v6 w6 ho6 hb6 hg6 hat6; rw [HX2.out] at ho6; obtain ⟨A6, c6, rfl⟩ := Kd.R_slice ho6; have HO6 := Aside0.mk ho6; have HB6 := Aside0.mk hb6; have hz6 : w.heap.size + 1 ≤ w6.heap.size := (by have h_ := hg6.size; omega); have e0 : w6.cell? ⟨wr.heap.size, 0, none⟩ = some (.int .i64 p.id) := grown_cell hg6 HNE5.out e05; clear ho6 hb6 hg6 hat6))
        go_roundw
        case rel => exact ⟨k + 1, A6, c6, zs, p.id + 1, by omega, by simp, rfl, rfl, ⟨by rw [HTK.out, nextOf_snoc]⟩, ⟨by rw [HTK.out, List.flatMap_append, ← HXS.out, List.flatMap_cons, List.flatMap_nil, List.append_nil, ← HX2.out, ← HX1.out]; unfold imgPt; rw [if_pos HOFF.out]; simp⟩, hz6, HB6, HO6⟩
        case measure => simp [intOf]; omega
      · have hd : decide (0 < p.off) = false := decide_eq_false hoff
        have HOFF := Aside0.mk hoff
        clear hoff
        go_wp2_with (first | ((with_reducible refine gate_builtin (b := .append) (xs := #[.tmp 14, .tmp 24]) rfl ?_); at_builtin; refine Kd.R_append kRc (w0 := ?w05) (w.heap.size + 1) rfl (.tmp 14) (.tmp 24) 57 51 _ 80 rfl Tryd.underlying57 infoRc zcRc (by decide) (by decide) (.slice A3 xs.length c3) xs (⟨0, p.id, p.path, p.sum, p.size, 0⟩ : Rc) (rcL (⟨0, p.id, p.path, p.sum, p.size, 0⟩ : Rc)) (fun _ => True) (fun _ => False) rfl ?aX rfl (fun _ h => h.elim) (fun _ _ => trivial) ?aO ?aB ?aS ?aL ?_; (case aX => first | rfl | (rw [World.size_alloc]; rfl)); (case aO => exact Kd.R_below HO.out (below_alloc (Below.refl _ _) _)); (case aB => exact Below.alloc HB.out hzr _); (case aS => first | omega | (simp; omega)); (case aL => have := HLX.out; omega); intro v5 w5 ho5 hb5 hg5 hat5; rw [HX1.out] at ho5; obtain ⟨A5, c5, rfl⟩ := Kd.R_slice ho5; have HO5 := Aside0.mk ho5; have HB5 := Aside0.mk hb5; have hs5 := hb5.size; have hz5 : w.heap.size + 1 ≤ w5.heap.size := (by have h_ := hg5.size; simp at h_; omega); have e0 : w5.cell? ⟨wr.heap.size, 0, none⟩ = some (.int .i64 p.id) := grown_cell hg5 HNE.out (by first | (go_simp; done) | (simp [*]; done) | (simp [go_sem, *]; done)); have e35 : w5.cell? ⟨wr.heap.size, 35, none⟩ = some (.int .i64 p.off) := grown_cell hg5 HNE.out (by first | (go_simp; done) | (simp [*]; done) | (simp [go_sem, *]; done)); clear ho5 hb5 hg5 hat5))
        go_roundw
        case rel => exact ⟨k + 1, A5, c5, ys, p.id + 1, by omega, by simp, rfl, rfl, ⟨by rw [HTK.out, nextOf_snoc]⟩, ⟨by rw [HTK.out, List.flatMap_append, ← HXS.out, List.flatMap_cons, List.flatMap_nil, List.append_nil, ← HX1.out]; unfold imgPt; rw [if_neg HOFF.out]⟩, hz5, HB5, HO5⟩
        case measure => simp [intOf]; omega
    · have hk2 : k = l.length := by omega
      subst hk2
      rw [List.take_length] at HM HXS
      by_cases hnn : m < nx
      · have hd : decide (m < nx) = true := decide_eq_true hnn
        have HIM := Aside0.mk (show imageP ⟨l, nx⟩ = xs ++ [(⟨4, nx - 1, ByteArray.empty, Hs.zero, 0, 0⟩ : Rc)] by unfold imageP; rw [HXS.out, if_pos (by rw [← HM.out]; exact hnn)])
        obtain ⟨ys, hys⟩ : ∃ ys, xs ++ [(⟨4, nx - 1, ByteArray.empty, Hs.zero, 0, 0⟩ : Rc)] = ys := ⟨_, rfl⟩
        rw [hys] at HIM
        have HX3 := Aside0.mk hys
        have hw1 : IntKind.i64.wrap (nx - 1) = nx - 1 := IntWalk.i64_in _ (by have := HNX.out; omega)
        clear hys hnn
        go_wp2_with (first | ((with_reducible refine gate_builtin (b := .append) (xs := #[.tmp 45, .tmp 50]) rfl ?_); at_builtin; refine Kd.R_append kRc (w0 := ?w07) (w.heap.size + 1) rfl (.tmp 45) (.tmp 50) 57 51 _ 80 rfl Tryd.underlying57 infoRc zcRc (by decide) (by decide) (.slice A3 xs.length c3) xs (⟨4, nx - 1, ByteArray.empty, Hs.zero, 0, 0⟩ : Rc) (rcL (⟨4, nx - 1, ByteArray.empty, Hs.zero, 0, 0⟩ : Rc)) (fun _ => True) (fun _ => False) rfl ?aX rfl (fun _ h => h.elim) (fun _ _ => trivial) ?aO ?aB ?aS ?aL ?_; (case aX => first | rfl | (rw [World.size_alloc]; rfl)); (case aO => exact HO.out); (case aB => exact HB.out); (case aS => first | omega | (simp; omega)); (case aL => have := HLX.out; omega); intro v7 w7 ho7 hb7 hg7 hat7; rw [HX3.out] at ho7; obtain ⟨A7, c7, rfl⟩ := Kd.R_slice ho7; have HO7 := Aside0.mk ho7; have HB7 := Aside0.mk hb7; clear ho7 hb7 hg7 hat7))
        go_ret
        rw [HIM.out]
        exact ⟨A7, c7, rfl, HO7.out, Below.trans (below_alloc (Below.refl _ _) _) (HB7.out.mono (by omega))⟩
      · have hd : decide (m < nx) = false := decide_eq_false hnn
        have HIM := Aside0.mk (show imageP ⟨l, nx⟩ = xs by unfold imageP; rw [if_neg (by rw [← HM.out]; exact hnn), List.append_nil, HXS.out])
        clear hnn
        go_wp2
        go_ret
        rw [HIM.out]
        exact ⟨A3, c3, rfl, HO.out, HBW.out⟩
end Go.Proofs.YtiohgpcbdefokaaDoor.B
/- What RecordImaged asks besides: each record of an image may be. No condition. -/
namespace Go.Proofs.YtiohgpcbdefokaaDoor.B
/-- Parts that records that may be have made. -/
structure Fit (s : St) : Prop where
  at_ : ∀ x ∈ s.parts, 0 ≤ x.id ∧ x.id ≤ 1099511627776 ∧ beginE ⟨0, x.id, x.path, x.sum, x.size, 0⟩ = 0
  nx : 0 ≤ s.next ∧ s.next ≤ 1099511627777
theorem fit_zero : Fit St.zero := ⟨(by intro x hx; cases hx), by decide⟩
theorem chk_id {r : Rc} (h : chkE r = 0) : 0 ≤ r.id ∧ r.id ≤ 1099511627776 := by
  unfold chkE at h
  by_cases h1 : 4 < r.kind ∨ r.id < 0 ∨ 1099511627776 < r.id
  · rw [if_pos h1] at h; cases h
  · omega
theorem chk_begin {r : Rc} (h : chkE r = 0) (hk : r.kind = 0) : beginE r = 0 := by
  unfold chkE at h
  by_cases h1 : 4 < r.kind ∨ r.id < 0 ∨ 1099511627776 < r.id
  · rw [if_pos h1] at h; cases h
  rw [if_neg h1, if_pos hk] at h
  by_cases hb : beginE r = 0
  · exact hb
  · rw [if_neg hb] at h; exact absurd h hb
theorem begin_size {r : Rc} (hb : beginE r = 0) : 0 ≤ r.size ∧ r.size ≤ 65536 := by
  unfold beginE at hb
  by_cases h2 : pathE r.path = 0
  · rw [if_pos h2] at hb
    by_cases h3 : resv r.path = true
    · rw [if_pos h3] at hb; cases hb
    rw [if_neg h3] at hb
    by_cases h4 : sizeB r.size = true
    · unfold sizeB at h4
      exact of_decide_eq_true h4
    · rw [if_neg h4] at hb; cases hb
  · rw [if_neg h2] at hb; exact absurd hb h2
theorem fit_step {s : St} {r : Rc} (h : Fit s) (hc : chkE r = 0) : Fit (stepP s r).1 := by
  have hid := chk_id hc
  unfold stepP
  split
  · rename_i h0
    have hb := chk_begin hc h0
    unfold beginP
    split
    · exact h
    · refine ⟨fun x hx => ?_, by show 0 ≤ r.id + 1 ∧ r.id + 1 ≤ _; omega⟩
      rcases List.mem_append.1 hx with hx | hx
      · exact h.at_ x hx
      · obtain rfl := List.mem_singleton.1 hx
        exact ⟨hid.1, hid.2, hb⟩
  split
  · split
    · exact h
    · exact ⟨h.at_, by show 0 ≤ r.id + 1 ∧ r.id + 1 ≤ _; omega⟩
  split
  · split
    · exact h
    · split
      · exact h
      · rename_i p hp
        split
        · exact h
        · refine ⟨fun x hx => ?_, h.nx⟩
          rcases mem_set hx with rfl | hx
          · exact h.at_ p (List.mem_of_getElem? hp)
          · exact h.at_ x hx
  split
  · split
    · exact h
    · exact ⟨fun x hx => h.at_ x ((List.eraseIdx_sublist _ _).subset hx), h.nx⟩
  · exact h
theorem chk_rb {x : Pt} (h : 0 ≤ x.id ∧ x.id ≤ 1099511627776 ∧ beginE ⟨0, x.id, x.path, x.sum, x.size, 0⟩ = 0) : chkE ⟨0, x.id, x.path, x.sum, x.size, 0⟩ = 0 := by
  unfold chkE
  rw [if_neg (by simp only; omega), if_pos rfl, if_pos h.2.2]
  rfl
theorem chk_rm {x : Pt} (h : 0 ≤ x.id ∧ x.id ≤ 1099511627776) (h0 : 0 ≤ x.off) (h1 : x.off ≤ 65536) : chkE ⟨1, x.id, ByteArray.empty, Hs.zero, 0, x.off⟩ = 0 := by
  unfold chkE
  rw [if_neg (by simp only; omega), if_neg (show ¬ (1 : Int) = 0 by decide), if_pos (show (⟨1, x.id, ByteArray.empty, Hs.zero, 0, x.off⟩ : Rc) = bareRc ⟨1, x.id, ByteArray.empty, Hs.zero, 0, x.off⟩ from rfl)]
  unfold offE
  rw [if_pos (by unfold sizeB; exact decide_eq_true ⟨h0, h1⟩), if_pos (.inr rfl)]
theorem chk_rs {n : Int} (h0 : 0 ≤ n) (h1 : n ≤ 1099511627776) : chkE ⟨4, n, ByteArray.empty, Hs.zero, 0, 0⟩ = 0 := by
  unfold chkE
  rw [if_neg (by simp only; omega), if_neg (show ¬ (4 : Int) = 0 by decide), if_pos (show (⟨4, n, ByteArray.empty, Hs.zero, 0, 0⟩ : Rc) = bareRc ⟨4, n, ByteArray.empty, Hs.zero, 0, 0⟩ from rfl)]
  rfl
theorem chk_image {s : St} (hg : Good s) (hf : Fit s) : ∀ r ∈ imageP s, chkE r = 0 := by
  intro r hr
  unfold imageP at hr
  rcases List.mem_append.1 hr with hr | hr
  · obtain ⟨x, hx, hr⟩ := List.mem_flatMap.1 hr
    have ha := hf.at_ x hx
    have hb := hg.at_ x hx
    have hs := begin_size ha.2.2
    unfold imgPt at hr
    rcases List.mem_cons.1 hr with rfl | hr
    · exact chk_rb ha
    · split at hr
      · obtain rfl := List.mem_singleton.1 hr
        exact chk_rm ⟨ha.1, ha.2.1⟩ hb.2.1 (Int.le_trans hb.2.2 hs.2)
      · cases hr
  · split at hr
    · rename_i hn
      obtain rfl := List.mem_singleton.1 hr
      have h0 : 0 ≤ nextOf s.parts := by
        unfold nextOf
        cases hl : s.parts.getLast? with
        | none => exact Int.le_refl _
        | some p => have := (hf.at_ p (List.mem_of_getLast? hl)).1; simp only; omega
      have := hf.nx
      exact chk_rs (by omega) (by omega)
    · cases hr
theorem img_all {s : St} (hg : Good s) : (imageP s).length ≤ 129 := by
  unfold imageP
  rw [List.length_append]
  have h : ∀ l : List Pt, (l.flatMap imgPt).length ≤ 2 * l.length := by
    intro l
    induction l with
    | nil => simp
    | cons p l ih =>
      rw [List.flatMap_cons, List.length_append, List.length_cons]
      have : (imgPt p).length ≤ 2 := by unfold imgPt; split <;> simp
      omega
  have h1 := h s.parts
  have h2 := hg.few
  have h3 : (if nextOf s.parts < s.next then [(⟨4, s.next - 1, ByteArray.empty, Hs.zero, 0, 0⟩ : Rc)] else []).length ≤ 1 := by split <;> simp
  omega
end Go.Proofs.YtiohgpcbdefokaaDoor.B
/- RecordImaged: its walk. No condition. -/
namespace Go.Proofs.YtiohgpcbdefokaaDoor.B
open Go.RowKit Go.Proofs.YtiohgpcbdefokaaDoorW.PrintWords Go.Proofs.YtiohgpcbdefokaaDoor.RowLaws
attribute [local go_sem ↓ high] lvO_hs ldO_hs stO_hs lvO_pt ldO_pt stO_pt zero_pt eqA_pt lvO_ptR ldO_ptR stO_ptR zero_ptR eqA_ptR lvO_rc ldO_rc stO_rc zero_rc eqA_rc lvO_rcR ldO_rcR stO_rcR zero_rcR eqA_rcR lvO_tk ldO_tk stO_tk zero_tk eqA_tk lvO_tkR ldO_tkR stO_tkR zero_tkR eqA_tkR lvO_it ldO_it stO_it zero_it eqA_it blO_pt blO_ptR blO_rc blO_rcR blO_tk blO_tkR blO_it bsO_pt bsO_ptR bsO_rc bsO_rcR bsO_it
attribute [local go_sem high] rowAt_setCell rowAt_setRow cell_setRow_ne isRow_setRow_ne rowAt_alloc rowAt_drew isRow_alloc isRow_drew isRow_setCell rowRun_some okL_hs ldV_hs ldA_hs stA_hs setRow_alloc get_pt_id get_pt_path cut_pt_sum get_pt_size get_pt_off cut_pt okL_pt size_pt lenb_pt eta_pt ldV_pt ldA_pt stA_pt ldV_ptR ldA_ptR stA_ptR get_rc_kind get_rc_id get_rc_path cut_rc_sum get_rc_size get_rc_off cut_rc okL_rc size_rc lenb_rc eta_rc ldV_rc ldA_rc stA_rc ldV_rcR ldA_rcR stA_rcR get_tk_path cut_tk_sum get_tk_size get_tk_off cut_tk_old cut_tk okL_tk size_tk lenb_tk eta_tk ldV_tk ldA_tk stA_tk ldV_tkR ldA_tkR stA_tkR get_it_path get_it_dir get_it_size cut_it_sum cut_it okL_it size_it lenb_it eta_it ldV_it ldA_it stA_it bld_pt_01234 bld_pt_0123 bld_pt_z bld_ptR_01234 bld_ptR_0123 bld_ptR_z bld_rc_012345 bld_rc_015 bld_rc_01 bld_rc_z bld_rc_01234 bld_rc_24 bld_rc_05 bld_rc_0 bld_rcR_012345 bld_rcR_015 bld_rcR_01 bld_rcR_z bld_rcR_01234 bld_rcR_24 bld_rcR_05 bld_rcR_0 bld_tk_01234 bld_tk_0 bld_tk_z bld_tkR_01234 bld_tkR_0 bld_tkR_z bld_it_0123 bld_it_023 bld_it_01 bld_it_0 bld_it_z bs0_pt bs1_pt bs0_ptR bs1_ptR bs0_rc bs1_rc bs0_rcR bs1_rcR bs0_it bs1_it
attribute [local irreducible] wpStill
set_option linter.unusedVariables false in
set_option maxHeartbeats 16000000 in
set_option maxRecDepth 100000 in
theorem Imaged_walk (A : Option Addr) (c : Nat) (l : List Rc) (w : World) (hT : TabOK w) (hC : Kd.C kRc w A l.length l) (hok : ∀ r ∈ l, okRc r) :
    Calls Tryd.prog 11 #[.slice A l.length c] w fun e w' => e = .returned (.bool true) ∧ Below w.heap.size w w' := by
  have HT := Aside0.mk hT
  have HC := Aside0.mk hC
  have HOK := Aside0.mk hok
  clear hT hC hok
  by_cases hn : (200 : Int) < (l.length : Int)
  · have hd : decide ((200 : Int) < (l.length : Int)) = true := decide_eq_true hn
    clear hn
    go_enter Tryd.func11, Tryd.ntmps11
    go_wp2_with (go_at_call 22; refine (awake_calls _ HT.out).mono ?_; rintro e w2 ⟨rfl, hb2⟩; have HB2 := Aside0.mk hb2; clear hb2)
    go_ret
    exact ⟨rfl, HB2.out⟩
  · have hd : decide ((200 : Int) < (l.length : Int)) = false := decide_eq_false hn
    have HLEN := Aside0.mk (show l.length ≤ 200 by omega)
    clear hn
    go_enter Tryd.func11, Tryd.ntmps11
    go_wp2
    clear hd
    go_loopw [4] (fun iv wr => ∃ (k : Nat) (ps : List Pt) (nx : Int), k ≤ l.length ∧ iv = .int .i64 k ∧ Aside0 (StW w ps nx wr) ∧ Aside0 (Fit ⟨ps, nx⟩)) (fun iv _ => l.length - (intOf iv).toNat)
    case atStart =>
      refine ⟨0, [], 0, Nat.zero_le _, rfl, ⟨below_alloc (Below.refl _ _) _, by simp, good_zero, none, 0, ?_, ?_, ?_, ?_, Kd.R_nil _ _ _ _ _⟩, ⟨fit_zero⟩⟩ <;> first | (go_simp; done) | (simp; done)
    case round =>
      obtain ⟨k, ps, nx, hk, rfl, HW, HFIT⟩ := hrel
      obtain ⟨A2, c2, m0, m1, m2, m3, hO⟩ := HW.out.at_
      have HB := Aside0.mk HW.out.b
      have hz := HW.out.z
      have HO := Aside0.mk hO
      have HCR := Aside0.mk (Kd.R_reads' hO).2.2
      have HGD := Aside0.mk HW.out.good
      have HCC := Aside0.mk (Kd.R_reads' hO).2.1
      clear hO
      have n2 : w.heap.size < wr.heap.size := by omega
      have n0 : ¬ (w.heap.size = wr.heap.size) := by omega
      by_cases hlt : k < l.length
      · obtain ⟨b, o, hA, hb, hr⟩ := flat_at HC.out (by decide) (by omega)
        subst hA
        obtain ⟨hrow, hcells⟩ := hr k hlt
        have hx0 := HOK.out l[k] (List.getElem_mem hlt)
        obtain ⟨x, hx⟩ : ∃ x, x = l[k] := ⟨_, rfl⟩
        rw [← hx] at hrow hcells hx0
        have q1 := hcells 1 _ (get_rc_id x)
        have q2 := hcells 2 _ (get_rc_path x)
        rw [← rowAt_below HB.out hb] at hrow
        rw [← HB.out.cell (p := ⟨b, o + k * 37 + 1, none⟩) hb] at q1
        rw [← HB.out.cell (p := ⟨b, o + k * 37 + 2, none⟩) hb] at q2
        clear hr hx hcells
        have HX0 := Aside0.mk hx0
        have HBB := Aside0.mk (show b < w.heap.size from hb)
        have hbn : b < wr.heap.size := by omega
        clear hx0
        have hlt2 : (k : Int) < (l.length : Int) := by omega
        have hkb : k + 1 ≤ 200 := by have := HLEN.out; omega
        by_cases hp : (300 : Int) < (x.path.size : Int)
        · have hd1 : decide ((300 : Int) < (x.path.size : Int)) = true := decide_eq_true hp
          clear hp
          go_wp2_with (go_at_call 22; refine (awake_calls _ (HT.out.below HB.out)).mono ?_; rintro e w2 ⟨rfl, hb2⟩; have HB2 := Aside0.mk (below_step HB.out hb2); clear hb2)
          go_ret
          exact ⟨rfl, HB2.out⟩
        have hd1 : decide ((300 : Int) < (x.path.size : Int)) = false := decide_eq_false hp
        clear hp
        by_cases hc0 : chkE x = 0
        case neg =>
          have hd3 : decide (chkE x = 0) = false := decide_eq_false hc0
          have hd4 : (chkE x != 0) = true := bne_iff_ne.2 hc0
          clear hc0
          go_wp2_with (first
            | (go_at_call 24; refine (own_calls x _).mono ?_; rintro e w2 ⟨rfl, hb2⟩; have HB2 := Aside0.mk hb2; clear hb2)
            | (go_at_call 26; refine (Check_calls x _ (HT.out.below (below_step HB.out HB2.out))).mono ?_; rintro e w3 ⟨rfl, hb3⟩; have HB3 := Aside0.mk (below_step HB2.out hb3); clear hb3))
          go_roundw
          case rel => exact ⟨k + 1, ps, nx, by omega, by simp, ⟨StW.below HW.out HB3.out⟩, HFIT⟩
          case measure => simp [intOf]; omega
        case pos =>
          have HCK := Aside0.mk hc0
          have HID := Aside0.mk (show x.id ≤ 2199023255552 by have := (chk_id hc0).2; omega)
          have HGO := Aside0.mk (goes_step HGD.out (chk_size hc0))
          have hd3 : decide (chkE x = 0) = true := decide_eq_true hc0
          have hd4 : (chkE x != 0) = false := by simp [hc0]
          clear hc0
          obtain ⟨q, hq⟩ : ∃ q, stepP ⟨ps, nx⟩ x = q := ⟨_, rfl⟩
          rw [hq] at HGO
          have HQ := Aside0.mk hq
          clear hq
          obtain ⟨⟨ql, qn⟩, qb⟩ := q
          have HSTEP := Aside0.mk (step_slice A2 c2 ps nx x HCC.out HGD.out.few HID.out HX0.out.2.1 HQ.out)
          go_upto_region 10 with (first
            | (go_at_call 24; refine (own_calls x _).mono ?_; rintro e w2 ⟨rfl, hb2⟩; have HB2 := Aside0.mk hb2; clear hb2)
            | (go_at_call 26; refine (Check_calls x _ (HT.out.below (below_step HB.out HB2.out))).mono ?_; rintro e w3 ⟨rfl, hb3⟩; have HB3 := Aside0.mk (below_step HB2.out hb3); have hS3 := keepS (B := wr.heap.size) (And.intro m0 (And.intro m1 hrow)) (below_step HB2.out hb3) n2 hbn; have hs3 := HB3.out.size; clear hb3))
          have HF := Aside0.mk (And.intro m2 m3)
          clear m0 m1 m2 m3 hrow q1 q2 hd1 hd3 hd4 n0
          go_cut [5, 6] (fun v5 v6 wx => ∃ (tb : Nat) (A6 : Option Addr) (c6 : Nat), v5 = .pointer (some ⟨tb, 0, none⟩) ∧ v6 = .bool qb ∧ Aside0 (TB w A2 c2 ps nx A6 c6 ql qn tb wx) ∧ Aside0 (Below wr.heap.size wr wx))
          case first =>
           go_region_held3 (fun w' => w'.cell? ⟨w.heap.size, 0, none⟩ = some (.slice A2 ps.length c2) ∧ w'.cell? ⟨w.heap.size, 1, none⟩ = some (.int .i64 nx) ∧ rowAt w' ⟨b, o + k * 37, none⟩ 37 = some (rcL x)) (first | assumption | (refine keepS (B := wr.heap.size) hS6 ?_ (by omega) (by omega); (repeat' (first | (with_reducible exact Below.refl _ _) | (with_reducible refine below_drew ?_) | (with_reducible refine Below.alloc ?_ ?_ _) | (with_reducible refine below_setCell ?_ ?_ _) | omega | (simp; done) | (simp; omega))); done) | (refine keepS (B := wr.heap.size) hS5 ?_ (by omega) (by omega); (repeat' (first | (with_reducible exact Below.refl _ _) | (with_reducible refine below_drew ?_) | (with_reducible refine Below.alloc ?_ ?_ _) | (with_reducible refine below_setCell ?_ ?_ _) | omega | (simp; done) | (simp; omega))); done) | (refine keepS (B := wr.heap.size) hS3 ?_ (by omega) (by omega); (repeat' (first | (with_reducible exact Below.refl _ _) | (with_reducible refine below_drew ?_) | (with_reducible refine Below.alloc ?_ ?_ _) | (with_reducible refine below_setCell ?_ ?_ _) | omega | (simp; done) | (simp; omega))); done))
            (first
              | (go_at_call 24; refine (own_calls x _).mono ?_; rintro e w5 ⟨rfl, hb5⟩; have HB5 := Aside0.mk (show Below wr.heap.size wr w5 from Below.trans (by repeat' (first | exact HB3.out | (with_reducible exact Below.refl _ _) | (with_reducible refine below_drew ?_) | (with_reducible refine Below.alloc ?_ ?_ _) | (with_reducible refine below_setCell ?_ ?_ _) | omega | (simp; done) | (simp; omega))) (hb5.mono (by first | omega | (simp; omega)))); have hs5 := HB5.out.size; have hS5 := keepS (B := wr.heap.size) (w := _) (by assumption) (hb5.mono (by first | omega | (simp; omega))) (by omega) (by omega); (first | (have t50 : w5.cell? ⟨w3.heap.size, 0, none⟩ = some (.slice none 0 0) := (hb5.cell (p := ⟨w3.heap.size, 0, none⟩) (by simp)).trans (cell_of_row _ _ _ _ _ _ (heap_alloc_new _ _)); have t51 : w5.cell? ⟨w3.heap.size, 1, none⟩ = some (.int .i64 0) := (hb5.cell (p := ⟨w3.heap.size, 1, none⟩) (by simp)).trans (cell_of_row _ _ _ _ _ _ (heap_alloc_new _ _)); have u50 : w5.frozen? ⟨w3.heap.size, 0, none⟩ = false := (hb5.frozen (p := ⟨w3.heap.size, 0, none⟩) (by simp)).trans (blk_frozen (heap_alloc_new _ _) _); have u51 : w5.frozen? ⟨w3.heap.size, 1, none⟩ = false := (hb5.frozen (p := ⟨w3.heap.size, 1, none⟩) (by simp)).trans (blk_frozen (heap_alloc_new _ _) _); have y5 : w3.heap.size < w5.heap.size := (by have h_ := hb5.size; simp at h_; omega)) | skip); clear hb5)
              | (go_at_call 27; refine (HSTEP.out _ ?hc1).mono ?_; (case hc1 => exact Kd.C_below HCR.out (by repeat' (first | exact HB5.out | (with_reducible exact Below.refl _ _) | (with_reducible refine below_drew ?_) | (with_reducible refine Below.alloc ?_ ?_ _) | (with_reducible refine below_setCell ?_ ?_ _) | omega | (simp; done) | (simp; omega)))); rintro e w6 ⟨A6, c6, rfl, ho6, hb6⟩; have HB6 := Aside0.mk (And.intro (show Below wr.heap.size wr w6 from Below.trans (by repeat' (first | exact HB5.out | (with_reducible exact Below.refl _ _) | (with_reducible refine below_drew ?_) | (with_reducible refine Below.alloc ?_ ?_ _) | (with_reducible refine below_setCell ?_ ?_ _) | omega | (simp; done) | (simp; omega))) (hb6.mono (by first | omega | (simp; omega)))) ho6); have hs6 := HB6.out.1.size; have hS6 := keepS (B := wr.heap.size) (by assumption) (hb6.mono (by first | omega | (simp; omega))) (by omega) (by omega); (first | (have t60 : w6.cell? ⟨w5.heap.size, 0, none⟩ = some (.slice none 0 0) := (hb6.cell (p := ⟨w5.heap.size, 0, none⟩) (by simp)).trans (cell_of_row _ _ _ _ _ _ (heap_alloc_new _ _)); have t61 : w6.cell? ⟨w5.heap.size, 1, none⟩ = some (.int .i64 0) := (hb6.cell (p := ⟨w5.heap.size, 1, none⟩) (by simp)).trans (cell_of_row _ _ _ _ _ _ (heap_alloc_new _ _)); have u60 : w6.frozen? ⟨w5.heap.size, 0, none⟩ = false := (hb6.frozen (p := ⟨w5.heap.size, 0, none⟩) (by simp)).trans (blk_frozen (heap_alloc_new _ _) _); have u61 : w6.frozen? ⟨w5.heap.size, 1, none⟩ = false := (hb6.frozen (p := ⟨w5.heap.size, 1, none⟩) (by simp)).trans (blk_frozen (heap_alloc_new _ _) _); have y6 : w5.heap.size < w6.heap.size := (by have h_ := hb6.size; simp at h_; omega)) | (have t60 : w6.cell? ⟨w3.heap.size, 0, none⟩ = some (.slice none 0 0) := (hb6.cell (p := ⟨w3.heap.size, 0, none⟩) y5).trans t50; have t61 : w6.cell? ⟨w3.heap.size, 1, none⟩ = some (.int .i64 0) := (hb6.cell (p := ⟨w3.heap.size, 1, none⟩) y5).trans t51; have u60 : w6.frozen? ⟨w3.heap.size, 0, none⟩ = false := (hb6.frozen (p := ⟨w3.heap.size, 0, none⟩) y5).trans u50; have u61 : w6.frozen? ⟨w3.heap.size, 1, none⟩ = false := (hb6.frozen (p := ⟨w3.heap.size, 1, none⟩) y5).trans u51; have y6 : w3.heap.size < w6.heap.size := (by have h_ := hb6.size; omega)) | skip); clear ho6 hb6))
           all_goals
             go_wp2_with fail
             go_meet
             first
               | exact ⟨_, A6, c6, rfl, rfl, ⟨tb_alloc HB.out HCR.out n2 HF.out HB6.out.1 hS6.1 hS6.2.1 (Kd.R_lower HB6.out.2 (by first | omega | (simp; omega)))⟩, ⟨by (repeat' (first | exact HB6.out.1 | (with_reducible exact Below.refl _ _) | (with_reducible refine below_drew ?_) | (with_reducible refine Below.alloc ?_ ?_ _) | (with_reducible refine below_setCell ?_ ?_ _) | omega | (simp; done) | (simp; omega)))⟩⟩
               | exact ⟨_, A6, c6, rfl, rfl, ⟨tb_set HB.out HCR.out n2 HF.out HB6.out.1 hS6.1 hS6.2.1 HB6.out.2 ⟨by first | omega | (simp; done) | (simp; omega), by first | omega | (simp; done) | (simp; omega)⟩ (by omega) y6 t60 t61⟩, ⟨by (repeat' (first | exact HB6.out.1 | (with_reducible exact Below.refl _ _) | (with_reducible refine below_drew ?_) | (with_reducible refine Below.alloc ?_ ?_ _) | (with_reducible refine below_setCell ?_ ?_ _) | omega | (simp; done) | (simp; omega)))⟩⟩
          case rest =>
            obtain ⟨tb, A6, c6, rfl, rfl, HTB, HBX⟩ := hcut
            have t0 := HTB.out.t0
            have t1 := HTB.out.t1
            have s0 := HTB.out.s0
            have s1 := HTB.out.s1
            have f0 := HTB.out.f0
            have f1 := HTB.out.f1
            have ntb : ¬ (w.heap.size = tb) := by have := HTB.out.lo; omega
            have HF2 := Aside0.mk (show Fit ⟨ql, qn⟩ by have := fit_step HFIT.out HCK.out; rw [HQ.out] at this; exact this)
            cases qb with
            | true =>
              go_wp2
              all_goals
                go_roundw
                case rel => exact ⟨k + 1, ql, qn, by omega, by simp, ⟨stw_next HTB.out HGO.out.good⟩, HF2⟩
                case measure => simp [intOf]; omega
            | false =>
              go_wp2
              go_roundw
              case rel => exact ⟨k + 1, ps, nx, by omega, by simp, ⟨StW.below HW.out HBX.out⟩, HFIT⟩
              case measure => simp [intOf]; omega
      · have hk2 : k = l.length := by omega
        subst hk2
        have h0 : ∀ x ∈ ps, 0 ≤ x.id := fun x hx => (HFIT.out.at_ x hx).1
        have HPI := Aside0.mk (play_image HGD.out h0 HFIT.out.nx.1)
        have HCI := Aside0.mk (chk_image HGD.out HFIT.out)
        have HLI := Aside0.mk (img_all HGD.out)
        have HIMG := Aside0.mk (Image_calls A2 c2 ps nx wr HCR.out HGD.out.few (fun p hp => by have := HFIT.out.at_ p hp; omega) (by have := HFIT.out.nx; simp only at this; omega))
        obtain ⟨xs, hxs⟩ : ∃ xs, imageP ⟨ps, nx⟩ = xs := ⟨_, rfl⟩
        rw [hxs] at HPI HCI HLI HIMG
        have HF := Aside0.mk (And.intro m2 m3)
        clear hxs h0
        go_wp2_with (first
          | (go_at_call 38; refine HIMG.out.mono ?_; rintro e w5 ⟨A9, c9, rfl, ho5, hb5⟩; have HB5 := Aside0.mk hb5; have HO5 := Aside0.mk ho5; clear ho5 hb5)
          | (go_at_call 31; refine (Play_calls A9 c9 xs _ (Kd.R_reads' HO5.out).2.2 (by have := HLI.out; omega) (fun r hr => by have := chk_id (HCI.out r hr); exact ⟨by omega, by omega⟩)).mono ?_; rw [HPI.out]; rintro e w6 ⟨v6, rfl, ho6, hb6⟩; obtain ⟨A6, c6, rfl⟩ := Kd.R_slice ho6; have HB6 := Aside0.mk (And.intro (below_step HB5.out hb6) (And.intro hb6 ho6)); clear ho6 hb6))
        have HTB := Aside0.mk (tb_alloc (qn := nx) (t := 60) HB.out HCR.out n2 HF.out HB6.out.1 ((HB6.out.1.cell (p := ⟨w.heap.size, 0, none⟩) n2).trans m0) ((HB6.out.1.cell (p := ⟨w.heap.size, 1, none⟩) n2).trans m1) (Kd.R_lower HB6.out.2.2 (by have := HB5.out.size; omega)))
        have HXC := Aside0.mk (Kd.C_below (Kd.R_reads' HO5.out).2.2 (below_step HB6.out.2.1 (below_alloc (Below.refl _ _) _ : Below w6.heap.size w6 (w6.alloc (.cells #[.slice A6 ps.length c6, .int .i64 nx] 60)))))
        obtain ⟨tb, htb⟩ : ∃ tb, tb = w6.heap.size := ⟨_, rfl⟩
        rw [← htb] at HTB
        rw [← htb]
        clear htb m0 m1 m2 m3
        go_loopw [10] (fun jv wj => ∃ (j : Nat), j ≤ xs.length ∧ jv = .int .i64 j ∧ Aside0 (TB w A2 c2 ps nx A6 c6 ps nx tb wj) ∧ Aside0 (Kd.C kRc wj A9 xs.length xs)) (fun jv _ => xs.length - (intOf jv).toNat)
        case atStart => exact ⟨0, Nat.zero_le _, rfl, HTB, HXC⟩
        case round =>
          obtain ⟨j, hj, rfl, HTJ, HXJ⟩ := hrel
          have hlj : xs.length ≤ 129 := HLI.out
          by_cases hjl : j < xs.length
          · obtain ⟨b, o, hA, hb, hr⟩ := flat_at HXJ.out (by decide) (Nat.lt_of_le_of_lt (Nat.zero_le _) hjl)
            subst hA
            have hrow := (hr j hjl).1
            have hc0 := HCI.out _ (List.getElem_mem hjl)
            obtain ⟨x, hx⟩ : ∃ x, x = xs[j] := ⟨_, rfl⟩
            rw [← hx] at hrow hc0
            clear hr hx
            have hd1 : (chkE x != 0) = false := by simp [hc0]
            have hd2 : decide (chkE x = 0) = true := decide_eq_true hc0
            have hj2 : (j : Int) < (xs.length : Int) := by omega
            clear hc0
            go_wp2_with (go_at_call 26; refine (Check_calls x _ (HT.out.below HTJ.out.b)).mono ?_; rintro e w7 ⟨rfl, hb7⟩; have HB7 := Aside0.mk hb7; clear hb7)
            go_roundw
            case rel => exact ⟨j + 1, by omega, by simp, ⟨HTJ.out.below HB7.out⟩, ⟨Kd.C_below HXJ.out HB7.out⟩⟩
            case measure => simp [intOf]; omega
          · have hj3 : j = xs.length := by omega
            subst hj3
            have t0 := HTJ.out.t0
            have t1 := HTJ.out.t1
            have s0 := HTJ.out.s0
            have s1 := HTJ.out.s1
            have HE := Aside0.mk (show decide ((⟨ps, nx⟩ : St) = ⟨ps, nx⟩) = true by simp)
            go_wp2_with (first
              | (go_at_call 37; refine (Same_calls A2 A6 c2 c6 ps ps nx nx _ HTJ.out.cps (Kd.R_reads' HTJ.out.o).2.2 (Nat.le_trans HGD.out.few (by decide))).mono ?_; rintro e w7 ⟨rfl, hb7⟩; rw [HE.out]; have HT7 := Aside0.mk (HTJ.out.below hb7); clear hb7)
              | (go_at_call 22; refine (awake_calls _ (HT.out.below HT7.out.b)).mono ?_; rintro e w8 ⟨rfl, hb8⟩; have HB8 := Aside0.mk (below_step HT7.out.b hb8); clear hb8))
            go_ret
            exact ⟨rfl, HB8.out⟩
end Go.Proofs.YtiohgpcbdefokaaDoor.B
