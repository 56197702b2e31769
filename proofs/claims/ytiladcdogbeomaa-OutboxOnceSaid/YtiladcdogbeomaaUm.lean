/- Law 24 (outbox): contracts of functions that its statements reach, and plain laws behind them (part 13). No condition. -/
import Derived.Test.YtiladcdogbeomaaUl
namespace Go.Proofs.Ytiladcdogbeomaa.QRangesPlays
open Go.RowKit Go.Shelf Go.Proofs.YtiladcdogbeomaaW.PrintWords Go.Proofs.YtiladcdogbeomaaW.PrintLast Go.Proofs.YtiladcdogbeomaaW.PrintMore Go.Proofs.Ytiladcdogbeomaa.RowLaws Go.Proofs.Ytiladcdogbeomaa.Lazy
attribute [local go_sem] Oper.semAt_some
structure R26 (t : ByteArray) (a : Int) (d : ByteArray) (S room limit : Int) : Prop where
  out : (0 ≤ a ∧ a + (d.size : Int) ≤ (t.size : Int) ∧ t.size ≤ 262144) ∧ ((t.extract a.toNat (a + (d.size : Int)).toNat).toList == d.toList) = true ∧ ¬ (if 0 < room then room else 0) < (d.size : Int) ∧ (0 < (d.size : Int) → ¬ (if S < limit then limit else S) < a + (d.size : Int))
theorem Once_r26 (Y Z : Nat) (t : ByteArray) (a : Int) (d : ByteArray) (sent room limit : Int) (t0 : List Value) (d0 : List Deferred) (w : World) (Q : Exit → Act → World → Prop) (hl : t0.length = on26_tab.length)
    (t5 : t0[5]? = some (.string t)) (t7 : t0[7]? = some (.pointer (some ⟨Z, 0, none⟩))) (t8 : t0[8]? = some (.int .i64 sent)) (t9 : t0[9]? = some (.pointer (some ⟨Y, 0, none⟩))) (ky0 : w.cell? ⟨Y, 0, none⟩ = some (.int .i64 a)) (ky1 : w.cell? ⟨Y, 1, none⟩ = some (.string d)) (kz4 : w.cell? ⟨Z, 4, none⟩ = some (.int .i64 room)) (kz5 : w.cell? ⟨Z, 5, none⟩ = some (.int .i64 limit)) (hq : R26 t a d sent room limit)
    (hQ : ∀ σ W, Below w.heap.size w W ∧ σ 56 = .bool false → Q .normal (lazyA (fun _ => true) σ t0 on26_tab d0) W) :
    (Code.region 26 on26_ops.toArray true).wp Try.prog Q { tmps := t0.toArray, defers := d0 } w := by
  by_cases hz : 0 < (d.size : Int)
  · exact Once_r26b Y Z t a d sent room limit t0 d0 w Q hl t5 t7 t8 t9 ky0 ky1 kz4 kz5 hq.out.1 hq.out.2.1 hq.out.2.2.1 hz (hq.out.2.2.2 hz) hQ
  · exact Once_r26a Y Z t a d sent room limit t0 d0 w Q hl t5 t7 t8 t9 ky0 ky1 kz4 kz5 hq.out.1 hq.out.2.1 hq.out.2.2.1 hz hQ
theorem info4b : (Try.prog.info? 4).map (fun i => (i.zero, i.size, i.bytes)) = some (some (.bool false), 1, 1) := by kernel_rfl
theorem info46b : (Try.prog.info? 46).map (fun i => (i.zero, i.size, i.bytes)) = some (some (.agg #[.int .i64 0, .string ⟨#[]⟩, .bool false]), kch.sz, 32) := by kernel_rfl
theorem kch_lit (W : World) (B : Nat) (ok : Nat → Prop) (a : Int) (s : ByteArray) (f : Bool) : kch.M W B ok (a, s, f) [.int .i64 a, .string s, .bool f] := by
  exact ⟨[.int .i64 a], [.string s, .bool f], rfl, rfl, ⟨[.string s], [.bool f], rfl, rfl, rfl⟩⟩
/-- The worlds of the loop, behind i rounds. -/
structure OnI (X g gc ga : Nat) (w : World) (t : ByteArray) (S : Int) (C A : List S95) (f1 f2 f3 f4 : Bool) (tr : ByteArray) (m : Value) (x y : Bool) (z : Int) (v cv : Value) (cs : List Bool) (i b : Nat) (W : World) : Prop where
  s : OnS X g gc ga w t S C A f1 f2 f3 f4 tr m x y z v cv cs W
  v : WentV v i
  t : t.size ≤ b
def OnW (X g gc ga : Nat) (w : World) (t : ByteArray) (cv : Value) (i b : Nat) (W : World) : Prop := ∃ S C A f1 f2 f3 f4 tr m x y z v cs, OnI X g gc ga w t S C A f1 f2 f3 f4 tr m x y z v cv cs i b W
theorem wentV_next {v : Value} {i : Nat} (h : WentV v i) : WentV v (i + 1) := by
  obtain ⟨A, n, c, e, h1, h2⟩ := h
  exact ⟨A, n, c, e, by omega, h2⟩
section
variable {X g gc ga : Nat} {w W W' : World} {t : ByteArray} {cv : Value} {i b b' : Nat}
theorem OnW.mk {S : Int} {C A : List S95} {f1 f2 f3 f4 : Bool} {tr : ByteArray} {m : Value} {x y : Bool} {z : Int} {v : Value} {cs : List Bool} (h : OnS X g gc ga w t S C A f1 f2 f3 f4 tr m x y z v cv cs W) (hv : WentV v i) (ht : t.size ≤ b) : OnW X g gc ga w t cv i b W :=
  ⟨S, C, A, f1, f2, f3, f4, tr, m, x, y, z, v, cs, h, hv, ht⟩
theorem once_start (hw : W.heap[X]? = some (wdO g ⟨#[]⟩ (.slice none 0 0) false false 0 (.slice none 0 0))) (o : OSP g gc ga w ⟨#[]⟩ 0 [] [] false false false false W) (hc : CR W w.heap.size cv (List.replicate 2001 false)) (hx : w.heap.size ≤ X) (hne : X ≠ g ∧ X ≠ gc ∧ X ≠ ga) : OnW X g gc ga w ⟨#[]⟩ cv 0 0 W :=
  OnW.mk ⟨o, hw, ⟨⟨[], Kd.R_nil _ _ _ _ _, Nat.le_refl _⟩, by decide, [], Kd.R_nil _ _ _ _ _, by simp⟩, hc, List.length_replicate, fun k hk e => (by rw [List.getElem_replicate] at e; cases e), hx, hne⟩ ⟨none, 0, 0, rfl, Nat.le_refl _, fun _ => rfl⟩ (Nat.le_refl _)
theorem once_write0 {g gc ga : Nat} {w W : World} {t : ByteArray} {S : Int} {C A : List S95} {f1 f2 f3 f4 : Bool} (h : OSP g gc ga w t S C A f1 f2 f3 f4 W) (s : ByteArray) (h0 : writeF t f1 s = 0) : Calls Try.prog 21 #[.pointer (some ⟨g, 0, none⟩), .string s] W fun e w' => e = .returned (.int .i64 0) ∧ OSP g gc ga w (t ++ s) S C A f1 f2 f3 f4 w' ∧ On (O3 g gc ga) W w' := by
  have := h.write s
  rwa [h0, if_pos rfl] at this
theorem once_write1 {g gc ga : Nat} {w W : World} {t : ByteArray} {S : Int} {C A : List S95} {f1 f2 f3 f4 : Bool} (h : OSP g gc ga w t S C A f1 f2 f3 f4 W) (s : ByteArray) {r : Int} (hr : writeF t f1 s = r) (h0 : ¬ r = 0) : Calls Try.prog 21 #[.pointer (some ⟨g, 0, none⟩), .string s] W fun e w' => e = .returned (.int .i64 r) ∧ OSP g gc ga w t S C A f1 f2 f3 f4 w' ∧ On (O3 g gc ga) W w' := by
  have := h.write s
  rwa [hr, if_neg h0] at this
def OnK (X g gc ga : Nat) (w : World) (t : ByteArray) (cv : Value) (i b : Nat) (C : List S95) (U : Nat) (uo : Obj) (W : World) : Prop := ∃ S A f1 f2 f3 f4 tr m x y z v cs, OnS X g gc ga w t S C A f1 f2 f3 f4 tr m x y z v cv cs W ∧ WentV v i ∧ t.size ≤ b ∧ W.heap[U]? = some uo
theorem OnK.mk {C : List S95} {U : Nat} {uo : Obj} {S : Int} {A : List S95} {f1 f2 f3 f4 : Bool} {tr : ByteArray} {m : Value} {x y : Bool} {z : Int} {v : Value} {cs : List Bool} (h : OnS X g gc ga w t S C A f1 f2 f3 f4 tr m x y z v cv cs W) (hv : WentV v i) (ht : t.size ≤ b) (hU : W.heap[U]? = some uo) : OnK X g gc ga w t cv i b C U uo W :=
  ⟨S, A, f1, f2, f3, f4, tr, m, x, y, z, v, cs, h, hv, ht, hU⟩
theorem OnK.end {C : List S95} {U : Nat} {uo : Obj} (h : OnK X g gc ga w t cv i b C U uo W) (hb : b ≤ b') : OnW X g gc ga w t cv (i + 1) b' W := by
  obtain ⟨S, A, f1, f2, f3, f4, tr, m, x, y, z, v, cs, h, hv, ht, -⟩ := h
  exact OnW.mk h (wentV_next hv) (by omega)
theorem OnK.mark {C : List S95} {U : Nat} {ty : Nat} {cells : Array Value} {q n cap : Nat} (h : OnK X g gc ga w t (.slice (some ⟨q, 0, none⟩) n cap) i b C U (.cells cells ty (0, 0)) W) (hty : ty ≠ 4) {k : Nat} (hk : k < 2001) (hC : has C k) : OnK X g gc ga w t (.slice (some ⟨q, 0, none⟩) n cap) i b C U (.cells cells ty (0, 0)) (W.setCell ⟨q, k, none⟩ (.bool true)) := by
  obtain ⟨S, A, f1, f2, f3, f4, tr, m, x, y, z, v, cs, h, hv, ht, hU⟩ := h
  obtain ⟨cs', h'⟩ := h.mark hk hC
  refine OnK.mk h' hv ht (((On.setCell (S := fun i => i = q) q k _ rfl W).block U (lt_of_block hU) ?_).trans hU)
  rintro rfl
  obtain ⟨c2, h2⟩ := Kd.R_typed h.c U (by simp [Value.ownBlock])
  rw [hU] at h2
  injection h2 with h2
  injection h2 with _ h2 _
  exact hty h2
theorem OnK.frozen {C : List S95} {U : Nat} {uo : Obj} {q n cap : Nat} (h : OnK X g gc ga w t (.slice (some ⟨q, 0, none⟩) n cap) i b C U uo W) {k : Nat} (hk : k < 2001) : (∃ b, W.cell? ⟨q, k, none⟩ = some (.bool b)) ∧ W.frozen? ⟨q, k, none⟩ = false := by
  obtain ⟨S, A, f1, f2, f3, f4, tr, m, x, y, z, v, cs, h, hv, ht, hU⟩ := h
  exact h.frozen hk
theorem OnK.at {C : List S95} {U : Nat} {uo : Obj} (h : OnK X g gc ga w t cv i b C U uo W) : W.heap[U]? = some uo := by
  obtain ⟨S, A, f1, f2, f3, f4, tr, m, x, y, z, v, cs, h, hv, ht, hU⟩ := h
  exact hU
theorem OnS.diff {S : Int} {C A : List S95} {f1 f2 f3 f4 : Bool} {tr : ByteArray} {m : Value} {x y : Bool} {z : Int} {v : Value} {cs : List Bool} (h : OnS X g gc ga w t S C A f1 f2 f3 f4 tr m x y z v cv cs W) {U ty : Nat} {cells : Array Value} (hU : W.heap[U]? = some (.cells cells ty (0, 0))) (hty : ty ≠ 43) : X ≠ U := by
  rintro rfl
  rw [h.b] at hU
  injection hU with hU
  injection hU with _ hU _
  exact hty hU.symm
theorem OnK.done {C : List S95} {U : Nat} {uo : Obj} (h : OnK X g gc ga w t cv i b C U uo W) (hb : b ≤ b') : OnW X g gc ga w t cv i b' W := by
  obtain ⟨S, A, f1, f2, f3, f4, tr, m, x, y, z, v, cs, h, hv, ht, -⟩ := h
  exact OnW.mk h hv (by omega)
theorem OnK.read {C : List S95} {U : Nat} {uo : Obj} {q n cap : Nat} (h : OnK X g gc ga w t (.slice (some ⟨q, 0, none⟩) n cap) i b C U uo W) {k : Nat} (hk : k < 2001) (hC : ¬ has C k) : W.cell? ⟨q, k, none⟩ = some (.bool false) := by
  obtain ⟨S, A, f1, f2, f3, f4, tr, m, x, y, z, v, cs, h, hv, ht, hU⟩ := h
  exact h.read hk hC
theorem grown_keep {B : Nat} {v : Value} {ws : List Ch} (hw : WR W B v ws) (hg : W.grownBy W' v.ownBlock) {k ty : Nat} {cells : Array Value} (hc : W.heap[k]? = some (.cells cells ty (0, 0))) (ht : ty ≠ 46) : W'.heap[k]? = some (.cells cells ty (0, 0)) := by
  refine (hg.block k (lt_of_block hc) (fun e => ?_)).trans hc
  obtain ⟨c2, h2⟩ := Kd.R_typed hw k e.symm
  rw [hc] at h2
  injection h2 with h2
  injection h2 with _ h2 _
  exact ht h2
end
def seqL : Code → Code
  | .seq a _ => a
  | c => c
def seqR : Code → Code
  | .seq _ b => b
  | c => c
def inC : Code → Code
  | .block _ a => a
  | .loop a => a
  | c => c
end Go.Proofs.Ytiladcdogbeomaa.QRangesPlays

namespace Go.Proofs.Ytiladcdogbeomaa.QRangesPlays
open Go.RowKit Go.Shelf Go.Proofs.YtiladcdogbeomaaW.PrintWords Go.Proofs.YtiladcdogbeomaaW.PrintLast Go.Proofs.YtiladcdogbeomaaW.PrintMore Go.Proofs.Ytiladcdogbeomaa.RowLaws Go.Proofs.Ytiladcdogbeomaa.Lazy
attribute [local go_sem] Oper.semAt_some
set_option maxRecDepth 100000 in
set_option maxHeartbeats 40000000 in
theorem Round_a (A : Option Addr) (c : Nat) (xs : List A7) (w : World) (n : Nat) (HN : Aside0 (xs.length = n)) (HFF : Aside0 (xs.length ≤ 60 ∧ ∀ j, j ≤ xs.length → sumD (xs.take j) ≤ 2000)) (g gc ga q cc X : Nat) (wr : World) {u2 u7 u8 u9 u10 u11 u12 u13 u14 u15 u16 u17 u25 u26 u27 u28 u29 u30 u31 u32 u33 u34 u35 u36 u37 u38 u39 u40 u41 u42 u43 u44 u45 u46 u47 u48 u49 u50 u51 u52 u53 u54 u55 u56 u57 u58 u59 u60 u61 u62 u63 u64 u65 u66 u67 u68 u69 u70 u71 u72 u73 u74 u75 u76 u77 u78 u79 u80 u81 u82 u83 u84 u85 u86 u87 u88 u89 u90 u91 u92 u93 u94 u95 u96 u97 u98 u99 u100 u101 u102 u103 u104 u105 u106 u107 u108 u109 u110 u111 u112 u113 u114 u115 u116 u117 u118 u119 u120 u121 u122 u123 u124 u125 u126 u127 u128 u129 u130 u131 u132 u133 u134 u135 u136 u137 u138 u139 u140 u141 u142 u143 u144 u145 u146 u147 u148 u149 u150 u151 u152 u153 u154 u155 u156 u157 u158 u159 u160 u161 u162 u163 u164 u165 u166 u167 u168 u169 u170 u171 u172 u173 u174 u175 u176 u177 u178 u179 u180 u181 u182 u183 u184 u185 u186 u187 u188 u189 u190 u191 u192 u193 u194 u195 u196 u197 u198 u199 u200 u201 u202 u203 u204 u205 u206 u207 u208 u209 u210 u211 u212 u213 : Value} (i : Nat) (t : ByteArray) (S : Int) (C A2 : List S95) (f1 f2 f3 f4 : Bool) (tr : ByteArray) (m : Value) (x y : Bool) (z : Int) (Av : Option Addr) (nv cv : Nat) (cs : List Bool)
    (HO : Aside0 (OnS X g gc ga w t S C A2 f1 f2 f3 f4 tr m x y z (.slice Av nv cv) (.slice (some ⟨q, 0, none⟩) 2001 cc) cs wr)) (HV : Aside0 (nv ≤ i ∧ (nv = 0 → Value.slice Av nv cv = .slice none 0 0))) (HT : Aside0 (t.size ≤ sumD (xs.take i))) (hlt : i < n) (b0 o0 : Nat) (hA : A = some ⟨b0, o0, none⟩) (k off : Int) (s : ByteArray) (fin : Bool) (room limit old : Int) (HSN : Aside0 (sumD (xs.take (i + 1)) = sumD (xs.take i) + s.size)) (hat : ActAt wr b0 (o0 + i * 7) ⟨k, off, s, fin, room, limit, old⟩) (HKB : Aside0 (0 ≤ k ∧ k < 256)) (hk : k % 8 = 0 ∨ k % 8 = 1 ∨ (k % 8 = 5 ∨ k % 8 = 6) ∨ k % 8 = 7) (NX : Act → World → Prop) (Q : Exit → Act → World → Prop)
    (hN : ∀ {t9 : ByteArray} {W9 : World} {v2 v7 v8 v9 v10 v11 v12 v13 v14 v15 v16 v17 v25 v26 v27 v28 v29 v30 v31 v32 v33 v34 v35 v36 v37 v38 v39 v40 v41 v42 v43 v44 v45 v46 v47 v48 v49 v50 v51 v52 v53 v54 v55 v56 v57 v58 v59 v60 v61 v62 v63 v64 v65 v66 v67 v68 v69 v70 v71 v72 v73 v74 v75 v76 v77 v78 v79 v80 v81 v82 v83 v84 v85 v86 v87 v88 v89 v90 v91 v92 v93 v94 v95 v96 v97 v98 v99 v100 v101 v102 v103 v104 v105 v106 v107 v108 v109 v110 v111 v112 v113 v114 v115 v116 v117 v118 v119 v120 v121 v122 v123 v124 v125 v126 v127 v128 v129 v130 v131 v132 v133 v134 v135 v136 v137 v138 v139 v140 v141 v142 v143 v144 v145 v146 v147 v148 v149 v150 v151 v152 v153 v154 v155 v156 v157 v158 v159 v160 v161 v162 v163 v164 v165 v166 v167 v168 v169 v170 v171 v172 v173 v174 v175 v176 v177 v178 v179 v180 v181 v182 v183 v184 v185 v186 v187 v188 v189 v190 v191 v192 v193 v194 v195 v196 v197 v198 v199 v200 v201 v202 v203 v204 v205 v206 v207 v208 v209 v210 v211 v212 v213 : Value}, Aside0 (OnW X g gc ga w t9 (.slice (some ⟨q, 0, none⟩) 2001 cc) (i + 1) (sumD (xs.take (i + 1))) W9) → NX { tmps := (.slice A n c :: undef :: v2 :: .pointer (some ⟨X, 0, none⟩) :: .slice (some ⟨q, 0, none⟩) 2001 cc :: .string t9 :: .int .i64 ((i : Int) + 1) :: v7 :: v8 :: v9 :: v10 :: v11 :: v12 :: v13 :: v14 :: v15 :: v16 :: v17 :: .slice A n c :: .bool true :: .bool false :: undef :: .pointer (some ⟨g, 0, none⟩) :: .agg #[.pointer (some ⟨g, 0, none⟩), .string ⟨#[]⟩, .slice none 0 0, .bool false, .bool false, .int .u8 0, .slice none 0 0] :: .slice (some ⟨q, 0, none⟩) 2001 cc :: v25 :: v26 :: v27 :: v28 :: v29 :: v30 :: v31 :: v32 :: v33 :: v34 :: v35 :: v36 :: v37 :: v38 :: v39 :: v40 :: v41 :: v42 :: v43 :: v44 :: v45 :: v46 :: v47 :: v48 :: v49 :: v50 :: v51 :: v52 :: v53 :: v54 :: v55 :: v56 :: v57 :: v58 :: v59 :: v60 :: v61 :: v62 :: v63 :: v64 :: v65 :: v66 :: v67 :: v68 :: v69 :: v70 :: v71 :: v72 :: v73 :: v74 :: v75 :: v76 :: v77 :: v78 :: v79 :: v80 :: v81 :: v82 :: v83 :: v84 :: v85 :: v86 :: v87 :: v88 :: v89 :: v90 :: v91 :: v92 :: v93 :: v94 :: v95 :: v96 :: v97 :: v98 :: v99 :: v100 :: v101 :: v102 :: v103 :: v104 :: v105 :: v106 :: v107 :: v108 :: v109 :: v110 :: v111 :: v112 :: v113 :: v114 :: v115 :: v116 :: v117 :: v118 :: v119 :: v120 :: v121 :: v122 :: v123 :: v124 :: v125 :: v126 :: v127 :: v128 :: v129 :: v130 :: v131 :: v132 :: v133 :: v134 :: v135 :: v136 :: v137 :: v138 :: v139 :: v140 :: v141 :: v142 :: v143 :: v144 :: v145 :: v146 :: v147 :: v148 :: v149 :: v150 :: v151 :: v152 :: v153 :: v154 :: v155 :: v156 :: v157 :: v158 :: v159 :: v160 :: v161 :: v162 :: v163 :: v164 :: v165 :: v166 :: v167 :: v168 :: v169 :: v170 :: v171 :: v172 :: v173 :: v174 :: v175 :: v176 :: v177 :: v178 :: v179 :: v180 :: v181 :: v182 :: v183 :: v184 :: v185 :: v186 :: v187 :: v188 :: v189 :: v190 :: v191 :: v192 :: v193 :: v194 :: v195 :: v196 :: v197 :: v198 :: v199 :: v200 :: v201 :: v202 :: v203 :: v204 :: v205 :: v206 :: v207 :: v208 :: v209 :: v210 :: v211 :: v212 :: v213 :: undef :: undef :: undef :: undef :: undef :: undef :: undef :: undef :: undef :: undef :: undef :: undef :: undef :: undef :: []).toArray, defers := [] } W9) :
    (inC (inC (seqR (seqL (seqR (seqR (seqR (seqR (seqR (Try.f4.body.getD .skip)))))))))).wp Try.prog (Exit.then NX Q) { tmps := (.slice A n c :: undef :: u2 :: .pointer (some ⟨X, 0, none⟩) :: .slice (some ⟨q, 0, none⟩) 2001 cc :: .string t :: .int .i64 (i : Int) :: u7 :: u8 :: u9 :: u10 :: u11 :: u12 :: u13 :: u14 :: u15 :: u16 :: u17 :: .slice A n c :: .bool true :: .bool false :: undef :: .pointer (some ⟨g, 0, none⟩) :: .agg #[.pointer (some ⟨g, 0, none⟩), .string ⟨#[]⟩, .slice none 0 0, .bool false, .bool false, .int .u8 0, .slice none 0 0] :: .slice (some ⟨q, 0, none⟩) 2001 cc :: u25 :: u26 :: u27 :: u28 :: u29 :: u30 :: u31 :: u32 :: u33 :: u34 :: u35 :: u36 :: u37 :: u38 :: u39 :: u40 :: u41 :: u42 :: u43 :: u44 :: u45 :: u46 :: u47 :: u48 :: u49 :: u50 :: u51 :: u52 :: u53 :: u54 :: u55 :: u56 :: u57 :: u58 :: u59 :: u60 :: u61 :: u62 :: u63 :: u64 :: u65 :: u66 :: u67 :: u68 :: u69 :: u70 :: u71 :: u72 :: u73 :: u74 :: u75 :: u76 :: u77 :: u78 :: u79 :: u80 :: u81 :: u82 :: u83 :: u84 :: u85 :: u86 :: u87 :: u88 :: u89 :: u90 :: u91 :: u92 :: u93 :: u94 :: u95 :: u96 :: u97 :: u98 :: u99 :: u100 :: u101 :: u102 :: u103 :: u104 :: u105 :: u106 :: u107 :: u108 :: u109 :: u110 :: u111 :: u112 :: u113 :: u114 :: u115 :: u116 :: u117 :: u118 :: u119 :: u120 :: u121 :: u122 :: u123 :: u124 :: u125 :: u126 :: u127 :: u128 :: u129 :: u130 :: u131 :: u132 :: u133 :: u134 :: u135 :: u136 :: u137 :: u138 :: u139 :: u140 :: u141 :: u142 :: u143 :: u144 :: u145 :: u146 :: u147 :: u148 :: u149 :: u150 :: u151 :: u152 :: u153 :: u154 :: u155 :: u156 :: u157 :: u158 :: u159 :: u160 :: u161 :: u162 :: u163 :: u164 :: u165 :: u166 :: u167 :: u168 :: u169 :: u170 :: u171 :: u172 :: u173 :: u174 :: u175 :: u176 :: u177 :: u178 :: u179 :: u180 :: u181 :: u182 :: u183 :: u184 :: u185 :: u186 :: u187 :: u188 :: u189 :: u190 :: u191 :: u192 :: u193 :: u194 :: u195 :: u196 :: u197 :: u198 :: u199 :: u200 :: u201 :: u202 :: u203 :: u204 :: u205 :: u206 :: u207 :: u208 :: u209 :: u210 :: u211 :: u212 :: u213 :: undef :: undef :: undef :: undef :: undef :: undef :: undef :: undef :: undef :: undef :: undef :: undef :: undef :: undef :: []).toArray, defers := [] } wr := by
  subst hA
  have hlt2 : (i : Int) < (n : Int) := by omega
  have e3 : IntKind.i64.wrap ((i : Int) + 1) = (i : Int) + 1 := IntWalk.i64_in _ (by have := HFF.out.1; have := HN.out; omega)
  obtain ⟨z0, z1, z2, z3, z4, z5, z6⟩ := hat
  simp only at z0 z1 z2 z3 z4 z5 z6
  have hX1 : (wr.alloc (acO ⟨k, off, s, fin, room, limit, old⟩)).heap[X]? = some (wdO g tr m x y z (.slice Av nv cv)) := blk_alloc HO.out.b _
  have hZ1 := heap_alloc_new wr (acO ⟨k, off, s, fin, room, limit, old⟩)
  have HO1 := Aside0.mk (HO.out.below (below_alloc (Below.refl _ _) (acO ⟨k, off, s, fin, room, limit, old⟩)))
  simp only [acO] at hX1 hZ1
  have HZ1 := Aside0.mk hZ1
  have HZN := Aside0.mk (show wr.heap.size ≠ g ∧ wr.heap.size ≠ gc ∧ wr.heap.size ≠ ga from ⟨fun e => by have := HO.out.o.o3lt g (.inl rfl); omega, fun e => by have := HO.out.o.o3lt gc (.inr (.inl rfl)); omega, fun e => by have := HO.out.o.o3lt ga (.inr (.inr rfl)); omega⟩)
  obtain ⟨d0, d1, d2, d3, d4, d5, d6⟩ := wd_cell hX1
  clear hX1 hZ1
  simp only [seqL, seqR, inC, Try.f4, Option.getD]
  rcases hk with hk | hk | hk | hk
  · have hk3 : Int.tmod k 8 = k % 8 := Int.tmod_eq_emod_of_nonneg HKB.out.1
    rw [hk] at hk3
    by_cases h0 : writeF t f1 s = 0
    · have hsb : ¬ 9223372036854775807 < t.size + s.size := by have h1 := HFF.out.2 (i + 1) (by have := HN.out; omega); have h2 := HSN.out; have h3 := HT.out; omega
      go_wp2_with (go_at_call 21; refine (once_write0 HO1.out.o s h0).mono ?_; rintro e w4 ⟨rfl, hx, ho⟩; have HO4 := Aside0.mk (HO1.out.on hx ho (fun _ h => h)); have HZ4 := Aside0.mk (keep3 ho HZ1.out HZN.out.1 HZN.out.2.1 HZN.out.2.2); clear hx ho; refine park ?_)
      clear d0 d1 d2 d3 d4 d5 d6
      obtain ⟨c0, c1, c2, c3, c4, c5, c6⟩ := wd_cell HO4.out.b
      obtain ⟨ms, hms, hml⟩ := HO4.out.r.mr
      have HM := Aside0.mk (And.intro hms hml)
      clear hms hml
      obtain ⟨z0, z1, z2, z3, z4, z5, z6⟩ := wd_cell HZ4.out
      refine ⟨?_⟩
      go_wp2_with (go_at_call 22; refine (RWrite_calls w.heap.size tr s m ms x y z _ HM.out.1 HM.out.2 HO4.out.r.ht HO4.out.o.hb.size).mono ?_; rintro e w5 ⟨v5, r5, rfl, ⟨t5, u5, ys5, x5, y5, zz5, rfl, hbr5, hl5, ht5, hB5⟩, hb5⟩; have HO5 := Aside0.mk (HO4.out.below hb5); have HZ5 := Aside0.mk ((hb5.block _ (lt_of_block HZ4.out)).trans HZ4.out); obtain ⟨Au, cu, rfl⟩ := Kd.R_slice hbr5; have HR5 := Aside0.mk (show RefW w.heap.size t5 (.slice Au ys5.length cu) _ w5 from ⟨⟨ys5, hbr5, hl5⟩, ht5, HO5.out.r.vr⟩); clear hbr5 hl5 ht5 hB5 hb5; refine park ?_)
      clear c0 c1 c2 c3 c4 c5 c6
      clear z0 z1 z2 z3 z4 z5 z6
      obtain ⟨c0, c1, c2, c3, c4, c5, c6⟩ := wd_cell HO5.out.b
      have p0 := free_blk HO5.out.b 0
      have p1 := free_blk HO5.out.b 1
      have p2 := free_blk HO5.out.b 2
      have p3 := free_blk HO5.out.b 3
      have p4 := free_blk HO5.out.b 4
      have p5 := free_blk HO5.out.b 5
      have p6 := free_blk HO5.out.b 6
      refine ⟨?_⟩
      go_wp2
      exact ⟨OnW.mk (HO5.out.ref HR5.out) ⟨Av, nv, cv, rfl, by have := HV.out.1; omega, HV.out.2⟩ (by rw [ByteArray.size_append, HSN.out]; have := HT.out; omega)⟩
    · obtain ⟨rc, hrc⟩ : ∃ r, writeF t f1 s = r := ⟨_, rfl⟩
      rw [hrc] at h0
      have HRC := Aside0.mk hrc
      clear hrc
      go_wp2_with (go_at_call 21; refine (once_write1 HO1.out.o s HRC.out h0).mono ?_; rintro e w4 ⟨rfl, hx, ho⟩; have HO4 := Aside0.mk (HO1.out.on hx ho (fun _ h => h)); have HZ4 := Aside0.mk (keep3 ho HZ1.out HZN.out.1 HZN.out.2.1 HZN.out.2.2); clear hx ho; refine park ?_)
      clear d0 d1 d2 d3 d4 d5 d6
      obtain ⟨c0, c1, c2, c3, c4, c5, c6⟩ := wd_cell HO4.out.b
      obtain ⟨ms, hms, hml⟩ := HO4.out.r.mr
      have HM := Aside0.mk (And.intro hms hml)
      clear hms hml
      obtain ⟨z0, z1, z2, z3, z4, z5, z6⟩ := wd_cell HZ4.out
      refine ⟨?_⟩
      go_wp2_with (go_at_call 22; refine (RWrite_calls w.heap.size tr s m ms x y z _ HM.out.1 HM.out.2 HO4.out.r.ht HO4.out.o.hb.size).mono ?_; rintro e w5 ⟨v5, r5, rfl, ⟨t5, u5, ys5, x5, y5, zz5, rfl, hbr5, hl5, ht5, hB5⟩, hb5⟩; have HO5 := Aside0.mk (HO4.out.below hb5); have HZ5 := Aside0.mk ((hb5.block _ (lt_of_block HZ4.out)).trans HZ4.out); obtain ⟨Au, cu, rfl⟩ := Kd.R_slice hbr5; have HR5 := Aside0.mk (show RefW w.heap.size t5 (.slice Au ys5.length cu) _ w5 from ⟨⟨ys5, hbr5, hl5⟩, ht5, HO5.out.r.vr⟩); clear hbr5 hl5 ht5 hB5 hb5; refine park ?_)
      clear c0 c1 c2 c3 c4 c5 c6
      clear z0 z1 z2 z3 z4 z5 z6
      obtain ⟨c0, c1, c2, c3, c4, c5, c6⟩ := wd_cell HO5.out.b
      have p0 := free_blk HO5.out.b 0
      have p1 := free_blk HO5.out.b 1
      have p2 := free_blk HO5.out.b 2
      have p3 := free_blk HO5.out.b 3
      have p4 := free_blk HO5.out.b 4
      have p5 := free_blk HO5.out.b 5
      have p6 := free_blk HO5.out.b 6
      refine ⟨?_⟩
      go_wp2
      exact ⟨OnW.mk (HO5.out.ref HR5.out) ⟨Av, nv, cv, rfl, by have := HV.out.1; omega, HV.out.2⟩ (by rw [HSN.out]; have := HT.out; omega)⟩
  · have hk3 : Int.tmod k 8 = k % 8 := Int.tmod_eq_emod_of_nonneg HKB.out.1
    rw [hk] at hk3
    go_wp2_with (go_at_call 29; refine (Do_fin g gc ga w t tr S C A2 f1 f2 f3 f4 m _ x y z ⟨k, off, s, fin, room, limit, old⟩ _ HO1.out.o HO1.out.r HKB.out.1 HKB.out.2 hk).mono ?_; rintro e w4 ⟨t4, u4, x4, y4, z4, b4, A4, e1, e4, rfl, hx, hr, ho⟩; have HO4 := Aside0.mk (HO1.out.on hx ho (fun _ h => h)); obtain ⟨ms, hm1, -⟩ := hr.mr; obtain ⟨Au, cu, rfl⟩ := Kd.R_slice hm1; have HR4 := Aside0.mk hr; clear hx hr ho hm1; refine park ?_)
    clear d0 d1 d2 d3 d4 d5 d6
    obtain ⟨c0, c1, c2, c3, c4, c5, c6⟩ := wd_cell HO4.out.b
    have p0 := free_blk HO4.out.b 0
    have p1 := free_blk HO4.out.b 1
    have p2 := free_blk HO4.out.b 2
    have p3 := free_blk HO4.out.b 3
    have p4 := free_blk HO4.out.b 4
    have p5 := free_blk HO4.out.b 5
    have p6 := free_blk HO4.out.b 6
    refine ⟨?_⟩
    go_wp2
    exact ⟨OnW.mk (HO4.out.wd HR4.out) ⟨Av, nv, cv, rfl, by have := HV.out.1; omega, HV.out.2⟩ (by rw [HSN.out]; have := HT.out; omega)⟩
  · rcases hk with hk | hk
    all_goals
      have hk3 : Int.tmod k 8 = k % 8 := Int.tmod_eq_emod_of_nonneg HKB.out.1
      rw [hk] at hk3
      obtain ⟨ws, hws, hwl⟩ := HO1.out.r.vr
      have HW := Aside0.mk (And.intro hws hwl)
      clear hws hwl
      go_wp2_with (go_at_call 26; refine (OChunk_calls w.heap.size ⟨k, off, s, fin, room, limit, old⟩ _ ws _ HW.out.1 HW.out.2).mono ?_; rintro e w2 ⟨off2, s2, fin2, rfl, hb⟩; have HO2 := Aside0.mk (HO1.out.below hb); clear hb; refine park ?_)
      clear d0 d1 d2 d3 d4 d5 d6 z0 z1 z2 z3 z4 z5 z6
      have hn := heap_alloc_new w2 (rcO off2 s2 fin2)
      have HO3 := Aside0.mk (HO2.out.below (below_alloc (Below.refl _ _) (rcO off2 s2 fin2)))
      have HUN := Aside0.mk (show w2.heap.size ≠ g ∧ w2.heap.size ≠ gc ∧ w2.heap.size ≠ ga from ⟨fun e => by have := HO2.out.o.o3lt g (.inl rfl); omega, fun e => by have := HO2.out.o.o3lt gc (.inr (.inl rfl)); omega, fun e => by have := HO2.out.o.o3lt ga (.inr (.inr rfl)); omega⟩)
      have HU3 := Aside0.mk hn
      obtain ⟨c0, c1, c2, c3, c4, c5, c6⟩ := wd_cell HO3.out.b
      obtain ⟨u0, u1, u2⟩ := rc_cell hn
      clear hn
      obtain ⟨rc, hrc⟩ : ∃ r, wasF t S f2 off2 s2 fin2 = r := ⟨_, rfl⟩
      have HRC := Aside0.mk hrc
      clear hrc
      refine ⟨?_⟩
      by_cases h0 : rc = 0
      · have HWF := Aside0.mk (show 0 ≤ off2 ∧ off2 + (s2.size : Int) ≤ 2000 from by have h1 := wasF_ok (HRC.out.trans h0); have h2 := HO2.out.o.bp.s1; have h3 := HT.out; have h4 := HFF.out.2 i (by have := HN.out; omega); omega)
        have HAS := Aside0.mk (fun n : Int => has_spanAdd (s := s2) HO2.out.o.bp.wc HWF.out.1 (by have := HWF.out.2; omega) n)
        subst h0
        go_wp2_with (go_at_call 27; refine (HO3.out.o.ack off2 s2 fin2 0 HRC.out).mono ?_; rintro e w3 ⟨rfl, ho, -, hx⟩; have HO4 := Aside0.mk (HO3.out.on (hx rfl) ho (fun n hn => (HAS.out n).2 (.inr hn))); have HU4 := Aside0.mk (keep3 ho HU3.out HUN.out.1 HUN.out.2.1 HUN.out.2.2); clear hx ho; refine park ?_)
        clear c0 c1 c2 c3 c4 c5 c6 u0 u1 u2
        obtain ⟨c0, c1, c2, c3, c4, c5, c6⟩ := wd_cell HO4.out.b
        obtain ⟨ms, hms, hml⟩ := HO4.out.r.mr
        have HM := Aside0.mk (And.intro hms hml)
        clear hms hml
        obtain ⟨u0, u1, u2⟩ := rc_cell HU4.out
        refine ⟨?_⟩
        go_wp2_with (go_at_call 28; refine (RAck_calls w.heap.size tr m ms x y z off2 s2 fin2 _ HM.out.1 HM.out.2 HO4.out.r.ht HO4.out.o.hb.size).mono ?_; rintro e w5 ⟨v5, r5, rfl, ⟨t5, u5, ys5, x5, y5, zz5, rfl, hbr5, hl5, ht5, hB5⟩, hb5⟩; have HO5 := Aside0.mk (HO4.out.below hb5); have HU5 := Aside0.mk ((hb5.block _ (lt_of_block HU4.out)).trans HU4.out); obtain ⟨Au, cu, rfl⟩ := Kd.R_slice hbr5; have HR5 := Aside0.mk (show RefW w.heap.size t5 (.slice Au ys5.length cu) _ w5 from ⟨⟨ys5, hbr5, hl5⟩, ht5, HO5.out.r.vr⟩); clear hbr5 hl5 ht5 hB5 hb5; refine park ?_)
        clear c0 c1 c2 c3 c4 c5 c6
        clear u0 u1 u2
        obtain ⟨c0, c1, c2, c3, c4, c5, c6⟩ := wd_cell HO5.out.b
        have p0 := free_blk HO5.out.b 0
        have p1 := free_blk HO5.out.b 1
        have p2 := free_blk HO5.out.b 2
        have p3 := free_blk HO5.out.b 3
        have p4 := free_blk HO5.out.b 4
        have p5 := free_blk HO5.out.b 5
        have p6 := free_blk HO5.out.b 6
        have HU6 := Aside0.mk (((on_putR w5 X (.string t5) (.slice Au ys5.length cu) (.bool x5) (.bool y5) (.int .u8 zz5)).block _ (lt_of_block HU5.out) (fun e => HO5.out.diff HU5.out (by decide) e.symm)).trans HU5.out)
        have HK6 := Aside0.mk (OnK.mk (HO5.out.ref HR5.out) (i := i) (b := sumD (xs.take i)) ⟨Av, nv, cv, rfl, HV.out.1, HV.out.2⟩ HT.out HU6.out)
        clear HU6
        refine ⟨?_⟩
        go_wp2
        go_loopw [17] (fun kv wk => ∃ j : Nat, j ≤ s2.size ∧ kv = .int .i64 j ∧ Aside0 (OnK X g gc ga w t (.slice (some ⟨q, 0, none⟩) 2001 cc) i (sumD (xs.take i)) (spanAdd off2 s2 C) w2.heap.size (rcO off2 s2 fin2) wk)) (fun kv _ => s2.size - (intOf kv).toNat)
        case atStart => exact ⟨0, Nat.zero_le _, rfl, HK6⟩
        case round =>
          obtain ⟨j, hj, rfl, HK7⟩ := hrel
          obtain ⟨u0, u1, u2⟩ := rc_cell HK7.out.at
          by_cases hjs : j < s2.size
          · have hjs2 : (j : Int) < (s2.size : Int) := by omega
            have hb2 := HWF.out
            obtain ⟨p, hp⟩ : ∃ p : Nat, off2 + (j : Int) = (p : Int) := ⟨(off2 + (j : Int)).toNat, by omega⟩
            have g1 : IntKind.i64.wrap (off2 + (j : Int)) = (p : Int) := by rw [hp]; exact IntWalk.i64_in _ (by omega)
            have g2 : IntKind.i64.wrap ((j : Int) + 1) = (j : Int) + 1 := IntWalk.i64_in _ (by omega)
            have g3 : (p : Int) < 2001 := by omega
            have HM8 := Aside0.mk (HK7.out.mark (by decide) (k := p) (by omega) ((HAS.out p).2 (.inl ⟨by omega, by omega⟩)))
            obtain ⟨⟨bb, g4⟩, g5⟩ := HK7.out.frozen (k := p) (by omega)
            clear hb2 hp
            go_wp2
            go_roundw
            case rel => exact ⟨j + 1, by omega, by simp, HM8⟩
            case measure => simp [intOf]; omega
          · have hjs2 : j = s2.size := by omega
            subst hjs2
            go_wp2
            exact ⟨HK7.out.end (by rw [HSN.out]; omega)⟩
      · go_wp2_with (go_at_call 27; refine (HO3.out.o.ack off2 s2 fin2 rc HRC.out).mono ?_; rintro e w3 ⟨rfl, ho, hx, -⟩; have HO4 := Aside0.mk (HO3.out.on (hx h0) ho (fun _ h => h)); have HU4 := Aside0.mk (keep3 ho HU3.out HUN.out.1 HUN.out.2.1 HUN.out.2.2); clear hx ho; refine park ?_)
        clear c0 c1 c2 c3 c4 c5 c6 u0 u1 u2
        obtain ⟨c0, c1, c2, c3, c4, c5, c6⟩ := wd_cell HO4.out.b
        obtain ⟨ms, hms, hml⟩ := HO4.out.r.mr
        have HM := Aside0.mk (And.intro hms hml)
        clear hms hml
        obtain ⟨u0, u1, u2⟩ := rc_cell HU4.out
        refine ⟨?_⟩
        go_wp2_with (go_at_call 28; refine (RAck_calls w.heap.size tr m ms x y z off2 s2 fin2 _ HM.out.1 HM.out.2 HO4.out.r.ht HO4.out.o.hb.size).mono ?_; rintro e w5 ⟨v5, r5, rfl, ⟨t5, u5, ys5, x5, y5, zz5, rfl, hbr5, hl5, ht5, hB5⟩, hb5⟩; have HO5 := Aside0.mk (HO4.out.below hb5); have HU5 := Aside0.mk ((hb5.block _ (lt_of_block HU4.out)).trans HU4.out); obtain ⟨Au, cu, rfl⟩ := Kd.R_slice hbr5; have HR5 := Aside0.mk (show RefW w.heap.size t5 (.slice Au ys5.length cu) _ w5 from ⟨⟨ys5, hbr5, hl5⟩, ht5, HO5.out.r.vr⟩); clear hbr5 hl5 ht5 hB5 hb5; refine park ?_)
        clear c0 c1 c2 c3 c4 c5 c6
        clear u0 u1 u2
        obtain ⟨c0, c1, c2, c3, c4, c5, c6⟩ := wd_cell HO5.out.b
        have p0 := free_blk HO5.out.b 0
        have p1 := free_blk HO5.out.b 1
        have p2 := free_blk HO5.out.b 2
        have p3 := free_blk HO5.out.b 3
        have p4 := free_blk HO5.out.b 4
        have p5 := free_blk HO5.out.b 5
        have p6 := free_blk HO5.out.b 6
        have HU6 := Aside0.mk (((on_putR w5 X (.string t5) (.slice Au ys5.length cu) (.bool x5) (.bool y5) (.int .u8 zz5)).block _ (lt_of_block HU5.out) (fun e => HO5.out.diff HU5.out (by decide) e.symm)).trans HU5.out)
        have HK6 := Aside0.mk (OnK.mk (HO5.out.ref HR5.out) (i := i) (b := sumD (xs.take i)) ⟨Av, nv, cv, rfl, HV.out.1, HV.out.2⟩ HT.out HU6.out)
        clear HU6
        refine ⟨?_⟩
        go_wp2
        go_loopw [17] (fun kv wk => kv = .int .i64 0 ∧ Aside0 (OnK X g gc ga w t (.slice (some ⟨q, 0, none⟩) 2001 cc) i (sumD (xs.take i)) C w2.heap.size (rcO off2 s2 fin2) wk)) (fun _ _ => 0)
        case atStart => exact ⟨rfl, HK6⟩
        case round =>
          obtain ⟨rfl, HK7⟩ := hrel
          obtain ⟨u0, u1, u2⟩ := rc_cell HK7.out.at
          by_cases hjs : 0 < s2.size
          · have hjs2 : (0 : Int) < (s2.size : Int) := by omega
            go_wp2
            exact ⟨HK7.out.end (by rw [HSN.out]; omega)⟩
          · have hjs2 : ¬ (0 : Int) < (s2.size : Int) := by omega
            go_wp2
            exact ⟨HK7.out.end (by rw [HSN.out]; omega)⟩
  · have hk3 : Int.tmod k 8 = k % 8 := Int.tmod_eq_emod_of_nonneg HKB.out.1
    rw [hk] at hk3
    go_wp2_with (go_at_call 29; refine (Do_lost g gc ga w t tr S C A2 f1 f2 f3 f4 m _ x y z ⟨k, off, s, fin, room, limit, old⟩ _ HO1.out.o HO1.out.r HKB.out.1 HKB.out.2 hk).mono ?_; rintro e w4 ⟨t4, u4, x4, y4, z4, b4, A4, e1, e4, rfl, hx, hr, ho⟩; have HO4 := Aside0.mk (HO1.out.on hx ho (fun _ h => h)); obtain ⟨ms, hm1, -⟩ := hr.mr; obtain ⟨Au, cu, rfl⟩ := Kd.R_slice hm1; have HR4 := Aside0.mk hr; clear hx hr ho hm1; refine park ?_)
    clear d0 d1 d2 d3 d4 d5 d6
    obtain ⟨c0, c1, c2, c3, c4, c5, c6⟩ := wd_cell HO4.out.b
    have p0 := free_blk HO4.out.b 0
    have p1 := free_blk HO4.out.b 1
    have p2 := free_blk HO4.out.b 2
    have p3 := free_blk HO4.out.b 3
    have p4 := free_blk HO4.out.b 4
    have p5 := free_blk HO4.out.b 5
    have p6 := free_blk HO4.out.b 6
    refine ⟨?_⟩
    go_wp2
    exact ⟨OnW.mk (HO4.out.wd HR4.out) ⟨Av, nv, cv, rfl, by have := HV.out.1; omega, HV.out.2⟩ (by rw [HSN.out]; have := HT.out; omega)⟩
end Go.Proofs.Ytiladcdogbeomaa.QRangesPlays

namespace Go.Proofs.Ytiladcdogbeomaa.QRangesPlays
open Go.RowKit Go.Shelf Go.Proofs.YtiladcdogbeomaaW.PrintWords Go.Proofs.YtiladcdogbeomaaW.PrintLast Go.Proofs.YtiladcdogbeomaaW.PrintMore Go.Proofs.Ytiladcdogbeomaa.RowLaws Go.Proofs.Ytiladcdogbeomaa.Lazy
attribute [local go_sem] Oper.semAt_some
set_option maxRecDepth 100000 in
set_option maxHeartbeats 40000000 in
theorem Round_e (A : Option Addr) (c : Nat) (xs : List A7) (w : World) (n : Nat) (HN : Aside0 (xs.length = n)) (HFF : Aside0 (xs.length ≤ 60 ∧ ∀ j, j ≤ xs.length → sumD (xs.take j) ≤ 2000)) (g gc ga q cc X : Nat) (wr : World) {u2 u7 u8 u9 u10 u11 u12 u13 u14 u15 u16 u17 u25 u26 u27 u28 u29 u30 u31 u32 u33 u34 u35 u36 u37 u38 u39 u40 u41 u42 u43 u44 u45 u46 u47 u48 u49 u50 u51 u52 u53 u54 u55 u56 u57 u58 u59 u60 u61 u62 u63 u64 u65 u66 u67 u68 u69 u70 u71 u72 u73 u74 u75 u76 u77 u78 u79 u80 u81 u82 u83 u84 u85 u86 u87 u88 u89 u90 u91 u92 u93 u94 u95 u96 u97 u98 u99 u100 u101 u102 u103 u104 u105 u106 u107 u108 u109 u110 u111 u112 u113 u114 u115 u116 u117 u118 u119 u120 u121 u122 u123 u124 u125 u126 u127 u128 u129 u130 u131 u132 u133 u134 u135 u136 u137 u138 u139 u140 u141 u142 u143 u144 u145 u146 u147 u148 u149 u150 u151 u152 u153 u154 u155 u156 u157 u158 u159 u160 u161 u162 u163 u164 u165 u166 u167 u168 u169 u170 u171 u172 u173 u174 u175 u176 u177 u178 u179 u180 u181 u182 u183 u184 u185 u186 u187 u188 u189 u190 u191 u192 u193 u194 u195 u196 u197 u198 u199 u200 u201 u202 u203 u204 u205 u206 u207 u208 u209 u210 u211 u212 u213 : Value} (i : Nat) (t : ByteArray) (S : Int) (C A2 : List S95) (f1 f2 f3 f4 : Bool) (tr : ByteArray) (m : Value) (x y : Bool) (z : Int) (Av : Option Addr) (nv cv : Nat) (cs : List Bool)
    (HO : Aside0 (OnS X g gc ga w t S C A2 f1 f2 f3 f4 tr m x y z (.slice Av nv cv) (.slice (some ⟨q, 0, none⟩) 2001 cc) cs wr)) (HV : Aside0 (nv ≤ i ∧ (nv = 0 → Value.slice Av nv cv = .slice none 0 0))) (HT : Aside0 (t.size ≤ sumD (xs.take i))) (hlt : i < n) (b0 o0 : Nat) (hA : A = some ⟨b0, o0, none⟩) (k off : Int) (s : ByteArray) (fin : Bool) (room limit old : Int) (HSN : Aside0 (sumD (xs.take (i + 1)) = sumD (xs.take i) + s.size)) (hat : ActAt wr b0 (o0 + i * 7) ⟨k, off, s, fin, room, limit, old⟩) (HKB : Aside0 (0 ≤ k ∧ k < 256)) (hk : k % 8 = 2 ∨ k % 8 = 3 ∨ k % 8 = 4) (NX : Act → World → Prop) (Q : Exit → Act → World → Prop)
    (hN : ∀ {t9 : ByteArray} {W9 : World} {v2 v7 v8 v9 v10 v11 v12 v13 v14 v15 v16 v17 v25 v26 v27 v28 v29 v30 v31 v32 v33 v34 v35 v36 v37 v38 v39 v40 v41 v42 v43 v44 v45 v46 v47 v48 v49 v50 v51 v52 v53 v54 v55 v56 v57 v58 v59 v60 v61 v62 v63 v64 v65 v66 v67 v68 v69 v70 v71 v72 v73 v74 v75 v76 v77 v78 v79 v80 v81 v82 v83 v84 v85 v86 v87 v88 v89 v90 v91 v92 v93 v94 v95 v96 v97 v98 v99 v100 v101 v102 v103 v104 v105 v106 v107 v108 v109 v110 v111 v112 v113 v114 v115 v116 v117 v118 v119 v120 v121 v122 v123 v124 v125 v126 v127 v128 v129 v130 v131 v132 v133 v134 v135 v136 v137 v138 v139 v140 v141 v142 v143 v144 v145 v146 v147 v148 v149 v150 v151 v152 v153 v154 v155 v156 v157 v158 v159 v160 v161 v162 v163 v164 v165 v166 v167 v168 v169 v170 v171 v172 v173 v174 v175 v176 v177 v178 v179 v180 v181 v182 v183 v184 v185 v186 v187 v188 v189 v190 v191 v192 v193 v194 v195 v196 v197 v198 v199 v200 v201 v202 v203 v204 v205 v206 v207 v208 v209 v210 v211 v212 v213 : Value}, Aside0 (OnW X g gc ga w t9 (.slice (some ⟨q, 0, none⟩) 2001 cc) (i + 1) (sumD (xs.take (i + 1))) W9) → NX { tmps := (.slice A n c :: undef :: v2 :: .pointer (some ⟨X, 0, none⟩) :: .slice (some ⟨q, 0, none⟩) 2001 cc :: .string t9 :: .int .i64 ((i : Int) + 1) :: v7 :: v8 :: v9 :: v10 :: v11 :: v12 :: v13 :: v14 :: v15 :: v16 :: v17 :: .slice A n c :: .bool true :: .bool false :: undef :: .pointer (some ⟨g, 0, none⟩) :: .agg #[.pointer (some ⟨g, 0, none⟩), .string ⟨#[]⟩, .slice none 0 0, .bool false, .bool false, .int .u8 0, .slice none 0 0] :: .slice (some ⟨q, 0, none⟩) 2001 cc :: v25 :: v26 :: v27 :: v28 :: v29 :: v30 :: v31 :: v32 :: v33 :: v34 :: v35 :: v36 :: v37 :: v38 :: v39 :: v40 :: v41 :: v42 :: v43 :: v44 :: v45 :: v46 :: v47 :: v48 :: v49 :: v50 :: v51 :: v52 :: v53 :: v54 :: v55 :: v56 :: v57 :: v58 :: v59 :: v60 :: v61 :: v62 :: v63 :: v64 :: v65 :: v66 :: v67 :: v68 :: v69 :: v70 :: v71 :: v72 :: v73 :: v74 :: v75 :: v76 :: v77 :: v78 :: v79 :: v80 :: v81 :: v82 :: v83 :: v84 :: v85 :: v86 :: v87 :: v88 :: v89 :: v90 :: v91 :: v92 :: v93 :: v94 :: v95 :: v96 :: v97 :: v98 :: v99 :: v100 :: v101 :: v102 :: v103 :: v104 :: v105 :: v106 :: v107 :: v108 :: v109 :: v110 :: v111 :: v112 :: v113 :: v114 :: v115 :: v116 :: v117 :: v118 :: v119 :: v120 :: v121 :: v122 :: v123 :: v124 :: v125 :: v126 :: v127 :: v128 :: v129 :: v130 :: v131 :: v132 :: v133 :: v134 :: v135 :: v136 :: v137 :: v138 :: v139 :: v140 :: v141 :: v142 :: v143 :: v144 :: v145 :: v146 :: v147 :: v148 :: v149 :: v150 :: v151 :: v152 :: v153 :: v154 :: v155 :: v156 :: v157 :: v158 :: v159 :: v160 :: v161 :: v162 :: v163 :: v164 :: v165 :: v166 :: v167 :: v168 :: v169 :: v170 :: v171 :: v172 :: v173 :: v174 :: v175 :: v176 :: v177 :: v178 :: v179 :: v180 :: v181 :: v182 :: v183 :: v184 :: v185 :: v186 :: v187 :: v188 :: v189 :: v190 :: v191 :: v192 :: v193 :: v194 :: v195 :: v196 :: v197 :: v198 :: v199 :: v200 :: v201 :: v202 :: v203 :: v204 :: v205 :: v206 :: v207 :: v208 :: v209 :: v210 :: v211 :: v212 :: v213 :: undef :: undef :: undef :: undef :: undef :: undef :: undef :: undef :: undef :: undef :: undef :: undef :: undef :: undef :: []).toArray, defers := [] } W9) :
    (inC (inC (seqR (seqL (seqR (seqR (seqR (seqR (seqR (Try.f4.body.getD .skip)))))))))).wp Try.prog (Exit.then NX Q) { tmps := (.slice A n c :: undef :: u2 :: .pointer (some ⟨X, 0, none⟩) :: .slice (some ⟨q, 0, none⟩) 2001 cc :: .string t :: .int .i64 (i : Int) :: u7 :: u8 :: u9 :: u10 :: u11 :: u12 :: u13 :: u14 :: u15 :: u16 :: u17 :: .slice A n c :: .bool true :: .bool false :: undef :: .pointer (some ⟨g, 0, none⟩) :: .agg #[.pointer (some ⟨g, 0, none⟩), .string ⟨#[]⟩, .slice none 0 0, .bool false, .bool false, .int .u8 0, .slice none 0 0] :: .slice (some ⟨q, 0, none⟩) 2001 cc :: u25 :: u26 :: u27 :: u28 :: u29 :: u30 :: u31 :: u32 :: u33 :: u34 :: u35 :: u36 :: u37 :: u38 :: u39 :: u40 :: u41 :: u42 :: u43 :: u44 :: u45 :: u46 :: u47 :: u48 :: u49 :: u50 :: u51 :: u52 :: u53 :: u54 :: u55 :: u56 :: u57 :: u58 :: u59 :: u60 :: u61 :: u62 :: u63 :: u64 :: u65 :: u66 :: u67 :: u68 :: u69 :: u70 :: u71 :: u72 :: u73 :: u74 :: u75 :: u76 :: u77 :: u78 :: u79 :: u80 :: u81 :: u82 :: u83 :: u84 :: u85 :: u86 :: u87 :: u88 :: u89 :: u90 :: u91 :: u92 :: u93 :: u94 :: u95 :: u96 :: u97 :: u98 :: u99 :: u100 :: u101 :: u102 :: u103 :: u104 :: u105 :: u106 :: u107 :: u108 :: u109 :: u110 :: u111 :: u112 :: u113 :: u114 :: u115 :: u116 :: u117 :: u118 :: u119 :: u120 :: u121 :: u122 :: u123 :: u124 :: u125 :: u126 :: u127 :: u128 :: u129 :: u130 :: u131 :: u132 :: u133 :: u134 :: u135 :: u136 :: u137 :: u138 :: u139 :: u140 :: u141 :: u142 :: u143 :: u144 :: u145 :: u146 :: u147 :: u148 :: u149 :: u150 :: u151 :: u152 :: u153 :: u154 :: u155 :: u156 :: u157 :: u158 :: u159 :: u160 :: u161 :: u162 :: u163 :: u164 :: u165 :: u166 :: u167 :: u168 :: u169 :: u170 :: u171 :: u172 :: u173 :: u174 :: u175 :: u176 :: u177 :: u178 :: u179 :: u180 :: u181 :: u182 :: u183 :: u184 :: u185 :: u186 :: u187 :: u188 :: u189 :: u190 :: u191 :: u192 :: u193 :: u194 :: u195 :: u196 :: u197 :: u198 :: u199 :: u200 :: u201 :: u202 :: u203 :: u204 :: u205 :: u206 :: u207 :: u208 :: u209 :: u210 :: u211 :: u212 :: u213 :: undef :: undef :: undef :: undef :: undef :: undef :: undef :: undef :: undef :: undef :: undef :: undef :: undef :: undef :: []).toArray, defers := [] } wr := by
  subst hA
  have hlt2 : (i : Int) < (n : Int) := by omega
  have e3 : IntKind.i64.wrap ((i : Int) + 1) = (i : Int) + 1 := IntWalk.i64_in _ (by have := HFF.out.1; have := HN.out; omega)
  obtain ⟨z0, z1, z2, z3, z4, z5, z6⟩ := hat
  simp only at z0 z1 z2 z3 z4 z5 z6
  have hX1 : (wr.alloc (acO ⟨k, off, s, fin, room, limit, old⟩)).heap[X]? = some (wdO g tr m x y z (.slice Av nv cv)) := blk_alloc HO.out.b _
  have hZ1 := heap_alloc_new wr (acO ⟨k, off, s, fin, room, limit, old⟩)
  have HO1 := Aside0.mk (HO.out.below (below_alloc (Below.refl _ _) (acO ⟨k, off, s, fin, room, limit, old⟩)))
  simp only [acO] at hX1 hZ1
  have HZ1 := Aside0.mk hZ1
  have HZN := Aside0.mk (show wr.heap.size ≠ g ∧ wr.heap.size ≠ gc ∧ wr.heap.size ≠ ga from ⟨fun e => by have := HO.out.o.o3lt g (.inl rfl); omega, fun e => by have := HO.out.o.o3lt gc (.inr (.inl rfl)); omega, fun e => by have := HO.out.o.o3lt ga (.inr (.inr rfl)); omega⟩)
  obtain ⟨d0, d1, d2, d3, d4, d5, d6⟩ := wd_cell hX1
  clear hX1 hZ1
  simp only [seqL, seqR, inC, Try.f4, Option.getD]
  rcases hk with hk | hk | hk
  all_goals
    have hk3 : Int.tmod k 8 = k % 8 := Int.tmod_eq_emod_of_nonneg HKB.out.1
    rw [hk] at hk3
    go_wp2_with (go_at_call 23; refine HO1.out.o.sent.mono ?_; rintro e w2 ⟨rfl, hb2⟩; have HO2 := Aside0.mk (HO1.out.below hb2); have HZ2 := Aside0.mk ((hb2.block _ (lt_of_block HZ1.out)).trans HZ1.out); clear hb2; refine park ?_)
    clear d0 d1 d2 d3 d4 d5 d6 z0 z1 z2 z3 z4 z5 z6
    obtain ⟨c0, c1, c2, c3, c4, c5, c6⟩ := wd_cell HO2.out.b
    obtain ⟨z0, z1, z2, z3, z4, z5, z6⟩ := wd_cell HZ2.out
    obtain ⟨rr, hr⟩ : ∃ r, lkF t.size S A2 f1 f2 f4 room limit = r := ⟨_, rfl⟩
    have HR := Aside0.mk hr
    clear hr
    refine ⟨?_⟩
    cases rr with
    | none =>
      go_wp2_with (go_at_call 24; refine (HO2.out.o.next room limit _ HR.out).mono ?_; simp only [lkRet]; rintro e w3 ⟨rfl, hx, ho⟩; have HO3 := Aside0.mk (HO2.out.on hx ho (fun _ h => h)); have HZ3 := Aside0.mk (keep3 ho HZ2.out HZN.out.1 HZN.out.2.1 HZN.out.2.2); clear hx ho; refine park ?_)
      clear c0 c1 c2 c3 c4 c5 c6
      clear z0 z1 z2 z3 z4 z5 z6
      have HO4 := Aside0.mk (HO3.out.below (below_alloc (Below.refl _ _) (chV 0 ⟨#[]⟩ false)))
      have HZ4 := Aside0.mk (blk_alloc HZ3.out (chV 0 ⟨#[]⟩ false))
      obtain ⟨c0, c1, c2, c3, c4, c5, c6⟩ := wd_cell HO4.out.b
      obtain ⟨ms, hms, hml⟩ := HO4.out.r.mr
      have HM := Aside0.mk (And.intro hms hml)
      clear hms hml
      obtain ⟨z0, z1, z2, z3, z4, z5, z6⟩ := wd_cell HZ4.out
      refine ⟨?_⟩
      go_wp2_with (go_at_call 25; refine (RNext_calls w.heap.size tr m ms x y z room limit _ HM.out.1 HM.out.2 HO4.out.r.ht HO4.out.o.hb.size).mono ?_; rintro e w5 ⟨v5, off5, s5, fin5, ok5, rfl, ⟨t5, u5, ys5, x5, y5, zz5, rfl, hbr5, hl5, ht5, hB5⟩, hb5⟩; have HO5 := Aside0.mk (HO4.out.below hb5); have HZ5 := Aside0.mk ((hb5.block _ (lt_of_block HZ4.out)).trans HZ4.out); obtain ⟨Au, cu, rfl⟩ := Kd.R_slice hbr5; have HR5 := Aside0.mk (show RefW w.heap.size t5 (.slice Au ys5.length cu) _ w5 from ⟨⟨ys5, hbr5, hl5⟩, ht5, HO5.out.r.vr⟩); clear hbr5 hl5 ht5 hB5 hb5; refine park ?_)
      clear c0 c1 c2 c3 c4 c5 c6
      clear z0 z1 z2 z3 z4 z5 z6
      have HB6 := Aside0.mk (below_alloc (below_alloc (Below.refl w5.heap.size w5) (rbO t5 (.slice Au ys5.length cu) x5 y5 zz5)) (rcO off5 s5 fin5))
      have HO6 := Aside0.mk (HO5.out.below HB6.out)
      have HR6 := Aside0.mk (HR5.out.below HB6.out)
      have HV6 := Aside0.mk (new_two w5 (rbO t5 (.slice Au ys5.length cu) x5 y5 zz5) (rcO off5 s5 fin5))
      have HZ6 := Aside0.mk (blk_alloc (blk_alloc HZ5.out (rbO t5 (.slice Au ys5.length cu) x5 y5 zz5)) (rcO off5 s5 fin5))
      have HZ7 := Aside0.mk (((on_putR ((w5.alloc (rbO t5 (.slice Au ys5.length cu) x5 y5 zz5)).alloc (rcO off5 s5 fin5)) X (.string t5) (.slice Au ys5.length cu) (.bool x5) (.bool y5) (.int .u8 zz5)).block _ (lt_of_block HZ6.out) (fun e => HO6.out.diff HZ6.out (by decide) e.symm)).trans HZ6.out)
      have HV7 := Aside0.mk (((on_putR ((w5.alloc (rbO t5 (.slice Au ys5.length cu) x5 y5 zz5)).alloc (rcO off5 s5 fin5)) X (.string t5) (.slice Au ys5.length cu) (.bool x5) (.bool y5) (.int .u8 zz5)).block _ (lt_of_block HV6.out) (fun e => HO6.out.diff HV6.out (by decide) e.symm)).trans HV6.out)
      have HO7 := Aside0.mk (HO6.out.ref HR6.out (x4 := x5) (y4 := y5) (z4 := zz5))
      obtain ⟨c0, c1, c2, c3, c4, c5, c6⟩ := wd_cell HO6.out.b
      have p0 := free_blk HO6.out.b 0
      have p1 := free_blk HO6.out.b 1
      have p2 := free_blk HO6.out.b 2
      have p3 := free_blk HO6.out.b 3
      have p4 := free_blk HO6.out.b 4
      have p5 := free_blk HO6.out.b 5
      have p6 := free_blk HO6.out.b 6
      obtain ⟨d0, d1, d2, d3, d4, d5, d6⟩ := wd_cell HO7.out.b
      obtain ⟨v0, v1, v2⟩ := rc_cell HV7.out
      refine ⟨?_⟩
      cases ok5 with
      | false =>
        go_wp2
        exact ⟨OnW.mk HO7.out ⟨Av, nv, cv, rfl, by have := HV.out.1; omega, HV.out.2⟩ (by rw [HSN.out]; have := HT.out; omega)⟩
      | true =>
        obtain ⟨ws, hws, hwl⟩ := HO7.out.r.vr
        have HW7 := Aside0.mk hws
        have HSZ := Aside0.mk (show (((((((w5.alloc (rbO t5 (.slice Au ys5.length cu) x5 y5 zz5)).alloc (rcO off5 s5 fin5)).setCell ⟨X, 1, none⟩ (.string t5)).setCell ⟨X, 2, none⟩ (.slice Au ys5.length cu)).setCell ⟨X, 3, none⟩ (.bool x5)).setCell ⟨X, 4, none⟩ (.bool y5)).setCell ⟨X, 5, none⟩ (.int .u8 zz5)).heap.size = w5.heap.size + 1 + 1 from by simp only [World.size_setCell, World.size_alloc])
        have HWN := Aside0.mk (show ws.length = nv from (Kd.R_reads' hws).1.symm)
        clear hws hwl
        go_wp2_with ((with_reducible refine gate_builtin (b := .append) (xs := #[.tmp 100, .tmp 102]) rfl ?_); at_builtin; refine Kd.R_append kch (w0 := _) w.heap.size rfl (.tmp 100) (.tmp 102) 41 46 (.agg #[.int .i64 0, .string ⟨#[]⟩, .bool false]) 32 rfl Try.underlying41 info46b rfl (by decide) (by omega) (.slice Av nv cv) ws (off5, s5, fin5) [.int .i64 off5, .string s5, .bool fin5] (fun _ => True) (fun _ => False) rfl ?aX ?aP (fun _ hk => hk.elim) (fun _ _ => trivial) HW7.out (Below.refl _ _) ?aS ?aL ?_; (case aX => rw [HSZ.out]; rfl); (case aP => exact kch_lit _ _ _ _ _ _); (case aS => exact HO7.out.o.hb.size); (case aL => have h1 := HWN.out; have h2 := HV.out.1; have h3 := HFF.out.1; have h4 := HN.out; omega); intro v8 w8 ho hb hg _; have HG8 := Aside0.mk (And.intro ho (And.intro hb hg)); obtain ⟨A8, c8, e8⟩ := Kd.R_slice ho; rw [show (ws ++ [(off5, s5, fin5)]).length = ws.length + 1 from by simp] at e8; subst e8; clear ho hb hg; refine park ?_)
        clear c0 c1 c2 c3 c4 c5 c6 d0 d1 d2 d3 d4 d5 d6 v0 v1 v2 p0 p1 p2 p3 p4 p5 p6
        have HX8 := Aside0.mk (grown_keep HW7.out HG8.out.2.2 HO7.out.b (by decide))
        have HZ8 := Aside0.mk (grown_keep HW7.out HG8.out.2.2 HZ7.out (by decide))
        have HO9 := Aside0.mk (HO7.out.went HW7.out (fun e => HV.out.2 (by rw [← HWN.out, e]; rfl)) HG8.out.1 (by rw [List.length_append]; have h1 := HWN.out; have h2 := HV.out.1; have h3 := HFF.out.1; have h4 := HN.out; simp only [List.length_cons, List.length_nil]; omega) HG8.out.2.2 HG8.out.2.1)
        have HV9 := Aside0.mk (show WentV (.slice A8 (ws.length + 1) c8) (i + 1) from ⟨A8, _, c8, rfl, by have h1 := HWN.out; have h2 := HV.out.1; omega, fun e => by omega⟩)
        obtain ⟨c0, c1, c2, c3, c4, c5, c6⟩ := wd_cell HX8.out
        have p6 := free_blk HX8.out 6
        refine ⟨?_⟩
        go_wp2
        exact ⟨OnW.mk HO9.out HV9.out (by rw [HSN.out]; have := HT.out; omega)⟩
    | some rr =>
      obtain ⟨a, b, fin3⟩ := rr
      have HBN := Aside0.mk (HO2.out.o.bp.next HR.out)
      obtain ⟨d, hd⟩ : ∃ d, t.extract a.toNat b.toNat = d := ⟨_, rfl⟩
      have HD := Aside0.mk hd
      have HDS := Aside0.mk (show (d.size : Int) = b - a from by have h := HBN.out.1; have := ext_size2 t h.1 h.2.1 h.2.2; rwa [hd] at this)
      have HPL := Aside0.mk (show 0 ≤ a ∧ a + (d.size : Int) = b ∧ b ≤ 2000 from by have h1 := HBN.out.1; have h2 := HDS.out; have h3 := HT.out; have h4 := HFF.out.2 i (by have := HN.out; omega); omega)
      have HQ : R26 t a d S room limit := R26.mk (show (0 ≤ a ∧ a + (d.size : Int) ≤ (t.size : Int) ∧ t.size ≤ 262144) ∧ ((t.extract a.toNat (a + (d.size : Int)).toNat).toList == d.toList) = true ∧ ¬ (if 0 < room then room else 0) < (d.size : Int) ∧ (0 < (d.size : Int) → ¬ (if S < limit then limit else S) < a + (d.size : Int)) from by
        have h1 := HBN.out
        have h2 := HPL.out
        refine ⟨⟨h2.1, by omega, HO2.out.o.bp.s2⟩, by rw [h2.2.1, HD.out]; exact beq_self_eq_true _, ?_, fun hz => ?_⟩
        · have := h1.2.2.1
          split <;> omega
        · have := h1.2.2.2.1 (by omega)
          split <;> omega)
      clear hd
      go_wp2_with (go_at_call 24; refine (HO2.out.o.next room limit _ HR.out).mono ?_; simp only [lkRet, HD.out]; rintro e w3 ⟨rfl, hx, ho⟩; have HO3 := Aside0.mk (HO2.out.on hx ho (fun _ h => h)); have HZ3 := Aside0.mk (keep3 ho HZ2.out HZN.out.1 HZN.out.2.1 HZN.out.2.2); clear hx ho; refine park ?_)
      clear c0 c1 c2 c3 c4 c5 c6
      clear z0 z1 z2 z3 z4 z5 z6
      have HO4 := Aside0.mk (HO3.out.below (below_alloc (Below.refl _ _) (chV a d fin3)))
      have HZ4 := Aside0.mk (blk_alloc HZ3.out (chV a d fin3))
      have HY4 := Aside0.mk (heap_alloc_new w3 (chV a d fin3))
      obtain ⟨c0, c1, c2, c3, c4, c5, c6⟩ := wd_cell HO4.out.b
      obtain ⟨ms, hms, hml⟩ := HO4.out.r.mr
      have HM := Aside0.mk (And.intro hms hml)
      clear hms hml
      obtain ⟨z0, z1, z2, z3, z4, z5, z6⟩ := wd_cell HZ4.out
      refine ⟨?_⟩
      go_wp2_with (go_at_call 25; refine (RNext_calls w.heap.size tr m ms x y z room limit _ HM.out.1 HM.out.2 HO4.out.r.ht HO4.out.o.hb.size).mono ?_; rintro e w5 ⟨v5, off5, s5, fin5, ok5, rfl, ⟨t5, u5, ys5, x5, y5, zz5, rfl, hbr5, hl5, ht5, hB5⟩, hb5⟩; have HO5 := Aside0.mk (HO4.out.below hb5); have HZ5 := Aside0.mk ((hb5.block _ (lt_of_block HZ4.out)).trans HZ4.out); have HY5 := Aside0.mk ((hb5.block _ (lt_of_block HY4.out)).trans HY4.out); obtain ⟨Au, cu, rfl⟩ := Kd.R_slice hbr5; have HR5 := Aside0.mk (show RefW w.heap.size t5 (.slice Au ys5.length cu) _ w5 from ⟨⟨ys5, hbr5, hl5⟩, ht5, HO5.out.r.vr⟩); clear hbr5 hl5 ht5 hB5 hb5; refine park ?_)
      clear c0 c1 c2 c3 c4 c5 c6
      clear z0 z1 z2 z3 z4 z5 z6
      have HB6 := Aside0.mk (below_alloc (below_alloc (Below.refl w5.heap.size w5) (rbO t5 (.slice Au ys5.length cu) x5 y5 zz5)) (rcO off5 s5 fin5))
      have HO6 := Aside0.mk (HO5.out.below HB6.out)
      have HR6 := Aside0.mk (HR5.out.below HB6.out)
      have HV6 := Aside0.mk (new_two w5 (rbO t5 (.slice Au ys5.length cu) x5 y5 zz5) (rcO off5 s5 fin5))
      have HZ6 := Aside0.mk (blk_alloc (blk_alloc HZ5.out (rbO t5 (.slice Au ys5.length cu) x5 y5 zz5)) (rcO off5 s5 fin5))
      have HY6 := Aside0.mk (blk_alloc (blk_alloc HY5.out (rbO t5 (.slice Au ys5.length cu) x5 y5 zz5)) (rcO off5 s5 fin5))
      have HZ7 := Aside0.mk (((on_putR ((w5.alloc (rbO t5 (.slice Au ys5.length cu) x5 y5 zz5)).alloc (rcO off5 s5 fin5)) X (.string t5) (.slice Au ys5.length cu) (.bool x5) (.bool y5) (.int .u8 zz5)).block _ (lt_of_block HZ6.out) (fun e => HO6.out.diff HZ6.out (by decide) e.symm)).trans HZ6.out)
      have HV7 := Aside0.mk (((on_putR ((w5.alloc (rbO t5 (.slice Au ys5.length cu) x5 y5 zz5)).alloc (rcO off5 s5 fin5)) X (.string t5) (.slice Au ys5.length cu) (.bool x5) (.bool y5) (.int .u8 zz5)).block _ (lt_of_block HV6.out) (fun e => HO6.out.diff HV6.out (by decide) e.symm)).trans HV6.out)
      have HY7 := Aside0.mk (((on_putR ((w5.alloc (rbO t5 (.slice Au ys5.length cu) x5 y5 zz5)).alloc (rcO off5 s5 fin5)) X (.string t5) (.slice Au ys5.length cu) (.bool x5) (.bool y5) (.int .u8 zz5)).block _ (lt_of_block HY6.out) (fun e => HO6.out.diff HY6.out (by decide) e.symm)).trans HY6.out)
      have HO7 := Aside0.mk (HO6.out.ref HR6.out (x4 := x5) (y4 := y5) (z4 := zz5))
      obtain ⟨c0, c1, c2, c3, c4, c5, c6⟩ := wd_cell HO6.out.b
      have p0 := free_blk HO6.out.b 0
      have p1 := free_blk HO6.out.b 1
      have p2 := free_blk HO6.out.b 2
      have p3 := free_blk HO6.out.b 3
      have p4 := free_blk HO6.out.b 4
      have p5 := free_blk HO6.out.b 5
      have p6 := free_blk HO6.out.b 6
      obtain ⟨d0, d1, d2, d3, d4, d5, d6⟩ := wd_cell HO7.out.b
      obtain ⟨v0, v1, v2⟩ := rc_cell HV7.out
      refine ⟨?_⟩
      cases ok5 with
      | false =>
        go_wp2
        obtain ⟨ky0, ky1, -⟩ := chunk_cell HY7.out
        obtain ⟨-, -, -, -, kz4, kz5, -⟩ := wd_cell HZ7.out
        refine Once_r26 w3.heap.size wr.heap.size t a d S room limit _ _ _ _ (by rfl) (by rfl) (by rfl) (by rfl) (by rfl) ky0 ky1 kz4 kz5 HQ ?_
        intro σ W ⟨hB, h56⟩
        have HK7 := Aside0.mk (OnK.mk (HO7.out.below hB) (i := i + 1) (b := sumD (xs.take i)) ⟨Av, nv, cv, rfl, by have := HV.out.1; omega, HV.out.2⟩ HT.out ((hB.block _ (lt_of_block HY7.out)).trans HY7.out))
        simp only [lazyA, lazyT, on26_tab, List.zipWith_cons_cons, List.zipWith_nil_left, cond_true]
        rename_i K0 hK0
        refine hK0 _ _ ?_
        rw [h56]
        clear h56 hB ky0 ky1 kz4 kz5
        go_wp2
        go_loopw [14] (fun kv wk => ∃ j : Nat, j ≤ d.size ∧ kv = .int .i64 j ∧ Aside0 (OnK X g gc ga w t (.slice (some ⟨q, 0, none⟩) 2001 cc) (i + 1) (sumD (xs.take i)) C w3.heap.size (chV a d fin3) wk)) (fun kv _ => d.size - (intOf kv).toNat)
        case atStart => exact ⟨0, Nat.zero_le _, rfl, HK7⟩
        case round =>
          clear HK7
          obtain ⟨j, hj, rfl, HK7⟩ := hrel
          obtain ⟨u0, u1, u2⟩ := chunk_cell HK7.out.at
          by_cases hjs : j < d.size
          · have hjs2 : (j : Int) < (d.size : Int) := by omega
            have hb2 := HPL.out
            obtain ⟨p, hp⟩ : ∃ p : Nat, a + (j : Int) = (p : Int) := ⟨(a + (j : Int)).toNat, by omega⟩
            have g1 : IntKind.i64.wrap (a + (j : Int)) = (p : Int) := by rw [hp]; exact IntWalk.i64_in _ (by omega)
            have g2 : IntKind.i64.wrap ((j : Int) + 1) = (j : Int) + 1 := IntWalk.i64_in _ (by omega)
            have g3 : (p : Int) < 2001 := by omega
            have g4 := HK7.out.read (k := p) (by omega) (HBN.out.2.1 p (by omega) (by omega))
            clear hb2 hp
            go_wp2
            go_roundw
            case rel => exact ⟨j + 1, by omega, by simp, HK7⟩
            case measure => simp [intOf]; omega
          · have hjs2 : j = d.size := by omega
            subst hjs2
            go_wp2
            exact ⟨HK7.out.done (by rw [HSN.out]; omega)⟩
      | true =>
        obtain ⟨ws, hws, hwl⟩ := HO7.out.r.vr
        have HW7 := Aside0.mk hws
        have HSZ := Aside0.mk (show (((((((w5.alloc (rbO t5 (.slice Au ys5.length cu) x5 y5 zz5)).alloc (rcO off5 s5 fin5)).setCell ⟨X, 1, none⟩ (.string t5)).setCell ⟨X, 2, none⟩ (.slice Au ys5.length cu)).setCell ⟨X, 3, none⟩ (.bool x5)).setCell ⟨X, 4, none⟩ (.bool y5)).setCell ⟨X, 5, none⟩ (.int .u8 zz5)).heap.size = w5.heap.size + 1 + 1 from by simp only [World.size_setCell, World.size_alloc])
        have HWN := Aside0.mk (show ws.length = nv from (Kd.R_reads' hws).1.symm)
        clear hws hwl
        go_wp2_with ((with_reducible refine gate_builtin (b := .append) (xs := #[.tmp 100, .tmp 102]) rfl ?_); at_builtin; refine Kd.R_append kch (w0 := _) w.heap.size rfl (.tmp 100) (.tmp 102) 41 46 (.agg #[.int .i64 0, .string ⟨#[]⟩, .bool false]) 32 rfl Try.underlying41 info46b rfl (by decide) (by omega) (.slice Av nv cv) ws (off5, s5, fin5) [.int .i64 off5, .string s5, .bool fin5] (fun _ => True) (fun _ => False) rfl ?aX ?aP (fun _ hk => hk.elim) (fun _ _ => trivial) HW7.out (Below.refl _ _) ?aS ?aL ?_; (case aX => rw [HSZ.out]; rfl); (case aP => exact kch_lit _ _ _ _ _ _); (case aS => exact HO7.out.o.hb.size); (case aL => have h1 := HWN.out; have h2 := HV.out.1; have h3 := HFF.out.1; have h4 := HN.out; omega); intro v8 w8 ho hb hg _; have HG8 := Aside0.mk (And.intro ho (And.intro hb hg)); obtain ⟨A8, c8, e8⟩ := Kd.R_slice ho; rw [show (ws ++ [(off5, s5, fin5)]).length = ws.length + 1 from by simp] at e8; subst e8; clear ho hb hg; refine park ?_)
        clear c0 c1 c2 c3 c4 c5 c6 d0 d1 d2 d3 d4 d5 d6 v0 v1 v2 p0 p1 p2 p3 p4 p5 p6
        have HX8 := Aside0.mk (grown_keep HW7.out HG8.out.2.2 HO7.out.b (by decide))
        have HZ8 := Aside0.mk (grown_keep HW7.out HG8.out.2.2 HZ7.out (by decide))
        have HY8 := Aside0.mk (grown_keep HW7.out HG8.out.2.2 HY7.out (by decide))
        have HO9 := Aside0.mk (HO7.out.went HW7.out (fun e => HV.out.2 (by rw [← HWN.out, e]; rfl)) HG8.out.1 (by rw [List.length_append]; have h1 := HWN.out; have h2 := HV.out.1; have h3 := HFF.out.1; have h4 := HN.out; simp only [List.length_cons, List.length_nil]; omega) HG8.out.2.2 HG8.out.2.1)
        have HV9 := Aside0.mk (show WentV (.slice A8 (ws.length + 1) c8) (i + 1) from ⟨A8, _, c8, rfl, by have h1 := HWN.out; have h2 := HV.out.1; omega, fun e => by omega⟩)
        have HZ9 := Aside0.mk (((On.setCell (S := fun i => i = X) X 6 (.slice A8 (ws.length + 1) c8) rfl w8).block _ (lt_of_block HZ8.out) (fun e => HO7.out.diff HZ7.out (by decide) e.symm)).trans HZ8.out)
        have HY9 := Aside0.mk (((On.setCell (S := fun i => i = X) X 6 (.slice A8 (ws.length + 1) c8) rfl w8).block _ (lt_of_block HY8.out) (fun e => HO7.out.diff HY7.out (by decide) e.symm)).trans HY8.out)
        obtain ⟨c0, c1, c2, c3, c4, c5, c6⟩ := wd_cell HX8.out
        have p6 := free_blk HX8.out 6
        refine ⟨?_⟩
        go_wp2
        obtain ⟨ky0, ky1, -⟩ := chunk_cell HY9.out
        obtain ⟨-, -, -, -, kz4, kz5, -⟩ := wd_cell HZ9.out
        refine Once_r26 w3.heap.size wr.heap.size t a d S room limit _ _ _ _ (by rfl) (by rfl) (by rfl) (by rfl) (by rfl) ky0 ky1 kz4 kz5 HQ ?_
        intro σ W ⟨hB, h56⟩
        have HK7 := Aside0.mk (OnK.mk (HO9.out.below hB) (i := i + 1) (b := sumD (xs.take i)) HV9.out HT.out ((hB.block _ (lt_of_block HY9.out)).trans HY9.out))
        simp only [lazyA, lazyT, on26_tab, List.zipWith_cons_cons, List.zipWith_nil_left, cond_true]
        rename_i K0 hK0
        refine hK0 _ _ ?_
        rw [h56]
        clear h56 hB ky0 ky1 kz4 kz5
        go_wp2
        go_loopw [14] (fun kv wk => ∃ j : Nat, j ≤ d.size ∧ kv = .int .i64 j ∧ Aside0 (OnK X g gc ga w t (.slice (some ⟨q, 0, none⟩) 2001 cc) (i + 1) (sumD (xs.take i)) C w3.heap.size (chV a d fin3) wk)) (fun kv _ => d.size - (intOf kv).toNat)
        case atStart => exact ⟨0, Nat.zero_le _, rfl, HK7⟩
        case round =>
          clear HK7
          obtain ⟨j, hj, rfl, HK7⟩ := hrel
          obtain ⟨u0, u1, u2⟩ := chunk_cell HK7.out.at
          by_cases hjs : j < d.size
          · have hjs2 : (j : Int) < (d.size : Int) := by omega
            have hb2 := HPL.out
            obtain ⟨p, hp⟩ : ∃ p : Nat, a + (j : Int) = (p : Int) := ⟨(a + (j : Int)).toNat, by omega⟩
            have g1 : IntKind.i64.wrap (a + (j : Int)) = (p : Int) := by rw [hp]; exact IntWalk.i64_in _ (by omega)
            have g2 : IntKind.i64.wrap ((j : Int) + 1) = (j : Int) + 1 := IntWalk.i64_in _ (by omega)
            have g3 : (p : Int) < 2001 := by omega
            have g4 := HK7.out.read (k := p) (by omega) (HBN.out.2.1 p (by omega) (by omega))
            clear hb2 hp
            go_wp2
            go_roundw
            case rel => exact ⟨j + 1, by omega, by simp, HK7⟩
            case measure => simp [intOf]; omega
          · have hjs2 : j = d.size := by omega
            subst hjs2
            go_wp2
            exact ⟨HK7.out.done (by rw [HSN.out]; omega)⟩
end Go.Proofs.Ytiladcdogbeomaa.QRangesPlays

namespace Go.Proofs.Ytiladcdogbeomaa.QRangesPlays
open Go.RowKit Go.Shelf Go.Proofs.YtiladcdogbeomaaW.PrintWords Go.Proofs.YtiladcdogbeomaaW.PrintLast Go.Proofs.YtiladcdogbeomaaW.PrintMore Go.Proofs.Ytiladcdogbeomaa.RowLaws Go.Proofs.Ytiladcdogbeomaa.Lazy
attribute [local go_sem] Oper.semAt_some
set_option maxRecDepth 100000 in
set_option maxHeartbeats 40000000 in
theorem Once_walk (A : Option Addr) (c : Nat) (xs : List A7) (w : World) (hA : ARow w A xs) (hK : ∀ j (h : j < xs.length), 0 ≤ xs[j].k ∧ xs[j].k < 256) :
    Calls Try.prog 4 #[.slice A xs.length c] w fun e w' => e = .returned (.bool true) ∧ Below w.heap.size w w' := by
  have HA := Aside0.mk hA
  have HF := Aside0.mk (OFew_calls A c xs w hA)
  obtain ⟨n, hn⟩ : ∃ n, xs.length = n := ⟨_, rfl⟩
  have HKK := Aside0.mk hK
  have HN := Aside0.mk hn
  rw [hn] at HF
  rw [hn]
  clear hA hK hn
  go_enter Try.func4, Try.ntmps4
  go_wp2_with (go_at_call 18; refine HF.out.mono ?_; rintro e w1 ⟨b, rfl, hb, hfew⟩; have HB1 := Aside0.mk hb; have HFW := Aside0.mk hfew; clear hb hfew; refine park ?_)
  cases b with
  | false =>
    refine ⟨?_⟩
    go_wp2_with (go_at_call 19; refine (OAwake_calls _).mono ?_; rintro e w9 ⟨rfl, hb⟩; have HB9 := Aside0.mk (below_step HB1.out hb); clear hb)
    go_ret
    exact ⟨rfl, HB9.out⟩
  | true =>
    have HFF := Aside0.mk (HFW.out rfl)
    clear HFW
    refine ⟨?_⟩
    go_wp2_with (go_at_call 20; refine (OSP.new HB1.out).mono ?_; rintro e w2 ⟨g, gc, ga, rfl, hs, hb2, j1, j2, j3⟩; have H2 := Aside0.mk hs; have HL2 := Aside0.mk hs.o3lt; clear hs hb2 j1 j2 j3; refine park ?_)
    refine ⟨?_⟩
    go_wp2_with ((with_reducible refine gate_dst (N := 24) rfl ?_); refine Kd.R_make Kd.bool (w0 := w2) w2.heap.size 4 rfl (N := 24) rfl 44 _ _ rfl 2001 rfl rfl Try.underlying44 (.bool false) 1 info4b rfl (by decide) (by omega) false (ok := fun _ => True) (okp := fun _ => True) rfl (fun _ hk => hk) trivial (by omega) (by decide) (below_alloc (Below.refl _ _) _) (by rw [World.size_alloc]; omega) ?_; intro v w3 hr hb hg _; have HR3 := Aside0.mk (Kd.R_lower hr H2.out.hb.size); have HB3 := Aside0.mk (And.intro hb hg); clear hr hb hg; refine park ?_)
    obtain ⟨q, cc, hv, -⟩ := Kd.R_form HR3.out (by rw [List.length_replicate]; decide)
    rw [List.length_replicate, show (2001 : Int).toNat = 2001 from rfl] at hv
    subst hv
    have hX3 : w3.heap[w2.heap.size]? = some (wdO g ⟨#[]⟩ (.slice none 0 0) false false 0 (.slice none 0 0)) := (HB3.out.2.block _ (by rw [World.size_alloc]; omega) (fun e => by cases e)).trans (heap_alloc_new w2 _)
    have HO3 := Aside0.mk (once_start hX3 (H2.out.below HB3.out.1) HR3.out H2.out.hb.size ⟨fun e => by have := HL2.out g (.inl rfl); omega, fun e => by have := HL2.out gc (.inr (.inl rfl)); omega, fun e => by have := HL2.out ga (.inr (.inr rfl)); omega⟩)
    generalize w2.heap.size = X at HO3 ⊢
    clear HR3 HB3 hX3 H2 HL2
    refine ⟨?_⟩
    go_wp2
    go_loopw [5, 6] (fun tv iv wr => ∃ (i : Nat) (t : ByteArray), i ≤ n ∧ iv = .int .i64 i ∧ tv = .string t ∧ Aside0 (OnW X g gc ga w t (.slice (some ⟨q, 0, none⟩) 2001 cc) i (sumD (xs.take i)) wr)) (fun _ iv _ => n - (intOf iv).toNat)
    case atStart => exact ⟨0, ⟨#[]⟩, Nat.zero_le _, rfl, rfl, ⟨by simpa [sumD] using HO3.out⟩⟩
    case round =>
      obtain ⟨i, t, hin, rfl, rfl, HI⟩ := hrel
      clear HO3
      obtain ⟨S, C, A2, f1, f2, f3, f4, tr, m, x, y, z, v0, cs, hi, ⟨Av, nv, cv, rfl, hv1, hv2⟩, hti⟩ := HI.out
      have HV := Aside0.mk (And.intro hv1 hv2)
      have HT := Aside0.mk hti
      clear hv1 hv2 hti
      have HO := Aside0.mk hi
      clear HI hi
      obtain ⟨c0, c1, c2, c3, c4, c5, c6⟩ := wd_cell HO.out.b
      by_cases hlt : i < n
      · have hlt2 : (i : Int) < (n : Int) := by omega
        have e3 : IntKind.i64.wrap ((i : Int) + 1) = (i : Int) + 1 := IntWalk.i64_in _ (by have := HFF.out.1; have := HN.out; omega)
        have HSN := Aside0.mk (sumD_snoc (xs := xs) (j := i) (by have := HN.out; omega))
        obtain ⟨b0, o0, hA0, hat⟩ := (HA.out.below HO.out.o.hb) i (by have := HN.out; omega)
        have HKB := Aside0.mk (HKK.out i (by have := HN.out; omega))
        generalize (xs[i]'(by have := HN.out; omega)) = ac at *
        obtain ⟨k, off, s, fin, room, limit, old⟩ := ac
        simp only at HSN HKB
        have hk8 : (k % 8 = 0 ∨ k % 8 = 1 ∨ (k % 8 = 5 ∨ k % 8 = 6) ∨ k % 8 = 7) ∨ k % 8 = 2 ∨ k % 8 = 3 ∨ k % 8 = 4 := by omega
        rcases hk8 with hk | hk
        · refine Round_a A c xs w n HN HFF g gc ga q cc X wr i t S C A2 f1 f2 f3 f4 tr m x y z Av nv cv cs HO HV HT hlt b0 o0 hA0 k off s fin room limit old HSN hat HKB hk _ _ ?_
          intro t9 W9
          intros
          rename_i h9
          go_roundw
          case rel => exact ⟨i + 1, t9, by omega, by simp, rfl, h9⟩
          case measure => simp [intOf]; omega
        · refine Round_e A c xs w n HN HFF g gc ga q cc X wr i t S C A2 f1 f2 f3 f4 tr m x y z Av nv cv cs HO HV HT hlt b0 o0 hA0 k off s fin room limit old HSN hat HKB hk _ _ ?_
          intro t9 W9
          intros
          rename_i h9
          go_roundw
          case rel => exact ⟨i + 1, t9, by omega, by simp, rfl, h9⟩
          case measure => simp [intOf]; omega
      · have hqn : i = n := by omega
        subst hqn
        go_wp2_with (first
          | (go_at_call 30; refine HO.out.o.size.mono ?_; rintro e w8 ⟨rfl, hb⟩; have HB8 := Aside0.mk (below_step HO.out.o.hb hb); clear hb)
          | (go_at_call 19; refine (OAwake_calls _).mono ?_; rintro e w9 ⟨rfl, hb⟩; have HB9 := Aside0.mk (below_step HB8.out hb); clear hb))
        go_ret
        exact ⟨rfl, HB9.out⟩
end Go.Proofs.Ytiladcdogbeomaa.QRangesPlays

namespace Go.Proofs.Ytiladcdogbeomaa.Acts
open Go.RowKit Go.Proofs.YtiladcdogbeomaaW.PrintWords Go.Proofs.Ytiladcdogbeomaa.QRangesPlays
theorem Once_row (l : List O7) (A : Option Addr) (c n : Nat) (W : World) (h : Kd.C k48o W A n l) (ok : okOacts l) : Calls Try.prog 4 #[.slice A l.length c] W fun e w' => e = .returned (.bool true) ∧ Below W.heap.size W w' := by
  have := Once_walk A c (l.map toA7) W (aRow_of h) (aOk_of ok)
  rwa [List.length_map] at this
end Go.Proofs.Ytiladcdogbeomaa.Acts
