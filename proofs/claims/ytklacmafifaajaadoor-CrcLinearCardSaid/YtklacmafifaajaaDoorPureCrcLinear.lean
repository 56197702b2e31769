import Derived.Test.YtklacmafifaajaaDoorRCrcLinear
import Derived.Test.YtklacmafifaajaaDoorPureBits
namespace Go.Proofs.YtklacmafifaajaaDoor.Pure
open Go Go.RowKit Go.WideShapes Go.Proofs.YtklacmafifaajaaDoor.QCrcLinear Go.Proofs.YtklacmafifaajaaDoorW.PrintWords Go.Proofs.YtklacmafifaajaaDoorW.PrintLast Go.Proofs.YtklacmafifaajaaDoor.PureBits

namespace Linear
theorem awake : ∀ k : Nat, sumpterlaw03_awake.f (k + 5) = some true
  | 0 => by decide +kernel
  | k + 1 => sumpterlaw03_awake.mono (k + 5) _ (awake k)
theorem more (a : Int) (l : List Int) : QCrcLinear.crc_More.f a l = some (V (M (BitVec.ofInt 32 a) l)) := congrArg some (more_eq a l)
theorem of (l : List Int) : QCrcLinear.crc_Of.f l = some (V (M 0#32 l)) := by
  unfold QCrcLinear.crc_Of.f; rw [more]; rfl
def x8 (a b : Int) : Int := Go.bits .xor .u8 a b
theorem x8_in (x y : Int) : 0 ≤ x8 x y ∧ x8 x y < 256 := by
  have := bounds_u8 (wf_bits .xor .u8 x y)
  unfold x8; omega
theorem x8_bits {x y : Int} (hx : 0 ≤ x ∧ x < 256) (hy : 0 ≤ y ∧ y < 256) : BitVec.ofInt 32 (x8 x y) = BitVec.ofInt 32 x ^^^ BitVec.ofInt 32 y := by
  have e : x8 x y = ((BitVec.ofInt 8 x ^^^ BitVec.ofInt 8 y).toNat : Int) := by
    have : x8 x y = IntKind.u8.wrap ((BitVec.ofInt 8 x ^^^ BitVec.ofInt 8 y).toNat : Int) := rfl
    rw [this, IntKind.wrap_u8]
    have := (BitVec.ofInt 8 x ^^^ BitVec.ofInt 8 y).isLt
    omega
  obtain ⟨m, rfl⟩ : ∃ m : Nat, x = (m : Int) := ⟨x.toNat, by omega⟩
  obtain ⟨n, rfl⟩ : ∃ n : Nat, y = (n : Int) := ⟨y.toNat, by omega⟩
  have hm : m < 256 := by omega
  have hn : n < 256 := by omega
  have hmn : m ^^^ n < 2 ^ 8 := Nat.xor_lt_two_pow (n := 8) hm hn
  apply BitVec.eq_of_toNat_eq
  rw [e, BitVec.toNat_xor, BitVec.toNat_xor]
  simp only [BitVec.toNat_ofInt]
  have h1 : ((m : Int) % ((2 ^ 8 : Nat) : Int)).toNat = m := by omega
  have h2 : ((n : Int) % ((2 ^ 8 : Nat) : Int)).toNat = n := by omega
  have h3 : ((m : Int) % ((2 ^ 32 : Nat) : Int)).toNat = m := by omega
  have h4 : ((n : Int) % ((2 ^ 32 : Nat) : Int)).toNat = n := by omega
  rw [h1, h2, h3, h4]
  omega
def D : List Int → List Int → List Int → List Int
  | a :: A, b :: B, c :: C => x8 (x8 a b) c :: D A B C
  | _, _, _ => []
theorem xor6 (x y z a b c : BitVec 32) : (x ^^^ y ^^^ z) ^^^ (a ^^^ b ^^^ c) = (x ^^^ a) ^^^ (y ^^^ b) ^^^ (z ^^^ c) := by
  apply BitVec.eq_of_getLsbD_eq
  intro i hi
  simp only [BitVec.getLsbD_xor]
  cases x.getLsbD i <;> cases y.getLsbD i <;> cases z.getLsbD i <;> cases a.getLsbD i <;> cases b.getLsbD i <;> cases c.getLsbD i <;> rfl
theorem fold_D : ∀ (A B C : List Int) (x y z : BitVec 32), A.length = B.length → A.length = C.length → (∀ q ∈ A, 0 ≤ q ∧ q < 256) → (∀ q ∈ B, 0 ≤ q ∧ q < 256) → (∀ q ∈ C, 0 ≤ q ∧ q < 256) →
    (D A B C).foldl stepB (x ^^^ y ^^^ z) = A.foldl stepB x ^^^ B.foldl stepB y ^^^ C.foldl stepB z
  | [], [], [], _, _, _, _, _, _, _, _ => rfl
  | a :: A, b :: B, c :: C, x, y, z, hB, hC, ra, rb, rc => by
    have r1 := ra a (by simp)
    have r2 := rb b (by simp)
    have r3 := rc c (by simp)
    simp only [D, List.foldl_cons]
    have e : stepB (x ^^^ y ^^^ z) (x8 (x8 a b) c) = stepB x a ^^^ stepB y b ^^^ stepB z c := by
      unfold stepB
      rw [x8_bits (x8_in _ _) r3, x8_bits r1 r2, xor6, b8_xor, b8_xor]
    rw [e]
    exact fold_D A B C _ _ _ (by simpa using hB) (by simpa using hC) (fun q h => ra q (by simp [h])) (fun q h => rb q (by simp [h])) (fun q h => rc q (by simp [h]))
  | [], _ :: _, _, _, _, _, h, _, _, _, _ => by simp at h
  | _ :: _, [], _, _, _, _, h, _, _, _, _ => by simp at h
  | [], _, _ :: _, _, _, _, _, h, _, _, _ => by simp at h
  | _ :: _, _, [], _, _, _, _, h, _, _, _ => by simp at h
theorem D_length : ∀ (A B C : List Int), A.length = B.length → A.length = C.length → (D A B C).length = A.length
  | [], _, _, _, _ => by simp [D]
  | a :: A, b :: B, c :: C, h1, h2 => by simp only [D, List.length_cons]; rw [D_length A B C (by simpa using h1) (by simpa using h2)]
  | _ :: _, [], _, h, _ => by simp at h
  | _ :: _, _, [], _, h => by simp at h
theorem D_get : ∀ (A B C : List Int) (i : Nat), A.length = B.length → A.length = C.length → i < A.length → (D A B C)[i]? = some (x8 (x8 (A.getD i 0) (B.getD i 0)) (C.getD i 0))
  | [], _, _, _, _, _, h => by simp at h
  | a :: A, b :: B, c :: C, 0, _, _, _ => by simp [D]
  | a :: A, b :: B, c :: C, i + 1, h1, h2, h3 => by
    simp only [D, List.getElem?_cons_succ, List.getD_cons_succ]
    exact D_get A B C i (by simpa using h1) (by simpa using h2) (by simpa using h3)
  | _ :: _, [], _, _, h, _, _ => by simp at h
  | _ :: _, _, [], _, _, h, _ => by simp at h
theorem zero4 (a b c : BitVec 32) : (~~~a ^^^ ~~~b ^^^ ~~~c) ^^^ ~~~(a ^^^ b ^^^ c) = 0#32 := by
  apply BitVec.eq_of_getLsbD_eq
  intro i hi
  simp only [BitVec.getLsbD_xor, BitVec.getLsbD_not, hi, decide_true, Bool.true_and, BitVec.getLsbD_zero]
  cases a.getLsbD i <;> cases b.getLsbD i <;> cases c.getLsbD i <;> rfl
theorem tail (k n : Nat) (A B C : List Int) (ha : n ≤ A.length) (hb : n ≤ B.length) (hc : n ≤ C.length) (ra : ∀ q ∈ A, 0 ≤ q ∧ q < 256) (rb : ∀ q ∈ B, 0 ≤ q ∧ q < 256) (rc : ∀ q ∈ C, 0 ≤ q ∧ q < 256) :
    sumpterlaw03_CrcLinear.l0 (k + 6) A B C n (D (A.take n) (B.take n) (C.take n)) n = some true := by
  simp only [sumpterlaw03_CrcLinear.l0]
  rw [if_neg (by omega), if_pos (by omega), if_pos (by omega)]
  rw [show ((n : Int).toNat) = n from rfl, of, Option.bind_some, if_pos (by omega), of, Option.bind_some, if_pos (by omega), of, Option.bind_some, of, Option.bind_some, xor_V, xor_V, xor_V]
  have hf := fold_D (A.take n) (B.take n) (C.take n) (~~~0#32) (~~~0#32) (~~~0#32) (by simp; omega) (by simp; omega) (fun q h => ra q (List.mem_of_mem_take h)) (fun q h => rb q (List.mem_of_mem_take h)) (fun q h => rc q (List.mem_of_mem_take h))
  have h1 : (~~~0#32 ^^^ ~~~0#32 ^^^ ~~~0#32) = ~~~0#32 := by decide
  rw [h1] at hf
  have : M 0#32 (List.take n A) ^^^ M 0#32 (List.take n B) ^^^ M 0#32 (List.take n C) ^^^ M 0#32 (D (A.take n) (B.take n) (C.take n)) = 0#32 := by
    unfold M
    rw [hf]
    exact zero4 _ _ _
  rw [this, if_pos (by decide), awake]
  rfl
theorem loop (n : Nat) (A B C : List Int) (hn : n ≤ 300) (ha : n ≤ A.length) (hb : n ≤ B.length) (hc : n ≤ C.length) (ra : ∀ q ∈ A, 0 ≤ q ∧ q < 256) (rb : ∀ q ∈ B, 0 ≤ q ∧ q < 256) (rc : ∀ q ∈ C, 0 ≤ q ∧ q < 256) :
    ∀ (m i : Nat), m + i = n → sumpterlaw03_CrcLinear.l0 (m + 6) A B C n ((D (A.take n) (B.take n) (C.take n)).take i ++ List.replicate m 0) i = some true
  | 0, i, h => by
    obtain rfl : i = n := by omega
    have hl : (D (A.take i) (B.take i) (C.take i)).length = i := by rw [D_length _ _ _ (by simp; omega) (by simp; omega)]; simp; omega
    have := tail 0 i A B C ha hb hc ra rb rc
    rw [List.take_of_length_le (by omega)]
    simpa using this
  | m + 1, i, h => by
    have hl : (D (A.take n) (B.take n) (C.take n)).length = n := by rw [D_length _ _ _ (by simp; omega) (by simp; omega)]; simp; omega
    have ih := loop n A B C hn ha hb hc ra rb rc m (i + 1) (by omega)
    rw [show m + 1 + 6 = (m + 6) + 1 by omega]
    simp only [sumpterlaw03_CrcLinear.l0]
    have hlen : ((D (A.take n) (B.take n) (C.take n)).take i ++ List.replicate (m + 1) (0 : Int)).length = n := by simp [hl]; omega
    rw [if_pos (by omega), if_pos (by omega), if_pos (by omega), if_pos (by omega), if_pos (by omega), if_pos (by rw [hlen]; omega)]
    rw [show ((i : Int).toNat) = i from rfl, w64 (x := (i : Int) + 1) (by omega)]
    have hg := D_get (A.take n) (B.take n) (C.take n) i (by simp; omega) (by simp; omega) (by simp; omega)
    have ht (X : List Int) : (X.take n).getD i 0 = X.getD i 0 := by
      simp only [List.getD, List.getElem?_take]
      rw [if_pos (by omega)]
    rw [ht, ht, ht] at hg
    have hs : ((D (A.take n) (B.take n) (C.take n)).take i ++ List.replicate (m + 1) (0 : Int)).set i (Go.bits .xor .u8 (Go.bits .xor .u8 (rd A i) (rd B i)) (rd C i)) = (D (A.take n) (B.take n) (C.take n)).take (i + 1) ++ List.replicate m 0 := by
      rw [List.set_append_right _ _ (by simp [hl]; omega)]
      have : i - ((D (A.take n) (B.take n) (C.take n)).take i).length = 0 := by simp [hl]; omega
      rw [this, List.replicate_succ, List.set_cons_zero, List.take_add_one, hg]
      simp [x8, rd]
    rw [hs]
    exact ih
theorem mn_le (a b : Int) : mn a b ≤ a ∧ mn a b ≤ b ∧ (mn a b = a ∨ mn a b = b) := by
  unfold mn
  split <;> omega
end Linear
open Linear
theorem CrcLinear : sumpterlaw03_CrcLinear.Pure2 := by
  intro A B C _ _ ra _ _ rb _ _ rc
  have r (l : List Int) (hl : ∀ x ∈ l, (Lit.int .u8 x).wf = true) : ∀ x ∈ l, 0 ≤ x ∧ x < 256 := fun x hx => by have := bounds_u8 (hl x hx); omega
  unfold sumpterlaw03_CrcLinear.f
  have m1 := mn_le (A.length : Int) (B.length : Int)
  have m2 := mn_le (mn (A.length : Int) (B.length : Int)) (C.length : Int)
  have m3 := mn_le (mn (mn (A.length : Int) (B.length : Int)) (C.length : Int)) 300
  generalize mn (mn (mn (A.length : Int) (B.length : Int)) (C.length : Int)) 300 = n at m3
  generalize mn (mn (A.length : Int) (B.length : Int)) (C.length : Int) = n2 at m2 m3
  generalize mn (A.length : Int) (B.length : Int) = n1 at m1 m2 m3
  obtain ⟨n, rfl⟩ : ∃ q : Nat, n = (q : Int) := ⟨n.toNat, by omega⟩
  refine ⟨n + 6, ?_⟩
  rw [if_pos (by omega), if_pos (by omega)]
  exact loop n A B C (by omega) (by omega) (by omega) (by omega) (r A ra) (r B rb) (r C rc) n 0 (by omega)
end Go.Proofs.YtklacmafifaajaaDoor.Pure
