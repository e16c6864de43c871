/- What is written is read back. -/
import Derived.Test.YtpggklkofilmfaaFrag14
set_option linter.unusedSimpArgs false
set_option linter.unusedVariables false
namespace Go.Proofs.Ytpggklkofilmfaa
open Go Go.Ab
set_option maxRecDepth 100000

theorem wrap_u8 (x : Int) : IntKind.u8.wrap x = x % 256 := by
  simp [IntKind.wrap, IntKind.signed, IntKind.bits]
theorem putL_getD (x : Int) (k : Nat) : ∀ i j, j < i → (putL x k i).getD j 0 = IntKind.u8.wrap (ishr .u64 x (8 * ((k : Int) - 1 - (j : Int))))
  | 0, j, h => by omega
  | i + 1, j, h => by
    rw [putL_succ]
    by_cases hj : j < i
    · rw [List.getD_eq_getElem?_getD, List.getElem?_append_left (by rw [putL_len]; exact hj), ← List.getD_eq_getElem?_getD]
      exact putL_getD x k i j hj
    · have : j = i := by omega
      subst this
      rw [List.getD_eq_getElem?_getD, List.getElem?_append_right (by rw [putL_len]; exact Nat.le_refl _), putL_len, Nat.sub_self]
      rfl
theorem ishr_pow (x : Int) (d : Nat) (hd : d ≤ 7) : ishr .u64 x (8 * (d : Int)) = x / 256 ^ d := by
  unfold ishr
  have h1 : (8 * (d : Int)).toNat = 8 * d := by omega
  have h2 : min (8 * d) IntKind.u64.bits = 8 * d := Nat.min_eq_left (by show 8 * d ≤ 64; omega)
  rw [h1, h2, Int.pow_mul, Int.fdiv_eq_ediv_of_nonneg _ (Int.le_of_lt (Int.pow_pos (by decide)))]
  rfl
theorem putL_inU8 (x : Int) (k : Nat) : ∀ i, inU8 (putL x k i)
  | 0 => by rw [putL_zero]; intro x hx; cases hx
  | i + 1 => by
    rw [putL_succ]
    intro y hy
    rw [List.mem_append] at hy
    rcases hy with hy | hy
    · exact putL_inU8 x k i y hy
    · rw [List.mem_singleton] at hy
      rw [hy, wrap_u8]
      omega
theorem getN_putL {x : Int} {k : Nat} (hk : k ≤ 8) (hx : 0 ≤ x ∧ x < 256 ^ k) : ∀ j, j ≤ k → getN (putL x k k) j = x / 256 ^ (k - j)
  | 0, _ => by
    rw [getN_zero, Nat.sub_zero, Int.ediv_eq_zero_of_lt hx.1 hx.2]
  | j + 1, hj => by
    have ih := getN_putL hk hx j (by omega)
    obtain ⟨d, hd⟩ : ∃ d, k - j = d + 1 := ⟨k - j - 1, by omega⟩
    have hd2 : k - (j + 1) = d := by omega
    have hp : (0 : Int) < 256 ^ d := Int.pow_pos (by decide)
    have e1 : x / 256 ^ (d + 1) = x / 256 ^ d / 256 := by rw [Int.pow_succ, Int.ediv_ediv_of_nonneg (Int.le_of_lt hp)]
    have hlt : x / 256 ^ d < 256 ^ (j + 1) := by
      apply Int.ediv_lt_of_lt_mul hp
      rw [← Int.pow_add, show j + 1 + d = k by omega]
      exact hx.2
    have hle : (256 : Int) ^ (j + 1) ≤ 256 ^ 8 := by
      have : j + 1 ≤ 8 := by omega
      exact_mod_cast Nat.pow_le_pow_right (by decide) this
    have h0 : 0 ≤ x / 256 ^ d := Int.ediv_nonneg hx.1 (Int.le_of_lt hp)
    have h8 : (256 : Int) ^ 8 = 18446744073709551616 := by decide
    rw [getN_succ, ih, putL_getD x k k j (by omega), hd, hd2, e1, show (k : Int) - 1 - (j : Int) = (d : Int) by omega, ishr_pow x d (by omega), wrap_u8]
    generalize x / 256 ^ d = y at h0 hlt ⊢
    rw [ior_byte (by omega) (by rw [wrap_u64]; omega), wrap_u64]
    omega
theorem getN_back {x : Int} {k : Nat} (hk : k ≤ 8) (hx : 0 ≤ x ∧ x < 256 ^ k) : getN (putL x k k) k = x := by
  rw [getN_putL hk hx k (Nat.le_refl _), Nat.sub_self, Int.pow_zero, Int.ediv_one]

/-! ### The bytes of a fragment -/
theorem outL_inU8 (S : List Int) : ∀ i, inU8 (outL S i)
  | 0 => by
    rw [outL_zero]
    intro x hx
    rw [(List.mem_replicate.1 hx).2]
    omega
  | i + 1 => by
    rw [outL_succ]
    intro x hx
    rcases List.mem_or_eq_of_mem_set hx with h | h
    · exact outL_inU8 S i x h
    · rw [h]
      unfold outB
      rw [wrap_u8]
      omega
theorem sumL_inU8 (l : List Int) (n : Nat) : inU8 (sumL l n) := outL_inU8 _ _
theorem inU8_app {a b : List Int} (ha : inU8 a) (hb : inU8 b) : inU8 (a ++ b) := fun x hx => by
  rw [List.mem_append] at hx
  exact hx.elim (ha x) (hb x)
theorem frHead_inU8 {f : FV} (hf : inU8 f.key) (l : List Int) (n : Nat) : inU8 (frHead f l n) := by
  unfold frHead
  refine inU8_app (by intro x hx; simp at hx; omega) (inU8_app hf (inU8_app (putL_inU8 _ _ _) (inU8_app ?_ (inU8_app (putL_inU8 _ _ _) (inU8_app (sumL_inU8 _ _) (putL_inU8 _ _ _))))))
  unfold frLast
  split <;> (intro x hx; simp at hx; omega)
theorem frL_inU8 {f : FV} (hf : inU8 f.key) {l : List Int} (hl : inU8 l) (n : Nat) : inU8 (frL f l n) := by
  unfold frL
  exact inU8_app (frHead_inU8 hf l n) (inU8_app (putL_inU8 _ _ _) hl)
theorem crc_range (l : List Int) (n : Nat) : 0 ≤ crc l n ∧ crc l n < 4294967296 := by
  rw [crc_eq]
  exact ixor_range _ _
theorem part_app {X A B C : List Int} {o k : Nat} (h : X = A ++ (B ++ C)) (hA : A.length = o) (hB : B.length = k) : (X.drop o).take k = B := by
  subst h hA hB
  rw [List.drop_left, List.take_left]
/-- A fragment, as it is read back. -/
def backF (f : FV) (l : List Int) (n : Nat) : FV := ⟨f.key, IntKind.i64.wrap (getN (putL (IntKind.u64.wrap f.part) 4 4) 4), f.last, IntKind.i64.wrap n, sumL l n, f.turn⟩
theorem open_frL {f : FV} {l : List Int} {n : Nat} (hk : f.key.length = 32) (ht : 0 ≤ f.turn ∧ f.turn < 18446744073709551616) (hl : l.length = n) (hn : n ≤ 4096) (Z : List Int) :
    ¬ badF (frL f l n ++ Z) ∧ rawF (frL f l n ++ Z) = backF f l n ∧ payR (frL f l n ++ Z) = l ∧ sizeF (frL f l n ++ Z) = n := by
  have hX : frL f l n ++ Z = [65, 77, 66, 82] ++ (f.key ++ (putL (IntKind.u64.wrap f.part) 4 4 ++ ([frLast f] ++ (putL (IntKind.u64.wrap n) 4 4 ++ (sumL l n ++ (putL f.turn 8 8 ++ (putL (IntKind.u64.wrap (crc (frHead f l n) 85)) 4 4 ++ (l ++ Z)))))))) := by
    conv => lhs; unfold frL
    conv => lhs; arg 1; arg 1; unfold frHead
    simp only [List.append_assoc]
  have hlen : (frL f l n ++ Z).length = 89 + n + Z.length := by rw [List.length_append, frL_len hk hl]
  have h85 : (frL f l n ++ Z).take 85 = frHead f l n := by
    conv => lhs; arg 2; unfold frL
    rw [List.append_assoc, List.take_left' (frHead_len hk l n)]
  generalize hXe : frL f l n ++ Z = X at hX hlen h85 ⊢
  generalize hcr : crc (frHead f l n) 85 = c at hX
  have hc := crc_range (frHead f l n) 85
  rw [hcr] at hc
  have hs0 : X.take 4 = [65, 77, 66, 82] := by rw [hX]; rfl
  have hs1 : (X.drop 4).take 32 = f.key := part_app hX rfl hk
  have hs2 : (X.drop 36).take 4 = putL (IntKind.u64.wrap f.part) 4 4 := part_app (A := [65, 77, 66, 82] ++ f.key) (by rw [hX]; simp only [List.append_assoc]; rfl) (by simp [hk]) (putL_len _ _ _)
  have hs3 : (X.drop 40).take 1 = [frLast f] := part_app (A := [65, 77, 66, 82] ++ (f.key ++ putL (IntKind.u64.wrap f.part) 4 4)) (by rw [hX]; simp only [List.append_assoc]; rfl) (by simp [hk, putL_len]) rfl
  have hs4 : (X.drop 41).take 4 = putL (IntKind.u64.wrap n) 4 4 := part_app (A := [65, 77, 66, 82] ++ (f.key ++ (putL (IntKind.u64.wrap f.part) 4 4 ++ [frLast f]))) (by rw [hX]; simp only [List.append_assoc]; rfl) (by simp [hk, putL_len]) (putL_len _ _ _)
  have hs5 : (X.drop 45).take 32 = sumL l n := part_app (A := [65, 77, 66, 82] ++ (f.key ++ (putL (IntKind.u64.wrap f.part) 4 4 ++ ([frLast f] ++ putL (IntKind.u64.wrap n) 4 4)))) (by rw [hX]; simp only [List.append_assoc]; rfl) (by simp [hk, putL_len]) (sumL_len _ _)
  have hs6 : (X.drop 77).take 8 = putL f.turn 8 8 := part_app (A := [65, 77, 66, 82] ++ (f.key ++ (putL (IntKind.u64.wrap f.part) 4 4 ++ ([frLast f] ++ (putL (IntKind.u64.wrap n) 4 4 ++ sumL l n))))) (by rw [hX]; simp only [List.append_assoc]; rfl) (by simp [hk, putL_len, sumL_len]) (putL_len _ _ _)
  have hs7 : (X.drop 85).take 4 = putL (IntKind.u64.wrap c) 4 4 := part_app (A := [65, 77, 66, 82] ++ (f.key ++ (putL (IntKind.u64.wrap f.part) 4 4 ++ ([frLast f] ++ (putL (IntKind.u64.wrap n) 4 4 ++ (sumL l n ++ putL f.turn 8 8)))))) (by rw [hX]; simp only [List.append_assoc]; rfl) (by simp [hk, putL_len, sumL_len]) (putL_len _ _ _)
  have hs8 : (X.drop 89).take n = l := part_app (A := [65, 77, 66, 82] ++ (f.key ++ (putL (IntKind.u64.wrap f.part) 4 4 ++ ([frLast f] ++ (putL (IntKind.u64.wrap n) 4 4 ++ (sumL l n ++ (putL f.turn 8 8 ++ putL (IntKind.u64.wrap c) 4 4))))))) (by rw [hX]; simp only [List.append_assoc]; rfl) (by simp [hk, putL_len, sumL_len]) hl
  have p4 : (256 : Int) ^ 4 = 4294967296 := by decide
  have p8 : (256 : Int) ^ 8 = 18446744073709551616 := by decide
  have hsz : sizeF X = n := by
    unfold sizeF numB
    rw [hs4, wrap_u64_id (by omega)]
    exact getN_back (by omega) (by omega)
  have hpay : payR X = l := by
    unfold payR
    rw [hsz, Int.toNat_natCast, hs8]
  have h40 : X.getD 40 0 = frLast f := by
    have : ((X.drop 40).take 1).getD 0 0 = frLast f := by rw [hs3]; rfl
    rw [← this, List.getD_eq_getElem?_getD, List.getD_eq_getElem?_getD, List.getElem?_take, List.getElem?_drop]
    simp
  have hcrc : numB X 85 4 = IntKind.u64.wrap c := by
    unfold numB
    rw [hs7, wrap_u64_id (by omega)]
    exact getN_back (by omega) (by omega)
  have hlast : frLast f = 0 ∨ frLast f = 1 := by unfold frLast; split <;> simp
  refine ⟨?_, ?_, hpay, hsz⟩
  · rintro (e | e | e | e | e | e | e)
    · omega
    · exact e hs0
    · rw [hcrc, h85, hcr] at e; exact e rfl
    · rw [h40] at e; omega
    · omega
    · omega
    · rw [hpay, hsz, Int.toNat_natCast, hs5] at e; exact e rfl
  · unfold rawF backF
    rw [hs1, hs5, h40, hsz]
    congr 1
    · unfold numB; rw [hs2]
    · unfold frLast
      cases f.last <;> decide
    · unfold numB
      rw [hs6]
      exact getN_back (by omega) (by omega)

end Go.Proofs.Ytpggklkofilmfaa
