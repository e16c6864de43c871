/- The program's sum: the padded text's end; the walk. -/
import Derived.Test.YtpggklkofilmfaaSha4
set_option linter.unusedSimpArgs false
set_option linter.unusedVariables false
namespace Go.Proofs.Ytpggklkofilmfaa
open Go Go.Ab
set_option maxRecDepth 100000

/-! ### The padded text, number by number -/
theorem beTail_length (x : Int) : ∀ k, (beTail x k).length = k
  | 0 => by unfold beTail; rfl
  | k + 1 => by rw [beTail_succ, List.length_append, beTail_length x k]; rfl
theorem beTail_getD (x : Int) : ∀ k j, j < k → (beTail x k).getD j 0 = IntKind.u8.wrap (ishr .u64 x (8 * (7 - (j : Int))))
  | 0, j, h => by omega
  | k + 1, j, h => by
    rw [beTail_succ]
    by_cases hj : j < k
    · rw [List.getD_eq_getElem?_getD, List.getElem?_append_left (by rw [beTail_length]; exact hj), ← List.getD_eq_getElem?_getD]
      exact beTail_getD x k j hj
    · have : j = k := by omega
      subst this
      rw [List.getD_eq_getElem?_getD, List.getElem?_append_right (by rw [beTail_length]; exact Nat.le_refl _), beTail_length]
      simp
def lenW (n : Nat) : Int := imul .u64 (IntKind.u64.wrap n) 8
theorem padL_getD {l : List Int} {n : Nat} (hl : l.length = n) (x : Nat) (hx : x < padN n) : (padL l n).getD x 0 =
    if x < n then l.getD x 0 else if x = n then 128 else if x < n + 1 + padK n then 0 else IntKind.u8.wrap (ishr .u64 (lenW n) (8 * (7 - ((x - (n + 1 + padK n) : Nat) : Int)))) := by
  have hp : padL l n = l ++ (128 :: (List.replicate (padK n) 0 ++ beTail (lenW n) 8)) := by unfold padL lenW; simp
  rw [hp]
  split
  · rename_i h
    rw [List.getD_eq_getElem?_getD, List.getElem?_append_left (by omega), ← List.getD_eq_getElem?_getD]
  · rename_i h
    rw [List.getD_eq_getElem?_getD, List.getElem?_append_right (by omega), hl]
    split
    · rename_i h; subst h; simp
    · rename_i h2
      obtain ⟨y, hy⟩ : ∃ y, x - n = y + 1 := ⟨x - n - 1, by omega⟩
      rw [hy, List.getElem?_cons_succ]
      split
      · rename_i h3
        rw [List.getElem?_append_left (by simp; omega), List.getElem?_replicate, if_pos (by omega)]
        rfl
      · rename_i h3
        rw [List.getElem?_append_right (by simp; omega), List.length_replicate, ← List.getD_eq_getElem?_getD, beTail_getD _ _ _ (by unfold padN at hx; omega)]
        rw [show y - padK n = x - (n + 1 + padK n) by omega]

end Go.Proofs.Ytpggklkofilmfaa
