/- Sectors; places; bytes held against one another. -/
import Derived.Test.YtpggklkofilmfaaFrag2
import Derived.Test.YtpggklkofilmfaaAbLem
set_option linter.unusedSimpArgs false
set_option linter.unusedVariables false
namespace Go.Proofs.Ytpggklkofilmfaa
open Go Go.Ab
set_option maxRecDepth 100000

/-- A fragment's bytes; a sector's. -/
def secX (p : Int) : Nat := if p ≤ 0 then 89 else if 4096 ≤ p then 4185 else 89 + p.toNat
def secS (s : Int) : Nat := if s ≤ 64 then 64 else s.toNat
def secN (p s : Int) : Nat := (secX p + secS s - 1) / secS s
theorem secX_le (p : Int) : 89 ≤ secX p ∧ secX p ≤ 4185 := by
  unfold secX
  split
  · omega
  · split <;> omega
theorem secS_le {s : Int} (h : s ≤ 9223372036854775807) : 64 ≤ secS s ∧ secS s ≤ 9223372036854775807 := by
  unfold secS
  split <;> omega
theorem secX_eq (p : Int) : (89 : Int) + (if (4096 : Int) < (if (0 : Int) > p then 0 else p) then 4096 else (if (0 : Int) > p then 0 else p)) = (secX p : Int) := by
  unfold secX
  split <;> split <;> (try split) <;> (try split) <;> omega
theorem secS_eq (s : Int) : (if (64 : Int) > s then 64 else s) = (secS s : Int) := by
  unfold secS
  split <;> split <;> omega
theorem ceil_div {X S : Nat} (hS : 0 < S) (hX : 0 < X) : (X + S - 1) / S = X / S + min (X % S) 1 := by
  have h1 := Nat.div_add_mod X S
  have h2 := Nat.mod_lt X hS
  by_cases h : X % S = 0
  · rw [h, show min 0 1 = 0 from rfl, Nat.add_zero]
    have h3 : X = S * (X / S) := by omega
    rw [h3] at *
    rw [Nat.mul_div_cancel_left _ hS]
    rw [show S * (X / S) + S - 1 = (S - 1) + S * (X / S) by omega, Nat.add_mul_div_left _ _ hS, Nat.div_eq_of_lt (by omega)]
    omega
  · rw [show min (X % S) 1 = 1 by omega]
    have h3 : X + S - 1 = (X % S - 1) + S * (X / S + 1) := by
      rw [Nat.mul_add]; omega
    rw [h3, Nat.add_mul_div_left _ _ hS, Nat.div_eq_of_lt (by omega)]
    omega
def spSec : FSpec where
  G := Int × Int
  args g := [.int .i64 g.1, .int .i64 g.2]
  hp _ := []
  pre g := (-9223372036854775808 ≤ g.1 ∧ g.1 ≤ 9223372036854775807) ∧ -9223372036854775808 ≤ g.2 ∧ g.2 ≤ 9223372036854775807
  R _ := Unit
  post _ _ := True
  res g _ := .int .i64 (secN g.1 g.2)
  new _ _ := []
  upd _ _ := []
  news := []
  wr := false
  mt vs _ := match vs with
    | [.c (.v (.int _ p)), .c (.v (.int _ s))] => some ((p, s), [])
    | _ => none
def nt30 : Notes := ⟨fun | 2 => some (seqOf [0, 1, 2, 3, 4, 5, 6, 7, 8]) | _ => none, fun | 2 => some none | _ => none, fun _ => none, [0, 1, 4, 5, 6]⟩
def inv30 (p s : Int) : Inv where
  G := Unit
  pre _ := True
  sl _ := [(5, .int .i64 (secX p)), (6, .int .i64 (secS s))]
  hp _ := []
  mu _ := 0
set_option maxHeartbeats 4000000 in
theorem fn30 : FnOk Try.prog 30 spSec := by
  refine fnOk_of_vc (cxN_ok 21) wide (nt := fun _ => nt30) Try.func30 rfl rfl (by kernel_rfl) (fuel := 1000) (fun _ => Nat.le_of_ble_eq_true rfl) (fun _ _ t h => h) (fun h => by cases h) ?_
  rintro ⟨p, s⟩ ⟨hp, hs⟩
  have hp : -9223372036854775808 ≤ p ∧ p ≤ 9223372036854775807 := hp
  have hs : -9223372036854775808 ≤ s ∧ s ≤ 9223372036854775807 := hs
  have hX := secX_le p
  have hS := secS_le hs.2
  refine ⟨inv30 p s, ?_, ?_⟩
  · refine And.intro (by (refine Eq.mpr (β := (-9223372036854775808 ≤ 89 + if 4096 < if p < 0 then 0 else p then 4096 else if p < 0 then 0 else p) ∧ (89 + if 4096 < if p < 0 then 0 else p then 4096 else if p < 0 then 0 else p) ≤ 9223372036854775807) (by kernel_rfl) ?_); rw [secX_eq]; omega) ?_
    refine ⟨(), [], rfl, rfl, ?_, ?_, trivial, trivial⟩
    · refine Eq.mpr (β := Value.int IntKind.i64 (89 + if 4096 < if p < 0 then 0 else p then 4096 else if p < 0 then 0 else p) = Value.int IntKind.i64 (↑(secX p) : Int) ∧ Value.int IntKind.i64 (if s < 64 then 64 else s) = Value.int IntKind.i64 (↑(secS s) : Int) ∧ True) (by kernel_rfl) (And.intro (?_) (And.intro (?_) (trivial)))
      · rw [secX_eq]
      · rw [secS_eq]
    · refine Eq.mpr (β := True) (by kernel_rfl) (trivial)
  rintro ⟨⟩ _
  have hd : secX p / secS s ≤ secX p := Nat.div_le_self _ _
  have hr : secX p % secS s < secS s := Nat.mod_lt _ (by omega)
  have hce : secN p s = secX p / secS s + min (secX p % secS s) 1 := ceil_div (by omega) (by omega)
  have hq0 : Int.tdiv (secX p : Int) (secS s : Int) = ((secX p / secS s : Nat) : Int) := rfl
  have hm : Int.tmod (secX p : Int) (secS s : Int) = ((secX p % secS s : Nat) : Int) := rfl
  generalize secX p / secS s = Q at hd hce hq0
  generalize secX p % secS s = R at hr hce hm
  have hq : iquo .i64 (secX p : Int) (secS s : Int) = (Q : Int) := by
    unfold iquo
    rw [hq0, wrap_i64_id (by omega)]
  refine And.intro (by kernel_rfl) ?_
  refine And.intro (by (refine Eq.mpr (β := (↑(secS s) : Int) ≠ 0) (by kernel_rfl) ?_); omega) ?_
  refine And.intro (by (refine Eq.mpr (β := (↑(secS s) : Int) ≠ 0) (by kernel_rfl) ?_); omega) ?_
  refine And.intro (by (refine Eq.mpr (β := (-9223372036854775808 ≤ iquo IntKind.i64 (↑(secX p) : Int) (↑(secS s) : Int) + if 1 < Int.tmod (↑(secX p) : Int) (↑(secS s) : Int) then 1 else Int.tmod (↑(secX p) : Int) (↑(secS s) : Int)) ∧ (iquo IntKind.i64 (↑(secX p) : Int) (↑(secS s) : Int) + if 1 < Int.tmod (↑(secX p) : Int) (↑(secS s) : Int) then 1 else Int.tmod (↑(secX p) : Int) (↑(secS s) : Int)) ≤ 9223372036854775807) (by kernel_rfl) ?_); rw [hq, hm]; split <;> omega) ?_
  refine ⟨(), [], ?_, rfl, rfl, ?_, trivial⟩
  · refine Eq.mpr (β := Value.int IntKind.i64 (iquo IntKind.i64 (↑(secX p) : Int) (↑(secS s) : Int) + if 1 < Int.tmod (↑(secX p) : Int) (↑(secS s) : Int) then 1 else Int.tmod (↑(secX p) : Int) (↑(secS s) : Int)) = Value.int IntKind.i64 (↑(secN p s) : Int)) (by kernel_rfl) (intE (by omega))
  · refine Eq.mpr (β := True) (by kernel_rfl) (trivial)
def nt31 : Notes := ⟨fun _ => none, fun | 2 => some none | _ => none, fun _ => none, [0, 1, 4, 5, 6, 15]⟩
def inv31 (p s : Int) : Inv where
  G := Unit
  pre _ := True
  sl _ := [(0, .int .i64 ((secX p : Int) - 89)), (1, .int .i64 (secS s))]
  hp _ := []
  mu _ := 0
def inv31b (p s : Int) : Inv where
  G := Nat
  pre k := k = 0 ∨ (k - 1) * secS s < secX p
  sl k := [(1, .int .i64 (secS s)), (5, .int .i64 k), (6, .int .i64 ((secX p - k * secS s : Nat) : Int))]
  hp _ := []
  mu k := secX p - k * secS s
set_option maxHeartbeats 4000000 in
theorem fn31 : FnOk Try.prog 31 spSec := by
  refine fnOk_of_vc (cxN_ok 24) wide (nt := fun _ => nt31) Try.func31 rfl rfl (by kernel_rfl) (fuel := 1000) (fun _ => Nat.le_of_ble_eq_true rfl) (fun _ _ t h => h) (fun h => by cases h) ?_
  rintro ⟨p, s⟩ ⟨hp, hs⟩
  have hp : -9223372036854775808 ≤ p ∧ p ≤ 9223372036854775807 := hp
  have hs : -9223372036854775808 ≤ s ∧ s ≤ 9223372036854775807 := hs
  have hX := secX_le p
  have hS := secS_le hs.2
  have hx := secX_eq p
  refine ⟨inv31 p s, ?_, ?_⟩
  · refine ⟨(), [], rfl, rfl, ?_, ?_, trivial, trivial⟩
    · refine Eq.mpr (β := Value.int IntKind.i64 (if 4096 < if p < 0 then 0 else p then 4096 else if p < 0 then 0 else p) = Value.int IntKind.i64 ((↑(secX p) : Int) - 89) ∧ Value.int IntKind.i64 (if s < 64 then 64 else s) = Value.int IntKind.i64 (↑(secS s) : Int) ∧ True) (by kernel_rfl) (And.intro (intE (by omega)) (And.intro (?_) (trivial)))
      rw [← secS_eq]
    · refine Eq.mpr (β := True) (by kernel_rfl) (trivial)
  rintro ⟨⟩ _
  refine And.intro (by omega) ?_
  refine ⟨inv31b p s, ⟨(0 : Nat), [], rfl, rfl, ?_, ?_, ?_, trivial⟩, ?_⟩
  · refine Eq.mpr (β := Value.int IntKind.i64 (↑(secS s) : Int) = Value.int IntKind.i64 (↑(secS s) : Int) ∧ Value.int IntKind.i64 0 = Value.int IntKind.i64 (↑0 : Int) ∧ Value.int IntKind.i64 (89 + ((↑(secX p) : Int) - 89)) = Value.int IntKind.i64 (↑(secX p - 0 * secS s) : Int) ∧ True) (by kernel_rfl) (And.intro (rfl) (And.intro (intE (by omega)) (And.intro (intE (by omega)) (trivial))))
  · refine Eq.mpr (β := True) (by kernel_rfl) (trivial)
  · exact .inl rfl
  intro (k : Nat) hk
  have hk : k = 0 ∨ (k - 1) * secS s < secX p := hk
  refine ⟨fun hlt => ?_, fun hge => ?_⟩
  · have hlt : (0 : Int) < ((secX p - k * secS s : Nat) : Int) := of_decide_eq_true hlt
    have hk1 : (k + 1) * secS s = k * secS s + secS s := Nat.succ_mul _ _
    have hkX : k ≤ 4185 := by
      have : k * 64 ≤ k * secS s := Nat.mul_le_mul (Nat.le_refl _) hS.1
      omega
    refine And.intro (by omega) ?_
    refine And.intro (by omega) ?_
    refine ⟨(k + 1 : Nat), [], rfl, rfl, ?_, ?_, ?_, ?_⟩
    · refine Eq.mpr (β := Value.int IntKind.i64 (↑(secS s) : Int) = Value.int IntKind.i64 (↑(secS s) : Int) ∧ Value.int IntKind.i64 ((↑k : Int) + 1) = Value.int IntKind.i64 (↑(k + 1) : Int) ∧ Value.int IntKind.i64 ((↑(secX p - k * secS s) : Int) - if (↑(secX p - k * secS s) : Int) < (↑(secS s) : Int) then (↑(secX p - k * secS s) : Int) else (↑(secS s) : Int)) = Value.int IntKind.i64 (↑(secX p - (k + 1) * secS s) : Int) ∧ True) (by kernel_rfl) (And.intro (rfl) (And.intro (intE (by omega)) (And.intro (intE (by omega)) (trivial))))
    · refine Eq.mpr (β := True) (by kernel_rfl) (trivial)
    · refine .inr ?_
      show (k + 1 - 1) * secS s < secX p
      rw [Nat.add_sub_cancel]
      omega
    · show secX p - (k + 1) * secS s < secX p - k * secS s
      omega
  have hge : ¬ (0 : Int) < ((secX p - k * secS s : Nat) : Int) := of_decide_eq_false hge
  have hkk : k = secN p s := by
    unfold secN
    have hk1 : k * secS s = (k - 1) * secS s + secS s := by
      cases k with
      | zero => simp at hge; omega
      | succ k => simp [Nat.succ_mul]
    have hk0 : k ≠ 0 := by rintro rfl; simp at hge; omega
    have h1 : (k - 1) * secS s < secX p := hk.resolve_left hk0
    symm
    rw [Nat.div_eq_iff (by omega)]
    omega
  skip
  refine ⟨(), [], ?_, rfl, rfl, ?_, trivial⟩
  · refine Eq.mpr (β := Value.int IntKind.i64 (↑k : Int) = Value.int IntKind.i64 (↑(secN p s) : Int)) (by kernel_rfl) (intE (by omega))
  · refine Eq.mpr (β := True) (by kernel_rfl) (trivial)

end Go.Proofs.Ytpggklkofilmfaa
