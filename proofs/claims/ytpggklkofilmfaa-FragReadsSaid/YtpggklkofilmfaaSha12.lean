/- The law of lengths. -/
import Derived.Test.YtpggklkofilmfaaSha11
set_option linter.unusedSimpArgs false
set_option linter.unusedVariables false
namespace Go.Proofs.Ytpggklkofilmfaa
open Go Go.Ab
set_option maxRecDepth 100000

/-- It tells true, whatever numbers. -/
def sp6 : FSpec where
  G := Int × Int
  args g := [.int .u8 g.1, .int .u8 g.2]
  hp g := []
  pre g := (0 ≤ g.1 ∧ g.1 ≤ 255) ∧ 0 ≤ g.2 ∧ g.2 ≤ 255
  R _ := Unit
  post _ _ := True
  res _ _ := .bool true
  new _ _ := []
  upd _ _ := []
  news := []
  wr := false
  mt _ _ := none
def nt6 : Notes := ⟨fun | 8 => some (seqOf [0, 2, 1, 3, 4, 5, 6, 7, 8, 9, 10, 12, 13, 14, 15, 16, 11, 17, 18, 19, 20]) | _ => none, fun _ => none, fun _ => none, [0, 1, 4, 5, 6, 8, 16]⟩
def inv6 (n : Nat) (x : Int) (b : BlkO) : Inv where
  G := Nat × List Int
  pre y := y.1 ≤ n ∧ y.2.length = n
  sl y := [(1, .int .u8 x), (5, .c (.sl 5 b 0 n n 0)), (6, .int .i64 y.1)]
  hp y := [(5, b, .cells 5 [.ints .u8 n y.2])]
  mu y := n - y.1

set_option maxHeartbeats 4000000 in
theorem fn6 : FnOk Try.prog 6 sp6 := by
  refine fnOk_of_vc (cxL_ok 43) wide (nt := fun _ => nt6) Try.func6 rfl rfl (by kernel_rfl) (fuel := 1000) (fun _ => Nat.le_of_ble_eq_true rfl) (fun _ _ t h => h) (fun h => by cases h) ?_
  rintro ⟨k, x⟩ hpre
  obtain ⟨hk, hx⟩ := hpre
  have hx : 0 ≤ x ∧ x ≤ 255 := hx
  have hk : 0 ≤ k ∧ k ≤ 255 := hk
  have hwk : IntKind.i64.wrap k = k := wrap_i64_id (by omega)
  refine And.intro (by (refine And.intro (trivial) (And.intro (And.intro (trivial) (rfl)) (And.intro (rfl) (And.intro (rfl) (And.intro (rfl) (And.intro (rfl) (trivial)))))))) (fun _ _ => ?_)
  refine ⟨fun h => (by cases h), fun _ => ?_⟩
  refine And.intro (by (refine Eq.mpr (β := -9223372036854775808 ≤ IntKind.wrap IntKind.i64 k + 40 ∧ IntKind.wrap IntKind.i64 k + 40 ≤ 9223372036854775807) (by kernel_rfl) ?_); rw [hwk]; omega) ?_
  refine And.intro (by (refine Eq.mpr (β := 0 ≤ IntKind.wrap IntKind.i64 k + 40 ∧ IntKind.wrap IntKind.i64 k + 40 ≤ IntKind.wrap IntKind.i64 k + 40 ∧ (IntKind.wrap IntKind.i64 k + 40) * (↑1 : Int) ≤ 70368744177664 ∧ IntKind.wrap IntKind.i64 k + 40 ≤ 70368744177664) (by kernel_rfl) ?_); rw [hwk]; omega) ?_
  intro b5 _
  obtain ⟨n, hn⟩ : ∃ n : Nat, k + 40 = (n : Int) := ⟨(k + 40).toNat, by omega⟩
  refine ⟨inv6 n x b5, ⟨(0, List.replicate n 0), [1012], rfl, rfl, ?_, ?_, ?_, trivial⟩, ?_⟩
  · refine Eq.mpr (β := Value.int IntKind.u8 x = Value.int IntKind.u8 x ∧ ({ o := b5, ro := false : Blk } = { o := b5, ro := false : Blk } ∧ 0 = 0 ∧ Int.toNat (IntKind.wrap IntKind.i64 k + 40) = n ∧ Int.toNat (IntKind.wrap IntKind.i64 k + 40) = n ∧ 0 = 0) ∧ Value.int IntKind.i64 0 = Value.int IntKind.i64 (↑0 : Int) ∧ True) (by kernel_rfl) (And.intro (rfl) (And.intro (And.intro (rfl) (And.intro (rfl) (And.intro (by omega) (And.intro (by omega) (rfl))))) (And.intro (intE (by omega)) (trivial))))
    all_goals rw [hwk]; omega
  · refine Eq.mpr (β := ({ o := b5, ro := false : Blk } = { o := b5, ro := false : Blk } ∧ (5 : TypeId) = (5 : TypeId) ∧ (IntKind.u8 = IntKind.u8 ∧ Int.toNat (IntKind.wrap IntKind.i64 k + (40 : Int)) = n ∧ List.replicate (Int.toNat (IntKind.wrap IntKind.i64 k + (40 : Int))) (0 : Int) = List.replicate n (0 : Int)) ∧ True) ∧ True) (by kernel_rfl) (And.intro (And.intro (rfl) (And.intro (rfl) (And.intro (And.intro (rfl) (And.intro (by omega) (?_))) (trivial)))) (trivial))
    all_goals rw [hwk, hn]; simp
  · exact ⟨Nat.zero_le _, by simp⟩
  rintro ⟨i, L⟩ ⟨hi, hL⟩
  have hi : i ≤ n := hi
  have hL : L.length = n := hL
  refine ⟨fun h => ?_, fun h => ?_⟩
  · have h : (i : Int) < (n : Int) := of_decide_eq_true h
    refine And.intro (by omega) ?_
    refine And.intro ⟨⟨rfl, rfl⟩, by omega⟩ ?_
    refine And.intro (by omega) ?_
    refine ⟨(i + 1, L.set i x), [5], rfl, rfl, ?_, ?_, ?_, ?_⟩
    · refine Eq.mpr (β := Value.int IntKind.u8 x = Value.int IntKind.u8 x ∧ ({ o := b5, ro := false : Blk } = { o := b5, ro := false : Blk } ∧ 0 = 0 ∧ n = n ∧ n = n ∧ 0 = 0) ∧ Value.int IntKind.i64 ((↑i : Int) + 1) = Value.int IntKind.i64 (↑(i + 1) : Int) ∧ True) (by kernel_rfl) (And.intro (rfl) (And.intro (And.intro (rfl) (And.intro (rfl) (And.intro (rfl) (And.intro (rfl) (rfl))))) (And.intro (intE (by omega)) (trivial))))
    · refine Eq.mpr (β := ({ o := b5, ro := false : Blk } = { o := b5, ro := false : Blk } ∧ 5 = 5 ∧ (IntKind.u8 = IntKind.u8 ∧ n = n ∧ List.set L (0 + Int.toNat (↑i : Int) * 1) x = List.set L i x) ∧ True) ∧ True) (by kernel_rfl) (And.intro (And.intro (rfl) (And.intro (rfl) (And.intro (And.intro (rfl) (And.intro (rfl) (?_))) (trivial)))) (trivial))
      rw [show 0 + (i : Int).toNat * 1 = i by omega]
    · exact ⟨by show i + 1 ≤ n; omega, by show (L.set i x).length = n; simp [hL]⟩
    · show n - (i + 1) < n - i
      omega
  have ok1 : GS.ok ⟨b5, 0, n, n, 0, n, 5, L⟩ := ⟨by show 0 + n ≤ n; omega, Nat.le_refl _, .inl rfl, hL⟩
  refine And.intro (by kernel_rfl) ?_
  refine And.intro (by (refine And.intro (And.intro (And.intro (rfl) (And.intro (rfl) (And.intro (rfl) (And.intro (rfl) (rfl))))) (trivial)) (And.intro (And.intro (And.intro (And.intro (rfl) (And.intro (rfl) (And.intro (And.intro (rfl) (And.intro (rfl) (rfl))) (trivial)))) (trivial)) (rfl)) (And.intro (rfl) (And.intro (rfl) (And.intro (rfl) (And.intro (rfl) (And.intro (?_) (?_)))))))); exact ok1; show n ≤ 1099511627776; omega) (fun _ _ => ?_)
  refine And.intro (by (refine And.intro (And.intro (And.intro (rfl) (And.intro (rfl) (And.intro (rfl) (And.intro (rfl) (rfl))))) (trivial)) (And.intro (And.intro (And.intro (And.intro (rfl) (And.intro (rfl) (And.intro (And.intro (rfl) (And.intro (rfl) (rfl))) (trivial)))) (trivial)) (rfl)) (And.intro (rfl) (And.intro (rfl) (And.intro (rfl) (And.intro (rfl) (And.intro (?_) (?_)))))))); exact ok1; show n ≤ 1099511627776; omega) (fun _ _ => ?_)
  refine ⟨fun _ => ?_, fun hp => absurd (hp.symm.trans (show _ = true from decide_eq_true rfl)) Bool.false_ne_true⟩
  repeat refine ⟨fun _ => ?_, fun hp => by cases hp⟩
  refine And.intro (by (refine Eq.mpr (β := -9223372036854775808 ≤ (↑n : Int) - 1 ∧ (↑n : Int) - 1 ≤ 9223372036854775807) (by kernel_rfl) ?_); omega) ?_
  repeat refine ⟨fun _ => ?_, fun hp => by cases hp⟩
  refine And.intro (by (refine Eq.mpr (β := 0 ≤ (↑n : Int) - 1 ∧ (↑n : Int) - 1 ≤ (↑n : Int)) (by kernel_rfl) ?_); omega) ?_
  repeat refine ⟨fun _ => ?_, fun hp => by cases hp⟩
  refine And.intro (by (refine Eq.mpr (β := -9223372036854775808 ≤ (↑n : Int) - 1 ∧ (↑n : Int) - 1 ≤ 9223372036854775807) (by kernel_rfl) ?_); omega) ?_
  repeat refine ⟨fun _ => ?_, fun hp => by cases hp⟩
  refine And.intro (by (refine Eq.mpr (β := 0 ≤ (↑n : Int) - 1 ∧ (↑n : Int) - 1 ≤ (↑n : Int)) (by kernel_rfl) ?_); omega) ?_
  repeat refine ⟨fun _ => ?_, fun hp => by cases hp⟩
  have ok2 : GS.ok ⟨b5, 0, ((n : Int) - 1).toNat - 0, n - 0, 0, n, 5, L⟩ := ⟨by show 0 + (n - 0) ≤ n; omega, by show ((n : Int) - 1).toNat - 0 ≤ n - 0; omega, .inl rfl, hL⟩
  refine And.intro (by (refine And.intro (And.intro (And.intro (rfl) (And.intro (rfl) (And.intro (rfl) (And.intro (rfl) (rfl))))) (trivial)) (And.intro (And.intro (And.intro (And.intro (rfl) (And.intro (rfl) (And.intro (And.intro (rfl) (And.intro (rfl) (rfl))) (trivial)))) (trivial)) (rfl)) (And.intro (rfl) (And.intro (rfl) (And.intro (rfl) (And.intro (rfl) (And.intro (?_) (?_)))))))); exact ok2; show ((n : Int) - 1).toNat - 0 ≤ 1099511627776; omega) (fun _ _ => ?_)
  repeat refine ⟨fun _ => ?_, fun hp => by cases hp⟩
  refine And.intro (by (refine And.intro (And.intro (And.intro (rfl) (And.intro (rfl) (And.intro (rfl) (And.intro (rfl) (rfl))))) (trivial)) (And.intro (And.intro (And.intro (And.intro (rfl) (And.intro (rfl) (And.intro (And.intro (rfl) (And.intro (rfl) (rfl))) (trivial)))) (trivial)) (rfl)) (And.intro (rfl) (And.intro (rfl) (And.intro (rfl) (And.intro (rfl) (And.intro (?_) (?_)))))))); exact ok2; show ((n : Int) - 1).toNat - 0 ≤ 1099511627776; omega) (fun _ _ => ?_)
  repeat refine ⟨fun _ => ?_, fun hp => by cases hp⟩
  refine ⟨(), [], ?_, rfl, rfl, ?_, trivial⟩
  · exact boolE (decide_eq_true rfl)
  · refine Eq.mpr (β := True) (by kernel_rfl) (trivial)

end Go.Proofs.Ytpggklkofilmfaa
