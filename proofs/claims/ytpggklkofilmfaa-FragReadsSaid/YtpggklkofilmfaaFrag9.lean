/- Bytes held against one another; places. -/
import Derived.Test.YtpggklkofilmfaaFrag4
import Derived.Test.YtpggklkofilmfaaAbLem
set_option linter.unusedSimpArgs false
set_option linter.unusedVariables false
namespace Go.Proofs.Ytpggklkofilmfaa
open Go Go.Ab
set_option maxRecDepth 100000

def spBytes : FSpec where
  G := GS × GS
  args g := [g.1.arg 0, g.2.arg 1]
  hp g := [g.1.ent 0 .u8, g.2.ent 1 .u8]
  pre g := (g.1.off + g.1.c ≤ g.1.m ∧ g.1.n ≤ g.1.c ∧ (g.1.z = 0 ∨ g.1.c = 0) ∧ g.1.B.length = g.1.m) ∧ g.2.off + g.2.c ≤ g.2.m ∧ g.2.n ≤ g.2.c ∧ (g.2.z = 0 ∨ g.2.c = 0) ∧ g.2.B.length = g.2.m
  R _ := Unit
  post _ _ := True
  res g _ := .bool ((toBA g.1.l).toList == (toBA g.2.l).toList)
  new _ _ := []
  upd _ _ := []
  news := []
  wr := false
  mt vs h := match vs with
    | [x, y] => match gsOf h x, gsOf h y with
      | some (g, t), some (k, u) => some ((g, k), [t, u])
      | _, _ => none
    | _ => none
set_option maxHeartbeats 4000000 in
theorem fn20 : FnOk Try.prog 20 spBytes := by
  refine fnOk_of_vc (cxN_ok 10) wide (nt := fun _ => ntK [0, 1, 4]) Try.func20 rfl rfl (by kernel_rfl) (fuel := 1000) (fun _ => Nat.le_of_ble_eq_true rfl) (fun _ _ t h => h) (fun h => by cases h) ?_
  rintro ⟨g, k⟩ ⟨⟨g1, g2, g3, g4⟩, k1, k2, k3, k4⟩
  have g1 : g.off + g.c ≤ g.m := g1
  have g2 : g.n ≤ g.c := g2
  have g3 : g.z = 0 ∨ g.c = 0 := g3
  have k1 : k.off + k.c ≤ k.m := k1
  have k2 : k.n ≤ k.c := k2
  have k3 : k.z = 0 ∨ k.c = 0 := k3
  refine And.intro ⟨rfl, by (refine Eq.mpr (β := g.off + g.n ≤ g.m) (by kernel_rfl) ?_); omega, by (refine Eq.mpr (β := g.z = 0 ∨ g.n = 0) (by kernel_rfl) ?_); omega⟩ ?_
  refine And.intro ⟨rfl, by (refine Eq.mpr (β := k.off + k.n ≤ k.m) (by kernel_rfl) ?_); omega, by (refine Eq.mpr (β := k.z = 0 ∨ k.n = 0) (by kernel_rfl) ?_); omega⟩ ?_
  refine ⟨(), [0, 1], rfl, rfl, rfl, ?_, trivial⟩
  refine Eq.mpr (β := (g.b = g.b ∧ g.y = g.y ∧ (IntKind.u8 = IntKind.u8 ∧ g.m = g.m ∧ g.B = g.B) ∧ True) ∧ (k.b = k.b ∧ k.y = k.y ∧ (IntKind.u8 = IntKind.u8 ∧ k.m = k.m ∧ k.B = k.B) ∧ True) ∧ True) (by kernel_rfl) (And.intro (And.intro (rfl) (And.intro (rfl) (And.intro (And.intro (rfl) (And.intro (rfl) (rfl))) (trivial)))) (And.intro (And.intro (rfl) (And.intro (rfl) (And.intro (And.intro (rfl) (And.intro (rfl) (rfl))) (trivial)))) (trivial)))

/-! ### ambryhelp.Place -/
/-- The place that a number tells, of so many. -/
def placeI (x n : Int) : Int := if Int.tmod x n < 0 then Int.tmod x n + n else Int.tmod x n
theorem placeI_range {x n : Int} (hn : 0 < n) : 0 ≤ placeI x n ∧ placeI x n < n := by
  unfold placeI
  have h1 := Int.tmod_lt_of_pos x hn
  have h2 : -n < Int.tmod x n := Int.lt_tmod_of_pos x hn
  split <;> omega
def spPlace : FSpec where
  G := Int × Int
  args g := [.int .i64 g.1, .int .i64 g.2]
  hp _ := []
  pre g := 0 < g.2 ∧ g.2 ≤ 9223372036854775807
  R _ := Unit
  post _ _ := True
  res g _ := .int .i64 (placeI g.1 g.2)
  new _ _ := []
  upd _ _ := []
  news := []
  wr := false
  mt vs _ := match vs with
    | [.c (.v (.int _ x)), .c (.v (.int _ n))] => some ((x, n), [])
    | _ => none
def nt25 : Notes := ⟨fun _ => none, fun | 4 => some none | _ => none, fun _ => none, [0, 1, 4, 9]⟩
def inv25 (x n : Int) : Inv where
  G := Unit
  pre _ := True
  sl _ := [(0, .int .i64 (placeI x n))]
  hp _ := []
  mu _ := 0
set_option maxHeartbeats 4000000 in
theorem fn25 : FnOk Try.prog 25 spPlace := by
  refine fnOk_of_vc (cxN_ok 14) wide (nt := fun _ => nt25) Try.func25 rfl rfl (by kernel_rfl) (fuel := 1000) (fun _ => Nat.le_of_ble_eq_true rfl) (fun _ _ t h => h) (fun h => by cases h) ?_
  rintro ⟨x, n⟩ ⟨hn, hn2⟩
  have hn : 0 < n := hn
  have hn2 : n ≤ 9223372036854775807 := hn2
  have h1 := Int.tmod_lt_of_pos x hn
  have h2 : -n < Int.tmod x n := Int.lt_tmod_of_pos x hn
  refine And.intro (by (refine Eq.mpr (β := n ≠ 0) (by kernel_rfl) ?_); omega) ?_
  refine ⟨inv25 x n, ?_, ?_⟩
  · refine ⟨fun h => ?_, fun h => ?_⟩
    · have h : Int.tmod x n < 0 := of_decide_eq_true h
      refine And.intro (Eq.mpr (β := -9223372036854775808 ≤ Int.tmod x n + n ∧ Int.tmod x n + n ≤ 9223372036854775807) (by kernel_rfl) (by omega)) ?_
      refine ⟨(), [], rfl, rfl, ?_, ?_, trivial, trivial⟩
      · refine Eq.mpr (β := Value.int IntKind.i64 (Int.tmod x n + n) = Value.int IntKind.i64 (if Int.tmod x n < 0 then Int.tmod x n + n else Int.tmod x n) ∧ True) (by kernel_rfl) (And.intro (intE (by omega)) (trivial))
      · refine Eq.mpr (β := True) (by kernel_rfl) (trivial)
    · have h : ¬ Int.tmod x n < 0 := of_decide_eq_false h
      skip
      refine ⟨(), [], rfl, rfl, ?_, ?_, trivial, trivial⟩
      · refine Eq.mpr (β := Value.int IntKind.i64 (Int.tmod x n) = Value.int IntKind.i64 (if Int.tmod x n < 0 then Int.tmod x n + n else Int.tmod x n) ∧ True) (by kernel_rfl) (And.intro (intE (by omega)) (trivial))
      · refine Eq.mpr (β := True) (by kernel_rfl) (trivial)
  rintro ⟨⟩ _
  skip
  refine ⟨(), [], ?_, rfl, rfl, ?_, trivial⟩
  · refine Eq.mpr (β := Value.int IntKind.i64 (if Int.tmod x n < 0 then Int.tmod x n + n else Int.tmod x n) = Value.int IntKind.i64 (if Int.tmod x n < 0 then Int.tmod x n + n else Int.tmod x n)) (by kernel_rfl) (rfl)
  · refine Eq.mpr (β := True) (by kernel_rfl) (trivial)

end Go.Proofs.Ytpggklkofilmfaa
