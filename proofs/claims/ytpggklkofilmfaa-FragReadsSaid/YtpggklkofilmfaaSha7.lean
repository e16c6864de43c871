/- Numbers put behind a row; keys. -/
import Derived.Test.YtpggklkofilmfaaSha6
set_option linter.unusedSimpArgs false
set_option linter.unusedVariables false
namespace Go.Proofs.Ytpggklkofilmfaa
open Go Go.Ab
set_option maxRecDepth 100000

/-! ### ambryref1.Put -/
def putL (x : Int) (k : Nat) : Nat → List Int
  | 0 => []
  | j + 1 => putL x k j ++ [IntKind.u8.wrap (ishr .u64 x (8 * ((k : Int) - 1 - (j : Int))))]
theorem putL_zero (x : Int) (k : Nat) : putL x k 0 = [] := rfl
theorem putL_succ (x : Int) (k j : Nat) : putL x k (j + 1) = putL x k j ++ [IntKind.u8.wrap (ishr .u64 x (8 * ((k : Int) - 1 - (j : Int))))] := rfl
attribute [irreducible] putL
def cx37 : Cx := ⟨tab, fun _ => none, 23, true⟩
theorem cx37_ok : CxOk Try.prog cx37 := ⟨tab_ok, fun f c h => by cases h⟩
def sp37 : FSpec where
  G := ApR × Nat × Int × Nat
  args g := [(vS 0 0 g.2.1 g.1).2, .int .u64 g.2.2.1, .int .i64 g.2.2.2]
  hp g := [vH 0 .u8 g.1]
  pre g := g.1.fits g.2.1 ((g.1.L.drop g.1.off).take g.2.1) ∧ g.2.1 ≤ 1099511627776 ∧ g.2.2.2 ≤ 8
  R _ := ApR
  post g r := r.fits (g.2.1 + g.2.2.2) ((g.1.L.drop g.1.off).take g.2.1 ++ putL g.2.2.1 g.2.2.2 g.2.2.2)
  res g r := (vS 0 100 (g.2.1 + g.2.2.2) r).2
  new _ r := [vH 100 .u8 r]
  upd g _ := [(0, g.1.b, .void)]
  news := [100]
  wr := true
  mt vs h := match vs with
    | [x, .c (.v (.int _ v)), .c (.v (.int _ k))] => match gsOf h x with
      | some (g, t) => some ((⟨g.b.o, g.off, g.c, g.m, g.z, g.y, g.B⟩, g.n, v, k.toNat), [t])
      | none => none
    | _ => none
def inv37 (g : ApR) (n : Nat) (x : Int) (k : Nat) : Inv where
  G := ApR × Nat
  pre y := y.1.fits (n + y.2) ((g.L.drop g.off).take n ++ putL x k y.2) ∧ y.2 ≤ k
  sl y := [vS 0 0 (n + y.2) y.1, (1, .int .u64 x), (7, .int .i64 ((k : Int) - 1 - (y.2 : Int)))]
  hp y := [vH 0 .u8 y.1]
  mu y := k - y.2
def nt37 : Notes := ⟨fun _ => none, fun _ => none, fun _ => none, [0, 1, 2, 6, 7, 11]⟩

set_option maxHeartbeats 4000000 in
theorem fn37 : FnOk Try.prog 37 sp37 := by
  refine fnOk_of_vc cx37_ok wide (nt := fun _ => nt37) Try.func37 rfl rfl (by kernel_rfl) (fuel := 1000) (fun _ => Nat.le_of_ble_eq_true rfl) (fun _ _ t h => h) (fun _ g _ t => Iff.rfl) ?_
  rintro ⟨g, n, x, k⟩ ⟨hok, hn, hk⟩
  have hn : n ≤ 1099511627776 := hn
  have hk : k ≤ 8 := hk
  obtain ⟨g1, g2, g3, g4, _⟩ := hok
  refine And.intro (by omega) ?_
  refine ⟨inv37 g n x k, ⟨(g, 0), [0], rfl, rfl, ?_, ?_, ?_, trivial⟩, ?_⟩
  · refine Eq.mpr (β := ({ o := g.b, ro := false : Blk } = { o := g.b, ro := false : Blk } ∧ g.off = g.off ∧ n = n + 0 ∧ g.cap = g.cap ∧ g.z = g.z) ∧ Value.int IntKind.u64 x = Value.int IntKind.u64 x ∧ Value.int IntKind.i64 ((↑k : Int) - 1) = Value.int IntKind.i64 ((↑k : Int) - 1 - (↑0 : Int)) ∧ True) (by kernel_rfl) (And.intro (And.intro (rfl) (And.intro (rfl) (And.intro (by omega) (And.intro (rfl) (rfl))))) (And.intro (rfl) (And.intro (intE (by omega)) (trivial))))
  · refine Eq.mpr (β := ({ o := g.b, ro := false : Blk } = { o := g.b, ro := false : Blk } ∧ g.y = g.y ∧ (IntKind.u8 = IntKind.u8 ∧ g.m = g.m ∧ g.L = g.L) ∧ True) ∧ True) (by kernel_rfl) (And.intro (And.intro (rfl) (And.intro (rfl) (And.intro (And.intro (rfl) (And.intro (rfl) (rfl))) (trivial)))) (trivial))
  · exact ⟨⟨g1, g2, g3, g4, by rw [putL_zero, List.append_nil]; rfl⟩, Nat.zero_le _⟩
  rintro ⟨r, j⟩ ⟨hr, hj⟩
  have hj : j ≤ k := hj
  obtain ⟨b1, b2, b3, b4, b5⟩ := hr
  have b1 : r.off + r.cap ≤ r.m := b1
  have b2 : n + j ≤ r.cap := b2
  have b3 : r.z = 0 ∨ r.cap = 0 := b3
  have b4 : r.L.length = r.m := b4
  refine ⟨fun h => ?_, fun h => ?_⟩
  · have h : (0 : Int) ≤ (k : Int) - 1 - (j : Int) := of_decide_eq_true h
    refine And.intro (by omega) ?_
    refine And.intro (by omega) ?_
    intro bb _
    refine And.intro (And.intro (And.intro (And.intro (rfl) (And.intro (rfl) (And.intro (by omega) (And.intro (by omega) (by omega))))) (And.intro (rfl) (And.intro (by omega) (by omega)))) (by omega)) ?_
    intro r2 hr2
    replace hr2 : ApR.fits r2 (n + j + 1) (List.take (n + j) (List.drop r.off r.L) ++ List.take 1 (List.drop 0 [IntKind.wrap IntKind.u8 (ishr IntKind.u64 x (8 * ((↑k : Int) - 1 - (↑j : Int))))])) := Eq.mp (by kernel_rfl) hr2
    refine And.intro (by omega) ?_
    refine ⟨(r2, j + 1), [1021], rfl, rfl, ?_, ?_, ?_, ?_⟩
    · refine Eq.mpr (β := ({ o := r2.b, ro := false : Blk } = { o := r2.b, ro := false : Blk } ∧ r2.off = r2.off ∧ n + j + 1 = n + (j + 1) ∧ r2.cap = r2.cap ∧ r2.z = r2.z) ∧ Value.int IntKind.u64 x = Value.int IntKind.u64 x ∧ Value.int IntKind.i64 ((↑k : Int) - 1 - (↑j : Int) - 1) = Value.int IntKind.i64 ((↑k : Int) - 1 - (↑(j + 1) : Int)) ∧ True) (by kernel_rfl) (And.intro (And.intro (rfl) (And.intro (rfl) (And.intro (by omega) (And.intro (rfl) (rfl))))) (And.intro (rfl) (And.intro (intE (by omega)) (trivial))))
    · refine Eq.mpr (β := ({ o := r2.b, ro := false : Blk } = { o := r2.b, ro := false : Blk } ∧ r2.y = r2.y ∧ (IntKind.u8 = IntKind.u8 ∧ r2.m = r2.m ∧ r2.L = r2.L) ∧ True) ∧ True) (by kernel_rfl) (And.intro (And.intro (rfl) (And.intro (rfl) (And.intro (And.intro (rfl) (And.intro (rfl) (rfl))) (trivial)))) (trivial))
    · refine ⟨fits_of hr2 (by omega) (by rw [b5, putL_succ]; simp), ?_⟩
      show j + 1 ≤ k
      omega
    · show k - (j + 1) < k - j
      omega
  have hje : j = k := by
    have h : ¬ ((0 : Int) ≤ (k : Int) - 1 - (j : Int)) := of_decide_eq_false h
    omega
  subst hje
  skip
  refine ⟨r, [0, 99999], ?_, rfl, rfl, ?_, ?_⟩
  · refine Eq.mpr (β := { o := r.b, ro := false : Blk } = { o := r.b, ro := false : Blk } ∧ r.off = r.off ∧ n + j = n + j ∧ r.cap = r.cap ∧ r.z = r.z) (by kernel_rfl) (And.intro (rfl) (And.intro (rfl) (And.intro (rfl) (And.intro (rfl) (rfl)))))
  · refine Eq.mpr (β := ({ o := r.b, ro := false : Blk } = { o := r.b, ro := false : Blk } ∧ r.y = r.y ∧ (IntKind.u8 = IntKind.u8 ∧ r.m = r.m ∧ r.L = r.L) ∧ True) ∧ True ∧ True) (by kernel_rfl) (And.intro (And.intro (rfl) (And.intro (rfl) (And.intro (And.intro (rfl) (And.intro (rfl) (rfl))) (trivial)))) (And.intro (trivial) (trivial)))
  · exact fits_of ⟨b1, b2, b3, b4, b5⟩ rfl rfl

end Go.Proofs.Ytpggklkofilmfaa
