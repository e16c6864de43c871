/- The laws of sums: what each comes to. -/
import Derived.Test.YtpggklkofilmfaaSha10
set_option linter.unusedSimpArgs false
set_option linter.unusedVariables false
namespace Go.Proofs.Ytpggklkofilmfaa
open Go Go.Ab
set_option maxRecDepth 100000

theorem wrap_i64_id {x : Int} (h : -9223372036854775808 ≤ x ∧ x < 9223372036854775808) : IntKind.i64.wrap x = x := by
  rw [IntKind.wrap_i64]
  omega
def conL : FuncId → Option Con
  | 13 => some spKnown.con
  | 14 => some spSum.con
  | 15 => some spSum.con
  | 16 => some spKey.con
  | 17 => some spKey.con
  | _ => none
theorem conL_ok : ∀ f c, conL f = some c → ConOk Try.prog f c := fun f c h => by
  unfold conL at h
  split at h
  · cases h; exact conOk_of_spec fn13
  · cases h; exact conOk_of_spec fn14
  · cases h; exact conOk_of_spec fn15
  · cases h; exact conOk_of_spec fn16
  · cases h; exact conOk_of_spec fn17
  · cases h
def cxL (n : Nat) : Cx := ⟨tab, conL, n, true⟩
theorem cxL_ok (n : Nat) : CxOk Try.prog (cxL n) := ⟨tab_ok, conL_ok⟩
/-- It tells true, whatever bytes. -/
def sp3 : FSpec where
  G := GS × Int
  args g := [g.1.arg 0, .int .u8 g.2]
  hp g := [g.1.ent 0 .u8]
  pre g := g.1.ok ∧ 0 ≤ g.2 ∧ g.2 ≤ 255
  R _ := Unit
  post _ _ := True
  res _ _ := .bool true
  new _ _ := []
  upd _ _ := []
  news := []
  wr := false
  mt _ _ := none
def nt3 : Notes := ⟨fun _ => none, fun _ => none, fun _ => none, [0, 1, 4, 5, 7, 10]⟩

set_option maxHeartbeats 4000000 in
theorem fn3 : FnOk Try.prog 3 sp3 := by
  refine fnOk_of_vc (cxL_ok 28) wide (nt := fun _ => nt3) Try.func3 rfl rfl (by kernel_rfl) (fuel := 1000) (fun _ => Nat.le_of_ble_eq_true rfl) (fun _ _ t h => h) (fun h => by cases h) ?_
  rintro ⟨g, x⟩ hpre
  obtain ⟨hok, hx⟩ := hpre
  have hx : 0 ≤ x ∧ x ≤ 255 := hx
  have hok : g.ok := hok
  obtain ⟨g1, g2, g3, g4⟩ := hok
  have hok : g.ok := hok
  have hwx : IntKind.i64.wrap x = x := wrap_i64_id (by omega)
  refine And.intro (by (refine And.intro (trivial) (And.intro (And.intro (trivial) (rfl)) (And.intro (rfl) (And.intro (rfl) (And.intro (rfl) (And.intro (rfl) (trivial)))))))) (fun _ _ => ?_)
  refine ⟨fun h => (by cases h), fun _ => ?_⟩
  refine ⟨fun h => ?_, fun h => ?_⟩
  · refine ⟨(), [0], ?_, rfl, rfl, ?_, trivial⟩
    · refine Eq.mpr (β := Value.bool true = Value.bool true) (by kernel_rfl) (rfl)
    · refine Eq.mpr (β := (g.b = g.b ∧ g.y = g.y ∧ (IntKind.u8 = IntKind.u8 ∧ g.m = g.m ∧ g.B = g.B) ∧ True) ∧ True) (by kernel_rfl) (And.intro (And.intro (rfl) (And.intro (rfl) (And.intro (And.intro (rfl) (And.intro (rfl) (rfl))) (trivial)))) (trivial))
  have h : ¬ ((2000 : Int) < (g.n : Int)) := of_decide_eq_false h
  have hl : g.l.length = g.n := by unfold GS.l; simp; omega
  refine And.intro (And.intro (And.intro (And.intro (rfl) (rfl)) (And.intro (rfl) (And.intro (Eq.mpr (β := g.off + g.n ≤ g.m) (by kernel_rfl) (by omega)) (Eq.mpr (β := g.z = 0 ∨ g.n = 0) (by kernel_rfl) (by omega))))) (Eq.mpr (β := (0 + g.n) * 1 ≤ 70368744177664) (by kernel_rfl) (by omega))) ?_
  intro r1 hr1
  replace hr1 : ApR.fits r1 (0 + g.n) ([] ++ List.take g.n (List.drop g.off g.B)) := Eq.mp (by kernel_rfl) hr1
  obtain ⟨a1, a2, a3, a4, a5⟩ := hr1
  refine And.intro (by (refine Eq.mpr (β := (({ o := r1.b, ro := false : Blk } = { o := r1.b, ro := false : Blk } ∧ false = false ∧ r1.off + r1.cap ≤ r1.m ∧ 0 + g.n ≤ r1.cap ∧ (r1.z = 0 ∨ r1.cap = 0)) ∧ 0 ≤ IntKind.wrap IntKind.i64 x ∧ IntKind.wrap IntKind.i64 x ≤ 70368744177664) ∧ (0 + g.n + Int.toNat (IntKind.wrap IntKind.i64 x)) * 1 ≤ 70368744177664) (by kernel_rfl) ?_); rw [hwx]; exact ⟨⟨⟨rfl, rfl, by omega⟩, by omega⟩, by omega⟩) ?_
  intro r2 hr2
  replace hr2 : ApR.fits r2 (0 + g.n + Int.toNat (IntKind.wrap IntKind.i64 x)) (List.take (0 + g.n) (List.drop r1.off r1.L) ++ List.replicate (Int.toNat (IntKind.wrap IntKind.i64 x)) 0) := Eq.mp (by kernel_rfl) hr2
  obtain ⟨c1, c2, c3, c4, c5⟩ := hr2
  refine And.intro (by (refine And.intro (And.intro (And.intro (rfl) (And.intro (rfl) (And.intro (rfl) (And.intro (rfl) (rfl))))) (trivial)) (And.intro (And.intro (And.intro (And.intro (rfl) (And.intro (rfl) (And.intro (And.intro (rfl) (And.intro (rfl) (rfl))) (trivial)))) (trivial)) (rfl)) (And.intro (rfl) (And.intro (rfl) (And.intro (rfl) (And.intro (rfl) (And.intro (?_) (?_)))))))); exact hok; show g.n ≤ 1099511627776; omega) (fun _ _ => ?_)
  refine And.intro (by (refine And.intro (And.intro (And.intro (rfl) (And.intro (rfl) (And.intro (rfl) (And.intro (rfl) (rfl))))) (trivial)) (And.intro (And.intro (And.intro (And.intro (rfl) (And.intro (rfl) (And.intro (And.intro (rfl) (And.intro (rfl) (rfl))) (trivial)))) (trivial)) (rfl)) (And.intro (rfl) (And.intro (rfl) (And.intro (rfl) (And.intro (rfl) (And.intro (?_) (?_)))))))); exact hok; show g.n ≤ 1099511627776; omega) (fun _ _ => ?_)
  refine ⟨fun _ => ?_, fun hp => absurd (hp.symm.trans (show _ = true from decide_eq_true rfl)) Bool.false_ne_true⟩
  refine ⟨fun _ => ?_, fun hp => by cases hp⟩
  refine And.intro (by (refine And.intro (And.intro (And.intro (rfl) (And.intro (rfl) (And.intro (rfl) (And.intro (rfl) (rfl))))) (trivial)) (And.intro (And.intro (And.intro (And.intro (rfl) (And.intro (rfl) (And.intro (And.intro (rfl) (And.intro (rfl) (rfl))) (trivial)))) (trivial)) (rfl)) (And.intro (rfl) (And.intro (rfl) (And.intro (rfl) (And.intro (rfl) (And.intro (?_) (?_)))))))); exact ⟨c1, c2, c3, c4⟩; show 0 + g.n + (IntKind.i64.wrap x).toNat ≤ 1099511627776; rw [hwx]; omega) (fun _ _ => ?_)
  refine ⟨fun _ => ?_, fun hp => by cases hp⟩
  refine ⟨fun _ => ?_, fun hp => by cases hp⟩
  refine And.intro (by (refine And.intro (And.intro (And.intro (rfl) (And.intro (rfl) (And.intro (rfl) (And.intro (rfl) (rfl))))) (trivial)) (And.intro (And.intro (And.intro (And.intro (rfl) (And.intro (rfl) (And.intro (And.intro (rfl) (And.intro (rfl) (rfl))) (trivial)))) (trivial)) (rfl)) (And.intro (rfl) (And.intro (rfl) (And.intro (rfl) (And.intro (rfl) (And.intro (?_) (?_)))))))); exact ⟨c1, c2, c3, c4⟩; show 0 + g.n + (IntKind.i64.wrap x).toNat ≤ 1099511627776; rw [hwx]; omega) (fun _ _ => ?_)
  refine ⟨fun _ => ?_, fun hp => by cases hp⟩
  refine ⟨(), [0], ?_, rfl, rfl, ?_, trivial⟩
  · exact boolE (decide_eq_true rfl)
  · refine Eq.mpr (β := (g.b = g.b ∧ g.y = g.y ∧ (IntKind.u8 = IntKind.u8 ∧ g.m = g.m ∧ g.B = g.B) ∧ True) ∧ True) (by kernel_rfl) (And.intro (And.intro (rfl) (And.intro (rfl) (And.intro (And.intro (rfl) (And.intro (rfl) (rfl))) (trivial)))) (trivial))

end Go.Proofs.Ytpggklkofilmfaa
