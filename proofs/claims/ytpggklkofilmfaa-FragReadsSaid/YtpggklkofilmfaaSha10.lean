/- The known sums. -/
import Derived.Test.YtpggklkofilmfaaSha9
set_option linter.unusedSimpArgs false
set_option linter.unusedVariables false
namespace Go.Proofs.Ytpggklkofilmfaa
open Go Go.Ab
set_option maxRecDepth 100000

theorem kn1 : (sumL [97, 98, 99] 3).getD 0 0 = 186 := by kernel_rfl
theorem kn2 : (sumL [97, 98, 99] 3).getD 31 0 = 173 := by kernel_rfl
def kn3L : List Int := [0, 0, 0, 1, 97, 0, 0, 0, 1, 98]
def kn4L : List Int := [0, 0, 0, 2, 97, 98]
theorem kn34 : (sumL kn3L 10).getD 0 0 ≠ (sumL kn4L 6).getD 0 0 := by
  have h : decide ((sumL kn3L 10).getD 0 0 = (sumL kn4L 6).getD 0 0) = false := by kernel_rfl
  exact of_decide_eq_false h

def con13 : FuncId → Option Con
  | 14 => some spSum.con
  | 16 => some spKey.con
  | _ => none
def cx13 : Cx := ⟨tab, con13, 20, true⟩
theorem cx13_ok : CxOk Try.prog cx13 := ⟨tab_ok, fun f c h => by
  unfold cx13 con13 at h
  dsimp only at h
  split at h
  · cases h; exact conOk_of_spec fn14
  · cases h; exact conOk_of_spec fn16
  · cases h⟩
def spKnown : FSpec where
  G := Unit
  args _ := []
  hp _ := []
  pre _ := True
  R _ := Unit
  post _ _ := True
  res _ _ := .bool true
  new _ _ := []
  upd _ _ := []
  news := []
  wr := false
  mt vs _ := match vs with
    | [] => some ((), [])
    | _ => none
def nt13 : Notes := ⟨fun _ => none, fun _ => none, fun _ => none, [0, 1]⟩

set_option maxHeartbeats 4000000 in
theorem fn13 : FnOk Try.prog 13 spKnown := by
  refine fnOk_of_vc cx13_ok wide (nt := fun _ => nt13) Try.func13 rfl rfl (by kernel_rfl) (fuel := 1000) (fun _ => Nat.le_of_ble_eq_true rfl) (fun _ _ t h => h) (fun h => by cases h) ?_
  rintro ⟨⟩ hpre
  intro b1 hb1
  refine And.intro ⟨rfl, rfl, rfl, hb1⟩ ?_
  refine And.intro (by (refine And.intro (And.intro (And.intro (rfl) (And.intro (rfl) (And.intro (rfl) (And.intro (rfl) (rfl))))) (trivial)) (And.intro (And.intro (And.intro (And.intro (rfl) (And.intro (rfl) (And.intro (And.intro (rfl) (And.intro (rfl) (rfl))) (trivial)))) (trivial)) (rfl)) (And.intro (rfl) (And.intro (rfl) (And.intro (rfl) (And.intro (rfl) (And.intro (?_) (?_)))))))); exact ⟨Nat.le_refl _, Nat.le_refl _, .inl rfl, rfl⟩; exact Nat.le_of_ble_eq_true rfl) (fun _ _ => ?_)
  intro b2 _
  refine And.intro ⟨⟨rfl, rfl⟩, by omega⟩ ?_
  refine And.intro (by omega) ?_
  refine And.intro ⟨rfl, by omega⟩ ?_
  refine ⟨fun hp => ?_, fun hp => absurd (hp.symm.trans (show _ = true by kernel_rfl)) Bool.false_ne_true⟩
  clear hp
  refine And.intro (by omega) ?_
  refine ⟨fun _ => ?_, fun h => by cases h⟩
  refine And.intro ⟨rfl, by omega⟩ ?_
  refine ⟨fun _ => ?_, fun h => by cases h⟩
  skip
  refine ⟨fun hp => ?_, fun hp => absurd (hp.symm.trans (show _ = true by kernel_rfl)) Bool.false_ne_true⟩
  intro b3 _
  refine ⟨fun _ => ?_, fun h => by cases h⟩
  refine And.intro (by (refine And.intro (And.intro (And.intro (rfl) (And.intro (rfl) (And.intro (rfl) (And.intro (rfl) (rfl))))) (trivial)) (And.intro (And.intro (And.intro (And.intro (rfl) (And.intro (rfl) (And.intro (And.intro (rfl) (rfl)) (trivial)))) (trivial)) (rfl)) (And.intro (rfl) (And.intro (rfl) (And.intro (rfl) (And.intro (rfl) (And.intro (?_) (And.intro (?_) (?_))))))))); exact ⟨Nat.le_refl _, Nat.le_refl _, .inl rfl, rfl⟩; exact Nat.le_of_ble_eq_true rfl; exact Nat.le_of_ble_eq_true (by kernel_rfl)) (fun _ _ => ?_)
  refine ⟨fun _ => ?_, fun h => by cases h⟩
  intro b4 _
  refine ⟨fun _ => ?_, fun h => by cases h⟩
  refine And.intro (by (refine And.intro (And.intro (And.intro (rfl) (And.intro (rfl) (And.intro (rfl) (And.intro (rfl) (rfl))))) (trivial)) (And.intro (And.intro (And.intro (And.intro (rfl) (And.intro (rfl) (And.intro (And.intro (rfl) (rfl)) (trivial)))) (trivial)) (rfl)) (And.intro (rfl) (And.intro (rfl) (And.intro (rfl) (And.intro (rfl) (And.intro (?_) (And.intro (?_) (?_))))))))); exact ⟨Nat.le_refl _, Nat.le_refl _, .inl rfl, rfl⟩; exact Nat.le_of_ble_eq_true rfl; exact Nat.le_of_ble_eq_true (by kernel_rfl)) (fun _ _ => ?_)
  refine ⟨fun _ => ?_, fun h => by cases h⟩
  skip
  refine ⟨(), [], ?_, rfl, rfl, ?_, trivial⟩
  · exact boolE (by kernel_rfl)
  · trivial

end Go.Proofs.Ytpggklkofilmfaa
