/- The law of sectors. -/
import Derived.Test.YtpggklkofilmfaaFrag16
import Derived.Test.YtpggklkofilmfaaAbLem
set_option linter.unusedSimpArgs false
set_option linter.unusedVariables false
namespace Go.Proofs.Ytpggklkofilmfaa
open Go Go.Ab
set_option maxRecDepth 100000

def con10 : FuncId → Option Con
  | 18 => some spKnown.con
  | 30 => some spSec.con
  | 31 => some spSec.con
  | _ => none
def cx10 : Cx := ⟨tab, con10, 44, true⟩
theorem cx10_ok : CxOk Try.prog cx10 := ⟨tab_ok, fun f c h => by
  unfold cx10 con10 at h
  dsimp only at h
  split at h
  · cases h; exact conOk_of_spec fn18
  · cases h; exact conOk_of_spec fn30
  · cases h; exact conOk_of_spec fn31
  · cases h⟩
def sp10 : FSpec where
  G := Int × Int
  args g := [.int .i64 g.1, .int .i64 g.2]
  hp _ := []
  pre g := (-9223372036854775808 ≤ g.1 ∧ g.1 ≤ 9223372036854775807) ∧ -9223372036854775808 ≤ g.2 ∧ g.2 ≤ 9223372036854775807
  R _ := Unit
  post _ _ := True
  res _ _ := .bool true
  new _ _ := []
  upd _ _ := []
  news := []
  wr := false
  mt _ _ := none
def inv10 (p s : Int) : Inv where
  G := Unit
  pre _ := True
  sl _ := [(0, .int .i64 p), (1, .int .i64 s), (5, .int .i64 (secN p s)), (6, .int .i64 ((secX p : Int) - 89)), (7, .int .i64 (secS s))]
  hp _ := []
  mu _ := 0
def nt10 : Notes := ⟨fun _ => none, fun | 7 => some none | _ => none, fun _ => none, [0, 1, 4, 5, 6, 7, 9, 14]⟩
set_option maxHeartbeats 8000000 in
theorem fn10 : FnOk Try.prog 10 sp10 := by
  refine fnOk_of_vc cx10_ok wide (nt := fun _ => nt10) Try.func10 rfl rfl (by kernel_rfl) (fuel := 1000) (fun _ => Nat.le_of_ble_eq_true rfl) (fun _ _ t h => h) (fun h => by cases h) ?_
  rintro ⟨p, s⟩ ⟨hp, hs⟩
  have hp : -9223372036854775808 ≤ p ∧ p ≤ 9223372036854775807 := hp
  have hs : -9223372036854775808 ≤ s ∧ s ≤ 9223372036854775807 := hs
  have hX := secX_le p
  have hS := secS_le hs.2
  have hx := secX_eq p
  have hN : secN p s * secS s ≤ secX p + secS s - 1 ∧ secX p ≤ secN p s * secS s := by
    unfold secN
    have h1 := Nat.div_add_mod (secX p + secS s - 1) (secS s)
    have h2 := Nat.mod_lt (secX p + secS s - 1) (show 0 < secS s by omega)
    rw [Nat.mul_comm] at h1
    omega
  refine And.intro (And.intro (trivial) (And.intro (And.intro (trivial) (rfl)) (And.intro (rfl) (And.intro (rfl) (And.intro (rfl) (And.intro (rfl) (trivial))))))) (fun (_ : Unit) _ => ?_)
  refine And.intro (fun h => by cases h) (fun _ => ?_)
  refine And.intro (And.intro (And.intro (rfl) (And.intro (rfl) (trivial))) (And.intro (And.intro (trivial) (rfl)) (And.intro (rfl) (And.intro (rfl) (And.intro (rfl) (And.intro (rfl) (And.intro (And.intro (by omega) (by omega)) (And.intro (by omega) (by omega))))))))) (fun (_ : Unit) _ => ?_)
  refine stE ([(12, SV.int .i64 (↑(secN p s) : Int)), (11, SV.int .i64 s), (10, SV.int .i64 p), (9, SV.bool !true), (4, SV.bool false), (0, SV.int .i64 p), (1, SV.int .i64 s)]) ([]) (by kernel_rfl) (by kernel_rfl) ?_
  refine ⟨fun h => ?_, fun h => ?_⟩
  · have h : (1073741824 : Int) < s := of_decide_eq_true h
    skip
    refine ⟨(), [], ?_, rfl, rfl, trivial, trivial⟩
    refine boolE (decide_eq_true ?_)
    have : secS s = s.toNat := if_neg (by omega)
    have h1 : secN p s = 1 := by
      unfold secN
      rw [this, Nat.div_eq_of_lt_le] <;> omega
    rw [h1]; rfl
  have h : ¬ (1073741824 : Int) < s := of_decide_eq_false h
  refine ⟨inv10 p s, ?_, ?_⟩
  · refine ⟨(), [], rfl, rfl, ?_, ?_, trivial, trivial⟩
    · refine Eq.mpr (β := Value.int IntKind.i64 p = Value.int IntKind.i64 p ∧ Value.int IntKind.i64 s = Value.int IntKind.i64 s ∧ Value.int IntKind.i64 (↑(secN p s) : Int) = Value.int IntKind.i64 (↑(secN p s) : Int) ∧ Value.int IntKind.i64 (if 4096 < if p < 0 then 0 else p then 4096 else if p < 0 then 0 else p) = Value.int IntKind.i64 ((↑(secX p) : Int) - 89) ∧ Value.int IntKind.i64 (if s < 64 then 64 else s) = Value.int IntKind.i64 (↑(secS s) : Int) ∧ True) (by kernel_rfl) (And.intro (rfl) (And.intro (rfl) (And.intro (rfl) (And.intro (intE (by omega)) (And.intro (?_) (trivial))))))
      exact intE (secS_eq s)
    · refine Eq.mpr (β := True) (by kernel_rfl) (trivial)
  rintro ⟨⟩ _
  have hNI : (secN p s : Int) * (secS s : Int) ≤ secX p + secS s - 1 ∧ (secX p : Int) ≤ (secN p s : Int) * (secS s : Int) := by
    have e : ((secN p s * secS s : Nat) : Int) = (secN p s : Int) * (secS s : Int) := Int.natCast_mul _ _
    omega
  have hN1 : ((secN p s : Int) - 1) * (secS s : Int) = (secN p s : Int) * (secS s : Int) - secS s := by
    rw [Int.sub_mul, Int.one_mul]
  have hSs : (secS s : Int) ≤ 1073741824 := by
    rw [← secS_eq]
    split <;> omega
  have hNl : (secN p s : Int) ≤ 70000000 := by
    have : secN p s * 64 ≤ secN p s * secS s := Nat.mul_le_mul (Nat.le_refl _) hS.1
    omega
  refine And.intro (And.intro (And.intro (rfl) (And.intro (rfl) (trivial))) (And.intro (And.intro (trivial) (rfl)) (And.intro (rfl) (And.intro (rfl) (And.intro (rfl) (And.intro (rfl) (And.intro (And.intro (by omega) (by omega)) (And.intro (by omega) (by omega))))))))) (fun (_ : Unit) _ => ?_)
  refine stE ([(25, SV.int .i64 (↑(secN p s) : Int)), (24, SV.int .i64 s), (23, SV.int .i64 p), (22, SV.int .i64 (↑(secN p s) : Int)), (0, SV.int .i64 p), (1, SV.int .i64 s), (5, SV.int .i64 (↑(secN p s) : Int)), (6, SV.int .i64 ((↑(secX p) : Int) - 89)), (7, SV.int .i64 (↑(secS s) : Int))]) ([]) (by kernel_rfl) (by kernel_rfl) ?_
  refine ⟨fun _ => ?_, fun hp => Bool.noConfusion (Eq.trans (Eq.symm (decide_eq_true rfl : decide (((secN p s : Nat) : Int) = (secN p s : Int)) = true)) hp)⟩
  refine And.intro (fun _ => ?_) (fun hp => by cases hp)
  refine And.intro (fun _ => ?_) (fun hp => by cases hp)
  refine And.intro (by omega) ?_
  refine And.intro (fun _ => ?_) (fun hp => by cases hp)
  refine stepE (v := (SV.int .i64 ((↑(secX p) : Int) - 89))) (by kernel_rfl) ?_
  refine stE ([(31, SV.int .i64 ((↑(secX p) : Int) - 89)), (27, SV.bool true), (30, SV.int .i64 ((↑(secN p s) : Int) * (↑(secS s) : Int))), (27, SV.bool true), (29, SV.int .i64 (↑(secS s) : Int)), (27, SV.bool true), (28, SV.int .i64 (↑(secN p s) : Int)), (27, SV.bool true), (27, SV.bool (decide ((↑(secN p s) : Int) = (↑(secN p s) : Int)))), (26, SV.bool (decide ((↑(secN p s) : Int) = (↑(secN p s) : Int)))), (25, SV.int .i64 (↑(secN p s) : Int)), (24, SV.int .i64 s), (23, SV.int .i64 p), (22, SV.int .i64 (↑(secN p s) : Int)), (0, SV.int .i64 p), (1, SV.int .i64 s), (5, SV.int .i64 (↑(secN p s) : Int)), (6, SV.int .i64 ((↑(secX p) : Int) - 89)), (7, SV.int .i64 (↑(secS s) : Int))]) ([]) (by kernel_rfl) (by kernel_rfl) ?_
  refine And.intro (fun _ => ?_) (fun hp => by cases hp)
  refine And.intro (by omega) ?_
  refine And.intro (fun _ => ?_) (fun hp => by cases hp)
  refine stepE (v := (SV.bool (decide (89 + ((↑(secX p) : Int) - 89) ≤ (↑(secN p s) : Int) * (↑(secS s) : Int))))) (by kernel_rfl) ?_
  refine stE ([(33, SV.bool (decide (89 + ((↑(secX p) : Int) - 89) ≤ (↑(secN p s) : Int) * (↑(secS s) : Int)))), (27, SV.bool true), (32, SV.int .i64 (89 + ((↑(secX p) : Int) - 89))), (27, SV.bool true), (31, SV.int .i64 ((↑(secX p) : Int) - 89)), (27, SV.bool true), (30, SV.int .i64 ((↑(secN p s) : Int) * (↑(secS s) : Int))), (27, SV.bool true), (29, SV.int .i64 (↑(secS s) : Int)), (27, SV.bool true), (28, SV.int .i64 (↑(secN p s) : Int)), (27, SV.bool true), (27, SV.bool (decide ((↑(secN p s) : Int) = (↑(secN p s) : Int)))), (26, SV.bool (decide ((↑(secN p s) : Int) = (↑(secN p s) : Int)))), (25, SV.int .i64 (↑(secN p s) : Int)), (24, SV.int .i64 s), (23, SV.int .i64 p), (22, SV.int .i64 (↑(secN p s) : Int)), (0, SV.int .i64 p), (1, SV.int .i64 s), (5, SV.int .i64 (↑(secN p s) : Int)), (6, SV.int .i64 ((↑(secX p) : Int) - 89)), (7, SV.int .i64 (↑(secS s) : Int))]) ([]) (by kernel_rfl) (by kernel_rfl) ?_
  have t1 : decide ((89 + ((secX p : Int) - 89)) ≤ (secN p s : Int) * (secS s : Int)) = true := decide_eq_true (by omega)
  refine ⟨fun _ => ?_, fun hp => Bool.noConfusion (Eq.trans (Eq.symm t1) hp)⟩
  refine And.intro (fun _ => ?_) (fun hp => by cases hp)
  refine And.intro (by omega) ?_
  refine And.intro (fun _ => ?_) (fun hp => by cases hp)
  refine And.intro (fun _ => ?_) (fun hp => by cases hp)
  refine And.intro (by omega) ?_
  refine stE ([(39, SV.int .i64 (((↑(secN p s) : Int) - 1) * (↑(secS s) : Int))), (35, SV.bool true), (38, SV.int .i64 (↑(secS s) : Int)), (35, SV.bool true), (37, SV.int .i64 ((↑(secN p s) : Int) - 1)), (35, SV.bool true), (36, SV.int .i64 (↑(secN p s) : Int)), (35, SV.bool true), (35, SV.bool (bif true then decide (89 + ((↑(secX p) : Int) - 89) ≤ (↑(secN p s) : Int) * (↑(secS s) : Int)) else false)), (34, SV.bool (bif true then decide (89 + ((↑(secX p) : Int) - 89) ≤ (↑(secN p s) : Int) * (↑(secS s) : Int)) else false)), (33, SV.bool (decide (89 + ((↑(secX p) : Int) - 89) ≤ (↑(secN p s) : Int) * (↑(secS s) : Int)))), (27, SV.bool true), (32, SV.int .i64 (89 + ((↑(secX p) : Int) - 89))), (27, SV.bool true), (31, SV.int .i64 ((↑(secX p) : Int) - 89)), (27, SV.bool true), (30, SV.int .i64 ((↑(secN p s) : Int) * (↑(secS s) : Int))), (27, SV.bool true), (29, SV.int .i64 (↑(secS s) : Int)), (27, SV.bool true), (28, SV.int .i64 (↑(secN p s) : Int)), (27, SV.bool true), (27, SV.bool (decide ((↑(secN p s) : Int) = (↑(secN p s) : Int)))), (26, SV.bool (decide ((↑(secN p s) : Int) = (↑(secN p s) : Int)))), (25, SV.int .i64 (↑(secN p s) : Int)), (24, SV.int .i64 s), (23, SV.int .i64 p), (22, SV.int .i64 (↑(secN p s) : Int)), (0, SV.int .i64 p), (1, SV.int .i64 s), (5, SV.int .i64 (↑(secN p s) : Int)), (6, SV.int .i64 ((↑(secX p) : Int) - 89)), (7, SV.int .i64 (↑(secS s) : Int))]) ([]) (by kernel_rfl) (by kernel_rfl) ?_
  refine And.intro (fun _ => ?_) (fun hp => by cases hp)
  refine And.intro (fun _ => ?_) (fun hp => by cases hp)
  refine And.intro (by omega) ?_
  refine And.intro (fun _ => ?_) (fun hp => by cases hp)
  refine stepE (v := (SV.bool (decide (((↑(secN p s) : Int) - 1) * (↑(secS s) : Int) < 89 + ((↑(secX p) : Int) - 89))))) (by kernel_rfl) ?_
  refine stE ([(42, SV.bool (decide (((↑(secN p s) : Int) - 1) * (↑(secS s) : Int) < 89 + ((↑(secX p) : Int) - 89)))), (35, SV.bool true), (41, SV.int .i64 (89 + ((↑(secX p) : Int) - 89))), (35, SV.bool true), (40, SV.int .i64 ((↑(secX p) : Int) - 89)), (35, SV.bool true), (39, SV.int .i64 (((↑(secN p s) : Int) - 1) * (↑(secS s) : Int))), (35, SV.bool true), (38, SV.int .i64 (↑(secS s) : Int)), (35, SV.bool true), (37, SV.int .i64 ((↑(secN p s) : Int) - 1)), (35, SV.bool true), (36, SV.int .i64 (↑(secN p s) : Int)), (35, SV.bool true), (35, SV.bool (bif true then decide (89 + ((↑(secX p) : Int) - 89) ≤ (↑(secN p s) : Int) * (↑(secS s) : Int)) else false)), (34, SV.bool (bif true then decide (89 + ((↑(secX p) : Int) - 89) ≤ (↑(secN p s) : Int) * (↑(secS s) : Int)) else false)), (33, SV.bool (decide (89 + ((↑(secX p) : Int) - 89) ≤ (↑(secN p s) : Int) * (↑(secS s) : Int)))), (27, SV.bool true), (32, SV.int .i64 (89 + ((↑(secX p) : Int) - 89))), (27, SV.bool true), (31, SV.int .i64 ((↑(secX p) : Int) - 89)), (27, SV.bool true), (30, SV.int .i64 ((↑(secN p s) : Int) * (↑(secS s) : Int))), (27, SV.bool true), (29, SV.int .i64 (↑(secS s) : Int)), (27, SV.bool true), (28, SV.int .i64 (↑(secN p s) : Int)), (27, SV.bool true), (27, SV.bool (decide ((↑(secN p s) : Int) = (↑(secN p s) : Int)))), (26, SV.bool (decide ((↑(secN p s) : Int) = (↑(secN p s) : Int)))), (25, SV.int .i64 (↑(secN p s) : Int)), (24, SV.int .i64 s), (23, SV.int .i64 p), (22, SV.int .i64 (↑(secN p s) : Int)), (0, SV.int .i64 p), (1, SV.int .i64 s), (5, SV.int .i64 (↑(secN p s) : Int)), (6, SV.int .i64 ((↑(secX p) : Int) - 89)), (7, SV.int .i64 (↑(secS s) : Int))]) ([]) (by kernel_rfl) (by kernel_rfl) ?_
  refine ⟨(), [], ?_, rfl, rfl, trivial, trivial⟩
  refine boolE ?_
  show decide (((secN p s : Int) - 1) * (secS s : Int) < 89 + ((secX p : Int) - 89)) = true
  exact decide_eq_true (by rw [hN1]; omega)

end Go.Proofs.Ytpggklkofilmfaa
