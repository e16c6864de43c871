/- The laws of keys, of sums again. -/
import Derived.Test.YtpggklkofilmfaaSha12
import Derived.Test.YtpggklkofilmfaaAbLem
set_option linter.unusedSimpArgs false
set_option linter.unusedVariables false
namespace Go.Proofs.Ytpggklkofilmfaa
open Go Go.Ab
set_option maxRecDepth 100000

/-! ### ShaKeys -/
theorem keyL_le (m : Nat) : ∀ l : List ByteArray, (∀ t ∈ l, t.size ≤ m) → (keyL l).length ≤ l.length * (m + 4)
  | [], _ => by simp [keyL]
  | t :: r, h => by
    have h1 := h t (by simp)
    have h2 := keyL_le m r (fun t ht => h t (by simp [ht]))
    have h3 : (keyL (t :: r)).length = 4 + t.size + (keyL r).length := by
      simp [keyL, lenB_len, strInts_length, Nat.add_assoc]
    rw [h3, List.length_cons, Nat.succ_mul]
    omega
def sp4 : FSpec where
  G := GT
  args g := [g.arg 0]
  hp g := [g.ent 0]
  pre g := g.ok
  R _ := Unit
  post _ _ := True
  res _ _ := .bool true
  new _ _ := []
  upd _ _ := []
  news := []
  wr := false
  mt _ _ := none
def nt4 : Notes := ⟨fun _ => none, fun _ => none, fun _ => none, [0, 2, 3, 5, 8, 12, 20]⟩
def inv4 (g : GT) : Inv where
  G := Nat
  pre i := i ≤ g.n ∧ ∀ j, j < i → (g.B.getD (g.off + j) ByteArray.empty).size ≤ 300
  sl i := [(0, g.arg 0), (3, .int .i64 i)]
  hp _ := [g.ent 0]
  mu i := g.n - i

set_option maxHeartbeats 4000000 in
theorem fn4 : FnOk Try.prog 4 sp4 := by
  refine fnOk_of_vc (cxL_ok 26) wide (nt := fun _ => nt4) Try.func4 rfl rfl (by kernel_rfl) (fuel := 1000) (fun _ => Nat.le_of_ble_eq_true rfl) (fun _ _ t h => h) (fun h => by cases h) ?_
  intro (g : GT) hok
  have hok : g.ok := hok
  obtain ⟨g1, g2, g3, g4⟩ := hok
  have hok : g.ok := hok
  refine And.intro (by (refine And.intro (trivial) (And.intro (And.intro (trivial) (rfl)) (And.intro (rfl) (And.intro (rfl) (And.intro (rfl) (And.intro (rfl) (trivial)))))))) (fun _ _ => ?_)
  refine ⟨fun h => (by cases h), fun _ => ?_⟩
  refine ⟨fun h => ?_, fun h => ?_⟩
  · refine ⟨(), [0], ?_, rfl, rfl, ?_, trivial⟩
    · refine Eq.mpr (β := Value.bool true = Value.bool true) (by kernel_rfl) (rfl)
    · refine Eq.mpr (β := (g.b = g.b ∧ g.y = g.y ∧ (g.m = g.m ∧ g.B = g.B) ∧ True) ∧ True) (by kernel_rfl) (And.intro (And.intro (rfl) (And.intro (rfl) (And.intro (And.intro (rfl) (rfl)) (trivial)))) (trivial))
  have h20 : ¬ ((20 : Int) < (g.n : Int)) := of_decide_eq_false h
  have hll : g.l.length = g.n := by unfold GT.l; simp; omega
  refine ⟨inv4 g, ⟨(0 : Nat), [0], rfl, rfl, ?_, ?_, ?_, trivial⟩, ?_⟩
  · refine Eq.mpr (β := (g.b = g.b ∧ g.off = g.off ∧ g.n = g.n ∧ g.c = g.c ∧ g.z = g.z) ∧ Value.int IntKind.i64 0 = Value.int IntKind.i64 (↑0 : Int) ∧ True) (by kernel_rfl) (And.intro (And.intro (rfl) (And.intro (rfl) (And.intro (rfl) (And.intro (rfl) (rfl))))) (And.intro (intE (by omega)) (trivial)))
  · refine Eq.mpr (β := (g.b = g.b ∧ g.y = g.y ∧ (g.m = g.m ∧ g.B = g.B) ∧ True) ∧ True) (by kernel_rfl) (And.intro (And.intro (rfl) (And.intro (rfl) (And.intro (And.intro (rfl) (rfl)) (trivial)))) (trivial))
  · exact ⟨Nat.zero_le _, fun j hj => absurd hj (Nat.not_lt_zero _)⟩
  intro (i : Nat) hi
  have hi1 : i ≤ g.n := hi.1
  have hi2 : ∀ j, j < i → (g.B.getD (g.off + j) ByteArray.empty).size ≤ 300 := hi.2
  refine ⟨fun hlt => ?_, fun hge => ?_⟩
  · have hlt : (i : Int) < (g.n : Int) := of_decide_eq_true hlt
    refine And.intro (by omega) ?_
    refine And.intro ⟨rfl, by omega⟩ ?_
    refine ⟨fun h => ?_, fun h => ?_⟩
    · refine ⟨(), [0], ?_, rfl, rfl, ?_, trivial⟩
      · refine Eq.mpr (β := Value.bool true = Value.bool true) (by kernel_rfl) (rfl)
      · refine Eq.mpr (β := (g.b = g.b ∧ g.y = g.y ∧ (g.m = g.m ∧ g.B = g.B) ∧ True) ∧ True) (by kernel_rfl) (And.intro (And.intro (rfl) (And.intro (rfl) (And.intro (And.intro (rfl) (rfl)) (trivial)))) (trivial))
    · have h : ¬ ((300 : Int) < ((g.B.getD (g.off + (i : Int).toNat * 1) ByteArray.empty).size : Int)) := of_decide_eq_false h
      rw [show g.off + (i : Int).toNat * 1 = g.off + i by omega] at h
      refine And.intro (by omega) ?_
      refine ⟨(i + 1 : Nat), [0], rfl, rfl, ?_, ?_, ?_, ?_⟩
      · refine Eq.mpr (β := (g.b = g.b ∧ g.off = g.off ∧ g.n = g.n ∧ g.c = g.c ∧ g.z = g.z) ∧ Value.int IntKind.i64 ((↑i : Int) + 1) = Value.int IntKind.i64 (↑(i + 1) : Int) ∧ True) (by kernel_rfl) (And.intro (And.intro (rfl) (And.intro (rfl) (And.intro (rfl) (And.intro (rfl) (rfl))))) (And.intro (intE (by omega)) (trivial)))
      · refine Eq.mpr (β := (g.b = g.b ∧ g.y = g.y ∧ (g.m = g.m ∧ g.B = g.B) ∧ True) ∧ True) (by kernel_rfl) (And.intro (And.intro (rfl) (And.intro (rfl) (And.intro (And.intro (rfl) (rfl)) (trivial)))) (trivial))
      · refine ⟨by show i + 1 ≤ g.n; omega, fun j hj => ?_⟩
        by_cases e : j = i
        · subst e; omega
        · exact hi2 j (by have : j < i + 1 := hj; omega)
      · show g.n - (i + 1) < g.n - i
        omega
  have hin : i = g.n := by
    have : ¬((i : Int) < (g.n : Int)) := of_decide_eq_false hge
    omega
  subst hin
  have hkl : (keyL g.l).length ≤ 1099511627776 := by
    have h1 := keyL_le 300 g.l (fun t ht => by
      obtain ⟨j, hj, rfl⟩ := List.mem_iff_getElem.1 ht
      have h2 := hi2 j (by omega)
      have h3 : g.l.getD j ByteArray.empty = g.B.getD (g.off + j) ByteArray.empty := tl_getD _ _ _ _ (by omega)
      rw [← h3, List.getD_eq_getElem?_getD, List.getElem?_eq_getElem hj] at h2
      exact h2)
    rw [hll] at h1
    have : g.n * (300 + 4) ≤ 20 * 304 := Nat.mul_le_mul (by omega) (Nat.le_refl _)
    omega
  refine And.intro (by (refine And.intro (And.intro (And.intro (rfl) (And.intro (rfl) (And.intro (rfl) (And.intro (rfl) (rfl))))) (trivial)) (And.intro (And.intro (And.intro (And.intro (rfl) (And.intro (rfl) (And.intro (And.intro (rfl) (rfl)) (trivial)))) (trivial)) (rfl)) (And.intro (rfl) (And.intro (rfl) (And.intro (rfl) (And.intro (rfl) (And.intro (?_) (And.intro (?_) (?_))))))))); exact hok; show g.n ≤ 1099511627776; omega; exact hkl) (fun _ _ => ?_)
  refine And.intro (by (refine And.intro (And.intro (And.intro (rfl) (And.intro (rfl) (And.intro (rfl) (And.intro (rfl) (rfl))))) (trivial)) (And.intro (And.intro (And.intro (And.intro (rfl) (And.intro (rfl) (And.intro (And.intro (rfl) (rfl)) (trivial)))) (trivial)) (rfl)) (And.intro (rfl) (And.intro (rfl) (And.intro (rfl) (And.intro (rfl) (And.intro (?_) (And.intro (?_) (?_))))))))); exact hok; show g.n ≤ 1099511627776; omega; exact hkl) (fun _ _ => ?_)
  refine ⟨(), [0], ?_, rfl, rfl, ?_, trivial⟩
  · exact boolE (decide_eq_true rfl)
  · refine Eq.mpr (β := (g.b = g.b ∧ g.y = g.y ∧ (g.m = g.m ∧ g.B = g.B) ∧ True) ∧ True) (by kernel_rfl) (And.intro (And.intro (rfl) (And.intro (rfl) (And.intro (And.intro (rfl) (rfl)) (trivial)))) (trivial))

/-! ### ShaAgain -/
theorem put32 {X : List Int} (h : X.length = 32) : List.take (31 + 1) (List.drop 0 (List.take 0 (List.replicate 32 0) ++ X ++ List.drop (0 + 32) (List.replicate 32 0))) = X := by
  simp [List.take_of_length_le, h]
theorem sumL_len (l : List Int) (n : Nat) : (sumL l n).length = 32 := outL_len _ _
theorem toBA_back {l : List Int} (h : ∀ x ∈ l, 0 ≤ x ∧ x ≤ 255) : (toBA l).toList.map (fun b => (b.toNat : Int)) = l := by
  rw [Go.ByteArray.toList_eq]
  unfold toBA
  simp only [List.map_map]
  rw [List.map_congr_left (g := id) fun x hx => ?_]
  · simp
  · have := h x hx
    simp only [Function.comp, id, UInt8.toNat_ofNat']
    omega
theorem toBA_inj {l m : List Int} (hl : ∀ x ∈ l, 0 ≤ x ∧ x ≤ 255) (hm : ∀ x ∈ m, 0 ≤ x ∧ x ≤ 255) (h : (toBA l).toList = (toBA m).toList) : l = m := by
  rw [← toBA_back hl, ← toBA_back hm, h]
def sp5 : FSpec where
  G := GS × GS
  args g := [g.1.arg 0, g.2.arg 1]
  hp g := [g.1.ent 0 .u8, g.2.ent 1 .u8]
  pre g := (g.1.ok ∧ g.2.ok) ∧ (∀ x ∈ g.1.l, 0 ≤ x ∧ x ≤ 255) ∧ ∀ x ∈ g.2.l, 0 ≤ x ∧ x ≤ 255
  R _ := Unit
  post _ _ := True
  res _ _ := .bool true
  new _ _ := []
  upd _ _ := []
  news := []
  wr := false
  mt _ _ := none
def nt5 : Notes := ⟨fun | 7 => some (seqOf [0, 2, 1, 3, 4, 5, 6, 7, 8, 9, 10, 11, 12, 13, 14, 15, 16, 17, 18, 19, 20, 21, 22]) | _ => none, fun _ => none, fun _ => none, [0, 1, 4, 5, 6, 8, 16]⟩

set_option maxHeartbeats 4000000 in
theorem fn5 : FnOk Try.prog 5 sp5 := by
  refine fnOk_of_vc (cxL_ok 43) wide (nt := fun _ => nt5) Try.func5 rfl rfl (by kernel_rfl) (fuel := 1000) (fun _ => Nat.le_of_ble_eq_true rfl) (fun _ _ t h => h) (fun h => by cases h) ?_
  rintro ⟨g, k⟩ hpre
  obtain ⟨⟨hok, hok'⟩, hb, hb'⟩ := hpre
  have hok : g.ok := hok
  have hok' : k.ok := hok'
  refine And.intro (by (refine And.intro (trivial) (And.intro (And.intro (trivial) (rfl)) (And.intro (rfl) (And.intro (rfl) (And.intro (rfl) (And.intro (rfl) (trivial)))))))) (fun _ _ => ?_)
  refine ⟨fun h => (by cases h), fun _ => ?_⟩
  refine ⟨fun h1 => ?_, fun h1 => ?_⟩
  · have h1 : ¬ ((1000 : Int) < (g.n : Int)) := of_decide_eq_false h1
    repeat refine ⟨fun _ => ?_, fun hp => by cases hp⟩
    refine ⟨fun h => ?_, fun h => ?_⟩
    · refine ⟨(), [0, 1], ?_, rfl, rfl, ?_, trivial⟩
      · refine Eq.mpr (β := Value.bool true = Value.bool true) (by kernel_rfl) (rfl)
      · refine Eq.mpr (β := (g.b = g.b ∧ g.y = g.y ∧ (IntKind.u8 = IntKind.u8 ∧ g.m = g.m ∧ g.B = g.B) ∧ True) ∧ (k.b = k.b ∧ k.y = k.y ∧ (IntKind.u8 = IntKind.u8 ∧ k.m = k.m ∧ k.B = k.B) ∧ True) ∧ True) (by kernel_rfl) (And.intro (And.intro (rfl) (And.intro (rfl) (And.intro (And.intro (rfl) (And.intro (rfl) (rfl))) (trivial)))) (And.intro (And.intro (rfl) (And.intro (rfl) (And.intro (And.intro (rfl) (And.intro (rfl) (rfl))) (trivial)))) (trivial)))
    have h2 : ¬ ((1000 : Int) < (k.n : Int)) := of_decide_eq_false h
    refine And.intro (by (refine And.intro (And.intro (And.intro (rfl) (And.intro (rfl) (And.intro (rfl) (And.intro (rfl) (rfl))))) (trivial)) (And.intro (And.intro (And.intro (And.intro (rfl) (And.intro (rfl) (And.intro (And.intro (rfl) (And.intro (rfl) (rfl))) (trivial)))) (trivial)) (rfl)) (And.intro (rfl) (And.intro (rfl) (And.intro (rfl) (And.intro (rfl) (And.intro (?_) (?_)))))))); exact hok; show g.n ≤ 1099511627776; omega) (fun _ _ => ?_)
    intro b5 _
    refine And.intro ⟨⟨rfl, rfl⟩, by omega⟩ ?_
    refine And.intro (And.intro (And.intro (And.intro (rfl) (And.intro (rfl) (And.intro (rfl) (And.intro (rfl) (rfl))))) (trivial)) (And.intro (And.intro (And.intro (And.intro (rfl) (And.intro (rfl) (And.intro (And.intro (rfl) (And.intro (rfl) (rfl))) (trivial)))) (trivial)) (rfl)) (And.intro (rfl) (And.intro (rfl) (And.intro (rfl) (And.intro (rfl) (And.intro (by omega) (Eq.mpr (β := k.n ≤ 1099511627776) (by kernel_rfl) (by omega))))))))) (fun (_ : Unit) _ => ?_)
    intro b6 _
    refine And.intro ⟨⟨rfl, rfl⟩, by omega⟩ ?_
    refine And.intro (by kernel_rfl) ?_
    refine And.intro ⟨rfl, Nat.le_of_ble_eq_true rfl⟩ ?_
    refine And.intro (And.intro (And.intro (And.intro (rfl) (And.intro (rfl) (And.intro (rfl) (And.intro (rfl) (rfl))))) (trivial)) (And.intro (And.intro (And.intro (And.intro (rfl) (And.intro (rfl) (And.intro (And.intro (rfl) (And.intro (rfl) (rfl))) (trivial)))) (trivial)) (rfl)) (And.intro (rfl) (And.intro (rfl) (And.intro (rfl) (And.intro (rfl) (And.intro (by omega) (Eq.mpr (β := g.n ≤ 1099511627776) (by kernel_rfl) (by omega))))))))) (fun (_ : Unit) _ => ?_)
    refine ⟨fun _ => ?_, fun hp => absurd (put32 (sumL_len _ _)).symm (of_decide_eq_false hp)⟩
    obtain ⟨g1, g2, g3, g4⟩ := id hok
    obtain ⟨k1, k2, k3, k4⟩ := id hok'
    refine ⟨fun _ => ?_, fun hp => by cases hp⟩
    refine And.intro ⟨rfl, by (refine Eq.mpr (β := g.off + g.n ≤ g.m) (by kernel_rfl) ?_); omega, by (refine Eq.mpr (β := g.z = 0 ∨ g.n = 0) (by kernel_rfl) ?_); omega⟩ ?_
    refine ⟨fun _ => ?_, fun hp => by cases hp⟩
    refine ⟨fun _ => ?_, fun hp => by cases hp⟩
    refine And.intro ⟨rfl, by (refine Eq.mpr (β := k.off + k.n ≤ k.m) (by kernel_rfl) ?_); omega, by (refine Eq.mpr (β := k.z = 0 ∨ k.n = 0) (by kernel_rfl) ?_); omega⟩ ?_
    refine ⟨fun _ => ?_, fun hp => by cases hp⟩
    refine ⟨fun _ => ?_, fun hp => by cases hp⟩
    refine ⟨fun hs => ?_, fun hs => ?_⟩
    · have hs : (!((toBA g.l).toList == (toBA k.l).toList)) = false := hs
      have hgk : g.l = k.l := toBA_inj hb hb' (by simpa using hs)
      have hlg : g.l.length = g.n := by unfold GS.l; simp; omega
      have hlk : k.l.length = k.n := by unfold GS.l; simp; omega
      have hnk : g.n = k.n := by rw [← hlg, ← hlk, hgk]
      have hsum : sumL g.l g.n = sumL k.l k.n := by rw [hgk, hnk]
      refine And.intro ⟨rfl, Nat.le_of_ble_eq_true rfl⟩ ?_
      refine ⟨fun _ => ?_, fun hp => by cases hp⟩
      refine And.intro ⟨rfl, Nat.le_of_ble_eq_true rfl⟩ ?_
      refine ⟨fun _ => ?_, fun hp => by cases hp⟩
      refine ⟨fun _ => ?_, fun hp => by cases hp⟩
      refine ⟨fun _ => ?_, fun hp => absurd ((put32 (sumL_len _ _)).trans (hsum.trans (put32 (sumL_len _ _)).symm)) (of_decide_eq_false hp)⟩
      refine And.intro ⟨rfl, Nat.le_of_ble_eq_true rfl⟩ ?_
      refine ⟨fun _ => ?_, fun hp => by cases hp⟩
      refine ⟨fun _ => ?_, fun hp => by cases hp⟩
      refine And.intro (by (refine And.intro (And.intro (And.intro (rfl) (And.intro (rfl) (And.intro (rfl) (And.intro (rfl) (rfl))))) (trivial)) (And.intro (And.intro (And.intro (And.intro (rfl) (And.intro (rfl) (And.intro (And.intro (rfl) (And.intro (rfl) (rfl))) (trivial)))) (trivial)) (rfl)) (And.intro (rfl) (And.intro (rfl) (And.intro (rfl) (And.intro (rfl) (And.intro (?_) (?_)))))))); exact hok'; show k.n ≤ 1099511627776; omega) (fun _ _ => ?_)
      refine ⟨fun _ => ?_, fun hp => by cases hp⟩
      refine ⟨(), [0, 1], ?_, rfl, rfl, ?_, trivial⟩
      · exact boolE (decide_eq_true (put32 (sumL_len _ _)))
      · refine Eq.mpr (β := (g.b = g.b ∧ g.y = g.y ∧ (IntKind.u8 = IntKind.u8 ∧ g.m = g.m ∧ g.B = g.B) ∧ True) ∧ (k.b = k.b ∧ k.y = k.y ∧ (IntKind.u8 = IntKind.u8 ∧ k.m = k.m ∧ k.B = k.B) ∧ True) ∧ True) (by kernel_rfl) (And.intro (And.intro (rfl) (And.intro (rfl) (And.intro (And.intro (rfl) (And.intro (rfl) (rfl))) (trivial)))) (And.intro (And.intro (rfl) (And.intro (rfl) (And.intro (And.intro (rfl) (And.intro (rfl) (rfl))) (trivial)))) (trivial)))
    · refine ⟨rfl, ?_⟩
      refine ⟨(fun h => by cases h), fun _ => ⟨rfl, ?_⟩⟩
      refine ⟨(fun h => by cases h), fun _ => ⟨rfl, ?_⟩⟩
      refine ⟨fun _ => ?_, fun hp => by cases hp⟩
      refine ⟨fun _ => ?_, fun hp => by cases hp⟩
      refine And.intro ⟨rfl, Nat.le_of_ble_eq_true rfl⟩ ?_
      refine ⟨fun _ => ?_, fun hp => by cases hp⟩
      refine ⟨fun _ => ?_, fun hp => by cases hp⟩
      refine And.intro (by (refine And.intro (And.intro (And.intro (rfl) (And.intro (rfl) (And.intro (rfl) (And.intro (rfl) (rfl))))) (trivial)) (And.intro (And.intro (And.intro (And.intro (rfl) (And.intro (rfl) (And.intro (And.intro (rfl) (And.intro (rfl) (rfl))) (trivial)))) (trivial)) (rfl)) (And.intro (rfl) (And.intro (rfl) (And.intro (rfl) (And.intro (rfl) (And.intro (?_) (?_)))))))); exact hok'; show k.n ≤ 1099511627776; omega) (fun _ _ => ?_)
      refine ⟨fun _ => ?_, fun hp => by cases hp⟩
      refine ⟨(), [0, 1], ?_, rfl, rfl, ?_, trivial⟩
      · exact boolE (decide_eq_true (put32 (sumL_len _ _)))
      · refine Eq.mpr (β := (g.b = g.b ∧ g.y = g.y ∧ (IntKind.u8 = IntKind.u8 ∧ g.m = g.m ∧ g.B = g.B) ∧ True) ∧ (k.b = k.b ∧ k.y = k.y ∧ (IntKind.u8 = IntKind.u8 ∧ k.m = k.m ∧ k.B = k.B) ∧ True) ∧ True) (by kernel_rfl) (And.intro (And.intro (rfl) (And.intro (rfl) (And.intro (And.intro (rfl) (And.intro (rfl) (rfl))) (trivial)))) (And.intro (And.intro (rfl) (And.intro (rfl) (And.intro (And.intro (rfl) (And.intro (rfl) (rfl))) (trivial)))) (trivial)))
  · refine ⟨rfl, ?_⟩
    refine ⟨(fun h => by cases h), fun _ => ⟨rfl, ?_⟩⟩
    refine ⟨(fun h => by cases h), fun _ => ⟨rfl, ?_⟩⟩
    refine ⟨fun _ => ?_, fun h => by cases h⟩
    refine ⟨(), [0, 1], ?_, rfl, rfl, ?_, trivial⟩
    · refine Eq.mpr (β := Value.bool true = Value.bool true) (by kernel_rfl) (rfl)
    · refine Eq.mpr (β := (g.b = g.b ∧ g.y = g.y ∧ (IntKind.u8 = IntKind.u8 ∧ g.m = g.m ∧ g.B = g.B) ∧ True) ∧ (k.b = k.b ∧ k.y = k.y ∧ (IntKind.u8 = IntKind.u8 ∧ k.m = k.m ∧ k.B = k.B) ∧ True) ∧ True) (by kernel_rfl) (And.intro (And.intro (rfl) (And.intro (rfl) (And.intro (And.intro (rfl) (And.intro (rfl) (rfl))) (trivial)))) (And.intro (And.intro (rfl) (And.intro (rfl) (And.intro (And.intro (rfl) (And.intro (rfl) (rfl))) (trivial)))) (trivial)))

end Go.Proofs.Ytpggklkofilmfaa
