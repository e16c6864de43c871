/- CRC-32. -/
import Derived.Test.YtpggklkofilmfaaFrag1
import Derived.Test.YtpggklkofilmfaaAbLem
set_option linter.unusedSimpArgs false
set_option linter.unusedVariables false
namespace Go.Proofs.Ytpggklkofilmfaa
open Go Go.Ab
set_option maxRecDepth 100000

def crcBit (c : Int) : Int := ixor .u32 (ishr .u32 c 1) (imul .u32 3988292384 (iand .u32 c 1))
def crcBits (c : Int) : Nat → Int
  | 0 => c
  | k + 1 => crcBit (crcBits c k)
theorem crcBits_zero (c : Int) : crcBits c 0 = c := rfl
theorem crcBits_succ (c : Int) (k : Nat) : crcBits c (k + 1) = crcBit (crcBits c k) := rfl
def crcN (l : List Int) : Nat → Int
  | 0 => 4294967295
  | i + 1 => crcBits (ixor .u32 (crcN l i) (IntKind.u32.wrap (l.getD i 0))) 8
theorem crcN_zero (l : List Int) : crcN l 0 = 4294967295 := rfl
theorem crcN_succ (l : List Int) (i : Nat) : crcN l (i + 1) = crcBits (ixor .u32 (crcN l i) (IntKind.u32.wrap (l.getD i 0))) 8 := rfl
theorem crc_ex : ∃ f : List Int → Nat → Int, ∀ l n, f l n = inot .u32 (crcN l n) := ⟨fun l n => inot .u32 (crcN l n), fun _ _ => rfl⟩
/-- The sum, kept shut: nobody works it out by chance. -/
noncomputable def crc : List Int → Nat → Int := Classical.choose crc_ex
theorem crc_eq (l : List Int) (n : Nat) : crc l n = inot .u32 (crcN l n) := Classical.choose_spec crc_ex l n
theorem ixor_range (x y : Int) : 0 ≤ ixor .u32 x y ∧ ixor .u32 x y < 4294967296 := by
  unfold ixor
  rw [wrap_u32]
  omega
theorem iand_one (c : Int) : iand .u32 c 1 = 0 ∨ iand .u32 c 1 = 1 := by
  unfold iand
  rw [wrap_u32, BitVec.toNat_and]
  have : (BitVec.ofInt IntKind.u32.bits 1).toNat = 1 := rfl
  rw [this, Nat.and_one_is_mod]
  omega
theorem ixor_zero {v : Int} (h : 0 ≤ v ∧ v < 4294967296) : ixor .u32 v 0 = v := by
  unfold ixor
  have h0 : (BitVec.ofInt IntKind.u32.bits 0).toNat = 0 := rfl
  have h1 : ((BitVec.ofInt IntKind.u32.bits v).toNat : Int) = v := by
    rw [BitVec.toNat_ofInt]
    show (((v % ((2 ^ 32 : Nat) : Int)).toNat : Nat) : Int) = v
    omega
  rw [wrap_u32, BitVec.toNat_xor, h0, Nat.xor_zero, h1]
  omega
theorem ishr_range {v : Int} (h : 0 ≤ v ∧ v < 4294967296) : 0 ≤ ishr .u32 v 1 ∧ ishr .u32 v 1 < 4294967296 := by
  have : ishr .u32 v 1 = v / 2 := by
    unfold ishr
    show v.fdiv 2 = v / 2
    rw [Int.fdiv_eq_ediv_of_nonneg _ (by omega)]
  rw [this]
  omega
/-- The bit's step, told by cases. -/
theorem crcBit_one {c : Int} (h : iand .u32 c 1 = 1) : ixor .u32 (ishr .u32 c 1) 3988292384 = crcBit c := by
  unfold crcBit
  rw [h, show imul .u32 3988292384 1 = 3988292384 from by decide]
theorem crcBit_zero {c : Int} (hc : 0 ≤ c ∧ c < 4294967296) (h : ¬ iand .u32 c 1 = 1) : ishr .u32 c 1 = crcBit c := by
  unfold crcBit
  rw [(iand_one c).resolve_right h, show imul .u32 3988292384 0 = 0 from by decide, ixor_zero (ishr_range hc)]
theorem crcBits_range {c : Int} (hc : 0 ≤ c ∧ c < 4294967296) : ∀ k, 0 ≤ crcBits c k ∧ crcBits c k < 4294967296
  | 0 => hc
  | k + 1 => ixor_range _ _
attribute [irreducible] crcBit crcBits crcN
noncomputable def spCrc : FSpec where
  G := GS
  args g := [g.arg 0]
  hp g := [g.ent 0 .u8]
  pre g := g.ok ∧ g.n ≤ 1099511627776
  R _ := Unit
  post _ _ := True
  res g _ := .int .u32 (crc g.l g.n)
  new _ _ := []
  upd _ _ := []
  news := []
  wr := false
  mt vs h := match vs with
    | [x] => match gsOf h x with
      | some (g, t) => some (g, [t])
      | none => none
    | _ => none
def inv40 (g : GS) : Inv where
  G := Nat
  pre i := i ≤ g.n
  sl i := [(3, .int .u32 (crcN g.l i)), (6, g.arg 0), (7, .int .i64 g.n), (8, .int .i64 i)]
  hp _ := [g.ent 0 .u8]
  mu i := g.n - i
def inv40b (g : GS) (i : Nat) (c : Int) : Inv where
  G := Nat
  pre k := k ≤ 8
  sl k := [(3, .int .u32 (crcBits c k)), (6, g.arg 0), (7, .int .i64 g.n), (8, .int .i64 i), (16, .int .i64 k)]
  hp _ := [g.ent 0 .u8]
  mu k := 8 - k
set_option maxHeartbeats 4000000 in
theorem fn40 : FnOk Try.prog 40 spCrc := by
  refine fnOk_of_vc (cxN_ok 28) wide (nt := fun _ => ntK [0, 2, 3, 5, 6, 7, 8, 9, 16, 17]) Try.func40 rfl rfl (by kernel_rfl) (fuel := 1000) (fun _ => Nat.le_of_ble_eq_true rfl) (fun _ _ t h => h) (fun h => by cases h) ?_
  intro (g : GS) hpre
  have hn : g.n ≤ 1099511627776 := hpre.2
  obtain ⟨g1, g2, g3, g4⟩ := hpre.1
  refine ⟨inv40 g, ⟨(0 : Nat), [0], rfl, rfl, ?_, ?_, ?_, trivial⟩, ?_⟩
  · refine Eq.mpr (β := Value.int IntKind.u32 4294967295 = Value.int IntKind.u32 (crcN (GS.l g) 0) ∧ (g.b = g.b ∧ g.off = g.off ∧ g.n = g.n ∧ g.c = g.c ∧ g.z = g.z) ∧ Value.int IntKind.i64 (↑g.n : Int) = Value.int IntKind.i64 (↑g.n : Int) ∧ Value.int IntKind.i64 0 = Value.int IntKind.i64 (↑0 : Int) ∧ True) (by kernel_rfl) (And.intro (?_) (And.intro (And.intro (rfl) (And.intro (rfl) (And.intro (rfl) (And.intro (rfl) (rfl))))) (And.intro (rfl) (And.intro (intE (by omega)) (trivial)))))
    rw [crcN_zero]
  · refine Eq.mpr (β := (g.b = g.b ∧ g.y = g.y ∧ (IntKind.u8 = IntKind.u8 ∧ g.m = g.m ∧ g.B = g.B) ∧ True) ∧ True) (by kernel_rfl) (And.intro (And.intro (rfl) (And.intro (rfl) (And.intro (And.intro (rfl) (And.intro (rfl) (rfl))) (trivial)))) (trivial))
  · exact Nat.zero_le _
  intro (i : Nat) (hi : i ≤ g.n)
  refine ⟨fun hlt => ?_, fun hge => ?_⟩
  · have hlt : (i : Int) < (g.n : Int) := of_decide_eq_true hlt
    refine And.intro (by omega) ?_
    refine And.intro ⟨rfl, by omega⟩ ?_
    refine ⟨inv40b g i (ixor .u32 (crcN g.l i) (IntKind.u32.wrap (g.l.getD i 0))), ⟨(0 : Nat), [0], rfl, rfl, ?_, ?_, ?_, trivial⟩, ?_⟩
    · refine Eq.mpr (β := Value.int IntKind.u32 (ixor IntKind.u32 (crcN (GS.l g) i) (IntKind.wrap IntKind.u32 (List.getD g.B (g.off + Int.toNat (↑i : Int) * 1) 0))) = Value.int IntKind.u32 (crcBits (ixor IntKind.u32 (crcN (GS.l g) i) (IntKind.wrap IntKind.u32 (List.getD (GS.l g) i 0))) 0) ∧ (g.b = g.b ∧ g.off = g.off ∧ g.n = g.n ∧ g.c = g.c ∧ g.z = g.z) ∧ Value.int IntKind.i64 (↑g.n : Int) = Value.int IntKind.i64 (↑g.n : Int) ∧ Value.int IntKind.i64 (↑i : Int) = Value.int IntKind.i64 (↑i : Int) ∧ Value.int IntKind.i64 0 = Value.int IntKind.i64 (↑0 : Int) ∧ True) (by kernel_rfl) (And.intro (?_) (And.intro (And.intro (rfl) (And.intro (rfl) (And.intro (rfl) (And.intro (rfl) (rfl))))) (And.intro (rfl) (And.intro (rfl) (And.intro (intE (by omega)) (trivial))))))
      rw [crcBits_zero, GS.getD (g := g) (i := i) (by omega), show g.off + (i : Int).toNat * 1 = g.off + i by omega]
    · refine Eq.mpr (β := (g.b = g.b ∧ g.y = g.y ∧ (IntKind.u8 = IntKind.u8 ∧ g.m = g.m ∧ g.B = g.B) ∧ True) ∧ True) (by kernel_rfl) (And.intro (And.intro (rfl) (And.intro (rfl) (And.intro (And.intro (rfl) (And.intro (rfl) (rfl))) (trivial)))) (trivial))
    · exact Nat.zero_le _
    intro (k : Nat) (hk : k ≤ 8)
    refine ⟨fun hlt => ?_, fun hge => ?_⟩
    · have hlt : (k : Int) < 8 := of_decide_eq_true hlt
      refine And.intro (by omega) ?_
      refine And.intro (by omega) ?_
      refine ⟨(k + 1 : Nat), [0], rfl, rfl, ?_, ?_, ?_, ?_⟩
      · refine Eq.mpr (β := Value.int IntKind.u32 (ixor IntKind.u32 (ishr IntKind.u32 (crcBits (ixor IntKind.u32 (crcN (GS.l g) i) (IntKind.wrap IntKind.u32 (List.getD (GS.l g) i 0))) k) 1) (imul IntKind.u32 3988292384 (iand IntKind.u32 (crcBits (ixor IntKind.u32 (crcN (GS.l g) i) (IntKind.wrap IntKind.u32 (List.getD (GS.l g) i 0))) k) 1))) = Value.int IntKind.u32 (crcBits (ixor IntKind.u32 (crcN (GS.l g) i) (IntKind.wrap IntKind.u32 (List.getD (GS.l g) i 0))) (k + 1)) ∧ (g.b = g.b ∧ g.off = g.off ∧ g.n = g.n ∧ g.c = g.c ∧ g.z = g.z) ∧ Value.int IntKind.i64 (↑g.n : Int) = Value.int IntKind.i64 (↑g.n : Int) ∧ Value.int IntKind.i64 (↑i : Int) = Value.int IntKind.i64 (↑i : Int) ∧ Value.int IntKind.i64 ((↑k : Int) + 1) = Value.int IntKind.i64 (↑(k + 1) : Int) ∧ True) (by kernel_rfl) (And.intro (?_) (And.intro (And.intro (rfl) (And.intro (rfl) (And.intro (rfl) (And.intro (rfl) (rfl))))) (And.intro (rfl) (And.intro (rfl) (And.intro (intE (by omega)) (trivial))))))
        rw [crcBits_succ]
        unfold crcBit
        rfl
      · refine Eq.mpr (β := (g.b = g.b ∧ g.y = g.y ∧ (IntKind.u8 = IntKind.u8 ∧ g.m = g.m ∧ g.B = g.B) ∧ True) ∧ True) (by kernel_rfl) (And.intro (And.intro (rfl) (And.intro (rfl) (And.intro (And.intro (rfl) (And.intro (rfl) (rfl))) (trivial)))) (trivial))
      · show k + 1 ≤ 8
        omega
      · show 8 - (k + 1) < 8 - k
        omega
    have hk8 : k = 8 := by
      have : ¬((k : Int) < 8) := of_decide_eq_false hge
      omega
    subst hk8
    refine And.intro (by omega) ?_
    refine ⟨(i + 1 : Nat), [0], rfl, rfl, ?_, ?_, ?_, ?_⟩
    · refine Eq.mpr (β := Value.int IntKind.u32 (crcBits (ixor IntKind.u32 (crcN (GS.l g) i) (IntKind.wrap IntKind.u32 (List.getD (GS.l g) i 0))) 8) = Value.int IntKind.u32 (crcN (GS.l g) (i + 1)) ∧ (g.b = g.b ∧ g.off = g.off ∧ g.n = g.n ∧ g.c = g.c ∧ g.z = g.z) ∧ Value.int IntKind.i64 (↑g.n : Int) = Value.int IntKind.i64 (↑g.n : Int) ∧ Value.int IntKind.i64 ((↑i : Int) + 1) = Value.int IntKind.i64 (↑(i + 1) : Int) ∧ True) (by kernel_rfl) (And.intro (?_) (And.intro (And.intro (rfl) (And.intro (rfl) (And.intro (rfl) (And.intro (rfl) (rfl))))) (And.intro (rfl) (And.intro (intE (by omega)) (trivial)))))
      rw [crcN_succ]
    · refine Eq.mpr (β := (g.b = g.b ∧ g.y = g.y ∧ (IntKind.u8 = IntKind.u8 ∧ g.m = g.m ∧ g.B = g.B) ∧ True) ∧ True) (by kernel_rfl) (And.intro (And.intro (rfl) (And.intro (rfl) (And.intro (And.intro (rfl) (And.intro (rfl) (rfl))) (trivial)))) (trivial))
    · show i + 1 ≤ g.n
      omega
    · show g.n - (i + 1) < g.n - i
      omega
  have hi : i = g.n := by
    have : ¬((i : Int) < (g.n : Int)) := of_decide_eq_false hge
    omega
  subst hi
  refine ⟨(), [0], ?_, rfl, rfl, ?_, trivial⟩
  · refine Eq.mpr (β := Value.int IntKind.u32 (inot IntKind.u32 (crcN (GS.l g) g.n)) = Value.int IntKind.u32 (crc (GS.l g) g.n)) (by kernel_rfl) (?_)
    rw [crc_eq]
  · refine Eq.mpr (β := (g.b = g.b ∧ g.y = g.y ∧ (IntKind.u8 = IntKind.u8 ∧ g.m = g.m ∧ g.B = g.B) ∧ True) ∧ True) (by kernel_rfl) (And.intro (And.intro (rfl) (And.intro (rfl) (And.intro (And.intro (rfl) (And.intro (rfl) (rfl))) (trivial)))) (trivial))
def inv41 (g : GS) : Inv where
  G := Nat
  pre i := i ≤ g.n
  sl i := [(0, g.arg 0), (3, .int .u32 (crcN g.l i)), (4, .int .i64 i)]
  hp _ := [g.ent 0 .u8]
  mu i := g.n - i
def inv41b (g : GS) (i : Nat) (c : Int) : Inv where
  G := Nat
  pre k := k ≤ 8
  sl k := [(0, g.arg 0), (3, .int .u32 (crcBits c k)), (4, .int .i64 i), (5, .int .i64 k)]
  hp _ := [g.ent 0 .u8]
  mu k := 8 - k
set_option maxHeartbeats 4000000 in
theorem fn41 : FnOk Try.prog 41 spCrc := by
  refine fnOk_of_vc (cxN_ok 33) wide (nt := fun _ => ntK [0, 2, 3, 4, 5, 9, 20, 25]) Try.func41 rfl rfl (by kernel_rfl) (fuel := 1000) (fun _ => Nat.le_of_ble_eq_true rfl) (fun _ _ t h => h) (fun h => by cases h) ?_
  intro (g : GS) hpre
  have hn : g.n ≤ 1099511627776 := hpre.2
  obtain ⟨g1, g2, g3, g4⟩ := hpre.1
  refine ⟨inv41 g, ⟨(0 : Nat), [0], rfl, rfl, ?_, ?_, ?_, trivial⟩, ?_⟩
  · refine Eq.mpr (β := (g.b = g.b ∧ g.off = g.off ∧ g.n = g.n ∧ g.c = g.c ∧ g.z = g.z) ∧ Value.int IntKind.u32 4294967295 = Value.int IntKind.u32 (crcN (GS.l g) 0) ∧ Value.int IntKind.i64 0 = Value.int IntKind.i64 (↑0 : Int) ∧ True) (by kernel_rfl) (And.intro (And.intro (rfl) (And.intro (rfl) (And.intro (rfl) (And.intro (rfl) (rfl))))) (And.intro (?_) (And.intro (intE (by omega)) (trivial))))
    rw [crcN_zero]
  · refine Eq.mpr (β := (g.b = g.b ∧ g.y = g.y ∧ (IntKind.u8 = IntKind.u8 ∧ g.m = g.m ∧ g.B = g.B) ∧ True) ∧ True) (by kernel_rfl) (And.intro (And.intro (rfl) (And.intro (rfl) (And.intro (And.intro (rfl) (And.intro (rfl) (rfl))) (trivial)))) (trivial))
  · exact Nat.zero_le _
  intro (i : Nat) (hi : i ≤ g.n)
  refine ⟨fun hlt => ?_, fun hge => ?_⟩
  · have hlt : (i : Int) < (g.n : Int) := of_decide_eq_true hlt
    refine And.intro (by omega) ?_
    refine And.intro ⟨rfl, by omega⟩ ?_
    have hr := ixor_range (crcN g.l i) (IntKind.u32.wrap (g.l.getD i 0))
    refine ⟨inv41b g i (ixor .u32 (crcN g.l i) (IntKind.u32.wrap (g.l.getD i 0))), ⟨(0 : Nat), [0], rfl, rfl, ?_, ?_, ?_, trivial⟩, ?_⟩
    · refine Eq.mpr (β := (g.b = g.b ∧ g.off = g.off ∧ g.n = g.n ∧ g.c = g.c ∧ g.z = g.z) ∧ Value.int IntKind.u32 (ixor IntKind.u32 (crcN (GS.l g) i) (IntKind.wrap IntKind.u32 (List.getD g.B (g.off + Int.toNat (↑i : Int) * 1) 0))) = Value.int IntKind.u32 (crcBits (ixor IntKind.u32 (crcN (GS.l g) i) (IntKind.wrap IntKind.u32 (List.getD (GS.l g) i 0))) 0) ∧ Value.int IntKind.i64 (↑i : Int) = Value.int IntKind.i64 (↑i : Int) ∧ Value.int IntKind.i64 0 = Value.int IntKind.i64 (↑0 : Int) ∧ True) (by kernel_rfl) (And.intro (And.intro (rfl) (And.intro (rfl) (And.intro (rfl) (And.intro (rfl) (rfl))))) (And.intro (?_) (And.intro (rfl) (And.intro (intE (by omega)) (trivial)))))
      rw [crcBits_zero, GS.getD (g := g) (i := i) (by omega), show g.off + (i : Int).toNat * 1 = g.off + i by omega]
    · refine Eq.mpr (β := (g.b = g.b ∧ g.y = g.y ∧ (IntKind.u8 = IntKind.u8 ∧ g.m = g.m ∧ g.B = g.B) ∧ True) ∧ True) (by kernel_rfl) (And.intro (And.intro (rfl) (And.intro (rfl) (And.intro (And.intro (rfl) (And.intro (rfl) (rfl))) (trivial)))) (trivial))
    · exact Nat.zero_le _
    intro (k : Nat) (hk : k ≤ 8)
    refine ⟨fun hlt => ?_, fun hge => ?_⟩
    · have hlt : (k : Int) < 8 := of_decide_eq_true hlt
      have hb := crcBits_range hr k
      refine ⟨fun h1 => ?_, fun h1 => ?_⟩
      · have h1 : iand .u32 (crcBits (ixor .u32 (crcN g.l i) (IntKind.u32.wrap (g.l.getD i 0))) k) 1 = 1 := of_decide_eq_true h1
        refine And.intro (by omega) ?_
        refine And.intro (by omega) ?_
        refine ⟨(k + 1 : Nat), [0], rfl, rfl, ?_, ?_, ?_, ?_⟩
        · refine Eq.mpr (β := (g.b = g.b ∧ g.off = g.off ∧ g.n = g.n ∧ g.c = g.c ∧ g.z = g.z) ∧ Value.int IntKind.u32 (ixor IntKind.u32 (ishr IntKind.u32 (crcBits (ixor IntKind.u32 (crcN (GS.l g) i) (IntKind.wrap IntKind.u32 (List.getD (GS.l g) i 0))) k) 1) 3988292384) = Value.int IntKind.u32 (crcBits (ixor IntKind.u32 (crcN (GS.l g) i) (IntKind.wrap IntKind.u32 (List.getD (GS.l g) i 0))) (k + 1)) ∧ Value.int IntKind.i64 (↑i : Int) = Value.int IntKind.i64 (↑i : Int) ∧ Value.int IntKind.i64 ((↑k : Int) + 1) = Value.int IntKind.i64 (↑(k + 1) : Int) ∧ True) (by kernel_rfl) (And.intro (And.intro (rfl) (And.intro (rfl) (And.intro (rfl) (And.intro (rfl) (rfl))))) (And.intro (?_) (And.intro (rfl) (And.intro (intE (by omega)) (trivial)))))
          rw [crcBits_succ, crcBit_one h1]
        · refine Eq.mpr (β := (g.b = g.b ∧ g.y = g.y ∧ (IntKind.u8 = IntKind.u8 ∧ g.m = g.m ∧ g.B = g.B) ∧ True) ∧ True) (by kernel_rfl) (And.intro (And.intro (rfl) (And.intro (rfl) (And.intro (And.intro (rfl) (And.intro (rfl) (rfl))) (trivial)))) (trivial))
        · show k + 1 ≤ 8
          omega
        · show 8 - (k + 1) < 8 - k
          omega
      · have h1 : ¬ iand .u32 (crcBits (ixor .u32 (crcN g.l i) (IntKind.u32.wrap (g.l.getD i 0))) k) 1 = 1 := of_decide_eq_false h1
        refine And.intro (by omega) ?_
        refine And.intro (by omega) ?_
        refine ⟨(k + 1 : Nat), [0], rfl, rfl, ?_, ?_, ?_, ?_⟩
        · refine Eq.mpr (β := (g.b = g.b ∧ g.off = g.off ∧ g.n = g.n ∧ g.c = g.c ∧ g.z = g.z) ∧ Value.int IntKind.u32 (ishr IntKind.u32 (crcBits (ixor IntKind.u32 (crcN (GS.l g) i) (IntKind.wrap IntKind.u32 (List.getD (GS.l g) i 0))) k) 1) = Value.int IntKind.u32 (crcBits (ixor IntKind.u32 (crcN (GS.l g) i) (IntKind.wrap IntKind.u32 (List.getD (GS.l g) i 0))) (k + 1)) ∧ Value.int IntKind.i64 (↑i : Int) = Value.int IntKind.i64 (↑i : Int) ∧ Value.int IntKind.i64 ((↑k : Int) + 1) = Value.int IntKind.i64 (↑(k + 1) : Int) ∧ True) (by kernel_rfl) (And.intro (And.intro (rfl) (And.intro (rfl) (And.intro (rfl) (And.intro (rfl) (rfl))))) (And.intro (?_) (And.intro (rfl) (And.intro (intE (by omega)) (trivial)))))
          rw [crcBits_succ, crcBit_zero hb h1]
        · refine Eq.mpr (β := (g.b = g.b ∧ g.y = g.y ∧ (IntKind.u8 = IntKind.u8 ∧ g.m = g.m ∧ g.B = g.B) ∧ True) ∧ True) (by kernel_rfl) (And.intro (And.intro (rfl) (And.intro (rfl) (And.intro (And.intro (rfl) (And.intro (rfl) (rfl))) (trivial)))) (trivial))
        · show k + 1 ≤ 8
          omega
        · show 8 - (k + 1) < 8 - k
          omega
    have hk8 : k = 8 := by
      have : ¬((k : Int) < 8) := of_decide_eq_false hge
      omega
    subst hk8
    refine And.intro (by omega) ?_
    refine ⟨(i + 1 : Nat), [0], rfl, rfl, ?_, ?_, ?_, ?_⟩
    · refine Eq.mpr (β := (g.b = g.b ∧ g.off = g.off ∧ g.n = g.n ∧ g.c = g.c ∧ g.z = g.z) ∧ Value.int IntKind.u32 (crcBits (ixor IntKind.u32 (crcN (GS.l g) i) (IntKind.wrap IntKind.u32 (List.getD (GS.l g) i 0))) 8) = Value.int IntKind.u32 (crcN (GS.l g) (i + 1)) ∧ Value.int IntKind.i64 ((↑i : Int) + 1) = Value.int IntKind.i64 (↑(i + 1) : Int) ∧ True) (by kernel_rfl) (And.intro (And.intro (rfl) (And.intro (rfl) (And.intro (rfl) (And.intro (rfl) (rfl))))) (And.intro (?_) (And.intro (intE (by omega)) (trivial))))
      rw [crcN_succ]
    · refine Eq.mpr (β := (g.b = g.b ∧ g.y = g.y ∧ (IntKind.u8 = IntKind.u8 ∧ g.m = g.m ∧ g.B = g.B) ∧ True) ∧ True) (by kernel_rfl) (And.intro (And.intro (rfl) (And.intro (rfl) (And.intro (And.intro (rfl) (And.intro (rfl) (rfl))) (trivial)))) (trivial))
    · show i + 1 ≤ g.n
      omega
    · show g.n - (i + 1) < g.n - i
      omega
  have hi : i = g.n := by
    have : ¬((i : Int) < (g.n : Int)) := of_decide_eq_false hge
    omega
  subst hi
  refine ⟨(), [0], ?_, rfl, rfl, ?_, trivial⟩
  · refine Eq.mpr (β := Value.int IntKind.u32 (inot IntKind.u32 (crcN (GS.l g) g.n)) = Value.int IntKind.u32 (crc (GS.l g) g.n)) (by kernel_rfl) (?_)
    rw [crc_eq]
  · refine Eq.mpr (β := (g.b = g.b ∧ g.y = g.y ∧ (IntKind.u8 = IntKind.u8 ∧ g.m = g.m ∧ g.B = g.B) ∧ True) ∧ True) (by kernel_rfl) (And.intro (And.intro (rfl) (And.intro (rfl) (And.intro (And.intro (rfl) (And.intro (rfl) (rfl))) (trivial)))) (trivial))

end Go.Proofs.Ytpggklkofilmfaa
