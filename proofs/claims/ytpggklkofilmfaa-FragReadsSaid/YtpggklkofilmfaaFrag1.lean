/- Numbers read from bytes, written into bytes. -/
import Derived.Test.YtpggklkofilmfaaSha12
import Derived.Test.YtpggklkofilmfaaAbLem
set_option linter.unusedSimpArgs false
set_option linter.unusedVariables false
namespace Go.Proofs.Ytpggklkofilmfaa
open Go Go.Ab
set_option maxRecDepth 100000

/-! ### get, Get -/
/-- The number that so many bytes spell. -/
def getN (l : List Int) : Nat → Int
  | 0 => 0
  | i + 1 => ior .u64 (ishl .u64 (getN l i) 8) (IntKind.u64.wrap (l.getD i 0))
theorem getN_zero (l : List Int) : getN l 0 = 0 := rfl
theorem getN_succ (l : List Int) (i : Nat) : getN l (i + 1) = ior .u64 (ishl .u64 (getN l i) 8) (IntKind.u64.wrap (l.getD i 0)) := rfl
attribute [irreducible] getN
def spGet : FSpec where
  G := GS
  args g := [g.arg 0]
  hp g := [g.ent 0 .u8]
  pre g := (g.off + g.c ≤ g.m ∧ g.n ≤ g.c ∧ (g.z = 0 ∨ g.c = 0) ∧ g.B.length = g.m) ∧ g.n ≤ 1099511627776
  R _ := Unit
  post _ _ := True
  res g _ := .int .u64 (getN g.l g.n)
  new _ _ := []
  upd _ _ := []
  news := []
  wr := false
  mt vs h := match vs with
    | [x] => match gsOf h x with
      | some (g, t) => some (g, [t])
      | none => none
    | _ => none
theorem GS.getD {g : GS} {i : Nat} (h : i < g.n) : g.l.getD i 0 = g.B.getD (g.off + i) 0 := (take_getD (N := g.n) rfl h).symm
def inv42 (g : GS) : Inv where
  G := Nat
  pre i := i ≤ g.n
  sl i := [(3, .int .u64 (getN g.l i)), (6, g.arg 0), (7, .int .i64 g.n), (8, .int .i64 i)]
  hp _ := [g.ent 0 .u8]
  mu i := g.n - i
def inv44 (g : GS) : Inv where
  G := Nat
  pre i := i ≤ g.n
  sl i := [(0, g.arg 0), (3, .int .u64 (getN g.l i)), (4, .int .i64 i)]
  hp _ := [g.ent 0 .u8]
  mu i := g.n - i
def cxN (n : Nat) : Cx := ⟨tab, fun _ => none, n, true⟩
theorem cxN_ok (n : Nat) : CxOk Try.prog (cxN n) := ⟨tab_ok, fun f c h => by cases h⟩
def ntK (ks : List Nat) : Notes := ⟨fun _ => none, fun _ => none, fun _ => none, ks⟩

set_option maxHeartbeats 4000000 in
theorem fn42 : FnOk Try.prog 42 spGet := by
  refine fnOk_of_vc (cxN_ok 19) wide (nt := fun _ => ntK [0, 2, 3, 5, 6, 7, 8, 9]) Try.func42 rfl rfl (by kernel_rfl) (fuel := 1000) (fun _ => Nat.le_of_ble_eq_true rfl) (fun _ _ t h => h) (fun h => by cases h) ?_
  intro (g : GS) hpre
  have hn : g.n ≤ 1099511627776 := hpre.2
  obtain ⟨g1, g2, g3, g4⟩ := hpre.1
  refine ⟨inv42 g, ⟨(0 : Nat), [0], rfl, rfl, ?_, ?_, ?_, trivial⟩, ?_⟩
  · refine Eq.mpr (β := Value.int IntKind.u64 0 = Value.int IntKind.u64 (getN (GS.l g) 0) ∧ (g.b = g.b ∧ g.off = g.off ∧ g.n = g.n ∧ g.c = g.c ∧ g.z = g.z) ∧ Value.int IntKind.i64 (↑g.n : Int) = Value.int IntKind.i64 (↑g.n : Int) ∧ Value.int IntKind.i64 0 = Value.int IntKind.i64 (↑0 : Int) ∧ True) (by kernel_rfl) (And.intro (?_) (And.intro (And.intro (rfl) (And.intro (rfl) (And.intro (rfl) (And.intro (rfl) (rfl))))) (And.intro (rfl) (And.intro (intE (by omega)) (trivial)))))
    rw [getN_zero]
  · refine Eq.mpr (β := (g.b = g.b ∧ g.y = g.y ∧ (IntKind.u8 = IntKind.u8 ∧ g.m = g.m ∧ g.B = g.B) ∧ True) ∧ True) (by kernel_rfl) (And.intro (And.intro (rfl) (And.intro (rfl) (And.intro (And.intro (rfl) (And.intro (rfl) (rfl))) (trivial)))) (trivial))
  · exact Nat.zero_le _
  intro (i : Nat) (hi : i ≤ g.n)
  refine ⟨fun hlt => ?_, fun hge => ?_⟩
  · have hlt : (i : Int) < (g.n : Int) := of_decide_eq_true hlt
    refine And.intro (by omega) ?_
    refine And.intro ⟨rfl, by omega⟩ ?_
    refine And.intro (by omega) ?_
    refine And.intro (by omega) ?_
    refine ⟨(i + 1 : Nat), [0], rfl, rfl, ?_, ?_, ?_, ?_⟩
    · refine Eq.mpr (β := Value.int IntKind.u64 (ior IntKind.u64 (ishl IntKind.u64 (getN (GS.l g) i) 8) (IntKind.wrap IntKind.u64 (List.getD g.B (g.off + Int.toNat (↑i : Int) * 1) 0))) = Value.int IntKind.u64 (getN (GS.l g) (i + 1)) ∧ (g.b = g.b ∧ g.off = g.off ∧ g.n = g.n ∧ g.c = g.c ∧ g.z = g.z) ∧ Value.int IntKind.i64 (↑g.n : Int) = Value.int IntKind.i64 (↑g.n : Int) ∧ Value.int IntKind.i64 ((↑i : Int) + 1) = Value.int IntKind.i64 (↑(i + 1) : Int) ∧ True) (by kernel_rfl) (And.intro (?_) (And.intro (And.intro (rfl) (And.intro (rfl) (And.intro (rfl) (And.intro (rfl) (rfl))))) (And.intro (rfl) (And.intro (intE (by omega)) (trivial)))))
      rw [getN_succ, GS.getD (g := g) (i := i) (by omega), show g.off + (i : Int).toNat * 1 = g.off + i by omega]
    · refine Eq.mpr (β := (g.b = g.b ∧ g.y = g.y ∧ (IntKind.u8 = IntKind.u8 ∧ g.m = g.m ∧ g.B = g.B) ∧ True) ∧ True) (by kernel_rfl) (And.intro (And.intro (rfl) (And.intro (rfl) (And.intro (And.intro (rfl) (And.intro (rfl) (rfl))) (trivial)))) (trivial))
    · show i + 1 ≤ g.n
      omega
    · show g.n - (i + 1) < g.n - i
      omega
  have hi : i = g.n := by
    have : ¬((i : Int) < (g.n : Int)) := of_decide_eq_false hge
    omega
  subst hi
  refine ⟨(), [0], ?_, rfl, rfl, ?_, trivial⟩
  · refine Eq.mpr (β := Value.int IntKind.u64 (getN (GS.l g) g.n) = Value.int IntKind.u64 (getN (GS.l g) g.n)) (by kernel_rfl) (rfl)
  · refine Eq.mpr (β := (g.b = g.b ∧ g.y = g.y ∧ (IntKind.u8 = IntKind.u8 ∧ g.m = g.m ∧ g.B = g.B) ∧ True) ∧ True) (by kernel_rfl) (And.intro (And.intro (rfl) (And.intro (rfl) (And.intro (And.intro (rfl) (And.intro (rfl) (rfl))) (trivial)))) (trivial))
set_option maxHeartbeats 4000000 in
theorem fn44 : FnOk Try.prog 44 spGet := by
  refine fnOk_of_vc (cxN_ok 20) wide (nt := fun _ => ntK [0, 2, 3, 4, 8]) Try.func44 rfl rfl (by kernel_rfl) (fuel := 1000) (fun _ => Nat.le_of_ble_eq_true rfl) (fun _ _ t h => h) (fun h => by cases h) ?_
  intro (g : GS) hpre
  have hn : g.n ≤ 1099511627776 := hpre.2
  obtain ⟨g1, g2, g3, g4⟩ := hpre.1
  refine ⟨inv44 g, ⟨(0 : Nat), [0], rfl, rfl, ?_, ?_, ?_, trivial⟩, ?_⟩
  · refine Eq.mpr (β := (g.b = g.b ∧ g.off = g.off ∧ g.n = g.n ∧ g.c = g.c ∧ g.z = g.z) ∧ Value.int IntKind.u64 0 = Value.int IntKind.u64 (getN (GS.l g) 0) ∧ Value.int IntKind.i64 0 = Value.int IntKind.i64 (↑0 : Int) ∧ True) (by kernel_rfl) (And.intro (And.intro (rfl) (And.intro (rfl) (And.intro (rfl) (And.intro (rfl) (rfl))))) (And.intro (?_) (And.intro (intE (by omega)) (trivial))))
    rw [getN_zero]
  · refine Eq.mpr (β := (g.b = g.b ∧ g.y = g.y ∧ (IntKind.u8 = IntKind.u8 ∧ g.m = g.m ∧ g.B = g.B) ∧ True) ∧ True) (by kernel_rfl) (And.intro (And.intro (rfl) (And.intro (rfl) (And.intro (And.intro (rfl) (And.intro (rfl) (rfl))) (trivial)))) (trivial))
  · exact Nat.zero_le _
  intro (i : Nat) (hi : i ≤ g.n)
  refine ⟨fun hlt => ?_, fun hge => ?_⟩
  · have hlt : (i : Int) < (g.n : Int) := of_decide_eq_true hlt
    refine And.intro (by omega) ?_
    refine And.intro (by omega) ?_
    refine And.intro ⟨rfl, by omega⟩ ?_
    refine And.intro (by omega) ?_
    refine ⟨(i + 1 : Nat), [0], rfl, rfl, ?_, ?_, ?_, ?_⟩
    · refine Eq.mpr (β := (g.b = g.b ∧ g.off = g.off ∧ g.n = g.n ∧ g.c = g.c ∧ g.z = g.z) ∧ Value.int IntKind.u64 (ior IntKind.u64 (ishl IntKind.u64 (getN (GS.l g) i) 8) (IntKind.wrap IntKind.u64 (List.getD g.B (g.off + Int.toNat (↑i : Int) * 1) 0))) = Value.int IntKind.u64 (getN (GS.l g) (i + 1)) ∧ Value.int IntKind.i64 ((↑i : Int) + 1) = Value.int IntKind.i64 (↑(i + 1) : Int) ∧ True) (by kernel_rfl) (And.intro (And.intro (rfl) (And.intro (rfl) (And.intro (rfl) (And.intro (rfl) (rfl))))) (And.intro (?_) (And.intro (intE (by omega)) (trivial))))
      rw [getN_succ, GS.getD (g := g) (i := i) (by omega), show g.off + (i : Int).toNat * 1 = g.off + i by omega]
    · refine Eq.mpr (β := (g.b = g.b ∧ g.y = g.y ∧ (IntKind.u8 = IntKind.u8 ∧ g.m = g.m ∧ g.B = g.B) ∧ True) ∧ True) (by kernel_rfl) (And.intro (And.intro (rfl) (And.intro (rfl) (And.intro (And.intro (rfl) (And.intro (rfl) (rfl))) (trivial)))) (trivial))
    · show i + 1 ≤ g.n
      omega
    · show g.n - (i + 1) < g.n - i
      omega
  have hi : i = g.n := by
    have : ¬((i : Int) < (g.n : Int)) := of_decide_eq_false hge
    omega
  subst hi
  refine ⟨(), [0], ?_, rfl, rfl, ?_, trivial⟩
  · refine Eq.mpr (β := Value.int IntKind.u64 (getN (GS.l g) g.n) = Value.int IntKind.u64 (getN (GS.l g) g.n)) (by kernel_rfl) (rfl)
  · refine Eq.mpr (β := (g.b = g.b ∧ g.y = g.y ∧ (IntKind.u8 = IntKind.u8 ∧ g.m = g.m ∧ g.B = g.B) ∧ True) ∧ True) (by kernel_rfl) (And.intro (And.intro (rfl) (And.intro (rfl) (And.intro (And.intro (rfl) (And.intro (rfl) (rfl))) (trivial)))) (trivial))

/-! ### put -/
/-- A number's bytes over a row's. -/
def putB (L : List Int) (off n : Nat) (x : Int) : Nat → List Int
  | 0 => L
  | i + 1 => (putB L off n x i).set (off + i) (IntKind.u8.wrap (ishr .u64 x (8 * ((n : Int) - 1 - (i : Int)))))
theorem putB_zero (L : List Int) (off n : Nat) (x : Int) : putB L off n x 0 = L := rfl
theorem putB_succ (L : List Int) (off n : Nat) (x : Int) (i : Nat) : putB L off n x (i + 1) = (putB L off n x i).set (off + i) (IntKind.u8.wrap (ishr .u64 x (8 * ((n : Int) - 1 - (i : Int))))) := rfl
theorem putB_len (L : List Int) (off n : Nat) (x : Int) : ∀ i, (putB L off n x i).length = L.length
  | 0 => rfl
  | i + 1 => by rw [putB_succ, List.length_set]; exact putB_len L off n x i
attribute [irreducible] putB
structure GP where
  b : BlkO
  (off n c z m y : Nat)
  L : List Int
  x : Int
def sp39 : FSpec where
  G := GP
  args g := [.c (.sl 0 g.b g.off g.n g.c g.z), .int .u64 g.x]
  hp g := [(0, g.b, .cells g.y [.ints .u8 g.m g.L])]
  pre g := g.off + g.n ≤ g.m ∧ g.z = 0 ∧ g.n ≤ 1099511627776
  R _ := Unit
  post _ _ := True
  res _ _ := .tup []
  new _ _ := []
  upd g _ := [(0, g.b, .cells g.y [.ints .u8 g.m (putB g.L g.off g.n g.x g.n)])]
  news := []
  wr := true
  mt vs h := match vs with
    | [x, .c (.v (.int _ v))] => match x, gsOf h x with
      | _, some (g, t) => some (⟨g.b.o, g.off, g.n, g.c, g.z, g.m, g.y, g.B, v⟩, [t])
      | _, none => none
    | _ => none
def inv39 (g : GP) : Inv where
  G := Nat
  pre i := i ≤ g.n
  sl i := [(0, .c (.sl 0 g.b g.off g.n g.c g.z)), (1, .int .u64 g.x), (6, .int .i64 g.n), (7, .int .i64 i)]
  hp i := [(0, g.b, .cells g.y [.ints .u8 g.m (putB g.L g.off g.n g.x i)])]
  mu i := g.n - i
set_option maxHeartbeats 4000000 in
theorem fn39 : FnOk Try.prog 39 sp39 := by
  refine fnOk_of_vc (cxN_ok 24) wide (nt := fun _ => ntK [0, 1, 4, 6, 7, 8]) Try.func39 rfl rfl (by kernel_rfl) (fuel := 1000) (fun _ => Nat.le_of_ble_eq_true rfl) (fun _ _ t h => h) (fun _ g _ t => Iff.rfl) ?_
  intro (g : GP) hpre
  obtain ⟨h1, h2, h3⟩ := hpre
  have h1 : g.off + g.n ≤ g.m := h1
  have h2 : g.z = 0 := h2
  have h3 : g.n ≤ 1099511627776 := h3
  refine ⟨inv39 g, ⟨(0 : Nat), [0], rfl, rfl, ?_, ?_, ?_, trivial⟩, ?_⟩
  · refine Eq.mpr (β := ({ o := g.b, ro := false : Blk } = { o := g.b, ro := false : Blk } ∧ g.off = g.off ∧ g.n = g.n ∧ g.c = g.c ∧ g.z = g.z) ∧ Value.int IntKind.u64 g.x = Value.int IntKind.u64 g.x ∧ Value.int IntKind.i64 (↑g.n : Int) = Value.int IntKind.i64 (↑g.n : Int) ∧ Value.int IntKind.i64 0 = Value.int IntKind.i64 (↑0 : Int) ∧ True) (by kernel_rfl) (And.intro (And.intro (rfl) (And.intro (rfl) (And.intro (rfl) (And.intro (rfl) (rfl))))) (And.intro (rfl) (And.intro (rfl) (And.intro (intE (by omega)) (trivial)))))
  · refine Eq.mpr (β := ({ o := g.b, ro := false : Blk } = { o := g.b, ro := false : Blk } ∧ g.y = g.y ∧ (IntKind.u8 = IntKind.u8 ∧ g.m = g.m ∧ g.L = putB g.L g.off g.n g.x 0) ∧ True) ∧ True) (by kernel_rfl) (And.intro (And.intro (rfl) (And.intro (rfl) (And.intro (And.intro (rfl) (And.intro (rfl) (?_))) (trivial)))) (trivial))
    rw [putB_zero]
  · exact Nat.zero_le _
  intro (i : Nat) (hi : i ≤ g.n)
  refine ⟨fun hlt => ?_, fun hge => ?_⟩
  · have hlt : (i : Int) < (g.n : Int) := of_decide_eq_true hlt
    have hw : IntKind.u64.wrap (8 * ((g.n : Int) - 1 - (i : Int))) = 8 * ((g.n : Int) - 1 - (i : Int)) := wrap_u64_id (by omega)
    refine And.intro (by omega) ?_
    refine And.intro (by omega) ?_
    refine And.intro (by omega) ?_
    refine And.intro (by omega) ?_
    refine And.intro (by omega) ?_
    refine And.intro ⟨⟨rfl, rfl⟩, by omega⟩ ?_
    refine And.intro (by omega) ?_
    refine ⟨(i + 1 : Nat), [0], rfl, rfl, ?_, ?_, ?_, ?_⟩
    · refine Eq.mpr (β := ({ o := g.b, ro := false : Blk } = { o := g.b, ro := false : Blk } ∧ g.off = g.off ∧ g.n = g.n ∧ g.c = g.c ∧ g.z = g.z) ∧ Value.int IntKind.u64 g.x = Value.int IntKind.u64 g.x ∧ Value.int IntKind.i64 (↑g.n : Int) = Value.int IntKind.i64 (↑g.n : Int) ∧ Value.int IntKind.i64 ((↑i : Int) + 1) = Value.int IntKind.i64 (↑(i + 1) : Int) ∧ True) (by kernel_rfl) (And.intro (And.intro (rfl) (And.intro (rfl) (And.intro (rfl) (And.intro (rfl) (rfl))))) (And.intro (rfl) (And.intro (rfl) (And.intro (intE (by omega)) (trivial)))))
    · refine Eq.mpr (β := ({ o := g.b, ro := false : Blk } = { o := g.b, ro := false : Blk } ∧ g.y = g.y ∧ (IntKind.u8 = IntKind.u8 ∧ g.m = g.m ∧ List.set (putB g.L g.off g.n g.x i) (g.off + Int.toNat (↑i : Int) * 1) (IntKind.wrap IntKind.u8 (ishr IntKind.u64 g.x (IntKind.wrap IntKind.u64 (8 * ((↑g.n : Int) - 1 - (↑i : Int)))))) = putB g.L g.off g.n g.x (i + 1)) ∧ True) ∧ True) (by kernel_rfl) (And.intro (And.intro (rfl) (And.intro (rfl) (And.intro (And.intro (rfl) (And.intro (rfl) (?_))) (trivial)))) (trivial))
      rw [hw, putB_succ, show g.off + (i : Int).toNat * 1 = g.off + i by omega]
    · show i + 1 ≤ g.n
      omega
    · show g.n - (i + 1) < g.n - i
      omega
  have hi : i = g.n := by
    have : ¬((i : Int) < (g.n : Int)) := of_decide_eq_false hge
    omega
  subst hi
  refine ⟨(), [0], ?_, rfl, rfl, ?_, trivial⟩
  · refine Eq.mpr (β := True) (by kernel_rfl) (trivial)
  · refine Eq.mpr (β := ({ o := g.b, ro := false : Blk } = { o := g.b, ro := false : Blk } ∧ g.y = g.y ∧ (IntKind.u8 = IntKind.u8 ∧ g.m = g.m ∧ putB g.L g.off g.n g.x g.n = putB g.L g.off g.n g.x g.n) ∧ True) ∧ True) (by kernel_rfl) (And.intro (And.intro (rfl) (And.intro (rfl) (And.intro (And.intro (rfl) (And.intro (rfl) (rfl))) (trivial)))) (trivial))

end Go.Proofs.Ytpggklkofilmfaa
