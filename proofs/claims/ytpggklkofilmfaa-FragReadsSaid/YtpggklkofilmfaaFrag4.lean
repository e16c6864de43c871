/- A head cut into its parts; copies. -/
import Derived.Test.YtpggklkofilmfaaFrag3
import Derived.Test.YtpggklkofilmfaaAbLem
set_option linter.unusedSimpArgs false
set_option linter.unusedVariables false
namespace Go.Proofs.Ytpggklkofilmfaa
open Go Go.Ab
set_option maxRecDepth 100000

/-! ### slices.Clone -/
def spClone : FSpec where
  G := GS
  args g := [g.arg 0]
  hp g := [g.ent 0 .u8]
  pre g := g.ok ∧ g.n ≤ 1099511627776
  R _ := ApR
  post g r := r.fits g.n g.l
  res g r := (vS 0 100 g.n r).2
  new _ r := [vH 100 .u8 r]
  upd _ _ := []
  news := [100]
  wr := false
  mt vs h := match vs with
    | [x] => match gsOf h x with
      | some (g, t) => some (g, [t])
      | none => none
    | _ => none
set_option maxHeartbeats 4000000 in
theorem fn43 : FnOk Try.prog 43 spClone := by
  refine fnOk_of_vc (cxN_ok 8) wide (nt := fun _ => ntK [0, 2, 4]) Try.func43 rfl rfl (by kernel_rfl) (fuel := 1000) (fun _ => Nat.le_of_ble_eq_true rfl) (fun _ _ t h => h) (fun h => by cases h) ?_
  intro (g : GS) hpre
  have hn : g.n ≤ 1099511627776 := hpre.2
  obtain ⟨g1, g2, g3, g4⟩ := hpre.1
  refine ⟨fun h => ?_, fun h => ?_⟩
  · have hz : ¬ g.z = 0 := by
      intro e
      have h : (!(Nat.beq g.z 0)) = true := h
      rw [e] at h
      cases h
    have hc : g.c = 0 := g3.resolve_left hz
    have hn0 : g.n = 0 := by omega
    refine ⟨⟨0, 0, 0, 0, 1, 0, []⟩, [99999, 0], ?_, rfl, rfl, ?_, ?_⟩
    · refine Eq.mpr (β := And (@Eq (Option Addr) (@none Addr) (@none Addr)) (And (@Eq Nat (@OfNat.ofNat Nat (nat_lit 0) (instOfNatNat (nat_lit 0))) g.n) (@Eq Nat (@OfNat.ofNat Nat (nat_lit 0) (instOfNatNat (nat_lit 0))) (@OfNat.ofNat Nat (nat_lit 0) (instOfNatNat (nat_lit 0)))))) (by kernel_rfl) (And.intro (rfl) (And.intro (by omega) (rfl)))
    · refine Eq.mpr (β := (0 + 0 = 0 ∧ (true && true) = true) ∧ (g.b = g.b ∧ g.y = g.y ∧ (IntKind.u8 = IntKind.u8 ∧ g.m = g.m ∧ g.B = g.B) ∧ True) ∧ True) (by kernel_rfl) (And.intro (And.intro (rfl) (?_)) (And.intro (And.intro (rfl) (And.intro (rfl) (And.intro (And.intro (rfl) (And.intro (rfl) (rfl))) (trivial)))) (trivial)))
      rfl
    · exact ⟨Nat.le_refl _, by rw [hn0]; exact Nat.le_refl _, .inr rfl, rfl, by rw [hn0]; unfold GS.l; rw [hn0]; simp⟩
  · intro b _
    refine And.intro (And.intro (And.intro (And.intro (rfl) (And.intro (rfl) (And.intro (by omega) (And.intro (by omega) (by omega))))) (And.intro (rfl) (And.intro (by omega) (by omega)))) (by omega)) ?_
    intro r hr
    replace hr : ApR.fits r (0 + g.n) (List.take 0 (List.drop 0 []) ++ List.take g.n (List.drop g.off g.B)) := Eq.mp (by kernel_rfl) hr
    refine ⟨r, [1007, 0], ?_, rfl, rfl, ?_, ?_⟩
    · refine Eq.mpr (β := { o := r.b, ro := false : Blk } = { o := r.b, ro := false : Blk } ∧ r.off = r.off ∧ 0 + g.n = g.n ∧ r.cap = r.cap ∧ r.z = r.z) (by kernel_rfl) (And.intro (rfl) (And.intro (rfl) (And.intro (by omega) (And.intro (rfl) (rfl)))))
    · refine Eq.mpr (β := ({ o := r.b, ro := false : Blk } = { o := r.b, ro := false : Blk } ∧ r.y = r.y ∧ (IntKind.u8 = IntKind.u8 ∧ r.m = r.m ∧ r.L = r.L) ∧ True) ∧ (g.b = g.b ∧ g.y = g.y ∧ (IntKind.u8 = IntKind.u8 ∧ g.m = g.m ∧ g.B = g.B) ∧ True) ∧ True) (by kernel_rfl) (And.intro (And.intro (rfl) (And.intro (rfl) (And.intro (And.intro (rfl) (And.intro (rfl) (rfl))) (trivial)))) (And.intro (And.intro (rfl) (And.intro (rfl) (And.intro (And.intro (rfl) (And.intro (rfl) (rfl))) (trivial)))) (trivial)))
    · exact fits_of hr (by omega) (by simp [GS.l])

/-! ### frag.cut -/
structure GC where
  bn : BlkO
  bp : BlkO
  (y k : Nat)
  at' : Nat
  S : GS
/-- What the inner function does: the next 'k' bytes. -/
def sp46 : FSpec where
  G := GC
  args g := [.int .i64 g.k, .c (.ptr 0 g.bn 0), .c (.ptr 1 g.bp 0)]
  hp g := [(0, g.bn, .cells 3 [.v (.int .i64 g.at')]), (1, g.bp, .cells 22 [.sl 2 g.S.b g.S.off g.S.n g.S.c g.S.z]), g.S.ent 2 .u8]
  pre g := (g.S.off + g.S.c ≤ g.S.m ∧ g.S.n ≤ g.S.c ∧ (g.S.z = 0 ∨ g.S.c = 0) ∧ g.S.B.length = g.S.m) ∧ g.at' + g.k ≤ g.S.c ∧ 0 < g.k ∧ g.at' + g.k ≤ 9223372036854775807
  R _ := Unit
  post _ _ := True
  res g _ := .c (.sl 2 g.S.b (g.S.off + g.at') g.k g.k g.S.z)
  new _ _ := []
  upd g _ := [(0, g.bn, .cells 3 [.v (.int .i64 ((g.at' + g.k : Nat) : Int))]), (1, g.bp, .cells 22 [.sl 2 g.S.b g.S.off g.S.n g.S.c g.S.z]), g.S.ent 2 .u8]
  news := []
  wr := true
  mt vs h := match vs with
    | [.c (.v (.int _ k)), .c (.ptr t0 b0 _), .c (.ptr t1 b1 _)] => match h.get t0, h.get t1 with
      | some (_, .cells _ [.v (.int _ a)]), some (_, .cells _ [x]) => match gsOf h (.c x) with
        | some (S, t) => some (⟨b0.o, b1.o, 0, k.toNat, a.toNat, S⟩, [t0, t1, t])
        | none => none
      | _, _ => none
    | _ => none
set_option maxHeartbeats 4000000 in
theorem fn46 : FnOk Try.prog 46 sp46 := by
  refine fnOk_of_vc (cxN_ok 15) wide (nt := fun _ => ntK [0, 1, 2, 4]) Try.func46 rfl rfl (by kernel_rfl) (fuel := 1000) (fun _ => Nat.le_of_ble_eq_true rfl) (fun _ _ t h => h) (fun _ g _ t => Iff.rfl) ?_
  intro (g : GC) hpre
  obtain ⟨hok, h1, h2, h3⟩ := hpre
  obtain ⟨g1, g2, g3, g4⟩ := hok
  have h1 : g.at' + g.k ≤ g.S.c := h1
  have h2 : 0 < g.k := h2
  have h3 : g.at' + g.k ≤ 9223372036854775807 := h3
  refine And.intro rfl ?_
  refine And.intro (by omega) ?_
  refine And.intro (And.intro (rfl) (rfl)) ?_
  refine And.intro rfl ?_
  refine And.intro rfl ?_
  refine And.intro (by omega) ?_
  refine And.intro rfl ?_
  refine And.intro rfl ?_
  refine And.intro (by omega) ?_
  refine ⟨(), [0, 1, 2], ?_, rfl, rfl, ?_, trivial⟩
  · refine Eq.mpr (β := g.S.b = g.S.b ∧ (if Int.toNat ((↑g.at' : Int) + (↑g.k : Int)) = Int.toNat ((↑g.at' : Int) + (↑g.k : Int) - (↑g.k : Int)) then g.S.off else g.S.off + Int.toNat ((↑g.at' : Int) + (↑g.k : Int) - (↑g.k : Int)) * 1) = g.S.off + g.at' ∧ Int.toNat ((↑g.at' : Int) + (↑g.k : Int)) - Int.toNat ((↑g.at' : Int) + (↑g.k : Int) - (↑g.k : Int)) = g.k ∧ Int.toNat ((↑g.at' : Int) + (↑g.k : Int)) - Int.toNat ((↑g.at' : Int) + (↑g.k : Int) - (↑g.k : Int)) = g.k ∧ g.S.z = g.S.z) (by kernel_rfl) (And.intro (rfl) (And.intro (?_) (And.intro (by omega) (And.intro (by omega) (rfl)))))
    rw [if_neg (by omega)]
    omega
  · refine Eq.mpr (β := ({ o := g.bn, ro := false : Blk } = { o := g.bn, ro := false : Blk } ∧ 3 = 3 ∧ Value.int IntKind.i64 ((↑g.at' : Int) + (↑g.k : Int)) = Value.int IntKind.i64 (↑(g.at' + g.k) : Int) ∧ True) ∧ ({ o := g.bp, ro := false : Blk } = { o := g.bp, ro := false : Blk } ∧ 22 = 22 ∧ (g.S.b = g.S.b ∧ g.S.off = g.S.off ∧ g.S.n = g.S.n ∧ g.S.c = g.S.c ∧ g.S.z = g.S.z) ∧ True) ∧ (g.S.b = g.S.b ∧ g.S.y = g.S.y ∧ (IntKind.u8 = IntKind.u8 ∧ g.S.m = g.S.m ∧ g.S.B = g.S.B) ∧ True) ∧ True) (by kernel_rfl) (And.intro (And.intro (rfl) (And.intro (rfl) (And.intro (intE (by omega)) (trivial)))) (And.intro (And.intro (rfl) (And.intro (rfl) (And.intro (And.intro (rfl) (And.intro (rfl) (And.intro (rfl) (And.intro (rfl) (rfl))))) (trivial)))) (And.intro (And.intro (rfl) (And.intro (rfl) (And.intro (And.intro (rfl) (And.intro (rfl) (rfl))) (trivial)))) (trivial))))

/-- A part of a head. -/
def cutAt (g : GS) (o k : Nat) : Cel := .sl 0 g.b (g.off + o) k k g.z
def sp38 : FSpec where
  G := GS
  args g := [g.arg 0]
  hp g := [g.ent 0 .u8]
  pre g := g.ok ∧ 89 ≤ g.n
  R _ := Unit
  post _ _ := True
  res g _ := .agg [cutAt g 0 4, cutAt g 4 32, cutAt g 36 4, cutAt g 40 1, cutAt g 41 4, cutAt g 45 32, cutAt g 77 8, cutAt g 85 4]
  new _ _ := []
  upd _ _ := []
  news := []
  wr := false
  mt vs h := match vs with
    | [x] => match gsOf h x with
      | some (g, t) => some (g, [t])
      | none => none
    | _ => none
def con38 : FuncId → Option Con
  | 46 => some sp46.con
  | _ => none
def cx38 : Cx := ⟨tab, con38, 23, true⟩
theorem cx38_ok : CxOk Try.prog cx38 := ⟨tab_ok, fun f c h => by
  unfold cx38 con38 at h
  dsimp only at h
  split at h
  · cases h; exact conOk_of_spec fn46
  · cases h⟩
set_option maxHeartbeats 8000000 in
theorem fn38 : FnOk Try.prog 38 sp38 := by
  refine fnOk_of_vc cx38_ok wide (nt := fun _ => ntK [0, 1, 2, 3, 4]) Try.func38 rfl rfl (by kernel_rfl) (fuel := 1000) (fun _ => Nat.le_of_ble_eq_true rfl) (fun _ _ t h => h) (fun h => by cases h) ?_
  intro (g : GS) hpre
  obtain ⟨hok, hn⟩ := hpre
  have hn : 89 ≤ g.n := hn
  obtain ⟨g1, g2, g3, g4⟩ : g.ok := hok
  intro b1 _ b2 _ b3 _
  refine And.intro (And.intro (rfl) (rfl)) ?_
  refine stE ([(3, SV.c (Cel.ptr 1003 b3 0)), (2, SV.c (Cel.ptr 1002 b2 0)), (1, SV.c (Cel.ptr 1001 b1 0)), (0, SV.c (Cel.sl 0 g.b g.off g.n g.c g.z))]) ([(0, g.b, Cont.cells g.y [Cel.ints .u8 g.m g.B]), (1001, b1, Cont.cells 22 [Cel.sl 0 g.b g.off g.n g.c g.z]), (1002, b2, Cont.cells 76 [Cel.v (Value.slice none 0 0), Cel.v (Value.slice none 0 0), Cel.v (Value.slice none 0 0), Cel.v (Value.slice none 0 0), Cel.v (Value.slice none 0 0), Cel.v (Value.slice none 0 0), Cel.v (Value.slice none 0 0), Cel.v (Value.slice none 0 0)]), (1003, b3, Cont.cells 3 [Cel.v (Value.int .i64 0)])]) (by kernel_rfl) (by kernel_rfl) ?_
  refine And.intro (And.intro (And.intro (rfl) (And.intro (And.intro (rfl) (rfl)) (And.intro (And.intro (rfl) (rfl)) (trivial)))) (And.intro (And.intro (And.intro (And.intro (rfl) (And.intro (rfl) (And.intro (rfl) (trivial)))) (And.intro (And.intro (rfl) (And.intro (rfl) (And.intro (And.intro (rfl) (And.intro (rfl) (And.intro (rfl) (And.intro (rfl) (rfl))))) (trivial)))) (And.intro (And.intro (rfl) (And.intro (rfl) (And.intro (And.intro (rfl) (And.intro (rfl) (rfl))) (trivial)))) (trivial)))) (rfl)) (And.intro (rfl) (And.intro (rfl) (And.intro (rfl) (And.intro (rfl) (And.intro (And.intro (by omega) (And.intro (by omega) (And.intro (by omega) (by omega)))) (And.intro (Eq.mpr (β := 0 + 4 ≤ g.c) (by kernel_rfl) (by omega)) (And.intro (Eq.mpr (β := 0 < 4) (by kernel_rfl) (by omega)) (Eq.mpr (β := 0 + 4 ≤ 9223372036854775807) (by kernel_rfl) (by omega))))))))))) (fun (_ : Unit) _ => ?_)
  refine stE ([(7, SV.c (Cel.sl 0 g.b (g.off + 0) 4 4 g.z)), (6, SV.c (Cel.fn 46 [(1003, b3, 0), (1001, b1, 0)])), (4, SV.c (Cel.fn 46 [(1003, b3, 0), (1001, b1, 0)])), (3, SV.c (Cel.ptr 1003 b3 0)), (2, SV.c (Cel.ptr 1002 b2 0)), (1, SV.c (Cel.ptr 1001 b1 0)), (0, SV.c (Cel.sl 0 g.b g.off g.n g.c g.z))]) ([((0 : Nat), g.b, Cont.cells g.y [Cel.ints .u8 g.m g.B]), ((1001 : Nat), b1, Cont.cells (22 : TypeId) [Cel.sl (0 : Nat) g.b g.off g.n g.c g.z]), ((1002 : Nat), b2, Cont.cells (76 : Nat) [Cel.v (Value.slice none (0 : Nat) (0 : Nat)), Cel.v (Value.slice none (0 : Nat) (0 : Nat)), Cel.v (Value.slice none (0 : Nat) (0 : Nat)), Cel.v (Value.slice none (0 : Nat) (0 : Nat)), Cel.v (Value.slice none (0 : Nat) (0 : Nat)), Cel.v (Value.slice none (0 : Nat) (0 : Nat)), Cel.v (Value.slice none (0 : Nat) (0 : Nat)), Cel.v (Value.slice none (0 : Nat) (0 : Nat))]), ((1003 : Nat), b3, Cont.cells (3 : TypeId) [Cel.v (Value.int .i64 (↑((0 : Nat) + (4 : Nat)) : Int))])]) (by kernel_rfl) (by kernel_rfl) ?_
  refine And.intro (And.intro (And.intro (rfl) (And.intro (And.intro (rfl) (rfl)) (And.intro (And.intro (rfl) (rfl)) (trivial)))) (And.intro (And.intro (And.intro (And.intro (rfl) (And.intro (rfl) (And.intro (rfl) (trivial)))) (And.intro (And.intro (rfl) (And.intro (rfl) (And.intro (And.intro (rfl) (And.intro (rfl) (And.intro (rfl) (And.intro (rfl) (rfl))))) (trivial)))) (And.intro (And.intro (rfl) (And.intro (rfl) (And.intro (And.intro (rfl) (And.intro (rfl) (rfl))) (trivial)))) (trivial)))) (rfl)) (And.intro (rfl) (And.intro (rfl) (And.intro (rfl) (And.intro (rfl) (And.intro (And.intro (by omega) (And.intro (by omega) (And.intro (by omega) (by omega)))) (And.intro (Eq.mpr (β := 4 + 32 ≤ g.c) (by kernel_rfl) (by omega)) (And.intro (Eq.mpr (β := 0 < 32) (by kernel_rfl) (by omega)) (Eq.mpr (β := 4 + 32 ≤ 9223372036854775807) (by kernel_rfl) (by omega))))))))))) (fun (_ : Unit) _ => ?_)
  refine stE ([(9, SV.c (Cel.sl 0 g.b (g.off + 4) 32 32 g.z)), (8, SV.c (Cel.fn 46 [(1003, b3, 0), (1001, b1, 0)])), (7, SV.c (Cel.sl 0 g.b (g.off + 0) 4 4 g.z)), (6, SV.c (Cel.fn 46 [(1003, b3, 0), (1001, b1, 0)])), (4, SV.c (Cel.fn 46 [(1003, b3, 0), (1001, b1, 0)])), (3, SV.c (Cel.ptr 1003 b3 0)), (2, SV.c (Cel.ptr 1002 b2 0)), (1, SV.c (Cel.ptr 1001 b1 0)), (0, SV.c (Cel.sl 0 g.b g.off g.n g.c g.z))]) ([((0 : Nat), g.b, Cont.cells g.y [Cel.ints .u8 g.m g.B]), ((1001 : Nat), b1, Cont.cells (22 : TypeId) [Cel.sl (0 : Nat) g.b g.off g.n g.c g.z]), ((1002 : Nat), b2, Cont.cells (76 : Nat) [Cel.v (Value.slice none (0 : Nat) (0 : Nat)), Cel.v (Value.slice none (0 : Nat) (0 : Nat)), Cel.v (Value.slice none (0 : Nat) (0 : Nat)), Cel.v (Value.slice none (0 : Nat) (0 : Nat)), Cel.v (Value.slice none (0 : Nat) (0 : Nat)), Cel.v (Value.slice none (0 : Nat) (0 : Nat)), Cel.v (Value.slice none (0 : Nat) (0 : Nat)), Cel.v (Value.slice none (0 : Nat) (0 : Nat))]), ((1003 : Nat), b3, Cont.cells (3 : TypeId) [Cel.v (Value.int .i64 (↑((4 : Nat) + (32 : Nat)) : Int))])]) (by kernel_rfl) (by kernel_rfl) ?_
  refine And.intro (And.intro (And.intro (rfl) (And.intro (And.intro (rfl) (rfl)) (And.intro (And.intro (rfl) (rfl)) (trivial)))) (And.intro (And.intro (And.intro (And.intro (rfl) (And.intro (rfl) (And.intro (rfl) (trivial)))) (And.intro (And.intro (rfl) (And.intro (rfl) (And.intro (And.intro (rfl) (And.intro (rfl) (And.intro (rfl) (And.intro (rfl) (rfl))))) (trivial)))) (And.intro (And.intro (rfl) (And.intro (rfl) (And.intro (And.intro (rfl) (And.intro (rfl) (rfl))) (trivial)))) (trivial)))) (rfl)) (And.intro (rfl) (And.intro (rfl) (And.intro (rfl) (And.intro (rfl) (And.intro (And.intro (by omega) (And.intro (by omega) (And.intro (by omega) (by omega)))) (And.intro (Eq.mpr (β := 36 + 4 ≤ g.c) (by kernel_rfl) (by omega)) (And.intro (Eq.mpr (β := 0 < 4) (by kernel_rfl) (by omega)) (Eq.mpr (β := 36 + 4 ≤ 9223372036854775807) (by kernel_rfl) (by omega))))))))))) (fun (_ : Unit) _ => ?_)
  refine stE ([(11, SV.c (Cel.sl 0 g.b (g.off + 36) 4 4 g.z)), (10, SV.c (Cel.fn 46 [(1003, b3, 0), (1001, b1, 0)])), (9, SV.c (Cel.sl 0 g.b (g.off + 4) 32 32 g.z)), (8, SV.c (Cel.fn 46 [(1003, b3, 0), (1001, b1, 0)])), (7, SV.c (Cel.sl 0 g.b (g.off + 0) 4 4 g.z)), (6, SV.c (Cel.fn 46 [(1003, b3, 0), (1001, b1, 0)])), (4, SV.c (Cel.fn 46 [(1003, b3, 0), (1001, b1, 0)])), (3, SV.c (Cel.ptr 1003 b3 0)), (2, SV.c (Cel.ptr 1002 b2 0)), (1, SV.c (Cel.ptr 1001 b1 0)), (0, SV.c (Cel.sl 0 g.b g.off g.n g.c g.z))]) ([((0 : Nat), g.b, Cont.cells g.y [Cel.ints .u8 g.m g.B]), ((1001 : Nat), b1, Cont.cells (22 : TypeId) [Cel.sl (0 : Nat) g.b g.off g.n g.c g.z]), ((1002 : Nat), b2, Cont.cells (76 : Nat) [Cel.v (Value.slice none (0 : Nat) (0 : Nat)), Cel.v (Value.slice none (0 : Nat) (0 : Nat)), Cel.v (Value.slice none (0 : Nat) (0 : Nat)), Cel.v (Value.slice none (0 : Nat) (0 : Nat)), Cel.v (Value.slice none (0 : Nat) (0 : Nat)), Cel.v (Value.slice none (0 : Nat) (0 : Nat)), Cel.v (Value.slice none (0 : Nat) (0 : Nat)), Cel.v (Value.slice none (0 : Nat) (0 : Nat))]), ((1003 : Nat), b3, Cont.cells (3 : TypeId) [Cel.v (Value.int .i64 (↑((36 : Nat) + (4 : Nat)) : Int))])]) (by kernel_rfl) (by kernel_rfl) ?_
  refine And.intro (And.intro (And.intro (rfl) (And.intro (And.intro (rfl) (rfl)) (And.intro (And.intro (rfl) (rfl)) (trivial)))) (And.intro (And.intro (And.intro (And.intro (rfl) (And.intro (rfl) (And.intro (rfl) (trivial)))) (And.intro (And.intro (rfl) (And.intro (rfl) (And.intro (And.intro (rfl) (And.intro (rfl) (And.intro (rfl) (And.intro (rfl) (rfl))))) (trivial)))) (And.intro (And.intro (rfl) (And.intro (rfl) (And.intro (And.intro (rfl) (And.intro (rfl) (rfl))) (trivial)))) (trivial)))) (rfl)) (And.intro (rfl) (And.intro (rfl) (And.intro (rfl) (And.intro (rfl) (And.intro (And.intro (by omega) (And.intro (by omega) (And.intro (by omega) (by omega)))) (And.intro (Eq.mpr (β := 40 + 1 ≤ g.c) (by kernel_rfl) (by omega)) (And.intro (Eq.mpr (β := 0 < 1) (by kernel_rfl) (by omega)) (Eq.mpr (β := 40 + 1 ≤ 9223372036854775807) (by kernel_rfl) (by omega))))))))))) (fun (_ : Unit) _ => ?_)
  refine stE ([(13, SV.c (Cel.sl 0 g.b (g.off + 40) 1 1 g.z)), (12, SV.c (Cel.fn 46 [(1003, b3, 0), (1001, b1, 0)])), (11, SV.c (Cel.sl 0 g.b (g.off + 36) 4 4 g.z)), (10, SV.c (Cel.fn 46 [(1003, b3, 0), (1001, b1, 0)])), (9, SV.c (Cel.sl 0 g.b (g.off + 4) 32 32 g.z)), (8, SV.c (Cel.fn 46 [(1003, b3, 0), (1001, b1, 0)])), (7, SV.c (Cel.sl 0 g.b (g.off + 0) 4 4 g.z)), (6, SV.c (Cel.fn 46 [(1003, b3, 0), (1001, b1, 0)])), (4, SV.c (Cel.fn 46 [(1003, b3, 0), (1001, b1, 0)])), (3, SV.c (Cel.ptr 1003 b3 0)), (2, SV.c (Cel.ptr 1002 b2 0)), (1, SV.c (Cel.ptr 1001 b1 0)), (0, SV.c (Cel.sl 0 g.b g.off g.n g.c g.z))]) ([((0 : Nat), g.b, Cont.cells g.y [Cel.ints .u8 g.m g.B]), ((1001 : Nat), b1, Cont.cells (22 : TypeId) [Cel.sl (0 : Nat) g.b g.off g.n g.c g.z]), ((1002 : Nat), b2, Cont.cells (76 : Nat) [Cel.v (Value.slice none (0 : Nat) (0 : Nat)), Cel.v (Value.slice none (0 : Nat) (0 : Nat)), Cel.v (Value.slice none (0 : Nat) (0 : Nat)), Cel.v (Value.slice none (0 : Nat) (0 : Nat)), Cel.v (Value.slice none (0 : Nat) (0 : Nat)), Cel.v (Value.slice none (0 : Nat) (0 : Nat)), Cel.v (Value.slice none (0 : Nat) (0 : Nat)), Cel.v (Value.slice none (0 : Nat) (0 : Nat))]), ((1003 : Nat), b3, Cont.cells (3 : TypeId) [Cel.v (Value.int .i64 (↑((40 : Nat) + (1 : Nat)) : Int))])]) (by kernel_rfl) (by kernel_rfl) ?_
  refine And.intro (And.intro (And.intro (rfl) (And.intro (And.intro (rfl) (rfl)) (And.intro (And.intro (rfl) (rfl)) (trivial)))) (And.intro (And.intro (And.intro (And.intro (rfl) (And.intro (rfl) (And.intro (rfl) (trivial)))) (And.intro (And.intro (rfl) (And.intro (rfl) (And.intro (And.intro (rfl) (And.intro (rfl) (And.intro (rfl) (And.intro (rfl) (rfl))))) (trivial)))) (And.intro (And.intro (rfl) (And.intro (rfl) (And.intro (And.intro (rfl) (And.intro (rfl) (rfl))) (trivial)))) (trivial)))) (rfl)) (And.intro (rfl) (And.intro (rfl) (And.intro (rfl) (And.intro (rfl) (And.intro (And.intro (by omega) (And.intro (by omega) (And.intro (by omega) (by omega)))) (And.intro (Eq.mpr (β := 41 + 4 ≤ g.c) (by kernel_rfl) (by omega)) (And.intro (Eq.mpr (β := 0 < 4) (by kernel_rfl) (by omega)) (Eq.mpr (β := 41 + 4 ≤ 9223372036854775807) (by kernel_rfl) (by omega))))))))))) (fun (_ : Unit) _ => ?_)
  refine stE ([(15, SV.c (Cel.sl 0 g.b (g.off + 41) 4 4 g.z)), (14, SV.c (Cel.fn 46 [(1003, b3, 0), (1001, b1, 0)])), (13, SV.c (Cel.sl 0 g.b (g.off + 40) 1 1 g.z)), (12, SV.c (Cel.fn 46 [(1003, b3, 0), (1001, b1, 0)])), (11, SV.c (Cel.sl 0 g.b (g.off + 36) 4 4 g.z)), (10, SV.c (Cel.fn 46 [(1003, b3, 0), (1001, b1, 0)])), (9, SV.c (Cel.sl 0 g.b (g.off + 4) 32 32 g.z)), (8, SV.c (Cel.fn 46 [(1003, b3, 0), (1001, b1, 0)])), (7, SV.c (Cel.sl 0 g.b (g.off + 0) 4 4 g.z)), (6, SV.c (Cel.fn 46 [(1003, b3, 0), (1001, b1, 0)])), (4, SV.c (Cel.fn 46 [(1003, b3, 0), (1001, b1, 0)])), (3, SV.c (Cel.ptr 1003 b3 0)), (2, SV.c (Cel.ptr 1002 b2 0)), (1, SV.c (Cel.ptr 1001 b1 0)), (0, SV.c (Cel.sl 0 g.b g.off g.n g.c g.z))]) ([((0 : Nat), g.b, Cont.cells g.y [Cel.ints .u8 g.m g.B]), ((1001 : Nat), b1, Cont.cells (22 : TypeId) [Cel.sl (0 : Nat) g.b g.off g.n g.c g.z]), ((1002 : Nat), b2, Cont.cells (76 : Nat) [Cel.v (Value.slice none (0 : Nat) (0 : Nat)), Cel.v (Value.slice none (0 : Nat) (0 : Nat)), Cel.v (Value.slice none (0 : Nat) (0 : Nat)), Cel.v (Value.slice none (0 : Nat) (0 : Nat)), Cel.v (Value.slice none (0 : Nat) (0 : Nat)), Cel.v (Value.slice none (0 : Nat) (0 : Nat)), Cel.v (Value.slice none (0 : Nat) (0 : Nat)), Cel.v (Value.slice none (0 : Nat) (0 : Nat))]), ((1003 : Nat), b3, Cont.cells (3 : TypeId) [Cel.v (Value.int .i64 (↑((41 : Nat) + (4 : Nat)) : Int))])]) (by kernel_rfl) (by kernel_rfl) ?_
  refine And.intro (And.intro (And.intro (rfl) (And.intro (And.intro (rfl) (rfl)) (And.intro (And.intro (rfl) (rfl)) (trivial)))) (And.intro (And.intro (And.intro (And.intro (rfl) (And.intro (rfl) (And.intro (rfl) (trivial)))) (And.intro (And.intro (rfl) (And.intro (rfl) (And.intro (And.intro (rfl) (And.intro (rfl) (And.intro (rfl) (And.intro (rfl) (rfl))))) (trivial)))) (And.intro (And.intro (rfl) (And.intro (rfl) (And.intro (And.intro (rfl) (And.intro (rfl) (rfl))) (trivial)))) (trivial)))) (rfl)) (And.intro (rfl) (And.intro (rfl) (And.intro (rfl) (And.intro (rfl) (And.intro (And.intro (by omega) (And.intro (by omega) (And.intro (by omega) (by omega)))) (And.intro (Eq.mpr (β := 45 + 32 ≤ g.c) (by kernel_rfl) (by omega)) (And.intro (Eq.mpr (β := 0 < 32) (by kernel_rfl) (by omega)) (Eq.mpr (β := 45 + 32 ≤ 9223372036854775807) (by kernel_rfl) (by omega))))))))))) (fun (_ : Unit) _ => ?_)
  refine stE ([(17, SV.c (Cel.sl 0 g.b (g.off + 45) 32 32 g.z)), (16, SV.c (Cel.fn 46 [(1003, b3, 0), (1001, b1, 0)])), (15, SV.c (Cel.sl 0 g.b (g.off + 41) 4 4 g.z)), (14, SV.c (Cel.fn 46 [(1003, b3, 0), (1001, b1, 0)])), (13, SV.c (Cel.sl 0 g.b (g.off + 40) 1 1 g.z)), (12, SV.c (Cel.fn 46 [(1003, b3, 0), (1001, b1, 0)])), (11, SV.c (Cel.sl 0 g.b (g.off + 36) 4 4 g.z)), (10, SV.c (Cel.fn 46 [(1003, b3, 0), (1001, b1, 0)])), (9, SV.c (Cel.sl 0 g.b (g.off + 4) 32 32 g.z)), (8, SV.c (Cel.fn 46 [(1003, b3, 0), (1001, b1, 0)])), (7, SV.c (Cel.sl 0 g.b (g.off + 0) 4 4 g.z)), (6, SV.c (Cel.fn 46 [(1003, b3, 0), (1001, b1, 0)])), (4, SV.c (Cel.fn 46 [(1003, b3, 0), (1001, b1, 0)])), (3, SV.c (Cel.ptr 1003 b3 0)), (2, SV.c (Cel.ptr 1002 b2 0)), (1, SV.c (Cel.ptr 1001 b1 0)), (0, SV.c (Cel.sl 0 g.b g.off g.n g.c g.z))]) ([((0 : Nat), g.b, Cont.cells g.y [Cel.ints .u8 g.m g.B]), ((1001 : Nat), b1, Cont.cells (22 : TypeId) [Cel.sl (0 : Nat) g.b g.off g.n g.c g.z]), ((1002 : Nat), b2, Cont.cells (76 : Nat) [Cel.v (Value.slice none (0 : Nat) (0 : Nat)), Cel.v (Value.slice none (0 : Nat) (0 : Nat)), Cel.v (Value.slice none (0 : Nat) (0 : Nat)), Cel.v (Value.slice none (0 : Nat) (0 : Nat)), Cel.v (Value.slice none (0 : Nat) (0 : Nat)), Cel.v (Value.slice none (0 : Nat) (0 : Nat)), Cel.v (Value.slice none (0 : Nat) (0 : Nat)), Cel.v (Value.slice none (0 : Nat) (0 : Nat))]), ((1003 : Nat), b3, Cont.cells (3 : TypeId) [Cel.v (Value.int .i64 (↑((45 : Nat) + (32 : Nat)) : Int))])]) (by kernel_rfl) (by kernel_rfl) ?_
  refine And.intro (And.intro (And.intro (rfl) (And.intro (And.intro (rfl) (rfl)) (And.intro (And.intro (rfl) (rfl)) (trivial)))) (And.intro (And.intro (And.intro (And.intro (rfl) (And.intro (rfl) (And.intro (rfl) (trivial)))) (And.intro (And.intro (rfl) (And.intro (rfl) (And.intro (And.intro (rfl) (And.intro (rfl) (And.intro (rfl) (And.intro (rfl) (rfl))))) (trivial)))) (And.intro (And.intro (rfl) (And.intro (rfl) (And.intro (And.intro (rfl) (And.intro (rfl) (rfl))) (trivial)))) (trivial)))) (rfl)) (And.intro (rfl) (And.intro (rfl) (And.intro (rfl) (And.intro (rfl) (And.intro (And.intro (by omega) (And.intro (by omega) (And.intro (by omega) (by omega)))) (And.intro (Eq.mpr (β := 77 + 8 ≤ g.c) (by kernel_rfl) (by omega)) (And.intro (Eq.mpr (β := 0 < 8) (by kernel_rfl) (by omega)) (Eq.mpr (β := 77 + 8 ≤ 9223372036854775807) (by kernel_rfl) (by omega))))))))))) (fun (_ : Unit) _ => ?_)
  refine stE ([(19, SV.c (Cel.sl 0 g.b (g.off + 77) 8 8 g.z)), (18, SV.c (Cel.fn 46 [(1003, b3, 0), (1001, b1, 0)])), (17, SV.c (Cel.sl 0 g.b (g.off + 45) 32 32 g.z)), (16, SV.c (Cel.fn 46 [(1003, b3, 0), (1001, b1, 0)])), (15, SV.c (Cel.sl 0 g.b (g.off + 41) 4 4 g.z)), (14, SV.c (Cel.fn 46 [(1003, b3, 0), (1001, b1, 0)])), (13, SV.c (Cel.sl 0 g.b (g.off + 40) 1 1 g.z)), (12, SV.c (Cel.fn 46 [(1003, b3, 0), (1001, b1, 0)])), (11, SV.c (Cel.sl 0 g.b (g.off + 36) 4 4 g.z)), (10, SV.c (Cel.fn 46 [(1003, b3, 0), (1001, b1, 0)])), (9, SV.c (Cel.sl 0 g.b (g.off + 4) 32 32 g.z)), (8, SV.c (Cel.fn 46 [(1003, b3, 0), (1001, b1, 0)])), (7, SV.c (Cel.sl 0 g.b (g.off + 0) 4 4 g.z)), (6, SV.c (Cel.fn 46 [(1003, b3, 0), (1001, b1, 0)])), (4, SV.c (Cel.fn 46 [(1003, b3, 0), (1001, b1, 0)])), (3, SV.c (Cel.ptr 1003 b3 0)), (2, SV.c (Cel.ptr 1002 b2 0)), (1, SV.c (Cel.ptr 1001 b1 0)), (0, SV.c (Cel.sl 0 g.b g.off g.n g.c g.z))]) ([((0 : Nat), g.b, Cont.cells g.y [Cel.ints .u8 g.m g.B]), ((1001 : Nat), b1, Cont.cells (22 : TypeId) [Cel.sl (0 : Nat) g.b g.off g.n g.c g.z]), ((1002 : Nat), b2, Cont.cells (76 : Nat) [Cel.v (Value.slice none (0 : Nat) (0 : Nat)), Cel.v (Value.slice none (0 : Nat) (0 : Nat)), Cel.v (Value.slice none (0 : Nat) (0 : Nat)), Cel.v (Value.slice none (0 : Nat) (0 : Nat)), Cel.v (Value.slice none (0 : Nat) (0 : Nat)), Cel.v (Value.slice none (0 : Nat) (0 : Nat)), Cel.v (Value.slice none (0 : Nat) (0 : Nat)), Cel.v (Value.slice none (0 : Nat) (0 : Nat))]), ((1003 : Nat), b3, Cont.cells (3 : TypeId) [Cel.v (Value.int .i64 (↑((77 : Nat) + (8 : Nat)) : Int))])]) (by kernel_rfl) (by kernel_rfl) ?_
  refine And.intro (And.intro (And.intro (rfl) (And.intro (And.intro (rfl) (rfl)) (And.intro (And.intro (rfl) (rfl)) (trivial)))) (And.intro (And.intro (And.intro (And.intro (rfl) (And.intro (rfl) (And.intro (rfl) (trivial)))) (And.intro (And.intro (rfl) (And.intro (rfl) (And.intro (And.intro (rfl) (And.intro (rfl) (And.intro (rfl) (And.intro (rfl) (rfl))))) (trivial)))) (And.intro (And.intro (rfl) (And.intro (rfl) (And.intro (And.intro (rfl) (And.intro (rfl) (rfl))) (trivial)))) (trivial)))) (rfl)) (And.intro (rfl) (And.intro (rfl) (And.intro (rfl) (And.intro (rfl) (And.intro (And.intro (by omega) (And.intro (by omega) (And.intro (by omega) (by omega)))) (And.intro (Eq.mpr (β := 85 + 4 ≤ g.c) (by kernel_rfl) (by omega)) (And.intro (Eq.mpr (β := 0 < 4) (by kernel_rfl) (by omega)) (Eq.mpr (β := 85 + 4 ≤ 9223372036854775807) (by kernel_rfl) (by omega))))))))))) (fun (_ : Unit) _ => ?_)
  refine stE ([(21, SV.c (Cel.sl 0 g.b (g.off + 85) 4 4 g.z)), (20, SV.c (Cel.fn 46 [(1003, b3, 0), (1001, b1, 0)])), (19, SV.c (Cel.sl 0 g.b (g.off + 77) 8 8 g.z)), (18, SV.c (Cel.fn 46 [(1003, b3, 0), (1001, b1, 0)])), (17, SV.c (Cel.sl 0 g.b (g.off + 45) 32 32 g.z)), (16, SV.c (Cel.fn 46 [(1003, b3, 0), (1001, b1, 0)])), (15, SV.c (Cel.sl 0 g.b (g.off + 41) 4 4 g.z)), (14, SV.c (Cel.fn 46 [(1003, b3, 0), (1001, b1, 0)])), (13, SV.c (Cel.sl 0 g.b (g.off + 40) 1 1 g.z)), (12, SV.c (Cel.fn 46 [(1003, b3, 0), (1001, b1, 0)])), (11, SV.c (Cel.sl 0 g.b (g.off + 36) 4 4 g.z)), (10, SV.c (Cel.fn 46 [(1003, b3, 0), (1001, b1, 0)])), (9, SV.c (Cel.sl 0 g.b (g.off + 4) 32 32 g.z)), (8, SV.c (Cel.fn 46 [(1003, b3, 0), (1001, b1, 0)])), (7, SV.c (Cel.sl 0 g.b (g.off + 0) 4 4 g.z)), (6, SV.c (Cel.fn 46 [(1003, b3, 0), (1001, b1, 0)])), (4, SV.c (Cel.fn 46 [(1003, b3, 0), (1001, b1, 0)])), (3, SV.c (Cel.ptr 1003 b3 0)), (2, SV.c (Cel.ptr 1002 b2 0)), (1, SV.c (Cel.ptr 1001 b1 0)), (0, SV.c (Cel.sl 0 g.b g.off g.n g.c g.z))]) ([((0 : Nat), g.b, Cont.cells g.y [Cel.ints .u8 g.m g.B]), ((1001 : Nat), b1, Cont.cells (22 : TypeId) [Cel.sl (0 : Nat) g.b g.off g.n g.c g.z]), ((1002 : Nat), b2, Cont.cells (76 : Nat) [Cel.v (Value.slice none (0 : Nat) (0 : Nat)), Cel.v (Value.slice none (0 : Nat) (0 : Nat)), Cel.v (Value.slice none (0 : Nat) (0 : Nat)), Cel.v (Value.slice none (0 : Nat) (0 : Nat)), Cel.v (Value.slice none (0 : Nat) (0 : Nat)), Cel.v (Value.slice none (0 : Nat) (0 : Nat)), Cel.v (Value.slice none (0 : Nat) (0 : Nat)), Cel.v (Value.slice none (0 : Nat) (0 : Nat))]), ((1003 : Nat), b3, Cont.cells (3 : TypeId) [Cel.v (Value.int .i64 (↑((85 : Nat) + (4 : Nat)) : Int))])]) (by kernel_rfl) (by kernel_rfl) ?_
  refine And.intro (And.intro (rfl) (rfl)) ?_
  refine stE ([(22, SV.agg ([Cel.sl 0 g.b (g.off + 0) 4 4 g.z, Cel.sl 0 g.b (g.off + 4) 32 32 g.z, Cel.sl 0 g.b (g.off + 36) 4 4 g.z, Cel.sl 0 g.b (g.off + 40) 1 1 g.z, Cel.sl 0 g.b (g.off + 41) 4 4 g.z, Cel.sl 0 g.b (g.off + 45) 32 32 g.z, Cel.sl 0 g.b (g.off + 77) 8 8 g.z] ++ ([Cel.sl 0 g.b (g.off + 85) 4 4 g.z] ++ []))), (21, SV.c (Cel.sl 0 g.b (g.off + 85) 4 4 g.z)), (20, SV.c (Cel.fn 46 [(1003, b3, 0), (1001, b1, 0)])), (19, SV.c (Cel.sl 0 g.b (g.off + 77) 8 8 g.z)), (18, SV.c (Cel.fn 46 [(1003, b3, 0), (1001, b1, 0)])), (17, SV.c (Cel.sl 0 g.b (g.off + 45) 32 32 g.z)), (16, SV.c (Cel.fn 46 [(1003, b3, 0), (1001, b1, 0)])), (15, SV.c (Cel.sl 0 g.b (g.off + 41) 4 4 g.z)), (14, SV.c (Cel.fn 46 [(1003, b3, 0), (1001, b1, 0)])), (13, SV.c (Cel.sl 0 g.b (g.off + 40) 1 1 g.z)), (12, SV.c (Cel.fn 46 [(1003, b3, 0), (1001, b1, 0)])), (11, SV.c (Cel.sl 0 g.b (g.off + 36) 4 4 g.z)), (10, SV.c (Cel.fn 46 [(1003, b3, 0), (1001, b1, 0)])), (9, SV.c (Cel.sl 0 g.b (g.off + 4) 32 32 g.z)), (8, SV.c (Cel.fn 46 [(1003, b3, 0), (1001, b1, 0)])), (7, SV.c (Cel.sl 0 g.b (g.off + 0) 4 4 g.z)), (6, SV.c (Cel.fn 46 [(1003, b3, 0), (1001, b1, 0)])), (4, SV.c (Cel.fn 46 [(1003, b3, 0), (1001, b1, 0)])), (3, SV.c (Cel.ptr 1003 b3 0)), (2, SV.c (Cel.ptr 1002 b2 0)), (1, SV.c (Cel.ptr 1001 b1 0)), (0, SV.c (Cel.sl 0 g.b g.off g.n g.c g.z))]) ([(0, g.b, Cont.cells g.y [Cel.ints .u8 g.m g.B]), (1001, b1, Cont.cells 22 [Cel.sl 0 g.b g.off g.n g.c g.z]), (1002, b2, Cont.cells 76 ([] ++ (Cel.sl 0 g.b (g.off + 0) 4 4 g.z :: Cel.sl 0 g.b (g.off + 4) 32 32 g.z :: Cel.sl 0 g.b (g.off + 36) 4 4 g.z :: Cel.sl 0 g.b (g.off + 40) 1 1 g.z :: Cel.sl 0 g.b (g.off + 41) 4 4 g.z :: Cel.sl 0 g.b (g.off + 45) 32 32 g.z :: Cel.sl 0 g.b (g.off + 77) 8 8 g.z :: ([Cel.sl 0 g.b (g.off + 85) 4 4 g.z] ++ []) ++ []))), (1003, b3, Cont.cells 3 [Cel.v (Value.int .i64 (↑89 : Int))])]) (by kernel_rfl) (by kernel_rfl) ?_
  refine And.intro rfl ?_
  refine ⟨(), [0], ?_, rfl, rfl, ?_, trivial⟩
  · refine Eq.mpr (β := (g.b = g.b ∧ g.off + 0 = g.off + 0 ∧ 4 = 4 ∧ 4 = 4 ∧ g.z = g.z) ∧ (g.b = g.b ∧ g.off + 4 = g.off + 4 ∧ 32 = 32 ∧ 32 = 32 ∧ g.z = g.z) ∧ (g.b = g.b ∧ g.off + 36 = g.off + 36 ∧ 4 = 4 ∧ 4 = 4 ∧ g.z = g.z) ∧ (g.b = g.b ∧ g.off + 40 = g.off + 40 ∧ 1 = 1 ∧ 1 = 1 ∧ g.z = g.z) ∧ (g.b = g.b ∧ g.off + 41 = g.off + 41 ∧ 4 = 4 ∧ 4 = 4 ∧ g.z = g.z) ∧ (g.b = g.b ∧ g.off + 45 = g.off + 45 ∧ 32 = 32 ∧ 32 = 32 ∧ g.z = g.z) ∧ (g.b = g.b ∧ g.off + 77 = g.off + 77 ∧ 8 = 8 ∧ 8 = 8 ∧ g.z = g.z) ∧ (g.b = g.b ∧ g.off + 85 = g.off + 85 ∧ 4 = 4 ∧ 4 = 4 ∧ g.z = g.z) ∧ True) (by kernel_rfl) (And.intro (And.intro (rfl) (And.intro (rfl) (And.intro (rfl) (And.intro (rfl) (rfl))))) (And.intro (And.intro (rfl) (And.intro (rfl) (And.intro (rfl) (And.intro (rfl) (rfl))))) (And.intro (And.intro (rfl) (And.intro (rfl) (And.intro (rfl) (And.intro (rfl) (rfl))))) (And.intro (And.intro (rfl) (And.intro (rfl) (And.intro (rfl) (And.intro (rfl) (rfl))))) (And.intro (And.intro (rfl) (And.intro (rfl) (And.intro (rfl) (And.intro (rfl) (rfl))))) (And.intro (And.intro (rfl) (And.intro (rfl) (And.intro (rfl) (And.intro (rfl) (rfl))))) (And.intro (And.intro (rfl) (And.intro (rfl) (And.intro (rfl) (And.intro (rfl) (rfl))))) (And.intro (And.intro (rfl) (And.intro (rfl) (And.intro (rfl) (And.intro (rfl) (rfl))))) (trivial)))))))))
  · refine Eq.mpr (β := (g.b = g.b ∧ g.y = g.y ∧ (IntKind.u8 = IntKind.u8 ∧ g.m = g.m ∧ g.B = g.B) ∧ True) ∧ True) (by kernel_rfl) (And.intro (And.intro (rfl) (And.intro (rfl) (And.intro (And.intro (rfl) (And.intro (rfl) (rfl))) (trivial)))) (trivial))

end Go.Proofs.Ytpggklkofilmfaa
