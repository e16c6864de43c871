/- One block mixed into the state. -/
import Derived.Test.YtpggklkofilmfaaSha1
set_option linter.unusedSimpArgs false
set_option linter.unusedVariables false
namespace Go.Proofs.Ytpggklkofilmfaa
open Go Go.Ab
set_option maxRecDepth 100000

def con33 : FuncId → Option Con
  | 45 => some sp45.con
  | _ => none
def cx33 : Cx := ⟨tab, con33, 226, true⟩
theorem cx33_ok : CxOk Try.prog cx33 := ⟨tab_ok, fun f c h => by
  unfold cx33 con33 at h
  dsimp only at h
  split at h
  · cases h; exact conOk_of_spec fn45
  · cases h⟩

/-- A word of four bytes. -/
def word4 (a b c d : Int) : Int := ior .u32 (ior .u32 (ior .u32 (ishl .u32 (IntKind.u32.wrap a) 24) (ishl .u32 (IntKind.u32.wrap b) 16)) (ishl .u32 (IntKind.u32.wrap c) 8)) (IntKind.u32.wrap d)
def wordAt (B : List Int) (o : Nat) : Int := word4 (B.getD o 0) (B.getD (o + 1) 0) (B.getD (o + 2) 0) (B.getD (o + 3) 0)
/-- The first words. -/
def sch0 (B : List Int) (o : Nat) : Nat → List Int
  | 0 => List.replicate 64 0
  | i + 1 => (sch0 B o i).set i (wordAt B (o + 4 * i))
def sig (x a b c : Int) : Int := ixor .u32 (ixor .u32 (rot x a) (rot x b)) (ishr .u32 x c)
/-- The words behind them. -/
def schW (W : List Int) (i : Nat) : Int :=
  iadd .u32 (iadd .u32 (iadd .u32 (W.getD (i - 16) 0) (W.getD (i - 7) 0)) (sig (W.getD (i - 15) 0) 7 18 3)) (sig (W.getD (i - 2) 0) 17 19 10)
def sch1 (W : List Int) : Nat → List Int
  | 0 => W
  | i + 1 => (sch1 W i).set (16 + i) (schW (sch1 W i) (16 + i))
def sched (B : List Int) (o : Nat) : List Int := sch1 (sch0 B o 16) 48

structure S8 where
  (a b c d e f g h : Int)
def bsig (x a b c : Int) : Int := ixor .u32 (ixor .u32 (rot x a) (rot x b)) (rot x c)
def rnd1 (s : S8) (k w : Int) : Int :=
  iadd .u32 (iadd .u32 (iadd .u32 (iadd .u32 s.h (bsig s.e 6 11 25)) (ixor .u32 (iand .u32 s.e s.f) (iand .u32 (inot .u32 s.e) s.g))) k) w
def rnd2 (s : S8) : Int := iadd .u32 (bsig s.a 2 13 22) (ixor .u32 (ixor .u32 (iand .u32 s.a s.b) (iand .u32 s.a s.c)) (iand .u32 s.b s.c))
def rnd (s : S8) (k w : Int) : S8 := ⟨iadd .u32 (rnd1 s k w) (rnd2 s), s.a, s.b, s.c, iadd .u32 s.d (rnd1 s k w), s.e, s.f, s.g⟩
def rounds (K W : List Int) (s : S8) : Nat → S8
  | 0 => s
  | i + 1 => rnd (rounds K W s i) (K.getD i 0) (W.getD i 0)
def ofL (S : List Int) : S8 := ⟨S.getD 0 0, S.getD 1 0, S.getD 2 0, S.getD 3 0, S.getD 4 0, S.getD 5 0, S.getD 6 0, S.getD 7 0⟩
def S8.toL (s : S8) : List Int := [s.a, s.b, s.c, s.d, s.e, s.f, s.g, s.h]
def addL (V : List Int) (S : List Int) : Nat → List Int
  | 0 => S
  | i + 1 => (addL V S i).set i (iadd .u32 ((addL V S i).getD i 0) (V.getD i 0))
/-- The state behind a block. -/
def mixS (K S B : List Int) (o : Nat) : List Int := addL (rounds K (sched B o) (ofL S) 64).toL S 8

theorem sch0_zero (B : List Int) (o : Nat) : sch0 B o 0 = List.replicate 64 0 := rfl
theorem sch0_succ (B : List Int) (o i : Nat) : sch0 B o (i + 1) = (sch0 B o i).set i (wordAt B (o + 4 * i)) := rfl
theorem sch1_zero (W : List Int) : sch1 W 0 = W := rfl
theorem sch1_succ (W : List Int) (i : Nat) : sch1 W (i + 1) = (sch1 W i).set (16 + i) (schW (sch1 W i) (16 + i)) := rfl
theorem sched_eq (B : List Int) (o : Nat) : sched B o = sch1 (sch0 B o 16) 48 := rfl
theorem rounds_zero (K W : List Int) (s : S8) : rounds K W s 0 = s := rfl
theorem rounds_succ (K W : List Int) (s : S8) (i : Nat) : rounds K W s (i + 1) = rnd (rounds K W s i) (K.getD i 0) (W.getD i 0) := rfl
theorem addL_zero (V S : List Int) : addL V S 0 = S := rfl
theorem addL_succ (V S : List Int) (i : Nat) : addL V S (i + 1) = (addL V S i).set i (iadd .u32 ((addL V S i).getD i 0) (V.getD i 0)) := rfl
theorem mixS_eq (K S B : List Int) (o : Nat) : mixS K S B o = addL (rounds K (sched B o) (ofL S) 64).toL S 8 := rfl
attribute [irreducible] sch0 sch1 sched rounds addL mixS

structure G33 where
  bs : BlkO
  (bc bb : Blk)
  (y1 y2 y3 off cap n z : Nat)
  (S H B : List Int)
def sp33 : FSpec where
  G := G33
  args g := [.c (.ptr 0 g.bs 0), .c (.ptr 1 g.bc 0), .c (.sl 2 g.bb g.off 64 g.cap g.z)]
  hp g := [(0, g.bs, .cells g.y1 [.ints .u32 8 g.S]), (1, g.bc, .cells g.y2 [.ints .u32 64 K0, .ints .u32 8 g.H]), (2, g.bb, .cells g.y3 [.ints .u8 g.n g.B])]
  pre g := g.off + 64 ≤ g.n ∧ g.z = 0
  R _ := Unit
  post _ _ := True
  res _ _ := .tup []
  new _ _ := []
  upd g _ := [(0, g.bs, .cells g.y1 [.ints .u32 8 (mixS K0 g.S g.B g.off)]), (1, g.bc, .cells g.y2 [.ints .u32 64 K0, .ints .u32 8 g.H]), (2, g.bb, .cells g.y3 [.ints .u8 g.n g.B])]
  news := []
  wr := true
  mt vs h := match vs with
    | [.c (.ptr t0 b0 _), .c (.ptr t1 b1 _), .c (.sl t2 b2 off _ cap z)] => match h.get t0, h.get t1, h.get t2 with
      | some (_, .cells y1 [.ints _ _ S]), some (_, .cells y2 [_, .ints _ _ H]), some (_, .cells y3 [.ints _ n B]) => some (⟨b0.o, b1, b2, y1, y2, y3, off, cap, n, z, S, H, B⟩, [t0, t1, t2])
      | _, _, _ => none
    | _ => none

def st33 (g : G33) (bw : BlkO) (S W : List Int) (more : Sl) : Sl × Hp :=
  ((0, .c (.ptr 0 g.bs 0)) :: (1, .c (.ptr 1 g.bc 0)) :: (2, .c (.sl 2 g.bb g.off 64 g.cap g.z)) :: (6, .c (.ptr 1006 bw 0)) :: more,
   [(0, g.bs, .cells g.y1 [.ints .u32 8 S]), (1, g.bc, .cells g.y2 [.ints .u32 64 K0, .ints .u32 8 g.H]), (2, g.bb, .cells g.y3 [.ints .u8 g.n g.B]), (1006, bw, .cells 63 [.ints .u32 64 W])])
def s8Sl (s : S8) : Sl := [(11, .int .u32 s.a), (12, .int .u32 s.b), (13, .int .u32 s.c), (14, .int .u32 s.d), (15, .int .u32 s.e), (16, .int .u32 s.f), (17, .int .u32 s.g), (18, .int .u32 s.h)]
def inv33a (g : G33) : Inv where
  G := BlkO × Nat
  pre x := x.2 ≤ 16
  sl x := (st33 g x.1 g.S [] [(25, .int .i64 x.2)]).1
  hp x := (st33 g x.1 g.S (sch0 g.B g.off x.2) []).2
  mu x := 16 - x.2
def inv33b (g : G33) : Inv where
  G := BlkO × Nat
  pre x := x.2 ≤ 48
  sl x := (st33 g x.1 g.S [] [(8, .int .i64 (16 + (x.2 : Int)))]).1
  hp x := (st33 g x.1 g.S (sch1 (sch0 g.B g.off 16) x.2) []).2
  mu x := 48 - x.2
def inv33c (g : G33) : Inv where
  G := BlkO × Nat
  pre x := x.2 ≤ 64
  sl x := (st33 g x.1 g.S [] ((140, .agg [.ints .u32 64 K0]) :: (141, .int .i64 x.2) :: s8Sl (rounds K0 (sched g.B g.off) (ofL g.S) x.2))).1
  hp x := (st33 g x.1 g.S (sched g.B g.off) []).2
  mu x := 64 - x.2
def inv33d (g : G33) : Inv where
  G := BlkO × Nat
  pre x := x.2 ≤ 8
  sl x := (st33 g x.1 g.S [] [(211, .agg [.ints .u32 8 (rounds K0 (sched g.B g.off) (ofL g.S) 64).toL]), (212, .int .i64 x.2)]).1
  hp x := (st33 g x.1 (addL (rounds K0 (sched g.B g.off) (ofL g.S) 64).toL g.S x.2) (sched g.B g.off) []).2
  mu x := 8 - x.2
def loops33 (g : G33) : Nat → Option Inv
  | 2 => some (inv33a g)
  | 7 => some (inv33b g)
  | 14 => some (inv33c g)
  | 22 => some (inv33d g)
  | _ => none
def nt33 (g : G33) : Notes := ⟨fun
    | 4 => some (List.range 36) | 9 => some (List.range 10) | 11 => some (List.range 20) | 12 => some (List.range 20) | 24 => some (List.range 10)
    | 10 => some [0, 1, 2, 3, 4, 5, 6, 7, 8, 9, 10, 12, 15, 16, 19, 21, 24, 25, 11, 13, 14, 17, 18, 20, 22, 23, 26, 27, 28, 29]
    | 16 => some [0, 1, 3, 6, 10, 11, 12, 13, 14, 15, 16, 17, 19, 21, 22, 23, 2, 4, 5, 7, 8, 9, 18, 20, 24, 25]
    | _ => none, fun _ => none, loops33 g,
  [0, 1, 2, 6, 7, 8, 9, 10, 11, 12, 13, 14, 15, 16, 17, 18, 19, 20, 21, 22, 23, 24, 25, 26, 65, 140, 141, 142, 211, 212, 213]⟩

theorem ior_comm (k : IntKind) (x y : Int) : ior k x y = ior k y x := by
  unfold ior
  rw [BitVec.or_comm]
theorem rotl_rot (x n m : Int) (h : iand .u64 (IntKind.u64.wrap n) 31 = 32 - m) (h' : isub .u64 32 (32 - m) = m) : rotl x n = rot x m := by
  unfold rotl rot
  rw [h, h', ior_comm]
theorem rl7 (x : Int) : rotl x (-7) = rot x 7 := rotl_rot x _ _ (by decide) (by decide)
theorem rl18 (x : Int) : rotl x (-18) = rot x 18 := rotl_rot x _ _ (by decide) (by decide)
theorem rl17 (x : Int) : rotl x (-17) = rot x 17 := rotl_rot x _ _ (by decide) (by decide)
theorem rl19 (x : Int) : rotl x (-19) = rot x 19 := rotl_rot x _ _ (by decide) (by decide)
theorem rl6 (x : Int) : rotl x (-6) = rot x 6 := rotl_rot x _ _ (by decide) (by decide)
theorem rl11 (x : Int) : rotl x (-11) = rot x 11 := rotl_rot x _ _ (by decide) (by decide)
theorem rl25 (x : Int) : rotl x (-25) = rot x 25 := rotl_rot x _ _ (by decide) (by decide)
theorem rl2 (x : Int) : rotl x (-2) = rot x 2 := rotl_rot x _ _ (by decide) (by decide)
theorem rl13 (x : Int) : rotl x (-13) = rot x 13 := rotl_rot x _ _ (by decide) (by decide)
theorem rl22 (x : Int) : rotl x (-22) = rot x 22 := rotl_rot x _ _ (by decide) (by decide)

set_option maxHeartbeats 4000000 in
theorem fn33 : FnOk Try.prog 33 sp33 := by
  refine fnOk_of_vc cx33_ok wide (nt := nt33) Try.func33 rfl rfl (by kernel_rfl) (fuel := 1000) (fun _ => Nat.le_of_ble_eq_true rfl) (fun _ _ t h => h) (fun _ g _ t => Iff.rfl) ?_
  intro (g : G33) hpre
  have hz : g.z = 0 := hpre.2
  have hpre : g.off + 64 ≤ g.n := hpre.1
  intro bw _
  refine ⟨⟨(bw, 0), [0, 1, 2, 1006], rfl, rfl, ?_, ?_, ?_, trivial⟩, ?_⟩
  · refine Eq.mpr (β := ({ o := g.bs, ro := false : Blk } = { o := g.bs, ro := false : Blk } ∧ 0 = 0) ∧ (g.bc = g.bc ∧ 0 = 0) ∧ (g.bb = g.bb ∧ g.off = g.off ∧ 64 = 64 ∧ g.cap = g.cap ∧ g.z = g.z) ∧ ({ o := bw, ro := false : Blk } = { o := bw, ro := false : Blk } ∧ 0 = 0) ∧ Value.int IntKind.i64 0 = Value.int IntKind.i64 (↑0 : Int) ∧ True) (by kernel_rfl) (And.intro (And.intro (rfl) (rfl)) (And.intro (And.intro (rfl) (rfl)) (And.intro (And.intro (rfl) (And.intro (rfl) (And.intro (rfl) (And.intro (rfl) (rfl))))) (And.intro (And.intro (rfl) (rfl)) (And.intro (intE (by omega)) (trivial))))))
  · refine Eq.mpr (β := ({ o := g.bs, ro := false : Blk } = { o := g.bs, ro := false : Blk } ∧ g.y1 = g.y1 ∧ (IntKind.u32 = IntKind.u32 ∧ 8 = 8 ∧ g.S = g.S) ∧ True) ∧ (g.bc = g.bc ∧ g.y2 = g.y2 ∧ (IntKind.u32 = IntKind.u32 ∧ 64 = 64 ∧ K0 = K0) ∧ (IntKind.u32 = IntKind.u32 ∧ 8 = 8 ∧ g.H = g.H) ∧ True) ∧ (g.bb = g.bb ∧ g.y3 = g.y3 ∧ (IntKind.u8 = IntKind.u8 ∧ g.n = g.n ∧ g.B = g.B) ∧ True) ∧ ({ o := bw, ro := false : Blk } = { o := bw, ro := false : Blk } ∧ 63 = 63 ∧ (IntKind.u32 = IntKind.u32 ∧ 64 = 64 ∧ List.replicate 64 0 = sch0 g.B g.off 0) ∧ True) ∧ True) (by kernel_rfl) (And.intro (And.intro (rfl) (And.intro (rfl) (And.intro (And.intro (rfl) (And.intro (rfl) (rfl))) (trivial)))) (And.intro (And.intro (rfl) (And.intro (rfl) (And.intro (And.intro (rfl) (And.intro (rfl) (rfl))) (And.intro (And.intro (rfl) (And.intro (rfl) (rfl))) (trivial))))) (And.intro (And.intro (rfl) (And.intro (rfl) (And.intro (And.intro (rfl) (And.intro (rfl) (rfl))) (trivial)))) (And.intro (And.intro (rfl) (And.intro (rfl) (And.intro (And.intro (rfl) (And.intro (rfl) (?_))) (trivial)))) (trivial)))))
    rw [sch0_zero]
  · refine Eq.mpr (β := 0 ≤ 16) (by kernel_rfl) (by omega)
  rintro ⟨bw, i⟩ hi
  have hi : i ≤ 16 := hi
  refine ⟨fun hlt => ?_, fun hge => ?_⟩
  · have hlt : (i : Int) < 16 := of_decide_eq_true hlt
    refine And.intro (by kernel_rfl) ?_
    refine And.intro (by omega) ?_
    refine And.intro (by omega) ?_
    refine And.intro ⟨rfl, by omega⟩ ?_
    refine And.intro (by omega) ?_
    refine And.intro (by omega) ?_
    refine And.intro (by omega) ?_
    refine And.intro (by omega) ?_
    refine And.intro ⟨rfl, by omega⟩ ?_
    refine And.intro (by omega) ?_
    refine And.intro (by omega) ?_
    refine And.intro (by omega) ?_
    refine And.intro (by omega) ?_
    refine And.intro ⟨rfl, by omega⟩ ?_
    refine And.intro (by omega) ?_
    refine And.intro (by omega) ?_
    refine And.intro (by omega) ?_
    refine And.intro (by omega) ?_
    refine And.intro ⟨rfl, by omega⟩ ?_
    refine And.intro (by omega) ?_
    refine And.intro ⟨⟨rfl, rfl⟩, by omega⟩ ?_
    refine And.intro (by omega) ?_
    refine ⟨(bw, i + 1), [0, 1, 2, 1006], rfl, rfl, ?_, ?_, ?_, ?_⟩
    · refine Eq.mpr (β := ({ o := g.bs, ro := false : Blk } = { o := g.bs, ro := false : Blk } ∧ 0 = 0) ∧ (g.bc = g.bc ∧ 0 = 0) ∧ (g.bb = g.bb ∧ g.off = g.off ∧ 64 = 64 ∧ g.cap = g.cap ∧ g.z = g.z) ∧ ({ o := bw, ro := false : Blk } = { o := bw, ro := false : Blk } ∧ 0 = 0) ∧ Value.int IntKind.i64 ((↑i : Int) + 1) = Value.int IntKind.i64 (↑(i + 1) : Int) ∧ True) (by kernel_rfl) (And.intro (And.intro (rfl) (rfl)) (And.intro (And.intro (rfl) (rfl)) (And.intro (And.intro (rfl) (And.intro (rfl) (And.intro (rfl) (And.intro (rfl) (rfl))))) (And.intro (And.intro (rfl) (rfl)) (And.intro (intE (by omega)) (trivial))))))
    · refine Eq.mpr (β := ({ o := g.bs, ro := false : Blk } = { o := g.bs, ro := false : Blk } ∧ g.y1 = g.y1 ∧ (IntKind.u32 = IntKind.u32 ∧ 8 = 8 ∧ g.S = g.S) ∧ True) ∧ (g.bc = g.bc ∧ g.y2 = g.y2 ∧ (IntKind.u32 = IntKind.u32 ∧ 64 = 64 ∧ K0 = K0) ∧ (IntKind.u32 = IntKind.u32 ∧ 8 = 8 ∧ g.H = g.H) ∧ True) ∧ (g.bb = g.bb ∧ g.y3 = g.y3 ∧ (IntKind.u8 = IntKind.u8 ∧ g.n = g.n ∧ g.B = g.B) ∧ True) ∧ ({ o := bw, ro := false : Blk } = { o := bw, ro := false : Blk } ∧ 63 = 63 ∧ (IntKind.u32 = IntKind.u32 ∧ 64 = 64 ∧ List.set (sch0 g.B g.off i) (0 + Int.toNat (↑i : Int) * 1) (ior IntKind.u32 (ior IntKind.u32 (ior IntKind.u32 (ishl IntKind.u32 (IntKind.wrap IntKind.u32 (List.getD g.B (g.off + Int.toNat (4 * (↑i : Int)) * 1) 0)) 24) (ishl IntKind.u32 (IntKind.wrap IntKind.u32 (List.getD g.B (g.off + Int.toNat (4 * (↑i : Int) + 1) * 1) 0)) 16)) (ishl IntKind.u32 (IntKind.wrap IntKind.u32 (List.getD g.B (g.off + Int.toNat (4 * (↑i : Int) + 2) * 1) 0)) 8)) (IntKind.wrap IntKind.u32 (List.getD g.B (g.off + Int.toNat (4 * (↑i : Int) + 3) * 1) 0))) = sch0 g.B g.off (i + 1)) ∧ True) ∧ True) (by kernel_rfl) (And.intro (And.intro (rfl) (And.intro (rfl) (And.intro (And.intro (rfl) (And.intro (rfl) (rfl))) (trivial)))) (And.intro (And.intro (rfl) (And.intro (rfl) (And.intro (And.intro (rfl) (And.intro (rfl) (rfl))) (And.intro (And.intro (rfl) (And.intro (rfl) (rfl))) (trivial))))) (And.intro (And.intro (rfl) (And.intro (rfl) (And.intro (And.intro (rfl) (And.intro (rfl) (rfl))) (trivial)))) (And.intro (And.intro (rfl) (And.intro (rfl) (And.intro (And.intro (rfl) (And.intro (rfl) (?_))) (trivial)))) (trivial)))))
      have e : 0 + (i : Int).toNat * 1 = i := by omega
      have e0 : g.off + (4 * (i : Int)).toNat * 1 = g.off + 4 * i := by omega
      have e1 : g.off + (4 * (i : Int) + 1).toNat * 1 = g.off + 4 * i + 1 := by omega
      have e2 : g.off + (4 * (i : Int) + 2).toNat * 1 = g.off + 4 * i + 2 := by omega
      have e3 : g.off + (4 * (i : Int) + 3).toNat * 1 = g.off + 4 * i + 3 := by omega
      rw [e, e0, e1, e2, e3, sch0_succ]
      rfl
    · refine Eq.mpr (β := i + 1 ≤ 16) (by kernel_rfl) (by omega)
    · refine Eq.mpr (β := 16 - (i + 1) < 16 - i) (by kernel_rfl) (by omega)
  have hi : i = 16 := by
    have : ¬((i : Int) < 16) := of_decide_eq_false hge
    omega
  subst hi
  refine ⟨⟨(bw, 0), [0, 1, 2, 1006], rfl, rfl, ?_, ?_, ?_, trivial⟩, ?_⟩
  · refine Eq.mpr (β := ({ o := g.bs, ro := false : Blk } = { o := g.bs, ro := false : Blk } ∧ 0 = 0) ∧ (g.bc = g.bc ∧ 0 = 0) ∧ (g.bb = g.bb ∧ g.off = g.off ∧ 64 = 64 ∧ g.cap = g.cap ∧ g.z = g.z) ∧ ({ o := bw, ro := false : Blk } = { o := bw, ro := false : Blk } ∧ 0 = 0) ∧ Value.int IntKind.i64 16 = Value.int IntKind.i64 (16 + (↑0 : Int)) ∧ True) (by kernel_rfl) (And.intro (And.intro (rfl) (rfl)) (And.intro (And.intro (rfl) (rfl)) (And.intro (And.intro (rfl) (And.intro (rfl) (And.intro (rfl) (And.intro (rfl) (rfl))))) (And.intro (And.intro (rfl) (rfl)) (And.intro (intE (by omega)) (trivial))))))
  · refine Eq.mpr (β := ({ o := g.bs, ro := false : Blk } = { o := g.bs, ro := false : Blk } ∧ g.y1 = g.y1 ∧ (IntKind.u32 = IntKind.u32 ∧ 8 = 8 ∧ g.S = g.S) ∧ True) ∧ (g.bc = g.bc ∧ g.y2 = g.y2 ∧ (IntKind.u32 = IntKind.u32 ∧ 64 = 64 ∧ K0 = K0) ∧ (IntKind.u32 = IntKind.u32 ∧ 8 = 8 ∧ g.H = g.H) ∧ True) ∧ (g.bb = g.bb ∧ g.y3 = g.y3 ∧ (IntKind.u8 = IntKind.u8 ∧ g.n = g.n ∧ g.B = g.B) ∧ True) ∧ ({ o := bw, ro := false : Blk } = { o := bw, ro := false : Blk } ∧ 63 = 63 ∧ (IntKind.u32 = IntKind.u32 ∧ 64 = 64 ∧ sch0 g.B g.off 16 = sch1 (sch0 g.B g.off 16) 0) ∧ True) ∧ True) (by kernel_rfl) (And.intro (And.intro (rfl) (And.intro (rfl) (And.intro (And.intro (rfl) (And.intro (rfl) (rfl))) (trivial)))) (And.intro (And.intro (rfl) (And.intro (rfl) (And.intro (And.intro (rfl) (And.intro (rfl) (rfl))) (And.intro (And.intro (rfl) (And.intro (rfl) (rfl))) (trivial))))) (And.intro (And.intro (rfl) (And.intro (rfl) (And.intro (And.intro (rfl) (And.intro (rfl) (rfl))) (trivial)))) (And.intro (And.intro (rfl) (And.intro (rfl) (And.intro (And.intro (rfl) (And.intro (rfl) (?_))) (trivial)))) (trivial)))))
    rw [sch1_zero]
  · refine Eq.mpr (β := 0 ≤ 48) (by kernel_rfl) (by omega)
  rintro ⟨bw, i⟩ hi
  have hi : i ≤ 48 := hi
  refine ⟨fun hlt => ?_, fun hge => ?_⟩
  · have hlt : (16 + (i : Int)) < 64 := of_decide_eq_true hlt
    refine And.intro (by kernel_rfl) ?_
    refine And.intro (by omega) ?_
    refine And.intro (by omega) ?_
    refine And.intro ⟨rfl, by omega⟩ ?_
    refine And.intro (by omega) ?_
    refine And.intro (by omega) ?_
    refine And.intro ⟨rfl, by omega⟩ ?_
    refine And.intro (by kernel_rfl) ?_
    refine And.intro (by omega) ?_
    refine And.intro (by omega) ?_
    refine And.intro ⟨rfl, by omega⟩ ?_
    refine And.intro (by omega) ?_
    refine And.intro (by omega) ?_
    refine And.intro ⟨rfl, by omega⟩ ?_
    refine And.intro (by omega) ?_
    refine And.intro (by omega) ?_
    refine And.intro (And.intro (And.intro (rfl) (And.intro (rfl) (trivial))) (And.intro (And.intro (trivial) (rfl)) (And.intro (rfl) (And.intro (rfl) (And.intro (rfl) (And.intro (rfl) (trivial))))))) (fun (_ : Unit) _ => ?_)
    refine And.intro (And.intro (And.intro (rfl) (And.intro (rfl) (trivial))) (And.intro (And.intro (trivial) (rfl)) (And.intro (rfl) (And.intro (rfl) (And.intro (rfl) (And.intro (rfl) (trivial))))))) (fun (_ : Unit) _ => ?_)
    refine And.intro (And.intro (And.intro (rfl) (And.intro (rfl) (trivial))) (And.intro (And.intro (trivial) (rfl)) (And.intro (rfl) (And.intro (rfl) (And.intro (rfl) (And.intro (rfl) (trivial))))))) (fun (_ : Unit) _ => ?_)
    refine And.intro (And.intro (And.intro (rfl) (And.intro (rfl) (trivial))) (And.intro (And.intro (trivial) (rfl)) (And.intro (rfl) (And.intro (rfl) (And.intro (rfl) (And.intro (rfl) (trivial))))))) (fun (_ : Unit) _ => ?_)
    refine And.intro (by omega) ?_
    refine And.intro ⟨⟨rfl, rfl⟩, by omega⟩ ?_
    refine And.intro (by omega) ?_
    refine ⟨(bw, i + 1), [0, 1, 2, 1006], rfl, rfl, ?_, ?_, ?_, ?_⟩
    · refine Eq.mpr (β := ({ o := g.bs, ro := false : Blk } = { o := g.bs, ro := false : Blk } ∧ 0 = 0) ∧ (g.bc = g.bc ∧ 0 = 0) ∧ (g.bb = g.bb ∧ g.off = g.off ∧ 64 = 64 ∧ g.cap = g.cap ∧ g.z = g.z) ∧ ({ o := bw, ro := false : Blk } = { o := bw, ro := false : Blk } ∧ 0 = 0) ∧ Value.int IntKind.i64 (16 + (↑i : Int) + 1) = Value.int IntKind.i64 (16 + (↑(i + 1) : Int)) ∧ True) (by kernel_rfl) (And.intro (And.intro (rfl) (rfl)) (And.intro (And.intro (rfl) (rfl)) (And.intro (And.intro (rfl) (And.intro (rfl) (And.intro (rfl) (And.intro (rfl) (rfl))))) (And.intro (And.intro (rfl) (rfl)) (And.intro (intE (by omega)) (trivial))))))
    · refine Eq.mpr (β := ({ o := g.bs, ro := false : Blk } = { o := g.bs, ro := false : Blk } ∧ g.y1 = g.y1 ∧ (IntKind.u32 = IntKind.u32 ∧ 8 = 8 ∧ g.S = g.S) ∧ True) ∧ (g.bc = g.bc ∧ g.y2 = g.y2 ∧ (IntKind.u32 = IntKind.u32 ∧ 64 = 64 ∧ K0 = K0) ∧ (IntKind.u32 = IntKind.u32 ∧ 8 = 8 ∧ g.H = g.H) ∧ True) ∧ (g.bb = g.bb ∧ g.y3 = g.y3 ∧ (IntKind.u8 = IntKind.u8 ∧ g.n = g.n ∧ g.B = g.B) ∧ True) ∧ ({ o := bw, ro := false : Blk } = { o := bw, ro := false : Blk } ∧ 63 = 63 ∧ (IntKind.u32 = IntKind.u32 ∧ 64 = 64 ∧ List.set (sch1 (sch0 g.B g.off 16) i) (0 + Int.toNat (16 + (↑i : Int)) * 1) (iadd IntKind.u32 (iadd IntKind.u32 (iadd IntKind.u32 (List.getD (sch1 (sch0 g.B g.off 16) i) (0 + Int.toNat (16 + (↑i : Int) - 16) * 1) 0) (List.getD (sch1 (sch0 g.B g.off 16) i) (0 + Int.toNat (16 + (↑i : Int) - 7) * 1) 0)) (ixor IntKind.u32 (ixor IntKind.u32 (rotl (List.getD (sch1 (sch0 g.B g.off 16) i) (0 + Int.toNat (16 + (↑i : Int) - 15) * 1) 0) (-7)) (rotl (List.getD (sch1 (sch0 g.B g.off 16) i) (0 + Int.toNat (16 + (↑i : Int) - 15) * 1) 0) (-18))) (ishr IntKind.u32 (List.getD (sch1 (sch0 g.B g.off 16) i) (0 + Int.toNat (16 + (↑i : Int) - 15) * 1) 0) 3))) (ixor IntKind.u32 (ixor IntKind.u32 (rotl (List.getD (sch1 (sch0 g.B g.off 16) i) (0 + Int.toNat (16 + (↑i : Int) - 2) * 1) 0) (-17)) (rotl (List.getD (sch1 (sch0 g.B g.off 16) i) (0 + Int.toNat (16 + (↑i : Int) - 2) * 1) 0) (-19))) (ishr IntKind.u32 (List.getD (sch1 (sch0 g.B g.off 16) i) (0 + Int.toNat (16 + (↑i : Int) - 2) * 1) 0) 10))) = sch1 (sch0 g.B g.off 16) (i + 1)) ∧ True) ∧ True) (by kernel_rfl) (And.intro (And.intro (rfl) (And.intro (rfl) (And.intro (And.intro (rfl) (And.intro (rfl) (rfl))) (trivial)))) (And.intro (And.intro (rfl) (And.intro (rfl) (And.intro (And.intro (rfl) (And.intro (rfl) (rfl))) (And.intro (And.intro (rfl) (And.intro (rfl) (rfl))) (trivial))))) (And.intro (And.intro (rfl) (And.intro (rfl) (And.intro (And.intro (rfl) (And.intro (rfl) (rfl))) (trivial)))) (And.intro (And.intro (rfl) (And.intro (rfl) (And.intro (And.intro (rfl) (And.intro (rfl) (?_))) (trivial)))) (trivial)))))
      have e : 0 + (16 + (i : Int)).toNat * 1 = 16 + i := by omega
      have e0 : 0 + (16 + (i : Int) - 16).toNat * 1 = 16 + i - 16 := by omega
      have e1 : 0 + (16 + (i : Int) - 7).toNat * 1 = 16 + i - 7 := by omega
      have e2 : 0 + (16 + (i : Int) - 15).toNat * 1 = 16 + i - 15 := by omega
      have e3 : 0 + (16 + (i : Int) - 2).toNat * 1 = 16 + i - 2 := by omega
      rw [e, e0, e1, e2, e3, sch1_succ, rl7, rl18, rl17, rl19]
      rfl
    · refine Eq.mpr (β := i + 1 ≤ 48) (by kernel_rfl) (by omega)
    · refine Eq.mpr (β := 48 - (i + 1) < 48 - i) (by kernel_rfl) (by omega)
  have hi : i = 48 := by
    have : ¬((16 + (i : Int)) < 64) := of_decide_eq_false hge
    omega
  subst hi
  refine And.intro (by kernel_rfl) ?_
  refine And.intro (by omega) ?_
  refine And.intro ⟨rfl, by omega⟩ ?_
  refine And.intro (by omega) ?_
  refine And.intro ⟨rfl, by omega⟩ ?_
  refine And.intro (by omega) ?_
  refine And.intro ⟨rfl, by omega⟩ ?_
  refine And.intro (by omega) ?_
  refine And.intro ⟨rfl, by omega⟩ ?_
  refine And.intro (by kernel_rfl) ?_
  refine And.intro (by omega) ?_
  refine And.intro ⟨rfl, by omega⟩ ?_
  refine And.intro (by omega) ?_
  refine And.intro ⟨rfl, by omega⟩ ?_
  refine And.intro (by omega) ?_
  refine And.intro ⟨rfl, by omega⟩ ?_
  refine And.intro (by omega) ?_
  refine And.intro ⟨rfl, by omega⟩ ?_
  refine And.intro rfl ?_
  refine ⟨⟨(bw, 0), [0, 1, 2, 1006], rfl, rfl, ?_, ?_, ?_, trivial⟩, ?_⟩
  · refine Eq.mpr (β := ({ o := g.bs, ro := false : Blk } = { o := g.bs, ro := false : Blk } ∧ 0 = 0) ∧ (g.bc = g.bc ∧ 0 = 0) ∧ (g.bb = g.bb ∧ g.off = g.off ∧ 64 = 64 ∧ g.cap = g.cap ∧ g.z = g.z) ∧ ({ o := bw, ro := false : Blk } = { o := bw, ro := false : Blk } ∧ 0 = 0) ∧ ((IntKind.u32 = IntKind.u32 ∧ 63 + 1 = 64 ∧ List.take (63 + 1) (List.drop (0 + 0) K0) = K0) ∧ True) ∧ Value.int IntKind.i64 0 = Value.int IntKind.i64 (↑0 : Int) ∧ Value.int IntKind.u32 (List.getD g.S (0 + Int.toNat 0 * 1) 0) = Value.int IntKind.u32 (rounds K0 (sched g.B g.off) (ofL g.S) 0).a ∧ Value.int IntKind.u32 (List.getD g.S (0 + Int.toNat 1 * 1) 0) = Value.int IntKind.u32 (rounds K0 (sched g.B g.off) (ofL g.S) 0).b ∧ Value.int IntKind.u32 (List.getD g.S (0 + Int.toNat 2 * 1) 0) = Value.int IntKind.u32 (rounds K0 (sched g.B g.off) (ofL g.S) 0).c ∧ Value.int IntKind.u32 (List.getD g.S (0 + Int.toNat 3 * 1) 0) = Value.int IntKind.u32 (rounds K0 (sched g.B g.off) (ofL g.S) 0).d ∧ Value.int IntKind.u32 (List.getD g.S (0 + Int.toNat 4 * 1) 0) = Value.int IntKind.u32 (rounds K0 (sched g.B g.off) (ofL g.S) 0).e ∧ Value.int IntKind.u32 (List.getD g.S (0 + Int.toNat 5 * 1) 0) = Value.int IntKind.u32 (rounds K0 (sched g.B g.off) (ofL g.S) 0).f ∧ Value.int IntKind.u32 (List.getD g.S (0 + Int.toNat 6 * 1) 0) = Value.int IntKind.u32 (rounds K0 (sched g.B g.off) (ofL g.S) 0).g ∧ Value.int IntKind.u32 (List.getD g.S (0 + Int.toNat 7 * 1) 0) = Value.int IntKind.u32 (rounds K0 (sched g.B g.off) (ofL g.S) 0).h ∧ True) (by kernel_rfl) (And.intro (And.intro (rfl) (rfl)) (And.intro (And.intro (rfl) (rfl)) (And.intro (And.intro (rfl) (And.intro (rfl) (And.intro (rfl) (And.intro (rfl) (rfl))))) (And.intro (And.intro (rfl) (rfl)) (And.intro (And.intro (And.intro (rfl) (And.intro (rfl) (?_))) (trivial)) (And.intro (intE (by omega)) (And.intro (?_) (And.intro (?_) (And.intro (?_) (And.intro (?_) (And.intro (?_) (And.intro (?_) (And.intro (?_) (And.intro (?_) (trivial)))))))))))))))
    · rfl
    all_goals (rw [rounds_zero]; rfl)
  · refine Eq.mpr (β := ({ o := g.bs, ro := false : Blk } = { o := g.bs, ro := false : Blk } ∧ g.y1 = g.y1 ∧ (IntKind.u32 = IntKind.u32 ∧ 8 = 8 ∧ g.S = g.S) ∧ True) ∧ (g.bc = g.bc ∧ g.y2 = g.y2 ∧ (IntKind.u32 = IntKind.u32 ∧ 64 = 64 ∧ K0 = K0) ∧ (IntKind.u32 = IntKind.u32 ∧ 8 = 8 ∧ g.H = g.H) ∧ True) ∧ (g.bb = g.bb ∧ g.y3 = g.y3 ∧ (IntKind.u8 = IntKind.u8 ∧ g.n = g.n ∧ g.B = g.B) ∧ True) ∧ ({ o := bw, ro := false : Blk } = { o := bw, ro := false : Blk } ∧ 63 = 63 ∧ (IntKind.u32 = IntKind.u32 ∧ 64 = 64 ∧ sch1 (sch0 g.B g.off 16) 48 = sched g.B g.off) ∧ True) ∧ True) (by kernel_rfl) (And.intro (And.intro (rfl) (And.intro (rfl) (And.intro (And.intro (rfl) (And.intro (rfl) (rfl))) (trivial)))) (And.intro (And.intro (rfl) (And.intro (rfl) (And.intro (And.intro (rfl) (And.intro (rfl) (rfl))) (And.intro (And.intro (rfl) (And.intro (rfl) (rfl))) (trivial))))) (And.intro (And.intro (rfl) (And.intro (rfl) (And.intro (And.intro (rfl) (And.intro (rfl) (rfl))) (trivial)))) (And.intro (And.intro (rfl) (And.intro (rfl) (And.intro (And.intro (rfl) (And.intro (rfl) (?_))) (trivial)))) (trivial)))))
    rw [sched_eq]
  · refine Eq.mpr (β := 0 ≤ 64) (by kernel_rfl) (by omega)
  rintro ⟨bw, i⟩ hi
  have hi : i ≤ 64 := hi
  refine ⟨fun hlt => ?_, fun hge => ?_⟩
  · have hlt : (i : Int) < 64 := of_decide_eq_true hlt
    refine And.intro (by omega) ?_
    refine And.intro (by kernel_rfl) ?_
    refine And.intro (by omega) ?_
    refine And.intro ⟨rfl, by omega⟩ ?_
    refine And.intro (And.intro (And.intro (rfl) (And.intro (rfl) (trivial))) (And.intro (And.intro (trivial) (rfl)) (And.intro (rfl) (And.intro (rfl) (And.intro (rfl) (And.intro (rfl) (trivial))))))) (fun (_ : Unit) _ => ?_)
    refine And.intro (And.intro (And.intro (rfl) (And.intro (rfl) (trivial))) (And.intro (And.intro (trivial) (rfl)) (And.intro (rfl) (And.intro (rfl) (And.intro (rfl) (And.intro (rfl) (trivial))))))) (fun (_ : Unit) _ => ?_)
    refine And.intro (And.intro (And.intro (rfl) (And.intro (rfl) (trivial))) (And.intro (And.intro (trivial) (rfl)) (And.intro (rfl) (And.intro (rfl) (And.intro (rfl) (And.intro (rfl) (trivial))))))) (fun (_ : Unit) _ => ?_)
    refine And.intro (And.intro (And.intro (rfl) (And.intro (rfl) (trivial))) (And.intro (And.intro (trivial) (rfl)) (And.intro (rfl) (And.intro (rfl) (And.intro (rfl) (And.intro (rfl) (trivial))))))) (fun (_ : Unit) _ => ?_)
    refine And.intro (And.intro (And.intro (rfl) (And.intro (rfl) (trivial))) (And.intro (And.intro (trivial) (rfl)) (And.intro (rfl) (And.intro (rfl) (And.intro (rfl) (And.intro (rfl) (trivial))))))) (fun (_ : Unit) _ => ?_)
    refine And.intro (And.intro (And.intro (rfl) (And.intro (rfl) (trivial))) (And.intro (And.intro (trivial) (rfl)) (And.intro (rfl) (And.intro (rfl) (And.intro (rfl) (And.intro (rfl) (trivial))))))) (fun (_ : Unit) _ => ?_)
    refine And.intro (by omega) ?_
    have e : 0 + 0 + (i : Int).toNat * 1 = i := by omega
    have e' : 0 + (i : Int).toNat * 1 = i := by omega
    have e'' : (i : Int).toNat = i := by omega
    refine ⟨(bw, i + 1), [0, 1, 2, 1006], rfl, rfl, ?_, ?_, ?_, ?_⟩
    · refine Eq.mpr (β := ({ o := g.bs, ro := false : Blk } = { o := g.bs, ro := false : Blk } ∧ 0 = 0) ∧ (g.bc = g.bc ∧ 0 = 0) ∧ (g.bb = g.bb ∧ g.off = g.off ∧ 64 = 64 ∧ g.cap = g.cap ∧ g.z = g.z) ∧ ({ o := bw, ro := false : Blk } = { o := bw, ro := false : Blk } ∧ 0 = 0) ∧ ((IntKind.u32 = IntKind.u32 ∧ 64 = 64 ∧ K0 = K0) ∧ True) ∧ Value.int IntKind.i64 ((↑i : Int) + 1) = Value.int IntKind.i64 (↑(i + 1) : Int) ∧ Value.int IntKind.u32 (iadd IntKind.u32 (iadd IntKind.u32 (iadd IntKind.u32 (iadd IntKind.u32 (iadd IntKind.u32 (rounds K0 (sched g.B g.off) (ofL g.S) i).h (ixor IntKind.u32 (ixor IntKind.u32 (rotl (rounds K0 (sched g.B g.off) (ofL g.S) i).e (-6)) (rotl (rounds K0 (sched g.B g.off) (ofL g.S) i).e (-11))) (rotl (rounds K0 (sched g.B g.off) (ofL g.S) i).e (-25)))) (ixor IntKind.u32 (iand IntKind.u32 (rounds K0 (sched g.B g.off) (ofL g.S) i).e (rounds K0 (sched g.B g.off) (ofL g.S) i).f) (iand IntKind.u32 (inot IntKind.u32 (rounds K0 (sched g.B g.off) (ofL g.S) i).e) (rounds K0 (sched g.B g.off) (ofL g.S) i).g))) (List.getD K0 (Int.toNat (↑i : Int)) 0)) (List.getD (sched g.B g.off) (0 + Int.toNat (↑i : Int) * 1) 0)) (iadd IntKind.u32 (ixor IntKind.u32 (ixor IntKind.u32 (rotl (rounds K0 (sched g.B g.off) (ofL g.S) i).a (-2)) (rotl (rounds K0 (sched g.B g.off) (ofL g.S) i).a (-13))) (rotl (rounds K0 (sched g.B g.off) (ofL g.S) i).a (-22))) (ixor IntKind.u32 (ixor IntKind.u32 (iand IntKind.u32 (rounds K0 (sched g.B g.off) (ofL g.S) i).a (rounds K0 (sched g.B g.off) (ofL g.S) i).b) (iand IntKind.u32 (rounds K0 (sched g.B g.off) (ofL g.S) i).a (rounds K0 (sched g.B g.off) (ofL g.S) i).c)) (iand IntKind.u32 (rounds K0 (sched g.B g.off) (ofL g.S) i).b (rounds K0 (sched g.B g.off) (ofL g.S) i).c)))) = Value.int IntKind.u32 (rounds K0 (sched g.B g.off) (ofL g.S) (i + 1)).a ∧ Value.int IntKind.u32 (rounds K0 (sched g.B g.off) (ofL g.S) i).a = Value.int IntKind.u32 (rounds K0 (sched g.B g.off) (ofL g.S) (i + 1)).b ∧ Value.int IntKind.u32 (rounds K0 (sched g.B g.off) (ofL g.S) i).b = Value.int IntKind.u32 (rounds K0 (sched g.B g.off) (ofL g.S) (i + 1)).c ∧ Value.int IntKind.u32 (rounds K0 (sched g.B g.off) (ofL g.S) i).c = Value.int IntKind.u32 (rounds K0 (sched g.B g.off) (ofL g.S) (i + 1)).d ∧ Value.int IntKind.u32 (iadd IntKind.u32 (rounds K0 (sched g.B g.off) (ofL g.S) i).d (iadd IntKind.u32 (iadd IntKind.u32 (iadd IntKind.u32 (iadd IntKind.u32 (rounds K0 (sched g.B g.off) (ofL g.S) i).h (ixor IntKind.u32 (ixor IntKind.u32 (rotl (rounds K0 (sched g.B g.off) (ofL g.S) i).e (-6)) (rotl (rounds K0 (sched g.B g.off) (ofL g.S) i).e (-11))) (rotl (rounds K0 (sched g.B g.off) (ofL g.S) i).e (-25)))) (ixor IntKind.u32 (iand IntKind.u32 (rounds K0 (sched g.B g.off) (ofL g.S) i).e (rounds K0 (sched g.B g.off) (ofL g.S) i).f) (iand IntKind.u32 (inot IntKind.u32 (rounds K0 (sched g.B g.off) (ofL g.S) i).e) (rounds K0 (sched g.B g.off) (ofL g.S) i).g))) (List.getD K0 (Int.toNat (↑i : Int)) 0)) (List.getD (sched g.B g.off) (0 + Int.toNat (↑i : Int) * 1) 0))) = Value.int IntKind.u32 (rounds K0 (sched g.B g.off) (ofL g.S) (i + 1)).e ∧ Value.int IntKind.u32 (rounds K0 (sched g.B g.off) (ofL g.S) i).e = Value.int IntKind.u32 (rounds K0 (sched g.B g.off) (ofL g.S) (i + 1)).f ∧ Value.int IntKind.u32 (rounds K0 (sched g.B g.off) (ofL g.S) i).f = Value.int IntKind.u32 (rounds K0 (sched g.B g.off) (ofL g.S) (i + 1)).g ∧ Value.int IntKind.u32 (rounds K0 (sched g.B g.off) (ofL g.S) i).g = Value.int IntKind.u32 (rounds K0 (sched g.B g.off) (ofL g.S) (i + 1)).h ∧ True) (by kernel_rfl) (And.intro (And.intro (rfl) (rfl)) (And.intro (And.intro (rfl) (rfl)) (And.intro (And.intro (rfl) (And.intro (rfl) (And.intro (rfl) (And.intro (rfl) (rfl))))) (And.intro (And.intro (rfl) (rfl)) (And.intro (And.intro (And.intro (rfl) (And.intro (rfl) (rfl))) (trivial)) (And.intro (intE (by omega)) (And.intro (?_) (And.intro (?_) (And.intro (?_) (And.intro (?_) (And.intro (?_) (And.intro (?_) (And.intro (?_) (And.intro (?_) (trivial)))))))))))))))
      all_goals rw [rounds_succ]
      all_goals try simp only [rl6, rl11, rl25, rl2, rl13, rl22, e, e', e'', Nat.zero_add, Nat.mul_one]
      all_goals rfl
    · refine Eq.mpr (β := ({ o := g.bs, ro := false : Blk } = { o := g.bs, ro := false : Blk } ∧ g.y1 = g.y1 ∧ (IntKind.u32 = IntKind.u32 ∧ 8 = 8 ∧ g.S = g.S) ∧ True) ∧ (g.bc = g.bc ∧ g.y2 = g.y2 ∧ (IntKind.u32 = IntKind.u32 ∧ 64 = 64 ∧ K0 = K0) ∧ (IntKind.u32 = IntKind.u32 ∧ 8 = 8 ∧ g.H = g.H) ∧ True) ∧ (g.bb = g.bb ∧ g.y3 = g.y3 ∧ (IntKind.u8 = IntKind.u8 ∧ g.n = g.n ∧ g.B = g.B) ∧ True) ∧ ({ o := bw, ro := false : Blk } = { o := bw, ro := false : Blk } ∧ 63 = 63 ∧ (IntKind.u32 = IntKind.u32 ∧ 64 = 64 ∧ sched g.B g.off = sched g.B g.off) ∧ True) ∧ True) (by kernel_rfl) (And.intro (And.intro (rfl) (And.intro (rfl) (And.intro (And.intro (rfl) (And.intro (rfl) (rfl))) (trivial)))) (And.intro (And.intro (rfl) (And.intro (rfl) (And.intro (And.intro (rfl) (And.intro (rfl) (rfl))) (And.intro (And.intro (rfl) (And.intro (rfl) (rfl))) (trivial))))) (And.intro (And.intro (rfl) (And.intro (rfl) (And.intro (And.intro (rfl) (And.intro (rfl) (rfl))) (trivial)))) (And.intro (And.intro (rfl) (And.intro (rfl) (And.intro (And.intro (rfl) (And.intro (rfl) (rfl))) (trivial)))) (trivial)))))
    · refine Eq.mpr (β := i + 1 ≤ 64) (by kernel_rfl) (by omega)
    · refine Eq.mpr (β := 64 - (i + 1) < 64 - i) (by kernel_rfl) (by omega)
  have hi : i = 64 := by
    have : ¬((i : Int) < 64) := of_decide_eq_false hge
    omega
  subst hi
  skip
  refine ⟨⟨(bw, 0), [0, 1, 2, 1006], rfl, rfl, ?_, ?_, ?_, trivial⟩, ?_⟩
  · refine Eq.mpr (β := ({ o := g.bs, ro := false : Blk } = { o := g.bs, ro := false : Blk } ∧ 0 = 0) ∧ (g.bc = g.bc ∧ 0 = 0) ∧ (g.bb = g.bb ∧ g.off = g.off ∧ 64 = 64 ∧ g.cap = g.cap ∧ g.z = g.z) ∧ ({ o := bw, ro := false : Blk } = { o := bw, ro := false : Blk } ∧ 0 = 0) ∧ ((IntKind.u32 = IntKind.u32 ∧ 8 = 8 ∧ [(rounds K0 (sched g.B g.off) (ofL g.S) 64).a, (rounds K0 (sched g.B g.off) (ofL g.S) 64).b, (rounds K0 (sched g.B g.off) (ofL g.S) 64).c, (rounds K0 (sched g.B g.off) (ofL g.S) 64).d, (rounds K0 (sched g.B g.off) (ofL g.S) 64).e, (rounds K0 (sched g.B g.off) (ofL g.S) 64).f, (rounds K0 (sched g.B g.off) (ofL g.S) 64).g, (rounds K0 (sched g.B g.off) (ofL g.S) 64).h] = S8.toL (rounds K0 (sched g.B g.off) (ofL g.S) 64)) ∧ True) ∧ Value.int IntKind.i64 0 = Value.int IntKind.i64 (↑0 : Int) ∧ True) (by kernel_rfl) (And.intro (And.intro (rfl) (rfl)) (And.intro (And.intro (rfl) (rfl)) (And.intro (And.intro (rfl) (And.intro (rfl) (And.intro (rfl) (And.intro (rfl) (rfl))))) (And.intro (And.intro (rfl) (rfl)) (And.intro (And.intro (And.intro (rfl) (And.intro (rfl) (?_))) (trivial)) (And.intro (intE (by omega)) (trivial)))))))
    rfl
  · refine Eq.mpr (β := ({ o := g.bs, ro := false : Blk } = { o := g.bs, ro := false : Blk } ∧ g.y1 = g.y1 ∧ (IntKind.u32 = IntKind.u32 ∧ 8 = 8 ∧ g.S = addL (S8.toL (rounds K0 (sched g.B g.off) (ofL g.S) 64)) g.S 0) ∧ True) ∧ (g.bc = g.bc ∧ g.y2 = g.y2 ∧ (IntKind.u32 = IntKind.u32 ∧ 64 = 64 ∧ K0 = K0) ∧ (IntKind.u32 = IntKind.u32 ∧ 8 = 8 ∧ g.H = g.H) ∧ True) ∧ (g.bb = g.bb ∧ g.y3 = g.y3 ∧ (IntKind.u8 = IntKind.u8 ∧ g.n = g.n ∧ g.B = g.B) ∧ True) ∧ ({ o := bw, ro := false : Blk } = { o := bw, ro := false : Blk } ∧ 63 = 63 ∧ (IntKind.u32 = IntKind.u32 ∧ 64 = 64 ∧ sched g.B g.off = sched g.B g.off) ∧ True) ∧ True) (by kernel_rfl) (And.intro (And.intro (rfl) (And.intro (rfl) (And.intro (And.intro (rfl) (And.intro (rfl) (?_))) (trivial)))) (And.intro (And.intro (rfl) (And.intro (rfl) (And.intro (And.intro (rfl) (And.intro (rfl) (rfl))) (And.intro (And.intro (rfl) (And.intro (rfl) (rfl))) (trivial))))) (And.intro (And.intro (rfl) (And.intro (rfl) (And.intro (And.intro (rfl) (And.intro (rfl) (rfl))) (trivial)))) (And.intro (And.intro (rfl) (And.intro (rfl) (And.intro (And.intro (rfl) (And.intro (rfl) (rfl))) (trivial)))) (trivial)))))
    rw [addL_zero]
  · refine Eq.mpr (β := 0 ≤ 8) (by kernel_rfl) (by omega)
  rintro ⟨bw, i⟩ hi
  have hi : i ≤ 8 := hi
  refine ⟨fun hlt => ?_, fun hge => ?_⟩
  · have hlt : (i : Int) < 8 := of_decide_eq_true hlt
    refine And.intro (by omega) ?_
    refine And.intro (by kernel_rfl) ?_
    refine And.intro (by omega) ?_
    refine And.intro ⟨rfl, by omega⟩ ?_
    refine And.intro (by omega) ?_
    refine And.intro ⟨⟨rfl, rfl⟩, by omega⟩ ?_
    refine And.intro (by omega) ?_
    have e' : 0 + (i : Int).toNat * 1 = i := by omega
    have e'' : (i : Int).toNat = i := by omega
    refine ⟨(bw, i + 1), [0, 1, 2, 1006], rfl, rfl, ?_, ?_, ?_, ?_⟩
    · refine Eq.mpr (β := ({ o := g.bs, ro := false : Blk } = { o := g.bs, ro := false : Blk } ∧ 0 = 0) ∧ (g.bc = g.bc ∧ 0 = 0) ∧ (g.bb = g.bb ∧ g.off = g.off ∧ 64 = 64 ∧ g.cap = g.cap ∧ g.z = g.z) ∧ ({ o := bw, ro := false : Blk } = { o := bw, ro := false : Blk } ∧ 0 = 0) ∧ ((IntKind.u32 = IntKind.u32 ∧ 8 = 8 ∧ S8.toL (rounds K0 (sched g.B g.off) (ofL g.S) 64) = S8.toL (rounds K0 (sched g.B g.off) (ofL g.S) 64)) ∧ True) ∧ Value.int IntKind.i64 ((↑i : Int) + 1) = Value.int IntKind.i64 (↑(i + 1) : Int) ∧ True) (by kernel_rfl) (And.intro (And.intro (rfl) (rfl)) (And.intro (And.intro (rfl) (rfl)) (And.intro (And.intro (rfl) (And.intro (rfl) (And.intro (rfl) (And.intro (rfl) (rfl))))) (And.intro (And.intro (rfl) (rfl)) (And.intro (And.intro (And.intro (rfl) (And.intro (rfl) (rfl))) (trivial)) (And.intro (intE (by omega)) (trivial)))))))
    · refine Eq.mpr (β := ({ o := g.bs, ro := false : Blk } = { o := g.bs, ro := false : Blk } ∧ g.y1 = g.y1 ∧ (IntKind.u32 = IntKind.u32 ∧ 8 = 8 ∧ List.set (addL (S8.toL (rounds K0 (sched g.B g.off) (ofL g.S) 64)) g.S i) (0 + Int.toNat (↑i : Int) * 1) (iadd IntKind.u32 (List.getD (addL (S8.toL (rounds K0 (sched g.B g.off) (ofL g.S) 64)) g.S i) (0 + Int.toNat (↑i : Int) * 1) 0) (List.getD (S8.toL (rounds K0 (sched g.B g.off) (ofL g.S) 64)) (Int.toNat (↑i : Int)) 0)) = addL (S8.toL (rounds K0 (sched g.B g.off) (ofL g.S) 64)) g.S (i + 1)) ∧ True) ∧ (g.bc = g.bc ∧ g.y2 = g.y2 ∧ (IntKind.u32 = IntKind.u32 ∧ 64 = 64 ∧ K0 = K0) ∧ (IntKind.u32 = IntKind.u32 ∧ 8 = 8 ∧ g.H = g.H) ∧ True) ∧ (g.bb = g.bb ∧ g.y3 = g.y3 ∧ (IntKind.u8 = IntKind.u8 ∧ g.n = g.n ∧ g.B = g.B) ∧ True) ∧ ({ o := bw, ro := false : Blk } = { o := bw, ro := false : Blk } ∧ 63 = 63 ∧ (IntKind.u32 = IntKind.u32 ∧ 64 = 64 ∧ sched g.B g.off = sched g.B g.off) ∧ True) ∧ True) (by kernel_rfl) (And.intro (And.intro (rfl) (And.intro (rfl) (And.intro (And.intro (rfl) (And.intro (rfl) (?_))) (trivial)))) (And.intro (And.intro (rfl) (And.intro (rfl) (And.intro (And.intro (rfl) (And.intro (rfl) (rfl))) (And.intro (And.intro (rfl) (And.intro (rfl) (rfl))) (trivial))))) (And.intro (And.intro (rfl) (And.intro (rfl) (And.intro (And.intro (rfl) (And.intro (rfl) (rfl))) (trivial)))) (And.intro (And.intro (rfl) (And.intro (rfl) (And.intro (And.intro (rfl) (And.intro (rfl) (rfl))) (trivial)))) (trivial)))))
      rw [e', e'', addL_succ]
    · refine Eq.mpr (β := i + 1 ≤ 8) (by kernel_rfl) (by omega)
    · refine Eq.mpr (β := 8 - (i + 1) < 8 - i) (by kernel_rfl) (by omega)
  have hi : i = 8 := by
    have : ¬((i : Int) < 8) := of_decide_eq_false hge
    omega
  subst hi
  refine ⟨(), [0, 1, 2], ?_, ?_, ?_, ?_, ?_⟩
  · refine Eq.mpr (β := True) (by kernel_rfl) (trivial)
  · rfl
  · rfl
  · refine Eq.mpr (β := ({ o := g.bs, ro := false : Blk } = { o := g.bs, ro := false : Blk } ∧ g.y1 = g.y1 ∧ (IntKind.u32 = IntKind.u32 ∧ 8 = 8 ∧ addL (S8.toL (rounds K0 (sched g.B g.off) (ofL g.S) 64)) g.S 8 = mixS K0 g.S g.B g.off) ∧ True) ∧ (g.bc = g.bc ∧ g.y2 = g.y2 ∧ (IntKind.u32 = IntKind.u32 ∧ 64 = 64 ∧ K0 = K0) ∧ (IntKind.u32 = IntKind.u32 ∧ 8 = 8 ∧ g.H = g.H) ∧ True) ∧ (g.bb = g.bb ∧ g.y3 = g.y3 ∧ (IntKind.u8 = IntKind.u8 ∧ g.n = g.n ∧ g.B = g.B) ∧ True) ∧ True) (by kernel_rfl) (And.intro (And.intro (rfl) (And.intro (rfl) (And.intro (And.intro (rfl) (And.intro (rfl) (?_))) (trivial)))) (And.intro (And.intro (rfl) (And.intro (rfl) (And.intro (And.intro (rfl) (And.intro (rfl) (rfl))) (And.intro (And.intro (rfl) (And.intro (rfl) (rfl))) (trivial))))) (And.intro (And.intro (rfl) (And.intro (rfl) (And.intro (And.intro (rfl) (And.intro (rfl) (rfl))) (trivial)))) (trivial))))
    rw [mixS_eq]
  · refine Eq.mpr (β := True) (by kernel_rfl) (trivial)

end Go.Proofs.Ytpggklkofilmfaa
