/- The reference's sum. -/
import Derived.Test.YtpggklkofilmfaaSha3
set_option linter.unusedSimpArgs false
set_option linter.unusedVariables false
namespace Go.Proofs.Ytpggklkofilmfaa
open Go Go.Ab
set_option maxRecDepth 100000

/-! ### Words -/
theorem wrap_u32 (x : Int) : IntKind.u32.wrap x = x % 4294967296 := by
  unfold IntKind.wrap
  simp only [IntKind.bits, IntKind.signed, Bool.false_and, Bool.false_eq_true, if_false]
  rfl
theorem iadd_assoc (x y z : Int) : iadd .u32 (iadd .u32 x y) z = iadd .u32 x (iadd .u32 y z) := by
  unfold iadd
  simp only [wrap_u32]
  omega
theorem iadd_comm (k : IntKind) (x y : Int) : iadd k x y = iadd k y x := by
  unfold iadd
  rw [Int.add_comm]
theorem iadd_right (x y z : Int) : iadd .u32 (iadd .u32 x y) z = iadd .u32 (iadd .u32 x z) y := by
  rw [iadd_assoc, iadd_comm .u32 y z, ← iadd_assoc]

theorem addL_eq (V S : List Int) : addL V S 8 = (((((((S.set 0 (iadd .u32 (S.getD 0 0) (V.getD 0 0))).set 1 (iadd .u32 (S.getD 1 0) (V.getD 1 0))).set 2 (iadd .u32 (S.getD 2 0) (V.getD 2 0))).set 3 (iadd .u32 (S.getD 3 0) (V.getD 3 0))).set 4 (iadd .u32 (S.getD 4 0) (V.getD 4 0))).set 5 (iadd .u32 (S.getD 5 0) (V.getD 5 0))).set 6 (iadd .u32 (S.getD 6 0) (V.getD 6 0))).set 7 (iadd .u32 (S.getD 7 0) (V.getD 7 0)) := by
  simp only [addL_succ, addL_zero, List.getD_eq_getElem?_getD, List.getElem?_set]
  simp

/-- The state behind so many blocks. -/
def runB (P : List Int) : Nat → List Int
  | 0 => H0
  | j + 1 => mixS K0 (runB P j) P (64 * j)
theorem runB_zero (P : List Int) : runB P 0 = H0 := rfl
theorem runB_succ (P : List Int) (j : Nat) : runB P (j + 1) = mixS K0 (runB P j) P (64 * j) := rfl
attribute [irreducible] runB
/-- The state's bytes. -/
def outB (S : List Int) (i : Nat) : Int := IntKind.u8.wrap (ishr .u32 (S.getD (i / 4) 0) (24 - 8 * ((i % 4 : Nat) : Int)))
def outL (S : List Int) : Nat → List Int
  | 0 => List.replicate 32 0
  | i + 1 => (outL S i).set i (outB S i)
theorem outL_zero (S : List Int) : outL S 0 = List.replicate 32 0 := rfl
theorem outL_succ (S : List Int) (i : Nat) : outL S (i + 1) = (outL S i).set i (outB S i) := rfl
theorem outL_len (S : List Int) : ∀ i, (outL S i).length = 32
  | 0 => by rw [outL_zero]; simp
  | i + 1 => by rw [outL_succ, List.length_set]; exact outL_len S i
attribute [irreducible] outL

/-- A mix looks at 64 numbers alone. -/
theorem sch0_congr {B B' : List Int} {o o' : Nat} (h : ∀ i, i < 64 → B.getD (o + i) 0 = B'.getD (o' + i) 0) : ∀ i, i ≤ 16 → sch0 B o i = sch0 B' o' i
  | 0, _ => by rw [sch0_zero, sch0_zero]
  | i + 1, hi => by
    rw [sch0_succ, sch0_succ, sch0_congr h i (by omega)]
    congr 1
    unfold wordAt
    have h0 := h (4 * i) (by omega)
    have h1 := h (4 * i + 1) (by omega)
    have h2 := h (4 * i + 2) (by omega)
    have h3 := h (4 * i + 3) (by omega)
    simp only [← Nat.add_assoc] at h0 h1 h2 h3
    rw [h0, h1, h2, h3]
theorem mixS_congr (K S : List Int) {B B' : List Int} {o o' : Nat} (h : ∀ i, i < 64 → B.getD (o + i) 0 = B'.getD (o' + i) 0) : mixS K S B o = mixS K S B' o' := by
  rw [mixS_eq, mixS_eq, sched_eq, sched_eq, sch0_congr h 16 (Nat.le_refl _)]

def padN (n : Nat) : Nat := n + 1 + padK n + 8
theorem padN_64 (n : Nat) : padN n % 64 = 0 := by unfold padN padK; omega
def sumL (l : List Int) (n : Nat) : List Int := outL (runB (padL l n) (padN n / 64)) 32

theorem schW_ref (W : List Int) (i : Nat) : iadd .u32 (iadd .u32 (iadd .u32 (W.getD (i - 16) 0) (sig (W.getD (i - 15) 0) 7 18 3)) (W.getD (i - 7) 0)) (sig (W.getD (i - 2) 0) 17 19 10) = schW W i := by
  unfold schW
  rw [iadd_right (W.getD (i - 16) 0) (sig (W.getD (i - 15) 0) 7 18 3) (W.getD (i - 7) 0)]
theorem take_getD {L P : List Int} {off N : Nat} (h : (L.drop off).take N = P) {x : Nat} (hx : x < N) : L.getD (off + x) 0 = P.getD x 0 := by
  subst h
  simp [List.getD_eq_getElem?_getD, List.getElem?_take, List.getElem?_drop, hx]
/-! ### ambryref1.Sum -/
def con15 : FuncId → Option Con
  | 34 => some sp34.con
  | 35 => some sp35.con
  | 36 => some sp36.con
  | _ => none
def cx15 : Cx := ⟨tab, con15, 259, true⟩
theorem cx15_ok : CxOk Try.prog cx15 := ⟨tab_ok, fun f c h => by
  unfold cx15 con15 at h
  dsimp only at h
  split at h
  · cases h; exact conOk_of_spec fn34
  · cases h; exact conOk_of_spec fn35
  · cases h; exact conOk_of_spec fn36
  · cases h⟩
def spSum : FSpec where
  G := GS
  args g := [g.arg 0]
  hp g := [g.ent 0 .u8]
  pre g := g.ok ∧ g.n ≤ 1099511627776
  R _ := Unit
  post _ _ := True
  res g _ := .agg [.ints .u8 32 (sumL g.l g.n)]
  new _ _ := []
  upd _ _ := []
  news := []
  wr := false
  mt vs h := match vs with
    | [x] => match gsOf h x with
      | some (g, t) => some (g, [t])
      | none => none
    | _ => none
/-- What is open within. -/
structure Q15 where
  (b2 bS bK : BlkO)
  r : ApR
  j : Nat
def sl15 (g : GS) (q : Q15) (more : Sl) : Sl :=
  (0, g.arg 0) :: (2, .c (.ptr 1002 q.b2 0)) :: (3, .c (.ptr 1003 q.bS 0)) :: (4, .c (.ptr 1004 q.bK 0)) :: vS 5 5 (padN g.n) q.r :: (6, .int .i64 (64 * (q.j : Int))) :: more
def hp15 (g : GS) (q : Q15) (more : Hp) : Hp :=
  g.ent 0 .u8 :: (1002, q.b2, .cells 24 [.ints .u8 32 (List.replicate 32 0)]) :: (1003, q.bS, .cells 64 [.ints .u32 8 (runB (padL g.l g.n) q.j)]) :: (1004, q.bK, .cells 63 [.ints .u32 64 K0]) :: vH 5 .u8 q.r :: more
def s8Sl' (s : S8) : Sl := [(12, .int .u32 s.a), (13, .int .u32 s.b), (14, .int .u32 s.c), (15, .int .u32 s.d), (16, .int .u32 s.e), (17, .int .u32 s.f), (18, .int .u32 s.g), (19, .int .u32 s.h)]
def inv15o (g : GS) : Inv where
  G := Q15
  pre q := q.r.fits (padN g.n) (padL g.l g.n) ∧ q.j ≤ padN g.n / 64
  sl q := sl15 g q []
  hp q := hp15 g q []
  mu q := padN g.n / 64 - q.j
def inv15a (g : GS) (q : Q15) (bw : BlkO) : Inv where
  G := Nat
  pre i := i ≤ 16
  sl i := sl15 g q [(7, .c (.ptr 1007 bw 0)), (8, .int .i64 i)]
  hp i := hp15 g q [(1007, bw, .cells 63 [.ints .u32 64 (sch0 q.r.L (q.r.off + 64 * q.j) i)])]
  mu i := 16 - i
def inv15b (g : GS) (q : Q15) (bw : BlkO) : Inv where
  G := Nat
  pre i := i ≤ 48
  sl i := sl15 g q [(7, .c (.ptr 1007 bw 0)), (9, .int .i64 (16 + (i : Int)))]
  hp i := hp15 g q [(1007, bw, .cells 63 [.ints .u32 64 (sch1 (sch0 q.r.L (q.r.off + 64 * q.j) 16) i)])]
  mu i := 48 - i
def inv15c (g : GS) (q : Q15) (bw : BlkO) : Inv where
  G := Nat
  pre i := i ≤ 64
  sl i := sl15 g q ((7, .c (.ptr 1007 bw 0)) :: (20, .int .i64 i) :: s8Sl' (rounds K0 (sched q.r.L (q.r.off + 64 * q.j)) (ofL (runB (padL g.l g.n) q.j)) i))
  hp i := hp15 g q [(1007, bw, .cells 63 [.ints .u32 64 (sched q.r.L (q.r.off + 64 * q.j))])]
  mu i := 64 - i
def inv15d (g : GS) (b2 bS bo : BlkO) : Inv where
  G := Nat
  pre i := i ≤ 32
  sl i := [(0, g.arg 0), (2, .c (.ptr 1002 b2 0)), (3, .c (.ptr 1003 bS 0)), (23, .c (.ptr 1023 bo 0)), (24, .int .i64 i)]
  hp i := [g.ent 0 .u8, (1002, b2, .cells 24 [.ints .u8 32 (List.replicate 32 0)]), (1003, bS, .cells 64 [.ints .u32 8 (runB (padL g.l g.n) (padN g.n / 64))]),
    (1023, bo, .cells 24 [.ints .u8 32 (outL (runB (padL g.l g.n) (padN g.n / 64)) i)])]
  mu i := 32 - i
def nt15 : Notes := ⟨fun
    | 11 => some (List.range 44) | 15 => some (List.range 10) | 17 => some (List.range 24)
    | 16 => some [0, 1, 2, 3, 4, 5, 7, 10, 11, 14, 15, 16, 17, 19, 21, 24, 25, 6, 8, 9, 12, 13, 18, 20, 22, 23, 26, 27, 28, 29]
    | 21 => some [0, 1, 3, 6, 10, 11, 12, 13, 14, 15, 16, 17, 19, 20, 21, 23, 24, 25, 2, 4, 5, 7, 8, 9, 18, 22, 26, 27]
    | _ => none, fun _ => none, fun _ => none,
  [0, 2, 3, 4, 5, 6, 7, 8, 9, 10, 11, 12, 13, 14, 15, 16, 17, 18, 19, 20, 21, 22, 23, 24, 32, 36, 83, 140, 243]⟩

set_option maxHeartbeats 8000000 in
theorem fn15 : FnOk Try.prog 15 spSum := by
  refine fnOk_of_vc cx15_ok wide (nt := fun _ => nt15) Try.func15 rfl rfl (by kernel_rfl) (fuel := 1000) (fun _ => Nat.le_of_ble_eq_true rfl) (fun _ _ t h => h) (fun h => by cases h) ?_
  intro (g : GS) hpre
  have hn : g.n ≤ 1099511627776 := hpre.2
  have hpn : padN g.n ≤ 1099511627776 + 72 := by unfold padN padK; omega
  have hp64 := padN_64 g.n
  intro b2 _ bS _
  refine And.intro ⟨⟨rfl, rfl⟩, by omega⟩ ?_
  refine And.intro (And.intro (trivial) (And.intro (And.intro (trivial) (rfl)) (And.intro (rfl) (And.intro (rfl) (And.intro (rfl) (And.intro (rfl) (trivial))))))) (fun (_ : Unit) _ => ?_)
  intro bK _
  refine And.intro ⟨⟨rfl, rfl⟩, by omega⟩ ?_
  refine ⟨?_, ?_⟩
  · refine And.intro (And.intro (And.intro (rfl) (And.intro (rfl) (And.intro (rfl) (And.intro (rfl) (rfl))))) (trivial)) (And.intro (And.intro (And.intro (And.intro (rfl) (And.intro (rfl) (And.intro (And.intro (rfl) (And.intro (rfl) (rfl))) (trivial)))) (trivial)) (rfl)) (And.intro (rfl) (And.intro (rfl) (And.intro (rfl) (And.intro (rfl) (And.intro (?_) (?_)))))))
    · exact hpre.1
    · exact hpre.2
  intro r hr
  have hr : r.fits (padN g.n) (padL g.l g.n) := hr
  skip
  refine ⟨inv15o g, ⟨⟨b2, bS, bK, r, 0⟩, [0, 1002, 1003, 1004, 1028], rfl, rfl, ?_, ?_, ?_, trivial⟩, ?_⟩
  · refine Eq.mpr (β := (g.b = g.b ∧ g.off = g.off ∧ g.n = g.n ∧ g.c = g.c ∧ g.z = g.z) ∧ ({ o := b2, ro := false : Blk } = { o := b2, ro := false : Blk } ∧ 0 = 0) ∧ ({ o := bS, ro := false : Blk } = { o := bS, ro := false : Blk } ∧ 0 = 0) ∧ ({ o := bK, ro := false : Blk } = { o := bK, ro := false : Blk } ∧ 0 = 0) ∧ ({ o := r.b, ro := false : Blk } = { o := r.b, ro := false : Blk } ∧ r.off = r.off ∧ g.n + 1 + padK g.n + 8 = padN g.n ∧ r.cap = r.cap ∧ r.z = r.z) ∧ Value.int IntKind.i64 0 = Value.int IntKind.i64 (64 * (↑0 : Int)) ∧ True) (by kernel_rfl) (And.intro (And.intro (rfl) (And.intro (rfl) (And.intro (rfl) (And.intro (rfl) (rfl))))) (And.intro (And.intro (rfl) (rfl)) (And.intro (And.intro (rfl) (rfl)) (And.intro (And.intro (rfl) (rfl)) (And.intro (And.intro (rfl) (And.intro (rfl) (And.intro (?_) (And.intro (rfl) (rfl))))) (And.intro (intE (by omega)) (trivial)))))))
    rfl
  · refine Eq.mpr (β := (g.b = g.b ∧ g.y = g.y ∧ (IntKind.u8 = IntKind.u8 ∧ g.m = g.m ∧ g.B = g.B) ∧ True) ∧ ({ o := b2, ro := false : Blk } = { o := b2, ro := false : Blk } ∧ (24 : Nat) = (24 : TypeId) ∧ (IntKind.u8 = IntKind.u8 ∧ (32 : Nat) = (32 : Nat) ∧ List.replicate (32 : Nat) (0 : Int) = List.replicate (32 : Nat) (0 : Int)) ∧ True) ∧ ({ o := bS, ro := false : Blk } = { o := bS, ro := false : Blk } ∧ (64 : Nat) = (64 : TypeId) ∧ (IntKind.u32 = IntKind.u32 ∧ (8 : Nat) = (8 : Nat) ∧ List.take (0 : Nat) (List.replicate (8 : Nat) (0 : Int)) ++ [(1779033703 : Int), (3144134277 : Int), (1013904242 : Int), (2773480762 : Int), (1359893119 : Int), (2600822924 : Int), (528734635 : Int), (1541459225 : Int)] ++ List.drop ((0 : Nat) + (8 : Nat)) (List.replicate (8 : Nat) (0 : Int)) = runB (padL (GS.l g) g.n) (0 : Nat)) ∧ True) ∧ ({ o := bK, ro := false : Blk } = { o := bK, ro := false : Blk } ∧ (63 : Nat) = (63 : TypeId) ∧ (IntKind.u32 = IntKind.u32 ∧ (64 : Nat) = (64 : Nat) ∧ List.take (0 : Nat) (List.replicate (64 : Nat) (0 : Int)) ++ K0 ++ List.drop ((0 : Nat) + (64 : Nat)) (List.replicate (64 : Nat) (0 : Int)) = K0) ∧ True) ∧ ({ o := r.b, ro := false : Blk } = { o := r.b, ro := false : Blk } ∧ r.y = r.y ∧ (IntKind.u8 = IntKind.u8 ∧ r.m = r.m ∧ r.L = r.L) ∧ True) ∧ True) (by kernel_rfl) (And.intro (And.intro (rfl) (And.intro (rfl) (And.intro (And.intro (rfl) (And.intro (rfl) (rfl))) (trivial)))) (And.intro (And.intro (rfl) (And.intro (rfl) (And.intro (And.intro (rfl) (And.intro (rfl) (rfl))) (trivial)))) (And.intro (And.intro (rfl) (And.intro (rfl) (And.intro (And.intro (rfl) (And.intro (rfl) (?_))) (trivial)))) (And.intro (And.intro (rfl) (And.intro (rfl) (And.intro (And.intro (rfl) (And.intro (rfl) (?_))) (trivial)))) (And.intro (And.intro (rfl) (And.intro (rfl) (And.intro (And.intro (rfl) (And.intro (rfl) (rfl))) (trivial)))) (trivial))))))
    · rw [runB_zero]; rfl
    · rfl
  · exact ⟨hr, Nat.zero_le _⟩
  clear hr
  rintro ⟨b2, bS, bK, r, j⟩ ⟨hr, hj⟩
  have hr : r.fits (padN g.n) (padL g.l g.n) := hr
  have hj : j ≤ padN g.n / 64 := hj
  obtain ⟨r1, r2, r3, r4, r5⟩ := hr
  skip
  refine ⟨fun hlt => ?_, fun hge => ?_⟩
  · have hlt : (64 * (j : Int)) < (padN g.n : Int) := of_decide_eq_true hlt
    have hj' : j < padN g.n / 64 := by omega
    have hj64 : 64 * j + 64 ≤ padN g.n := by omega
    have hz : r.z = 0 := by omega
    intro bw _
    refine ⟨inv15a g ⟨b2, bS, bK, r, j⟩ bw, ⟨(0 : Nat), [0, 1002, 1003, 1004, 5, 1007], rfl, rfl, ?_, ?_, ?_, trivial⟩, ?_⟩
    · refine Eq.mpr (β := (g.b = g.b ∧ g.off = g.off ∧ g.n = g.n ∧ g.c = g.c ∧ g.z = g.z) ∧ ({ o := b2, ro := false : Blk } = { o := b2, ro := false : Blk } ∧ 0 = 0) ∧ ({ o := bS, ro := false : Blk } = { o := bS, ro := false : Blk } ∧ 0 = 0) ∧ ({ o := bK, ro := false : Blk } = { o := bK, ro := false : Blk } ∧ 0 = 0) ∧ ({ o := r.b, ro := false : Blk } = { o := r.b, ro := false : Blk } ∧ r.off = r.off ∧ padN g.n = padN g.n ∧ r.cap = r.cap ∧ r.z = r.z) ∧ Value.int IntKind.i64 (64 * (↑j : Int)) = Value.int IntKind.i64 (64 * (↑j : Int)) ∧ ({ o := bw, ro := false : Blk } = { o := bw, ro := false : Blk } ∧ 0 = 0) ∧ Value.int IntKind.i64 0 = Value.int IntKind.i64 (↑0 : Int) ∧ True) (by kernel_rfl) (And.intro (And.intro (rfl) (And.intro (rfl) (And.intro (rfl) (And.intro (rfl) (rfl))))) (And.intro (And.intro (rfl) (rfl)) (And.intro (And.intro (rfl) (rfl)) (And.intro (And.intro (rfl) (rfl)) (And.intro (And.intro (rfl) (And.intro (rfl) (And.intro (rfl) (And.intro (rfl) (rfl))))) (And.intro (rfl) (And.intro (And.intro (rfl) (rfl)) (And.intro (intE (by omega)) (trivial)))))))))
    · refine Eq.mpr (β := (g.b = g.b ∧ g.y = g.y ∧ (IntKind.u8 = IntKind.u8 ∧ g.m = g.m ∧ g.B = g.B) ∧ True) ∧ ({ o := b2, ro := false : Blk } = { o := b2, ro := false : Blk } ∧ (24 : TypeId) = (24 : TypeId) ∧ (IntKind.u8 = IntKind.u8 ∧ (32 : Nat) = (32 : Nat) ∧ List.replicate (32 : Nat) (0 : Int) = List.replicate (32 : Nat) (0 : Int)) ∧ True) ∧ ({ o := bS, ro := false : Blk } = { o := bS, ro := false : Blk } ∧ (64 : TypeId) = (64 : TypeId) ∧ (IntKind.u32 = IntKind.u32 ∧ (8 : Nat) = (8 : Nat) ∧ runB (padL (GS.l g) g.n) j = runB (padL (GS.l g) g.n) j) ∧ True) ∧ ({ o := bK, ro := false : Blk } = { o := bK, ro := false : Blk } ∧ (63 : TypeId) = (63 : TypeId) ∧ (IntKind.u32 = IntKind.u32 ∧ (64 : Nat) = (64 : Nat) ∧ K0 = K0) ∧ True) ∧ ({ o := r.b, ro := false : Blk } = { o := r.b, ro := false : Blk } ∧ r.y = r.y ∧ (IntKind.u8 = IntKind.u8 ∧ r.m = r.m ∧ r.L = r.L) ∧ True) ∧ ({ o := bw, ro := false : Blk } = { o := bw, ro := false : Blk } ∧ (63 : Nat) = (63 : TypeId) ∧ (IntKind.u32 = IntKind.u32 ∧ (64 : Nat) = (64 : Nat) ∧ List.replicate (64 : Nat) (0 : Int) = sch0 r.L (r.off + (64 : Nat) * j) (0 : Nat)) ∧ True) ∧ True) (by kernel_rfl) (And.intro (And.intro (rfl) (And.intro (rfl) (And.intro (And.intro (rfl) (And.intro (rfl) (rfl))) (trivial)))) (And.intro (And.intro (rfl) (And.intro (rfl) (And.intro (And.intro (rfl) (And.intro (rfl) (rfl))) (trivial)))) (And.intro (And.intro (rfl) (And.intro (rfl) (And.intro (And.intro (rfl) (And.intro (rfl) (rfl))) (trivial)))) (And.intro (And.intro (rfl) (And.intro (rfl) (And.intro (And.intro (rfl) (And.intro (rfl) (rfl))) (trivial)))) (And.intro (And.intro (rfl) (And.intro (rfl) (And.intro (And.intro (rfl) (And.intro (rfl) (rfl))) (trivial)))) (And.intro (And.intro (rfl) (And.intro (rfl) (And.intro (And.intro (rfl) (And.intro (rfl) (?_))) (trivial)))) (trivial)))))))
      rw [sch0_zero]
    · exact Nat.zero_le _
    intro (i : Nat) (hi : i ≤ 16)
    refine ⟨fun hlt => ?_, fun hge => ?_⟩
    · have hlt : (i : Int) < 16 := of_decide_eq_true hlt
      refine And.intro (by kernel_rfl) ?_
      refine And.intro (by omega) ?_
      refine And.intro (by omega) ?_
      refine And.intro (Eq.mpr (β := 0 ≤ 64 * (↑j : Int) + 4 * (↑i : Int) ∧ 64 * (↑j : Int) + 4 * (↑i : Int) < (↑(padN g.n) : Int) ∧ r.z = 0) (by kernel_rfl) (by omega)) ?_
      refine And.intro (And.intro (rfl) (Eq.mpr (β := r.off + Int.toNat (64 * (↑j : Int) + 4 * (↑i : Int)) * 1 < r.m) (by kernel_rfl) (by omega))) ?_
      refine And.intro (by omega) ?_
      refine And.intro (by omega) ?_
      refine And.intro (by omega) ?_
      refine And.intro (by omega) ?_
      refine And.intro (Eq.mpr (β := 0 ≤ 64 * (↑j : Int) + 4 * (↑i : Int) + 1 ∧ 64 * (↑j : Int) + 4 * (↑i : Int) + 1 < (↑(padN g.n) : Int) ∧ r.z = 0) (by kernel_rfl) (by omega)) ?_
      refine And.intro (And.intro (rfl) (Eq.mpr (β := r.off + Int.toNat (64 * (↑j : Int) + 4 * (↑i : Int) + 1) * 1 < r.m) (by kernel_rfl) (by omega))) ?_
      refine And.intro (by omega) ?_
      refine And.intro (by omega) ?_
      refine And.intro (by omega) ?_
      refine And.intro (by omega) ?_
      refine And.intro (Eq.mpr (β := 0 ≤ 64 * (↑j : Int) + 4 * (↑i : Int) + 2 ∧ 64 * (↑j : Int) + 4 * (↑i : Int) + 2 < (↑(padN g.n) : Int) ∧ r.z = 0) (by kernel_rfl) (by omega)) ?_
      refine And.intro (And.intro (rfl) (Eq.mpr (β := r.off + Int.toNat (64 * (↑j : Int) + 4 * (↑i : Int) + 2) * 1 < r.m) (by kernel_rfl) (by omega))) ?_
      refine And.intro (by omega) ?_
      refine And.intro (by omega) ?_
      refine And.intro (by omega) ?_
      refine And.intro (by omega) ?_
      refine And.intro (Eq.mpr (β := 0 ≤ 64 * (↑j : Int) + 4 * (↑i : Int) + 3 ∧ 64 * (↑j : Int) + 4 * (↑i : Int) + 3 < (↑(padN g.n) : Int) ∧ r.z = 0) (by kernel_rfl) (by omega)) ?_
      refine And.intro (And.intro (rfl) (Eq.mpr (β := r.off + Int.toNat (64 * (↑j : Int) + 4 * (↑i : Int) + 3) * 1 < r.m) (by kernel_rfl) (by omega))) ?_
      refine And.intro (by omega) ?_
      refine And.intro ⟨⟨rfl, rfl⟩, by omega⟩ ?_
      refine And.intro (by omega) ?_
      refine ⟨(i + 1 : Nat), [0, 1002, 1003, 1004, 5, 1007], rfl, rfl, ?_, ?_, ?_, ?_⟩
      · refine Eq.mpr (β := (g.b = g.b ∧ g.off = g.off ∧ g.n = g.n ∧ g.c = g.c ∧ g.z = g.z) ∧ ({ o := b2, ro := false : Blk } = { o := b2, ro := false : Blk } ∧ 0 = 0) ∧ ({ o := bS, ro := false : Blk } = { o := bS, ro := false : Blk } ∧ 0 = 0) ∧ ({ o := bK, ro := false : Blk } = { o := bK, ro := false : Blk } ∧ 0 = 0) ∧ ({ o := r.b, ro := false : Blk } = { o := r.b, ro := false : Blk } ∧ r.off = r.off ∧ padN g.n = padN g.n ∧ r.cap = r.cap ∧ r.z = r.z) ∧ Value.int IntKind.i64 (64 * (↑j : Int)) = Value.int IntKind.i64 (64 * (↑j : Int)) ∧ ({ o := bw, ro := false : Blk } = { o := bw, ro := false : Blk } ∧ 0 = 0) ∧ Value.int IntKind.i64 ((↑i : Int) + 1) = Value.int IntKind.i64 (↑(i + 1) : Int) ∧ True) (by kernel_rfl) (And.intro (And.intro (rfl) (And.intro (rfl) (And.intro (rfl) (And.intro (rfl) (rfl))))) (And.intro (And.intro (rfl) (rfl)) (And.intro (And.intro (rfl) (rfl)) (And.intro (And.intro (rfl) (rfl)) (And.intro (And.intro (rfl) (And.intro (rfl) (And.intro (rfl) (And.intro (rfl) (rfl))))) (And.intro (rfl) (And.intro (And.intro (rfl) (rfl)) (And.intro (intE (by omega)) (trivial)))))))))
      · refine Eq.mpr (β := (g.b = g.b ∧ g.y = g.y ∧ (IntKind.u8 = IntKind.u8 ∧ g.m = g.m ∧ g.B = g.B) ∧ True) ∧ ({ o := b2, ro := false : Blk } = { o := b2, ro := false : Blk } ∧ (24 : TypeId) = (24 : TypeId) ∧ (IntKind.u8 = IntKind.u8 ∧ (32 : Nat) = (32 : Nat) ∧ List.replicate (32 : Nat) (0 : Int) = List.replicate (32 : Nat) (0 : Int)) ∧ True) ∧ ({ o := bS, ro := false : Blk } = { o := bS, ro := false : Blk } ∧ (64 : TypeId) = (64 : TypeId) ∧ (IntKind.u32 = IntKind.u32 ∧ (8 : Nat) = (8 : Nat) ∧ runB (padL (GS.l g) g.n) j = runB (padL (GS.l g) g.n) j) ∧ True) ∧ ({ o := bK, ro := false : Blk } = { o := bK, ro := false : Blk } ∧ (63 : TypeId) = (63 : TypeId) ∧ (IntKind.u32 = IntKind.u32 ∧ (64 : Nat) = (64 : Nat) ∧ K0 = K0) ∧ True) ∧ ({ o := r.b, ro := false : Blk } = { o := r.b, ro := false : Blk } ∧ r.y = r.y ∧ (IntKind.u8 = IntKind.u8 ∧ r.m = r.m ∧ r.L = r.L) ∧ True) ∧ ({ o := bw, ro := false : Blk } = { o := bw, ro := false : Blk } ∧ (63 : TypeId) = (63 : TypeId) ∧ (IntKind.u32 = IntKind.u32 ∧ (64 : Nat) = (64 : Nat) ∧ List.set (sch0 r.L (r.off + (64 : Nat) * j) i) ((0 : Nat) + Int.toNat (↑i : Int) * (1 : Nat)) (ior IntKind.u32 (ior IntKind.u32 (ior IntKind.u32 (ishl IntKind.u32 (IntKind.wrap IntKind.u32 (List.getD r.L (r.off + Int.toNat ((64 : Int) * (↑j : Int) + (4 : Int) * (↑i : Int)) * (1 : Nat)) (0 : Int))) (24 : Int)) (ishl IntKind.u32 (IntKind.wrap IntKind.u32 (List.getD r.L (r.off + Int.toNat ((64 : Int) * (↑j : Int) + (4 : Int) * (↑i : Int) + (1 : Int)) * (1 : Nat)) (0 : Int))) (16 : Int))) (ishl IntKind.u32 (IntKind.wrap IntKind.u32 (List.getD r.L (r.off + Int.toNat ((64 : Int) * (↑j : Int) + (4 : Int) * (↑i : Int) + (2 : Int)) * (1 : Nat)) (0 : Int))) (8 : Int))) (IntKind.wrap IntKind.u32 (List.getD r.L (r.off + Int.toNat ((64 : Int) * (↑j : Int) + (4 : Int) * (↑i : Int) + (3 : Int)) * (1 : Nat)) (0 : Int)))) = sch0 r.L (r.off + (64 : Nat) * j) (i + (1 : Nat))) ∧ True) ∧ True) (by kernel_rfl) (And.intro (And.intro (rfl) (And.intro (rfl) (And.intro (And.intro (rfl) (And.intro (rfl) (rfl))) (trivial)))) (And.intro (And.intro (rfl) (And.intro (rfl) (And.intro (And.intro (rfl) (And.intro (rfl) (rfl))) (trivial)))) (And.intro (And.intro (rfl) (And.intro (rfl) (And.intro (And.intro (rfl) (And.intro (rfl) (rfl))) (trivial)))) (And.intro (And.intro (rfl) (And.intro (rfl) (And.intro (And.intro (rfl) (And.intro (rfl) (rfl))) (trivial)))) (And.intro (And.intro (rfl) (And.intro (rfl) (And.intro (And.intro (rfl) (And.intro (rfl) (rfl))) (trivial)))) (And.intro (And.intro (rfl) (And.intro (rfl) (And.intro (And.intro (rfl) (And.intro (rfl) (?_))) (trivial)))) (trivial)))))))
        have e : 0 + (i : Int).toNat * 1 = i := by omega
        have e0 : r.off + (64 * (j : Int) + 4 * (i : Int)).toNat * 1 = r.off + 64 * j + 4 * i := by omega
        have e1 : r.off + (64 * (j : Int) + 4 * (i : Int) + 1).toNat * 1 = r.off + 64 * j + 4 * i + 1 := by omega
        have e2 : r.off + (64 * (j : Int) + 4 * (i : Int) + 2).toNat * 1 = r.off + 64 * j + 4 * i + 2 := by omega
        have e3 : r.off + (64 * (j : Int) + 4 * (i : Int) + 3).toNat * 1 = r.off + 64 * j + 4 * i + 3 := by omega
        rw [e, e0, e1, e2, e3, sch0_succ]
        rfl
      · show i + 1 ≤ 16
        omega
      · show 16 - (i + 1) < 16 - i
        omega
    have hi : i = 16 := by
      have : ¬((i : Int) < 16) := of_decide_eq_false hge
      omega
    subst hi
    refine ⟨inv15b g ⟨b2, bS, bK, r, j⟩ bw, ⟨(0 : Nat), [0, 1002, 1003, 1004, 5, 1007], rfl, rfl, ?_, ?_, ?_, trivial⟩, ?_⟩
    · refine Eq.mpr (β := (g.b = g.b ∧ g.off = g.off ∧ g.n = g.n ∧ g.c = g.c ∧ g.z = g.z) ∧ ({ o := b2, ro := false : Blk } = { o := b2, ro := false : Blk } ∧ 0 = 0) ∧ ({ o := bS, ro := false : Blk } = { o := bS, ro := false : Blk } ∧ 0 = 0) ∧ ({ o := bK, ro := false : Blk } = { o := bK, ro := false : Blk } ∧ 0 = 0) ∧ ({ o := r.b, ro := false : Blk } = { o := r.b, ro := false : Blk } ∧ r.off = r.off ∧ padN g.n = padN g.n ∧ r.cap = r.cap ∧ r.z = r.z) ∧ Value.int IntKind.i64 (64 * (↑j : Int)) = Value.int IntKind.i64 (64 * (↑j : Int)) ∧ ({ o := bw, ro := false : Blk } = { o := bw, ro := false : Blk } ∧ 0 = 0) ∧ Value.int IntKind.i64 16 = Value.int IntKind.i64 (16 + (↑0 : Int)) ∧ True) (by kernel_rfl) (And.intro (And.intro (rfl) (And.intro (rfl) (And.intro (rfl) (And.intro (rfl) (rfl))))) (And.intro (And.intro (rfl) (rfl)) (And.intro (And.intro (rfl) (rfl)) (And.intro (And.intro (rfl) (rfl)) (And.intro (And.intro (rfl) (And.intro (rfl) (And.intro (rfl) (And.intro (rfl) (rfl))))) (And.intro (rfl) (And.intro (And.intro (rfl) (rfl)) (And.intro (intE (by omega)) (trivial)))))))))
    · refine Eq.mpr (β := (g.b = g.b ∧ g.y = g.y ∧ (IntKind.u8 = IntKind.u8 ∧ g.m = g.m ∧ g.B = g.B) ∧ True) ∧ ({ o := b2, ro := false : Blk } = { o := b2, ro := false : Blk } ∧ (24 : TypeId) = (24 : TypeId) ∧ (IntKind.u8 = IntKind.u8 ∧ (32 : Nat) = (32 : Nat) ∧ List.replicate (32 : Nat) (0 : Int) = List.replicate (32 : Nat) (0 : Int)) ∧ True) ∧ ({ o := bS, ro := false : Blk } = { o := bS, ro := false : Blk } ∧ (64 : TypeId) = (64 : TypeId) ∧ (IntKind.u32 = IntKind.u32 ∧ (8 : Nat) = (8 : Nat) ∧ runB (padL (GS.l g) g.n) j = runB (padL (GS.l g) g.n) j) ∧ True) ∧ ({ o := bK, ro := false : Blk } = { o := bK, ro := false : Blk } ∧ (63 : TypeId) = (63 : TypeId) ∧ (IntKind.u32 = IntKind.u32 ∧ (64 : Nat) = (64 : Nat) ∧ K0 = K0) ∧ True) ∧ ({ o := r.b, ro := false : Blk } = { o := r.b, ro := false : Blk } ∧ r.y = r.y ∧ (IntKind.u8 = IntKind.u8 ∧ r.m = r.m ∧ r.L = r.L) ∧ True) ∧ ({ o := bw, ro := false : Blk } = { o := bw, ro := false : Blk } ∧ (63 : TypeId) = (63 : TypeId) ∧ (IntKind.u32 = IntKind.u32 ∧ (64 : Nat) = (64 : Nat) ∧ sch0 r.L (r.off + (64 : Nat) * j) (16 : Nat) = sch1 (sch0 r.L (r.off + (64 : Nat) * j) (16 : Nat)) (0 : Nat)) ∧ True) ∧ True) (by kernel_rfl) (And.intro (And.intro (rfl) (And.intro (rfl) (And.intro (And.intro (rfl) (And.intro (rfl) (rfl))) (trivial)))) (And.intro (And.intro (rfl) (And.intro (rfl) (And.intro (And.intro (rfl) (And.intro (rfl) (rfl))) (trivial)))) (And.intro (And.intro (rfl) (And.intro (rfl) (And.intro (And.intro (rfl) (And.intro (rfl) (rfl))) (trivial)))) (And.intro (And.intro (rfl) (And.intro (rfl) (And.intro (And.intro (rfl) (And.intro (rfl) (rfl))) (trivial)))) (And.intro (And.intro (rfl) (And.intro (rfl) (And.intro (And.intro (rfl) (And.intro (rfl) (rfl))) (trivial)))) (And.intro (And.intro (rfl) (And.intro (rfl) (And.intro (And.intro (rfl) (And.intro (rfl) (?_))) (trivial)))) (trivial)))))))
      rw [sch1_zero]
    · exact Nat.zero_le _
    intro (i : Nat) (hi : i ≤ 48)
    refine ⟨fun hlt => ?_, fun hge => ?_⟩
    · have hlt : (16 + (i : Int)) < 64 := of_decide_eq_true hlt
      refine And.intro (by kernel_rfl) ?_
      refine And.intro (by omega) ?_
      refine And.intro (by omega) ?_
      refine And.intro ⟨rfl, by omega⟩ ?_
      refine And.intro (by omega) ?_
      refine And.intro (by omega) ?_
      refine And.intro ⟨rfl, by omega⟩ ?_
      refine And.intro (by kernel_rfl) ?_
      refine And.intro (by omega) ?_
      refine And.intro (by omega) ?_
      refine And.intro ⟨rfl, by omega⟩ ?_
      refine And.intro (by omega) ?_
      refine And.intro (by omega) ?_
      refine And.intro (by omega) ?_
      refine And.intro ⟨rfl, by omega⟩ ?_
      refine And.intro (by omega) ?_
      refine And.intro (And.intro (And.intro (rfl) (And.intro (rfl) (trivial))) (And.intro (And.intro (trivial) (rfl)) (And.intro (rfl) (And.intro (rfl) (And.intro (rfl) (And.intro (rfl) (And.intro (by omega) (by omega)))))))) (fun (_ : Unit) _ => ?_)
      refine And.intro (And.intro (And.intro (rfl) (And.intro (rfl) (trivial))) (And.intro (And.intro (trivial) (rfl)) (And.intro (rfl) (And.intro (rfl) (And.intro (rfl) (And.intro (rfl) (And.intro (by omega) (by omega)))))))) (fun (_ : Unit) _ => ?_)
      refine And.intro (And.intro (And.intro (rfl) (And.intro (rfl) (trivial))) (And.intro (And.intro (trivial) (rfl)) (And.intro (rfl) (And.intro (rfl) (And.intro (rfl) (And.intro (rfl) (And.intro (by omega) (by omega)))))))) (fun (_ : Unit) _ => ?_)
      refine And.intro (And.intro (And.intro (rfl) (And.intro (rfl) (trivial))) (And.intro (And.intro (trivial) (rfl)) (And.intro (rfl) (And.intro (rfl) (And.intro (rfl) (And.intro (rfl) (And.intro (by omega) (by omega)))))))) (fun (_ : Unit) _ => ?_)
      refine And.intro (by omega) ?_
      refine And.intro ⟨⟨rfl, rfl⟩, by omega⟩ ?_
      refine And.intro (by omega) ?_
      refine ⟨(i + 1 : Nat), [0, 1002, 1003, 1004, 5, 1007], rfl, rfl, ?_, ?_, ?_, ?_⟩
      · refine Eq.mpr (β := (g.b = g.b ∧ g.off = g.off ∧ g.n = g.n ∧ g.c = g.c ∧ g.z = g.z) ∧ ({ o := b2, ro := false : Blk } = { o := b2, ro := false : Blk } ∧ 0 = 0) ∧ ({ o := bS, ro := false : Blk } = { o := bS, ro := false : Blk } ∧ 0 = 0) ∧ ({ o := bK, ro := false : Blk } = { o := bK, ro := false : Blk } ∧ 0 = 0) ∧ ({ o := r.b, ro := false : Blk } = { o := r.b, ro := false : Blk } ∧ r.off = r.off ∧ padN g.n = padN g.n ∧ r.cap = r.cap ∧ r.z = r.z) ∧ Value.int IntKind.i64 (64 * (↑j : Int)) = Value.int IntKind.i64 (64 * (↑j : Int)) ∧ ({ o := bw, ro := false : Blk } = { o := bw, ro := false : Blk } ∧ 0 = 0) ∧ Value.int IntKind.i64 (16 + (↑i : Int) + 1) = Value.int IntKind.i64 (16 + (↑(i + 1) : Int)) ∧ True) (by kernel_rfl) (And.intro (And.intro (rfl) (And.intro (rfl) (And.intro (rfl) (And.intro (rfl) (rfl))))) (And.intro (And.intro (rfl) (rfl)) (And.intro (And.intro (rfl) (rfl)) (And.intro (And.intro (rfl) (rfl)) (And.intro (And.intro (rfl) (And.intro (rfl) (And.intro (rfl) (And.intro (rfl) (rfl))))) (And.intro (rfl) (And.intro (And.intro (rfl) (rfl)) (And.intro (intE (by omega)) (trivial)))))))))
      · refine Eq.mpr (β := (g.b = g.b ∧ g.y = g.y ∧ (IntKind.u8 = IntKind.u8 ∧ g.m = g.m ∧ g.B = g.B) ∧ True) ∧ ({ o := b2, ro := false : Blk } = { o := b2, ro := false : Blk } ∧ (24 : TypeId) = (24 : TypeId) ∧ (IntKind.u8 = IntKind.u8 ∧ (32 : Nat) = (32 : Nat) ∧ List.replicate (32 : Nat) (0 : Int) = List.replicate (32 : Nat) (0 : Int)) ∧ True) ∧ ({ o := bS, ro := false : Blk } = { o := bS, ro := false : Blk } ∧ (64 : TypeId) = (64 : TypeId) ∧ (IntKind.u32 = IntKind.u32 ∧ (8 : Nat) = (8 : Nat) ∧ runB (padL (GS.l g) g.n) j = runB (padL (GS.l g) g.n) j) ∧ True) ∧ ({ o := bK, ro := false : Blk } = { o := bK, ro := false : Blk } ∧ (63 : TypeId) = (63 : TypeId) ∧ (IntKind.u32 = IntKind.u32 ∧ (64 : Nat) = (64 : Nat) ∧ K0 = K0) ∧ True) ∧ ({ o := r.b, ro := false : Blk } = { o := r.b, ro := false : Blk } ∧ r.y = r.y ∧ (IntKind.u8 = IntKind.u8 ∧ r.m = r.m ∧ r.L = r.L) ∧ True) ∧ ({ o := bw, ro := false : Blk } = { o := bw, ro := false : Blk } ∧ (63 : TypeId) = (63 : TypeId) ∧ (IntKind.u32 = IntKind.u32 ∧ (64 : Nat) = (64 : Nat) ∧ List.set (sch1 (sch0 r.L (r.off + (64 : Nat) * j) (16 : Nat)) i) ((0 : Nat) + Int.toNat ((16 : Int) + (↑i : Int)) * (1 : Nat)) (iadd IntKind.u32 (iadd IntKind.u32 (iadd IntKind.u32 (List.getD (sch1 (sch0 r.L (r.off + (64 : Nat) * j) (16 : Nat)) i) ((0 : Nat) + Int.toNat ((16 : Int) + (↑i : Int) - (16 : Int)) * (1 : Nat)) (0 : Int)) (ixor IntKind.u32 (ixor IntKind.u32 (rot (List.getD (sch1 (sch0 r.L (r.off + (64 : Nat) * j) (16 : Nat)) i) ((0 : Nat) + Int.toNat ((16 : Int) + (↑i : Int) - (15 : Int)) * (1 : Nat)) (0 : Int)) (7 : Int)) (rot (List.getD (sch1 (sch0 r.L (r.off + (64 : Nat) * j) (16 : Nat)) i) ((0 : Nat) + Int.toNat ((16 : Int) + (↑i : Int) - (15 : Int)) * (1 : Nat)) (0 : Int)) (18 : Int))) (ishr IntKind.u32 (List.getD (sch1 (sch0 r.L (r.off + (64 : Nat) * j) (16 : Nat)) i) ((0 : Nat) + Int.toNat ((16 : Int) + (↑i : Int) - (15 : Int)) * (1 : Nat)) (0 : Int)) (3 : Int)))) (List.getD (sch1 (sch0 r.L (r.off + (64 : Nat) * j) (16 : Nat)) i) ((0 : Nat) + Int.toNat ((16 : Int) + (↑i : Int) - (7 : Int)) * (1 : Nat)) (0 : Int))) (ixor IntKind.u32 (ixor IntKind.u32 (rot (List.getD (sch1 (sch0 r.L (r.off + (64 : Nat) * j) (16 : Nat)) i) ((0 : Nat) + Int.toNat ((16 : Int) + (↑i : Int) - (2 : Int)) * (1 : Nat)) (0 : Int)) (17 : Int)) (rot (List.getD (sch1 (sch0 r.L (r.off + (64 : Nat) * j) (16 : Nat)) i) ((0 : Nat) + Int.toNat ((16 : Int) + (↑i : Int) - (2 : Int)) * (1 : Nat)) (0 : Int)) (19 : Int))) (ishr IntKind.u32 (List.getD (sch1 (sch0 r.L (r.off + (64 : Nat) * j) (16 : Nat)) i) ((0 : Nat) + Int.toNat ((16 : Int) + (↑i : Int) - (2 : Int)) * (1 : Nat)) (0 : Int)) (10 : Int)))) = sch1 (sch0 r.L (r.off + (64 : Nat) * j) (16 : Nat)) (i + (1 : Nat))) ∧ True) ∧ True) (by kernel_rfl) (And.intro (And.intro (rfl) (And.intro (rfl) (And.intro (And.intro (rfl) (And.intro (rfl) (rfl))) (trivial)))) (And.intro (And.intro (rfl) (And.intro (rfl) (And.intro (And.intro (rfl) (And.intro (rfl) (rfl))) (trivial)))) (And.intro (And.intro (rfl) (And.intro (rfl) (And.intro (And.intro (rfl) (And.intro (rfl) (rfl))) (trivial)))) (And.intro (And.intro (rfl) (And.intro (rfl) (And.intro (And.intro (rfl) (And.intro (rfl) (rfl))) (trivial)))) (And.intro (And.intro (rfl) (And.intro (rfl) (And.intro (And.intro (rfl) (And.intro (rfl) (rfl))) (trivial)))) (And.intro (And.intro (rfl) (And.intro (rfl) (And.intro (And.intro (rfl) (And.intro (rfl) (?_))) (trivial)))) (trivial)))))))
        have e : 0 + (16 + (i : Int)).toNat * 1 = 16 + i := by omega
        have e0 : 0 + (16 + (i : Int) - 16).toNat * 1 = 16 + i - 16 := by omega
        have e1 : 0 + (16 + (i : Int) - 7).toNat * 1 = 16 + i - 7 := by omega
        have e2 : 0 + (16 + (i : Int) - 15).toNat * 1 = 16 + i - 15 := by omega
        have e3 : 0 + (16 + (i : Int) - 2).toNat * 1 = 16 + i - 2 := by omega
        rw [e, e0, e1, e2, e3, sch1_succ, ← schW_ref]
        rfl
      · show i + 1 ≤ 48
        omega
      · show 48 - (i + 1) < 48 - i
        omega
    have hi : i = 48 := by
      have : ¬((16 + (i : Int)) < 64) := of_decide_eq_false hge
      omega
    subst hi
    refine And.intro (by kernel_rfl) ?_
    refine And.intro (by omega) ?_
    refine And.intro ⟨rfl, by omega⟩ ?_
    refine And.intro (by omega) ?_
    refine And.intro ⟨rfl, by omega⟩ ?_
    refine And.intro (by omega) ?_
    refine And.intro ⟨rfl, by omega⟩ ?_
    refine And.intro (by omega) ?_
    refine And.intro ⟨rfl, by omega⟩ ?_
    refine And.intro (by omega) ?_
    refine And.intro ⟨rfl, by omega⟩ ?_
    refine And.intro (by omega) ?_
    refine And.intro ⟨rfl, by omega⟩ ?_
    refine And.intro (by omega) ?_
    refine And.intro ⟨rfl, by omega⟩ ?_
    refine And.intro (by omega) ?_
    refine And.intro ⟨rfl, by omega⟩ ?_
    refine ⟨inv15c g ⟨b2, bS, bK, r, j⟩ bw, ⟨(0 : Nat), [0, 1002, 1003, 1004, 5, 1007], rfl, rfl, ?_, ?_, ?_, trivial⟩, ?_⟩
    · refine Eq.mpr (β := (g.b = g.b ∧ g.off = g.off ∧ g.n = g.n ∧ g.c = g.c ∧ g.z = g.z) ∧ ({ o := b2, ro := false : Blk } = { o := b2, ro := false : Blk } ∧ 0 = 0) ∧ ({ o := bS, ro := false : Blk } = { o := bS, ro := false : Blk } ∧ 0 = 0) ∧ ({ o := bK, ro := false : Blk } = { o := bK, ro := false : Blk } ∧ 0 = 0) ∧ ({ o := r.b, ro := false : Blk } = { o := r.b, ro := false : Blk } ∧ r.off = r.off ∧ padN g.n = padN g.n ∧ r.cap = r.cap ∧ r.z = r.z) ∧ Value.int IntKind.i64 (64 * (↑j : Int)) = Value.int IntKind.i64 (64 * (↑j : Int)) ∧ ({ o := bw, ro := false : Blk } = { o := bw, ro := false : Blk } ∧ 0 = 0) ∧ Value.int IntKind.i64 0 = Value.int IntKind.i64 (↑0 : Int) ∧ Value.int IntKind.u32 (List.getD (runB (padL (GS.l g) g.n) j) (0 + Int.toNat 0 * 1) 0) = Value.int IntKind.u32 (rounds K0 (sched r.L (r.off + 64 * j)) (ofL (runB (padL (GS.l g) g.n) j)) 0).a ∧ Value.int IntKind.u32 (List.getD (runB (padL (GS.l g) g.n) j) (0 + Int.toNat 1 * 1) 0) = Value.int IntKind.u32 (rounds K0 (sched r.L (r.off + 64 * j)) (ofL (runB (padL (GS.l g) g.n) j)) 0).b ∧ Value.int IntKind.u32 (List.getD (runB (padL (GS.l g) g.n) j) (0 + Int.toNat 2 * 1) 0) = Value.int IntKind.u32 (rounds K0 (sched r.L (r.off + 64 * j)) (ofL (runB (padL (GS.l g) g.n) j)) 0).c ∧ Value.int IntKind.u32 (List.getD (runB (padL (GS.l g) g.n) j) (0 + Int.toNat 3 * 1) 0) = Value.int IntKind.u32 (rounds K0 (sched r.L (r.off + 64 * j)) (ofL (runB (padL (GS.l g) g.n) j)) 0).d ∧ Value.int IntKind.u32 (List.getD (runB (padL (GS.l g) g.n) j) (0 + Int.toNat 4 * 1) 0) = Value.int IntKind.u32 (rounds K0 (sched r.L (r.off + 64 * j)) (ofL (runB (padL (GS.l g) g.n) j)) 0).e ∧ Value.int IntKind.u32 (List.getD (runB (padL (GS.l g) g.n) j) (0 + Int.toNat 5 * 1) 0) = Value.int IntKind.u32 (rounds K0 (sched r.L (r.off + 64 * j)) (ofL (runB (padL (GS.l g) g.n) j)) 0).f ∧ Value.int IntKind.u32 (List.getD (runB (padL (GS.l g) g.n) j) (0 + Int.toNat 6 * 1) 0) = Value.int IntKind.u32 (rounds K0 (sched r.L (r.off + 64 * j)) (ofL (runB (padL (GS.l g) g.n) j)) 0).g ∧ Value.int IntKind.u32 (List.getD (runB (padL (GS.l g) g.n) j) (0 + Int.toNat 7 * 1) 0) = Value.int IntKind.u32 (rounds K0 (sched r.L (r.off + 64 * j)) (ofL (runB (padL (GS.l g) g.n) j)) 0).h ∧ True) (by kernel_rfl) (And.intro (And.intro (rfl) (And.intro (rfl) (And.intro (rfl) (And.intro (rfl) (rfl))))) (And.intro (And.intro (rfl) (rfl)) (And.intro (And.intro (rfl) (rfl)) (And.intro (And.intro (rfl) (rfl)) (And.intro (And.intro (rfl) (And.intro (rfl) (And.intro (rfl) (And.intro (rfl) (rfl))))) (And.intro (rfl) (And.intro (And.intro (rfl) (rfl)) (And.intro (intE (by omega)) (And.intro (?_) (And.intro (?_) (And.intro (?_) (And.intro (?_) (And.intro (?_) (And.intro (?_) (And.intro (?_) (And.intro (?_) (trivial)))))))))))))))))
      all_goals (rw [rounds_zero]; rfl)
    · refine Eq.mpr (β := (g.b = g.b ∧ g.y = g.y ∧ (IntKind.u8 = IntKind.u8 ∧ g.m = g.m ∧ g.B = g.B) ∧ True) ∧ ({ o := b2, ro := false : Blk } = { o := b2, ro := false : Blk } ∧ (24 : TypeId) = (24 : TypeId) ∧ (IntKind.u8 = IntKind.u8 ∧ (32 : Nat) = (32 : Nat) ∧ List.replicate (32 : Nat) (0 : Int) = List.replicate (32 : Nat) (0 : Int)) ∧ True) ∧ ({ o := bS, ro := false : Blk } = { o := bS, ro := false : Blk } ∧ (64 : TypeId) = (64 : TypeId) ∧ (IntKind.u32 = IntKind.u32 ∧ (8 : Nat) = (8 : Nat) ∧ runB (padL (GS.l g) g.n) j = runB (padL (GS.l g) g.n) j) ∧ True) ∧ ({ o := bK, ro := false : Blk } = { o := bK, ro := false : Blk } ∧ (63 : TypeId) = (63 : TypeId) ∧ (IntKind.u32 = IntKind.u32 ∧ (64 : Nat) = (64 : Nat) ∧ K0 = K0) ∧ True) ∧ ({ o := r.b, ro := false : Blk } = { o := r.b, ro := false : Blk } ∧ r.y = r.y ∧ (IntKind.u8 = IntKind.u8 ∧ r.m = r.m ∧ r.L = r.L) ∧ True) ∧ ({ o := bw, ro := false : Blk } = { o := bw, ro := false : Blk } ∧ (63 : TypeId) = (63 : TypeId) ∧ (IntKind.u32 = IntKind.u32 ∧ (64 : Nat) = (64 : Nat) ∧ sch1 (sch0 r.L (r.off + (64 : Nat) * j) (16 : Nat)) (48 : Nat) = sched r.L (r.off + (64 : Nat) * j)) ∧ True) ∧ True) (by kernel_rfl) (And.intro (And.intro (rfl) (And.intro (rfl) (And.intro (And.intro (rfl) (And.intro (rfl) (rfl))) (trivial)))) (And.intro (And.intro (rfl) (And.intro (rfl) (And.intro (And.intro (rfl) (And.intro (rfl) (rfl))) (trivial)))) (And.intro (And.intro (rfl) (And.intro (rfl) (And.intro (And.intro (rfl) (And.intro (rfl) (rfl))) (trivial)))) (And.intro (And.intro (rfl) (And.intro (rfl) (And.intro (And.intro (rfl) (And.intro (rfl) (rfl))) (trivial)))) (And.intro (And.intro (rfl) (And.intro (rfl) (And.intro (And.intro (rfl) (And.intro (rfl) (rfl))) (trivial)))) (And.intro (And.intro (rfl) (And.intro (rfl) (And.intro (And.intro (rfl) (And.intro (rfl) (?_))) (trivial)))) (trivial)))))))
      rw [sched_eq]
    · exact Nat.zero_le _
    intro (i : Nat) (hi : i ≤ 64)
    refine ⟨fun hlt => ?_, fun hge => ?_⟩
    · have hlt : (i : Int) < 64 := of_decide_eq_true hlt
      refine And.intro (by kernel_rfl) ?_
      refine And.intro (by omega) ?_
      refine And.intro ⟨rfl, by omega⟩ ?_
      refine And.intro (by omega) ?_
      refine And.intro ⟨rfl, by omega⟩ ?_
      refine And.intro (And.intro (And.intro (rfl) (And.intro (rfl) (trivial))) (And.intro (And.intro (trivial) (rfl)) (And.intro (rfl) (And.intro (rfl) (And.intro (rfl) (And.intro (rfl) (And.intro (by omega) (by omega)))))))) (fun (_ : Unit) _ => ?_)
      refine And.intro (And.intro (And.intro (rfl) (And.intro (rfl) (trivial))) (And.intro (And.intro (trivial) (rfl)) (And.intro (rfl) (And.intro (rfl) (And.intro (rfl) (And.intro (rfl) (And.intro (by omega) (by omega)))))))) (fun (_ : Unit) _ => ?_)
      refine And.intro (And.intro (And.intro (rfl) (And.intro (rfl) (trivial))) (And.intro (And.intro (trivial) (rfl)) (And.intro (rfl) (And.intro (rfl) (And.intro (rfl) (And.intro (rfl) (And.intro (by omega) (by omega)))))))) (fun (_ : Unit) _ => ?_)
      refine And.intro (And.intro (And.intro (rfl) (And.intro (rfl) (trivial))) (And.intro (And.intro (trivial) (rfl)) (And.intro (rfl) (And.intro (rfl) (And.intro (rfl) (And.intro (rfl) (And.intro (by omega) (by omega)))))))) (fun (_ : Unit) _ => ?_)
      refine And.intro (And.intro (And.intro (rfl) (And.intro (rfl) (trivial))) (And.intro (And.intro (trivial) (rfl)) (And.intro (rfl) (And.intro (rfl) (And.intro (rfl) (And.intro (rfl) (And.intro (by omega) (by omega)))))))) (fun (_ : Unit) _ => ?_)
      refine And.intro (And.intro (And.intro (rfl) (And.intro (rfl) (trivial))) (And.intro (And.intro (trivial) (rfl)) (And.intro (rfl) (And.intro (rfl) (And.intro (rfl) (And.intro (rfl) (And.intro (by omega) (by omega)))))))) (fun (_ : Unit) _ => ?_)
      refine And.intro (by omega) ?_
      have e' : 0 + (i : Int).toNat * 1 = i := by omega
      refine ⟨(i + 1 : Nat), [0, 1002, 1003, 1004, 5, 1007], rfl, rfl, ?_, ?_, ?_, ?_⟩
      · refine Eq.mpr (β := (g.b = g.b ∧ g.off = g.off ∧ g.n = g.n ∧ g.c = g.c ∧ g.z = g.z) ∧ ({ o := b2, ro := false : Blk } = { o := b2, ro := false : Blk } ∧ 0 = 0) ∧ ({ o := bS, ro := false : Blk } = { o := bS, ro := false : Blk } ∧ 0 = 0) ∧ ({ o := bK, ro := false : Blk } = { o := bK, ro := false : Blk } ∧ 0 = 0) ∧ ({ o := r.b, ro := false : Blk } = { o := r.b, ro := false : Blk } ∧ r.off = r.off ∧ padN g.n = padN g.n ∧ r.cap = r.cap ∧ r.z = r.z) ∧ Value.int IntKind.i64 (64 * (↑j : Int)) = Value.int IntKind.i64 (64 * (↑j : Int)) ∧ ({ o := bw, ro := false : Blk } = { o := bw, ro := false : Blk } ∧ 0 = 0) ∧ Value.int IntKind.i64 ((↑i : Int) + 1) = Value.int IntKind.i64 (↑(i + 1) : Int) ∧ Value.int IntKind.u32 (iadd IntKind.u32 (iadd IntKind.u32 (iadd IntKind.u32 (iadd IntKind.u32 (iadd IntKind.u32 (rounds K0 (sched r.L (r.off + 64 * j)) (ofL (runB (padL (GS.l g) g.n) j)) i).h (ixor IntKind.u32 (ixor IntKind.u32 (rot (rounds K0 (sched r.L (r.off + 64 * j)) (ofL (runB (padL (GS.l g) g.n) j)) i).e 6) (rot (rounds K0 (sched r.L (r.off + 64 * j)) (ofL (runB (padL (GS.l g) g.n) j)) i).e 11)) (rot (rounds K0 (sched r.L (r.off + 64 * j)) (ofL (runB (padL (GS.l g) g.n) j)) i).e 25))) (ixor IntKind.u32 (iand IntKind.u32 (rounds K0 (sched r.L (r.off + 64 * j)) (ofL (runB (padL (GS.l g) g.n) j)) i).e (rounds K0 (sched r.L (r.off + 64 * j)) (ofL (runB (padL (GS.l g) g.n) j)) i).f) (iand IntKind.u32 (inot IntKind.u32 (rounds K0 (sched r.L (r.off + 64 * j)) (ofL (runB (padL (GS.l g) g.n) j)) i).e) (rounds K0 (sched r.L (r.off + 64 * j)) (ofL (runB (padL (GS.l g) g.n) j)) i).g))) (List.getD K0 (0 + Int.toNat (↑i : Int) * 1) 0)) (List.getD (sched r.L (r.off + 64 * j)) (0 + Int.toNat (↑i : Int) * 1) 0)) (iadd IntKind.u32 (ixor IntKind.u32 (ixor IntKind.u32 (rot (rounds K0 (sched r.L (r.off + 64 * j)) (ofL (runB (padL (GS.l g) g.n) j)) i).a 2) (rot (rounds K0 (sched r.L (r.off + 64 * j)) (ofL (runB (padL (GS.l g) g.n) j)) i).a 13)) (rot (rounds K0 (sched r.L (r.off + 64 * j)) (ofL (runB (padL (GS.l g) g.n) j)) i).a 22)) (ixor IntKind.u32 (ixor IntKind.u32 (iand IntKind.u32 (rounds K0 (sched r.L (r.off + 64 * j)) (ofL (runB (padL (GS.l g) g.n) j)) i).a (rounds K0 (sched r.L (r.off + 64 * j)) (ofL (runB (padL (GS.l g) g.n) j)) i).b) (iand IntKind.u32 (rounds K0 (sched r.L (r.off + 64 * j)) (ofL (runB (padL (GS.l g) g.n) j)) i).a (rounds K0 (sched r.L (r.off + 64 * j)) (ofL (runB (padL (GS.l g) g.n) j)) i).c)) (iand IntKind.u32 (rounds K0 (sched r.L (r.off + 64 * j)) (ofL (runB (padL (GS.l g) g.n) j)) i).b (rounds K0 (sched r.L (r.off + 64 * j)) (ofL (runB (padL (GS.l g) g.n) j)) i).c)))) = Value.int IntKind.u32 (rounds K0 (sched r.L (r.off + 64 * j)) (ofL (runB (padL (GS.l g) g.n) j)) (i + 1)).a ∧ Value.int IntKind.u32 (rounds K0 (sched r.L (r.off + 64 * j)) (ofL (runB (padL (GS.l g) g.n) j)) i).a = Value.int IntKind.u32 (rounds K0 (sched r.L (r.off + 64 * j)) (ofL (runB (padL (GS.l g) g.n) j)) (i + 1)).b ∧ Value.int IntKind.u32 (rounds K0 (sched r.L (r.off + 64 * j)) (ofL (runB (padL (GS.l g) g.n) j)) i).b = Value.int IntKind.u32 (rounds K0 (sched r.L (r.off + 64 * j)) (ofL (runB (padL (GS.l g) g.n) j)) (i + 1)).c ∧ Value.int IntKind.u32 (rounds K0 (sched r.L (r.off + 64 * j)) (ofL (runB (padL (GS.l g) g.n) j)) i).c = Value.int IntKind.u32 (rounds K0 (sched r.L (r.off + 64 * j)) (ofL (runB (padL (GS.l g) g.n) j)) (i + 1)).d ∧ Value.int IntKind.u32 (iadd IntKind.u32 (rounds K0 (sched r.L (r.off + 64 * j)) (ofL (runB (padL (GS.l g) g.n) j)) i).d (iadd IntKind.u32 (iadd IntKind.u32 (iadd IntKind.u32 (iadd IntKind.u32 (rounds K0 (sched r.L (r.off + 64 * j)) (ofL (runB (padL (GS.l g) g.n) j)) i).h (ixor IntKind.u32 (ixor IntKind.u32 (rot (rounds K0 (sched r.L (r.off + 64 * j)) (ofL (runB (padL (GS.l g) g.n) j)) i).e 6) (rot (rounds K0 (sched r.L (r.off + 64 * j)) (ofL (runB (padL (GS.l g) g.n) j)) i).e 11)) (rot (rounds K0 (sched r.L (r.off + 64 * j)) (ofL (runB (padL (GS.l g) g.n) j)) i).e 25))) (ixor IntKind.u32 (iand IntKind.u32 (rounds K0 (sched r.L (r.off + 64 * j)) (ofL (runB (padL (GS.l g) g.n) j)) i).e (rounds K0 (sched r.L (r.off + 64 * j)) (ofL (runB (padL (GS.l g) g.n) j)) i).f) (iand IntKind.u32 (inot IntKind.u32 (rounds K0 (sched r.L (r.off + 64 * j)) (ofL (runB (padL (GS.l g) g.n) j)) i).e) (rounds K0 (sched r.L (r.off + 64 * j)) (ofL (runB (padL (GS.l g) g.n) j)) i).g))) (List.getD K0 (0 + Int.toNat (↑i : Int) * 1) 0)) (List.getD (sched r.L (r.off + 64 * j)) (0 + Int.toNat (↑i : Int) * 1) 0))) = Value.int IntKind.u32 (rounds K0 (sched r.L (r.off + 64 * j)) (ofL (runB (padL (GS.l g) g.n) j)) (i + 1)).e ∧ Value.int IntKind.u32 (rounds K0 (sched r.L (r.off + 64 * j)) (ofL (runB (padL (GS.l g) g.n) j)) i).e = Value.int IntKind.u32 (rounds K0 (sched r.L (r.off + 64 * j)) (ofL (runB (padL (GS.l g) g.n) j)) (i + 1)).f ∧ Value.int IntKind.u32 (rounds K0 (sched r.L (r.off + 64 * j)) (ofL (runB (padL (GS.l g) g.n) j)) i).f = Value.int IntKind.u32 (rounds K0 (sched r.L (r.off + 64 * j)) (ofL (runB (padL (GS.l g) g.n) j)) (i + 1)).g ∧ Value.int IntKind.u32 (rounds K0 (sched r.L (r.off + 64 * j)) (ofL (runB (padL (GS.l g) g.n) j)) i).g = Value.int IntKind.u32 (rounds K0 (sched r.L (r.off + 64 * j)) (ofL (runB (padL (GS.l g) g.n) j)) (i + 1)).h ∧ True) (by kernel_rfl) (And.intro (And.intro (rfl) (And.intro (rfl) (And.intro (rfl) (And.intro (rfl) (rfl))))) (And.intro (And.intro (rfl) (rfl)) (And.intro (And.intro (rfl) (rfl)) (And.intro (And.intro (rfl) (rfl)) (And.intro (And.intro (rfl) (And.intro (rfl) (And.intro (rfl) (And.intro (rfl) (rfl))))) (And.intro (rfl) (And.intro (And.intro (rfl) (rfl)) (And.intro (intE (by omega)) (And.intro (?_) (And.intro (?_) (And.intro (?_) (And.intro (?_) (And.intro (?_) (And.intro (?_) (And.intro (?_) (And.intro (?_) (trivial)))))))))))))))))
        all_goals rw [rounds_succ]
        all_goals try simp only [e', Nat.zero_add, Nat.mul_one, Int.toNat_natCast]
        all_goals rfl
      · refine Eq.mpr (β := (g.b = g.b ∧ g.y = g.y ∧ (IntKind.u8 = IntKind.u8 ∧ g.m = g.m ∧ g.B = g.B) ∧ True) ∧ ({ o := b2, ro := false : Blk } = { o := b2, ro := false : Blk } ∧ (24 : TypeId) = (24 : TypeId) ∧ (IntKind.u8 = IntKind.u8 ∧ (32 : Nat) = (32 : Nat) ∧ List.replicate (32 : Nat) (0 : Int) = List.replicate (32 : Nat) (0 : Int)) ∧ True) ∧ ({ o := bS, ro := false : Blk } = { o := bS, ro := false : Blk } ∧ (64 : TypeId) = (64 : TypeId) ∧ (IntKind.u32 = IntKind.u32 ∧ (8 : Nat) = (8 : Nat) ∧ runB (padL (GS.l g) g.n) j = runB (padL (GS.l g) g.n) j) ∧ True) ∧ ({ o := bK, ro := false : Blk } = { o := bK, ro := false : Blk } ∧ (63 : TypeId) = (63 : TypeId) ∧ (IntKind.u32 = IntKind.u32 ∧ (64 : Nat) = (64 : Nat) ∧ K0 = K0) ∧ True) ∧ ({ o := r.b, ro := false : Blk } = { o := r.b, ro := false : Blk } ∧ r.y = r.y ∧ (IntKind.u8 = IntKind.u8 ∧ r.m = r.m ∧ r.L = r.L) ∧ True) ∧ ({ o := bw, ro := false : Blk } = { o := bw, ro := false : Blk } ∧ (63 : TypeId) = (63 : TypeId) ∧ (IntKind.u32 = IntKind.u32 ∧ (64 : Nat) = (64 : Nat) ∧ sched r.L (r.off + (64 : Nat) * j) = sched r.L (r.off + (64 : Nat) * j)) ∧ True) ∧ True) (by kernel_rfl) (And.intro (And.intro (rfl) (And.intro (rfl) (And.intro (And.intro (rfl) (And.intro (rfl) (rfl))) (trivial)))) (And.intro (And.intro (rfl) (And.intro (rfl) (And.intro (And.intro (rfl) (And.intro (rfl) (rfl))) (trivial)))) (And.intro (And.intro (rfl) (And.intro (rfl) (And.intro (And.intro (rfl) (And.intro (rfl) (rfl))) (trivial)))) (And.intro (And.intro (rfl) (And.intro (rfl) (And.intro (And.intro (rfl) (And.intro (rfl) (rfl))) (trivial)))) (And.intro (And.intro (rfl) (And.intro (rfl) (And.intro (And.intro (rfl) (And.intro (rfl) (rfl))) (trivial)))) (And.intro (And.intro (rfl) (And.intro (rfl) (And.intro (And.intro (rfl) (And.intro (rfl) (rfl))) (trivial)))) (trivial)))))))
      · show i + 1 ≤ 64
        omega
      · show 64 - (i + 1) < 64 - i
        omega
    have hi : i = 64 := by
      have : ¬((i : Int) < 64) := of_decide_eq_false hge
      omega
    subst hi
    refine And.intro (by omega) ?_
    refine And.intro ⟨rfl, by omega⟩ ?_
    refine And.intro (by omega) ?_
    refine And.intro ⟨rfl, by omega⟩ ?_
    refine And.intro (by omega) ?_
    refine And.intro ⟨rfl, by omega⟩ ?_
    refine And.intro (by omega) ?_
    refine And.intro ⟨rfl, by omega⟩ ?_
    refine And.intro (by omega) ?_
    refine And.intro ⟨⟨rfl, rfl⟩, by omega⟩ ?_
    refine And.intro (by omega) ?_
    refine And.intro ⟨⟨rfl, rfl⟩, by omega⟩ ?_
    refine And.intro (by omega) ?_
    refine And.intro ⟨⟨rfl, rfl⟩, by omega⟩ ?_
    refine And.intro (by omega) ?_
    refine And.intro ⟨⟨rfl, rfl⟩, by omega⟩ ?_
    refine And.intro (by omega) ?_
    refine And.intro ⟨rfl, by omega⟩ ?_
    refine And.intro (by omega) ?_
    refine And.intro ⟨rfl, by omega⟩ ?_
    refine And.intro (by omega) ?_
    refine And.intro ⟨rfl, by omega⟩ ?_
    refine And.intro (by omega) ?_
    refine And.intro ⟨rfl, by omega⟩ ?_
    refine And.intro (by omega) ?_
    refine And.intro ⟨⟨rfl, rfl⟩, by omega⟩ ?_
    refine And.intro (by omega) ?_
    refine And.intro ⟨⟨rfl, rfl⟩, by omega⟩ ?_
    refine And.intro (by omega) ?_
    refine And.intro ⟨⟨rfl, rfl⟩, by omega⟩ ?_
    refine And.intro (by omega) ?_
    refine And.intro ⟨⟨rfl, rfl⟩, by omega⟩ ?_
    refine And.intro (by omega) ?_
    refine ⟨⟨b2, bS, bK, r, j + 1⟩, [0, 1002, 1003, 1004, 5], rfl, rfl, ?_, ?_, ?_, ?_⟩
    · refine Eq.mpr (β := (g.b = g.b ∧ g.off = g.off ∧ g.n = g.n ∧ g.c = g.c ∧ g.z = g.z) ∧ ({ o := b2, ro := false : Blk } = { o := b2, ro := false : Blk } ∧ 0 = 0) ∧ ({ o := bS, ro := false : Blk } = { o := bS, ro := false : Blk } ∧ 0 = 0) ∧ ({ o := bK, ro := false : Blk } = { o := bK, ro := false : Blk } ∧ 0 = 0) ∧ ({ o := r.b, ro := false : Blk } = { o := r.b, ro := false : Blk } ∧ r.off = r.off ∧ padN g.n = padN g.n ∧ r.cap = r.cap ∧ r.z = r.z) ∧ Value.int IntKind.i64 (64 * (↑j : Int) + 64) = Value.int IntKind.i64 (64 * (↑(j + 1) : Int)) ∧ True) (by kernel_rfl) (And.intro (And.intro (rfl) (And.intro (rfl) (And.intro (rfl) (And.intro (rfl) (rfl))))) (And.intro (And.intro (rfl) (rfl)) (And.intro (And.intro (rfl) (rfl)) (And.intro (And.intro (rfl) (rfl)) (And.intro (And.intro (rfl) (And.intro (rfl) (And.intro (rfl) (And.intro (rfl) (rfl))))) (And.intro (intE (by omega)) (trivial)))))))
    · refine Eq.mpr (β := (g.b = g.b ∧ g.y = g.y ∧ (IntKind.u8 = IntKind.u8 ∧ g.m = g.m ∧ g.B = g.B) ∧ True) ∧ ({ o := b2, ro := false : Blk } = { o := b2, ro := false : Blk } ∧ (24 : TypeId) = (24 : TypeId) ∧ (IntKind.u8 = IntKind.u8 ∧ (32 : Nat) = (32 : Nat) ∧ List.replicate (32 : Nat) (0 : Int) = List.replicate (32 : Nat) (0 : Int)) ∧ True) ∧ ({ o := bS, ro := false : Blk } = { o := bS, ro := false : Blk } ∧ (64 : TypeId) = (64 : TypeId) ∧ (IntKind.u32 = IntKind.u32 ∧ (8 : Nat) = (8 : Nat) ∧ List.set (List.set (List.set (List.set (List.set (List.set (List.set (List.set (runB (padL (GS.l g) g.n) j) ((0 : Nat) + Int.toNat (0 : Int) * (1 : Nat)) (iadd IntKind.u32 (List.getD (runB (padL (GS.l g) g.n) j) ((0 : Nat) + Int.toNat (0 : Int) * (1 : Nat)) (0 : Int)) (rounds K0 (sched r.L (r.off + (64 : Nat) * j)) (ofL (runB (padL (GS.l g) g.n) j)) (64 : Nat)).a)) ((0 : Nat) + Int.toNat (1 : Int) * (1 : Nat)) (iadd IntKind.u32 (List.getD (runB (padL (GS.l g) g.n) j) ((0 : Nat) + Int.toNat (1 : Int) * (1 : Nat)) (0 : Int)) (rounds K0 (sched r.L (r.off + (64 : Nat) * j)) (ofL (runB (padL (GS.l g) g.n) j)) (64 : Nat)).b)) ((0 : Nat) + Int.toNat (2 : Int) * (1 : Nat)) (iadd IntKind.u32 (List.getD (runB (padL (GS.l g) g.n) j) ((0 : Nat) + Int.toNat (2 : Int) * (1 : Nat)) (0 : Int)) (rounds K0 (sched r.L (r.off + (64 : Nat) * j)) (ofL (runB (padL (GS.l g) g.n) j)) (64 : Nat)).c)) ((0 : Nat) + Int.toNat (3 : Int) * (1 : Nat)) (iadd IntKind.u32 (List.getD (runB (padL (GS.l g) g.n) j) ((0 : Nat) + Int.toNat (3 : Int) * (1 : Nat)) (0 : Int)) (rounds K0 (sched r.L (r.off + (64 : Nat) * j)) (ofL (runB (padL (GS.l g) g.n) j)) (64 : Nat)).d)) ((0 : Nat) + Int.toNat (4 : Int) * (1 : Nat)) (iadd IntKind.u32 (List.getD (List.set (List.set (List.set (List.set (runB (padL (GS.l g) g.n) j) ((0 : Nat) + Int.toNat (0 : Int) * (1 : Nat)) (iadd IntKind.u32 (List.getD (runB (padL (GS.l g) g.n) j) ((0 : Nat) + Int.toNat (0 : Int) * (1 : Nat)) (0 : Int)) (rounds K0 (sched r.L (r.off + (64 : Nat) * j)) (ofL (runB (padL (GS.l g) g.n) j)) (64 : Nat)).a)) ((0 : Nat) + Int.toNat (1 : Int) * (1 : Nat)) (iadd IntKind.u32 (List.getD (runB (padL (GS.l g) g.n) j) ((0 : Nat) + Int.toNat (1 : Int) * (1 : Nat)) (0 : Int)) (rounds K0 (sched r.L (r.off + (64 : Nat) * j)) (ofL (runB (padL (GS.l g) g.n) j)) (64 : Nat)).b)) ((0 : Nat) + Int.toNat (2 : Int) * (1 : Nat)) (iadd IntKind.u32 (List.getD (runB (padL (GS.l g) g.n) j) ((0 : Nat) + Int.toNat (2 : Int) * (1 : Nat)) (0 : Int)) (rounds K0 (sched r.L (r.off + (64 : Nat) * j)) (ofL (runB (padL (GS.l g) g.n) j)) (64 : Nat)).c)) ((0 : Nat) + Int.toNat (3 : Int) * (1 : Nat)) (iadd IntKind.u32 (List.getD (runB (padL (GS.l g) g.n) j) ((0 : Nat) + Int.toNat (3 : Int) * (1 : Nat)) (0 : Int)) (rounds K0 (sched r.L (r.off + (64 : Nat) * j)) (ofL (runB (padL (GS.l g) g.n) j)) (64 : Nat)).d)) ((0 : Nat) + Int.toNat (4 : Int) * (1 : Nat)) (0 : Int)) (rounds K0 (sched r.L (r.off + (64 : Nat) * j)) (ofL (runB (padL (GS.l g) g.n) j)) (64 : Nat)).e)) ((0 : Nat) + Int.toNat (5 : Int) * (1 : Nat)) (iadd IntKind.u32 (List.getD (List.set (List.set (List.set (List.set (runB (padL (GS.l g) g.n) j) ((0 : Nat) + Int.toNat (0 : Int) * (1 : Nat)) (iadd IntKind.u32 (List.getD (runB (padL (GS.l g) g.n) j) ((0 : Nat) + Int.toNat (0 : Int) * (1 : Nat)) (0 : Int)) (rounds K0 (sched r.L (r.off + (64 : Nat) * j)) (ofL (runB (padL (GS.l g) g.n) j)) (64 : Nat)).a)) ((0 : Nat) + Int.toNat (1 : Int) * (1 : Nat)) (iadd IntKind.u32 (List.getD (runB (padL (GS.l g) g.n) j) ((0 : Nat) + Int.toNat (1 : Int) * (1 : Nat)) (0 : Int)) (rounds K0 (sched r.L (r.off + (64 : Nat) * j)) (ofL (runB (padL (GS.l g) g.n) j)) (64 : Nat)).b)) ((0 : Nat) + Int.toNat (2 : Int) * (1 : Nat)) (iadd IntKind.u32 (List.getD (runB (padL (GS.l g) g.n) j) ((0 : Nat) + Int.toNat (2 : Int) * (1 : Nat)) (0 : Int)) (rounds K0 (sched r.L (r.off + (64 : Nat) * j)) (ofL (runB (padL (GS.l g) g.n) j)) (64 : Nat)).c)) ((0 : Nat) + Int.toNat (3 : Int) * (1 : Nat)) (iadd IntKind.u32 (List.getD (runB (padL (GS.l g) g.n) j) ((0 : Nat) + Int.toNat (3 : Int) * (1 : Nat)) (0 : Int)) (rounds K0 (sched r.L (r.off + (64 : Nat) * j)) (ofL (runB (padL (GS.l g) g.n) j)) (64 : Nat)).d)) ((0 : Nat) + Int.toNat (5 : Int) * (1 : Nat)) (0 : Int)) (rounds K0 (sched r.L (r.off + (64 : Nat) * j)) (ofL (runB (padL (GS.l g) g.n) j)) (64 : Nat)).f)) ((0 : Nat) + Int.toNat (6 : Int) * (1 : Nat)) (iadd IntKind.u32 (List.getD (List.set (List.set (List.set (List.set (runB (padL (GS.l g) g.n) j) ((0 : Nat) + Int.toNat (0 : Int) * (1 : Nat)) (iadd IntKind.u32 (List.getD (runB (padL (GS.l g) g.n) j) ((0 : Nat) + Int.toNat (0 : Int) * (1 : Nat)) (0 : Int)) (rounds K0 (sched r.L (r.off + (64 : Nat) * j)) (ofL (runB (padL (GS.l g) g.n) j)) (64 : Nat)).a)) ((0 : Nat) + Int.toNat (1 : Int) * (1 : Nat)) (iadd IntKind.u32 (List.getD (runB (padL (GS.l g) g.n) j) ((0 : Nat) + Int.toNat (1 : Int) * (1 : Nat)) (0 : Int)) (rounds K0 (sched r.L (r.off + (64 : Nat) * j)) (ofL (runB (padL (GS.l g) g.n) j)) (64 : Nat)).b)) ((0 : Nat) + Int.toNat (2 : Int) * (1 : Nat)) (iadd IntKind.u32 (List.getD (runB (padL (GS.l g) g.n) j) ((0 : Nat) + Int.toNat (2 : Int) * (1 : Nat)) (0 : Int)) (rounds K0 (sched r.L (r.off + (64 : Nat) * j)) (ofL (runB (padL (GS.l g) g.n) j)) (64 : Nat)).c)) ((0 : Nat) + Int.toNat (3 : Int) * (1 : Nat)) (iadd IntKind.u32 (List.getD (runB (padL (GS.l g) g.n) j) ((0 : Nat) + Int.toNat (3 : Int) * (1 : Nat)) (0 : Int)) (rounds K0 (sched r.L (r.off + (64 : Nat) * j)) (ofL (runB (padL (GS.l g) g.n) j)) (64 : Nat)).d)) ((0 : Nat) + Int.toNat (6 : Int) * (1 : Nat)) (0 : Int)) (rounds K0 (sched r.L (r.off + (64 : Nat) * j)) (ofL (runB (padL (GS.l g) g.n) j)) (64 : Nat)).g)) ((0 : Nat) + Int.toNat (7 : Int) * (1 : Nat)) (iadd IntKind.u32 (List.getD (List.set (List.set (List.set (List.set (runB (padL (GS.l g) g.n) j) ((0 : Nat) + Int.toNat (0 : Int) * (1 : Nat)) (iadd IntKind.u32 (List.getD (runB (padL (GS.l g) g.n) j) ((0 : Nat) + Int.toNat (0 : Int) * (1 : Nat)) (0 : Int)) (rounds K0 (sched r.L (r.off + (64 : Nat) * j)) (ofL (runB (padL (GS.l g) g.n) j)) (64 : Nat)).a)) ((0 : Nat) + Int.toNat (1 : Int) * (1 : Nat)) (iadd IntKind.u32 (List.getD (runB (padL (GS.l g) g.n) j) ((0 : Nat) + Int.toNat (1 : Int) * (1 : Nat)) (0 : Int)) (rounds K0 (sched r.L (r.off + (64 : Nat) * j)) (ofL (runB (padL (GS.l g) g.n) j)) (64 : Nat)).b)) ((0 : Nat) + Int.toNat (2 : Int) * (1 : Nat)) (iadd IntKind.u32 (List.getD (runB (padL (GS.l g) g.n) j) ((0 : Nat) + Int.toNat (2 : Int) * (1 : Nat)) (0 : Int)) (rounds K0 (sched r.L (r.off + (64 : Nat) * j)) (ofL (runB (padL (GS.l g) g.n) j)) (64 : Nat)).c)) ((0 : Nat) + Int.toNat (3 : Int) * (1 : Nat)) (iadd IntKind.u32 (List.getD (runB (padL (GS.l g) g.n) j) ((0 : Nat) + Int.toNat (3 : Int) * (1 : Nat)) (0 : Int)) (rounds K0 (sched r.L (r.off + (64 : Nat) * j)) (ofL (runB (padL (GS.l g) g.n) j)) (64 : Nat)).d)) ((0 : Nat) + Int.toNat (7 : Int) * (1 : Nat)) (0 : Int)) (rounds K0 (sched r.L (r.off + (64 : Nat) * j)) (ofL (runB (padL (GS.l g) g.n) j)) (64 : Nat)).h) = runB (padL (GS.l g) g.n) (j + (1 : Nat))) ∧ True) ∧ ({ o := bK, ro := false : Blk } = { o := bK, ro := false : Blk } ∧ (63 : TypeId) = (63 : TypeId) ∧ (IntKind.u32 = IntKind.u32 ∧ (64 : Nat) = (64 : Nat) ∧ K0 = K0) ∧ True) ∧ ({ o := r.b, ro := false : Blk } = { o := r.b, ro := false : Blk } ∧ r.y = r.y ∧ (IntKind.u8 = IntKind.u8 ∧ r.m = r.m ∧ r.L = r.L) ∧ True) ∧ True) (by kernel_rfl) (And.intro (And.intro (rfl) (And.intro (rfl) (And.intro (And.intro (rfl) (And.intro (rfl) (rfl))) (trivial)))) (And.intro (And.intro (rfl) (And.intro (rfl) (And.intro (And.intro (rfl) (And.intro (rfl) (rfl))) (trivial)))) (And.intro (And.intro (rfl) (And.intro (rfl) (And.intro (And.intro (rfl) (And.intro (rfl) (?_))) (trivial)))) (And.intro (And.intro (rfl) (And.intro (rfl) (And.intro (And.intro (rfl) (And.intro (rfl) (rfl))) (trivial)))) (And.intro (And.intro (rfl) (And.intro (rfl) (And.intro (And.intro (rfl) (And.intro (rfl) (rfl))) (trivial)))) (trivial))))))
      have e0 : 0 + Int.toNat 0 * 1 = 0 := rfl
      have e1 : 0 + Int.toNat 1 * 1 = 1 := rfl
      have e2 : 0 + Int.toNat 2 * 1 = 2 := rfl
      have e3 : 0 + Int.toNat 3 * 1 = 3 := rfl
      have e4 : 0 + Int.toNat 4 * 1 = 4 := rfl
      have e5 : 0 + Int.toNat 5 * 1 = 5 := rfl
      have e6 : 0 + Int.toNat 6 * 1 = 6 := rfl
      have e7 : 0 + Int.toNat 7 * 1 = 7 := rfl
      rw [e0, e1, e2, e3, e4, e5, e6, e7, runB_succ, ← mixS_congr K0 _ (B := r.L) (o := r.off + 64 * j) (fun i hi => by rw [Nat.add_assoc]; exact take_getD r5 (by omega)), mixS_eq, addL_eq]
      simp only [List.getD_eq_getElem?_getD, List.getElem?_set]
      simp [S8.toL]
    · exact ⟨⟨r1, r2, r3, r4, r5⟩, by show j + 1 ≤ _; omega⟩
    · show padN g.n / 64 - (j + 1) < padN g.n / 64 - j
      omega
  have hje : j = padN g.n / 64 := by
    have : ¬ (64 * (j : Int)) < (padN g.n : Int) := of_decide_eq_false hge
    omega
  subst hje
  intro bo _
  refine ⟨inv15d g b2 bS bo, ⟨(0 : Nat), [0, 1002, 1003, 1023], rfl, rfl, ?_, ?_, ?_, trivial⟩, ?_⟩
  · refine Eq.mpr (β := (g.b = g.b ∧ g.off = g.off ∧ g.n = g.n ∧ g.c = g.c ∧ g.z = g.z) ∧ ({ o := b2, ro := false : Blk } = { o := b2, ro := false : Blk } ∧ 0 = 0) ∧ ({ o := bS, ro := false : Blk } = { o := bS, ro := false : Blk } ∧ 0 = 0) ∧ ({ o := bo, ro := false : Blk } = { o := bo, ro := false : Blk } ∧ 0 = 0) ∧ Value.int IntKind.i64 0 = Value.int IntKind.i64 (↑0 : Int) ∧ True) (by kernel_rfl) (And.intro (And.intro (rfl) (And.intro (rfl) (And.intro (rfl) (And.intro (rfl) (rfl))))) (And.intro (And.intro (rfl) (rfl)) (And.intro (And.intro (rfl) (rfl)) (And.intro (And.intro (rfl) (rfl)) (And.intro (intE (by omega)) (trivial))))))
  · refine Eq.mpr (β := (g.b = g.b ∧ g.y = g.y ∧ (IntKind.u8 = IntKind.u8 ∧ g.m = g.m ∧ g.B = g.B) ∧ True) ∧ ({ o := b2, ro := false : Blk } = { o := b2, ro := false : Blk } ∧ (24 : TypeId) = (24 : TypeId) ∧ (IntKind.u8 = IntKind.u8 ∧ (32 : Nat) = (32 : Nat) ∧ List.replicate (32 : Nat) (0 : Int) = List.replicate (32 : Nat) (0 : Int)) ∧ True) ∧ ({ o := bS, ro := false : Blk } = { o := bS, ro := false : Blk } ∧ (64 : TypeId) = (64 : TypeId) ∧ (IntKind.u32 = IntKind.u32 ∧ (8 : Nat) = (8 : Nat) ∧ runB (padL (GS.l g) g.n) (padN g.n / (64 : Nat)) = runB (padL (GS.l g) g.n) (padN g.n / (64 : Nat))) ∧ True) ∧ ({ o := bo, ro := false : Blk } = { o := bo, ro := false : Blk } ∧ (24 : Nat) = (24 : TypeId) ∧ (IntKind.u8 = IntKind.u8 ∧ (32 : Nat) = (32 : Nat) ∧ List.replicate (32 : Nat) (0 : Int) = outL (runB (padL (GS.l g) g.n) (padN g.n / (64 : Nat))) (0 : Nat)) ∧ True) ∧ True) (by kernel_rfl) (And.intro (And.intro (rfl) (And.intro (rfl) (And.intro (And.intro (rfl) (And.intro (rfl) (rfl))) (trivial)))) (And.intro (And.intro (rfl) (And.intro (rfl) (And.intro (And.intro (rfl) (And.intro (rfl) (rfl))) (trivial)))) (And.intro (And.intro (rfl) (And.intro (rfl) (And.intro (And.intro (rfl) (And.intro (rfl) (rfl))) (trivial)))) (And.intro (And.intro (rfl) (And.intro (rfl) (And.intro (And.intro (rfl) (And.intro (rfl) (?_))) (trivial)))) (trivial)))))
    rw [outL_zero]
  · exact Nat.zero_le _
  intro (i : Nat) (hi : i ≤ 32)
  refine ⟨fun hlt => ?_, fun hge => ?_⟩
  · have hlt : (i : Int) < 32 := of_decide_eq_true hlt
    have hq : iquo .i64 (i : Int) 4 = ((i / 4 : Nat) : Int) := by
      unfold iquo
      rw [show Int.tdiv (i : Int) 4 = ((i / 4 : Nat) : Int) from rfl, IntKind.wrap_i64]
      omega
    have hm : Int.tmod (i : Int) 4 = ((i % 4 : Nat) : Int) := rfl
    refine And.intro (by omega) ?_
    refine And.intro (by omega) ?_
    refine And.intro ⟨rfl, by omega⟩ ?_
    refine And.intro (by omega) ?_
    refine And.intro (by omega) ?_
    refine And.intro (by omega) ?_
    refine And.intro (by omega) ?_
    refine And.intro (by omega) ?_
    refine And.intro ⟨⟨rfl, rfl⟩, by omega⟩ ?_
    refine And.intro (by omega) ?_
    refine ⟨(i + 1 : Nat), [0, 1002, 1003, 1023], rfl, rfl, ?_, ?_, ?_, ?_⟩
    · refine Eq.mpr (β := (g.b = g.b ∧ g.off = g.off ∧ g.n = g.n ∧ g.c = g.c ∧ g.z = g.z) ∧ ({ o := b2, ro := false : Blk } = { o := b2, ro := false : Blk } ∧ 0 = 0) ∧ ({ o := bS, ro := false : Blk } = { o := bS, ro := false : Blk } ∧ 0 = 0) ∧ ({ o := bo, ro := false : Blk } = { o := bo, ro := false : Blk } ∧ 0 = 0) ∧ Value.int IntKind.i64 ((↑i : Int) + 1) = Value.int IntKind.i64 (↑(i + 1) : Int) ∧ True) (by kernel_rfl) (And.intro (And.intro (rfl) (And.intro (rfl) (And.intro (rfl) (And.intro (rfl) (rfl))))) (And.intro (And.intro (rfl) (rfl)) (And.intro (And.intro (rfl) (rfl)) (And.intro (And.intro (rfl) (rfl)) (And.intro (intE (by omega)) (trivial))))))
    · refine Eq.mpr (β := (g.b = g.b ∧ g.y = g.y ∧ (IntKind.u8 = IntKind.u8 ∧ g.m = g.m ∧ g.B = g.B) ∧ True) ∧ ({ o := b2, ro := false : Blk } = { o := b2, ro := false : Blk } ∧ (24 : TypeId) = (24 : TypeId) ∧ (IntKind.u8 = IntKind.u8 ∧ (32 : Nat) = (32 : Nat) ∧ List.replicate (32 : Nat) (0 : Int) = List.replicate (32 : Nat) (0 : Int)) ∧ True) ∧ ({ o := bS, ro := false : Blk } = { o := bS, ro := false : Blk } ∧ (64 : TypeId) = (64 : TypeId) ∧ (IntKind.u32 = IntKind.u32 ∧ (8 : Nat) = (8 : Nat) ∧ runB (padL (GS.l g) g.n) (padN g.n / (64 : Nat)) = runB (padL (GS.l g) g.n) (padN g.n / (64 : Nat))) ∧ True) ∧ ({ o := bo, ro := false : Blk } = { o := bo, ro := false : Blk } ∧ (24 : TypeId) = (24 : TypeId) ∧ (IntKind.u8 = IntKind.u8 ∧ (32 : Nat) = (32 : Nat) ∧ List.set (outL (runB (padL (GS.l g) g.n) (padN g.n / (64 : Nat))) i) ((0 : Nat) + Int.toNat (↑i : Int) * (1 : Nat)) (IntKind.wrap IntKind.u8 (ishr IntKind.u32 (List.getD (runB (padL (GS.l g) g.n) (padN g.n / (64 : Nat))) ((0 : Nat) + Int.toNat (iquo IntKind.i64 (↑i : Int) (4 : Int)) * (1 : Nat)) (0 : Int)) ((24 : Int) - (8 : Int) * Int.tmod (↑i : Int) (4 : Int)))) = outL (runB (padL (GS.l g) g.n) (padN g.n / (64 : Nat))) (i + (1 : Nat))) ∧ True) ∧ True) (by kernel_rfl) (And.intro (And.intro (rfl) (And.intro (rfl) (And.intro (And.intro (rfl) (And.intro (rfl) (rfl))) (trivial)))) (And.intro (And.intro (rfl) (And.intro (rfl) (And.intro (And.intro (rfl) (And.intro (rfl) (rfl))) (trivial)))) (And.intro (And.intro (rfl) (And.intro (rfl) (And.intro (And.intro (rfl) (And.intro (rfl) (rfl))) (trivial)))) (And.intro (And.intro (rfl) (And.intro (rfl) (And.intro (And.intro (rfl) (And.intro (rfl) (?_))) (trivial)))) (trivial)))))
      have e : 0 + (i : Int).toNat * 1 = i := by omega
      have e1 : 0 + ((i / 4 : Nat) : Int).toNat * 1 = i / 4 := by omega
      rw [hq, hm, e, e1, outL_succ]
      rfl
    · show i + 1 ≤ 32
      omega
    · show 32 - (i + 1) < 32 - i
      omega
  have hi : i = 32 := by
    have : ¬((i : Int) < 32) := of_decide_eq_false hge
    omega
  subst hi
  refine And.intro ⟨rfl, by omega⟩ ?_
  refine And.intro ⟨⟨rfl, rfl⟩, by omega⟩ ?_
  refine And.intro ⟨rfl, by omega⟩ ?_
  refine ⟨(), [0], ?_, rfl, rfl, ?_, trivial⟩
  · refine Eq.mpr (β := (IntKind.u8 = IntKind.u8 ∧ 31 + 1 = 32 ∧ List.take (31 + 1) (List.drop 0 (List.take 0 (List.replicate 32 0) ++ List.take (31 + 1) (List.drop 0 (outL (runB (padL (GS.l g) g.n) (padN g.n / 64)) 32)) ++ List.drop (0 + (31 + 1)) (List.replicate 32 0))) = sumL (GS.l g) g.n) ∧ True) (by kernel_rfl) (And.intro (And.intro (rfl) (And.intro (rfl) (?_))) (trivial))
    have h := outL_len (runB (padL g.l g.n) (padN g.n / 64)) 32
    rw [show sumL g.l g.n = outL (runB (padL g.l g.n) (padN g.n / 64)) 32 from rfl]
    generalize outL (runB (padL g.l g.n) (padN g.n / 64)) 32 = X at h ⊢
    simp [List.take_of_length_le, h]
  · refine Eq.mpr (β := (g.b = g.b ∧ g.y = g.y ∧ (IntKind.u8 = IntKind.u8 ∧ g.m = g.m ∧ g.B = g.B) ∧ True) ∧ True) (by kernel_rfl) (And.intro (And.intro (rfl) (And.intro (rfl) (And.intro (And.intro (rfl) (And.intro (rfl) (rfl))) (trivial)))) (trivial))

end Go.Proofs.Ytpggklkofilmfaa
