/- The program's sum: the walk. -/
import Derived.Test.YtpggklkofilmfaaSha5
set_option linter.unusedSimpArgs false
set_option linter.unusedVariables false
namespace Go.Proofs.Ytpggklkofilmfaa
open Go Go.Ab
set_option maxRecDepth 100000

/-! ### sha.Sum -/
def con14 : FuncId → Option Con
  | 32 => some sp32.con
  | 33 => some sp33.con
  | _ => none
def cx14 : Cx := ⟨tab, con14, 97, true⟩
theorem cx14_ok : CxOk Try.prog cx14 := ⟨tab_ok, fun f c h => by
  unfold cx14 con14 at h
  dsimp only at h
  split at h
  · cases h; exact conOk_of_spec fn32
  · cases h; exact conOk_of_spec fn33
  · cases h⟩
def inv14a (g : GS) (b2 bK bS : BlkO) : Inv where
  G := Nat × Nat
  pre x := 64 * x.1 ≤ g.n ∧ (64 * x.1 < g.n → x.2 = g.off + 64 * x.1) ∧ x.2 + (g.c - 64 * x.1) ≤ g.m
  sl x := [(0, .c (.sl 0 g.b x.2 (g.n - 64 * x.1) (g.c - 64 * x.1) g.z)), (2, .c (.ptr 1002 b2 0)), (3, .c (.ptr 3 bK 0)), (4, .c (.ptr 1004 bS 0)), (5, .int .u64 (lenW g.n))]
  hp x := [g.ent 0 .u8, (1002, b2, .cells 25 [.ints .u8 32 (List.replicate 32 0)]), (3, bK, .cells 67 [.ints .u32 64 K0, .ints .u32 8 H0]), (1004, bS, .cells 65 [.ints .u32 8 (runB (padL g.l g.n) x.1)])]
  mu x := g.n / 64 - x.1
def inv14b (g : GS) (b2 bK bS b6 : BlkO) (j o : Nat) : Inv where
  G := List Int
  pre T := T.length = 128 ∧ ∀ x, x < 128 → T.getD x 0 = if x < g.n - 64 * j then (padL g.l g.n).getD (64 * j + x) 0 else 0
  sl x := [(0, .c (.sl 0 g.b o (g.n - 64 * j) (g.c - 64 * j) g.z)), (2, .c (.ptr 1002 b2 0)), (3, .c (.ptr 3 bK 0)), (4, .c (.ptr 1004 bS 0)), (5, .int .u64 (lenW g.n)), (6, .c (.ptr 1006 b6 0)), (7, .int .i64 (if 56 ≤ g.n - 64 * j then 128 else 64))]
  hp T := [g.ent 0 .u8, (1002, b2, .cells 25 [.ints .u8 32 (List.replicate 32 0)]), (3, bK, .cells 67 [.ints .u32 64 K0, .ints .u32 8 H0]), (1004, bS, .cells 65 [.ints .u32 8 (runB (padL g.l g.n) j)]), (1006, b6, .cells 69 [.ints .u8 128 T])]
  mu _ := 0
def inv14c (g : GS) (b2 bK bS b6 : BlkO) (j e : Nat) : Inv where
  G := List Int × Nat
  pre T := T.1.length = 128 ∧ T.2 ≤ 8 ∧ ∀ x, x < e → T.1.getD x 0 = if x < e - 8 ∨ e - T.2 ≤ x then (padL g.l g.n).getD (64 * j + x) 0 else 0
  sl x := [(2, .c (.ptr 1002 b2 0)), (3, .c (.ptr 3 bK 0)), (4, .c (.ptr 1004 bS 0)), (5, .int .u64 (lenW g.n)), (6, .c (.ptr 1006 b6 0)), (7, .int .i64 e), (38, .int .i64 x.2)]
  hp T := [g.ent 0 .u8, (1002, b2, .cells 25 [.ints .u8 32 (List.replicate 32 0)]), (3, bK, .cells 67 [.ints .u32 64 K0, .ints .u32 8 H0]), (1004, bS, .cells 65 [.ints .u32 8 (runB (padL g.l g.n) j)]), (1006, b6, .cells 69 [.ints .u8 128 T.1])]
  mu x := 8 - x.2
def inv14d (g : GS) (b2 bK bS b6 : BlkO) (j e : Nat) (T : List Int) : Inv where
  G := Nat
  pre k := 64 * k ≤ e
  sl k := [(2, .c (.ptr 1002 b2 0)), (3, .c (.ptr 3 bK 0)), (4, .c (.ptr 1004 bS 0)), (6, .c (.ptr 1006 b6 0)), (7, .int .i64 e), (9, .int .i64 (64 * (k : Int)))]
  hp k := [g.ent 0 .u8, (1002, b2, .cells 25 [.ints .u8 32 (List.replicate 32 0)]), (3, bK, .cells 67 [.ints .u32 64 K0, .ints .u32 8 H0]), (1004, bS, .cells 65 [.ints .u32 8 (runB (padL g.l g.n) (j + k))]), (1006, b6, .cells 69 [.ints .u8 128 T])]
  mu k := e - 64 * k
def inv14e (g : GS) (b2 b10 : BlkO) (S : List Int) : Inv where
  G := Nat
  pre i := i ≤ 8
  sl i := [(2, .c (.ptr 1002 b2 0)), (10, .c (.ptr 1010 b10 0)), (64, .agg [.ints .u32 8 S]), (65, .int .i64 i)]
  hp i := [g.ent 0 .u8, (1002, b2, .cells 25 [.ints .u8 32 (List.replicate 32 0)]), (1010, b10, .cells 25 [.ints .u8 32 (outL S (4 * i))])]
  mu i := 8 - i
theorem wrap_u64_id {x : Int} (h : 0 ≤ x ∧ x < 18446744073709551616) : IntKind.u64.wrap x = x := by
  unfold IntKind.wrap
  simp only [IntKind.bits, IntKind.signed, Bool.false_and, Bool.false_eq_true, if_false]
  omega
theorem ishr_zero (k : IntKind) (x : Int) : ishr k x 0 = x := by
  unfold ishr
  simp
theorem getD_set (T : List Int) (i x : Nat) (v : Int) (h : i < T.length) : (T.set i v).getD x 0 = if x = i then v else T.getD x 0 := by
  simp only [List.getD_eq_getElem?_getD, List.getElem?_set]
  by_cases hx : i = x
  · subst hx; simp [h]
  · rw [if_neg hx, if_neg (fun e => hx e.symm)]
def cp14 (B : List Int) (o r : Nat) : List Int := List.take 0 (List.replicate 128 (0 : Int)) ++ (((B.drop o).take r).take (min r 128) ++ (List.replicate 128 (0 : Int)).drop (0 + min r 128))
theorem cp14_len (B : List Int) (o r : Nat) (hr : r < 64) (hB : r = 0 ∨ o + r ≤ B.length) : (cp14 B o r).length = 128 := by
  unfold cp14
  simp
  omega
theorem cp14_getD (B : List Int) (o r : Nat) (hr : r < 64) (hB : r = 0 ∨ o + r ≤ B.length) (x : Nat) (hx : x < 128) : (cp14 B o r).getD x 0 = if x < r then B.getD (o + x) 0 else 0 := by
  unfold cp14
  rw [show min r 128 = r by omega, List.take_zero, List.nil_append, List.take_take, Nat.min_self, Nat.zero_add, List.getD_eq_getElem?_getD]
  split
  · rename_i h
    rw [List.getElem?_append_left (by simp; omega), List.getElem?_take, if_pos h, List.getElem?_drop, ← List.getD_eq_getElem?_getD]
  · rename_i h
    rw [List.getElem?_append_right (by simp; omega)]
    rw [List.drop_replicate, List.getElem?_replicate]
    split <;> rfl
theorem addL_len (V S : List Int) : ∀ i, (addL V S i).length = S.length
  | 0 => by rw [addL_zero]
  | i + 1 => by rw [addL_succ, List.length_set]; exact addL_len V S i
theorem runB_len (P : List Int) : ∀ j, (runB P j).length = 8
  | 0 => by rw [runB_zero]; rfl
  | j + 1 => by rw [runB_succ, mixS_eq, addL_len]; exact runB_len P j
theorem outL4 (S : List Int) (i : Nat) : ((((outL S (4 * i)).set (4 * i) (IntKind.u8.wrap (ishr .u32 (S.getD i 0) 24))).set (4 * i + 1) (IntKind.u8.wrap (ishr .u32 (S.getD i 0) 16))).set (4 * i + 2) (IntKind.u8.wrap (ishr .u32 (S.getD i 0) 8))).set (4 * i + 3) (IntKind.u8.wrap (S.getD i 0)) = outL S (4 * (i + 1)) := by
  rw [show 4 * (i + 1) = 4 * i + 1 + 1 + 1 + 1 by omega, outL_succ, outL_succ, outL_succ, outL_succ]
  unfold outB
  rw [show (4 * i) / 4 = i by omega, show (4 * i + 1) / 4 = i by omega, show (4 * i + 1 + 1) / 4 = i by omega, show (4 * i + 1 + 1 + 1) / 4 = i by omega,
    show (24 - 8 * (((4 * i) % 4 : Nat) : Int)) = 24 by omega, show (24 - 8 * (((4 * i + 1) % 4 : Nat) : Int)) = 16 by omega, show (24 - 8 * (((4 * i + 1 + 1) % 4 : Nat) : Int)) = 8 by omega, show (24 - 8 * (((4 * i + 1 + 1 + 1) % 4 : Nat) : Int)) = 0 by omega, ishr_zero]
def nt14 : Notes := ⟨fun _ => none, fun | 11 => some none | _ => none, fun _ => none,
  [0, 2, 3, 4, 5, 6, 7, 8, 9, 10, 11, 12, 24, 34, 38, 39, 55, 64, 65, 66]⟩

set_option maxHeartbeats 8000000 in
theorem fn14 : FnOk Try.prog 14 spSum := by
  refine fnOk_of_vc cx14_ok wide (nt := fun _ => nt14) Try.func14 rfl rfl (by kernel_rfl) (fuel := 1000) (fun _ => Nat.le_of_ble_eq_true rfl) (fun _ _ t h => h) (fun h => by cases h) ?_
  intro (g : GS) hpre
  have hn : g.n ≤ 1099511627776 := hpre.2
  obtain ⟨g1, g2, g3, g4⟩ := hpre.1
  have hpn : padN g.n ≤ 1099511627776 + 72 := by unfold padN padK; omega
  have hp64 := padN_64 g.n
  have hl : g.l.length = g.n := by unfold GS.l; simp; omega
  intro b2 _
  refine ⟨by (refine And.intro (trivial) (And.intro (And.intro (trivial) (rfl)) (And.intro (rfl) (And.intro (rfl) (And.intro (rfl) (And.intro (rfl) (trivial))))))), ?_⟩
  intro (bK : BlkO) _
  refine And.intro ⟨rfl, Nat.le_of_ble_eq_true rfl⟩ ?_
  intro bS _
  refine And.intro ⟨⟨rfl, rfl⟩, Nat.le_of_ble_eq_true rfl⟩ ?_
  refine ⟨inv14a g b2 bK bS, ⟨(0, g.off), [0, 1002, 1013, 1004], rfl, rfl, ?_, ?_, ?_, trivial⟩, ?_⟩
  · refine Eq.mpr (β := (g.b = g.b ∧ g.off = g.off ∧ g.n = g.n - 64 * 0 ∧ g.c = g.c - 64 * 0 ∧ g.z = g.z) ∧ ({ o := b2, ro := false : Blk } = { o := b2, ro := false : Blk } ∧ 0 = 0) ∧ ({ o := bK, ro := false : Blk } = { o := bK, ro := false : Blk } ∧ 0 = 0) ∧ ({ o := bS, ro := false : Blk } = { o := bS, ro := false : Blk } ∧ 0 = 0) ∧ Value.int IntKind.u64 (imul IntKind.u64 (IntKind.wrap IntKind.u64 (↑g.n : Int)) 8) = Value.int IntKind.u64 (imul IntKind.u64 (IntKind.wrap IntKind.u64 (↑g.n : Int)) 8) ∧ True) (by kernel_rfl) (And.intro (And.intro (rfl) (And.intro (rfl) (And.intro (by omega) (And.intro (by omega) (rfl))))) (And.intro (And.intro (rfl) (rfl)) (And.intro (And.intro (rfl) (rfl)) (And.intro (And.intro (rfl) (rfl)) (And.intro (rfl) (trivial))))))
  · refine Eq.mpr (β := (g.b = g.b ∧ g.y = g.y ∧ (IntKind.u8 = IntKind.u8 ∧ g.m = g.m ∧ g.B = g.B) ∧ True) ∧ ({ o := b2, ro := false : Blk } = { o := b2, ro := false : Blk } ∧ (25 : Nat) = (25 : TypeId) ∧ (IntKind.u8 = IntKind.u8 ∧ (32 : Nat) = (32 : Nat) ∧ List.replicate (32 : Nat) (0 : Int) = List.replicate (32 : Nat) (0 : Int)) ∧ True) ∧ ({ o := bK, ro := false : Blk } = { o := bK, ro := false : Blk } ∧ (67 : TypeId) = (67 : TypeId) ∧ (IntKind.u32 = IntKind.u32 ∧ (64 : Nat) = (64 : Nat) ∧ K0 = K0) ∧ (IntKind.u32 = IntKind.u32 ∧ (8 : Nat) = (8 : Nat) ∧ H0 = H0) ∧ True) ∧ ({ o := bS, ro := false : Blk } = { o := bS, ro := false : Blk } ∧ (65 : Nat) = (65 : TypeId) ∧ (IntKind.u32 = IntKind.u32 ∧ (8 : Nat) = (8 : Nat) ∧ List.take (0 : Nat) (List.replicate (8 : Nat) (0 : Int)) ++ List.take (nat_lit 7 + (1 : Nat)) (List.drop ((0 : Nat) + (64 : Nat) - (64 : Nat)) H0) ++ List.drop ((0 : Nat) + (nat_lit 7 + (1 : Nat))) (List.replicate (8 : Nat) (0 : Int)) = runB (padL (GS.l g) g.n) (0 : Nat)) ∧ True) ∧ True) (by kernel_rfl) (And.intro (And.intro (rfl) (And.intro (rfl) (And.intro (And.intro (rfl) (And.intro (rfl) (rfl))) (trivial)))) (And.intro (And.intro (rfl) (And.intro (rfl) (And.intro (And.intro (rfl) (And.intro (rfl) (rfl))) (trivial)))) (And.intro (And.intro (rfl) (And.intro (rfl) (And.intro (And.intro (rfl) (And.intro (rfl) (rfl))) (And.intro (And.intro (rfl) (And.intro (rfl) (rfl))) (trivial))))) (And.intro (And.intro (rfl) (And.intro (rfl) (And.intro (And.intro (rfl) (And.intro (rfl) (?_))) (trivial)))) (trivial)))))
    rw [runB_zero]
    try rfl
  · exact ⟨by omega, fun _ => rfl, by show g.off + (g.c - 64 * 0) ≤ g.m; omega⟩
  rintro ⟨j, o⟩ ⟨h1, h2, h3⟩
  have h1 : 64 * j ≤ g.n := h1
  have h2 : 64 * j < g.n → o = g.off + 64 * j := h2
  have h3 : o + (g.c - 64 * j) ≤ g.m := h3
  skip
  refine ⟨fun hge => ?_, fun hlt => ?_⟩
  · replace hge : decide (64 ≤ (↑(g.n - 64 * j) : Int)) = true := Eq.mp (by kernel_rfl) hge
    have hge : (64 : Int) ≤ ((g.n - 64 * j : Nat) : Int) := of_decide_eq_true hge
    have hz : g.z = 0 := by omega
    have ho : o = g.off + 64 * j := h2 (by omega)
    have hP : ∀ x, x < 64 → g.B.getD (o + x) 0 = (padL g.l g.n).getD (64 * j + x) 0 := by
      intro x hx
      rw [padL_getD hl _ (by unfold padN; omega), if_pos (by omega), ho, Nat.add_assoc]
      exact take_getD (N := g.n) rfl (by omega)
    refine And.intro (by omega) ?_
    refine And.intro (And.intro (And.intro (And.intro (rfl) (rfl)) (And.intro (And.intro (rfl) (rfl)) (And.intro (And.intro (rfl) (And.intro (rfl) (And.intro (rfl) (And.intro (rfl) (rfl))))) (trivial)))) (And.intro (And.intro (And.intro (And.intro (rfl) (And.intro (rfl) (And.intro (And.intro (rfl) (And.intro (rfl) (rfl))) (trivial)))) (And.intro (And.intro (rfl) (And.intro (rfl) (And.intro (And.intro (rfl) (And.intro (rfl) (rfl))) (And.intro (And.intro (rfl) (And.intro (rfl) (rfl))) (trivial))))) (And.intro (And.intro (rfl) (And.intro (rfl) (And.intro (And.intro (rfl) (And.intro (rfl) (rfl))) (trivial)))) (trivial)))) (rfl)) (And.intro (rfl) (And.intro (rfl) (And.intro (rfl) (And.intro (rfl) (And.intro (Eq.mpr (β := o + 64 ≤ g.m) (by kernel_rfl) (by omega)) (by omega)))))))) (fun (_ : Unit) _ => ?_)
    refine And.intro (by omega) ?_
    refine ⟨(j + 1, if g.c - 64 * j = 64 then o else o + 64), [0, 1002, 3, 1004], rfl, rfl, ?_, ?_, ?_, ?_⟩
    · refine Eq.mpr (β := (g.b = g.b ∧ ((if g.c - 64 * j = Int.toNat 64 then o else o + Int.toNat 64 * 1) = if g.c - 64 * j = 64 then o else o + 64) ∧ g.n - 64 * j - Int.toNat 64 = g.n - 64 * (j + 1) ∧ g.c - 64 * j - Int.toNat 64 = g.c - 64 * (j + 1) ∧ g.z = g.z) ∧ ({ o := b2, ro := false : Blk } = { o := b2, ro := false : Blk } ∧ 0 = 0) ∧ ({ o := bK, ro := false : Blk } = { o := bK, ro := false : Blk } ∧ 0 = 0) ∧ ({ o := bS, ro := false : Blk } = { o := bS, ro := false : Blk } ∧ 0 = 0) ∧ Value.int IntKind.u64 (imul IntKind.u64 (IntKind.wrap IntKind.u64 (↑g.n : Int)) 8) = Value.int IntKind.u64 (imul IntKind.u64 (IntKind.wrap IntKind.u64 (↑g.n : Int)) 8) ∧ True) (by kernel_rfl) (And.intro (And.intro (rfl) (And.intro (?_) (And.intro (by omega) (And.intro (by omega) (rfl))))) (And.intro (And.intro (rfl) (rfl)) (And.intro (And.intro (rfl) (rfl)) (And.intro (And.intro (rfl) (rfl)) (And.intro (rfl) (trivial))))))
      show (if g.c - 64 * j = 64 then o else o + 64 * 1) = _
      rw [Nat.mul_one]
    · refine Eq.mpr (β := (g.b = g.b ∧ g.y = g.y ∧ (IntKind.u8 = IntKind.u8 ∧ g.m = g.m ∧ g.B = g.B) ∧ True) ∧ ({ o := b2, ro := false : Blk } = { o := b2, ro := false : Blk } ∧ (25 : TypeId) = (25 : TypeId) ∧ (IntKind.u8 = IntKind.u8 ∧ (32 : Nat) = (32 : Nat) ∧ List.replicate (32 : Nat) (0 : Int) = List.replicate (32 : Nat) (0 : Int)) ∧ True) ∧ ({ o := bK, ro := false : Blk } = { o := bK, ro := false : Blk } ∧ (67 : TypeId) = (67 : TypeId) ∧ (IntKind.u32 = IntKind.u32 ∧ (64 : Nat) = (64 : Nat) ∧ K0 = K0) ∧ (IntKind.u32 = IntKind.u32 ∧ (8 : Nat) = (8 : Nat) ∧ H0 = H0) ∧ True) ∧ ({ o := bS, ro := false : Blk } = { o := bS, ro := false : Blk } ∧ (65 : TypeId) = (65 : TypeId) ∧ (IntKind.u32 = IntKind.u32 ∧ (8 : Nat) = (8 : Nat) ∧ mixS K0 (runB (padL (GS.l g) g.n) j) g.B o = runB (padL (GS.l g) g.n) (j + (1 : Nat))) ∧ True) ∧ True) (by kernel_rfl) (And.intro (And.intro (rfl) (And.intro (rfl) (And.intro (And.intro (rfl) (And.intro (rfl) (rfl))) (trivial)))) (And.intro (And.intro (rfl) (And.intro (rfl) (And.intro (And.intro (rfl) (And.intro (rfl) (rfl))) (trivial)))) (And.intro (And.intro (rfl) (And.intro (rfl) (And.intro (And.intro (rfl) (And.intro (rfl) (rfl))) (And.intro (And.intro (rfl) (And.intro (rfl) (rfl))) (trivial))))) (And.intro (And.intro (rfl) (And.intro (rfl) (And.intro (And.intro (rfl) (And.intro (rfl) (?_))) (trivial)))) (trivial)))))
      rw [runB_succ]
      exact mixS_congr K0 _ hP
    · refine ⟨by show 64 * (j + 1) ≤ g.n; omega, ?_, ?_⟩
      · intro hh
        have hh : 64 * (j + 1) < g.n := hh
        show (if g.c - 64 * j = 64 then o else o + 64) = g.off + 64 * (j + 1)
        rw [if_neg (by omega)]; omega
      · show (if g.c - 64 * j = 64 then o else o + 64) + (g.c - 64 * (j + 1)) ≤ g.m
        split <;> omega
    · show g.n / 64 - (j + 1) < g.n / 64 - j
      omega
  replace hlt : decide (64 ≤ (↑(g.n - 64 * j) : Int)) = false := Eq.mp (by kernel_rfl) hlt
  have hlt : ¬ (64 : Int) ≤ ((g.n - 64 * j : Nat) : Int) := of_decide_eq_false hlt
  have hr : g.n - 64 * j < 64 := by omega
  intro b6 _
  skip
  have hjr : g.n - 64 * j = 0 ∨ o + (g.n - 64 * j) ≤ g.B.length := by omega
  have hT0 : (inv14b g b2 bK bS b6 j o).pre (cp14 g.B o (g.n - 64 * j)) := by
    refine ⟨cp14_len _ _ _ hr hjr, fun x hx => ?_⟩
    rw [cp14_getD _ _ _ hr hjr x hx]
    split
    · rename_i h
      rw [padL_getD hl _ (by unfold padN; omega), if_pos (by omega), h2 (by omega), Nat.add_assoc]
      exact take_getD (N := g.n) rfl (by omega)
    · rfl
  refine ⟨inv14b g b2 bK bS b6 j o, ?_, ?_⟩
  · refine And.intro (And.intro (And.intro (rfl) (And.intro (rfl) (And.intro (Eq.mpr (β := 0 + (128 - 0) ≤ 128) (by kernel_rfl) (by omega)) (by omega)))) (And.intro (rfl) (And.intro (by omega) (by omega)))) ?_
    refine ⟨fun h => ?_, fun h => ?_⟩
    · replace h : decide (56 ≤ (↑(min (g.n - 64 * j) (128 - 0)) : Int)) = true := Eq.mp (by kernel_rfl) h
      have h : (56 : Int) ≤ ((min (g.n - 64 * j) 128 : Nat) : Int) := of_decide_eq_true h
      refine ⟨cp14 g.B o (g.n - 64 * j), [0, 1002, 3, 1004, 1006], rfl, rfl, ?_, ?_, hT0, trivial⟩
      · refine Eq.mpr (β := (g.b = g.b ∧ o = o ∧ g.n - 64 * j = g.n - 64 * j ∧ g.c - 64 * j = g.c - 64 * j ∧ g.z = g.z) ∧ ({ o := b2, ro := false : Blk } = { o := b2, ro := false : Blk } ∧ 0 = 0) ∧ ({ o := bK, ro := false : Blk } = { o := bK, ro := false : Blk } ∧ 0 = 0) ∧ ({ o := bS, ro := false : Blk } = { o := bS, ro := false : Blk } ∧ 0 = 0) ∧ Value.int IntKind.u64 (imul IntKind.u64 (IntKind.wrap IntKind.u64 (↑g.n : Int)) 8) = Value.int IntKind.u64 (imul IntKind.u64 (IntKind.wrap IntKind.u64 (↑g.n : Int)) 8) ∧ ({ o := b6, ro := false : Blk } = { o := b6, ro := false : Blk } ∧ 0 = 0) ∧ Value.int IntKind.i64 128 = Value.int IntKind.i64 (if 56 ≤ g.n - 64 * j then 128 else 64) ∧ True) (by kernel_rfl) (And.intro (And.intro (rfl) (And.intro (rfl) (And.intro (rfl) (And.intro (rfl) (rfl))))) (And.intro (And.intro (rfl) (rfl)) (And.intro (And.intro (rfl) (rfl)) (And.intro (And.intro (rfl) (rfl)) (And.intro (rfl) (And.intro (And.intro (rfl) (rfl)) (And.intro (intE (by omega)) (trivial))))))))
      · refine Eq.mpr (β := (g.b = g.b ∧ g.y = g.y ∧ (IntKind.u8 = IntKind.u8 ∧ g.m = g.m ∧ g.B = g.B) ∧ True) ∧ ({ o := b2, ro := false : Blk } = { o := b2, ro := false : Blk } ∧ (25 : TypeId) = (25 : TypeId) ∧ (IntKind.u8 = IntKind.u8 ∧ (32 : Nat) = (32 : Nat) ∧ List.replicate (32 : Nat) (0 : Int) = List.replicate (32 : Nat) (0 : Int)) ∧ True) ∧ ({ o := bK, ro := false : Blk } = { o := bK, ro := false : Blk } ∧ (67 : TypeId) = (67 : TypeId) ∧ (IntKind.u32 = IntKind.u32 ∧ (64 : Nat) = (64 : Nat) ∧ K0 = K0) ∧ (IntKind.u32 = IntKind.u32 ∧ (8 : Nat) = (8 : Nat) ∧ H0 = H0) ∧ True) ∧ ({ o := bS, ro := false : Blk } = { o := bS, ro := false : Blk } ∧ (65 : TypeId) = (65 : TypeId) ∧ (IntKind.u32 = IntKind.u32 ∧ (8 : Nat) = (8 : Nat) ∧ runB (padL (GS.l g) g.n) j = runB (padL (GS.l g) g.n) j) ∧ True) ∧ ({ o := b6, ro := false : Blk } = { o := b6, ro := false : Blk } ∧ (69 : Nat) = (69 : TypeId) ∧ (IntKind.u8 = IntKind.u8 ∧ (128 : Nat) = (128 : Nat) ∧ List.take (0 : Nat) (List.replicate (128 : Nat) (0 : Int)) ++ (List.take (min (g.n - (64 : Nat) * j) ((128 : Nat) - (0 : Nat))) (List.take (g.n - (64 : Nat) * j) (List.drop o g.B)) ++ List.drop ((0 : Nat) + min (g.n - (64 : Nat) * j) ((128 : Nat) - (0 : Nat))) (List.replicate (128 : Nat) (0 : Int))) = List.take (0 : Nat) (List.replicate (128 : Nat) (0 : Int)) ++ (List.take (min (g.n - (64 : Nat) * j) (128 : Nat)) (List.take (g.n - (64 : Nat) * j) (List.drop o g.B)) ++ List.drop ((0 : Nat) + min (g.n - (64 : Nat) * j) (128 : Nat)) (List.replicate (128 : Nat) (0 : Int)))) ∧ True) ∧ True) (by kernel_rfl) (And.intro (And.intro (rfl) (And.intro (rfl) (And.intro (And.intro (rfl) (And.intro (rfl) (rfl))) (trivial)))) (And.intro (And.intro (rfl) (And.intro (rfl) (And.intro (And.intro (rfl) (And.intro (rfl) (rfl))) (trivial)))) (And.intro (And.intro (rfl) (And.intro (rfl) (And.intro (And.intro (rfl) (And.intro (rfl) (rfl))) (And.intro (And.intro (rfl) (And.intro (rfl) (rfl))) (trivial))))) (And.intro (And.intro (rfl) (And.intro (rfl) (And.intro (And.intro (rfl) (And.intro (rfl) (rfl))) (trivial)))) (And.intro (And.intro (rfl) (And.intro (rfl) (And.intro (And.intro (rfl) (And.intro (rfl) (rfl))) (trivial)))) (trivial))))))
    · replace h : decide (56 ≤ (↑(min (g.n - 64 * j) (128 - 0)) : Int)) = false := Eq.mp (by kernel_rfl) h
      have h : ¬ (56 : Int) ≤ ((min (g.n - 64 * j) 128 : Nat) : Int) := of_decide_eq_false h
      refine ⟨cp14 g.B o (g.n - 64 * j), [0, 1002, 3, 1004, 1006], rfl, rfl, ?_, ?_, hT0, trivial⟩
      · refine Eq.mpr (β := (g.b = g.b ∧ o = o ∧ g.n - 64 * j = g.n - 64 * j ∧ g.c - 64 * j = g.c - 64 * j ∧ g.z = g.z) ∧ ({ o := b2, ro := false : Blk } = { o := b2, ro := false : Blk } ∧ 0 = 0) ∧ ({ o := bK, ro := false : Blk } = { o := bK, ro := false : Blk } ∧ 0 = 0) ∧ ({ o := bS, ro := false : Blk } = { o := bS, ro := false : Blk } ∧ 0 = 0) ∧ Value.int IntKind.u64 (imul IntKind.u64 (IntKind.wrap IntKind.u64 (↑g.n : Int)) 8) = Value.int IntKind.u64 (imul IntKind.u64 (IntKind.wrap IntKind.u64 (↑g.n : Int)) 8) ∧ ({ o := b6, ro := false : Blk } = { o := b6, ro := false : Blk } ∧ 0 = 0) ∧ Value.int IntKind.i64 64 = Value.int IntKind.i64 (if 56 ≤ g.n - 64 * j then 128 else 64) ∧ True) (by kernel_rfl) (And.intro (And.intro (rfl) (And.intro (rfl) (And.intro (rfl) (And.intro (rfl) (rfl))))) (And.intro (And.intro (rfl) (rfl)) (And.intro (And.intro (rfl) (rfl)) (And.intro (And.intro (rfl) (rfl)) (And.intro (rfl) (And.intro (And.intro (rfl) (rfl)) (And.intro (intE (by omega)) (trivial))))))))
      · refine Eq.mpr (β := (g.b = g.b ∧ g.y = g.y ∧ (IntKind.u8 = IntKind.u8 ∧ g.m = g.m ∧ g.B = g.B) ∧ True) ∧ ({ o := b2, ro := false : Blk } = { o := b2, ro := false : Blk } ∧ (25 : TypeId) = (25 : TypeId) ∧ (IntKind.u8 = IntKind.u8 ∧ (32 : Nat) = (32 : Nat) ∧ List.replicate (32 : Nat) (0 : Int) = List.replicate (32 : Nat) (0 : Int)) ∧ True) ∧ ({ o := bK, ro := false : Blk } = { o := bK, ro := false : Blk } ∧ (67 : TypeId) = (67 : TypeId) ∧ (IntKind.u32 = IntKind.u32 ∧ (64 : Nat) = (64 : Nat) ∧ K0 = K0) ∧ (IntKind.u32 = IntKind.u32 ∧ (8 : Nat) = (8 : Nat) ∧ H0 = H0) ∧ True) ∧ ({ o := bS, ro := false : Blk } = { o := bS, ro := false : Blk } ∧ (65 : TypeId) = (65 : TypeId) ∧ (IntKind.u32 = IntKind.u32 ∧ (8 : Nat) = (8 : Nat) ∧ runB (padL (GS.l g) g.n) j = runB (padL (GS.l g) g.n) j) ∧ True) ∧ ({ o := b6, ro := false : Blk } = { o := b6, ro := false : Blk } ∧ (69 : Nat) = (69 : TypeId) ∧ (IntKind.u8 = IntKind.u8 ∧ (128 : Nat) = (128 : Nat) ∧ List.take (0 : Nat) (List.replicate (128 : Nat) (0 : Int)) ++ (List.take (min (g.n - (64 : Nat) * j) ((128 : Nat) - (0 : Nat))) (List.take (g.n - (64 : Nat) * j) (List.drop o g.B)) ++ List.drop ((0 : Nat) + min (g.n - (64 : Nat) * j) ((128 : Nat) - (0 : Nat))) (List.replicate (128 : Nat) (0 : Int))) = List.take (0 : Nat) (List.replicate (128 : Nat) (0 : Int)) ++ (List.take (min (g.n - (64 : Nat) * j) (128 : Nat)) (List.take (g.n - (64 : Nat) * j) (List.drop o g.B)) ++ List.drop ((0 : Nat) + min (g.n - (64 : Nat) * j) (128 : Nat)) (List.replicate (128 : Nat) (0 : Int)))) ∧ True) ∧ True) (by kernel_rfl) (And.intro (And.intro (rfl) (And.intro (rfl) (And.intro (And.intro (rfl) (And.intro (rfl) (rfl))) (trivial)))) (And.intro (And.intro (rfl) (And.intro (rfl) (And.intro (And.intro (rfl) (And.intro (rfl) (rfl))) (trivial)))) (And.intro (And.intro (rfl) (And.intro (rfl) (And.intro (And.intro (rfl) (And.intro (rfl) (rfl))) (And.intro (And.intro (rfl) (And.intro (rfl) (rfl))) (trivial))))) (And.intro (And.intro (rfl) (And.intro (rfl) (And.intro (And.intro (rfl) (And.intro (rfl) (rfl))) (trivial)))) (And.intro (And.intro (rfl) (And.intro (rfl) (And.intro (And.intro (rfl) (And.intro (rfl) (rfl))) (trivial)))) (trivial))))))
  clear hT0
  intro (T : List Int) hT
  have hT1 : T.length = 128 := hT.1
  have hT2 : ∀ x, x < 128 → T.getD x 0 = if x < g.n - 64 * j then (padL g.l g.n).getD (64 * j + x) 0 else 0 := hT.2
  clear hT
  obtain ⟨e, he⟩ : ∃ e : Nat, e = if 56 ≤ g.n - 64 * j then 128 else 64 := ⟨_, rfl⟩
  have he' : e ≤ 128 ∧ g.n - 64 * j + 9 ≤ e ∧ 64 ≤ e := by rw [he]; split <;> omega
  have hpe : padN g.n = 64 * j + e := by rw [he]; unfold padN padK; split <;> omega
  have hpk : padK g.n = 64 * j + e - 9 - g.n := by unfold padN at hpe; omega
  have hei : (if 56 ≤ g.n - 64 * j then 128 else 64 : Int) = (e : Int) := by rw [he]; split <;> rfl
  refine And.intro (by omega) ?_
  refine And.intro ⟨⟨rfl, rfl⟩, by omega⟩ ?_
  refine ⟨inv14c g b2 bK bS b6 j e, ⟨(T.set (g.n - 64 * j) 128, 0), [0, 1002, 3, 1004, 1006], rfl, rfl, ?_, ?_, ?_, trivial⟩, ?_⟩
  · refine Eq.mpr (β := ({ o := b2, ro := false : Blk } = { o := b2, ro := false : Blk } ∧ 0 = 0) ∧ ({ o := bK, ro := false : Blk } = { o := bK, ro := false : Blk } ∧ 0 = 0) ∧ ({ o := bS, ro := false : Blk } = { o := bS, ro := false : Blk } ∧ 0 = 0) ∧ Value.int IntKind.u64 (imul IntKind.u64 (IntKind.wrap IntKind.u64 (↑g.n : Int)) 8) = Value.int IntKind.u64 (imul IntKind.u64 (IntKind.wrap IntKind.u64 (↑g.n : Int)) 8) ∧ ({ o := b6, ro := false : Blk } = { o := b6, ro := false : Blk } ∧ 0 = 0) ∧ Value.int IntKind.i64 (if 56 ≤ g.n - 64 * j then 128 else 64) = Value.int IntKind.i64 (↑e : Int) ∧ Value.int IntKind.i64 0 = Value.int IntKind.i64 (↑0 : Int) ∧ True) (by kernel_rfl) (And.intro (And.intro (rfl) (rfl)) (And.intro (And.intro (rfl) (rfl)) (And.intro (And.intro (rfl) (rfl)) (And.intro (rfl) (And.intro (And.intro (rfl) (rfl)) (And.intro (intE (by omega)) (And.intro (intE (by omega)) (trivial))))))))
  · refine Eq.mpr (β := (g.b = g.b ∧ g.y = g.y ∧ (IntKind.u8 = IntKind.u8 ∧ g.m = g.m ∧ g.B = g.B) ∧ True) ∧ ({ o := b2, ro := false : Blk } = { o := b2, ro := false : Blk } ∧ (25 : TypeId) = (25 : TypeId) ∧ (IntKind.u8 = IntKind.u8 ∧ (32 : Nat) = (32 : Nat) ∧ List.replicate (32 : Nat) (0 : Int) = List.replicate (32 : Nat) (0 : Int)) ∧ True) ∧ ({ o := bK, ro := false : Blk } = { o := bK, ro := false : Blk } ∧ (67 : TypeId) = (67 : TypeId) ∧ (IntKind.u32 = IntKind.u32 ∧ (64 : Nat) = (64 : Nat) ∧ K0 = K0) ∧ (IntKind.u32 = IntKind.u32 ∧ (8 : Nat) = (8 : Nat) ∧ H0 = H0) ∧ True) ∧ ({ o := bS, ro := false : Blk } = { o := bS, ro := false : Blk } ∧ (65 : TypeId) = (65 : TypeId) ∧ (IntKind.u32 = IntKind.u32 ∧ (8 : Nat) = (8 : Nat) ∧ runB (padL (GS.l g) g.n) j = runB (padL (GS.l g) g.n) j) ∧ True) ∧ ({ o := b6, ro := false : Blk } = { o := b6, ro := false : Blk } ∧ (69 : TypeId) = (69 : TypeId) ∧ (IntKind.u8 = IntKind.u8 ∧ (128 : Nat) = (128 : Nat) ∧ List.set T ((0 : Nat) + Int.toNat (↑(g.n - (64 : Nat) * j) : Int) * (1 : Nat)) (128 : Int) = List.set T (g.n - (64 : Nat) * j) (128 : Int)) ∧ True) ∧ True) (by kernel_rfl) (And.intro (And.intro (rfl) (And.intro (rfl) (And.intro (And.intro (rfl) (And.intro (rfl) (rfl))) (trivial)))) (And.intro (And.intro (rfl) (And.intro (rfl) (And.intro (And.intro (rfl) (And.intro (rfl) (rfl))) (trivial)))) (And.intro (And.intro (rfl) (And.intro (rfl) (And.intro (And.intro (rfl) (And.intro (rfl) (rfl))) (And.intro (And.intro (rfl) (And.intro (rfl) (rfl))) (trivial))))) (And.intro (And.intro (rfl) (And.intro (rfl) (And.intro (And.intro (rfl) (And.intro (rfl) (rfl))) (trivial)))) (And.intro (And.intro (rfl) (And.intro (rfl) (And.intro (And.intro (rfl) (And.intro (rfl) (?_))) (trivial)))) (trivial))))))
    rw [show 0 + ((g.n - 64 * j : Nat) : Int).toNat * 1 = g.n - 64 * j by omega]
  · refine ⟨by simp [hT1], Nat.zero_le _, fun x hx => ?_⟩
    have hx : x < e := hx
    show (T.set (g.n - 64 * j) 128).getD x 0 = if x < e - 8 ∨ e - 0 ≤ x then (padL g.l g.n).getD (64 * j + x) 0 else 0
    rw [getD_set _ _ _ _ (by omega), hT2 x (by omega)]
    split
    · rename_i h
      subst h
      rw [if_pos (by omega), padL_getD hl _ (by omega), if_neg (by omega), if_pos (by omega)]
    · rename_i h
      split
      · rw [if_pos (by omega)]
      · split
        · rw [padL_getD hl _ (by omega), if_neg (by omega), if_neg (by omega), if_pos (by omega)]
        · rfl
  rintro ⟨T, i⟩ ⟨t1, t2, t3⟩
  have t1 : T.length = 128 := t1
  have t2 : i ≤ 8 := t2
  have t3 : ∀ x, x < e → T.getD x 0 = if x < e - 8 ∨ e - i ≤ x then (padL g.l g.n).getD (64 * j + x) 0 else 0 := t3
  refine ⟨fun hlt => ?_, fun hge => ?_⟩
  · have hlt : (i : Int) < 8 := of_decide_eq_true hlt
    have hw : IntKind.u64.wrap (8 * (i : Int)) = 8 * (i : Int) := wrap_u64_id (by omega)
    refine And.intro (by omega) ?_
    refine And.intro (by omega) ?_
    refine And.intro (by omega) ?_
    refine And.intro (Eq.mpr (β := 0 ≤ IntKind.wrap IntKind.u64 (8 * (↑i : Int))) (by kernel_rfl) (by omega)) ?_
    refine And.intro (by omega) ?_
    refine And.intro ⟨⟨rfl, rfl⟩, by omega⟩ ?_
    refine And.intro (by omega) ?_
    refine ⟨(T.set (e - 1 - i) ((padL g.l g.n).getD (64 * j + (e - 1 - i)) 0), i + 1), [0, 1002, 3, 1004, 1006], rfl, rfl, ?_, ?_, ?_, ?_⟩
    · refine Eq.mpr (β := ({ o := b2, ro := false : Blk } = { o := b2, ro := false : Blk } ∧ 0 = 0) ∧ ({ o := bK, ro := false : Blk } = { o := bK, ro := false : Blk } ∧ 0 = 0) ∧ ({ o := bS, ro := false : Blk } = { o := bS, ro := false : Blk } ∧ 0 = 0) ∧ Value.int IntKind.u64 (imul IntKind.u64 (IntKind.wrap IntKind.u64 (↑g.n : Int)) 8) = Value.int IntKind.u64 (imul IntKind.u64 (IntKind.wrap IntKind.u64 (↑g.n : Int)) 8) ∧ ({ o := b6, ro := false : Blk } = { o := b6, ro := false : Blk } ∧ 0 = 0) ∧ Value.int IntKind.i64 (↑e : Int) = Value.int IntKind.i64 (↑e : Int) ∧ Value.int IntKind.i64 ((↑i : Int) + 1) = Value.int IntKind.i64 (↑(i + 1) : Int) ∧ True) (by kernel_rfl) (And.intro (And.intro (rfl) (rfl)) (And.intro (And.intro (rfl) (rfl)) (And.intro (And.intro (rfl) (rfl)) (And.intro (rfl) (And.intro (And.intro (rfl) (rfl)) (And.intro (rfl) (And.intro (intE (by omega)) (trivial))))))))
    · refine Eq.mpr (β := (g.b = g.b ∧ g.y = g.y ∧ (IntKind.u8 = IntKind.u8 ∧ g.m = g.m ∧ g.B = g.B) ∧ True) ∧ ({ o := b2, ro := false : Blk } = { o := b2, ro := false : Blk } ∧ (25 : TypeId) = (25 : TypeId) ∧ (IntKind.u8 = IntKind.u8 ∧ (32 : Nat) = (32 : Nat) ∧ List.replicate (32 : Nat) (0 : Int) = List.replicate (32 : Nat) (0 : Int)) ∧ True) ∧ ({ o := bK, ro := false : Blk } = { o := bK, ro := false : Blk } ∧ (67 : TypeId) = (67 : TypeId) ∧ (IntKind.u32 = IntKind.u32 ∧ (64 : Nat) = (64 : Nat) ∧ K0 = K0) ∧ (IntKind.u32 = IntKind.u32 ∧ (8 : Nat) = (8 : Nat) ∧ H0 = H0) ∧ True) ∧ ({ o := bS, ro := false : Blk } = { o := bS, ro := false : Blk } ∧ (65 : TypeId) = (65 : TypeId) ∧ (IntKind.u32 = IntKind.u32 ∧ (8 : Nat) = (8 : Nat) ∧ runB (padL (GS.l g) g.n) j = runB (padL (GS.l g) g.n) j) ∧ True) ∧ ({ o := b6, ro := false : Blk } = { o := b6, ro := false : Blk } ∧ (69 : TypeId) = (69 : TypeId) ∧ (IntKind.u8 = IntKind.u8 ∧ (128 : Nat) = (128 : Nat) ∧ List.set T ((0 : Nat) + Int.toNat ((↑e : Int) - (1 : Int) - (↑i : Int)) * (1 : Nat)) (IntKind.wrap IntKind.u8 (ishr IntKind.u64 (imul IntKind.u64 (IntKind.wrap IntKind.u64 (↑g.n : Int)) (8 : Int)) (IntKind.wrap IntKind.u64 ((8 : Int) * (↑i : Int))))) = List.set T (e - (1 : Nat) - i) (List.getD (padL (GS.l g) g.n) ((64 : Nat) * j + (e - (1 : Nat) - i)) (0 : Int))) ∧ True) ∧ True) (by kernel_rfl) (And.intro (And.intro (rfl) (And.intro (rfl) (And.intro (And.intro (rfl) (And.intro (rfl) (rfl))) (trivial)))) (And.intro (And.intro (rfl) (And.intro (rfl) (And.intro (And.intro (rfl) (And.intro (rfl) (rfl))) (trivial)))) (And.intro (And.intro (rfl) (And.intro (rfl) (And.intro (And.intro (rfl) (And.intro (rfl) (rfl))) (And.intro (And.intro (rfl) (And.intro (rfl) (rfl))) (trivial))))) (And.intro (And.intro (rfl) (And.intro (rfl) (And.intro (And.intro (rfl) (And.intro (rfl) (rfl))) (trivial)))) (And.intro (And.intro (rfl) (And.intro (rfl) (And.intro (And.intro (rfl) (And.intro (rfl) (?_))) (trivial)))) (trivial))))))
      rw [hw, show 0 + ((e : Int) - 1 - (i : Int)).toNat * 1 = e - 1 - i by omega, show imul .u64 (IntKind.u64.wrap (g.n : Int)) 8 = lenW g.n from rfl, padL_getD hl _ (by omega), if_neg (by omega), if_neg (by omega), if_neg (by omega)]
      rw [show (8 * (7 - ((64 * j + (e - 1 - i) - (g.n + 1 + padK g.n) : Nat) : Int))) = 8 * (i : Int) by omega]
    · refine ⟨by simp [t1], by show i + 1 ≤ 8; omega, fun x hx => ?_⟩
      have hx : x < e := hx
      show (T.set (e - 1 - i) _).getD x 0 = if x < e - 8 ∨ e - (i + 1) ≤ x then (padL g.l g.n).getD (64 * j + x) 0 else 0
      rw [getD_set _ _ _ _ (by omega), t3 x hx]
      split
      · rename_i h
        subst h
        rw [if_pos (by omega)]
      · rename_i h
        split
        · rw [if_pos (by omega)]
        · rw [if_neg (by omega)]
    · show 8 - (i + 1) < 8 - i
      omega
  have hi : i = 8 := by
    have : ¬((i : Int) < 8) := of_decide_eq_false hge
    omega
  subst hi
  have hTP : ∀ x, x < e → T.getD x 0 = (padL g.l g.n).getD (64 * j + x) 0 := fun x hx => by rw [t3 x hx, if_pos (by omega)]
  clear t3
  have hee : e = 64 ∨ e = 128 := by rw [he]; split <;> omega
  refine ⟨inv14d g b2 bK bS b6 j e T, ⟨(0 : Nat), [0, 1002, 3, 1004, 1006], rfl, rfl, ?_, ?_, ?_, trivial⟩, ?_⟩
  · refine Eq.mpr (β := ({ o := b2, ro := false : Blk } = { o := b2, ro := false : Blk } ∧ 0 = 0) ∧ ({ o := bK, ro := false : Blk } = { o := bK, ro := false : Blk } ∧ 0 = 0) ∧ ({ o := bS, ro := false : Blk } = { o := bS, ro := false : Blk } ∧ 0 = 0) ∧ ({ o := b6, ro := false : Blk } = { o := b6, ro := false : Blk } ∧ 0 = 0) ∧ Value.int IntKind.i64 (↑e : Int) = Value.int IntKind.i64 (↑e : Int) ∧ Value.int IntKind.i64 0 = Value.int IntKind.i64 (64 * (↑0 : Int)) ∧ True) (by kernel_rfl) (And.intro (And.intro (rfl) (rfl)) (And.intro (And.intro (rfl) (rfl)) (And.intro (And.intro (rfl) (rfl)) (And.intro (And.intro (rfl) (rfl)) (And.intro (rfl) (And.intro (intE (by omega)) (trivial)))))))
  · refine Eq.mpr (β := (g.b = g.b ∧ g.y = g.y ∧ (IntKind.u8 = IntKind.u8 ∧ g.m = g.m ∧ g.B = g.B) ∧ True) ∧ ({ o := b2, ro := false : Blk } = { o := b2, ro := false : Blk } ∧ (25 : TypeId) = (25 : TypeId) ∧ (IntKind.u8 = IntKind.u8 ∧ (32 : Nat) = (32 : Nat) ∧ List.replicate (32 : Nat) (0 : Int) = List.replicate (32 : Nat) (0 : Int)) ∧ True) ∧ ({ o := bK, ro := false : Blk } = { o := bK, ro := false : Blk } ∧ (67 : TypeId) = (67 : TypeId) ∧ (IntKind.u32 = IntKind.u32 ∧ (64 : Nat) = (64 : Nat) ∧ K0 = K0) ∧ (IntKind.u32 = IntKind.u32 ∧ (8 : Nat) = (8 : Nat) ∧ H0 = H0) ∧ True) ∧ ({ o := bS, ro := false : Blk } = { o := bS, ro := false : Blk } ∧ (65 : TypeId) = (65 : TypeId) ∧ (IntKind.u32 = IntKind.u32 ∧ (8 : Nat) = (8 : Nat) ∧ runB (padL (GS.l g) g.n) j = runB (padL (GS.l g) g.n) (j + (0 : Nat))) ∧ True) ∧ ({ o := b6, ro := false : Blk } = { o := b6, ro := false : Blk } ∧ (69 : TypeId) = (69 : TypeId) ∧ (IntKind.u8 = IntKind.u8 ∧ (128 : Nat) = (128 : Nat) ∧ T = T) ∧ True) ∧ True) (by kernel_rfl) (And.intro (And.intro (rfl) (And.intro (rfl) (And.intro (And.intro (rfl) (And.intro (rfl) (rfl))) (trivial)))) (And.intro (And.intro (rfl) (And.intro (rfl) (And.intro (And.intro (rfl) (And.intro (rfl) (rfl))) (trivial)))) (And.intro (And.intro (rfl) (And.intro (rfl) (And.intro (And.intro (rfl) (And.intro (rfl) (rfl))) (And.intro (And.intro (rfl) (And.intro (rfl) (rfl))) (trivial))))) (And.intro (And.intro (rfl) (And.intro (rfl) (And.intro (And.intro (rfl) (And.intro (rfl) (?_))) (trivial)))) (And.intro (And.intro (rfl) (And.intro (rfl) (And.intro (And.intro (rfl) (And.intro (rfl) (rfl))) (trivial)))) (trivial))))))
    rfl
  · exact Nat.zero_le _
  intro (k : Nat) (hk : 64 * k ≤ e)
  refine ⟨fun hlt => ?_, fun hge => ?_⟩
  · have hlt : 64 * (k : Int) < (e : Int) := of_decide_eq_true hlt
    refine And.intro (by (refine Eq.mpr (β := -9223372036854775808 ≤ 64 * (↑k : Int) + 64 ∧ 64 * (↑k : Int) + 64 ≤ 9223372036854775807) (by kernel_rfl) ?_); omega) ?_
    refine And.intro (by (refine Eq.mpr (β := 0 ≤ 64 * (↑k : Int) + 64 ∧ 64 * (↑k : Int) + 64 ≤ (↑128 : Int) ∧ 0 ≤ 64 * (↑k : Int) ∧ 64 * (↑k : Int) ≤ 64 * (↑k : Int) + 64) (by kernel_rfl) ?_); omega) ?_
    refine And.intro ?_ (fun _ _ => ?_)
    · refine And.intro (And.intro (And.intro (rfl) (rfl)) (And.intro (And.intro (rfl) (rfl)) (And.intro (And.intro (rfl) (And.intro (rfl) (And.intro (?_) (And.intro (rfl) (rfl))))) (trivial)))) (And.intro (And.intro (And.intro (And.intro (rfl) (And.intro (rfl) (And.intro (And.intro (rfl) (And.intro (rfl) (rfl))) (trivial)))) (And.intro (And.intro (rfl) (And.intro (rfl) (And.intro (And.intro (rfl) (And.intro (rfl) (rfl))) (And.intro (And.intro (rfl) (And.intro (rfl) (rfl))) (trivial))))) (And.intro (And.intro (rfl) (And.intro (rfl) (And.intro (And.intro (rfl) (And.intro (rfl) (rfl))) (trivial)))) (trivial)))) (rfl)) (And.intro (rfl) (And.intro (rfl) (And.intro (rfl) (And.intro (rfl) (And.intro (?_) (rfl)))))))
      · refine Eq.mpr (β := Int.toNat (64 * (↑k : Int) + 64) - Int.toNat (64 * (↑k : Int)) = 64) (by kernel_rfl) ?_
        omega
      · refine Eq.mpr (β := (if 128 = Int.toNat (64 * (↑k : Int)) then 0 else 0 + Int.toNat (64 * (↑k : Int)) * 1) + 64 ≤ 128) (by kernel_rfl) ?_
        rw [if_neg (by omega)]
        omega
    refine And.intro (by omega) ?_
    refine ⟨(k + 1 : Nat), [0, 1002, 3, 1004, 1006], rfl, rfl, ?_, ?_, ?_, ?_⟩
    · refine Eq.mpr (β := ({ o := b2, ro := false : Blk } = { o := b2, ro := false : Blk } ∧ 0 = 0) ∧ ({ o := bK, ro := false : Blk } = { o := bK, ro := false : Blk } ∧ 0 = 0) ∧ ({ o := bS, ro := false : Blk } = { o := bS, ro := false : Blk } ∧ 0 = 0) ∧ ({ o := b6, ro := false : Blk } = { o := b6, ro := false : Blk } ∧ 0 = 0) ∧ Value.int IntKind.i64 (↑e : Int) = Value.int IntKind.i64 (↑e : Int) ∧ Value.int IntKind.i64 (64 * (↑k : Int) + 64) = Value.int IntKind.i64 (64 * (↑(k + 1) : Int)) ∧ True) (by kernel_rfl) (And.intro (And.intro (rfl) (rfl)) (And.intro (And.intro (rfl) (rfl)) (And.intro (And.intro (rfl) (rfl)) (And.intro (And.intro (rfl) (rfl)) (And.intro (rfl) (And.intro (intE (by omega)) (trivial)))))))
    · refine Eq.mpr (β := (g.b = g.b ∧ g.y = g.y ∧ (IntKind.u8 = IntKind.u8 ∧ g.m = g.m ∧ g.B = g.B) ∧ True) ∧ ({ o := b2, ro := false : Blk } = { o := b2, ro := false : Blk } ∧ (25 : TypeId) = (25 : TypeId) ∧ (IntKind.u8 = IntKind.u8 ∧ (32 : Nat) = (32 : Nat) ∧ List.replicate (32 : Nat) (0 : Int) = List.replicate (32 : Nat) (0 : Int)) ∧ True) ∧ ({ o := bK, ro := false : Blk } = { o := bK, ro := false : Blk } ∧ (67 : TypeId) = (67 : TypeId) ∧ (IntKind.u32 = IntKind.u32 ∧ (64 : Nat) = (64 : Nat) ∧ K0 = K0) ∧ (IntKind.u32 = IntKind.u32 ∧ (8 : Nat) = (8 : Nat) ∧ H0 = H0) ∧ True) ∧ ({ o := bS, ro := false : Blk } = { o := bS, ro := false : Blk } ∧ (65 : TypeId) = (65 : TypeId) ∧ (IntKind.u32 = IntKind.u32 ∧ (8 : Nat) = (8 : Nat) ∧ mixS K0 (runB (padL (GS.l g) g.n) (j + k)) T (if (128 : Nat) = Int.toNat ((64 : Int) * (↑k : Int)) then (0 : Nat) else (0 : Nat) + Int.toNat ((64 : Int) * (↑k : Int)) * (1 : Nat)) = runB (padL (GS.l g) g.n) (j + (k + (1 : Nat)))) ∧ True) ∧ ({ o := b6, ro := false : Blk } = { o := b6, ro := false : Blk } ∧ (69 : TypeId) = (69 : TypeId) ∧ (IntKind.u8 = IntKind.u8 ∧ (128 : Nat) = (128 : Nat) ∧ T = T) ∧ True) ∧ True) (by kernel_rfl) (And.intro (And.intro (rfl) (And.intro (rfl) (And.intro (And.intro (rfl) (And.intro (rfl) (rfl))) (trivial)))) (And.intro (And.intro (rfl) (And.intro (rfl) (And.intro (And.intro (rfl) (And.intro (rfl) (rfl))) (trivial)))) (And.intro (And.intro (rfl) (And.intro (rfl) (And.intro (And.intro (rfl) (And.intro (rfl) (rfl))) (And.intro (And.intro (rfl) (And.intro (rfl) (rfl))) (trivial))))) (And.intro (And.intro (rfl) (And.intro (rfl) (And.intro (And.intro (rfl) (And.intro (rfl) (?_))) (trivial)))) (And.intro (And.intro (rfl) (And.intro (rfl) (And.intro (And.intro (rfl) (And.intro (rfl) (rfl))) (trivial)))) (trivial))))))
      rw [if_neg (by omega), show 0 + (64 * (k : Int)).toNat * 1 = 64 * k by omega, show j + (k + 1) = (j + k) + 1 by omega, runB_succ]
      exact mixS_congr K0 _ (fun x hx => by rw [hTP (64 * k + x) (by omega)]; congr 1; omega)
    · show 64 * (k + 1) ≤ e
      omega
    · show e - 64 * (k + 1) < e - 64 * k
      omega
  have hke : 64 * k = e := by
    have : ¬(64 * (k : Int) < (e : Int)) := of_decide_eq_false hge
    omega
  have hpk' : padN g.n / 64 = j + k := by omega
  intro b10 _
  refine And.intro ⟨rfl, by omega⟩ ?_
  refine ⟨inv14e g b2 b10 (runB (padL g.l g.n) (j + k)), ⟨(0 : Nat), [0, 1002, 1010], rfl, rfl, ?_, ?_, ?_, trivial⟩, ?_⟩
  · refine Eq.mpr (β := ({ o := b2, ro := false : Blk } = { o := b2, ro := false : Blk } ∧ 0 = 0) ∧ ({ o := b10, ro := false : Blk } = { o := b10, ro := false : Blk } ∧ 0 = 0) ∧ ((IntKind.u32 = IntKind.u32 ∧ 7 + 1 = 8 ∧ List.take (7 + 1) (List.drop 0 (runB (padL (GS.l g) g.n) (j + k))) = runB (padL (GS.l g) g.n) (j + k)) ∧ True) ∧ Value.int IntKind.i64 0 = Value.int IntKind.i64 (↑0 : Int) ∧ True) (by kernel_rfl) (And.intro (And.intro (rfl) (rfl)) (And.intro (And.intro (rfl) (rfl)) (And.intro (And.intro (And.intro (rfl) (And.intro (rfl) (?_))) (trivial)) (And.intro (intE (by omega)) (trivial)))))
    rw [List.drop_zero, List.take_of_length_le (by rw [runB_len]; exact Nat.le_refl _)]
  · refine Eq.mpr (β := (g.b = g.b ∧ g.y = g.y ∧ (IntKind.u8 = IntKind.u8 ∧ g.m = g.m ∧ g.B = g.B) ∧ True) ∧ ({ o := b2, ro := false : Blk } = { o := b2, ro := false : Blk } ∧ (25 : TypeId) = (25 : TypeId) ∧ (IntKind.u8 = IntKind.u8 ∧ (32 : Nat) = (32 : Nat) ∧ List.replicate (32 : Nat) (0 : Int) = List.replicate (32 : Nat) (0 : Int)) ∧ True) ∧ ({ o := b10, ro := false : Blk } = { o := b10, ro := false : Blk } ∧ (25 : Nat) = (25 : TypeId) ∧ (IntKind.u8 = IntKind.u8 ∧ (32 : Nat) = (32 : Nat) ∧ List.replicate (32 : Nat) (0 : Int) = outL (runB (padL (GS.l g) g.n) (j + k)) ((4 : Nat) * (0 : Nat))) ∧ True) ∧ True) (by kernel_rfl) (And.intro (And.intro (rfl) (And.intro (rfl) (And.intro (And.intro (rfl) (And.intro (rfl) (rfl))) (trivial)))) (And.intro (And.intro (rfl) (And.intro (rfl) (And.intro (And.intro (rfl) (And.intro (rfl) (rfl))) (trivial)))) (And.intro (And.intro (rfl) (And.intro (rfl) (And.intro (And.intro (rfl) (And.intro (rfl) (?_))) (trivial)))) (trivial))))
    rw [outL_zero]
  · exact Nat.zero_le _
  intro (i : Nat) (hi : i ≤ 8)
  refine ⟨fun hlt => ?_, fun hge => ?_⟩
  · have hlt : (i : Int) < 8 := of_decide_eq_true hlt
    refine And.intro (by omega) ?_
    refine And.intro (by omega) ?_
    refine And.intro (by omega) ?_
    refine And.intro (by omega) ?_
    refine And.intro (by omega) ?_
    refine And.intro (by omega) ?_
    refine And.intro (by omega) ?_
    refine And.intro (by omega) ?_
    refine And.intro (by omega) ?_
    refine And.intro (by omega) ?_
    refine And.intro (by omega) ?_
    refine And.intro (by omega) ?_
    refine And.intro ⟨⟨rfl, rfl⟩, by omega⟩ ?_
    refine And.intro (by omega) ?_
    refine And.intro ⟨⟨rfl, rfl⟩, by omega⟩ ?_
    refine And.intro (by omega) ?_
    refine And.intro ⟨⟨rfl, rfl⟩, by omega⟩ ?_
    refine And.intro (by omega) ?_
    refine And.intro ⟨⟨rfl, rfl⟩, by omega⟩ ?_
    refine And.intro (by omega) ?_
    refine ⟨(i + 1 : Nat), [0, 1002, 1010], rfl, rfl, ?_, ?_, ?_, ?_⟩
    · refine Eq.mpr (β := ({ o := b2, ro := false : Blk } = { o := b2, ro := false : Blk } ∧ 0 = 0) ∧ ({ o := b10, ro := false : Blk } = { o := b10, ro := false : Blk } ∧ 0 = 0) ∧ ((IntKind.u32 = IntKind.u32 ∧ 8 = 8 ∧ runB (padL (GS.l g) g.n) (j + k) = runB (padL (GS.l g) g.n) (j + k)) ∧ True) ∧ Value.int IntKind.i64 ((↑i : Int) + 1) = Value.int IntKind.i64 (↑(i + 1) : Int) ∧ True) (by kernel_rfl) (And.intro (And.intro (rfl) (rfl)) (And.intro (And.intro (rfl) (rfl)) (And.intro (And.intro (And.intro (rfl) (And.intro (rfl) (rfl))) (trivial)) (And.intro (intE (by omega)) (trivial)))))
    · refine Eq.mpr (β := (g.b = g.b ∧ g.y = g.y ∧ (IntKind.u8 = IntKind.u8 ∧ g.m = g.m ∧ g.B = g.B) ∧ True) ∧ ({ o := b2, ro := false : Blk } = { o := b2, ro := false : Blk } ∧ (25 : TypeId) = (25 : TypeId) ∧ (IntKind.u8 = IntKind.u8 ∧ (32 : Nat) = (32 : Nat) ∧ List.replicate (32 : Nat) (0 : Int) = List.replicate (32 : Nat) (0 : Int)) ∧ True) ∧ ({ o := b10, ro := false : Blk } = { o := b10, ro := false : Blk } ∧ (25 : TypeId) = (25 : TypeId) ∧ (IntKind.u8 = IntKind.u8 ∧ (32 : Nat) = (32 : Nat) ∧ List.set (List.set (List.set (List.set (outL (runB (padL (GS.l g) g.n) (j + k)) ((4 : Nat) * i)) ((0 : Nat) + Int.toNat ((4 : Int) * (↑i : Int)) * (1 : Nat)) (IntKind.wrap IntKind.u8 (ishr IntKind.u32 (List.getD (runB (padL (GS.l g) g.n) (j + k)) (Int.toNat (↑i : Int)) (0 : Int)) (24 : Int)))) ((0 : Nat) + Int.toNat ((4 : Int) * (↑i : Int) + (1 : Int)) * (1 : Nat)) (IntKind.wrap IntKind.u8 (ishr IntKind.u32 (List.getD (runB (padL (GS.l g) g.n) (j + k)) (Int.toNat (↑i : Int)) (0 : Int)) (16 : Int)))) ((0 : Nat) + Int.toNat ((4 : Int) * (↑i : Int) + (2 : Int)) * (1 : Nat)) (IntKind.wrap IntKind.u8 (ishr IntKind.u32 (List.getD (runB (padL (GS.l g) g.n) (j + k)) (Int.toNat (↑i : Int)) (0 : Int)) (8 : Int)))) ((0 : Nat) + Int.toNat ((4 : Int) * (↑i : Int) + (3 : Int)) * (1 : Nat)) (IntKind.wrap IntKind.u8 (List.getD (runB (padL (GS.l g) g.n) (j + k)) (Int.toNat (↑i : Int)) (0 : Int))) = outL (runB (padL (GS.l g) g.n) (j + k)) ((4 : Nat) * (i + (1 : Nat)))) ∧ True) ∧ True) (by kernel_rfl) (And.intro (And.intro (rfl) (And.intro (rfl) (And.intro (And.intro (rfl) (And.intro (rfl) (rfl))) (trivial)))) (And.intro (And.intro (rfl) (And.intro (rfl) (And.intro (And.intro (rfl) (And.intro (rfl) (rfl))) (trivial)))) (And.intro (And.intro (rfl) (And.intro (rfl) (And.intro (And.intro (rfl) (And.intro (rfl) (?_))) (trivial)))) (trivial))))
      rw [← outL4]
      rw [show 0 + (4 * (i : Int)).toNat * 1 = 4 * i by omega, show 0 + (4 * (i : Int) + 1).toNat * 1 = 4 * i + 1 by omega, show 0 + (4 * (i : Int) + 2).toNat * 1 = 4 * i + 2 by omega, show 0 + (4 * (i : Int) + 3).toNat * 1 = 4 * i + 3 by omega, Int.toNat_natCast]
    · show i + 1 ≤ 8
      omega
    · show 8 - (i + 1) < 8 - i
      omega
  have hi : i = 8 := by
    have : ¬((i : Int) < 8) := of_decide_eq_false hge
    omega
  subst hi
  refine And.intro ⟨rfl, Nat.le_of_ble_eq_true rfl⟩ ?_
  refine And.intro ⟨⟨rfl, rfl⟩, Nat.le_of_ble_eq_true rfl⟩ ?_
  refine And.intro ⟨rfl, Nat.le_of_ble_eq_true rfl⟩ ?_
  refine ⟨(), [0], ?_, rfl, rfl, ?_, trivial⟩
  · refine Eq.mpr (β := (IntKind.u8 = IntKind.u8 ∧ 31 + 1 = 32 ∧ List.take (31 + 1) (List.drop 0 (List.take 0 (List.replicate 32 0) ++ List.take (31 + 1) (List.drop 0 (outL (runB (padL (GS.l g) g.n) (j + k)) (4 * 8))) ++ List.drop (0 + (31 + 1)) (List.replicate 32 0))) = sumL (GS.l g) g.n) ∧ True) (by kernel_rfl) (And.intro (And.intro (rfl) (And.intro (rfl) (?_))) (trivial))
    have h := outL_len (runB (padL g.l g.n) (padN g.n / 64)) 32
    rw [show sumL g.l g.n = outL (runB (padL g.l g.n) (padN g.n / 64)) 32 from rfl]
    rw [← hpk'] 
    generalize outL (runB (padL g.l g.n) (padN g.n / 64)) 32 = X at h ⊢
    simp [List.take_of_length_le, h]
  · refine Eq.mpr (β := (g.b = g.b ∧ g.y = g.y ∧ (IntKind.u8 = IntKind.u8 ∧ g.m = g.m ∧ g.B = g.B) ∧ True) ∧ True) (by kernel_rfl) (And.intro (And.intro (rfl) (And.intro (rfl) (And.intro (And.intro (rfl) (And.intro (rfl) (rfl))) (trivial)))) (trivial))

end Go.Proofs.Ytpggklkofilmfaa
