/- The law of bits. -/
import Derived.Test.YtpggklkofilmfaaFrag18
import Derived.Test.YtpggklkofilmfaaAbLem
set_option linter.unusedSimpArgs false
set_option linter.unusedVariables false
namespace Go.Proofs.Ytpggklkofilmfaa
open Go Go.Ab
set_option maxRecDepth 100000

theorem errF_bad {l : List Int} (h : ¬ errF l = 0) : badF l := by
  apply Classical.byContradiction
  intro hb
  exact h (if_neg hb)
theorem inU8_set {l : List Int} (h : inU8 l) (i : Nat) {v : Int} (hv : 0 ≤ v ∧ v ≤ 255) : inU8 (l.set i v) := fun x hx => by
  rcases List.mem_or_eq_of_mem_set hx with hx | hx
  · exact h x hx
  · rw [hx]; exact hv
theorem ixor_u8 (x y : Int) : 0 ≤ ixor .u8 x y ∧ ixor .u8 x y ≤ 255 := by
  unfold ixor
  rw [wrap_u8]
  omega
/-- A row whose cell is set: its part. -/
theorem part_set {L : List Int} {off N i : Nat} (v : Int) (hi : i < N) : ((L.set (off + i) v).drop off).take N = ((L.drop off).take N).set i v := by
  rw [List.drop_set, if_neg (by omega), Nat.add_sub_cancel_left, List.take_set]
def nt11 : Notes := ⟨fun | 9 => some (seqOf [0, 1, 2, 3, 4, 5, 6, 7, 8, 9, 10]) | _ => none, fun | 10 => some none | _ => none, fun _ => none, [0, 1, 2, 3, 6, 7, 8, 9, 10, 11, 14, 16, 19, 28, 57]⟩
def inv11 (g : GS) (r : ApR) (N : Nat) : Inv where
  G := List Int
  pre L := L.length = r.m ∧ inU8 ((L.drop r.off).take N)
  sl _ := [(7, .c (.sl 7 r.b r.off N r.cap r.z))]
  hp L := [g.ent 1 .u8, (7, r.b, .cells r.y [.ints .u8 r.m L])]
  mu _ := 0
set_option maxHeartbeats 8000000 in
theorem fn11 : FnOk Try.prog 11 spCuts := by
  refine fnOk_of_vc (cxLw_ok 70) wide (nt := fun _ => nt11) Try.func11 rfl rfl (by kernel_rfl) (fuel := 1000) (fun _ => Nat.le_of_ble_eq_true rfl) (fun _ _ t h => h) (fun h => by cases h) ?_
  rintro ⟨f, g, a⟩ ⟨⟨⟨l1, l2⟩, hfk, hfs, hft, hfp⟩, ⟨g1, g2, g3, g4⟩, hU⟩
  have g1 : g.off + g.c ≤ g.m := g1
  have g2 : g.n ≤ g.c := g2
  have g3 : g.z = 0 ∨ g.c = 0 := g3
  have g4 : g.B.length = g.m := g4
  have hU : inU8 g.l := hU
  have hll : g.l.length = g.n := by unfold GS.l; simp; omega
  intro b3 _
  refine And.intro (And.intro (trivial) (And.intro (And.intro (trivial) (rfl)) (And.intro (rfl) (And.intro (rfl) (And.intro (rfl) (And.intro (rfl) (trivial))))))) (fun (_ : Unit) _ => ?_)
  refine And.intro (fun h => by cases h) (fun _ => ?_)
  refine stE ([(16, SV.bool !true), (6, SV.bool false), (3, SV.c (Cel.ptr 1003 b3 0)), (0, SV.agg [Cel.ints .u8 32 f.key, Cel.v (Value.int .i64 f.part), Cel.v (Value.bool f.last), Cel.v (Value.int .i64 f.size), Cel.ints .u8 32 f.sum, Cel.v (Value.int .u64 f.turn)]), (1, SV.c (Cel.sl 1 g.b g.off g.n g.c g.z)), (2, SV.int .i64 a)]) ([(1, g.b, Cont.cells g.y [Cel.ints .u8 g.m g.B]), (1003, b3, Cont.cells 36 [Cel.ints .u8 32 f.key, Cel.v (Value.int .i64 f.part), Cel.v (Value.bool f.last), Cel.v (Value.int .i64 f.size), Cel.ints .u8 32 f.sum, Cel.v (Value.int .u64 f.turn)])]) (by kernel_rfl) (by kernel_rfl) ?_
  refine ⟨fun h => ?_, fun h => ?_⟩
  · skip
    refine ⟨(), [1], ?_, rfl, rfl, ?_, trivial⟩
    · exact boolE rfl
    · refine Eq.mpr (β := (g.b = g.b ∧ g.y = g.y ∧ (IntKind.u8 = IntKind.u8 ∧ g.m = g.m ∧ g.B = g.B) ∧ True) ∧ True) (by kernel_rfl) (And.intro (And.intro (rfl) (And.intro (rfl) (And.intro (And.intro (rfl) (And.intro (rfl) (rfl))) (trivial)))) (trivial))
  have h : ¬ (500 : Int) < (g.n : Int) := of_decide_eq_false h
  refine And.intro rfl ?_
  refine And.intro (And.intro (And.intro (And.intro (And.intro (rfl) (And.intro (rfl) (rfl))) (And.intro (rfl) (And.intro (rfl) (And.intro (rfl) (And.intro (And.intro (rfl) (And.intro (rfl) (rfl))) (And.intro (rfl) (trivial))))))) (And.intro (And.intro (rfl) (And.intro (rfl) (And.intro (rfl) (And.intro (rfl) (rfl))))) (trivial))) (And.intro (And.intro (And.intro (And.intro (rfl) (And.intro (rfl) (And.intro (And.intro (rfl) (And.intro (rfl) (rfl))) (trivial)))) (trivial)) (rfl)) (And.intro (rfl) (And.intro (rfl) (And.intro (rfl) (And.intro (rfl) (And.intro (And.intro (Eq.mpr (β := List.length (List.drop 0 f.key) = 32) (by kernel_rfl) (by simp only [List.length_drop, l1, l2] <;> omega)) (Eq.mpr (β := List.length (List.drop 0 f.sum) = 32) (by kernel_rfl) (by simp only [List.length_drop, l1, l2] <;> omega))) (And.intro (And.intro (by omega) (And.intro (by omega) (And.intro (by omega) (by omega)))) (Eq.mpr (β := g.n ≤ 1099511627776) (by kernel_rfl) (by omega)))))))))) ?_
  intro r hr
  replace hr : ApR.fits r (89 + min g.n 4096) (frL { key := List.drop 0 f.key, part := f.part, last := f.last, size := f.size, sum := List.drop 0 f.sum, turn := f.turn : FV } (List.take 4096 (GS.l { b := g.b, off := g.off, n := g.n, c := g.c, z := g.z, m := g.m, y := g.y, B := g.B : GS })) (min g.n 4096)) := Eq.mp (by kernel_rfl) hr
  obtain ⟨r1, r2, r3, r4, r5⟩ := hr
  have r1 : r.off + r.cap ≤ r.m := r1
  have r2 : 89 + min g.n 4096 ≤ r.cap := r2
  have r3 : r.z = 0 ∨ r.cap = 0 := r3
  have r4 : r.L.length = r.m := r4
  have r5 : (r.L.drop r.off).take (89 + min g.n 4096) = frL f (g.l.take 4096) (min g.n 4096) := r5
  rw [List.take_of_length_le (show g.l.length ≤ 4096 by omega), Nat.min_eq_left (show g.n ≤ 4096 by omega)] at r5
  have hrU : inU8 (frL f g.l g.n) := frL_inU8 hfk hU _
  refine And.intro (by omega) ?_
  refine stE ([(27, SV.int .i64 (89 + (↑g.n : Int))), (26, SV.int .i64 (↑g.n : Int)), (25, SV.c (Cel.sl 1 g.b g.off g.n g.c g.z)), (24, SV.int .i64 (↑(89 + min g.n 4096) : Int)), (23, SV.c (Cel.sl 1022 r.b r.off (89 + min g.n 4096) r.cap r.z)), (7, SV.c (Cel.sl 1022 r.b r.off (89 + min g.n 4096) r.cap r.z)), (19, SV.bool (decide (500 < (↑g.n : Int)))), (16, SV.bool !true), (6, SV.bool false), (3, SV.c (Cel.ptr 1003 b3 0)), (0, SV.agg [Cel.ints .u8 32 f.key, Cel.v (Value.int .i64 f.part), Cel.v (Value.bool f.last), Cel.v (Value.int .i64 f.size), Cel.ints .u8 32 f.sum, Cel.v (Value.int .u64 f.turn)]), (1, SV.c (Cel.sl 1 g.b g.off g.n g.c g.z)), (2, SV.int .i64 a)]) ([(1, g.b, Cont.cells g.y [Cel.ints .u8 g.m g.B]), (1003, b3, Cont.cells 36 [Cel.ints .u8 32 f.key, Cel.v (Value.int .i64 f.part), Cel.v (Value.bool f.last), Cel.v (Value.int .i64 f.size), Cel.ints .u8 32 f.sum, Cel.v (Value.int .u64 f.turn)]), (1022, r.b, Cont.cells r.y [Cel.ints .u8 r.m r.L])]) (by kernel_rfl) (by kernel_rfl) ?_
  have t1 : (!decide (((89 + min g.n 4096 : Nat) : Int) = 89 + (g.n : Int))) = false := by rw [decide_eq_true (by omega)]; rfl
  refine ⟨fun hp => Bool.noConfusion (Eq.trans (Eq.symm t1) hp), fun _ => ?_⟩
  have hpl := placeI_range (x := a) (n := 8 * ((89 + min g.n 4096 : Nat) : Int)) (by omega)
  have hq0 : iquo .i64 (placeI a (8 * ((89 + min g.n 4096 : Nat) : Int))) 8 = placeI a (8 * ((89 + min g.n 4096 : Nat) : Int)) / 8 := by
    unfold iquo
    rw [Int.tdiv_eq_ediv_of_nonneg hpl.1, wrap_i64_id (by omega)]
  have hm0 : Int.tmod (placeI a (8 * ((89 + min g.n 4096 : Nat) : Int))) 8 = placeI a (8 * ((89 + min g.n 4096 : Nat) : Int)) % 8 := Int.tmod_eq_emod_of_nonneg hpl.1
  have hz : r.z = 0 := r3.resolve_right (by omega)
  refine And.intro (by omega) ?_
  refine And.intro (And.intro (And.intro (rfl) (And.intro (rfl) (trivial))) (And.intro (And.intro (trivial) (rfl)) (And.intro (rfl) (And.intro (rfl) (And.intro (rfl) (And.intro (rfl) (And.intro (by omega) (by omega)))))))) (fun (_ : Unit) _ => ?_)
  refine stE ([(33, SV.int .i64 (placeI a (8 * (↑(89 + min g.n 4096) : Int)))), (32, SV.int .i64 (8 * (↑(89 + min g.n 4096) : Int))), (31, SV.int .i64 (↑(89 + min g.n 4096) : Int)), (30, SV.c (Cel.sl 1022 r.b r.off (89 + min g.n 4096) r.cap r.z)), (29, SV.int .i64 a), (28, SV.bool !decide ((↑(89 + min g.n 4096) : Int) = 89 + (↑g.n : Int))), (7, SV.c (Cel.sl 1022 r.b r.off (89 + min g.n 4096) r.cap r.z)), (19, SV.bool (decide (500 < (↑g.n : Int)))), (16, SV.bool !true), (6, SV.bool false), (3, SV.c (Cel.ptr 1003 b3 0)), (0, SV.agg [Cel.ints .u8 32 f.key, Cel.v (Value.int .i64 f.part), Cel.v (Value.bool f.last), Cel.v (Value.int .i64 f.size), Cel.ints .u8 32 f.sum, Cel.v (Value.int .u64 f.turn)]), (1, SV.c (Cel.sl 1 g.b g.off g.n g.c g.z)), (2, SV.int .i64 a)]) ([(1, g.b, Cont.cells g.y [Cel.ints .u8 g.m g.B]), (1003, b3, Cont.cells 36 [Cel.ints .u8 32 f.key, Cel.v (Value.int .i64 f.part), Cel.v (Value.bool f.last), Cel.v (Value.int .i64 f.size), Cel.ints .u8 32 f.sum, Cel.v (Value.int .u64 f.turn)]), (1022, r.b, Cont.cells r.y [Cel.ints .u8 r.m r.L])]) (by kernel_rfl) (by kernel_rfl) ?_
  refine ⟨inv11 g r (89 + min g.n 4096), ?_, ?_⟩
  · refine And.intro (by kernel_rfl) ?_
    refine And.intro (by omega) ?_
    refine And.intro (by omega) ?_
    refine And.intro ⟨rfl, by omega⟩ ?_
    refine stE ([(38, SV.int .u8 (List.getD r.L (r.off + Int.toNat (iquo .i64 (placeI a (8 * (↑(89 + min g.n 4096) : Int))) 8) * 1) 0)), (37, SV.c (Cel.ptr 1022 r.b (r.off + Int.toNat (iquo .i64 (placeI a (8 * (↑(89 + min g.n 4096) : Int))) 8) * 1))), (36, SV.int .i64 (iquo .i64 (placeI a (8 * (↑(89 + min g.n 4096) : Int))) 8)), (35, SV.int .i64 (placeI a (8 * (↑(89 + min g.n 4096) : Int)))), (34, SV.c (Cel.sl 1022 r.b r.off (89 + min g.n 4096) r.cap r.z)), (8, SV.int .i64 (placeI a (8 * (↑(89 + min g.n 4096) : Int)))), (28, SV.bool !decide ((↑(89 + min g.n 4096) : Int) = 89 + (↑g.n : Int))), (7, SV.c (Cel.sl 1022 r.b r.off (89 + min g.n 4096) r.cap r.z)), (19, SV.bool (decide (500 < (↑g.n : Int)))), (16, SV.bool !true), (6, SV.bool false), (3, SV.c (Cel.ptr 1003 b3 0)), (0, SV.agg [Cel.ints .u8 32 f.key, Cel.v (Value.int .i64 f.part), Cel.v (Value.bool f.last), Cel.v (Value.int .i64 f.size), Cel.ints .u8 32 f.sum, Cel.v (Value.int .u64 f.turn)]), (1, SV.c (Cel.sl 1 g.b g.off g.n g.c g.z)), (2, SV.int .i64 a)]) ([(1, g.b, Cont.cells g.y [Cel.ints .u8 g.m g.B]), (1003, b3, Cont.cells 36 [Cel.ints .u8 32 f.key, Cel.v (Value.int .i64 f.part), Cel.v (Value.bool f.last), Cel.v (Value.int .i64 f.size), Cel.ints .u8 32 f.sum, Cel.v (Value.int .u64 f.turn)]), (1022, r.b, Cont.cells r.y [Cel.ints .u8 r.m r.L])]) (by kernel_rfl) (by kernel_rfl) ?_
    refine And.intro (by omega) ?_
    refine And.intro (by omega) ?_
    refine And.intro (by omega) ?_
    refine And.intro ⟨⟨rfl, rfl⟩, by omega⟩ ?_
    refine stE ([(43, SV.c (Cel.ptr 1022 r.b (r.off + Int.toNat (iquo .i64 (placeI a (8 * (↑(89 + min g.n 4096) : Int))) 8) * 1))), (42, SV.int .u8 (ixor .u8 (List.getD r.L (r.off + Int.toNat (iquo .i64 (placeI a (8 * (↑(89 + min g.n 4096) : Int))) 8) * 1) 0) (ishl .u8 1 (Int.tmod (placeI a (8 * (↑(89 + min g.n 4096) : Int))) 8)))), (41, SV.int .u8 (ishl .u8 1 (Int.tmod (placeI a (8 * (↑(89 + min g.n 4096) : Int))) 8))), (40, SV.int .i64 (Int.tmod (placeI a (8 * (↑(89 + min g.n 4096) : Int))) 8)), (39, SV.int .i64 (placeI a (8 * (↑(89 + min g.n 4096) : Int)))), (38, SV.int .u8 (List.getD r.L (r.off + Int.toNat (iquo .i64 (placeI a (8 * (↑(89 + min g.n 4096) : Int))) 8) * 1) 0)), (37, SV.c (Cel.ptr 1022 r.b (r.off + Int.toNat (iquo .i64 (placeI a (8 * (↑(89 + min g.n 4096) : Int))) 8) * 1))), (36, SV.int .i64 (iquo .i64 (placeI a (8 * (↑(89 + min g.n 4096) : Int))) 8)), (35, SV.int .i64 (placeI a (8 * (↑(89 + min g.n 4096) : Int)))), (34, SV.c (Cel.sl 1022 r.b r.off (89 + min g.n 4096) r.cap r.z)), (8, SV.int .i64 (placeI a (8 * (↑(89 + min g.n 4096) : Int)))), (28, SV.bool !decide ((↑(89 + min g.n 4096) : Int) = 89 + (↑g.n : Int))), (7, SV.c (Cel.sl 1022 r.b r.off (89 + min g.n 4096) r.cap r.z)), (19, SV.bool (decide (500 < (↑g.n : Int)))), (16, SV.bool !true), (6, SV.bool false), (3, SV.c (Cel.ptr 1003 b3 0)), (0, SV.agg [Cel.ints .u8 32 f.key, Cel.v (Value.int .i64 f.part), Cel.v (Value.bool f.last), Cel.v (Value.int .i64 f.size), Cel.ints .u8 32 f.sum, Cel.v (Value.int .u64 f.turn)]), (1, SV.c (Cel.sl 1 g.b g.off g.n g.c g.z)), (2, SV.int .i64 a)]) ([(1, g.b, Cont.cells g.y [Cel.ints .u8 g.m g.B]), (1003, b3, Cont.cells 36 [Cel.ints .u8 32 f.key, Cel.v (Value.int .i64 f.part), Cel.v (Value.bool f.last), Cel.v (Value.int .i64 f.size), Cel.ints .u8 32 f.sum, Cel.v (Value.int .u64 f.turn)]), (1022, r.b, Cont.cells r.y [Cel.ints .u8 r.m (List.set r.L (r.off + Int.toNat (iquo .i64 (placeI a (8 * (↑(89 + min g.n 4096) : Int))) 8) * 1) (ixor .u8 (List.getD r.L (r.off + Int.toNat (iquo .i64 (placeI a (8 * (↑(89 + min g.n 4096) : Int))) 8) * 1) 0) (ishl .u8 1 (Int.tmod (placeI a (8 * (↑(89 + min g.n 4096) : Int))) 8))))])]) (by kernel_rfl) (by kernel_rfl) ?_
    refine ⟨r.L.set (r.off + (iquo .i64 (placeI a (8 * ((89 + min g.n 4096 : Nat) : Int))) 8).toNat) (ixor .u8 (r.L.getD (r.off + (iquo .i64 (placeI a (8 * ((89 + min g.n 4096 : Nat) : Int))) 8).toNat) 0)
      (ishl .u8 1 (Int.tmod (placeI a (8 * ((89 + min g.n 4096 : Nat) : Int))) 8))), [1, 1022], rfl, rfl, ?_, ?_, ?_, trivial⟩
    · refine Eq.mpr (β := ({ o := r.b, ro := false : Blk } = { o := r.b, ro := false : Blk } ∧ r.off = r.off ∧ 89 + min g.n 4096 = 89 + min g.n 4096 ∧ r.cap = r.cap ∧ r.z = r.z) ∧ True) (by kernel_rfl) (And.intro (And.intro (rfl) (And.intro (rfl) (And.intro (rfl) (And.intro (rfl) (rfl))))) (trivial))
    · refine Eq.mpr (β := (g.b = g.b ∧ g.y = g.y ∧ (IntKind.u8 = IntKind.u8 ∧ g.m = g.m ∧ g.B = g.B) ∧ True) ∧ ({ o := r.b, ro := false : Blk } = { o := r.b, ro := false : Blk } ∧ r.y = r.y ∧ (IntKind.u8 = IntKind.u8 ∧ r.m = r.m ∧ List.set r.L (r.off + Int.toNat (iquo IntKind.i64 (placeI a (8 * (↑(89 + min g.n 4096) : Int))) 8) * 1) (ixor IntKind.u8 (List.getD r.L (r.off + Int.toNat (iquo IntKind.i64 (placeI a (8 * (↑(89 + min g.n 4096) : Int))) 8) * 1) 0) (ishl IntKind.u8 1 (Int.tmod (placeI a (8 * (↑(89 + min g.n 4096) : Int))) 8))) = List.set r.L (r.off + Int.toNat (iquo IntKind.i64 (placeI a (8 * (↑(89 + min g.n 4096) : Int))) 8)) (ixor IntKind.u8 (List.getD r.L (r.off + Int.toNat (iquo IntKind.i64 (placeI a (8 * (↑(89 + min g.n 4096) : Int))) 8)) 0) (ishl IntKind.u8 1 (Int.tmod (placeI a (8 * (↑(89 + min g.n 4096) : Int))) 8)))) ∧ True) ∧ True) (by kernel_rfl) (And.intro (And.intro (rfl) (And.intro (rfl) (And.intro (And.intro (rfl) (And.intro (rfl) (rfl))) (trivial)))) (And.intro (And.intro (rfl) (And.intro (rfl) (And.intro (And.intro (rfl) (And.intro (rfl) (?_))) (trivial)))) (trivial)))
      simp only [Nat.mul_one]
    · refine ⟨by rw [List.length_set]; exact r4, ?_⟩
      rw [part_set _ (by rw [hq0]; omega)]
      refine inU8_set ?_ _ (ixor_u8 _ _)
      rw [show 89 + min g.n 4096 = 89 + g.n by omega, r5]
      exact hrU
  intro (L : List Int) hL
  obtain ⟨hL1, hL2⟩ := hL
  have hL1 : L.length = r.m := hL1
  have hL2 : inU8 ((L.drop r.off).take (89 + min g.n 4096)) := hL2
  refine stE ([(7, SV.c (Cel.sl 7 r.b r.off (89 + min g.n 4096) r.cap r.z))]) ([(1, g.b, Cont.cells g.y [Cel.ints .u8 g.m g.B]), (7, r.b, Cont.cells r.y [Cel.ints .u8 r.m L])]) (by kernel_rfl) (by kernel_rfl) ?_
  refine And.intro ?_ (fun (q : ApR) hq => ?_)
  · refine And.intro (And.intro (And.intro (rfl) (And.intro (rfl) (And.intro (rfl) (And.intro (rfl) (rfl))))) (trivial)) (And.intro (And.intro (And.intro (And.intro (rfl) (And.intro (rfl) (And.intro (And.intro (rfl) (And.intro (rfl) (rfl))) (trivial)))) (trivial)) (rfl)) (And.intro (rfl) (And.intro (rfl) (And.intro (rfl) (And.intro (rfl) (And.intro (And.intro (And.intro (?_) (And.intro (?_) (And.intro (?_) (?_)))) (?_)) (?_)))))))
    · exact r1
    · exact r2
    · exact r3
    · exact hL1
    · show 89 + min g.n 4096 ≤ 1099511627776
      omega
    · exact hL2
  intro b9 _
  refine And.intro (And.intro (rfl) (rfl)) ?_
  refine stE ([(9, SV.c (Cel.ptr 1009 b9 0)), (49, SV.int .i64 (errF (GS.l ⟨r.b, r.off, 89 + min g.n 4096, r.cap, r.z, r.m, r.y, L⟩))), (48, SV.c (Cel.sl 1046 q.b q.off (List.length (payF (GS.l ⟨r.b, r.off, 89 + min g.n 4096, r.cap, r.z, r.m, r.y, L⟩))) q.cap q.z)), (47, SV.agg [Cel.ints .u8 32 (openF (GS.l ⟨r.b, r.off, 89 + min g.n 4096, r.cap, r.z, r.m, r.y, L⟩)).key, Cel.v (Value.int .i64 (openF (GS.l ⟨r.b, r.off, 89 + min g.n 4096, r.cap, r.z, r.m, r.y, L⟩)).part), Cel.v (Value.bool (openF (GS.l ⟨r.b, r.off, 89 + min g.n 4096, r.cap, r.z, r.m, r.y, L⟩)).last), Cel.v (Value.int .i64 (openF (GS.l ⟨r.b, r.off, 89 + min g.n 4096, r.cap, r.z, r.m, r.y, L⟩)).size), Cel.ints .u8 32 (openF (GS.l ⟨r.b, r.off, 89 + min g.n 4096, r.cap, r.z, r.m, r.y, L⟩)).sum, Cel.v (Value.int .u64 (openF (GS.l ⟨r.b, r.off, 89 + min g.n 4096, r.cap, r.z, r.m, r.y, L⟩)).turn)]), (44, SV.tup [SA.agg [Cel.ints .u8 32 (openF (GS.l ⟨r.b, r.off, 89 + min g.n 4096, r.cap, r.z, r.m, r.y, L⟩)).key, Cel.v (Value.int .i64 (openF (GS.l ⟨r.b, r.off, 89 + min g.n 4096, r.cap, r.z, r.m, r.y, L⟩)).part), Cel.v (Value.bool (openF (GS.l ⟨r.b, r.off, 89 + min g.n 4096, r.cap, r.z, r.m, r.y, L⟩)).last), Cel.v (Value.int .i64 (openF (GS.l ⟨r.b, r.off, 89 + min g.n 4096, r.cap, r.z, r.m, r.y, L⟩)).size), Cel.ints .u8 32 (openF (GS.l ⟨r.b, r.off, 89 + min g.n 4096, r.cap, r.z, r.m, r.y, L⟩)).sum, Cel.v (Value.int .u64 (openF (GS.l ⟨r.b, r.off, 89 + min g.n 4096, r.cap, r.z, r.m, r.y, L⟩)).turn)], SA.c (Cel.sl 1046 q.b q.off (List.length (payF (GS.l ⟨r.b, r.off, 89 + min g.n 4096, r.cap, r.z, r.m, r.y, L⟩))) q.cap q.z), SA.c (Cel.v (Value.int .i64 (errF (GS.l ⟨r.b, r.off, 89 + min g.n 4096, r.cap, r.z, r.m, r.y, L⟩))))]), (46, SV.tup [SA.agg [Cel.ints .u8 32 (openF (GS.l ⟨r.b, r.off, 89 + min g.n 4096, r.cap, r.z, r.m, r.y, L⟩)).key, Cel.v (Value.int .i64 (openF (GS.l ⟨r.b, r.off, 89 + min g.n 4096, r.cap, r.z, r.m, r.y, L⟩)).part), Cel.v (Value.bool (openF (GS.l ⟨r.b, r.off, 89 + min g.n 4096, r.cap, r.z, r.m, r.y, L⟩)).last), Cel.v (Value.int .i64 (openF (GS.l ⟨r.b, r.off, 89 + min g.n 4096, r.cap, r.z, r.m, r.y, L⟩)).size), Cel.ints .u8 32 (openF (GS.l ⟨r.b, r.off, 89 + min g.n 4096, r.cap, r.z, r.m, r.y, L⟩)).sum, Cel.v (Value.int .u64 (openF (GS.l ⟨r.b, r.off, 89 + min g.n 4096, r.cap, r.z, r.m, r.y, L⟩)).turn)], SA.c (Cel.sl 1046 q.b q.off (List.length (payF (GS.l ⟨r.b, r.off, 89 + min g.n 4096, r.cap, r.z, r.m, r.y, L⟩))) q.cap q.z), SA.c (Cel.v (Value.int .i64 (errF (GS.l ⟨r.b, r.off, 89 + min g.n 4096, r.cap, r.z, r.m, r.y, L⟩))))]), (45, SV.c (Cel.sl 7 r.b r.off (89 + min g.n 4096) r.cap r.z)), (7, SV.c (Cel.sl 7 r.b r.off (89 + min g.n 4096) r.cap r.z))]) ([(1, g.b, Cont.cells g.y [Cel.ints .u8 g.m g.B]), (7, r.b, Cont.cells r.y [Cel.ints .u8 r.m L]), (1046, q.b, Cont.cells q.y [Cel.ints .u8 q.m q.L]), (1009, b9, Cont.cells 36 ([] ++ ([Cel.ints .u8 32 (openF (GS.l ⟨r.b, r.off, 89 + min g.n 4096, r.cap, r.z, r.m, r.y, L⟩)).key, Cel.v (Value.int .i64 (openF (GS.l ⟨r.b, r.off, 89 + min g.n 4096, r.cap, r.z, r.m, r.y, L⟩)).part), Cel.v (Value.bool (openF (GS.l ⟨r.b, r.off, 89 + min g.n 4096, r.cap, r.z, r.m, r.y, L⟩)).last), Cel.v (Value.int .i64 (openF (GS.l ⟨r.b, r.off, 89 + min g.n 4096, r.cap, r.z, r.m, r.y, L⟩)).size), Cel.ints .u8 32 (openF (GS.l ⟨r.b, r.off, 89 + min g.n 4096, r.cap, r.z, r.m, r.y, L⟩)).sum, Cel.v (Value.int .u64 (openF (GS.l ⟨r.b, r.off, 89 + min g.n 4096, r.cap, r.z, r.m, r.y, L⟩)).turn)] ++ [])))]) (by kernel_rfl) (by kernel_rfl) ?_
  refine And.intro ?_ (fun (q' : ApR) hq' => ?_)
  · refine And.intro (And.intro (And.intro (rfl) (And.intro (rfl) (And.intro (rfl) (And.intro (rfl) (rfl))))) (trivial)) (And.intro (And.intro (And.intro (And.intro (rfl) (And.intro (rfl) (And.intro (And.intro (rfl) (And.intro (rfl) (rfl))) (trivial)))) (trivial)) (rfl)) (And.intro (rfl) (And.intro (rfl) (And.intro (rfl) (And.intro (rfl) (And.intro (And.intro (And.intro (?_) (And.intro (?_) (And.intro (?_) (?_)))) (?_)) (?_)))))))
    · exact r1
    · exact r2
    · exact r3
    · exact hL1
    · show 89 + min g.n 4096 ≤ 1099511627776
      omega
    · exact hL2
  intro b12 _
  refine And.intro (And.intro (rfl) (rfl)) ?_
  refine stE ([(12, SV.c (Cel.ptr 1012 b12 0)), (55, SV.int .i64 (errF (GS.l ⟨r.b, r.off, 89 + min g.n 4096, r.cap, r.z, r.m, r.y, L⟩))), (54, SV.c (Cel.sl 1052 { o := q'.b, ro := false : Blk } q'.off (List.length (payF (GS.l ⟨r.b, r.off, 89 + min g.n 4096, r.cap, r.z, r.m, r.y, L⟩))) q'.cap q'.z)), (53, SV.agg [Cel.ints .u8 32 (openF (GS.l ⟨r.b, r.off, 89 + min g.n 4096, r.cap, r.z, r.m, r.y, L⟩)).key, Cel.v (Value.int .i64 (openF (GS.l ⟨r.b, r.off, 89 + min g.n 4096, r.cap, r.z, r.m, r.y, L⟩)).part), Cel.v (Value.bool (openF (GS.l ⟨r.b, r.off, 89 + min g.n 4096, r.cap, r.z, r.m, r.y, L⟩)).last), Cel.v (Value.int .i64 (openF (GS.l ⟨r.b, r.off, 89 + min g.n 4096, r.cap, r.z, r.m, r.y, L⟩)).size), Cel.ints .u8 32 (openF (GS.l ⟨r.b, r.off, 89 + min g.n 4096, r.cap, r.z, r.m, r.y, L⟩)).sum, Cel.v (Value.int .u64 (openF (GS.l ⟨r.b, r.off, 89 + min g.n 4096, r.cap, r.z, r.m, r.y, L⟩)).turn)]), (50, SV.tup [SA.agg [Cel.ints .u8 32 (openF (GS.l ⟨r.b, r.off, 89 + min g.n 4096, r.cap, r.z, r.m, r.y, L⟩)).key, Cel.v (Value.int .i64 (openF (GS.l ⟨r.b, r.off, 89 + min g.n 4096, r.cap, r.z, r.m, r.y, L⟩)).part), Cel.v (Value.bool (openF (GS.l ⟨r.b, r.off, 89 + min g.n 4096, r.cap, r.z, r.m, r.y, L⟩)).last), Cel.v (Value.int .i64 (openF (GS.l ⟨r.b, r.off, 89 + min g.n 4096, r.cap, r.z, r.m, r.y, L⟩)).size), Cel.ints .u8 32 (openF (GS.l ⟨r.b, r.off, 89 + min g.n 4096, r.cap, r.z, r.m, r.y, L⟩)).sum, Cel.v (Value.int .u64 (openF (GS.l ⟨r.b, r.off, 89 + min g.n 4096, r.cap, r.z, r.m, r.y, L⟩)).turn)], SA.c (Cel.sl 1052 { o := q'.b, ro := false : Blk } q'.off (List.length (payF (GS.l ⟨r.b, r.off, 89 + min g.n 4096, r.cap, r.z, r.m, r.y, L⟩))) q'.cap q'.z), SA.c (Cel.v (Value.int .i64 (errF (GS.l ⟨r.b, r.off, 89 + min g.n 4096, r.cap, r.z, r.m, r.y, L⟩))))]), (52, SV.tup [SA.agg [Cel.ints .u8 32 (openF (GS.l ⟨r.b, r.off, 89 + min g.n 4096, r.cap, r.z, r.m, r.y, L⟩)).key, Cel.v (Value.int .i64 (openF (GS.l ⟨r.b, r.off, 89 + min g.n 4096, r.cap, r.z, r.m, r.y, L⟩)).part), Cel.v (Value.bool (openF (GS.l ⟨r.b, r.off, 89 + min g.n 4096, r.cap, r.z, r.m, r.y, L⟩)).last), Cel.v (Value.int .i64 (openF (GS.l ⟨r.b, r.off, 89 + min g.n 4096, r.cap, r.z, r.m, r.y, L⟩)).size), Cel.ints .u8 32 (openF (GS.l ⟨r.b, r.off, 89 + min g.n 4096, r.cap, r.z, r.m, r.y, L⟩)).sum, Cel.v (Value.int .u64 (openF (GS.l ⟨r.b, r.off, 89 + min g.n 4096, r.cap, r.z, r.m, r.y, L⟩)).turn)], SA.c (Cel.sl 1052 { o := q'.b, ro := false : Blk } q'.off (List.length (payF (GS.l ⟨r.b, r.off, 89 + min g.n 4096, r.cap, r.z, r.m, r.y, L⟩))) q'.cap q'.z), SA.c (Cel.v (Value.int .i64 (errF (GS.l ⟨r.b, r.off, 89 + min g.n 4096, r.cap, r.z, r.m, r.y, L⟩))))]), (51, SV.c (Cel.sl 7 r.b r.off (89 + min g.n 4096) r.cap r.z)), (11, SV.int .i64 (errF (GS.l ⟨r.b, r.off, 89 + min g.n 4096, r.cap, r.z, r.m, r.y, L⟩))), (10, SV.c (Cel.sl 1046 q.b q.off (List.length (payF (GS.l ⟨r.b, r.off, 89 + min g.n 4096, r.cap, r.z, r.m, r.y, L⟩))) q.cap q.z)), (9, SV.c (Cel.ptr 1009 b9 0)), (7, SV.c (Cel.sl 7 r.b r.off (89 + min g.n 4096) r.cap r.z))]) ([(1, g.b, Cont.cells g.y [Cel.ints .u8 g.m g.B]), (7, r.b, Cont.cells r.y [Cel.ints .u8 r.m L]), (1046, q.b, Cont.cells q.y [Cel.ints .u8 q.m q.L]), (1009, b9, Cont.cells 36 ([] ++ ([Cel.ints .u8 32 (openF (GS.l ⟨r.b, r.off, 89 + min g.n 4096, r.cap, r.z, r.m, r.y, L⟩)).key, Cel.v (Value.int .i64 (openF (GS.l ⟨r.b, r.off, 89 + min g.n 4096, r.cap, r.z, r.m, r.y, L⟩)).part), Cel.v (Value.bool (openF (GS.l ⟨r.b, r.off, 89 + min g.n 4096, r.cap, r.z, r.m, r.y, L⟩)).last), Cel.v (Value.int .i64 (openF (GS.l ⟨r.b, r.off, 89 + min g.n 4096, r.cap, r.z, r.m, r.y, L⟩)).size), Cel.ints .u8 32 (openF (GS.l ⟨r.b, r.off, 89 + min g.n 4096, r.cap, r.z, r.m, r.y, L⟩)).sum, Cel.v (Value.int .u64 (openF (GS.l ⟨r.b, r.off, 89 + min g.n 4096, r.cap, r.z, r.m, r.y, L⟩)).turn)] ++ []))), (1052, { o := q'.b, ro := false : Blk }, Cont.cells q'.y [Cel.ints .u8 q'.m q'.L]), (1012, b12, Cont.cells 36 ([] ++ ([Cel.ints .u8 32 (openF (GS.l ⟨r.b, r.off, 89 + min g.n 4096, r.cap, r.z, r.m, r.y, L⟩)).key, Cel.v (Value.int .i64 (openF (GS.l ⟨r.b, r.off, 89 + min g.n 4096, r.cap, r.z, r.m, r.y, L⟩)).part), Cel.v (Value.bool (openF (GS.l ⟨r.b, r.off, 89 + min g.n 4096, r.cap, r.z, r.m, r.y, L⟩)).last), Cel.v (Value.int .i64 (openF (GS.l ⟨r.b, r.off, 89 + min g.n 4096, r.cap, r.z, r.m, r.y, L⟩)).size), Cel.ints .u8 32 (openF (GS.l ⟨r.b, r.off, 89 + min g.n 4096, r.cap, r.z, r.m, r.y, L⟩)).sum, Cel.v (Value.int .u64 (openF (GS.l ⟨r.b, r.off, 89 + min g.n 4096, r.cap, r.z, r.m, r.y, L⟩)).turn)] ++ [])))]) (by kernel_rfl) (by kernel_rfl) ?_
  refine ⟨fun e => ?_, fun e => ?_⟩
  · skip
    refine ⟨(), [1], ?_, rfl, rfl, ?_, trivial⟩
    · exact boolE rfl
    · refine Eq.mpr (β := (g.b = g.b ∧ g.y = g.y ∧ (IntKind.u8 = IntKind.u8 ∧ g.m = g.m ∧ g.B = g.B) ∧ True) ∧ True) (by kernel_rfl) (And.intro (And.intro (rfl) (And.intro (rfl) (And.intro (And.intro (rfl) (And.intro (rfl) (rfl))) (trivial)))) (trivial))
  have e : ¬ errF (GS.mk r.b r.off (89 + min g.n 4096) r.cap r.z r.m r.y L).l = 0 := of_decide_eq_false e
  obtain ⟨q1, q2, q3⟩ := bad_res (errF_bad e)
  skip
  have t2 : decide (errF (GS.mk r.b r.off (89 + min g.n 4096) r.cap r.z r.m r.y L).l = 40) = true := by rw [q3]; rfl
  refine ⟨fun _ => ?_, fun hp => Bool.noConfusion (Eq.trans (Eq.symm t2) hp)⟩
  refine And.intro (fun _ => ?_) (fun hp => by cases hp)
  refine And.intro (fun _ => ?_) (fun hp => by cases hp)
  refine stepE (v := (SV.bool (decide ((↑(List.length (payF (GS.l ⟨r.b, r.off, 89 + min g.n 4096, r.cap, r.z, r.m, r.y, L⟩))) : Int) = 0)))) (by kernel_rfl) ?_
  refine stE ([(63, SV.bool (decide ((↑(List.length (payF (GS.l ⟨r.b, r.off, 89 + min g.n 4096, r.cap, r.z, r.m, r.y, L⟩))) : Int) = 0))), (60, SV.bool true), (62, SV.int .i64 (↑(List.length (payF (GS.l ⟨r.b, r.off, 89 + min g.n 4096, r.cap, r.z, r.m, r.y, L⟩))) : Int)), (60, SV.bool true), (61, SV.c (Cel.sl 1046 q.b q.off (List.length (payF (GS.l ⟨r.b, r.off, 89 + min g.n 4096, r.cap, r.z, r.m, r.y, L⟩))) q.cap q.z)), (60, SV.bool true), (60, SV.bool (decide (errF (GS.l ⟨r.b, r.off, 89 + min g.n 4096, r.cap, r.z, r.m, r.y, L⟩) = 40))), (59, SV.bool (decide (errF (GS.l ⟨r.b, r.off, 89 + min g.n 4096, r.cap, r.z, r.m, r.y, L⟩) = 40))), (58, SV.int .i64 (errF (GS.l ⟨r.b, r.off, 89 + min g.n 4096, r.cap, r.z, r.m, r.y, L⟩))), (57, SV.bool (decide (errF (GS.l ⟨r.b, r.off, 89 + min g.n 4096, r.cap, r.z, r.m, r.y, L⟩) = 0))), (14, SV.int .i64 (errF (GS.l ⟨r.b, r.off, 89 + min g.n 4096, r.cap, r.z, r.m, r.y, L⟩))), (11, SV.int .i64 (errF (GS.l ⟨r.b, r.off, 89 + min g.n 4096, r.cap, r.z, r.m, r.y, L⟩))), (10, SV.c (Cel.sl 1046 q.b q.off (List.length (payF (GS.l ⟨r.b, r.off, 89 + min g.n 4096, r.cap, r.z, r.m, r.y, L⟩))) q.cap q.z)), (9, SV.c (Cel.ptr 1009 b9 0)), (7, SV.c (Cel.sl 7 r.b r.off (89 + min g.n 4096) r.cap r.z))]) ([(1, g.b, Cont.cells g.y [Cel.ints .u8 g.m g.B]), (7, r.b, Cont.cells r.y [Cel.ints .u8 r.m L]), (1046, q.b, Cont.cells q.y [Cel.ints .u8 q.m q.L]), (1009, b9, Cont.cells 36 ([] ++ ([Cel.ints .u8 32 (openF (GS.l ⟨r.b, r.off, 89 + min g.n 4096, r.cap, r.z, r.m, r.y, L⟩)).key, Cel.v (Value.int .i64 (openF (GS.l ⟨r.b, r.off, 89 + min g.n 4096, r.cap, r.z, r.m, r.y, L⟩)).part), Cel.v (Value.bool (openF (GS.l ⟨r.b, r.off, 89 + min g.n 4096, r.cap, r.z, r.m, r.y, L⟩)).last), Cel.v (Value.int .i64 (openF (GS.l ⟨r.b, r.off, 89 + min g.n 4096, r.cap, r.z, r.m, r.y, L⟩)).size), Cel.ints .u8 32 (openF (GS.l ⟨r.b, r.off, 89 + min g.n 4096, r.cap, r.z, r.m, r.y, L⟩)).sum, Cel.v (Value.int .u64 (openF (GS.l ⟨r.b, r.off, 89 + min g.n 4096, r.cap, r.z, r.m, r.y, L⟩)).turn)] ++ []))), (1052, { o := q'.b, ro := false : Blk }, Cont.cells q'.y [Cel.ints .u8 q'.m q'.L]), (1012, b12, Cont.cells 36 ([] ++ ([Cel.ints .u8 32 (openF (GS.l ⟨r.b, r.off, 89 + min g.n 4096, r.cap, r.z, r.m, r.y, L⟩)).key, Cel.v (Value.int .i64 (openF (GS.l ⟨r.b, r.off, 89 + min g.n 4096, r.cap, r.z, r.m, r.y, L⟩)).part), Cel.v (Value.bool (openF (GS.l ⟨r.b, r.off, 89 + min g.n 4096, r.cap, r.z, r.m, r.y, L⟩)).last), Cel.v (Value.int .i64 (openF (GS.l ⟨r.b, r.off, 89 + min g.n 4096, r.cap, r.z, r.m, r.y, L⟩)).size), Cel.ints .u8 32 (openF (GS.l ⟨r.b, r.off, 89 + min g.n 4096, r.cap, r.z, r.m, r.y, L⟩)).sum, Cel.v (Value.int .u64 (openF (GS.l ⟨r.b, r.off, 89 + min g.n 4096, r.cap, r.z, r.m, r.y, L⟩)).turn)] ++ [])))]) (by kernel_rfl) (by kernel_rfl) ?_
  have t3 : decide (((payF (GS.mk r.b r.off (89 + min g.n 4096) r.cap r.z r.m r.y L).l).length : Int) = 0) = true := by rw [q2]; rfl
  refine ⟨fun _ => ?_, fun hp => Bool.noConfusion (Eq.trans (Eq.symm t3) hp)⟩
  refine And.intro rfl ?_
  refine And.intro (fun _ => ?_) (fun hp => by cases hp)
  refine And.intro (fun _ => ?_) (fun hp => by cases hp)
  refine And.intro ?_ (fun _ _ => ?_)
  · refine And.intro (And.intro (And.intro (And.intro (rfl) (And.intro (rfl) (rfl))) (And.intro (rfl) (And.intro (rfl) (And.intro (rfl) (And.intro (And.intro (rfl) (And.intro (rfl) (rfl))) (And.intro (rfl) (trivial))))))) (And.intro (And.intro (And.intro (rfl) (And.intro (rfl) (rfl))) (And.intro (rfl) (And.intro (rfl) (And.intro (rfl) (And.intro (And.intro (rfl) (And.intro (rfl) (rfl))) (And.intro (rfl) (trivial))))))) (trivial))) (And.intro (And.intro (trivial) (rfl)) (And.intro (rfl) (And.intro (rfl) (And.intro (rfl) (And.intro (rfl) (And.intro (And.intro (?_) (?_)) (And.intro (rfl) (rfl))))))))
    · show (openF (GS.mk r.b r.off (89 + min g.n 4096) r.cap r.z r.m r.y L).l).key.length = 32
      rw [q1]; rfl
    · show (openF (GS.mk r.b r.off (89 + min g.n 4096) r.cap r.z r.m r.y L).l).sum.length = 32
      rw [q1]; rfl
  skip
  refine ⟨(), [1], ?_, rfl, rfl, ?_, trivial⟩
  · refine boolE ?_
    show sameF (openF (GS.mk r.b r.off (89 + min g.n 4096) r.cap r.z r.m r.y L).l) FV.zero = true
    rw [q1]
    kernel_rfl
  · refine Eq.mpr (β := (g.b = g.b ∧ g.y = g.y ∧ (IntKind.u8 = IntKind.u8 ∧ g.m = g.m ∧ g.B = g.B) ∧ True) ∧ True) (by kernel_rfl) (And.intro (And.intro (rfl) (And.intro (rfl) (And.intro (And.intro (rfl) (And.intro (rfl) (rfl))) (trivial)))) (trivial))

end Go.Proofs.Ytpggklkofilmfaa
