/- Fragments, written by the reference. -/
import Derived.Test.YtpggklkofilmfaaFrag11
import Derived.Test.YtpggklkofilmfaaAbLem
set_option linter.unusedSimpArgs false
set_option linter.unusedVariables false
namespace Go.Proofs.Ytpggklkofilmfaa
open Go Go.Ab
set_option maxRecDepth 100000

/-- Four bytes are told by a number's low part. -/
theorem putL_low (x : Int) : putL (IntKind.u64.wrap (IntKind.u32.wrap x)) 4 4 = putL (IntKind.u64.wrap x) 4 4 := by
  have h : ∀ y : Int, putL y 4 4 = [IntKind.u8.wrap (ishr .u64 y 24), IntKind.u8.wrap (ishr .u64 y 16), IntKind.u8.wrap (ishr .u64 y 8), IntKind.u8.wrap (ishr .u64 y 0)] := fun y => by
    rw [putL_succ, putL_succ, putL_succ, putL_succ, putL_zero]
    rfl
  have w8 : ∀ y : Int, IntKind.u8.wrap y = y % 256 := fun y => by
    simp [IntKind.wrap, IntKind.signed, IntKind.bits]
  have w64 : ∀ y : Int, IntKind.u64.wrap y = y % 18446744073709551616 := fun y => by
    simp [IntKind.wrap, IntKind.signed, IntKind.bits]
  have e24 : ∀ y : Int, ishr .u64 y 24 = y / 16777216 := fun y => by
    unfold ishr
    show y.fdiv 16777216 = _
    rw [Int.fdiv_eq_ediv_of_nonneg _ (by omega)]
  have e16 : ∀ y : Int, ishr .u64 y 16 = y / 65536 := fun y => by
    unfold ishr
    show y.fdiv 65536 = _
    rw [Int.fdiv_eq_ediv_of_nonneg _ (by omega)]
  have e8 : ∀ y : Int, ishr .u64 y 8 = y / 256 := fun y => by
    unfold ishr
    show y.fdiv 256 = _
    rw [Int.fdiv_eq_ediv_of_nonneg _ (by omega)]
  rw [h, h]
  simp only [e24, e16, e8, ishr_zero, w8, w64, wrap_u32]
  congr 1
  · omega
  congr 1
  · omega
  congr 1
  · omega
  congr 1
  omega
theorem chain21 {f : FV} (hk : f.key.length = 32) {l : List Int} {n : Nat} {T1 T2 T3 T4 T5 : List Int}
    (b5 : T1 = List.take 4 (List.drop 0 [65, 77, 66, 82]) ++ List.take 32 (List.drop 0 f.key)) (c5 : T2 = T1 ++ putL (IntKind.u64.wrap (IntKind.u32.wrap f.part)) 4 4)
    (d5 : T3 = T2 ++ List.take 1 (List.drop 0 [if f.last = true then 1 else 0])) (e5 : T4 = T3 ++ putL (IntKind.u64.wrap n) 4 4)
    (x5 : T5 = T4 ++ List.take 32 (List.drop 0 (List.take 0 (List.replicate 32 0) ++ sumL l n ++ List.drop 32 (List.replicate 32 0)))) : T5 ++ putL f.turn 8 8 = frHead f l n := by
  subst b5 c5 d5 e5 x5
  rw [putL_low]
  simp [frHead, frLast, List.take_of_length_le, hk, sumL_len]
noncomputable def con21 : FuncId → Option Con
  | 15 => some spSumF.con
  | 37 => some sp37F.con
  | 41 => some spCrcF.con
  | _ => none
noncomputable def cx21 : Cx := ⟨tab, con21, 50, true⟩
theorem cx21_ok : CxOk Try.prog cx21 := ⟨tab_ok, fun f c h => by
  unfold cx21 con21 at h
  dsimp only at h
  split at h
  · cases h; exact conOk_of_spec fn15F
  · cases h; exact conOk_of_spec fn37F
  · cases h; exact conOk_of_spec fn41F
  · cases h⟩
def nt21 : Notes := ⟨fun | 10 => some (preOf [0, 1, 3] (.fork 2 (seqOf [4, 5, 6]) (.step 4 (seqOf [2, 5, 6])))) | _ => none, fun | 3 => some none | 8 => some none | 11 => some none | _ => none, fun _ => none, [0, 1, 2, 4, 5, 6, 7, 10, 25]⟩
def inv21b (f : FV) (g : GS) (b2 : BlkO) (r : ApR) : Inv where
  G := Unit
  pre _ := True
  sl _ := [(1, .c (.sl 1 g.b g.off (min g.n 4096) g.c g.z)), (2, .c (.ptr 2 b2 0)), vS 5 5 40 r, (6, .int .u8 (frLast f))]
  hp _ := [g.ent 1 .u8, (2, b2, .cells 36 f.cels), vH 5 .u8 r]
  mu _ := 0
def inv21c (f : FV) (g : GS) : Inv where
  G := ApR
  pre r := r.fits 85 (frHead f (g.l.take 4096) (min g.n 4096))
  sl r := [(1, .c (.sl 1 g.b g.off (min g.n 4096) g.c g.z)), vS 5 5 85 r]
  hp r := [g.ent 1 .u8, vH 5 .u8 r]
  mu _ := 0
set_option maxHeartbeats 8000000 in
theorem fn21 : FnOk Try.prog 21 spFrag := by
  refine fnOk_of_vc cx21_ok wide (nt := fun _ => nt21) Try.func21 rfl rfl (by kernel_rfl) (fuel := 1000) (fun _ => Nat.le_of_ble_eq_true rfl) (fun _ _ t h => h) (fun h => by cases h) ?_
  rintro ⟨f, g⟩ ⟨⟨l1, l2⟩, ⟨g1, g2, g3, g4⟩, hn⟩
  have l1 : f.key.length = 32 := l1
  have l2 : f.sum.length = 32 := l2
  have g1 : g.off + g.c ≤ g.m := g1
  have g2 : g.n ≤ g.c := g2
  have g3 : g.z = 0 ∨ g.c = 0 := g3
  have g4 : g.B.length = g.m := g4
  have hn : g.n ≤ 1099511627776 := hn
  have hS : (GS.mk g.b g.off (min g.n 4096) g.c g.z g.m g.y g.B).l = g.l.take 4096 := by
    show (g.B.drop g.off).take (min g.n 4096) = ((g.B.drop g.off).take g.n).take 4096
    rw [List.take_take, Nat.min_comm]
  intro b2 _
  refine ⟨inv19a f g b2, ?_, ?_⟩
  · refine ⟨fun h => ?_, fun h => ?_⟩
    · have h : (4096 : Int) < (g.n : Int) := of_decide_eq_true h
      refine And.intro (Eq.mpr (β := (0 : Int) ≤ (4096 : Int) ∧ (4096 : Int) ≤ (↑g.c : Int)) (by kernel_rfl) (by omega)) ?_
      refine stE ([(12, SV.c (Cel.sl 1 g.b g.off 4096 (g.c - 0) g.z)), (11, SV.c (Cel.sl 1 g.b g.off g.n g.c g.z)), (10, SV.bool (decide (4096 < (↑g.n : Int)))), (4, SV.c (Cel.v (Value.slice none 0 0))), (2, SV.c (Cel.ptr 1002 b2 0)), (0, SV.agg [Cel.ints .u8 32 f.key, Cel.v (Value.int .i64 f.part), Cel.v (Value.bool f.last), Cel.v (Value.int .i64 f.size), Cel.ints .u8 32 f.sum, Cel.v (Value.int .u64 f.turn)]), (1, SV.c (Cel.sl 1 g.b g.off g.n g.c g.z))]) ([(1, g.b, Cont.cells g.y [Cel.ints .u8 g.m g.B]), (1002, b2, Cont.cells 36 [Cel.ints .u8 32 f.key, Cel.v (Value.int .i64 f.part), Cel.v (Value.bool f.last), Cel.v (Value.int .i64 f.size), Cel.ints .u8 32 f.sum, Cel.v (Value.int .u64 f.turn)])]) (by kernel_rfl) (by kernel_rfl) ?_
      refine ⟨(), [1, 1002], rfl, rfl, ?_, ?_, trivial, trivial⟩
      · refine Eq.mpr (β := (g.b = g.b ∧ g.off = g.off ∧ 4096 = min g.n 4096 ∧ g.c - 0 = g.c ∧ g.z = g.z) ∧ ({ o := b2, ro := false : Blk } = { o := b2, ro := false : Blk } ∧ 0 = 0) ∧ True) (by kernel_rfl) (And.intro (And.intro (rfl) (And.intro (rfl) (And.intro (by omega) (And.intro (by omega) (rfl))))) (And.intro (And.intro (rfl) (rfl)) (trivial)))
      · refine Eq.mpr (β := (g.b = g.b ∧ g.y = g.y ∧ (IntKind.u8 = IntKind.u8 ∧ g.m = g.m ∧ g.B = g.B) ∧ True) ∧ ({ o := b2, ro := false : Blk } = { o := b2, ro := false : Blk } ∧ 36 = 36 ∧ (IntKind.u8 = IntKind.u8 ∧ 32 = 32 ∧ f.key = f.key) ∧ Value.int IntKind.i64 f.part = Value.int IntKind.i64 f.part ∧ Value.bool f.last = Value.bool f.last ∧ Value.int IntKind.i64 f.size = Value.int IntKind.i64 f.size ∧ (IntKind.u8 = IntKind.u8 ∧ 32 = 32 ∧ f.sum = f.sum) ∧ Value.int IntKind.u64 f.turn = Value.int IntKind.u64 f.turn ∧ True) ∧ True) (by kernel_rfl) (And.intro (And.intro (rfl) (And.intro (rfl) (And.intro (And.intro (rfl) (And.intro (rfl) (rfl))) (trivial)))) (And.intro (And.intro (rfl) (And.intro (rfl) (And.intro (And.intro (rfl) (And.intro (rfl) (rfl))) (And.intro (rfl) (And.intro (rfl) (And.intro (rfl) (And.intro (And.intro (rfl) (And.intro (rfl) (rfl))) (And.intro (rfl) (trivial))))))))) (trivial)))
    · have h : ¬ (4096 : Int) < (g.n : Int) := of_decide_eq_false h
      skip
      refine ⟨(), [1, 1002], rfl, rfl, ?_, ?_, trivial, trivial⟩
      · refine Eq.mpr (β := (g.b = g.b ∧ g.off = g.off ∧ g.n = min g.n 4096 ∧ g.c = g.c ∧ g.z = g.z) ∧ ({ o := b2, ro := false : Blk } = { o := b2, ro := false : Blk } ∧ 0 = 0) ∧ True) (by kernel_rfl) (And.intro (And.intro (rfl) (And.intro (rfl) (And.intro (by omega) (And.intro (rfl) (rfl))))) (And.intro (And.intro (rfl) (rfl)) (trivial)))
      · refine Eq.mpr (β := (g.b = g.b ∧ g.y = g.y ∧ (IntKind.u8 = IntKind.u8 ∧ g.m = g.m ∧ g.B = g.B) ∧ True) ∧ ({ o := b2, ro := false : Blk } = { o := b2, ro := false : Blk } ∧ 36 = 36 ∧ (IntKind.u8 = IntKind.u8 ∧ 32 = 32 ∧ f.key = f.key) ∧ Value.int IntKind.i64 f.part = Value.int IntKind.i64 f.part ∧ Value.bool f.last = Value.bool f.last ∧ Value.int IntKind.i64 f.size = Value.int IntKind.i64 f.size ∧ (IntKind.u8 = IntKind.u8 ∧ 32 = 32 ∧ f.sum = f.sum) ∧ Value.int IntKind.u64 f.turn = Value.int IntKind.u64 f.turn ∧ True) ∧ True) (by kernel_rfl) (And.intro (And.intro (rfl) (And.intro (rfl) (And.intro (And.intro (rfl) (And.intro (rfl) (rfl))) (trivial)))) (And.intro (And.intro (rfl) (And.intro (rfl) (And.intro (And.intro (rfl) (And.intro (rfl) (rfl))) (And.intro (rfl) (And.intro (rfl) (And.intro (rfl) (And.intro (And.intro (rfl) (And.intro (rfl) (rfl))) (And.intro (rfl) (trivial))))))))) (trivial)))
  rintro ⟨⟩ _
  intro b13 hb13
  refine And.intro ⟨rfl, rfl, rfl, hb13⟩ ?_
  refine And.intro (And.intro (And.intro (And.intro (rfl) (And.intro (rfl) (And.intro (Eq.mpr (β := 4 ≤ 4) (by kernel_rfl) (by omega)) (And.intro (by omega) (by omega))))) (rfl)) (by omega)) ?_
  intro r1 hr1
  replace hr1 : ApR.fits r1 (4 + (32 - 0)) (List.take 4 (List.drop 0 [65, 77, 66, 82]) ++ List.take (31 + 1) (List.drop (0 + 0) f.key)) := Eq.mp (by kernel_rfl) hr1
  obtain ⟨b1, b2', b3, b4, b5⟩ := hr1
  refine And.intro rfl ?_
  refine And.intro (And.intro (And.intro (And.intro (rfl) (And.intro (rfl) (And.intro (rfl) (And.intro (rfl) (rfl))))) (And.intro (rfl) (And.intro (rfl) (trivial)))) (And.intro (And.intro (And.intro (And.intro (rfl) (And.intro (rfl) (And.intro (And.intro (rfl) (And.intro (rfl) (rfl))) (trivial)))) (trivial)) (rfl)) (And.intro (rfl) (And.intro (rfl) (And.intro (rfl) (And.intro (rfl) (And.intro (And.intro (by omega) (And.intro (by omega) (And.intro (by omega) (by omega)))) (And.intro (Eq.mpr (β := 36 ≤ 1099511627776) (by kernel_rfl) (by omega)) (Eq.mpr (β := 4 ≤ 8) (by kernel_rfl) (by omega)))))))))) ?_
  intro r2 hr2
  replace hr2 : ApR.fits r2 (4 + (32 - 0) + Int.toNat 4) (List.take (4 + (32 - 0)) (List.drop r1.off r1.L) ++ putL (IntKind.wrap IntKind.u64 (IntKind.wrap IntKind.u32 f.part)) (Int.toNat 4) (Int.toNat 4)) := Eq.mp (by kernel_rfl) hr2
  obtain ⟨c1, c2, c3, c4, c5⟩ := hr2
  refine ⟨inv21b f g b2 r2, ?_, ?_⟩
  · refine And.intro rfl ?_
    refine stE ([(25, SV.bool f.last), (24, SV.c (Cel.ptr 2 b2 33)), (6, SV.int .u8 0), (5, SV.c (Cel.sl 1023 r2.b r2.off (36 + 4) r2.cap r2.z)), (5, SV.c (Cel.sl 1017 r1.b r1.off 36 r1.cap r1.z)), (1, SV.c (Cel.sl 1 g.b g.off (min g.n 4096) g.c g.z)), (2, SV.c (Cel.ptr 2 b2 0))]) ([(1, g.b, Cont.cells g.y [Cel.ints .u8 g.m g.B]), (2, b2, Cont.cells 36 [Cel.ints .u8 32 f.key, Cel.v (Value.int .i64 f.part), Cel.v (Value.bool f.last), Cel.v (Value.int .i64 f.size), Cel.ints .u8 32 f.sum, Cel.v (Value.int .u64 f.turn)]), (1017, r1.b, Cont.void), (1023, r2.b, Cont.cells r2.y [Cel.ints .u8 r2.m r2.L])]) (by kernel_rfl) (by kernel_rfl) ?_
    refine ⟨fun h => ?_, fun h => ?_⟩
    · have h : f.last = true := h
      refine ⟨(), [1, 2, 1023], rfl, rfl, ?_, ?_, trivial, trivial⟩
      · refine Eq.mpr (β := (g.b = g.b ∧ g.off = g.off ∧ min g.n 4096 = min g.n 4096 ∧ g.c = g.c ∧ g.z = g.z) ∧ ({ o := b2, ro := false : Blk } = { o := b2, ro := false : Blk } ∧ 0 = 0) ∧ ({ o := r2.b, ro := false : Blk } = { o := r2.b, ro := false : Blk } ∧ r2.off = r2.off ∧ 36 + 4 = 40 ∧ r2.cap = r2.cap ∧ r2.z = r2.z) ∧ Value.int IntKind.u8 1 = Value.int IntKind.u8 (if f.last = true then 1 else 0) ∧ True) (by kernel_rfl) (And.intro (And.intro (rfl) (And.intro (rfl) (And.intro (rfl) (And.intro (rfl) (rfl))))) (And.intro (And.intro (rfl) (rfl)) (And.intro (And.intro (rfl) (And.intro (rfl) (And.intro (rfl) (And.intro (rfl) (rfl))))) (And.intro (?_) (trivial)))))
        · exact intE (if_pos h).symm
      · refine Eq.mpr (β := (g.b = g.b ∧ g.y = g.y ∧ (IntKind.u8 = IntKind.u8 ∧ g.m = g.m ∧ g.B = g.B) ∧ True) ∧ ({ o := b2, ro := false : Blk } = { o := b2, ro := false : Blk } ∧ 36 = 36 ∧ (IntKind.u8 = IntKind.u8 ∧ 32 = 32 ∧ f.key = f.key) ∧ Value.int IntKind.i64 f.part = Value.int IntKind.i64 f.part ∧ Value.bool f.last = Value.bool f.last ∧ Value.int IntKind.i64 f.size = Value.int IntKind.i64 f.size ∧ (IntKind.u8 = IntKind.u8 ∧ 32 = 32 ∧ f.sum = f.sum) ∧ Value.int IntKind.u64 f.turn = Value.int IntKind.u64 f.turn ∧ True) ∧ ({ o := r2.b, ro := false : Blk } = { o := r2.b, ro := false : Blk } ∧ r2.y = r2.y ∧ (IntKind.u8 = IntKind.u8 ∧ r2.m = r2.m ∧ r2.L = r2.L) ∧ True) ∧ True) (by kernel_rfl) (And.intro (And.intro (rfl) (And.intro (rfl) (And.intro (And.intro (rfl) (And.intro (rfl) (rfl))) (trivial)))) (And.intro (And.intro (rfl) (And.intro (rfl) (And.intro (And.intro (rfl) (And.intro (rfl) (rfl))) (And.intro (rfl) (And.intro (rfl) (And.intro (rfl) (And.intro (And.intro (rfl) (And.intro (rfl) (rfl))) (And.intro (rfl) (trivial))))))))) (And.intro (And.intro (rfl) (And.intro (rfl) (And.intro (And.intro (rfl) (And.intro (rfl) (rfl))) (trivial)))) (trivial))))
    · have h : f.last = false := h
      refine ⟨(), [1, 2, 1023], rfl, rfl, ?_, ?_, trivial, trivial⟩
      · refine Eq.mpr (β := (g.b = g.b ∧ g.off = g.off ∧ min g.n 4096 = min g.n 4096 ∧ g.c = g.c ∧ g.z = g.z) ∧ ({ o := b2, ro := false : Blk } = { o := b2, ro := false : Blk } ∧ 0 = 0) ∧ ({ o := r2.b, ro := false : Blk } = { o := r2.b, ro := false : Blk } ∧ r2.off = r2.off ∧ 36 + 4 = 40 ∧ r2.cap = r2.cap ∧ r2.z = r2.z) ∧ Value.int IntKind.u8 0 = Value.int IntKind.u8 (if f.last = true then 1 else 0) ∧ True) (by kernel_rfl) (And.intro (And.intro (rfl) (And.intro (rfl) (And.intro (rfl) (And.intro (rfl) (rfl))))) (And.intro (And.intro (rfl) (rfl)) (And.intro (And.intro (rfl) (And.intro (rfl) (And.intro (rfl) (And.intro (rfl) (rfl))))) (And.intro (?_) (trivial)))))
        · exact intE (if_neg (by rw [h]; exact Bool.false_ne_true)).symm
      · refine Eq.mpr (β := (g.b = g.b ∧ g.y = g.y ∧ (IntKind.u8 = IntKind.u8 ∧ g.m = g.m ∧ g.B = g.B) ∧ True) ∧ ({ o := b2, ro := false : Blk } = { o := b2, ro := false : Blk } ∧ 36 = 36 ∧ (IntKind.u8 = IntKind.u8 ∧ 32 = 32 ∧ f.key = f.key) ∧ Value.int IntKind.i64 f.part = Value.int IntKind.i64 f.part ∧ Value.bool f.last = Value.bool f.last ∧ Value.int IntKind.i64 f.size = Value.int IntKind.i64 f.size ∧ (IntKind.u8 = IntKind.u8 ∧ 32 = 32 ∧ f.sum = f.sum) ∧ Value.int IntKind.u64 f.turn = Value.int IntKind.u64 f.turn ∧ True) ∧ ({ o := r2.b, ro := false : Blk } = { o := r2.b, ro := false : Blk } ∧ r2.y = r2.y ∧ (IntKind.u8 = IntKind.u8 ∧ r2.m = r2.m ∧ r2.L = r2.L) ∧ True) ∧ True) (by kernel_rfl) (And.intro (And.intro (rfl) (And.intro (rfl) (And.intro (And.intro (rfl) (And.intro (rfl) (rfl))) (trivial)))) (And.intro (And.intro (rfl) (And.intro (rfl) (And.intro (And.intro (rfl) (And.intro (rfl) (rfl))) (And.intro (rfl) (And.intro (rfl) (And.intro (rfl) (And.intro (And.intro (rfl) (And.intro (rfl) (rfl))) (And.intro (rfl) (trivial))))))))) (And.intro (And.intro (rfl) (And.intro (rfl) (And.intro (And.intro (rfl) (And.intro (rfl) (rfl))) (trivial)))) (trivial))))
  rintro ⟨⟩ _
  refine And.intro (And.intro (And.intro (And.intro (rfl) (And.intro (rfl) (And.intro (rfl) (And.intro (rfl) (rfl))))) (trivial)) (And.intro (And.intro (And.intro (And.intro (rfl) (And.intro (rfl) (And.intro (And.intro (rfl) (And.intro (rfl) (rfl))) (trivial)))) (trivial)) (rfl)) (And.intro (rfl) (And.intro (rfl) (And.intro (rfl) (And.intro (rfl) (And.intro (And.intro (by omega) (And.intro (Eq.mpr (β := min g.n 4096 ≤ g.c) (by kernel_rfl) (by omega)) (And.intro (by omega) (by omega)))) (Eq.mpr (β := min g.n 4096 ≤ 1099511627776) (by kernel_rfl) (by omega))))))))) (fun (_ : Unit) _ => ?_)
  refine stE ([(27, SV.agg [Cel.ints .u8 32 (sumL (GS.l ⟨g.b, g.off, min g.n 4096, g.c, g.z, g.m, g.y, g.B⟩) (min g.n 4096))]), (26, SV.c (Cel.sl 1 g.b g.off (min g.n 4096) g.c g.z)), (1, SV.c (Cel.sl 1 g.b g.off (min g.n 4096) g.c g.z)), (2, SV.c (Cel.ptr 2 b2 0)), (5, SV.c (Cel.sl 5 r2.b r2.off 40 r2.cap r2.z)), (6, SV.int .u8 (if f.last = true then 1 else 0))]) ([(1, g.b, Cont.cells g.y [Cel.ints .u8 g.m g.B]), (2, b2, Cont.cells 36 [Cel.ints .u8 32 f.key, Cel.v (Value.int .i64 f.part), Cel.v (Value.bool f.last), Cel.v (Value.int .i64 f.size), Cel.ints .u8 32 f.sum, Cel.v (Value.int .u64 f.turn)]), (5, r2.b, Cont.cells r2.y [Cel.ints .u8 r2.m r2.L])]) (by kernel_rfl) (by kernel_rfl) ?_
  intro b7 _
  refine And.intro ⟨⟨rfl, rfl⟩, by omega⟩ ?_
  refine stE ([(7, SV.c (Cel.ptr 1007 b7 0)), (27, SV.agg [Cel.ints .u8 32 (sumL (GS.l ⟨g.b, g.off, min g.n 4096, g.c, g.z, g.m, g.y, g.B⟩) (min g.n 4096))]), (26, SV.c (Cel.sl 1 g.b g.off (min g.n 4096) g.c g.z)), (1, SV.c (Cel.sl 1 g.b g.off (min g.n 4096) g.c g.z)), (2, SV.c (Cel.ptr 2 b2 0)), (5, SV.c (Cel.sl 5 r2.b r2.off 40 r2.cap r2.z)), (6, SV.int .u8 (if f.last = true then 1 else 0))]) ([(1, g.b, Cont.cells g.y [Cel.ints .u8 g.m g.B]), (2, b2, Cont.cells 36 [Cel.ints .u8 32 f.key, Cel.v (Value.int .i64 f.part), Cel.v (Value.bool f.last), Cel.v (Value.int .i64 f.size), Cel.ints .u8 32 f.sum, Cel.v (Value.int .u64 f.turn)]), (5, r2.b, Cont.cells r2.y [Cel.ints .u8 r2.m r2.L]), (1007, b7, Cont.cells 24 [Cel.ints .u8 32 (List.take 0 (List.replicate 32 0) ++ sumL (GS.l ⟨g.b, g.off, min g.n 4096, g.c, g.z, g.m, g.y, g.B⟩) (min g.n 4096) ++ List.drop 32 (List.replicate 32 0))])]) (by kernel_rfl) (by kernel_rfl) ?_
  intro b30 _
  refine And.intro (And.intro (And.intro (And.intro (rfl) (And.intro (rfl) (And.intro (by omega) (And.intro (by omega) (by omega))))) (And.intro (rfl) (And.intro (by omega) (by omega)))) (by omega)) ?_
  intro r3 hr3
  replace hr3 : ApR.fits r3 (40 + 1) (List.take 40 (List.drop r2.off r2.L) ++ List.take 1 (List.drop 0 [if f.last = true then 1 else 0])) := Eq.mp (by kernel_rfl) hr3
  obtain ⟨d1, d2, d3, d4, d5⟩ := hr3
  refine And.intro (And.intro (And.intro (And.intro (rfl) (And.intro (rfl) (And.intro (rfl) (And.intro (rfl) (rfl))))) (And.intro (rfl) (And.intro (rfl) (trivial)))) (And.intro (And.intro (And.intro (And.intro (rfl) (And.intro (rfl) (And.intro (And.intro (rfl) (And.intro (rfl) (rfl))) (trivial)))) (trivial)) (rfl)) (And.intro (rfl) (And.intro (rfl) (And.intro (rfl) (And.intro (rfl) (And.intro (And.intro (by omega) (And.intro (by omega) (And.intro (by omega) (by omega)))) (And.intro (Eq.mpr (β := 41 ≤ 1099511627776) (by kernel_rfl) (by omega)) (Eq.mpr (β := 4 ≤ 8) (by kernel_rfl) (by omega)))))))))) ?_
  intro r4 hr4
  replace hr4 : ApR.fits r4 (40 + 1 + Int.toNat 4) (List.take (40 + 1) (List.drop r3.off r3.L) ++ putL (IntKind.wrap IntKind.u64 (↑(min g.n 4096) : Int)) (Int.toNat 4) (Int.toNat 4)) := Eq.mp (by kernel_rfl) hr4
  obtain ⟨e1, e2, e3, e4, e5⟩ := hr4
  refine ⟨inv21c f g, ?_, ?_⟩
  · refine And.intro (by kernel_rfl) ?_
    refine stE ([(5, SV.c (Cel.sl 1035 r4.b r4.off (41 + 4) r4.cap r4.z)), (7, SV.c (Cel.ptr 1007 b7 0)), (1, SV.c (Cel.sl 1 g.b g.off (min g.n 4096) g.c g.z)), (2, SV.c (Cel.ptr 2 b2 0)), (5, SV.c (Cel.sl 5 r2.b r2.off 40 r2.cap r2.z)), (6, SV.int .u8 (if f.last = true then 1 else 0))]) ([(1, g.b, Cont.cells g.y [Cel.ints .u8 g.m g.B]), (2, b2, Cont.cells 36 [Cel.ints .u8 32 f.key, Cel.v (Value.int .i64 f.part), Cel.v (Value.bool f.last), Cel.v (Value.int .i64 f.size), Cel.ints .u8 32 f.sum, Cel.v (Value.int .u64 f.turn)]), (1007, b7, Cont.cells 24 [Cel.ints .u8 32 (List.take 0 (List.replicate 32 0) ++ sumL (GS.l ⟨g.b, g.off, min g.n 4096, g.c, g.z, g.m, g.y, g.B⟩) (min g.n 4096) ++ List.drop 32 (List.replicate 32 0))]), (1030, b30, Cont.cells 5 [Cel.ints .u8 1 [if f.last = true then 1 else 0]]), (1031, r3.b, Cont.void), (1035, r4.b, Cont.cells r4.y [Cel.ints .u8 r4.m r4.L])]) (by kernel_rfl) (by kernel_rfl) ?_
    refine ⟨?_, ?_⟩
    · refine And.intro (And.intro (And.intro (And.intro (rfl) (And.intro (rfl) (And.intro (by omega) (And.intro (by omega) (by omega))))) (And.intro (rfl) (And.intro (Eq.mpr (β := 32 ≤ 32) (by kernel_rfl) (by omega)) (by omega)))) (by omega)) ?_
      intro r5 hr5
      replace hr5 : ApR.fits r5 (41 + 4 + (32 - 0)) (List.take (41 + 4) (List.drop r4.off r4.L) ++ List.take (32 - 0) (List.drop 0 (List.take 0 (List.replicate 32 0) ++ sumL (GS.l { b := g.b, off := g.off, n := min g.n 4096, c := g.c, z := g.z, m := g.m, y := g.y, B := g.B : GS }) (min g.n 4096) ++ List.drop 32 (List.replicate 32 0)))) := Eq.mp (by kernel_rfl) hr5
      obtain ⟨x1, x2, x3, x4, x5⟩ := hr5
      refine And.intro rfl ?_
      refine And.intro (And.intro (And.intro (And.intro (rfl) (And.intro (rfl) (And.intro (rfl) (And.intro (rfl) (rfl))))) (And.intro (rfl) (And.intro (rfl) (trivial)))) (And.intro (And.intro (And.intro (And.intro (rfl) (And.intro (rfl) (And.intro (And.intro (rfl) (And.intro (rfl) (rfl))) (trivial)))) (trivial)) (rfl)) (And.intro (rfl) (And.intro (rfl) (And.intro (rfl) (And.intro (rfl) (And.intro (And.intro (by omega) (And.intro (by omega) (And.intro (by omega) (by omega)))) (And.intro (Eq.mpr (β := 77 ≤ 1099511627776) (by kernel_rfl) (by omega)) (Eq.mpr (β := 8 ≤ 8) (by kernel_rfl) (by omega)))))))))) ?_
      intro r6 hr6
      replace hr6 : ApR.fits r6 (41 + 4 + (32 - 0) + Int.toNat 8) (List.take (41 + 4 + (32 - 0)) (List.drop r5.off r5.L) ++ putL f.turn (Int.toNat 8) (Int.toNat 8)) := Eq.mp (by kernel_rfl) hr6
      refine ⟨r6, [1, 1041], rfl, rfl, ?_, ?_, ?_, trivial⟩
      · refine Eq.mpr (β := (g.b = g.b ∧ g.off = g.off ∧ min g.n 4096 = min g.n 4096 ∧ g.c = g.c ∧ g.z = g.z) ∧ ({ o := r6.b, ro := false : Blk } = { o := r6.b, ro := false : Blk } ∧ r6.off = r6.off ∧ 41 + 4 + (32 - 0) + Int.toNat 8 = 85 ∧ r6.cap = r6.cap ∧ r6.z = r6.z) ∧ True) (by kernel_rfl) (And.intro (And.intro (rfl) (And.intro (rfl) (And.intro (rfl) (And.intro (rfl) (rfl))))) (And.intro (And.intro (rfl) (And.intro (rfl) (And.intro (by omega) (And.intro (rfl) (rfl))))) (trivial)))
      · refine Eq.mpr (β := (g.b = g.b ∧ g.y = g.y ∧ (IntKind.u8 = IntKind.u8 ∧ g.m = g.m ∧ g.B = g.B) ∧ True) ∧ ({ o := r6.b, ro := false : Blk } = { o := r6.b, ro := false : Blk } ∧ r6.y = r6.y ∧ (IntKind.u8 = IntKind.u8 ∧ r6.m = r6.m ∧ r6.L = r6.L) ∧ True) ∧ True) (by kernel_rfl) (And.intro (And.intro (rfl) (And.intro (rfl) (And.intro (And.intro (rfl) (And.intro (rfl) (rfl))) (trivial)))) (And.intro (And.intro (rfl) (And.intro (rfl) (And.intro (And.intro (rfl) (And.intro (rfl) (rfl))) (trivial)))) (trivial)))
      refine fits_of hr6 rfl ?_
      rw [← hS]
      exact chain21 l1 b5 c5 d5 e5 x5
    · refine And.intro rfl ?_
      refine And.intro (And.intro (And.intro (And.intro (rfl) (And.intro (rfl) (And.intro (by omega) (And.intro (by omega) (by omega))))) (And.intro (rfl) (And.intro (Eq.mpr (β := 32 ≤ 32) (by kernel_rfl) (by omega)) (by omega)))) (by omega)) ?_
      intro r5 hr5
      replace hr5 : ApR.fits r5 (41 + 4 + (32 - 0)) (List.take (41 + 4) (List.drop r4.off r4.L) ++ List.take (32 - 0) (List.drop 0 (List.take 0 (List.replicate 32 0) ++ sumL (GS.l { b := g.b, off := g.off, n := min g.n 4096, c := g.c, z := g.z, m := g.m, y := g.y, B := g.B : GS }) (min g.n 4096) ++ List.drop 32 (List.replicate 32 0)))) := Eq.mp (by kernel_rfl) hr5
      obtain ⟨x1, x2, x3, x4, x5⟩ := hr5
      refine And.intro (And.intro (And.intro (And.intro (rfl) (And.intro (rfl) (And.intro (rfl) (And.intro (rfl) (rfl))))) (And.intro (rfl) (And.intro (rfl) (trivial)))) (And.intro (And.intro (And.intro (And.intro (rfl) (And.intro (rfl) (And.intro (And.intro (rfl) (And.intro (rfl) (rfl))) (trivial)))) (trivial)) (rfl)) (And.intro (rfl) (And.intro (rfl) (And.intro (rfl) (And.intro (rfl) (And.intro (And.intro (by omega) (And.intro (by omega) (And.intro (by omega) (by omega)))) (And.intro (Eq.mpr (β := 77 ≤ 1099511627776) (by kernel_rfl) (by omega)) (Eq.mpr (β := 8 ≤ 8) (by kernel_rfl) (by omega)))))))))) ?_
      intro r6 hr6
      replace hr6 : ApR.fits r6 (41 + 4 + (32 - 0) + Int.toNat 8) (List.take (41 + 4 + (32 - 0)) (List.drop r5.off r5.L) ++ putL f.turn (Int.toNat 8) (Int.toNat 8)) := Eq.mp (by kernel_rfl) hr6
      refine ⟨r6, [1, 1041], rfl, rfl, ?_, ?_, ?_, trivial⟩
      · refine Eq.mpr (β := (g.b = g.b ∧ g.off = g.off ∧ min g.n 4096 = min g.n 4096 ∧ g.c = g.c ∧ g.z = g.z) ∧ ({ o := r6.b, ro := false : Blk } = { o := r6.b, ro := false : Blk } ∧ r6.off = r6.off ∧ 41 + 4 + (32 - 0) + Int.toNat 8 = 85 ∧ r6.cap = r6.cap ∧ r6.z = r6.z) ∧ True) (by kernel_rfl) (And.intro (And.intro (rfl) (And.intro (rfl) (And.intro (rfl) (And.intro (rfl) (rfl))))) (And.intro (And.intro (rfl) (And.intro (rfl) (And.intro (by omega) (And.intro (rfl) (rfl))))) (trivial)))
      · refine Eq.mpr (β := (g.b = g.b ∧ g.y = g.y ∧ (IntKind.u8 = IntKind.u8 ∧ g.m = g.m ∧ g.B = g.B) ∧ True) ∧ ({ o := r6.b, ro := false : Blk } = { o := r6.b, ro := false : Blk } ∧ r6.y = r6.y ∧ (IntKind.u8 = IntKind.u8 ∧ r6.m = r6.m ∧ r6.L = r6.L) ∧ True) ∧ True) (by kernel_rfl) (And.intro (And.intro (rfl) (And.intro (rfl) (And.intro (And.intro (rfl) (And.intro (rfl) (rfl))) (trivial)))) (And.intro (And.intro (rfl) (And.intro (rfl) (And.intro (And.intro (rfl) (And.intro (rfl) (rfl))) (trivial)))) (trivial)))
      refine fits_of hr6 rfl ?_
      rw [← hS]
      exact chain21 l1 b5 c5 d5 e5 x5
  intro (r : ApR) hr
  obtain ⟨b1, b2', b3, b4, b5⟩ := hr
  have b1 : r.off + r.cap ≤ r.m := b1
  have b2' : 85 ≤ r.cap := b2'
  have b3 : r.z = 0 ∨ r.cap = 0 := b3
  have b4 : r.L.length = r.m := b4
  refine And.intro (And.intro (And.intro (And.intro (rfl) (And.intro (rfl) (And.intro (rfl) (And.intro (rfl) (rfl))))) (trivial)) (And.intro (And.intro (And.intro (And.intro (rfl) (And.intro (rfl) (And.intro (And.intro (rfl) (And.intro (rfl) (rfl))) (trivial)))) (trivial)) (rfl)) (And.intro (rfl) (And.intro (rfl) (And.intro (rfl) (And.intro (rfl) (And.intro (And.intro (by omega) (And.intro (by omega) (And.intro (by omega) (by omega)))) (Eq.mpr (β := 85 ≤ 1099511627776) (by kernel_rfl) (by omega))))))))) (fun (_ : Unit) _ => ?_)
  refine And.intro (And.intro (And.intro (And.intro (rfl) (And.intro (rfl) (And.intro (rfl) (And.intro (rfl) (rfl))))) (And.intro (rfl) (And.intro (rfl) (trivial)))) (And.intro (And.intro (And.intro (And.intro (rfl) (And.intro (rfl) (And.intro (And.intro (rfl) (And.intro (rfl) (rfl))) (trivial)))) (trivial)) (rfl)) (And.intro (rfl) (And.intro (rfl) (And.intro (rfl) (And.intro (rfl) (And.intro (And.intro (by omega) (And.intro (by omega) (And.intro (by omega) (by omega)))) (And.intro (Eq.mpr (β := 85 ≤ 1099511627776) (by kernel_rfl) (by omega)) (Eq.mpr (β := 4 ≤ 8) (by kernel_rfl) (by omega)))))))))) ?_
  intro r2 hr2
  replace hr2 : ApR.fits r2 (85 + Int.toNat 4) (List.take 85 (List.drop r.off r.L) ++ putL (IntKind.wrap IntKind.u64 (crc (GS.l { b := { o := r.b, ro := false : Blk }, off := r.off, n := 85, c := r.cap, z := r.z, m := r.m, y := r.y, B := r.L : GS }) 85)) (Int.toNat 4) (Int.toNat 4)) := Eq.mp (by kernel_rfl) hr2
  obtain ⟨c1, c2, c3, c4, c5⟩ := hr2
  refine And.intro (And.intro (And.intro (And.intro (rfl) (And.intro (rfl) (And.intro (by omega) (And.intro (by omega) (by omega))))) (And.intro (rfl) (And.intro (by omega) (by omega)))) (Eq.mpr (β := (85 + 4 + min g.n 4096) * 1 ≤ 70368744177664) (by kernel_rfl) (by omega))) ?_
  intro r3 hr3
  replace hr3 : ApR.fits r3 (85 + Int.toNat 4 + min g.n 4096) (List.take (85 + Int.toNat 4) (List.drop r2.off r2.L) ++ List.take (min g.n 4096) (List.drop g.off g.B)) := Eq.mp (by kernel_rfl) hr3
  skip
  refine ⟨r3, [1049, 1], ?_, rfl, rfl, ?_, ?_⟩
  · refine Eq.mpr (β := { o := r3.b, ro := false : Blk } = { o := r3.b, ro := false : Blk } ∧ r3.off = r3.off ∧ 85 + Int.toNat 4 + min g.n 4096 = 89 + min g.n 4096 ∧ r3.cap = r3.cap ∧ r3.z = r3.z) (by kernel_rfl) (And.intro (rfl) (And.intro (rfl) (And.intro (by omega) (And.intro (rfl) (rfl)))))
  · refine Eq.mpr (β := ({ o := r3.b, ro := false : Blk } = { o := r3.b, ro := false : Blk } ∧ r3.y = r3.y ∧ (IntKind.u8 = IntKind.u8 ∧ r3.m = r3.m ∧ r3.L = r3.L) ∧ True) ∧ (g.b = g.b ∧ g.y = g.y ∧ (IntKind.u8 = IntKind.u8 ∧ g.m = g.m ∧ g.B = g.B) ∧ True) ∧ True) (by kernel_rfl) (And.intro (And.intro (rfl) (And.intro (rfl) (And.intro (And.intro (rfl) (And.intro (rfl) (rfl))) (trivial)))) (And.intro (And.intro (rfl) (And.intro (rfl) (And.intro (And.intro (rfl) (And.intro (rfl) (rfl))) (trivial)))) (trivial)))
  · refine fits_of hr3 rfl ?_
    show List.take 89 (List.drop r2.off r2.L) ++ (GS.mk g.b g.off (min g.n 4096) g.c g.z g.m g.y g.B).l = frL f (g.l.take 4096) (min g.n 4096)
    have c5' : List.take 89 (List.drop r2.off r2.L) = List.take 85 (List.drop r.off r.L) ++ putL (IntKind.u64.wrap (crc (List.take 85 (List.drop r.off r.L)) 85)) 4 4 := c5
    have b5' : List.take 85 (List.drop r.off r.L) = frHead f (g.l.take 4096) (min g.n 4096) := b5
    rw [c5', b5', hS]
    unfold frL
    simp

end Go.Proofs.Ytpggklkofilmfaa
