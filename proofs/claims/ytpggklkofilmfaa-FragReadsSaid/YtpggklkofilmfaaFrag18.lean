/- The law of cuts. -/
import Derived.Test.YtpggklkofilmfaaFrag17
import Derived.Test.YtpggklkofilmfaaAbLem
set_option linter.unusedSimpArgs false
set_option linter.unusedVariables false
namespace Go.Proofs.Ytpggklkofilmfaa
open Go Go.Ab
set_option maxRecDepth 100000

def FV.ok (f : FV) : Prop := (f.key.length = 32 ∧ f.sum.length = 32) ∧ inU8 f.key ∧ inU8 f.sum ∧ (0 ≤ f.turn ∧ f.turn < 18446744073709551616) ∧ -9223372036854775808 ≤ f.part ∧ f.part ≤ 9223372036854775807
noncomputable def conW : FuncId → Option Con
  | 18 => some spKnown.con
  | 19 => some spFrag.con
  | 21 => some spFrag.con
  | 22 => some spOpenF.con
  | 23 => some spOpenF.con
  | 24 => some spSame.con
  | 20 => some spBytes.con
  | 25 => some spPlace.con
  | _ => none
noncomputable def cxLw (n : Nat) : Cx := ⟨tab, conW, n, true⟩
theorem cxLw_ok (n : Nat) : CxOk Try.prog (cxLw n) := ⟨tab_ok, fun f c h => by
  unfold cxLw conW at h
  dsimp only at h
  split at h
  · cases h; exact conOk_of_spec fn18
  · cases h; exact conOk_of_spec fn19
  · cases h; exact conOk_of_spec fn21
  · cases h; exact conOk_of_spec fn22
  · cases h; exact conOk_of_spec fn23
  · cases h; exact conOk_of_spec fn24
  · cases h; exact conOk_of_spec fn20
  · cases h; exact conOk_of_spec fn25
  · cases h⟩
theorem cut_bad {f : FV} {l : List Int} {n k : Nat} (hk : f.key.length = 32) (ht : 0 ≤ f.turn ∧ f.turn < 18446744073709551616) (hl : l.length = n) (hn : n ≤ 4096) (hc : k < 89 + n) : badF ((frL f l n).take k) := by
  have hlen := frL_len hk hl
  by_cases h : k < 89
  · left
    rw [List.length_take]
    omega
  · have hh := open_frL hk ht hl hn []
    rw [List.append_nil] at hh
    have hsz : sizeF ((frL f l n).take k) = sizeF (frL f l n) := by
      unfold sizeF numB
      rw [List.drop_take, List.take_take, Nat.min_eq_left (by omega)]
    have hs2 : sizeF (frL f l n) = n := hh.2.2.2
    refine .inr (.inr (.inr (.inr (.inr (.inl ?_)))))
    rw [hsz, hs2, List.length_take, hlen]
    omega
def spCuts : FSpec where
  G := FV × GS × Int
  args g := [.agg g.1.cels, g.2.1.arg 1, .int .i64 g.2.2]
  hp g := [g.2.1.ent 1 .u8]
  pre g := g.1.ok ∧ ((g.2.1.off + g.2.1.c ≤ g.2.1.m ∧ g.2.1.n ≤ g.2.1.c ∧ (g.2.1.z = 0 ∨ g.2.1.c = 0) ∧ g.2.1.B.length = g.2.1.m) ∧ inU8 g.2.1.l)
  R _ := Unit
  post _ _ := True
  res _ _ := .bool true
  new _ _ := []
  upd _ _ := []
  news := []
  wr := false
  mt _ _ := none
def nt12 : Notes := ⟨fun _ => none, fun _ => none, fun _ => none, [0, 1, 2, 3, 6, 7, 10, 12, 15, 21]⟩
set_option maxHeartbeats 8000000 in
theorem fn12 : FnOk Try.prog 12 spCuts := by
  refine fnOk_of_vc (cxLw_ok 35) wide (nt := fun _ => nt12) Try.func12 rfl rfl (by kernel_rfl) (fuel := 1000) (fun _ => Nat.le_of_ble_eq_true rfl) (fun _ _ t h => h) (fun h => by cases h) ?_
  rintro ⟨f, g, a⟩ ⟨⟨⟨l1, l2⟩, hfk, hfs, hft, hfp⟩, ⟨g1, g2, g3, g4⟩, hU⟩
  have g1 : g.off + g.c ≤ g.m := g1
  have g2 : g.n ≤ g.c := g2
  have g3 : g.z = 0 ∨ g.c = 0 := g3
  have g4 : g.B.length = g.m := g4
  have hU : inU8 g.l := hU
  have hll : g.l.length = g.n := by unfold GS.l; simp; omega
  intro b3 _
  refine And.intro (And.intro (trivial) (And.intro (And.intro (trivial) (rfl)) (And.intro (rfl) (And.intro (rfl) (And.intro (rfl) (And.intro (rfl) (trivial))))))) (fun (_ : Unit) _ => ?_)
  refine And.intro (fun h => by cases h) (fun _ => ?_)
  refine stE ([(12, SV.bool !true), (6, SV.bool false), (3, SV.c (Cel.ptr 1003 b3 0)), (0, SV.agg [Cel.ints .u8 32 f.key, Cel.v (Value.int .i64 f.part), Cel.v (Value.bool f.last), Cel.v (Value.int .i64 f.size), Cel.ints .u8 32 f.sum, Cel.v (Value.int .u64 f.turn)]), (1, SV.c (Cel.sl 1 g.b g.off g.n g.c g.z)), (2, SV.int .i64 a)]) ([(1, g.b, Cont.cells g.y [Cel.ints .u8 g.m g.B]), (1003, b3, Cont.cells 36 [Cel.ints .u8 32 f.key, Cel.v (Value.int .i64 f.part), Cel.v (Value.bool f.last), Cel.v (Value.int .i64 f.size), Cel.ints .u8 32 f.sum, Cel.v (Value.int .u64 f.turn)])]) (by kernel_rfl) (by kernel_rfl) ?_
  refine ⟨fun h => ?_, fun h => ?_⟩
  · skip
    refine ⟨(), [1], ?_, rfl, rfl, ?_, trivial⟩
    · exact boolE rfl
    · refine Eq.mpr (β := (g.b = g.b ∧ g.y = g.y ∧ (IntKind.u8 = IntKind.u8 ∧ g.m = g.m ∧ g.B = g.B) ∧ True) ∧ True) (by kernel_rfl) (And.intro (And.intro (rfl) (And.intro (rfl) (And.intro (And.intro (rfl) (And.intro (rfl) (rfl))) (trivial)))) (trivial))
  have h : ¬ (500 : Int) < (g.n : Int) := of_decide_eq_false h
  refine And.intro rfl ?_
  refine And.intro (And.intro (And.intro (And.intro (And.intro (rfl) (And.intro (rfl) (rfl))) (And.intro (rfl) (And.intro (rfl) (And.intro (rfl) (And.intro (And.intro (rfl) (And.intro (rfl) (rfl))) (And.intro (rfl) (trivial))))))) (And.intro (And.intro (rfl) (And.intro (rfl) (And.intro (rfl) (And.intro (rfl) (rfl))))) (trivial))) (And.intro (And.intro (And.intro (And.intro (rfl) (And.intro (rfl) (And.intro (And.intro (rfl) (And.intro (rfl) (rfl))) (trivial)))) (trivial)) (rfl)) (And.intro (rfl) (And.intro (rfl) (And.intro (rfl) (And.intro (rfl) (And.intro (And.intro (Eq.mpr (β := List.length (List.drop 0 f.key) = 32) (by kernel_rfl) (by simp only [List.length_drop, l1, l2] <;> omega)) (Eq.mpr (β := List.length (List.drop 0 f.sum) = 32) (by kernel_rfl) (by simp only [List.length_drop, l1, l2] <;> omega))) (And.intro (And.intro (by omega) (And.intro (by omega) (And.intro (by omega) (by omega)))) (Eq.mpr (β := g.n ≤ 1099511627776) (by kernel_rfl) (by omega)))))))))) ?_
  intro r hr
  replace hr : ApR.fits r (89 + min g.n 4096) (frL { key := List.drop 0 f.key, part := f.part, last := f.last, size := f.size, sum := List.drop 0 f.sum, turn := f.turn : FV } (List.take 4096 (GS.l { b := g.b, off := g.off, n := g.n, c := g.c, z := g.z, m := g.m, y := g.y, B := g.B : GS })) (min g.n 4096)) := Eq.mp (by kernel_rfl) hr
  obtain ⟨r1, r2, r3, r4, r5⟩ := hr
  have r1 : r.off + r.cap ≤ r.m := r1
  have r2 : 89 + min g.n 4096 ≤ r.cap := r2
  have r3 : r.z = 0 ∨ r.cap = 0 := r3
  have r4 : r.L.length = r.m := r4
  have r5 : (r.L.drop r.off).take (89 + min g.n 4096) = frL f (g.l.take 4096) (min g.n 4096) := r5
  rw [List.take_of_length_le (show g.l.length ≤ 4096 by omega), Nat.min_eq_left (show g.n ≤ 4096 by omega)] at r5
  have hrU : inU8 (frL f g.l g.n) := frL_inU8 hfk hU _
  skip
  refine ⟨fun hp => absurd (of_decide_eq_true hp) (by omega), fun _ => ?_⟩
  have hpl := placeI_range (x := a) (n := ((89 + min g.n 4096 : Nat) : Int)) (by omega)
  refine And.intro (And.intro (And.intro (rfl) (And.intro (rfl) (trivial))) (And.intro (And.intro (trivial) (rfl)) (And.intro (rfl) (And.intro (rfl) (And.intro (rfl) (And.intro (rfl) (And.intro (by omega) (by omega)))))))) (fun (_ : Unit) _ => ?_)
  refine And.intro (Eq.mpr (β := 0 ≤ placeI a (↑(89 + min g.n 4096) : Int) ∧ placeI a (↑(89 + min g.n 4096) : Int) ≤ (↑r.cap : Int)) (by kernel_rfl) (by omega)) ?_
  refine stE ([(28, SV.c (Cel.sl 1018 r.b r.off (Int.toNat (placeI a (↑(89 + min g.n 4096) : Int)) - 0) (r.cap - 0) r.z)), (27, SV.int .i64 (placeI a (↑(89 + min g.n 4096) : Int))), (26, SV.int .i64 (↑(89 + min g.n 4096) : Int)), (25, SV.c (Cel.sl 1018 r.b r.off (89 + min g.n 4096) r.cap r.z)), (24, SV.int .i64 a), (23, SV.c (Cel.sl 1018 r.b r.off (89 + min g.n 4096) r.cap r.z)), (21, SV.bool (decide ((↑(89 + min g.n 4096) : Int) = 0))), (7, SV.c (Cel.sl 1018 r.b r.off (89 + min g.n 4096) r.cap r.z)), (15, SV.bool (decide (500 < (↑g.n : Int)))), (12, SV.bool !true), (6, SV.bool false), (3, SV.c (Cel.ptr 1003 b3 0)), (0, SV.agg [Cel.ints .u8 32 f.key, Cel.v (Value.int .i64 f.part), Cel.v (Value.bool f.last), Cel.v (Value.int .i64 f.size), Cel.ints .u8 32 f.sum, Cel.v (Value.int .u64 f.turn)]), (1, SV.c (Cel.sl 1 g.b g.off g.n g.c g.z)), (2, SV.int .i64 a)]) ([(1, g.b, Cont.cells g.y [Cel.ints .u8 g.m g.B]), (1003, b3, Cont.cells 36 [Cel.ints .u8 32 f.key, Cel.v (Value.int .i64 f.part), Cel.v (Value.bool f.last), Cel.v (Value.int .i64 f.size), Cel.ints .u8 32 f.sum, Cel.v (Value.int .u64 f.turn)]), (1018, r.b, Cont.cells r.y [Cel.ints .u8 r.m r.L])]) (by kernel_rfl) (by kernel_rfl) ?_
  have hX : (r.L.drop r.off).take ((placeI a ((89 + min g.n 4096 : Nat) : Int)).toNat - 0) = (frL f g.l g.n).take ((placeI a ((89 + min g.n 4096 : Nat) : Int)).toNat) := by
    have e : min g.n 4096 = g.n := by omega
    rw [e] at hpl ⊢
    rw [← r5, List.take_take, Nat.sub_zero]
    congr 1
    omega
  refine And.intro ?_ (fun (q : ApR) hq => ?_)
  · refine And.intro (And.intro (And.intro (rfl) (And.intro (rfl) (And.intro (rfl) (And.intro (rfl) (rfl))))) (trivial)) (And.intro (And.intro (And.intro (And.intro (rfl) (And.intro (rfl) (And.intro (And.intro (rfl) (And.intro (rfl) (rfl))) (trivial)))) (trivial)) (rfl)) (And.intro (rfl) (And.intro (rfl) (And.intro (rfl) (And.intro (rfl) (And.intro (And.intro (And.intro (?_) (And.intro (?_) (And.intro (?_) (?_)))) (?_)) (?_)))))))
    · exact r1
    · show (placeI a ((89 + min g.n 4096 : Nat) : Int)).toNat - 0 ≤ r.cap - 0
      omega
    · exact r3
    · exact r4
    · show (placeI a ((89 + min g.n 4096 : Nat) : Int)).toNat - 0 ≤ 1099511627776
      omega
    · show inU8 ((r.L.drop r.off).take ((placeI a ((89 + min g.n 4096 : Nat) : Int)).toNat - 0))
      rw [hX]
      exact inU8_take hrU _
  have hbad : badF (GS.mk r.b r.off ((placeI a ((89 + min g.n 4096 : Nat) : Int)).toNat - 0) (r.cap - 0) r.z r.m r.y r.L).l := by
    show badF ((r.L.drop r.off).take ((placeI a ((89 + min g.n 4096 : Nat) : Int)).toNat - 0))
    rw [hX]
    exact cut_bad l1 hft hll (by omega) (by omega)
  have he := (bad_res hbad).2.2
  intro b8 _
  refine And.intro (And.intro (rfl) (rfl)) ?_
  refine stE ([(8, SV.c (Cel.ptr 1008 b8 0)), (32, SV.int .i64 (errF (GS.l ⟨r.b, r.off, Int.toNat (placeI a (↑(89 + min g.n 4096) : Int)) - 0, r.cap - 0, r.z, r.m, r.y, r.L⟩))), (31, SV.c (Cel.sl 1029 q.b q.off (List.length (payF (GS.l ⟨r.b, r.off, Int.toNat (placeI a (↑(89 + min g.n 4096) : Int)) - 0, r.cap - 0, r.z, r.m, r.y, r.L⟩))) q.cap q.z)), (30, SV.agg [Cel.ints .u8 32 (openF (GS.l ⟨r.b, r.off, Int.toNat (placeI a (↑(89 + min g.n 4096) : Int)) - 0, r.cap - 0, r.z, r.m, r.y, r.L⟩)).key, Cel.v (Value.int .i64 (openF (GS.l ⟨r.b, r.off, Int.toNat (placeI a (↑(89 + min g.n 4096) : Int)) - 0, r.cap - 0, r.z, r.m, r.y, r.L⟩)).part), Cel.v (Value.bool (openF (GS.l ⟨r.b, r.off, Int.toNat (placeI a (↑(89 + min g.n 4096) : Int)) - 0, r.cap - 0, r.z, r.m, r.y, r.L⟩)).last), Cel.v (Value.int .i64 (openF (GS.l ⟨r.b, r.off, Int.toNat (placeI a (↑(89 + min g.n 4096) : Int)) - 0, r.cap - 0, r.z, r.m, r.y, r.L⟩)).size), Cel.ints .u8 32 (openF (GS.l ⟨r.b, r.off, Int.toNat (placeI a (↑(89 + min g.n 4096) : Int)) - 0, r.cap - 0, r.z, r.m, r.y, r.L⟩)).sum, Cel.v (Value.int .u64 (openF (GS.l ⟨r.b, r.off, Int.toNat (placeI a (↑(89 + min g.n 4096) : Int)) - 0, r.cap - 0, r.z, r.m, r.y, r.L⟩)).turn)]), (22, SV.tup [SA.agg [Cel.ints .u8 32 (openF (GS.l ⟨r.b, r.off, Int.toNat (placeI a (↑(89 + min g.n 4096) : Int)) - 0, r.cap - 0, r.z, r.m, r.y, r.L⟩)).key, Cel.v (Value.int .i64 (openF (GS.l ⟨r.b, r.off, Int.toNat (placeI a (↑(89 + min g.n 4096) : Int)) - 0, r.cap - 0, r.z, r.m, r.y, r.L⟩)).part), Cel.v (Value.bool (openF (GS.l ⟨r.b, r.off, Int.toNat (placeI a (↑(89 + min g.n 4096) : Int)) - 0, r.cap - 0, r.z, r.m, r.y, r.L⟩)).last), Cel.v (Value.int .i64 (openF (GS.l ⟨r.b, r.off, Int.toNat (placeI a (↑(89 + min g.n 4096) : Int)) - 0, r.cap - 0, r.z, r.m, r.y, r.L⟩)).size), Cel.ints .u8 32 (openF (GS.l ⟨r.b, r.off, Int.toNat (placeI a (↑(89 + min g.n 4096) : Int)) - 0, r.cap - 0, r.z, r.m, r.y, r.L⟩)).sum, Cel.v (Value.int .u64 (openF (GS.l ⟨r.b, r.off, Int.toNat (placeI a (↑(89 + min g.n 4096) : Int)) - 0, r.cap - 0, r.z, r.m, r.y, r.L⟩)).turn)], SA.c (Cel.sl 1029 q.b q.off (List.length (payF (GS.l ⟨r.b, r.off, Int.toNat (placeI a (↑(89 + min g.n 4096) : Int)) - 0, r.cap - 0, r.z, r.m, r.y, r.L⟩))) q.cap q.z), SA.c (Cel.v (Value.int .i64 (errF (GS.l ⟨r.b, r.off, Int.toNat (placeI a (↑(89 + min g.n 4096) : Int)) - 0, r.cap - 0, r.z, r.m, r.y, r.L⟩))))]), (29, SV.tup [SA.agg [Cel.ints .u8 32 (openF (GS.l ⟨r.b, r.off, Int.toNat (placeI a (↑(89 + min g.n 4096) : Int)) - 0, r.cap - 0, r.z, r.m, r.y, r.L⟩)).key, Cel.v (Value.int .i64 (openF (GS.l ⟨r.b, r.off, Int.toNat (placeI a (↑(89 + min g.n 4096) : Int)) - 0, r.cap - 0, r.z, r.m, r.y, r.L⟩)).part), Cel.v (Value.bool (openF (GS.l ⟨r.b, r.off, Int.toNat (placeI a (↑(89 + min g.n 4096) : Int)) - 0, r.cap - 0, r.z, r.m, r.y, r.L⟩)).last), Cel.v (Value.int .i64 (openF (GS.l ⟨r.b, r.off, Int.toNat (placeI a (↑(89 + min g.n 4096) : Int)) - 0, r.cap - 0, r.z, r.m, r.y, r.L⟩)).size), Cel.ints .u8 32 (openF (GS.l ⟨r.b, r.off, Int.toNat (placeI a (↑(89 + min g.n 4096) : Int)) - 0, r.cap - 0, r.z, r.m, r.y, r.L⟩)).sum, Cel.v (Value.int .u64 (openF (GS.l ⟨r.b, r.off, Int.toNat (placeI a (↑(89 + min g.n 4096) : Int)) - 0, r.cap - 0, r.z, r.m, r.y, r.L⟩)).turn)], SA.c (Cel.sl 1029 q.b q.off (List.length (payF (GS.l ⟨r.b, r.off, Int.toNat (placeI a (↑(89 + min g.n 4096) : Int)) - 0, r.cap - 0, r.z, r.m, r.y, r.L⟩))) q.cap q.z), SA.c (Cel.v (Value.int .i64 (errF (GS.l ⟨r.b, r.off, Int.toNat (placeI a (↑(89 + min g.n 4096) : Int)) - 0, r.cap - 0, r.z, r.m, r.y, r.L⟩))))]), (28, SV.c (Cel.sl 1018 r.b r.off (Int.toNat (placeI a (↑(89 + min g.n 4096) : Int)) - 0) (r.cap - 0) r.z)), (27, SV.int .i64 (placeI a (↑(89 + min g.n 4096) : Int))), (26, SV.int .i64 (↑(89 + min g.n 4096) : Int)), (25, SV.c (Cel.sl 1018 r.b r.off (89 + min g.n 4096) r.cap r.z)), (24, SV.int .i64 a), (23, SV.c (Cel.sl 1018 r.b r.off (89 + min g.n 4096) r.cap r.z)), (21, SV.bool (decide ((↑(89 + min g.n 4096) : Int) = 0))), (7, SV.c (Cel.sl 1018 r.b r.off (89 + min g.n 4096) r.cap r.z)), (15, SV.bool (decide (500 < (↑g.n : Int)))), (12, SV.bool !true), (6, SV.bool false), (3, SV.c (Cel.ptr 1003 b3 0)), (0, SV.agg [Cel.ints .u8 32 f.key, Cel.v (Value.int .i64 f.part), Cel.v (Value.bool f.last), Cel.v (Value.int .i64 f.size), Cel.ints .u8 32 f.sum, Cel.v (Value.int .u64 f.turn)]), (1, SV.c (Cel.sl 1 g.b g.off g.n g.c g.z)), (2, SV.int .i64 a)]) ([(1, g.b, Cont.cells g.y [Cel.ints .u8 g.m g.B]), (1003, b3, Cont.cells 36 [Cel.ints .u8 32 f.key, Cel.v (Value.int .i64 f.part), Cel.v (Value.bool f.last), Cel.v (Value.int .i64 f.size), Cel.ints .u8 32 f.sum, Cel.v (Value.int .u64 f.turn)]), (1018, r.b, Cont.cells r.y [Cel.ints .u8 r.m r.L]), (1029, q.b, Cont.cells q.y [Cel.ints .u8 q.m q.L]), (1008, b8, Cont.cells 36 ([] ++ ([Cel.ints .u8 32 (openF (GS.l ⟨r.b, r.off, Int.toNat (placeI a (↑(89 + min g.n 4096) : Int)) - 0, r.cap - 0, r.z, r.m, r.y, r.L⟩)).key, Cel.v (Value.int .i64 (openF (GS.l ⟨r.b, r.off, Int.toNat (placeI a (↑(89 + min g.n 4096) : Int)) - 0, r.cap - 0, r.z, r.m, r.y, r.L⟩)).part), Cel.v (Value.bool (openF (GS.l ⟨r.b, r.off, Int.toNat (placeI a (↑(89 + min g.n 4096) : Int)) - 0, r.cap - 0, r.z, r.m, r.y, r.L⟩)).last), Cel.v (Value.int .i64 (openF (GS.l ⟨r.b, r.off, Int.toNat (placeI a (↑(89 + min g.n 4096) : Int)) - 0, r.cap - 0, r.z, r.m, r.y, r.L⟩)).size), Cel.ints .u8 32 (openF (GS.l ⟨r.b, r.off, Int.toNat (placeI a (↑(89 + min g.n 4096) : Int)) - 0, r.cap - 0, r.z, r.m, r.y, r.L⟩)).sum, Cel.v (Value.int .u64 (openF (GS.l ⟨r.b, r.off, Int.toNat (placeI a (↑(89 + min g.n 4096) : Int)) - 0, r.cap - 0, r.z, r.m, r.y, r.L⟩)).turn)] ++ [])))]) (by kernel_rfl) (by kernel_rfl) ?_
  refine ⟨(), [1], ?_, rfl, rfl, ?_, trivial⟩
  · refine boolE (decide_eq_true ?_)
    exact he
  · refine Eq.mpr (β := (g.b = g.b ∧ g.y = g.y ∧ (IntKind.u8 = IntKind.u8 ∧ g.m = g.m ∧ g.B = g.B) ∧ True) ∧ True) (by kernel_rfl) (And.intro (And.intro (rfl) (And.intro (rfl) (And.intro (And.intro (rfl) (And.intro (rfl) (rfl))) (trivial)))) (trivial))

end Go.Proofs.Ytpggklkofilmfaa
