/- Fragments, read by the reference. -/
import Derived.Test.YtpggklkofilmfaaFrag13
import Derived.Test.YtpggklkofilmfaaAbLem
set_option linter.unusedSimpArgs false
set_option linter.unusedVariables false
namespace Go.Proofs.Ytpggklkofilmfaa
open Go Go.Ab
set_option maxRecDepth 100000

noncomputable def con23 : FuncId → Option Con
  | 41 => some spCrcF.con
  | 44 => some spGet.con
  | 15 => some spSumF.con
  | _ => none
noncomputable def cx23 : Cx := ⟨tab, con23, 82, true⟩
theorem cx23_ok : CxOk Try.prog cx23 := ⟨tab_ok, fun f c h => by
  unfold cx23 con23 at h
  dsimp only at h
  split at h
  · cases h; exact conOk_of_spec fn41F
  · cases h; exact conOk_of_spec fn44
  · cases h; exact conOk_of_spec fn15F
  · cases h⟩
def nt23 : Notes := ⟨fun
  | 1 => some (seqOf [0, 1, 2, 3, 4, 5, 6, 7, 8, 9, 10, 11, 14, 15, 12, 13, 16, 17, 18, 19, 20, 21, 22, 23, 24])
  | 7 => some (seqOf [0, 2, 3, 4, 5, 1, 6])
  | 9 => some (seqOf [0, 1, 2, 3, 4, 5, 8, 9, 10, 11, 12, 13, 14, 15, 16, 17, 18, 21, 6, 7, 19, 20, 22, 23, 24])
  | _ => none, fun | 4 => some none | _ => none, fun _ => none, [0, 2, 3, 4, 5, 6, 31, 45, 58]⟩
def inv23 (g : GS) (b2 : BlkO) : Inv where
  G := Unit
  pre _ := True
  sl _ := [(0, g.arg 0), (2, .c (.ptr 2 b2 0)), (5, .int .i64 (sizeF g.l))]
  hp _ := [g.ent 0 .u8, (2, b2, .cells 36 FV.zero.cels)]
  mu _ := 0
set_option maxHeartbeats 16000000 in
theorem fn23 : FnOk Try.prog 23 spOpenF := by
  refine fnOk_of_vc cx23_ok wide (nt := fun _ => nt23) Try.func23 rfl rfl (by kernel_rfl) (fuel := 1000) (fun _ => Nat.le_of_ble_eq_true rfl) (fun _ _ t h => h) (fun h => by cases h) ?_
  intro (g : GS) hpre
  obtain ⟨⟨⟨g1, g2, g3, g4⟩, hn⟩, hU⟩ := hpre
  have hll : g.l.length = g.n := by unfold GS.l; simp; omega
  have hsz := sizeF_range hU
  intro b2 _
  refine And.intro (by kernel_rfl) ?_
  refine stE ([(4, SV.int .i64 0), (3, SV.c (Cel.v (Value.slice none 0 0))), (2, SV.c (Cel.ptr 1002 b2 0)), (0, SV.c (Cel.sl 0 g.b g.off g.n g.c g.z))]) ([(0, g.b, Cont.cells g.y [Cel.ints .u8 g.m g.B]), (1002, b2, Cont.cells 36 [Cel.ints .u8 32 (List.replicate 32 0), Cel.v (Value.int .i64 0), Cel.v (Value.bool false), Cel.v (Value.int .i64 0), Cel.ints .u8 32 (List.replicate 32 0), Cel.v (Value.int .u64 0)])]) (by kernel_rfl) (by kernel_rfl) ?_
  refine ⟨fun h0 => ?_, fun h0 => ?_⟩
  rotate_left
  · have hbad : badF g.l := by
      have h0 : (decide ((g.n : Int) < 89)) = true := h0
      have h0 : (g.n : Int) < 89 := of_decide_eq_true h0
      exact .inl (by omega)
    refine ⟨rfl, ?_⟩
    obtain ⟨q1, q2, q3⟩ := bad_res (g := g) hbad
    refine And.intro (fun h => by cases h) (fun _ => And.intro rfl ?_)
    refine And.intro (fun h => by cases h) (fun _ => And.intro rfl ?_)
    refine And.intro (fun h => by cases h) (fun _ => And.intro rfl ?_)
    refine And.intro (fun h => by cases h) (fun _ => And.intro rfl ?_)
    refine stE ([(17, SV.c (Cel.v (Value.tuple { toList := [] : Array Value }))), (16, SV.bool !false), (16, SV.bool true), (15, SV.bool true), (14, SV.c (Cel.v (Value.tuple { toList := [] : Array Value }))), (10, SV.bool !false), (13, SV.c (Cel.v (Value.tuple { toList := [] : Array Value }))), (10, SV.bool !false), (12, SV.c (Cel.v (Value.tuple { toList := [] : Array Value }))), (10, SV.bool !false), (11, SV.c (Cel.v (Value.tuple { toList := [] : Array Value }))), (10, SV.bool !false), (10, SV.bool (decide ((↑g.n : Int) < 89))), (9, SV.bool (decide ((↑g.n : Int) < 89))), (8, SV.int .i64 (↑g.n : Int)), (7, SV.c (Cel.sl 0 g.b g.off g.n g.c g.z)), (4, SV.int .i64 0), (3, SV.c (Cel.v (Value.slice none 0 0))), (2, SV.c (Cel.ptr 1002 b2 0)), (0, SV.c (Cel.sl 0 g.b g.off g.n g.c g.z))]) ([(0, g.b, Cont.cells g.y [Cel.ints .u8 g.m g.B]), (1002, b2, Cont.cells 36 [Cel.ints .u8 32 (List.replicate 32 0), Cel.v (Value.int .i64 0), Cel.v (Value.bool false), Cel.v (Value.int .i64 0), Cel.ints .u8 32 (List.replicate 32 0), Cel.v (Value.int .u64 0)])]) (by kernel_rfl) (by kernel_rfl) ?_
    refine And.intro (fun h => by cases h) (fun _ => And.intro rfl ?_)
    refine And.intro (fun h => by cases h) (fun _ => And.intro rfl ?_)
    refine And.intro (fun h => by cases h) (fun _ => And.intro rfl ?_)
    refine And.intro (fun h => by cases h) (fun _ => And.intro rfl ?_)
    refine stE ([(19, SV.c (Cel.v (Value.tuple { toList := [] : Array Value }))), (16, SV.bool !false), (22, SV.c (Cel.v (Value.tuple { toList := [] : Array Value }))), (16, SV.bool !false), (21, SV.c (Cel.v (Value.tuple { toList := [] : Array Value }))), (16, SV.bool !false), (18, SV.c (Cel.v (Value.tuple { toList := [] : Array Value }))), (16, SV.bool !false), (17, SV.c (Cel.v (Value.tuple { toList := [] : Array Value }))), (16, SV.bool !false), (16, SV.bool true), (15, SV.bool true), (14, SV.c (Cel.v (Value.tuple { toList := [] : Array Value }))), (10, SV.bool !false), (13, SV.c (Cel.v (Value.tuple { toList := [] : Array Value }))), (10, SV.bool !false), (12, SV.c (Cel.v (Value.tuple { toList := [] : Array Value }))), (10, SV.bool !false), (11, SV.c (Cel.v (Value.tuple { toList := [] : Array Value }))), (10, SV.bool !false), (10, SV.bool (decide ((↑g.n : Int) < 89))), (9, SV.bool (decide ((↑g.n : Int) < 89))), (8, SV.int .i64 (↑g.n : Int)), (7, SV.c (Cel.sl 0 g.b g.off g.n g.c g.z)), (4, SV.int .i64 0), (3, SV.c (Cel.v (Value.slice none 0 0))), (2, SV.c (Cel.ptr 1002 b2 0)), (0, SV.c (Cel.sl 0 g.b g.off g.n g.c g.z))]) ([(0, g.b, Cont.cells g.y [Cel.ints .u8 g.m g.B]), (1002, b2, Cont.cells 36 [Cel.ints .u8 32 (List.replicate 32 0), Cel.v (Value.int .i64 0), Cel.v (Value.bool false), Cel.v (Value.int .i64 0), Cel.ints .u8 32 (List.replicate 32 0), Cel.v (Value.int .u64 0)])]) (by kernel_rfl) (by kernel_rfl) ?_
    refine And.intro (fun h => by cases h) (fun _ => And.intro rfl ?_)
    refine And.intro (fun h => by cases h) (fun _ => And.intro rfl ?_)
    refine And.intro (fun h => by cases h) (fun _ => And.intro rfl ?_)
    refine And.intro (fun h => by cases h) (fun _ => And.intro rfl ?_)
    refine stE ([(27, SV.c (Cel.v (Value.tuple { toList := [] : Array Value }))), (26, SV.bool !false), (26, SV.bool true), (25, SV.bool true), (24, SV.c (Cel.v (Value.tuple { toList := [] : Array Value }))), (16, SV.bool !false), (23, SV.c (Cel.v (Value.tuple { toList := [] : Array Value }))), (16, SV.bool !false), (20, SV.c (Cel.v (Value.tuple { toList := [] : Array Value }))), (16, SV.bool !false), (19, SV.c (Cel.v (Value.tuple { toList := [] : Array Value }))), (16, SV.bool !false), (22, SV.c (Cel.v (Value.tuple { toList := [] : Array Value }))), (16, SV.bool !false), (21, SV.c (Cel.v (Value.tuple { toList := [] : Array Value }))), (16, SV.bool !false), (18, SV.c (Cel.v (Value.tuple { toList := [] : Array Value }))), (16, SV.bool !false), (17, SV.c (Cel.v (Value.tuple { toList := [] : Array Value }))), (16, SV.bool !false), (16, SV.bool true), (15, SV.bool true), (14, SV.c (Cel.v (Value.tuple { toList := [] : Array Value }))), (10, SV.bool !false), (13, SV.c (Cel.v (Value.tuple { toList := [] : Array Value }))), (10, SV.bool !false), (12, SV.c (Cel.v (Value.tuple { toList := [] : Array Value }))), (10, SV.bool !false), (11, SV.c (Cel.v (Value.tuple { toList := [] : Array Value }))), (10, SV.bool !false), (10, SV.bool (decide ((↑g.n : Int) < 89))), (9, SV.bool (decide ((↑g.n : Int) < 89))), (8, SV.int .i64 (↑g.n : Int)), (7, SV.c (Cel.sl 0 g.b g.off g.n g.c g.z)), (4, SV.int .i64 0), (3, SV.c (Cel.v (Value.slice none 0 0))), (2, SV.c (Cel.ptr 1002 b2 0)), (0, SV.c (Cel.sl 0 g.b g.off g.n g.c g.z))]) ([(0, g.b, Cont.cells g.y [Cel.ints .u8 g.m g.B]), (1002, b2, Cont.cells 36 [Cel.ints .u8 32 (List.replicate 32 0), Cel.v (Value.int .i64 0), Cel.v (Value.bool false), Cel.v (Value.int .i64 0), Cel.ints .u8 32 (List.replicate 32 0), Cel.v (Value.int .u64 0)])]) (by kernel_rfl) (by kernel_rfl) ?_
    refine And.intro (fun h => by cases h) (fun _ => And.intro rfl ?_)
    refine And.intro (fun h => by cases h) (fun _ => And.intro rfl ?_)
    refine And.intro (fun h => by cases h) (fun _ => And.intro rfl ?_)
    refine And.intro (fun _ => ?_) (fun hp => by cases hp)
    refine stE ([(31, SV.bool true), (4, SV.int .i64 0), (3, SV.c (Cel.v (Value.slice none 0 0))), (2, SV.c (Cel.ptr 1002 b2 0)), (0, SV.c (Cel.sl 0 g.b g.off g.n g.c g.z))]) ([(0, g.b, Cont.cells g.y [Cel.ints .u8 g.m g.B]), (1002, b2, Cont.cells 36 [Cel.ints .u8 32 (List.replicate 32 0), Cel.v (Value.int .i64 0), Cel.v (Value.bool false), Cel.v (Value.int .i64 0), Cel.ints .u8 32 (List.replicate 32 0), Cel.v (Value.int .u64 0)])]) (by kernel_rfl) (by kernel_rfl) ?_
    refine And.intro (And.intro (rfl) (rfl)) ?_
    refine And.intro rfl ?_
    refine ⟨⟨0, 0, 0, 0, 1, 0, []⟩, [99999, 0], ?_, rfl, rfl, ?_, ?_⟩
    · show SV.same _ (.tup [.agg (openF g.l).cels, .c (.sl 100 0 0 (payF g.l).length 0 1), .c (.v (.int .i64 (errF g.l)))])
      rw [q1, q2, q3]
      refine Eq.mpr (β := And (And (And (@Eq IntKind IntKind.u8 IntKind.u8) (And (@Eq Nat (@HSub.hSub Nat Nat Nat (@instHSub Nat instSubNat) (@OfNat.ofNat Nat (nat_lit 32) (instOfNatNat (nat_lit 32))) (@OfNat.ofNat Nat (nat_lit 0) (instOfNatNat (nat_lit 0)))) (@OfNat.ofNat Nat (nat_lit 32) (instOfNatNat (nat_lit 32)))) (@Eq (List Int) (@List.drop Int (@OfNat.ofNat Nat (nat_lit 0) (instOfNatNat (nat_lit 0))) (@List.replicate Int (@OfNat.ofNat Nat (nat_lit 32) (instOfNatNat (nat_lit 32))) (@OfNat.ofNat Int (nat_lit 0) (@instOfNat (nat_lit 0))))) (@List.replicate Int (@OfNat.ofNat Nat (nat_lit 32) (instOfNatNat (nat_lit 32))) (@OfNat.ofNat Int (nat_lit 0) (@instOfNat (nat_lit 0))))))) (And (@Eq Value (Value.int IntKind.i64 (@OfNat.ofNat Int (nat_lit 0) (@instOfNat (nat_lit 0)))) (Value.int IntKind.i64 (@OfNat.ofNat Int (nat_lit 0) (@instOfNat (nat_lit 0))))) (And (@Eq Value (Value.bool false) (Value.bool false)) (And (@Eq Value (Value.int IntKind.i64 (@OfNat.ofNat Int (nat_lit 0) (@instOfNat (nat_lit 0)))) (Value.int IntKind.i64 (@OfNat.ofNat Int (nat_lit 0) (@instOfNat (nat_lit 0))))) (And (And (@Eq IntKind IntKind.u8 IntKind.u8) (And (@Eq Nat (@HSub.hSub Nat Nat Nat (@instHSub Nat instSubNat) (@OfNat.ofNat Nat (nat_lit 32) (instOfNatNat (nat_lit 32))) (@OfNat.ofNat Nat (nat_lit 0) (instOfNatNat (nat_lit 0)))) (@OfNat.ofNat Nat (nat_lit 32) (instOfNatNat (nat_lit 32)))) (@Eq (List Int) (@List.drop Int (@OfNat.ofNat Nat (nat_lit 0) (instOfNatNat (nat_lit 0))) (@List.replicate Int (@OfNat.ofNat Nat (nat_lit 32) (instOfNatNat (nat_lit 32))) (@OfNat.ofNat Int (nat_lit 0) (@instOfNat (nat_lit 0))))) (@List.replicate Int (@OfNat.ofNat Nat (nat_lit 32) (instOfNatNat (nat_lit 32))) (@OfNat.ofNat Int (nat_lit 0) (@instOfNat (nat_lit 0))))))) (And (@Eq Value (Value.int IntKind.u64 (@OfNat.ofNat Int (nat_lit 0) (@instOfNat (nat_lit 0)))) (Value.int IntKind.u64 (@OfNat.ofNat Int (nat_lit 0) (@instOfNat (nat_lit 0))))) True)))))) (And (And (@Eq (Option Addr) (@none Addr) (@none Addr)) (And (@Eq Nat (@OfNat.ofNat Nat (nat_lit 0) (instOfNatNat (nat_lit 0))) (@List.length Int (@List.nil Int))) (@Eq Nat (@OfNat.ofNat Nat (nat_lit 0) (instOfNatNat (nat_lit 0))) (@OfNat.ofNat Nat (nat_lit 0) (instOfNatNat (nat_lit 0)))))) (And (@Eq Value (Value.int IntKind.i64 (@OfNat.ofNat Int (nat_lit 40) (@instOfNat (nat_lit 40)))) (Value.int IntKind.i64 (@OfNat.ofNat Int (nat_lit 40) (@instOfNat (nat_lit 40))))) True))) (by kernel_rfl) (And.intro (And.intro (And.intro (rfl) (And.intro (rfl) (?_))) (And.intro (rfl) (And.intro (rfl) (And.intro (rfl) (And.intro (And.intro (rfl) (And.intro (rfl) (?_))) (And.intro (rfl) (trivial))))))) (And.intro (And.intro (rfl) (And.intro (?_) (rfl))) (And.intro (rfl) (trivial))))
      · simp
      · simp
      · rfl
    · refine Eq.mpr (β := (0 + 0 = 0 ∧ (true && true) = true) ∧ (g.b = g.b ∧ g.y = g.y ∧ (IntKind.u8 = IntKind.u8 ∧ g.m = g.m ∧ g.B = g.B) ∧ True) ∧ True) (by kernel_rfl) (And.intro (And.intro (rfl) (?_)) (And.intro (And.intro (rfl) (And.intro (rfl) (And.intro (And.intro (rfl) (And.intro (rfl) (rfl))) (trivial)))) (trivial)))
      rfl
    · show ApR.fits _ (payF g.l).length (payF g.l)
      rw [q2]
      exact ⟨Nat.le_refl _, Nat.le_refl _, .inr rfl, rfl, rfl⟩
  have h0 : ¬ g.n < 89 := by
    have h0 : (decide ((g.n : Int) < 89)) = false := h0
    have h0 : ¬ (g.n : Int) < 89 := of_decide_eq_false h0
    omega
  have hz : g.z = 0 := g3.resolve_right (by omega)
  have hif85 : (if g.c = 85 then g.off else g.off + 85) = g.off + 85 := if_neg (by omega)
  have hif41 : (if g.c = 41 then g.off else g.off + 41) = g.off + 41 := if_neg (by omega)
  have hif45 : (if g.c = 45 then g.off else g.off + 45) = g.off + 45 := if_neg (by omega)
  have hif4 : (if g.c = 4 then g.off else g.off + 4) = g.off + 4 := if_neg (by omega)
  have hif36 : (if g.c = 36 then g.off else g.off + 36) = g.off + 36 := if_neg (by omega)
  have hif77 : (if g.c = 77 then g.off else g.off + 77) = g.off + 77 := if_neg (by omega)
  have hg0 : List.take 4 (List.drop g.off g.B) = g.l.take 4 := by
    have := part_eq (B := g.B) (off := g.off) (n := g.n) (o := 0) (k := 4) (by omega)
    rw [List.drop_zero, Nat.add_zero] at this
    exact this.symm
  have hgc : (GS.mk g.b g.off 85 g.c g.z g.m g.y g.B).l = g.l.take 85 := by
    show (g.B.drop g.off).take 85 = ((g.B.drop g.off).take g.n).take 85
    rw [List.take_take, Nat.min_eq_left (by omega)]
  have hg40 : g.B.getD (g.off + 40) 0 = g.l.getD 40 0 := (GS.getD (g := g) (by omega)).symm
  have hs0 := sign_eq (X := g.l.take 4) (inU8_take hU 4)
  have hgn : ∀ o k c, o + k ≤ g.n → getN (GS.mk g.b (g.off + o) k c g.z g.m g.y g.B).l k = numB g.l o k := fun o k c h => by
    show getN ((g.B.drop (g.off + o)).take k) k = getN ((((g.B.drop g.off).take g.n).drop o).take k) k
    rw [part_eq (B := g.B) (off := g.off) h]
  have hwi : IntKind.i64.wrap (sizeF g.l) = sizeF g.l := wrap_i64_id (by omega)
  refine And.intro (fun _ => ?_) (fun hp => by cases hp)
  refine And.intro (by omega) ?_
  refine And.intro (fun _ => ?_) (fun hp => by cases hp)
  refine And.intro (And.intro (rfl) (And.intro (Eq.mpr (β := g.off + 4 ≤ g.m) (by kernel_rfl) (by omega)) (by omega))) ?_
  refine stE ([(13, SV.c (Cel.v (Value.string (toBA (List.take 4 (List.drop g.off g.B)))))), (10, SV.bool false), (12, SV.c (Cel.sl 0 g.b g.off 4 (g.c - 0) g.z)), (10, SV.bool false), (11, SV.c (Cel.sl 0 g.b g.off g.n g.c g.z)), (10, SV.bool false), (10, SV.bool (decide ((↑g.n : Int) < 89))), (9, SV.bool (decide ((↑g.n : Int) < 89))), (8, SV.int .i64 (↑g.n : Int)), (7, SV.c (Cel.sl 0 g.b g.off g.n g.c g.z)), (4, SV.int .i64 0), (3, SV.c (Cel.v (Value.slice none 0 0))), (2, SV.c (Cel.ptr 1002 b2 0)), (0, SV.c (Cel.sl 0 g.b g.off g.n g.c g.z))]) ([(0, g.b, Cont.cells g.y [Cel.ints .u8 g.m g.B]), (1002, b2, Cont.cells 36 [Cel.ints .u8 32 (List.replicate 32 0), Cel.v (Value.int .i64 0), Cel.v (Value.bool false), Cel.v (Value.int .i64 0), Cel.ints .u8 32 (List.replicate 32 0), Cel.v (Value.int .u64 0)])]) (by kernel_rfl) (by kernel_rfl) ?_
  refine And.intro (fun _ => ?_) (fun hp => by cases hp)
  refine stepE (v := (SV.bool !ByteArray.toList (toBA (List.take 4 (List.drop g.off g.B))) == ByteArray.toList { data := { toList := [65, 77, 66, 82] : Array UInt8 } : ByteArray })) (by kernel_rfl) ?_
  refine stE ([(14, SV.bool !ByteArray.toList (toBA (List.take 4 (List.drop g.off g.B))) == ByteArray.toList { data := { toList := [65, 77, 66, 82] : Array UInt8 } : ByteArray }), (10, SV.bool false), (13, SV.c (Cel.v (Value.string (toBA (List.take 4 (List.drop g.off g.B)))))), (10, SV.bool false), (12, SV.c (Cel.sl 0 g.b g.off 4 (g.c - 0) g.z)), (10, SV.bool false), (11, SV.c (Cel.sl 0 g.b g.off g.n g.c g.z)), (10, SV.bool false), (10, SV.bool (decide ((↑g.n : Int) < 89))), (9, SV.bool (decide ((↑g.n : Int) < 89))), (8, SV.int .i64 (↑g.n : Int)), (7, SV.c (Cel.sl 0 g.b g.off g.n g.c g.z)), (4, SV.int .i64 0), (3, SV.c (Cel.v (Value.slice none 0 0))), (2, SV.c (Cel.ptr 1002 b2 0)), (0, SV.c (Cel.sl 0 g.b g.off g.n g.c g.z))]) ([(0, g.b, Cont.cells g.y [Cel.ints .u8 g.m g.B]), (1002, b2, Cont.cells 36 [Cel.ints .u8 32 (List.replicate 32 0), Cel.v (Value.int .i64 0), Cel.v (Value.bool false), Cel.v (Value.int .i64 0), Cel.ints .u8 32 (List.replicate 32 0), Cel.v (Value.int .u64 0)])]) (by kernel_rfl) (by kernel_rfl) ?_
  refine ⟨fun h1 => ?_, fun h1 => ?_⟩
  rotate_left
  · have hbad : badF g.l := by
      have h1 : (!((toBA (List.take 4 (List.drop g.off g.B))).toList == (ByteArray.mk #[65, 77, 66, 82]).toList)) = true := h1
      rw [hg0, hs0] at h1
      exact .inr (.inl (by simpa using h1))
    refine ⟨rfl, ?_⟩
    obtain ⟨q1, q2, q3⟩ := bad_res (g := g) hbad
    refine And.intro (fun h => by cases h) (fun _ => And.intro rfl ?_)
    refine And.intro (fun h => by cases h) (fun _ => And.intro rfl ?_)
    refine And.intro (fun h => by cases h) (fun _ => And.intro rfl ?_)
    refine And.intro (fun h => by cases h) (fun _ => And.intro rfl ?_)
    refine stE ([(19, SV.c (Cel.v (Value.tuple { toList := [] : Array Value }))), (16, SV.bool !false), (22, SV.c (Cel.v (Value.tuple { toList := [] : Array Value }))), (16, SV.bool !false), (21, SV.c (Cel.v (Value.tuple { toList := [] : Array Value }))), (16, SV.bool !false), (18, SV.c (Cel.v (Value.tuple { toList := [] : Array Value }))), (16, SV.bool !false), (17, SV.c (Cel.v (Value.tuple { toList := [] : Array Value }))), (16, SV.bool !false), (16, SV.bool (bif false then true else !ByteArray.toList (toBA (List.take 4 (List.drop g.off g.B))) == ByteArray.toList { data := { toList := [65, 77, 66, 82] : Array UInt8 } : ByteArray })), (15, SV.bool (bif false then true else !ByteArray.toList (toBA (List.take 4 (List.drop g.off g.B))) == ByteArray.toList { data := { toList := [65, 77, 66, 82] : Array UInt8 } : ByteArray })), (14, SV.bool !ByteArray.toList (toBA (List.take 4 (List.drop g.off g.B))) == ByteArray.toList { data := { toList := [65, 77, 66, 82] : Array UInt8 } : ByteArray }), (10, SV.bool false), (13, SV.c (Cel.v (Value.string (toBA (List.take 4 (List.drop g.off g.B)))))), (10, SV.bool false), (12, SV.c (Cel.sl 0 g.b g.off 4 (g.c - 0) g.z)), (10, SV.bool false), (11, SV.c (Cel.sl 0 g.b g.off g.n g.c g.z)), (10, SV.bool false), (10, SV.bool (decide ((↑g.n : Int) < 89))), (9, SV.bool (decide ((↑g.n : Int) < 89))), (8, SV.int .i64 (↑g.n : Int)), (7, SV.c (Cel.sl 0 g.b g.off g.n g.c g.z)), (4, SV.int .i64 0), (3, SV.c (Cel.v (Value.slice none 0 0))), (2, SV.c (Cel.ptr 1002 b2 0)), (0, SV.c (Cel.sl 0 g.b g.off g.n g.c g.z))]) ([(0, g.b, Cont.cells g.y [Cel.ints .u8 g.m g.B]), (1002, b2, Cont.cells 36 [Cel.ints .u8 32 (List.replicate 32 0), Cel.v (Value.int .i64 0), Cel.v (Value.bool false), Cel.v (Value.int .i64 0), Cel.ints .u8 32 (List.replicate 32 0), Cel.v (Value.int .u64 0)])]) (by kernel_rfl) (by kernel_rfl) ?_
    refine And.intro (fun h => by cases h) (fun _ => And.intro rfl ?_)
    refine And.intro (fun h => by cases h) (fun _ => And.intro rfl ?_)
    refine And.intro (fun h => by cases h) (fun _ => And.intro rfl ?_)
    refine And.intro (fun h => by cases h) (fun _ => And.intro rfl ?_)
    refine stE ([(27, SV.c (Cel.v (Value.tuple { toList := [] : Array Value }))), (26, SV.bool !false), (26, SV.bool true), (25, SV.bool true), (24, SV.c (Cel.v (Value.tuple { toList := [] : Array Value }))), (16, SV.bool !false), (23, SV.c (Cel.v (Value.tuple { toList := [] : Array Value }))), (16, SV.bool !false), (20, SV.c (Cel.v (Value.tuple { toList := [] : Array Value }))), (16, SV.bool !false), (19, SV.c (Cel.v (Value.tuple { toList := [] : Array Value }))), (16, SV.bool !false), (22, SV.c (Cel.v (Value.tuple { toList := [] : Array Value }))), (16, SV.bool !false), (21, SV.c (Cel.v (Value.tuple { toList := [] : Array Value }))), (16, SV.bool !false), (18, SV.c (Cel.v (Value.tuple { toList := [] : Array Value }))), (16, SV.bool !false), (17, SV.c (Cel.v (Value.tuple { toList := [] : Array Value }))), (16, SV.bool !false), (16, SV.bool (bif false then true else !ByteArray.toList (toBA (List.take 4 (List.drop g.off g.B))) == ByteArray.toList { data := { toList := [65, 77, 66, 82] : Array UInt8 } : ByteArray })), (15, SV.bool (bif false then true else !ByteArray.toList (toBA (List.take 4 (List.drop g.off g.B))) == ByteArray.toList { data := { toList := [65, 77, 66, 82] : Array UInt8 } : ByteArray })), (14, SV.bool !ByteArray.toList (toBA (List.take 4 (List.drop g.off g.B))) == ByteArray.toList { data := { toList := [65, 77, 66, 82] : Array UInt8 } : ByteArray }), (10, SV.bool false), (13, SV.c (Cel.v (Value.string (toBA (List.take 4 (List.drop g.off g.B)))))), (10, SV.bool false), (12, SV.c (Cel.sl 0 g.b g.off 4 (g.c - 0) g.z)), (10, SV.bool false), (11, SV.c (Cel.sl 0 g.b g.off g.n g.c g.z)), (10, SV.bool false), (10, SV.bool (decide ((↑g.n : Int) < 89))), (9, SV.bool (decide ((↑g.n : Int) < 89))), (8, SV.int .i64 (↑g.n : Int)), (7, SV.c (Cel.sl 0 g.b g.off g.n g.c g.z)), (4, SV.int .i64 0), (3, SV.c (Cel.v (Value.slice none 0 0))), (2, SV.c (Cel.ptr 1002 b2 0)), (0, SV.c (Cel.sl 0 g.b g.off g.n g.c g.z))]) ([(0, g.b, Cont.cells g.y [Cel.ints .u8 g.m g.B]), (1002, b2, Cont.cells 36 [Cel.ints .u8 32 (List.replicate 32 0), Cel.v (Value.int .i64 0), Cel.v (Value.bool false), Cel.v (Value.int .i64 0), Cel.ints .u8 32 (List.replicate 32 0), Cel.v (Value.int .u64 0)])]) (by kernel_rfl) (by kernel_rfl) ?_
    refine And.intro (fun h => by cases h) (fun _ => And.intro rfl ?_)
    refine And.intro (fun h => by cases h) (fun _ => And.intro rfl ?_)
    refine And.intro (fun h => by cases h) (fun _ => And.intro rfl ?_)
    refine And.intro (fun _ => ?_) (fun hp => by cases hp)
    refine stE ([(31, SV.bool true), (4, SV.int .i64 0), (3, SV.c (Cel.v (Value.slice none 0 0))), (2, SV.c (Cel.ptr 1002 b2 0)), (0, SV.c (Cel.sl 0 g.b g.off g.n g.c g.z))]) ([(0, g.b, Cont.cells g.y [Cel.ints .u8 g.m g.B]), (1002, b2, Cont.cells 36 [Cel.ints .u8 32 (List.replicate 32 0), Cel.v (Value.int .i64 0), Cel.v (Value.bool false), Cel.v (Value.int .i64 0), Cel.ints .u8 32 (List.replicate 32 0), Cel.v (Value.int .u64 0)])]) (by kernel_rfl) (by kernel_rfl) ?_
    refine And.intro ⟨rfl, by omega⟩ ?_
    refine And.intro rfl ?_
    refine ⟨⟨0, 0, 0, 0, 1, 0, []⟩, [99999, 0], ?_, rfl, rfl, ?_, ?_⟩
    · show SV.same _ (.tup [.agg (openF g.l).cels, .c (.sl 100 0 0 (payF g.l).length 0 1), .c (.v (.int .i64 (errF g.l)))])
      rw [q1, q2, q3]
      refine Eq.mpr (β := And (And (And (@Eq IntKind IntKind.u8 IntKind.u8) (And (@Eq Nat (@HSub.hSub Nat Nat Nat (@instHSub Nat instSubNat) (@OfNat.ofNat Nat (nat_lit 32) (instOfNatNat (nat_lit 32))) (@OfNat.ofNat Nat (nat_lit 0) (instOfNatNat (nat_lit 0)))) (@OfNat.ofNat Nat (nat_lit 32) (instOfNatNat (nat_lit 32)))) (@Eq (List Int) (@List.drop Int (@OfNat.ofNat Nat (nat_lit 0) (instOfNatNat (nat_lit 0))) (@List.replicate Int (@OfNat.ofNat Nat (nat_lit 32) (instOfNatNat (nat_lit 32))) (@OfNat.ofNat Int (nat_lit 0) (@instOfNat (nat_lit 0))))) (@List.replicate Int (@OfNat.ofNat Nat (nat_lit 32) (instOfNatNat (nat_lit 32))) (@OfNat.ofNat Int (nat_lit 0) (@instOfNat (nat_lit 0))))))) (And (@Eq Value (Value.int IntKind.i64 (@OfNat.ofNat Int (nat_lit 0) (@instOfNat (nat_lit 0)))) (Value.int IntKind.i64 (@OfNat.ofNat Int (nat_lit 0) (@instOfNat (nat_lit 0))))) (And (@Eq Value (Value.bool false) (Value.bool false)) (And (@Eq Value (Value.int IntKind.i64 (@OfNat.ofNat Int (nat_lit 0) (@instOfNat (nat_lit 0)))) (Value.int IntKind.i64 (@OfNat.ofNat Int (nat_lit 0) (@instOfNat (nat_lit 0))))) (And (And (@Eq IntKind IntKind.u8 IntKind.u8) (And (@Eq Nat (@HSub.hSub Nat Nat Nat (@instHSub Nat instSubNat) (@OfNat.ofNat Nat (nat_lit 32) (instOfNatNat (nat_lit 32))) (@OfNat.ofNat Nat (nat_lit 0) (instOfNatNat (nat_lit 0)))) (@OfNat.ofNat Nat (nat_lit 32) (instOfNatNat (nat_lit 32)))) (@Eq (List Int) (@List.drop Int (@OfNat.ofNat Nat (nat_lit 0) (instOfNatNat (nat_lit 0))) (@List.replicate Int (@OfNat.ofNat Nat (nat_lit 32) (instOfNatNat (nat_lit 32))) (@OfNat.ofNat Int (nat_lit 0) (@instOfNat (nat_lit 0))))) (@List.replicate Int (@OfNat.ofNat Nat (nat_lit 32) (instOfNatNat (nat_lit 32))) (@OfNat.ofNat Int (nat_lit 0) (@instOfNat (nat_lit 0))))))) (And (@Eq Value (Value.int IntKind.u64 (@OfNat.ofNat Int (nat_lit 0) (@instOfNat (nat_lit 0)))) (Value.int IntKind.u64 (@OfNat.ofNat Int (nat_lit 0) (@instOfNat (nat_lit 0))))) True)))))) (And (And (@Eq (Option Addr) (@none Addr) (@none Addr)) (And (@Eq Nat (@OfNat.ofNat Nat (nat_lit 0) (instOfNatNat (nat_lit 0))) (@List.length Int (@List.nil Int))) (@Eq Nat (@OfNat.ofNat Nat (nat_lit 0) (instOfNatNat (nat_lit 0))) (@OfNat.ofNat Nat (nat_lit 0) (instOfNatNat (nat_lit 0)))))) (And (@Eq Value (Value.int IntKind.i64 (@OfNat.ofNat Int (nat_lit 40) (@instOfNat (nat_lit 40)))) (Value.int IntKind.i64 (@OfNat.ofNat Int (nat_lit 40) (@instOfNat (nat_lit 40))))) True))) (by kernel_rfl) (And.intro (And.intro (And.intro (rfl) (And.intro (rfl) (?_))) (And.intro (rfl) (And.intro (rfl) (And.intro (rfl) (And.intro (And.intro (rfl) (And.intro (rfl) (?_))) (And.intro (rfl) (trivial))))))) (And.intro (And.intro (rfl) (And.intro (?_) (rfl))) (And.intro (rfl) (trivial))))
      · simp
      · simp
      · rfl
    · refine Eq.mpr (β := (0 + 0 = 0 ∧ (true && true) = true) ∧ (g.b = g.b ∧ g.y = g.y ∧ (IntKind.u8 = IntKind.u8 ∧ g.m = g.m ∧ g.B = g.B) ∧ True) ∧ True) (by kernel_rfl) (And.intro (And.intro (rfl) (?_)) (And.intro (And.intro (rfl) (And.intro (rfl) (And.intro (And.intro (rfl) (And.intro (rfl) (rfl))) (trivial)))) (trivial)))
      rfl
    · show ApR.fits _ (payF g.l).length (payF g.l)
      rw [q2]
      exact ⟨Nat.le_refl _, Nat.le_refl _, .inr rfl, rfl, rfl⟩
  have h1 : g.l.take 4 = [65, 77, 66, 82] := by
    have h1 : (!((toBA (List.take 4 (List.drop g.off g.B))).toList == (ByteArray.mk #[65, 77, 66, 82]).toList)) = false := h1
    rw [hg0, hs0] at h1
    simpa using h1
  refine And.intro (fun _ => ?_) (fun hp => by cases hp)
  refine And.intro (by omega) ?_
  refine And.intro (fun _ => ?_) (fun hp => by cases hp)
  refine And.intro (fun _ => ?_) (fun hp => by cases hp)
  refine And.intro (by omega) ?_
  refine stE ([(22, SV.c (Cel.sl 0 g.b (if g.c = 85 then g.off else g.off + 85) 4 (g.c - 85) g.z)), (16, SV.bool false), (21, SV.c (Cel.sl 0 g.b g.off g.n g.c g.z)), (16, SV.bool false), (18, SV.c (Cel.sl 0 g.b g.off 85 (g.c - 0) g.z)), (16, SV.bool false), (17, SV.c (Cel.sl 0 g.b g.off g.n g.c g.z)), (16, SV.bool false), (16, SV.bool (bif false then true else !ByteArray.toList (toBA (List.take 4 (List.drop g.off g.B))) == ByteArray.toList { data := { toList := [65, 77, 66, 82] : Array UInt8 } : ByteArray })), (15, SV.bool (bif false then true else !ByteArray.toList (toBA (List.take 4 (List.drop g.off g.B))) == ByteArray.toList { data := { toList := [65, 77, 66, 82] : Array UInt8 } : ByteArray })), (14, SV.bool !ByteArray.toList (toBA (List.take 4 (List.drop g.off g.B))) == ByteArray.toList { data := { toList := [65, 77, 66, 82] : Array UInt8 } : ByteArray }), (10, SV.bool false), (13, SV.c (Cel.v (Value.string (toBA (List.take 4 (List.drop g.off g.B)))))), (10, SV.bool false), (12, SV.c (Cel.sl 0 g.b g.off 4 (g.c - 0) g.z)), (10, SV.bool false), (11, SV.c (Cel.sl 0 g.b g.off g.n g.c g.z)), (10, SV.bool false), (10, SV.bool (decide ((↑g.n : Int) < 89))), (9, SV.bool (decide ((↑g.n : Int) < 89))), (8, SV.int .i64 (↑g.n : Int)), (7, SV.c (Cel.sl 0 g.b g.off g.n g.c g.z)), (4, SV.int .i64 0), (3, SV.c (Cel.v (Value.slice none 0 0))), (2, SV.c (Cel.ptr 1002 b2 0)), (0, SV.c (Cel.sl 0 g.b g.off g.n g.c g.z))]) ([(0, g.b, Cont.cells g.y [Cel.ints .u8 g.m g.B]), (1002, b2, Cont.cells 36 [Cel.ints .u8 32 (List.replicate 32 0), Cel.v (Value.int .i64 0), Cel.v (Value.bool false), Cel.v (Value.int .i64 0), Cel.ints .u8 32 (List.replicate 32 0), Cel.v (Value.int .u64 0)])]) (by kernel_rfl) (by kernel_rfl) ?_
  refine And.intro (fun _ => ?_) (fun hp => by cases hp)
  refine And.intro (And.intro (And.intro (And.intro (rfl) (And.intro (rfl) (And.intro (rfl) (And.intro (rfl) (rfl))))) (trivial)) (And.intro (And.intro (And.intro (And.intro (rfl) (And.intro (rfl) (And.intro (And.intro (rfl) (And.intro (rfl) (rfl))) (trivial)))) (trivial)) (rfl)) (And.intro (rfl) (And.intro (rfl) (And.intro (rfl) (And.intro (rfl) (And.intro (And.intro (by omega) (And.intro (Eq.mpr (β := 85 ≤ g.c - 0) (by kernel_rfl) (by omega)) (And.intro (by omega) (by omega)))) (Eq.mpr (β := 85 ≤ 1099511627776) (by kernel_rfl) (by omega))))))))) (fun (_ : Unit) _ => ?_)
  refine And.intro (fun _ => ?_) (fun hp => by cases hp)
  refine And.intro (fun _ => ?_) (fun hp => by cases hp)
  refine And.intro (And.intro (And.intro (And.intro (rfl) (And.intro (rfl) (And.intro (rfl) (And.intro (rfl) (rfl))))) (trivial)) (And.intro (And.intro (And.intro (And.intro (rfl) (And.intro (rfl) (And.intro (And.intro (rfl) (And.intro (rfl) (rfl))) (trivial)))) (trivial)) (rfl)) (And.intro (rfl) (And.intro (rfl) (And.intro (rfl) (And.intro (rfl) (And.intro (And.intro (Eq.mpr (β := (if g.c = 85 then g.off else g.off + 85) + (g.c - 85) ≤ g.m) (by kernel_rfl) (by omega)) (And.intro (Eq.mpr (β := 4 ≤ g.c - 85) (by kernel_rfl) (by omega)) (And.intro (Eq.mpr (β := g.z = 0 ∨ g.c - 85 = 0) (by kernel_rfl) (by omega)) (by omega)))) (Eq.mpr (β := 4 ≤ 1099511627776) (by kernel_rfl) (by omega))))))))) (fun (_ : Unit) _ => ?_)
  refine stE ([(23, SV.int .u64 (getN (GS.l ⟨g.b, if g.c = 85 then g.off else g.off + 85, 4, g.c - 85, g.z, g.m, g.y, g.B⟩) 4)), (16, SV.bool false), (20, SV.int .u64 (IntKind.wrap .u64 (crc (GS.l ⟨g.b, g.off, 85, g.c - 0, g.z, g.m, g.y, g.B⟩) 85))), (16, SV.bool false), (19, SV.int .u32 (crc (GS.l ⟨g.b, g.off, 85, g.c - 0, g.z, g.m, g.y, g.B⟩) 85)), (16, SV.bool false), (22, SV.c (Cel.sl 0 g.b (if g.c = 85 then g.off else g.off + 85) 4 (g.c - 85) g.z)), (16, SV.bool false), (21, SV.c (Cel.sl 0 g.b g.off g.n g.c g.z)), (16, SV.bool false), (18, SV.c (Cel.sl 0 g.b g.off 85 (g.c - 0) g.z)), (16, SV.bool false), (17, SV.c (Cel.sl 0 g.b g.off g.n g.c g.z)), (16, SV.bool false), (16, SV.bool (bif false then true else !ByteArray.toList (toBA (List.take 4 (List.drop g.off g.B))) == ByteArray.toList { data := { toList := [65, 77, 66, 82] : Array UInt8 } : ByteArray })), (15, SV.bool (bif false then true else !ByteArray.toList (toBA (List.take 4 (List.drop g.off g.B))) == ByteArray.toList { data := { toList := [65, 77, 66, 82] : Array UInt8 } : ByteArray })), (14, SV.bool !ByteArray.toList (toBA (List.take 4 (List.drop g.off g.B))) == ByteArray.toList { data := { toList := [65, 77, 66, 82] : Array UInt8 } : ByteArray }), (10, SV.bool false), (13, SV.c (Cel.v (Value.string (toBA (List.take 4 (List.drop g.off g.B)))))), (10, SV.bool false), (12, SV.c (Cel.sl 0 g.b g.off 4 (g.c - 0) g.z)), (10, SV.bool false), (11, SV.c (Cel.sl 0 g.b g.off g.n g.c g.z)), (10, SV.bool false), (10, SV.bool (decide ((↑g.n : Int) < 89))), (9, SV.bool (decide ((↑g.n : Int) < 89))), (8, SV.int .i64 (↑g.n : Int)), (7, SV.c (Cel.sl 0 g.b g.off g.n g.c g.z)), (4, SV.int .i64 0), (3, SV.c (Cel.v (Value.slice none 0 0))), (2, SV.c (Cel.ptr 1002 b2 0)), (0, SV.c (Cel.sl 0 g.b g.off g.n g.c g.z))]) ([(0, g.b, Cont.cells g.y [Cel.ints .u8 g.m g.B]), (1002, b2, Cont.cells 36 [Cel.ints .u8 32 (List.replicate 32 0), Cel.v (Value.int .i64 0), Cel.v (Value.bool false), Cel.v (Value.int .i64 0), Cel.ints .u8 32 (List.replicate 32 0), Cel.v (Value.int .u64 0)])]) (by kernel_rfl) (by kernel_rfl) ?_
  refine And.intro (fun _ => ?_) (fun hp => by cases hp)
  refine stepE (v := (SV.bool !decide (IntKind.wrap .u64 (crc (GS.l ⟨g.b, g.off, 85, g.c - 0, g.z, g.m, g.y, g.B⟩) 85) = getN (GS.l ⟨g.b, if g.c = 85 then g.off else g.off + 85, 4, g.c - 85, g.z, g.m, g.y, g.B⟩) 4))) (by kernel_rfl) ?_
  refine stE ([(24, SV.bool !decide (IntKind.wrap .u64 (crc (GS.l ⟨g.b, g.off, 85, g.c - 0, g.z, g.m, g.y, g.B⟩) 85) = getN (GS.l ⟨g.b, if g.c = 85 then g.off else g.off + 85, 4, g.c - 85, g.z, g.m, g.y, g.B⟩) 4)), (16, SV.bool false), (23, SV.int .u64 (getN (GS.l ⟨g.b, if g.c = 85 then g.off else g.off + 85, 4, g.c - 85, g.z, g.m, g.y, g.B⟩) 4)), (16, SV.bool false), (20, SV.int .u64 (IntKind.wrap .u64 (crc (GS.l ⟨g.b, g.off, 85, g.c - 0, g.z, g.m, g.y, g.B⟩) 85))), (16, SV.bool false), (19, SV.int .u32 (crc (GS.l ⟨g.b, g.off, 85, g.c - 0, g.z, g.m, g.y, g.B⟩) 85)), (16, SV.bool false), (22, SV.c (Cel.sl 0 g.b (if g.c = 85 then g.off else g.off + 85) 4 (g.c - 85) g.z)), (16, SV.bool false), (21, SV.c (Cel.sl 0 g.b g.off g.n g.c g.z)), (16, SV.bool false), (18, SV.c (Cel.sl 0 g.b g.off 85 (g.c - 0) g.z)), (16, SV.bool false), (17, SV.c (Cel.sl 0 g.b g.off g.n g.c g.z)), (16, SV.bool false), (16, SV.bool (bif false then true else !ByteArray.toList (toBA (List.take 4 (List.drop g.off g.B))) == ByteArray.toList { data := { toList := [65, 77, 66, 82] : Array UInt8 } : ByteArray })), (15, SV.bool (bif false then true else !ByteArray.toList (toBA (List.take 4 (List.drop g.off g.B))) == ByteArray.toList { data := { toList := [65, 77, 66, 82] : Array UInt8 } : ByteArray })), (14, SV.bool !ByteArray.toList (toBA (List.take 4 (List.drop g.off g.B))) == ByteArray.toList { data := { toList := [65, 77, 66, 82] : Array UInt8 } : ByteArray }), (10, SV.bool false), (13, SV.c (Cel.v (Value.string (toBA (List.take 4 (List.drop g.off g.B)))))), (10, SV.bool false), (12, SV.c (Cel.sl 0 g.b g.off 4 (g.c - 0) g.z)), (10, SV.bool false), (11, SV.c (Cel.sl 0 g.b g.off g.n g.c g.z)), (10, SV.bool false), (10, SV.bool (decide ((↑g.n : Int) < 89))), (9, SV.bool (decide ((↑g.n : Int) < 89))), (8, SV.int .i64 (↑g.n : Int)), (7, SV.c (Cel.sl 0 g.b g.off g.n g.c g.z)), (4, SV.int .i64 0), (3, SV.c (Cel.v (Value.slice none 0 0))), (2, SV.c (Cel.ptr 1002 b2 0)), (0, SV.c (Cel.sl 0 g.b g.off g.n g.c g.z))]) ([(0, g.b, Cont.cells g.y [Cel.ints .u8 g.m g.B]), (1002, b2, Cont.cells 36 [Cel.ints .u8 32 (List.replicate 32 0), Cel.v (Value.int .i64 0), Cel.v (Value.bool false), Cel.v (Value.int .i64 0), Cel.ints .u8 32 (List.replicate 32 0), Cel.v (Value.int .u64 0)])]) (by kernel_rfl) (by kernel_rfl) ?_
  refine ⟨fun h2 => ?_, fun h2 => ?_⟩
  rotate_left
  · have hbad : badF g.l := by
      have h2 : (!decide (IntKind.u64.wrap (crc (GS.mk g.b g.off 85 g.c g.z g.m g.y g.B).l 85) = getN (GS.mk g.b (if g.c = 85 then g.off else g.off + 85) 4 (g.c - 85) g.z g.m g.y g.B).l 4)) = true := h2
      rw [hif85, hgn 85 4 _ (by omega), hgc] at h2
      exact .inr (.inr (.inl (fun e => (of_decide_eq_false (by simpa using h2)) e.symm)))
    refine ⟨rfl, ?_⟩
    obtain ⟨q1, q2, q3⟩ := bad_res (g := g) hbad
    refine And.intro (fun h => by cases h) (fun _ => And.intro rfl ?_)
    refine And.intro (fun h => by cases h) (fun _ => And.intro rfl ?_)
    refine And.intro (fun h => by cases h) (fun _ => And.intro rfl ?_)
    refine And.intro (fun _ => ?_) (fun hp => by cases hp)
    refine stE ([(31, SV.bool true), (4, SV.int .i64 0), (3, SV.c (Cel.v (Value.slice none 0 0))), (2, SV.c (Cel.ptr 1002 b2 0)), (0, SV.c (Cel.sl 0 g.b g.off g.n g.c g.z))]) ([(0, g.b, Cont.cells g.y [Cel.ints .u8 g.m g.B]), (1002, b2, Cont.cells 36 [Cel.ints .u8 32 (List.replicate 32 0), Cel.v (Value.int .i64 0), Cel.v (Value.bool false), Cel.v (Value.int .i64 0), Cel.ints .u8 32 (List.replicate 32 0), Cel.v (Value.int .u64 0)])]) (by kernel_rfl) (by kernel_rfl) ?_
    refine And.intro ⟨rfl, by omega⟩ ?_
    refine And.intro rfl ?_
    refine ⟨⟨0, 0, 0, 0, 1, 0, []⟩, [99999, 0], ?_, rfl, rfl, ?_, ?_⟩
    · show SV.same _ (.tup [.agg (openF g.l).cels, .c (.sl 100 0 0 (payF g.l).length 0 1), .c (.v (.int .i64 (errF g.l)))])
      rw [q1, q2, q3]
      refine Eq.mpr (β := And (And (And (@Eq IntKind IntKind.u8 IntKind.u8) (And (@Eq Nat (@HSub.hSub Nat Nat Nat (@instHSub Nat instSubNat) (@OfNat.ofNat Nat (nat_lit 32) (instOfNatNat (nat_lit 32))) (@OfNat.ofNat Nat (nat_lit 0) (instOfNatNat (nat_lit 0)))) (@OfNat.ofNat Nat (nat_lit 32) (instOfNatNat (nat_lit 32)))) (@Eq (List Int) (@List.drop Int (@OfNat.ofNat Nat (nat_lit 0) (instOfNatNat (nat_lit 0))) (@List.replicate Int (@OfNat.ofNat Nat (nat_lit 32) (instOfNatNat (nat_lit 32))) (@OfNat.ofNat Int (nat_lit 0) (@instOfNat (nat_lit 0))))) (@List.replicate Int (@OfNat.ofNat Nat (nat_lit 32) (instOfNatNat (nat_lit 32))) (@OfNat.ofNat Int (nat_lit 0) (@instOfNat (nat_lit 0))))))) (And (@Eq Value (Value.int IntKind.i64 (@OfNat.ofNat Int (nat_lit 0) (@instOfNat (nat_lit 0)))) (Value.int IntKind.i64 (@OfNat.ofNat Int (nat_lit 0) (@instOfNat (nat_lit 0))))) (And (@Eq Value (Value.bool false) (Value.bool false)) (And (@Eq Value (Value.int IntKind.i64 (@OfNat.ofNat Int (nat_lit 0) (@instOfNat (nat_lit 0)))) (Value.int IntKind.i64 (@OfNat.ofNat Int (nat_lit 0) (@instOfNat (nat_lit 0))))) (And (And (@Eq IntKind IntKind.u8 IntKind.u8) (And (@Eq Nat (@HSub.hSub Nat Nat Nat (@instHSub Nat instSubNat) (@OfNat.ofNat Nat (nat_lit 32) (instOfNatNat (nat_lit 32))) (@OfNat.ofNat Nat (nat_lit 0) (instOfNatNat (nat_lit 0)))) (@OfNat.ofNat Nat (nat_lit 32) (instOfNatNat (nat_lit 32)))) (@Eq (List Int) (@List.drop Int (@OfNat.ofNat Nat (nat_lit 0) (instOfNatNat (nat_lit 0))) (@List.replicate Int (@OfNat.ofNat Nat (nat_lit 32) (instOfNatNat (nat_lit 32))) (@OfNat.ofNat Int (nat_lit 0) (@instOfNat (nat_lit 0))))) (@List.replicate Int (@OfNat.ofNat Nat (nat_lit 32) (instOfNatNat (nat_lit 32))) (@OfNat.ofNat Int (nat_lit 0) (@instOfNat (nat_lit 0))))))) (And (@Eq Value (Value.int IntKind.u64 (@OfNat.ofNat Int (nat_lit 0) (@instOfNat (nat_lit 0)))) (Value.int IntKind.u64 (@OfNat.ofNat Int (nat_lit 0) (@instOfNat (nat_lit 0))))) True)))))) (And (And (@Eq (Option Addr) (@none Addr) (@none Addr)) (And (@Eq Nat (@OfNat.ofNat Nat (nat_lit 0) (instOfNatNat (nat_lit 0))) (@List.length Int (@List.nil Int))) (@Eq Nat (@OfNat.ofNat Nat (nat_lit 0) (instOfNatNat (nat_lit 0))) (@OfNat.ofNat Nat (nat_lit 0) (instOfNatNat (nat_lit 0)))))) (And (@Eq Value (Value.int IntKind.i64 (@OfNat.ofNat Int (nat_lit 40) (@instOfNat (nat_lit 40)))) (Value.int IntKind.i64 (@OfNat.ofNat Int (nat_lit 40) (@instOfNat (nat_lit 40))))) True))) (by kernel_rfl) (And.intro (And.intro (And.intro (rfl) (And.intro (rfl) (?_))) (And.intro (rfl) (And.intro (rfl) (And.intro (rfl) (And.intro (And.intro (rfl) (And.intro (rfl) (?_))) (And.intro (rfl) (trivial))))))) (And.intro (And.intro (rfl) (And.intro (?_) (rfl))) (And.intro (rfl) (trivial))))
      · simp
      · simp
      · rfl
    · refine Eq.mpr (β := (0 + 0 = 0 ∧ (true && true) = true) ∧ (g.b = g.b ∧ g.y = g.y ∧ (IntKind.u8 = IntKind.u8 ∧ g.m = g.m ∧ g.B = g.B) ∧ True) ∧ True) (by kernel_rfl) (And.intro (And.intro (rfl) (?_)) (And.intro (And.intro (rfl) (And.intro (rfl) (And.intro (And.intro (rfl) (And.intro (rfl) (rfl))) (trivial)))) (trivial)))
      rfl
    · show ApR.fits _ (payF g.l).length (payF g.l)
      rw [q2]
      exact ⟨Nat.le_refl _, Nat.le_refl _, .inr rfl, rfl, rfl⟩
  have h2 : numB g.l 85 4 = IntKind.u64.wrap (crc (g.l.take 85) 85) := by
    have h2 : (!decide (IntKind.u64.wrap (crc (GS.mk g.b g.off 85 g.c g.z g.m g.y g.B).l 85) = getN (GS.mk g.b (if g.c = 85 then g.off else g.off + 85) 4 (g.c - 85) g.z g.m g.y g.B).l 4)) = false := h2
    rw [hif85, hgn 85 4 _ (by omega), hgc] at h2
    exact Eq.symm (of_decide_eq_true (by simpa using h2))
  refine And.intro (fun _ => ?_) (fun hp => by cases hp)
  refine And.intro (by omega) ?_
  refine And.intro (fun _ => ?_) (fun hp => by cases hp)
  refine And.intro ⟨rfl, by omega⟩ ?_
  refine stE ([(29, SV.int .u8 (List.getD g.B (g.off + 40) 0)), (26, SV.bool false), (28, SV.c (Cel.ptr 0 g.b (g.off + 40))), (26, SV.bool false), (27, SV.c (Cel.sl 0 g.b g.off g.n g.c g.z)), (26, SV.bool false), (26, SV.bool (bif false then true else !decide (IntKind.wrap .u64 (crc (GS.l ⟨g.b, g.off, 85, g.c - 0, g.z, g.m, g.y, g.B⟩) 85) = getN (GS.l ⟨g.b, if g.c = 85 then g.off else g.off + 85, 4, g.c - 85, g.z, g.m, g.y, g.B⟩) 4))), (25, SV.bool (bif false then true else !decide (IntKind.wrap .u64 (crc (GS.l ⟨g.b, g.off, 85, g.c - 0, g.z, g.m, g.y, g.B⟩) 85) = getN (GS.l ⟨g.b, if g.c = 85 then g.off else g.off + 85, 4, g.c - 85, g.z, g.m, g.y, g.B⟩) 4))), (24, SV.bool !decide (IntKind.wrap .u64 (crc (GS.l ⟨g.b, g.off, 85, g.c - 0, g.z, g.m, g.y, g.B⟩) 85) = getN (GS.l ⟨g.b, if g.c = 85 then g.off else g.off + 85, 4, g.c - 85, g.z, g.m, g.y, g.B⟩) 4)), (16, SV.bool false), (23, SV.int .u64 (getN (GS.l ⟨g.b, if g.c = 85 then g.off else g.off + 85, 4, g.c - 85, g.z, g.m, g.y, g.B⟩) 4)), (16, SV.bool false), (20, SV.int .u64 (IntKind.wrap .u64 (crc (GS.l ⟨g.b, g.off, 85, g.c - 0, g.z, g.m, g.y, g.B⟩) 85))), (16, SV.bool false), (19, SV.int .u32 (crc (GS.l ⟨g.b, g.off, 85, g.c - 0, g.z, g.m, g.y, g.B⟩) 85)), (16, SV.bool false), (22, SV.c (Cel.sl 0 g.b (if g.c = 85 then g.off else g.off + 85) 4 (g.c - 85) g.z)), (16, SV.bool false), (21, SV.c (Cel.sl 0 g.b g.off g.n g.c g.z)), (16, SV.bool false), (18, SV.c (Cel.sl 0 g.b g.off 85 (g.c - 0) g.z)), (16, SV.bool false), (17, SV.c (Cel.sl 0 g.b g.off g.n g.c g.z)), (16, SV.bool false), (16, SV.bool (bif false then true else !ByteArray.toList (toBA (List.take 4 (List.drop g.off g.B))) == ByteArray.toList { data := { toList := [65, 77, 66, 82] : Array UInt8 } : ByteArray })), (15, SV.bool (bif false then true else !ByteArray.toList (toBA (List.take 4 (List.drop g.off g.B))) == ByteArray.toList { data := { toList := [65, 77, 66, 82] : Array UInt8 } : ByteArray })), (14, SV.bool !ByteArray.toList (toBA (List.take 4 (List.drop g.off g.B))) == ByteArray.toList { data := { toList := [65, 77, 66, 82] : Array UInt8 } : ByteArray }), (10, SV.bool false), (13, SV.c (Cel.v (Value.string (toBA (List.take 4 (List.drop g.off g.B)))))), (10, SV.bool false), (12, SV.c (Cel.sl 0 g.b g.off 4 (g.c - 0) g.z)), (10, SV.bool false), (11, SV.c (Cel.sl 0 g.b g.off g.n g.c g.z)), (10, SV.bool false), (10, SV.bool (decide ((↑g.n : Int) < 89))), (9, SV.bool (decide ((↑g.n : Int) < 89))), (8, SV.int .i64 (↑g.n : Int)), (7, SV.c (Cel.sl 0 g.b g.off g.n g.c g.z)), (4, SV.int .i64 0), (3, SV.c (Cel.v (Value.slice none 0 0))), (2, SV.c (Cel.ptr 1002 b2 0)), (0, SV.c (Cel.sl 0 g.b g.off g.n g.c g.z))]) ([(0, g.b, Cont.cells g.y [Cel.ints .u8 g.m g.B]), (1002, b2, Cont.cells 36 [Cel.ints .u8 32 (List.replicate 32 0), Cel.v (Value.int .i64 0), Cel.v (Value.bool false), Cel.v (Value.int .i64 0), Cel.ints .u8 32 (List.replicate 32 0), Cel.v (Value.int .u64 0)])]) (by kernel_rfl) (by kernel_rfl) ?_
  refine And.intro (fun _ => ?_) (fun hp => by cases hp)
  refine stepE (v := (SV.bool (decide (1 < List.getD g.B (g.off + 40) 0)))) (by kernel_rfl) ?_
  refine stE ([(30, SV.bool (decide (1 < List.getD g.B (g.off + 40) 0))), (26, SV.bool false), (29, SV.int .u8 (List.getD g.B (g.off + 40) 0)), (26, SV.bool false), (28, SV.c (Cel.ptr 0 g.b (g.off + 40))), (26, SV.bool false), (27, SV.c (Cel.sl 0 g.b g.off g.n g.c g.z)), (26, SV.bool false), (26, SV.bool (bif false then true else !decide (IntKind.wrap .u64 (crc (GS.l ⟨g.b, g.off, 85, g.c - 0, g.z, g.m, g.y, g.B⟩) 85) = getN (GS.l ⟨g.b, if g.c = 85 then g.off else g.off + 85, 4, g.c - 85, g.z, g.m, g.y, g.B⟩) 4))), (25, SV.bool (bif false then true else !decide (IntKind.wrap .u64 (crc (GS.l ⟨g.b, g.off, 85, g.c - 0, g.z, g.m, g.y, g.B⟩) 85) = getN (GS.l ⟨g.b, if g.c = 85 then g.off else g.off + 85, 4, g.c - 85, g.z, g.m, g.y, g.B⟩) 4))), (24, SV.bool !decide (IntKind.wrap .u64 (crc (GS.l ⟨g.b, g.off, 85, g.c - 0, g.z, g.m, g.y, g.B⟩) 85) = getN (GS.l ⟨g.b, if g.c = 85 then g.off else g.off + 85, 4, g.c - 85, g.z, g.m, g.y, g.B⟩) 4)), (16, SV.bool false), (23, SV.int .u64 (getN (GS.l ⟨g.b, if g.c = 85 then g.off else g.off + 85, 4, g.c - 85, g.z, g.m, g.y, g.B⟩) 4)), (16, SV.bool false), (20, SV.int .u64 (IntKind.wrap .u64 (crc (GS.l ⟨g.b, g.off, 85, g.c - 0, g.z, g.m, g.y, g.B⟩) 85))), (16, SV.bool false), (19, SV.int .u32 (crc (GS.l ⟨g.b, g.off, 85, g.c - 0, g.z, g.m, g.y, g.B⟩) 85)), (16, SV.bool false), (22, SV.c (Cel.sl 0 g.b (if g.c = 85 then g.off else g.off + 85) 4 (g.c - 85) g.z)), (16, SV.bool false), (21, SV.c (Cel.sl 0 g.b g.off g.n g.c g.z)), (16, SV.bool false), (18, SV.c (Cel.sl 0 g.b g.off 85 (g.c - 0) g.z)), (16, SV.bool false), (17, SV.c (Cel.sl 0 g.b g.off g.n g.c g.z)), (16, SV.bool false), (16, SV.bool (bif false then true else !ByteArray.toList (toBA (List.take 4 (List.drop g.off g.B))) == ByteArray.toList { data := { toList := [65, 77, 66, 82] : Array UInt8 } : ByteArray })), (15, SV.bool (bif false then true else !ByteArray.toList (toBA (List.take 4 (List.drop g.off g.B))) == ByteArray.toList { data := { toList := [65, 77, 66, 82] : Array UInt8 } : ByteArray })), (14, SV.bool !ByteArray.toList (toBA (List.take 4 (List.drop g.off g.B))) == ByteArray.toList { data := { toList := [65, 77, 66, 82] : Array UInt8 } : ByteArray }), (10, SV.bool false), (13, SV.c (Cel.v (Value.string (toBA (List.take 4 (List.drop g.off g.B)))))), (10, SV.bool false), (12, SV.c (Cel.sl 0 g.b g.off 4 (g.c - 0) g.z)), (10, SV.bool false), (11, SV.c (Cel.sl 0 g.b g.off g.n g.c g.z)), (10, SV.bool false), (10, SV.bool (decide ((↑g.n : Int) < 89))), (9, SV.bool (decide ((↑g.n : Int) < 89))), (8, SV.int .i64 (↑g.n : Int)), (7, SV.c (Cel.sl 0 g.b g.off g.n g.c g.z)), (4, SV.int .i64 0), (3, SV.c (Cel.v (Value.slice none 0 0))), (2, SV.c (Cel.ptr 1002 b2 0)), (0, SV.c (Cel.sl 0 g.b g.off g.n g.c g.z))]) ([(0, g.b, Cont.cells g.y [Cel.ints .u8 g.m g.B]), (1002, b2, Cont.cells 36 [Cel.ints .u8 32 (List.replicate 32 0), Cel.v (Value.int .i64 0), Cel.v (Value.bool false), Cel.v (Value.int .i64 0), Cel.ints .u8 32 (List.replicate 32 0), Cel.v (Value.int .u64 0)])]) (by kernel_rfl) (by kernel_rfl) ?_
  refine ⟨fun h3 => ?_, fun h3 => ?_⟩
  · have hbad : badF g.l := by
      have h3 : (decide (1 < g.B.getD (g.off + 40) 0)) = true := h3
      rw [hg40] at h3
      exact .inr (.inr (.inr (.inl (of_decide_eq_true h3))))
    obtain ⟨q1, q2, q3⟩ := bad_res (g := g) hbad
    refine And.intro ⟨rfl, by omega⟩ ?_
    refine And.intro rfl ?_
    refine ⟨⟨0, 0, 0, 0, 1, 0, []⟩, [99999, 0], ?_, rfl, rfl, ?_, ?_⟩
    · show SV.same _ (.tup [.agg (openF g.l).cels, .c (.sl 100 0 0 (payF g.l).length 0 1), .c (.v (.int .i64 (errF g.l)))])
      rw [q1, q2, q3]
      refine Eq.mpr (β := And (And (And (@Eq IntKind IntKind.u8 IntKind.u8) (And (@Eq Nat (@HSub.hSub Nat Nat Nat (@instHSub Nat instSubNat) (@OfNat.ofNat Nat (nat_lit 32) (instOfNatNat (nat_lit 32))) (@OfNat.ofNat Nat (nat_lit 0) (instOfNatNat (nat_lit 0)))) (@OfNat.ofNat Nat (nat_lit 32) (instOfNatNat (nat_lit 32)))) (@Eq (List Int) (@List.drop Int (@OfNat.ofNat Nat (nat_lit 0) (instOfNatNat (nat_lit 0))) (@List.replicate Int (@OfNat.ofNat Nat (nat_lit 32) (instOfNatNat (nat_lit 32))) (@OfNat.ofNat Int (nat_lit 0) (@instOfNat (nat_lit 0))))) (@List.replicate Int (@OfNat.ofNat Nat (nat_lit 32) (instOfNatNat (nat_lit 32))) (@OfNat.ofNat Int (nat_lit 0) (@instOfNat (nat_lit 0))))))) (And (@Eq Value (Value.int IntKind.i64 (@OfNat.ofNat Int (nat_lit 0) (@instOfNat (nat_lit 0)))) (Value.int IntKind.i64 (@OfNat.ofNat Int (nat_lit 0) (@instOfNat (nat_lit 0))))) (And (@Eq Value (Value.bool false) (Value.bool false)) (And (@Eq Value (Value.int IntKind.i64 (@OfNat.ofNat Int (nat_lit 0) (@instOfNat (nat_lit 0)))) (Value.int IntKind.i64 (@OfNat.ofNat Int (nat_lit 0) (@instOfNat (nat_lit 0))))) (And (And (@Eq IntKind IntKind.u8 IntKind.u8) (And (@Eq Nat (@HSub.hSub Nat Nat Nat (@instHSub Nat instSubNat) (@OfNat.ofNat Nat (nat_lit 32) (instOfNatNat (nat_lit 32))) (@OfNat.ofNat Nat (nat_lit 0) (instOfNatNat (nat_lit 0)))) (@OfNat.ofNat Nat (nat_lit 32) (instOfNatNat (nat_lit 32)))) (@Eq (List Int) (@List.drop Int (@OfNat.ofNat Nat (nat_lit 0) (instOfNatNat (nat_lit 0))) (@List.replicate Int (@OfNat.ofNat Nat (nat_lit 32) (instOfNatNat (nat_lit 32))) (@OfNat.ofNat Int (nat_lit 0) (@instOfNat (nat_lit 0))))) (@List.replicate Int (@OfNat.ofNat Nat (nat_lit 32) (instOfNatNat (nat_lit 32))) (@OfNat.ofNat Int (nat_lit 0) (@instOfNat (nat_lit 0))))))) (And (@Eq Value (Value.int IntKind.u64 (@OfNat.ofNat Int (nat_lit 0) (@instOfNat (nat_lit 0)))) (Value.int IntKind.u64 (@OfNat.ofNat Int (nat_lit 0) (@instOfNat (nat_lit 0))))) True)))))) (And (And (@Eq (Option Addr) (@none Addr) (@none Addr)) (And (@Eq Nat (@OfNat.ofNat Nat (nat_lit 0) (instOfNatNat (nat_lit 0))) (@List.length Int (@List.nil Int))) (@Eq Nat (@OfNat.ofNat Nat (nat_lit 0) (instOfNatNat (nat_lit 0))) (@OfNat.ofNat Nat (nat_lit 0) (instOfNatNat (nat_lit 0)))))) (And (@Eq Value (Value.int IntKind.i64 (@OfNat.ofNat Int (nat_lit 40) (@instOfNat (nat_lit 40)))) (Value.int IntKind.i64 (@OfNat.ofNat Int (nat_lit 40) (@instOfNat (nat_lit 40))))) True))) (by kernel_rfl) (And.intro (And.intro (And.intro (rfl) (And.intro (rfl) (?_))) (And.intro (rfl) (And.intro (rfl) (And.intro (rfl) (And.intro (And.intro (rfl) (And.intro (rfl) (?_))) (And.intro (rfl) (trivial))))))) (And.intro (And.intro (rfl) (And.intro (?_) (rfl))) (And.intro (rfl) (trivial))))
      · simp
      · simp
      · rfl
    · refine Eq.mpr (β := (0 + 0 = 0 ∧ (true && true) = true) ∧ (g.b = g.b ∧ g.y = g.y ∧ (IntKind.u8 = IntKind.u8 ∧ g.m = g.m ∧ g.B = g.B) ∧ True) ∧ True) (by kernel_rfl) (And.intro (And.intro (rfl) (?_)) (And.intro (And.intro (rfl) (And.intro (rfl) (And.intro (And.intro (rfl) (And.intro (rfl) (rfl))) (trivial)))) (trivial)))
      rfl
    · show ApR.fits _ (payF g.l).length (payF g.l)
      rw [q2]
      exact ⟨Nat.le_refl _, Nat.le_refl _, .inr rfl, rfl, rfl⟩
  have h3 : ¬ 1 < g.l.getD 40 0 := by
    have h3 : (decide (1 < g.B.getD (g.off + 40) 0)) = false := h3
    rw [hg40] at h3
    exact of_decide_eq_false h3
  have hs41 : IntKind.i64.wrap (getN (GS.mk g.b (if g.c = 41 then g.off else g.off + 41) 4 (g.c - 41) g.z g.m g.y g.B).l 4) = sizeF g.l := by
    rw [hif41, hgn 41 4 _ (by omega)]
    exact hwi
  refine ⟨inv23 g b2, ?_, ?_⟩
  · refine And.intro (by omega) ?_
    refine And.intro (And.intro (And.intro (And.intro (rfl) (And.intro (rfl) (And.intro (rfl) (And.intro (rfl) (rfl))))) (trivial)) (And.intro (And.intro (And.intro (And.intro (rfl) (And.intro (rfl) (And.intro (And.intro (rfl) (And.intro (rfl) (rfl))) (trivial)))) (trivial)) (rfl)) (And.intro (rfl) (And.intro (rfl) (And.intro (rfl) (And.intro (rfl) (And.intro (And.intro (Eq.mpr (β := (if g.c = 41 then g.off else g.off + 41) + (g.c - 41) ≤ g.m) (by kernel_rfl) (by omega)) (And.intro (Eq.mpr (β := 4 ≤ g.c - 41) (by kernel_rfl) (by omega)) (And.intro (Eq.mpr (β := g.z = 0 ∨ g.c - 41 = 0) (by kernel_rfl) (by omega)) (by omega)))) (Eq.mpr (β := 4 ≤ 1099511627776) (by kernel_rfl) (by omega))))))))) (fun (_ : Unit) _ => ?_)
    refine stE ([(35, SV.int .u64 (getN (GS.l ⟨g.b, if g.c = 41 then g.off else g.off + 41, 4, g.c - 41, g.z, g.m, g.y, g.B⟩) 4)), (34, SV.c (Cel.sl 0 g.b (if g.c = 41 then g.off else g.off + 41) 4 (g.c - 41) g.z)), (33, SV.c (Cel.sl 0 g.b g.off g.n g.c g.z)), (31, SV.bool (bif false then true else decide (1 < List.getD g.B (g.off + 40) 0))), (4, SV.int .i64 0), (3, SV.c (Cel.v (Value.slice none 0 0))), (2, SV.c (Cel.ptr 1002 b2 0)), (0, SV.c (Cel.sl 0 g.b g.off g.n g.c g.z))]) ([(0, g.b, Cont.cells g.y [Cel.ints .u8 g.m g.B]), (1002, b2, Cont.cells 36 [Cel.ints .u8 32 (List.replicate 32 0), Cel.v (Value.int .i64 0), Cel.v (Value.bool false), Cel.v (Value.int .i64 0), Cel.ints .u8 32 (List.replicate 32 0), Cel.v (Value.int .u64 0)])]) (by kernel_rfl) (by kernel_rfl) ?_
    refine ⟨(), [0, 1002], rfl, rfl, ?_, ?_, trivial, trivial⟩
    · refine Eq.mpr (β := (g.b = g.b ∧ g.off = g.off ∧ g.n = g.n ∧ g.c = g.c ∧ g.z = g.z) ∧ ({ o := b2, ro := false : Blk } = { o := b2, ro := false : Blk } ∧ 0 = 0) ∧ Value.int IntKind.i64 (IntKind.wrap IntKind.i64 (getN (GS.l { b := g.b, off := if g.c = 41 then g.off else g.off + 41, n := 4, c := g.c - 41, z := g.z, m := g.m, y := g.y, B := g.B : GS }) 4)) = Value.int IntKind.i64 (sizeF (GS.l g)) ∧ True) (by kernel_rfl) (And.intro (And.intro (rfl) (And.intro (rfl) (And.intro (rfl) (And.intro (rfl) (rfl))))) (And.intro (And.intro (rfl) (rfl)) (And.intro (intE (by omega)) (trivial))))
    · refine Eq.mpr (β := (g.b = g.b ∧ g.y = g.y ∧ (IntKind.u8 = IntKind.u8 ∧ g.m = g.m ∧ g.B = g.B) ∧ True) ∧ ({ o := b2, ro := false : Blk } = { o := b2, ro := false : Blk } ∧ (36 : Nat) = (36 : TypeId) ∧ (IntKind.u8 = IntKind.u8 ∧ (32 : Nat) = (32 : Nat) ∧ List.replicate (32 : Nat) (0 : Int) = List.replicate (32 : Nat) (0 : Int)) ∧ Value.int IntKind.i64 (0 : Int) = Value.int IntKind.i64 (0 : Int) ∧ Value.bool false = Value.bool false ∧ Value.int IntKind.i64 (0 : Int) = Value.int IntKind.i64 (0 : Int) ∧ (IntKind.u8 = IntKind.u8 ∧ (32 : Nat) = (32 : Nat) ∧ List.replicate (32 : Nat) (0 : Int) = List.replicate (32 : Nat) (0 : Int)) ∧ Value.int IntKind.u64 (0 : Int) = Value.int IntKind.u64 (0 : Int) ∧ True) ∧ True) (by kernel_rfl) (And.intro (And.intro (rfl) (And.intro (rfl) (And.intro (And.intro (rfl) (And.intro (rfl) (rfl))) (trivial)))) (And.intro (And.intro (rfl) (And.intro (rfl) (And.intro (And.intro (rfl) (And.intro (rfl) (rfl))) (And.intro (rfl) (And.intro (rfl) (And.intro (rfl) (And.intro (And.intro (rfl) (And.intro (rfl) (rfl))) (And.intro (rfl) (trivial))))))))) (trivial)))
  rintro ⟨⟩ _
  obtain ⟨k, hk⟩ : ∃ k : Nat, sizeF g.l = (k : Int) := ⟨(sizeF g.l).toNat, by omega⟩
  skip
  refine ⟨fun h4 => ?_, fun h4 => ?_⟩
  rotate_left
  · have hbad : badF g.l := by
      have h4 : (decide (4096 < sizeF g.l)) = true := h4

      exact .inr (.inr (.inr (.inr (.inl (of_decide_eq_true h4)))))
    refine ⟨rfl, ?_⟩
    obtain ⟨q1, q2, q3⟩ := bad_res (g := g) hbad
    refine And.intro (fun h => by cases h) (fun _ => And.intro rfl ?_)
    refine And.intro (fun h => by cases h) (fun _ => And.intro rfl ?_)
    refine And.intro (fun h => by cases h) (fun _ => And.intro rfl ?_)
    refine And.intro (fun h => by cases h) (fun _ => And.intro rfl ?_)
    refine stE ([(44, SV.c (Cel.v (Value.tuple { toList := [] : Array Value }))), (39, SV.bool !false), (43, SV.c (Cel.v (Value.tuple { toList := [] : Array Value }))), (39, SV.bool !false), (42, SV.c (Cel.v (Value.tuple { toList := [] : Array Value }))), (39, SV.bool !false), (41, SV.c (Cel.v (Value.tuple { toList := [] : Array Value }))), (39, SV.bool !false), (40, SV.c (Cel.v (Value.tuple { toList := [] : Array Value }))), (39, SV.bool !false), (39, SV.bool (decide (4096 < sizeF (GS.l g)))), (38, SV.bool (decide (4096 < sizeF (GS.l g)))), (37, SV.int .i64 (sizeF (GS.l g))), (0, SV.c (Cel.sl 0 g.b g.off g.n g.c g.z)), (2, SV.c (Cel.ptr 2 b2 0)), (5, SV.int .i64 (sizeF (GS.l g)))]) ([(0, g.b, Cont.cells g.y [Cel.ints .u8 g.m g.B]), (2, b2, Cont.cells 36 [Cel.ints .u8 32 (List.replicate 32 0), Cel.v (Value.int .i64 0), Cel.v (Value.bool false), Cel.v (Value.int .i64 0), Cel.ints .u8 32 (List.replicate 32 0), Cel.v (Value.int .u64 0)])]) (by kernel_rfl) (by kernel_rfl) ?_
    refine And.intro (fun _ => ?_) (fun hp => by cases hp)
    refine And.intro ⟨rfl, by omega⟩ ?_
    refine And.intro rfl ?_
    refine ⟨⟨0, 0, 0, 0, 1, 0, []⟩, [99999, 0], ?_, rfl, rfl, ?_, ?_⟩
    · show SV.same _ (.tup [.agg (openF g.l).cels, .c (.sl 100 0 0 (payF g.l).length 0 1), .c (.v (.int .i64 (errF g.l)))])
      rw [q1, q2, q3]
      refine Eq.mpr (β := And (And (And (@Eq IntKind IntKind.u8 IntKind.u8) (And (@Eq Nat (@HSub.hSub Nat Nat Nat (@instHSub Nat instSubNat) (@OfNat.ofNat Nat (nat_lit 32) (instOfNatNat (nat_lit 32))) (@OfNat.ofNat Nat (nat_lit 0) (instOfNatNat (nat_lit 0)))) (@OfNat.ofNat Nat (nat_lit 32) (instOfNatNat (nat_lit 32)))) (@Eq (List Int) (@List.drop Int (@OfNat.ofNat Nat (nat_lit 0) (instOfNatNat (nat_lit 0))) (@List.replicate Int (@OfNat.ofNat Nat (nat_lit 32) (instOfNatNat (nat_lit 32))) (@OfNat.ofNat Int (nat_lit 0) (@instOfNat (nat_lit 0))))) (@List.replicate Int (@OfNat.ofNat Nat (nat_lit 32) (instOfNatNat (nat_lit 32))) (@OfNat.ofNat Int (nat_lit 0) (@instOfNat (nat_lit 0))))))) (And (@Eq Value (Value.int IntKind.i64 (@OfNat.ofNat Int (nat_lit 0) (@instOfNat (nat_lit 0)))) (Value.int IntKind.i64 (@OfNat.ofNat Int (nat_lit 0) (@instOfNat (nat_lit 0))))) (And (@Eq Value (Value.bool false) (Value.bool false)) (And (@Eq Value (Value.int IntKind.i64 (@OfNat.ofNat Int (nat_lit 0) (@instOfNat (nat_lit 0)))) (Value.int IntKind.i64 (@OfNat.ofNat Int (nat_lit 0) (@instOfNat (nat_lit 0))))) (And (And (@Eq IntKind IntKind.u8 IntKind.u8) (And (@Eq Nat (@HSub.hSub Nat Nat Nat (@instHSub Nat instSubNat) (@OfNat.ofNat Nat (nat_lit 32) (instOfNatNat (nat_lit 32))) (@OfNat.ofNat Nat (nat_lit 0) (instOfNatNat (nat_lit 0)))) (@OfNat.ofNat Nat (nat_lit 32) (instOfNatNat (nat_lit 32)))) (@Eq (List Int) (@List.drop Int (@OfNat.ofNat Nat (nat_lit 0) (instOfNatNat (nat_lit 0))) (@List.replicate Int (@OfNat.ofNat Nat (nat_lit 32) (instOfNatNat (nat_lit 32))) (@OfNat.ofNat Int (nat_lit 0) (@instOfNat (nat_lit 0))))) (@List.replicate Int (@OfNat.ofNat Nat (nat_lit 32) (instOfNatNat (nat_lit 32))) (@OfNat.ofNat Int (nat_lit 0) (@instOfNat (nat_lit 0))))))) (And (@Eq Value (Value.int IntKind.u64 (@OfNat.ofNat Int (nat_lit 0) (@instOfNat (nat_lit 0)))) (Value.int IntKind.u64 (@OfNat.ofNat Int (nat_lit 0) (@instOfNat (nat_lit 0))))) True)))))) (And (And (@Eq (Option Addr) (@none Addr) (@none Addr)) (And (@Eq Nat (@OfNat.ofNat Nat (nat_lit 0) (instOfNatNat (nat_lit 0))) (@List.length Int (@List.nil Int))) (@Eq Nat (@OfNat.ofNat Nat (nat_lit 0) (instOfNatNat (nat_lit 0))) (@OfNat.ofNat Nat (nat_lit 0) (instOfNatNat (nat_lit 0)))))) (And (@Eq Value (Value.int IntKind.i64 (@OfNat.ofNat Int (nat_lit 40) (@instOfNat (nat_lit 40)))) (Value.int IntKind.i64 (@OfNat.ofNat Int (nat_lit 40) (@instOfNat (nat_lit 40))))) True))) (by kernel_rfl) (And.intro (And.intro (And.intro (rfl) (And.intro (rfl) (?_))) (And.intro (rfl) (And.intro (rfl) (And.intro (rfl) (And.intro (And.intro (rfl) (And.intro (rfl) (?_))) (And.intro (rfl) (trivial))))))) (And.intro (And.intro (rfl) (And.intro (?_) (rfl))) (And.intro (rfl) (trivial))))
      · simp
      · simp
      · rfl
    · refine Eq.mpr (β := (0 + 0 = 0 ∧ (true && true) = true) ∧ (g.b = g.b ∧ g.y = g.y ∧ (IntKind.u8 = IntKind.u8 ∧ g.m = g.m ∧ g.B = g.B) ∧ True) ∧ True) (by kernel_rfl) (And.intro (And.intro (rfl) (?_)) (And.intro (And.intro (rfl) (And.intro (rfl) (And.intro (And.intro (rfl) (And.intro (rfl) (rfl))) (trivial)))) (trivial)))
      rfl
    · show ApR.fits _ (payF g.l).length (payF g.l)
      rw [q2]
      exact ⟨Nat.le_refl _, Nat.le_refl _, .inr rfl, rfl, rfl⟩
  have h4 : ¬ 4096 < sizeF g.l := by
    have h4 : (decide (4096 < sizeF g.l)) = false := h4
    exact of_decide_eq_false h4
  refine And.intro (fun _ => ?_) (fun hp => by cases hp)
  refine And.intro (fun _ => ?_) (fun hp => by cases hp)
  refine And.intro (fun _ => ?_) (fun hp => by cases hp)
  refine And.intro (by omega) ?_
  refine stE ([(43, SV.int .i64 (89 + sizeF (GS.l g))), (39, SV.bool false), (42, SV.int .i64 (sizeF (GS.l g))), (39, SV.bool false), (41, SV.int .i64 (↑g.n : Int)), (39, SV.bool false), (40, SV.c (Cel.sl 0 g.b g.off g.n g.c g.z)), (39, SV.bool false), (39, SV.bool (decide (4096 < sizeF (GS.l g)))), (38, SV.bool (decide (4096 < sizeF (GS.l g)))), (37, SV.int .i64 (sizeF (GS.l g))), (0, SV.c (Cel.sl 0 g.b g.off g.n g.c g.z)), (2, SV.c (Cel.ptr 2 b2 0)), (5, SV.int .i64 (sizeF (GS.l g)))]) ([(0, g.b, Cont.cells g.y [Cel.ints .u8 g.m g.B]), (2, b2, Cont.cells 36 [Cel.ints .u8 32 (List.replicate 32 0), Cel.v (Value.int .i64 0), Cel.v (Value.bool false), Cel.v (Value.int .i64 0), Cel.ints .u8 32 (List.replicate 32 0), Cel.v (Value.int .u64 0)])]) (by kernel_rfl) (by kernel_rfl) ?_
  refine And.intro (fun _ => ?_) (fun hp => by cases hp)
  refine stepE (v := (SV.bool (decide ((↑g.n : Int) < 89 + sizeF (GS.l g))))) (by kernel_rfl) ?_
  refine stE ([(44, SV.bool (decide ((↑g.n : Int) < 89 + sizeF (GS.l g)))), (39, SV.bool false), (43, SV.int .i64 (89 + sizeF (GS.l g))), (39, SV.bool false), (42, SV.int .i64 (sizeF (GS.l g))), (39, SV.bool false), (41, SV.int .i64 (↑g.n : Int)), (39, SV.bool false), (40, SV.c (Cel.sl 0 g.b g.off g.n g.c g.z)), (39, SV.bool false), (39, SV.bool (decide (4096 < sizeF (GS.l g)))), (38, SV.bool (decide (4096 < sizeF (GS.l g)))), (37, SV.int .i64 (sizeF (GS.l g))), (0, SV.c (Cel.sl 0 g.b g.off g.n g.c g.z)), (2, SV.c (Cel.ptr 2 b2 0)), (5, SV.int .i64 (sizeF (GS.l g)))]) ([(0, g.b, Cont.cells g.y [Cel.ints .u8 g.m g.B]), (2, b2, Cont.cells 36 [Cel.ints .u8 32 (List.replicate 32 0), Cel.v (Value.int .i64 0), Cel.v (Value.bool false), Cel.v (Value.int .i64 0), Cel.ints .u8 32 (List.replicate 32 0), Cel.v (Value.int .u64 0)])]) (by kernel_rfl) (by kernel_rfl) ?_
  refine ⟨fun h5 => ?_, fun h5 => ?_⟩
  · have hbad : badF g.l := by
      have h5 : (decide ((g.n : Int) < 89 + sizeF g.l)) = true := h5

      exact .inr (.inr (.inr (.inr (.inr (.inl (by have := of_decide_eq_true h5; omega))))))
    obtain ⟨q1, q2, q3⟩ := bad_res (g := g) hbad
    refine And.intro ⟨rfl, by omega⟩ ?_
    refine And.intro rfl ?_
    refine ⟨⟨0, 0, 0, 0, 1, 0, []⟩, [99999, 0], ?_, rfl, rfl, ?_, ?_⟩
    · show SV.same _ (.tup [.agg (openF g.l).cels, .c (.sl 100 0 0 (payF g.l).length 0 1), .c (.v (.int .i64 (errF g.l)))])
      rw [q1, q2, q3]
      refine Eq.mpr (β := And (And (And (@Eq IntKind IntKind.u8 IntKind.u8) (And (@Eq Nat (@HSub.hSub Nat Nat Nat (@instHSub Nat instSubNat) (@OfNat.ofNat Nat (nat_lit 32) (instOfNatNat (nat_lit 32))) (@OfNat.ofNat Nat (nat_lit 0) (instOfNatNat (nat_lit 0)))) (@OfNat.ofNat Nat (nat_lit 32) (instOfNatNat (nat_lit 32)))) (@Eq (List Int) (@List.drop Int (@OfNat.ofNat Nat (nat_lit 0) (instOfNatNat (nat_lit 0))) (@List.replicate Int (@OfNat.ofNat Nat (nat_lit 32) (instOfNatNat (nat_lit 32))) (@OfNat.ofNat Int (nat_lit 0) (@instOfNat (nat_lit 0))))) (@List.replicate Int (@OfNat.ofNat Nat (nat_lit 32) (instOfNatNat (nat_lit 32))) (@OfNat.ofNat Int (nat_lit 0) (@instOfNat (nat_lit 0))))))) (And (@Eq Value (Value.int IntKind.i64 (@OfNat.ofNat Int (nat_lit 0) (@instOfNat (nat_lit 0)))) (Value.int IntKind.i64 (@OfNat.ofNat Int (nat_lit 0) (@instOfNat (nat_lit 0))))) (And (@Eq Value (Value.bool false) (Value.bool false)) (And (@Eq Value (Value.int IntKind.i64 (@OfNat.ofNat Int (nat_lit 0) (@instOfNat (nat_lit 0)))) (Value.int IntKind.i64 (@OfNat.ofNat Int (nat_lit 0) (@instOfNat (nat_lit 0))))) (And (And (@Eq IntKind IntKind.u8 IntKind.u8) (And (@Eq Nat (@HSub.hSub Nat Nat Nat (@instHSub Nat instSubNat) (@OfNat.ofNat Nat (nat_lit 32) (instOfNatNat (nat_lit 32))) (@OfNat.ofNat Nat (nat_lit 0) (instOfNatNat (nat_lit 0)))) (@OfNat.ofNat Nat (nat_lit 32) (instOfNatNat (nat_lit 32)))) (@Eq (List Int) (@List.drop Int (@OfNat.ofNat Nat (nat_lit 0) (instOfNatNat (nat_lit 0))) (@List.replicate Int (@OfNat.ofNat Nat (nat_lit 32) (instOfNatNat (nat_lit 32))) (@OfNat.ofNat Int (nat_lit 0) (@instOfNat (nat_lit 0))))) (@List.replicate Int (@OfNat.ofNat Nat (nat_lit 32) (instOfNatNat (nat_lit 32))) (@OfNat.ofNat Int (nat_lit 0) (@instOfNat (nat_lit 0))))))) (And (@Eq Value (Value.int IntKind.u64 (@OfNat.ofNat Int (nat_lit 0) (@instOfNat (nat_lit 0)))) (Value.int IntKind.u64 (@OfNat.ofNat Int (nat_lit 0) (@instOfNat (nat_lit 0))))) True)))))) (And (And (@Eq (Option Addr) (@none Addr) (@none Addr)) (And (@Eq Nat (@OfNat.ofNat Nat (nat_lit 0) (instOfNatNat (nat_lit 0))) (@List.length Int (@List.nil Int))) (@Eq Nat (@OfNat.ofNat Nat (nat_lit 0) (instOfNatNat (nat_lit 0))) (@OfNat.ofNat Nat (nat_lit 0) (instOfNatNat (nat_lit 0)))))) (And (@Eq Value (Value.int IntKind.i64 (@OfNat.ofNat Int (nat_lit 40) (@instOfNat (nat_lit 40)))) (Value.int IntKind.i64 (@OfNat.ofNat Int (nat_lit 40) (@instOfNat (nat_lit 40))))) True))) (by kernel_rfl) (And.intro (And.intro (And.intro (rfl) (And.intro (rfl) (?_))) (And.intro (rfl) (And.intro (rfl) (And.intro (rfl) (And.intro (And.intro (rfl) (And.intro (rfl) (?_))) (And.intro (rfl) (trivial))))))) (And.intro (And.intro (rfl) (And.intro (?_) (rfl))) (And.intro (rfl) (trivial))))
      · simp
      · simp
      · rfl
    · refine Eq.mpr (β := (0 + 0 = 0 ∧ (true && true) = true) ∧ (g.b = g.b ∧ g.y = g.y ∧ (IntKind.u8 = IntKind.u8 ∧ g.m = g.m ∧ g.B = g.B) ∧ True) ∧ True) (by kernel_rfl) (And.intro (And.intro (rfl) (?_)) (And.intro (And.intro (rfl) (And.intro (rfl) (And.intro (And.intro (rfl) (And.intro (rfl) (rfl))) (trivial)))) (trivial)))
      rfl
    · show ApR.fits _ (payF g.l).length (payF g.l)
      rw [q2]
      exact ⟨Nat.le_refl _, Nat.le_refl _, .inr rfl, rfl, rfl⟩
  have h5 : ¬ (g.n : Int) - 89 < sizeF g.l := by
    have h5 : (decide ((g.n : Int) < 89 + sizeF g.l)) = false := h5
    have := of_decide_eq_false h5
    omega
  have hkn : 89 + k ≤ g.n := by omega
  have hn1 : (89 + sizeF g.l).toNat - 89 = k := by omega
  obtain ⟨o', ho'⟩ : ∃ o', (if g.c = 89 then g.off else g.off + 89) = o' := ⟨_, rfl⟩
  have hoff : o' + (g.c - 89) ≤ g.m := by rw [← ho']; split <;> omega
  have hpl : (g.B.drop o').take k = payR g.l := by
    rw [← ho']
    unfold payR
    rw [hk, Int.toNat_natCast]
    split
    · have : k = 0 := by omega
      subst this
      simp
    · rw [← part_eq (n := g.n) (by omega)]; rfl
  refine And.intro (by omega) ?_
  refine And.intro (by omega) ?_
  refine And.intro (And.intro (And.intro (And.intro (rfl) (rfl)) (And.intro (rfl) (And.intro (Eq.mpr (β := (if g.c = 89 then g.off else g.off + 89) + (Int.toNat (89 + sizeF (GS.l g)) - 89) ≤ g.m) (by kernel_rfl) (by omega)) (by omega)))) (by omega)) ?_
  intro r hr
  replace hr : ApR.fits r (0 + (Int.toNat (89 + sizeF (GS.l g)) - Int.toNat 89)) ([] ++ List.take (Int.toNat (89 + sizeF (GS.l g)) - Int.toNat 89) (List.drop (if g.c = Int.toNat 89 then g.off else g.off + Int.toNat 89 * 1) g.B)) := Eq.mp (by kernel_rfl) hr
  have hr : r.fits k (payR g.l) := by
    refine fits_of hr (by omega) ?_
    show [] ++ List.take ((89 + sizeF g.l).toNat - 89) (List.drop (if g.c = 89 then g.off else g.off + 89) g.B) = payR g.l
    rw [List.nil_append, ho', hn1]
    exact hpl
  obtain ⟨r1, r2, r3, r4, r5⟩ := hr
  refine And.intro (by kernel_rfl) ?_
  refine And.intro (by omega) ?_
  refine And.intro (by omega) ?_
  refine And.intro (And.intro (rfl) (Eq.mpr (β := (if g.c = 45 then g.off else g.off + 45) + 32 ≤ g.m) (by kernel_rfl) (by omega))) ?_
  refine stE ([(57, SV.agg [Cel.ints .u8 32 (List.take 32 (List.drop (if g.c = 45 then g.off else g.off + 45) g.B))]), (56, SV.c (Cel.ptr 0 g.b (if g.c = 45 then g.off else g.off + 45))), (55, SV.c (Cel.sl 0 g.b (if g.c = 45 then g.off else g.off + 45) 32 (g.c - 45) g.z)), (54, SV.c (Cel.sl 0 g.b g.off g.n g.c g.z)), (52, SV.c (Cel.sl 1051 r.b r.off (0 + (Int.toNat (89 + sizeF (GS.l g)) - 89)) r.cap r.z)), (6, SV.c (Cel.sl 1051 r.b r.off (0 + (Int.toNat (89 + sizeF (GS.l g)) - 89)) r.cap r.z)), (45, SV.bool (bif false then true else decide ((↑g.n : Int) < 89 + sizeF (GS.l g)))), (0, SV.c (Cel.sl 0 g.b g.off g.n g.c g.z)), (2, SV.c (Cel.ptr 2 b2 0)), (5, SV.int .i64 (sizeF (GS.l g)))]) ([(0, g.b, Cont.cells g.y [Cel.ints .u8 g.m g.B]), (2, b2, Cont.cells 36 [Cel.ints .u8 32 (List.replicate 32 0), Cel.v (Value.int .i64 0), Cel.v (Value.bool false), Cel.v (Value.int .i64 0), Cel.ints .u8 32 (List.replicate 32 0), Cel.v (Value.int .u64 0)]), (1051, r.b, Cont.cells r.y [Cel.ints .u8 r.m r.L])]) (by kernel_rfl) (by kernel_rfl) ?_
  refine And.intro (And.intro (And.intro (And.intro (rfl) (And.intro (rfl) (And.intro (rfl) (And.intro (rfl) (rfl))))) (trivial)) (And.intro (And.intro (And.intro (And.intro (rfl) (And.intro (rfl) (And.intro (And.intro (rfl) (And.intro (rfl) (rfl))) (trivial)))) (trivial)) (rfl)) (And.intro (rfl) (And.intro (rfl) (And.intro (rfl) (And.intro (rfl) (And.intro (And.intro (by omega) (And.intro (Eq.mpr (β := 0 + (Int.toNat (89 + sizeF (GS.l g)) - 89) ≤ r.cap) (by kernel_rfl) (by omega)) (And.intro (by omega) (by omega)))) (Eq.mpr (β := 0 + (Int.toNat (89 + sizeF (GS.l g)) - 89) ≤ 1099511627776) (by kernel_rfl) (by omega))))))))) (fun (_ : Unit) _ => ?_)
  refine stE ([(53, SV.agg [Cel.ints .u8 32 (sumL (GS.l ⟨r.b, r.off, 0 + (Int.toNat (89 + sizeF (GS.l g)) - 89), r.cap, r.z, r.m, r.y, r.L⟩) (0 + (Int.toNat (89 + sizeF (GS.l g)) - 89)))]), (57, SV.agg [Cel.ints .u8 32 (List.take 32 (List.drop (if g.c = 45 then g.off else g.off + 45) g.B))]), (56, SV.c (Cel.ptr 0 g.b (if g.c = 45 then g.off else g.off + 45))), (55, SV.c (Cel.sl 0 g.b (if g.c = 45 then g.off else g.off + 45) 32 (g.c - 45) g.z)), (54, SV.c (Cel.sl 0 g.b g.off g.n g.c g.z)), (52, SV.c (Cel.sl 1051 r.b r.off (0 + (Int.toNat (89 + sizeF (GS.l g)) - 89)) r.cap r.z)), (6, SV.c (Cel.sl 1051 r.b r.off (0 + (Int.toNat (89 + sizeF (GS.l g)) - 89)) r.cap r.z)), (45, SV.bool (bif false then true else decide ((↑g.n : Int) < 89 + sizeF (GS.l g)))), (0, SV.c (Cel.sl 0 g.b g.off g.n g.c g.z)), (2, SV.c (Cel.ptr 2 b2 0)), (5, SV.int .i64 (sizeF (GS.l g)))]) ([(0, g.b, Cont.cells g.y [Cel.ints .u8 g.m g.B]), (2, b2, Cont.cells 36 [Cel.ints .u8 32 (List.replicate 32 0), Cel.v (Value.int .i64 0), Cel.v (Value.bool false), Cel.v (Value.int .i64 0), Cel.ints .u8 32 (List.replicate 32 0), Cel.v (Value.int .u64 0)]), (1051, r.b, Cont.cells r.y [Cel.ints .u8 r.m r.L])]) (by kernel_rfl) (by kernel_rfl) ?_
  have hN : (0 + ((89 + sizeF g.l).toNat - 89)) = k := by omega
  have hX : sumL (GS.mk r.b r.off (0 + ((89 + sizeF g.l).toNat - 89)) r.cap r.z r.m r.y r.L).l (0 + ((89 + sizeF g.l).toNat - 89)) = sumL (payR g.l) k := by
    show sumL ((r.L.drop r.off).take (0 + ((89 + sizeF g.l).toNat - 89))) (0 + ((89 + sizeF g.l).toNat - 89)) = _
    rw [hN, r5]
  have hpk : (payR g.l).length = k := by
    unfold payR
    rw [hk]
    simp
    omega
  have hk4 : List.take 32 (List.drop (if g.c = 4 then g.off else g.off + 4) g.B) = (g.l.drop 4).take 32 := by
    rw [hif4, ← part_eq (n := g.n) (by omega)]; rfl
  have hk45 : List.take 32 (List.drop (if g.c = 45 then g.off else g.off + 45) g.B) = (g.l.drop 45).take 32 := by
    rw [hif45, ← part_eq (n := g.n) (by omega)]; rfl
  refine ⟨fun h6 => ?_, fun h6 => ?_⟩
  · have hbad : badF g.l := by
      have h6 : (!decide (sumL (GS.mk r.b r.off (0 + ((89 + sizeF g.l).toNat - 89)) r.cap r.z r.m r.y r.L).l (0 + ((89 + sizeF g.l).toNat - 89)) = List.take 32 (List.drop (if g.c = 45 then g.off else g.off + 45) g.B))) = true := h6
      rw [hX, hk45] at h6
      exact .inr (.inr (.inr (.inr (.inr (.inr (by rw [hk, Int.toNat_natCast]; simpa using h6))))))
    obtain ⟨q1, q2, q3⟩ := bad_res (g := g) hbad
    refine And.intro ⟨rfl, by omega⟩ ?_
    refine And.intro rfl ?_
    refine ⟨⟨0, 0, 0, 0, 1, 0, []⟩, [99999, 0], ?_, rfl, rfl, ?_, ?_⟩
    · show SV.same _ (.tup [.agg (openF g.l).cels, .c (.sl 100 0 0 (payF g.l).length 0 1), .c (.v (.int .i64 (errF g.l)))])
      rw [q1, q2, q3]
      refine Eq.mpr (β := And (And (And (@Eq IntKind IntKind.u8 IntKind.u8) (And (@Eq Nat (@HSub.hSub Nat Nat Nat (@instHSub Nat instSubNat) (@OfNat.ofNat Nat (nat_lit 32) (instOfNatNat (nat_lit 32))) (@OfNat.ofNat Nat (nat_lit 0) (instOfNatNat (nat_lit 0)))) (@OfNat.ofNat Nat (nat_lit 32) (instOfNatNat (nat_lit 32)))) (@Eq (List Int) (@List.drop Int (@OfNat.ofNat Nat (nat_lit 0) (instOfNatNat (nat_lit 0))) (@List.replicate Int (@OfNat.ofNat Nat (nat_lit 32) (instOfNatNat (nat_lit 32))) (@OfNat.ofNat Int (nat_lit 0) (@instOfNat (nat_lit 0))))) (@List.replicate Int (@OfNat.ofNat Nat (nat_lit 32) (instOfNatNat (nat_lit 32))) (@OfNat.ofNat Int (nat_lit 0) (@instOfNat (nat_lit 0))))))) (And (@Eq Value (Value.int IntKind.i64 (@OfNat.ofNat Int (nat_lit 0) (@instOfNat (nat_lit 0)))) (Value.int IntKind.i64 (@OfNat.ofNat Int (nat_lit 0) (@instOfNat (nat_lit 0))))) (And (@Eq Value (Value.bool false) (Value.bool false)) (And (@Eq Value (Value.int IntKind.i64 (@OfNat.ofNat Int (nat_lit 0) (@instOfNat (nat_lit 0)))) (Value.int IntKind.i64 (@OfNat.ofNat Int (nat_lit 0) (@instOfNat (nat_lit 0))))) (And (And (@Eq IntKind IntKind.u8 IntKind.u8) (And (@Eq Nat (@HSub.hSub Nat Nat Nat (@instHSub Nat instSubNat) (@OfNat.ofNat Nat (nat_lit 32) (instOfNatNat (nat_lit 32))) (@OfNat.ofNat Nat (nat_lit 0) (instOfNatNat (nat_lit 0)))) (@OfNat.ofNat Nat (nat_lit 32) (instOfNatNat (nat_lit 32)))) (@Eq (List Int) (@List.drop Int (@OfNat.ofNat Nat (nat_lit 0) (instOfNatNat (nat_lit 0))) (@List.replicate Int (@OfNat.ofNat Nat (nat_lit 32) (instOfNatNat (nat_lit 32))) (@OfNat.ofNat Int (nat_lit 0) (@instOfNat (nat_lit 0))))) (@List.replicate Int (@OfNat.ofNat Nat (nat_lit 32) (instOfNatNat (nat_lit 32))) (@OfNat.ofNat Int (nat_lit 0) (@instOfNat (nat_lit 0))))))) (And (@Eq Value (Value.int IntKind.u64 (@OfNat.ofNat Int (nat_lit 0) (@instOfNat (nat_lit 0)))) (Value.int IntKind.u64 (@OfNat.ofNat Int (nat_lit 0) (@instOfNat (nat_lit 0))))) True)))))) (And (And (@Eq (Option Addr) (@none Addr) (@none Addr)) (And (@Eq Nat (@OfNat.ofNat Nat (nat_lit 0) (instOfNatNat (nat_lit 0))) (@List.length Int (@List.nil Int))) (@Eq Nat (@OfNat.ofNat Nat (nat_lit 0) (instOfNatNat (nat_lit 0))) (@OfNat.ofNat Nat (nat_lit 0) (instOfNatNat (nat_lit 0)))))) (And (@Eq Value (Value.int IntKind.i64 (@OfNat.ofNat Int (nat_lit 40) (@instOfNat (nat_lit 40)))) (Value.int IntKind.i64 (@OfNat.ofNat Int (nat_lit 40) (@instOfNat (nat_lit 40))))) True))) (by kernel_rfl) (And.intro (And.intro (And.intro (rfl) (And.intro (rfl) (?_))) (And.intro (rfl) (And.intro (rfl) (And.intro (rfl) (And.intro (And.intro (rfl) (And.intro (rfl) (?_))) (And.intro (rfl) (trivial))))))) (And.intro (And.intro (rfl) (And.intro (?_) (rfl))) (And.intro (rfl) (trivial))))
      · simp
      · simp
      · rfl
    · refine Eq.mpr (β := (0 + 0 = 0 ∧ (true && true) = true) ∧ (g.b = g.b ∧ g.y = g.y ∧ (IntKind.u8 = IntKind.u8 ∧ g.m = g.m ∧ g.B = g.B) ∧ True) ∧ True) (by kernel_rfl) (And.intro (And.intro (rfl) (?_)) (And.intro (And.intro (rfl) (And.intro (rfl) (And.intro (And.intro (rfl) (And.intro (rfl) (rfl))) (trivial)))) (trivial)))
      rfl
    · show ApR.fits _ (payF g.l).length (payF g.l)
      rw [q2]
      exact ⟨Nat.le_refl _, Nat.le_refl _, .inr rfl, rfl, rfl⟩
  have h6 : sumL (payR g.l) (sizeF g.l).toNat = (g.l.drop 45).take 32 := by
    have h6 : (!decide (sumL (GS.mk r.b r.off (0 + ((89 + sizeF g.l).toNat - 89)) r.cap r.z r.m r.y r.L).l (0 + ((89 + sizeF g.l).toNat - 89)) = List.take 32 (List.drop (if g.c = 45 then g.off else g.off + 45) g.B))) = false := h6
    rw [hX, hk45] at h6
    rw [hk, Int.toNat_natCast]
    simpa using h6
  have hok : ¬ badF g.l := by
    rintro (e | e | e | e | e | e | e)
    · omega
    · exact e h1
    · exact e h2
    · exact h3 e
    · exact h4 e
    · omega
    · exact e h6
  obtain ⟨q1, q2, q3⟩ := good_res (g := g) hok
  refine And.intro (by kernel_rfl) ?_
  refine And.intro (by omega) ?_
  refine And.intro (by omega) ?_
  refine And.intro (And.intro (rfl) (Eq.mpr (β := (if g.c = 4 then g.off else g.off + 4) + 32 ≤ g.m) (by kernel_rfl) (by omega))) ?_
  refine stE ([(63, SV.agg [Cel.ints .u8 32 (List.take 32 (List.drop (if g.c = 4 then g.off else g.off + 4) g.B))]), (62, SV.c (Cel.ptr 0 g.b (if g.c = 4 then g.off else g.off + 4))), (61, SV.c (Cel.sl 0 g.b (if g.c = 4 then g.off else g.off + 4) 32 (g.c - 4) g.z)), (60, SV.c (Cel.sl 0 g.b g.off g.n g.c g.z)), (58, SV.bool !decide (sumL (GS.l ⟨r.b, r.off, 0 + (Int.toNat (89 + sizeF (GS.l g)) - 89), r.cap, r.z, r.m, r.y, r.L⟩) (0 + (Int.toNat (89 + sizeF (GS.l g)) - 89)) = List.take 32 (List.drop (if g.c = 45 then g.off else g.off + 45) g.B))), (6, SV.c (Cel.sl 1051 r.b r.off (0 + (Int.toNat (89 + sizeF (GS.l g)) - 89)) r.cap r.z)), (45, SV.bool (bif false then true else decide ((↑g.n : Int) < 89 + sizeF (GS.l g)))), (0, SV.c (Cel.sl 0 g.b g.off g.n g.c g.z)), (2, SV.c (Cel.ptr 2 b2 0)), (5, SV.int .i64 (sizeF (GS.l g)))]) ([(0, g.b, Cont.cells g.y [Cel.ints .u8 g.m g.B]), (2, b2, Cont.cells 36 [Cel.ints .u8 32 (List.replicate 32 0), Cel.v (Value.int .i64 0), Cel.v (Value.bool false), Cel.v (Value.int .i64 0), Cel.ints .u8 32 (List.replicate 32 0), Cel.v (Value.int .u64 0)]), (1051, r.b, Cont.cells r.y [Cel.ints .u8 r.m r.L])]) (by kernel_rfl) (by kernel_rfl) ?_
  refine And.intro (by omega) ?_
  refine And.intro (by omega) ?_
  refine And.intro ⟨rfl, by omega⟩ ?_
  refine And.intro (by omega) ?_
  refine stE ([(74, SV.c (Cel.sl 0 g.b (if g.c = 45 then g.off else g.off + 45) 32 (g.c - 45) g.z)), (73, SV.c (Cel.sl 0 g.b g.off g.n g.c g.z)), (72, SV.int .i64 (sizeF (GS.l g))), (71, SV.bool (decide (List.getD g.B (g.off + 40) 0 = 1))), (70, SV.int .u8 (List.getD g.B (g.off + 40) 0)), (69, SV.c (Cel.ptr 0 g.b (g.off + 40))), (68, SV.c (Cel.sl 0 g.b g.off g.n g.c g.z)), (65, SV.c (Cel.sl 0 g.b (if g.c = 36 then g.off else g.off + 36) 4 (g.c - 36) g.z)), (64, SV.c (Cel.sl 0 g.b g.off g.n g.c g.z)), (63, SV.agg [Cel.ints .u8 32 (List.take 32 (List.drop (if g.c = 4 then g.off else g.off + 4) g.B))]), (62, SV.c (Cel.ptr 0 g.b (if g.c = 4 then g.off else g.off + 4))), (61, SV.c (Cel.sl 0 g.b (if g.c = 4 then g.off else g.off + 4) 32 (g.c - 4) g.z)), (60, SV.c (Cel.sl 0 g.b g.off g.n g.c g.z)), (58, SV.bool !decide (sumL (GS.l ⟨r.b, r.off, 0 + (Int.toNat (89 + sizeF (GS.l g)) - 89), r.cap, r.z, r.m, r.y, r.L⟩) (0 + (Int.toNat (89 + sizeF (GS.l g)) - 89)) = List.take 32 (List.drop (if g.c = 45 then g.off else g.off + 45) g.B))), (6, SV.c (Cel.sl 1051 r.b r.off (0 + (Int.toNat (89 + sizeF (GS.l g)) - 89)) r.cap r.z)), (45, SV.bool (bif false then true else decide ((↑g.n : Int) < 89 + sizeF (GS.l g)))), (0, SV.c (Cel.sl 0 g.b g.off g.n g.c g.z)), (2, SV.c (Cel.ptr 2 b2 0)), (5, SV.int .i64 (sizeF (GS.l g)))]) ([(0, g.b, Cont.cells g.y [Cel.ints .u8 g.m g.B]), (2, b2, Cont.cells 36 [Cel.ints .u8 32 (List.replicate 32 0), Cel.v (Value.int .i64 0), Cel.v (Value.bool false), Cel.v (Value.int .i64 0), Cel.ints .u8 32 (List.replicate 32 0), Cel.v (Value.int .u64 0)]), (1051, r.b, Cont.cells r.y [Cel.ints .u8 r.m r.L])]) (by kernel_rfl) (by kernel_rfl) ?_
  refine And.intro (by omega) ?_
  refine And.intro (And.intro (rfl) (Eq.mpr (β := (if g.c = 45 then g.off else g.off + 45) + 32 ≤ g.m) (by kernel_rfl) (by omega))) ?_
  refine And.intro (by omega) ?_
  refine And.intro (And.intro (And.intro (And.intro (rfl) (And.intro (rfl) (And.intro (rfl) (And.intro (rfl) (rfl))))) (trivial)) (And.intro (And.intro (And.intro (And.intro (rfl) (And.intro (rfl) (And.intro (And.intro (rfl) (And.intro (rfl) (rfl))) (trivial)))) (trivial)) (rfl)) (And.intro (rfl) (And.intro (rfl) (And.intro (rfl) (And.intro (rfl) (And.intro (And.intro (Eq.mpr (β := (if g.c = 36 then g.off else g.off + 36) + (g.c - 36) ≤ g.m) (by kernel_rfl) (by omega)) (And.intro (Eq.mpr (β := 4 ≤ g.c - 36) (by kernel_rfl) (by omega)) (And.intro (Eq.mpr (β := g.z = 0 ∨ g.c - 36 = 0) (by kernel_rfl) (by omega)) (by omega)))) (Eq.mpr (β := 4 ≤ 1099511627776) (by kernel_rfl) (by omega))))))))) (fun (_ : Unit) _ => ?_)
  refine stE ([(66, SV.int .u64 (getN (GS.l ⟨g.b, if g.c = 36 then g.off else g.off + 36, 4, g.c - 36, g.z, g.m, g.y, g.B⟩) 4)), (81, SV.c (Cel.sl 1051 r.b r.off (0 + (Int.toNat (89 + sizeF (GS.l g)) - 89)) r.cap r.z)), (78, SV.c (Cel.sl 0 g.b (if g.c = 77 then g.off else g.off + 77) 8 (g.c - 77) g.z)), (77, SV.c (Cel.sl 0 g.b g.off g.n g.c g.z)), (76, SV.agg [Cel.ints .u8 32 (List.take 32 (List.drop (if g.c = 45 then g.off else g.off + 45) g.B))]), (75, SV.c (Cel.ptr 0 g.b (if g.c = 45 then g.off else g.off + 45))), (74, SV.c (Cel.sl 0 g.b (if g.c = 45 then g.off else g.off + 45) 32 (g.c - 45) g.z)), (73, SV.c (Cel.sl 0 g.b g.off g.n g.c g.z)), (72, SV.int .i64 (sizeF (GS.l g))), (71, SV.bool (decide (List.getD g.B (g.off + 40) 0 = 1))), (70, SV.int .u8 (List.getD g.B (g.off + 40) 0)), (69, SV.c (Cel.ptr 0 g.b (g.off + 40))), (68, SV.c (Cel.sl 0 g.b g.off g.n g.c g.z)), (65, SV.c (Cel.sl 0 g.b (if g.c = 36 then g.off else g.off + 36) 4 (g.c - 36) g.z)), (64, SV.c (Cel.sl 0 g.b g.off g.n g.c g.z)), (63, SV.agg [Cel.ints .u8 32 (List.take 32 (List.drop (if g.c = 4 then g.off else g.off + 4) g.B))]), (62, SV.c (Cel.ptr 0 g.b (if g.c = 4 then g.off else g.off + 4))), (61, SV.c (Cel.sl 0 g.b (if g.c = 4 then g.off else g.off + 4) 32 (g.c - 4) g.z)), (60, SV.c (Cel.sl 0 g.b g.off g.n g.c g.z)), (58, SV.bool !decide (sumL (GS.l ⟨r.b, r.off, 0 + (Int.toNat (89 + sizeF (GS.l g)) - 89), r.cap, r.z, r.m, r.y, r.L⟩) (0 + (Int.toNat (89 + sizeF (GS.l g)) - 89)) = List.take 32 (List.drop (if g.c = 45 then g.off else g.off + 45) g.B))), (6, SV.c (Cel.sl 1051 r.b r.off (0 + (Int.toNat (89 + sizeF (GS.l g)) - 89)) r.cap r.z)), (45, SV.bool (bif false then true else decide ((↑g.n : Int) < 89 + sizeF (GS.l g)))), (0, SV.c (Cel.sl 0 g.b g.off g.n g.c g.z)), (2, SV.c (Cel.ptr 2 b2 0)), (5, SV.int .i64 (sizeF (GS.l g)))]) ([(0, g.b, Cont.cells g.y [Cel.ints .u8 g.m g.B]), (2, b2, Cont.cells 36 [Cel.ints .u8 32 (List.replicate 32 0), Cel.v (Value.int .i64 0), Cel.v (Value.bool false), Cel.v (Value.int .i64 0), Cel.ints .u8 32 (List.replicate 32 0), Cel.v (Value.int .u64 0)]), (1051, r.b, Cont.cells r.y [Cel.ints .u8 r.m r.L])]) (by kernel_rfl) (by kernel_rfl) ?_
  refine And.intro (And.intro (And.intro (And.intro (rfl) (And.intro (rfl) (And.intro (rfl) (And.intro (rfl) (rfl))))) (trivial)) (And.intro (And.intro (And.intro (And.intro (rfl) (And.intro (rfl) (And.intro (And.intro (rfl) (And.intro (rfl) (rfl))) (trivial)))) (trivial)) (rfl)) (And.intro (rfl) (And.intro (rfl) (And.intro (rfl) (And.intro (rfl) (And.intro (And.intro (Eq.mpr (β := (if g.c = 77 then g.off else g.off + 77) + (g.c - 77) ≤ g.m) (by kernel_rfl) (by omega)) (And.intro (Eq.mpr (β := 8 ≤ g.c - 77) (by kernel_rfl) (by omega)) (And.intro (Eq.mpr (β := g.z = 0 ∨ g.c - 77 = 0) (by kernel_rfl) (by omega)) (by omega)))) (Eq.mpr (β := 8 ≤ 1099511627776) (by kernel_rfl) (by omega))))))))) (fun (_ : Unit) _ => ?_)
  refine And.intro ⟨rfl, by omega⟩ ?_
  refine And.intro rfl ?_
  refine ⟨r, [1051, 0], ?_, rfl, rfl, ?_, ?_⟩
  · show SV.same _ (.tup [.agg (openF g.l).cels, .c (.sl 100 r.b r.off (payF g.l).length r.cap r.z), .c (.v (.int .i64 (errF g.l)))])
    rw [q1, q2, q3, hpk]
    have h36 := hgn 36 4 (g.c - 36) (by omega)
    have h77 := hgn 77 8 (g.c - 77) (by omega)
    refine Eq.mpr (β := ((IntKind.u8 = IntKind.u8 ∧ 31 + 1 - 0 - 0 - 0 - 0 - 0 = 32 ∧ List.drop 0 (List.drop 0 (List.drop 0 (List.drop 0 (List.drop 0 (List.take (31 + 1) (List.drop 0 (List.take 32 (List.drop (if g.c = 4 then g.off else g.off + 4) g.B)))))))) = List.take 32 (List.drop 4 (GS.l g))) ∧ Value.int IntKind.i64 (IntKind.wrap IntKind.i64 (getN (GS.l { b := g.b, off := if g.c = 36 then g.off else g.off + 36, n := 4, c := g.c - 36, z := g.z, m := g.m, y := g.y, B := g.B : GS }) 4)) = Value.int IntKind.i64 (IntKind.wrap IntKind.i64 (numB (GS.l g) 36 4)) ∧ Value.bool (decide (List.getD g.B (g.off + 40) 0 = 1)) = Value.bool (decide (List.getD (GS.l g) 40 0 = 1)) ∧ Value.int IntKind.i64 (sizeF (GS.l g)) = Value.int IntKind.i64 (IntKind.wrap IntKind.i64 (sizeF (GS.l g))) ∧ (IntKind.u8 = IntKind.u8 ∧ 31 + 1 - 0 = 32 ∧ List.drop 0 (List.take (31 + 1) (List.drop 0 (List.take 32 (List.drop (if g.c = 45 then g.off else g.off + 45) g.B)))) = List.take 32 (List.drop 45 (GS.l g))) ∧ Value.int IntKind.u64 (getN (GS.l { b := g.b, off := if g.c = 77 then g.off else g.off + 77, n := 8, c := g.c - 77, z := g.z, m := g.m, y := g.y, B := g.B : GS }) 8) = Value.int IntKind.u64 (numB (GS.l g) 77 8) ∧ True) ∧ ({ o := r.b, ro := false : Blk } = { o := r.b, ro := false : Blk } ∧ r.off = r.off ∧ 0 + (Int.toNat (89 + sizeF (GS.l g)) - 89) = k ∧ r.cap = r.cap ∧ r.z = r.z) ∧ Value.int IntKind.i64 0 = Value.int IntKind.i64 0 ∧ True) (by kernel_rfl) (And.intro (And.intro (And.intro (rfl) (And.intro (rfl) (?_))) (And.intro (?_) (And.intro (?_) (And.intro (intE (by omega)) (And.intro (And.intro (rfl) (And.intro (rfl) (?_))) (And.intro (?_) (trivial))))))) (And.intro (And.intro (rfl) (And.intro (rfl) (And.intro (by omega) (And.intro (rfl) (rfl))))) (And.intro (rfl) (trivial))))
    all_goals simp only [List.drop_zero, hk4, hk45, List.take_take, Nat.min_self, hif36, hif77, h36, h77, hwi, hg40, Nat.zero_add]
  · refine Eq.mpr (β := ({ o := r.b, ro := false : Blk } = { o := r.b, ro := false : Blk } ∧ r.y = r.y ∧ (IntKind.u8 = IntKind.u8 ∧ r.m = r.m ∧ r.L = r.L) ∧ True) ∧ (g.b = g.b ∧ g.y = g.y ∧ (IntKind.u8 = IntKind.u8 ∧ g.m = g.m ∧ g.B = g.B) ∧ True) ∧ True) (by kernel_rfl) (And.intro (And.intro (rfl) (And.intro (rfl) (And.intro (And.intro (rfl) (And.intro (rfl) (rfl))) (trivial)))) (And.intro (And.intro (rfl) (And.intro (rfl) (And.intro (And.intro (rfl) (And.intro (rfl) (rfl))) (trivial)))) (trivial)))
  · show ApR.fits _ (payF g.l).length (payF g.l)
    rw [q2]
    exact fits_of ⟨r1, r2, r3, r4, r5⟩ hpk.symm rfl

end Go.Proofs.Ytpggklkofilmfaa
