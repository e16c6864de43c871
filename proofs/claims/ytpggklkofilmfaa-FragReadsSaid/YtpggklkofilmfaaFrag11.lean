/- Fragments, written. -/
import Derived.Test.YtpggklkofilmfaaFrag10
import Derived.Test.YtpggklkofilmfaaFrag5
import Derived.Test.YtpggklkofilmfaaSha13
import Derived.Test.YtpggklkofilmfaaAbLem
set_option linter.unusedSimpArgs false
set_option linter.unusedVariables false
namespace Go.Proofs.Ytpggklkofilmfaa
open Go Go.Ab
set_option maxRecDepth 100000

/-! ### Contracts whose conditions are plain -/
theorem _root_.Go.Ab.FnOk.pre {P : Program} {f : FuncId} {sp : FSpec} (hs : FnOk P f sp) (pre' : sp.G → Prop) (h : ∀ g, pre' g → sp.pre g) : FnOk P f { sp with pre := pre' } :=
  ⟨hs.func, fun g hp => hs.calls g (h g hp), hs.newTags, hs.updTags⟩
theorem GS.flat {g : GS} (h : g.off + g.c ≤ g.m ∧ g.n ≤ g.c ∧ (g.z = 0 ∨ g.c = 0) ∧ g.B.length = g.m) : g.ok := ⟨h.1, h.2.1, h.2.2.1, h.2.2.2⟩
def spSumF : FSpec := { spSum with pre := fun g => (g.off + g.c ≤ g.m ∧ g.n ≤ g.c ∧ (g.z = 0 ∨ g.c = 0) ∧ g.B.length = g.m) ∧ g.n ≤ 1099511627776 }
noncomputable def spCrcF : FSpec := { spCrc with pre := fun g => (g.off + g.c ≤ g.m ∧ g.n ≤ g.c ∧ (g.z = 0 ∨ g.c = 0) ∧ g.B.length = g.m) ∧ g.n ≤ 1099511627776 }
def spCloneF : FSpec := { spClone with pre := fun g => (g.off + g.c ≤ g.m ∧ g.n ≤ g.c ∧ (g.z = 0 ∨ g.c = 0) ∧ g.B.length = g.m) ∧ g.n ≤ 1099511627776 }
def sp38F : FSpec := { sp38 with pre := fun g => (g.off + g.c ≤ g.m ∧ g.n ≤ g.c ∧ (g.z = 0 ∨ g.c = 0) ∧ g.B.length = g.m) ∧ 89 ≤ g.n }
def sp37F : FSpec := { sp37 with pre := fun g => (g.1.off + g.1.cap ≤ g.1.m ∧ g.2.1 ≤ g.1.cap ∧ (g.1.z = 0 ∨ g.1.cap = 0) ∧ g.1.L.length = g.1.m) ∧ g.2.1 ≤ 1099511627776 ∧ g.2.2.2 ≤ 8 }
theorem fn14F : FnOk Try.prog 14 spSumF := fn14.pre _ fun g h => ⟨GS.flat h.1, h.2⟩
theorem fn15F : FnOk Try.prog 15 spSumF := fn15.pre _ fun g h => ⟨GS.flat h.1, h.2⟩
theorem fn40F : FnOk Try.prog 40 spCrcF := fn40.pre _ fun g h => ⟨GS.flat h.1, h.2⟩
theorem fn41F : FnOk Try.prog 41 spCrcF := fn41.pre _ fun g h => ⟨GS.flat h.1, h.2⟩
theorem fn43F : FnOk Try.prog 43 spCloneF := fn43.pre _ fun g h => ⟨GS.flat h.1, h.2⟩
theorem fn38F : FnOk Try.prog 38 sp38F := fn38.pre _ fun g h => ⟨GS.flat h.1, h.2⟩
theorem fn37F : FnOk Try.prog 37 sp37F := fn37.pre _ fun g h => ⟨⟨h.1.1, h.1.2.1, h.1.2.2.1, h.1.2.2.2, rfl⟩, h.2⟩

/-! ### A head's bytes -/
/-- Numbers laid over a row's. -/
def ov (L : List Int) (o : Nat) (xs : List Int) : List Int := L.take o ++ (xs ++ L.drop (o + xs.length))
theorem ov_app (X Y xs : List Int) {o : Nat} (ho : o = X.length) (h : xs.length ≤ Y.length) : ov (X ++ Y) o xs = (X ++ xs) ++ Y.drop xs.length := by
  subst ho
  simp [ov, List.drop_append]
def frLast (f : FV) : Int := if f.last then 1 else 0
def frHead (f : FV) (l : List Int) (n : Nat) : List Int :=
  [65, 77, 66, 82] ++ (f.key ++ (putL (IntKind.u64.wrap f.part) 4 4 ++ ([frLast f] ++ (putL (IntKind.u64.wrap n) 4 4 ++ (sumL l n ++ putL f.turn 8 8)))))
noncomputable def frL (f : FV) (l : List Int) (n : Nat) : List Int := frHead f l n ++ (putL (IntKind.u64.wrap (crc (frHead f l n) 85)) 4 4 ++ l)
theorem frHead_len {f : FV} (hk : f.key.length = 32) (l : List Int) (n : Nat) : (frHead f l n).length = 85 := by
  simp [frHead, putL_len, sumL_len, hk]
theorem frL_len {f : FV} (hk : f.key.length = 32) {l : List Int} {n : Nat} (hl : l.length = n) : (frL f l n).length = 89 + n := by
  simp [frL, frHead_len hk, putL_len, hl]
  omega
/-- The head, up to the part that tells the size, over a row. -/
def frA (f : FV) (c : Nat) : List Int := ([65, 77, 66, 82] ++ (f.key ++ (putL (IntKind.u64.wrap f.part) 4 4 ++ [frLast f]))) ++ List.replicate (c - 41) 0

theorem frA_len {f : FV} (hk : f.key.length = 32) {c : Nat} (hc : 41 ≤ c) : (frA f c).length = c := by
  simp [frA, putL_len, hk]
  omega
theorem frA_eq {f : FV} (hk : f.key.length = 32) {c : Nat} (hc : 41 ≤ c) :
    putB (List.take 4 (List.take 0 (List.replicate c 0) ++ (List.take 4 (strInts { data := { toList := [65, 77, 66, 82] } }) ++ List.drop 4 (List.replicate c 0))) ++
      (List.take 32 (List.take 32 (List.drop 0 f.key)) ++ List.drop 36 (List.take 0 (List.replicate c 0) ++ (List.take 4 (strInts { data := { toList := [65, 77, 66, 82] } }) ++ List.drop 4 (List.replicate c 0)))))
      36 4 (IntKind.u64.wrap f.part) 4 = ([65, 77, 66, 82] ++ (f.key ++ putL (IntKind.u64.wrap f.part) 4 4)) ++ List.replicate (c - 40) 0 := by
  have hs : strInts { data := { toList := [65, 77, 66, 82] } } = [65, 77, 66, 82] := rfl
  rw [hs]
  have h1 : List.take 4 (List.take 0 (List.replicate c (0 : Int)) ++ (List.take 4 [65, 77, 66, 82] ++ List.drop 4 (List.replicate c 0))) ++
      (List.take 32 (List.take 32 (List.drop 0 f.key)) ++ List.drop 36 (List.take 0 (List.replicate c 0) ++ (List.take 4 [65, 77, 66, 82] ++ List.drop 4 (List.replicate c 0)))) = ([65, 77, 66, 82] ++ f.key) ++ List.replicate (c - 36) 0 := by
    simp [List.take_of_length_le, hk]
    omega
  rw [h1, putB_app _ _ 36 4 _ (by simp [hk]) (by simp; omega)]
  simp
  omega
theorem frA_set {f : FV} (hk : f.key.length = 32) (h : f.last = true) {c : Nat} (hc : 41 ≤ c) :
    (([65, 77, 66, 82] ++ (f.key ++ putL (IntKind.u64.wrap f.part) 4 4)) ++ List.replicate (c - 40) 0).set 40 1 = frA f c := by
  unfold frA frLast
  have l : ([65, 77, 66, 82] ++ (f.key ++ putL (IntKind.u64.wrap f.part) 4 4)).length = 40 := by simp [hk, putL_len]
  rw [h, List.set_append_right _ _ (by omega), l, show c - 40 = (c - 41) + 1 by omega, List.replicate_succ, List.set_cons_zero]
  simp
theorem frA_not {f : FV} (h : f.last = false) {c : Nat} (hc : 41 ≤ c) :
    (([65, 77, 66, 82] ++ (f.key ++ putL (IntKind.u64.wrap f.part) 4 4)) ++ List.replicate (c - 40) 0) = frA f c := by
  unfold frA frLast
  rw [h, show c - 40 = (c - 41) + 1 by omega, List.replicate_succ]
  simp
/-- The head whole, in a row, from the part that tells the size on. -/
theorem frB_eq {f : FV} (hk : f.key.length = 32) {c : Nat} (hc : 89 ≤ c) (n : Nat) (S : List Int) (hS : S.length = 32) :
    putB (List.take 45 (putB (frA f c) 41 4 (IntKind.u64.wrap n) 4) ++ (List.take 32 (List.take 32 (List.drop 0 S)) ++ List.drop 77 (putB (frA f c) 41 4 (IntKind.u64.wrap n) 4))) 77 8 f.turn 8 =
      ([65, 77, 66, 82] ++ (f.key ++ (putL (IntKind.u64.wrap f.part) 4 4 ++ ([frLast f] ++ (putL (IntKind.u64.wrap n) 4 4 ++ (S ++ putL f.turn 8 8)))))) ++ List.replicate (c - 85) 0 := by
  have hA : putB (frA f c) 41 4 (IntKind.u64.wrap n) 4 = (([65, 77, 66, 82] ++ (f.key ++ (putL (IntKind.u64.wrap f.part) 4 4 ++ [frLast f]))) ++ putL (IntKind.u64.wrap n) 4 4) ++ List.replicate (c - 45) 0 := by
    unfold frA
    rw [putB_app _ _ 41 4 _ (by simp [hk, putL_len]) (by simp; omega)]
    simp
    omega
  rw [hA]
  generalize hX : (([65, 77, 66, 82] ++ (f.key ++ (putL (IntKind.u64.wrap f.part) 4 4 ++ [frLast f]))) ++ putL (IntKind.u64.wrap n) 4 4) = X
  have lX : X.length = 45 := by rw [← hX]; simp [hk, putL_len]
  have h2 : List.take 45 (X ++ List.replicate (c - 45) (0 : Int)) ++ (List.take 32 (List.take 32 (List.drop 0 S)) ++ List.drop 77 (X ++ List.replicate (c - 45) 0)) = (X ++ S) ++ List.replicate (c - 77) 0 := by
    simp [List.take_append, List.drop_append, List.take_of_length_le, List.drop_of_length_le, lX, hS]
    omega
  rw [h2, putB_app _ _ 77 8 _ (by simp [lX, hS]) (by simp; omega), ← hX]
  simp
  omega

/-! ### frag.Frag -/
def spFrag : FSpec where
  G := FV × GS
  args g := [.agg g.1.cels, g.2.arg 1]
  hp g := [g.2.ent 1 .u8]
  pre g := (g.1.key.length = 32 ∧ g.1.sum.length = 32) ∧ (g.2.off + g.2.c ≤ g.2.m ∧ g.2.n ≤ g.2.c ∧ (g.2.z = 0 ∨ g.2.c = 0) ∧ g.2.B.length = g.2.m) ∧ g.2.n ≤ 1099511627776
  R _ := ApR
  post g r := r.fits (89 + min g.2.n 4096) (frL g.1 (g.2.l.take 4096) (min g.2.n 4096))
  res g r := (vS 1 100 (89 + min g.2.n 4096) r).2
  new _ r := [vH 100 .u8 r]
  upd _ _ := []
  news := [100]
  wr := false
  mt vs h := match vs with
    | [.agg [.ints _ _ k, .v (.int _ p), .v (.bool l), .v (.int _ s), .ints _ _ m, .v (.int _ t)], x] => match gsOf h x with
      | some (g, u) => some ((⟨k, p, l, s, m, t⟩, g), [u])
      | none => none
    | _ => none
noncomputable def con19 : FuncId → Option Con
  | 38 => some sp38F.con
  | 14 => some spSumF.con
  | 39 => some sp39.con
  | 40 => some spCrcF.con
  | _ => none
noncomputable def cx19 : Cx := ⟨tab, con19, 65, true⟩
theorem cx19_ok : CxOk Try.prog cx19 := ⟨tab_ok, fun f c h => by
  unfold cx19 con19 at h
  dsimp only at h
  split at h
  · cases h; exact conOk_of_spec fn38F
  · cases h; exact conOk_of_spec fn14F
  · cases h; exact conOk_of_spec fn39
  · cases h; exact conOk_of_spec fn40F
  · cases h⟩
def nt19 : Notes := ⟨fun | 6 => some (seqOf [0, 1, 2, 3, 4]) | 11 => some (seqOf [0, 1, 2, 3]) | 13 => some (seqOf [0, 1, 2, 3, 4, 5, 6]) | _ => none, fun | 2 => some none | 10 => some none | _ => none, fun _ => none, [0, 1, 2, 4, 5, 6, 7, 36]⟩
def inv19a (f : FV) (g : GS) (b2 : BlkO) : Inv where
  G := Unit
  pre _ := True
  sl _ := [(1, .c (.sl 1 g.b g.off (min g.n 4096) g.c g.z)), (2, .c (.ptr 2 b2 0))]
  hp _ := [g.ent 1 .u8, (2, b2, .cells 36 f.cels)]
  mu _ := 0
def cut5 (b : BlkO) (o k : Nat) : Cel := .sl 5 b o k k 0
def inv19b (f : FV) (g : GS) (b2 b5 b6 b7 : BlkO) (c : Nat) : Inv where
  G := Unit
  pre _ := True
  sl _ := [(1, .c (.sl 1 g.b g.off (min g.n 4096) g.c g.z)), (2, .c (.ptr 2 b2 0)), (5, .c (.sl 5 b5 0 89 c 0)), (6, .c (.ptr 6 b6 0)), (7, .c (.ptr 7 b7 0))]
  hp _ := [g.ent 1 .u8, (2, b2, .cells 36 f.cels), (5, b5, .cells 5 [.ints .u8 c (frA f c)]), (6, b6, .cells 76 [cut5 b5 0 4, cut5 b5 4 32, cut5 b5 36 4, cut5 b5 40 1, cut5 b5 41 4, cut5 b5 45 32, cut5 b5 77 8, cut5 b5 85 4]),
    (7, b7, .cells 25 [.ints .u8 32 (sumL (g.l.take 4096) (min g.n 4096))])]
  mu _ := 0
set_option maxHeartbeats 8000000 in
theorem fn19 : FnOk Try.prog 19 spFrag := by
  refine fnOk_of_vc cx19_ok wide (nt := fun _ => nt19) Try.func19 rfl rfl (by kernel_rfl) (fuel := 1000) (fun _ => Nat.le_of_ble_eq_true rfl) (fun _ _ t h => h) (fun h => by cases h) ?_
  rintro ⟨f, g⟩ ⟨⟨l1, l2⟩, ⟨g1, g2, g3, g4⟩, hn⟩
  have l1 : f.key.length = 32 := l1
  have l2 : f.sum.length = 32 := l2
  have g1 : g.off + g.c ≤ g.m := g1
  have g2 : g.n ≤ g.c := g2
  have g3 : g.z = 0 ∨ g.c = 0 := g3
  have g4 : g.B.length = g.m := g4
  have hn : g.n ≤ 1099511627776 := hn
  intro b2 _
  refine ⟨inv19a f g b2, ?_, ?_⟩
  · refine And.intro (by (refine Eq.mpr (β := (0 ≤ if 4096 < (↑g.n : Int) then 4096 else (↑g.n : Int)) ∧ (if 4096 < (↑g.n : Int) then 4096 else (↑g.n : Int)) ≤ (↑g.c : Int)) (by kernel_rfl) ?_); split <;> omega) ?_
    refine ⟨(), [1, 1002], rfl, rfl, ?_, ?_, trivial, trivial⟩
    · refine Eq.mpr (β := (g.b = g.b ∧ g.off = g.off ∧ Int.toNat (if 4096 < (↑g.n : Int) then 4096 else (↑g.n : Int)) - 0 = min g.n 4096 ∧ g.c - 0 = g.c ∧ g.z = g.z) ∧ ({ o := b2, ro := false : Blk } = { o := b2, ro := false : Blk } ∧ 0 = 0) ∧ True) (by kernel_rfl) (And.intro (And.intro (rfl) (And.intro (rfl) (And.intro (by omega) (And.intro (by omega) (rfl))))) (And.intro (And.intro (rfl) (rfl)) (trivial)))
      all_goals (split <;> omega)
    · refine Eq.mpr (β := (g.b = g.b ∧ g.y = g.y ∧ (IntKind.u8 = IntKind.u8 ∧ g.m = g.m ∧ g.B = g.B) ∧ True) ∧ ({ o := b2, ro := false : Blk } = { o := b2, ro := false : Blk } ∧ 36 = 36 ∧ (IntKind.u8 = IntKind.u8 ∧ 32 = 32 ∧ f.key = f.key) ∧ Value.int IntKind.i64 f.part = Value.int IntKind.i64 f.part ∧ Value.bool f.last = Value.bool f.last ∧ Value.int IntKind.i64 f.size = Value.int IntKind.i64 f.size ∧ (IntKind.u8 = IntKind.u8 ∧ 32 = 32 ∧ f.sum = f.sum) ∧ Value.int IntKind.u64 f.turn = Value.int IntKind.u64 f.turn ∧ True) ∧ True) (by kernel_rfl) (And.intro (And.intro (rfl) (And.intro (rfl) (And.intro (And.intro (rfl) (And.intro (rfl) (rfl))) (trivial)))) (And.intro (And.intro (rfl) (And.intro (rfl) (And.intro (And.intro (rfl) (And.intro (rfl) (rfl))) (And.intro (rfl) (And.intro (rfl) (And.intro (rfl) (And.intro (And.intro (rfl) (And.intro (rfl) (rfl))) (And.intro (rfl) (trivial))))))))) (trivial)))
  rintro ⟨⟩ _
  refine And.intro (by omega) ?_
  refine stE ([(15, SV.int .i64 (89 + (↑(min g.n 4096) : Int))), (14, SV.int .i64 (↑(min g.n 4096) : Int)), (13, SV.c (Cel.sl 1 g.b g.off (min g.n 4096) g.c g.z)), (1, SV.c (Cel.sl 1 g.b g.off (min g.n 4096) g.c g.z)), (2, SV.c (Cel.ptr 2 b2 0))]) ([(1, g.b, Cont.cells g.y [Cel.ints .u8 g.m g.B]), (2, b2, Cont.cells 36 [Cel.ints .u8 32 f.key, Cel.v (Value.int .i64 f.part), Cel.v (Value.bool f.last), Cel.v (Value.int .i64 f.size), Cel.ints .u8 32 f.sum, Cel.v (Value.int .u64 f.turn)])]) (by kernel_rfl) (by kernel_rfl) ?_
  refine And.intro (by omega) ?_
  intro b5 _
  refine And.intro (And.intro (And.intro (And.intro (rfl) (And.intro (rfl) (And.intro (rfl) (And.intro (rfl) (rfl))))) (trivial)) (And.intro (And.intro (And.intro (And.intro (rfl) (And.intro (rfl) (And.intro (And.intro (rfl) (And.intro (rfl) (rfl))) (trivial)))) (trivial)) (rfl)) (And.intro (rfl) (And.intro (rfl) (And.intro (rfl) (And.intro (rfl) (And.intro (And.intro (Eq.mpr (β := 0 + Int.toNat (89 + (↑(min g.n 4096) : Int)) ≤ Int.toNat (89 + (↑(min g.n 4096) : Int))) (by kernel_rfl) (by omega)) (And.intro (Eq.mpr (β := 89 ≤ Int.toNat (89 + (↑(min g.n 4096) : Int))) (by kernel_rfl) (by omega)) (And.intro (Eq.mpr (β := 0 = 0 ∨ Int.toNat (89 + (↑(min g.n 4096) : Int)) = 0) (by kernel_rfl) (by omega)) (Eq.mpr (β := List.length (List.replicate (Int.toNat ((89 : Int) + (↑(min g.n (4096 : Nat)) : Int))) (0 : Int)) = Int.toNat ((89 : Int) + (↑(min g.n (4096 : Nat)) : Int))) (by kernel_rfl) (by simp only [List.length_replicate] <;> omega))))) (Eq.mpr (β := 89 ≤ 89) (by kernel_rfl) (by omega))))))))) (fun (_ : Unit) _ => ?_)
  refine stE ([(18, SV.agg [Cel.sl 1016 b5 (0 + 0) 4 4 0, Cel.sl 1016 b5 (0 + 4) 32 32 0, Cel.sl 1016 b5 (0 + 36) 4 4 0, Cel.sl 1016 b5 (0 + 40) 1 1 0, Cel.sl 1016 b5 (0 + 41) 4 4 0, Cel.sl 1016 b5 (0 + 45) 32 32 0, Cel.sl 1016 b5 (0 + 77) 8 8 0, Cel.sl 1016 b5 (0 + 85) 4 4 0]), (17, SV.c (Cel.sl 1016 b5 0 89 (Int.toNat (89 + (↑(min g.n 4096) : Int))) 0)), (5, SV.c (Cel.sl 1016 b5 0 89 (Int.toNat (89 + (↑(min g.n 4096) : Int))) 0)), (1, SV.c (Cel.sl 1 g.b g.off (min g.n 4096) g.c g.z)), (2, SV.c (Cel.ptr 2 b2 0))]) ([(1, g.b, Cont.cells g.y [Cel.ints .u8 g.m g.B]), (2, b2, Cont.cells 36 [Cel.ints .u8 32 f.key, Cel.v (Value.int .i64 f.part), Cel.v (Value.bool f.last), Cel.v (Value.int .i64 f.size), Cel.ints .u8 32 f.sum, Cel.v (Value.int .u64 f.turn)]), (1016, b5, Cont.cells 5 [Cel.ints .u8 (Int.toNat (89 + (↑(min g.n 4096) : Int))) (List.replicate (Int.toNat (89 + (↑(min g.n 4096) : Int))) 0)])]) (by kernel_rfl) (by kernel_rfl) ?_
  intro b6 _
  refine And.intro (And.intro (rfl) (rfl)) ?_
  refine And.intro (And.intro (And.intro (And.intro (rfl) (And.intro (rfl) (And.intro (rfl) (And.intro (rfl) (rfl))))) (trivial)) (And.intro (And.intro (And.intro (And.intro (rfl) (And.intro (rfl) (And.intro (And.intro (rfl) (And.intro (rfl) (rfl))) (trivial)))) (trivial)) (rfl)) (And.intro (rfl) (And.intro (rfl) (And.intro (rfl) (And.intro (rfl) (And.intro (And.intro (by omega) (And.intro (Eq.mpr (β := min g.n 4096 ≤ g.c) (by kernel_rfl) (by omega)) (And.intro (by omega) (by omega)))) (Eq.mpr (β := min g.n 4096 ≤ 1099511627776) (by kernel_rfl) (by omega))))))))) (fun (_ : Unit) _ => ?_)
  refine stE ([(20, SV.agg [Cel.ints .u8 32 (sumL (GS.l ⟨g.b, g.off, min g.n 4096, g.c, g.z, g.m, g.y, g.B⟩) (min g.n 4096))]), (19, SV.c (Cel.sl 1 g.b g.off (min g.n 4096) g.c g.z)), (6, SV.c (Cel.ptr 1006 b6 0)), (5, SV.c (Cel.sl 1016 b5 0 89 (Int.toNat (89 + (↑(min g.n 4096) : Int))) 0)), (1, SV.c (Cel.sl 1 g.b g.off (min g.n 4096) g.c g.z)), (2, SV.c (Cel.ptr 2 b2 0))]) ([(1, g.b, Cont.cells g.y [Cel.ints .u8 g.m g.B]), (2, b2, Cont.cells 36 [Cel.ints .u8 32 f.key, Cel.v (Value.int .i64 f.part), Cel.v (Value.bool f.last), Cel.v (Value.int .i64 f.size), Cel.ints .u8 32 f.sum, Cel.v (Value.int .u64 f.turn)]), (1016, b5, Cont.cells 5 [Cel.ints .u8 (Int.toNat (89 + (↑(min g.n 4096) : Int))) (List.replicate (Int.toNat (89 + (↑(min g.n 4096) : Int))) 0)]), (1006, b6, Cont.cells 76 ([] ++ ([Cel.sl 1016 b5 0 4 4 0, Cel.sl 1016 b5 4 32 32 0, Cel.sl 1016 b5 36 4 4 0, Cel.sl 1016 b5 40 1 1 0, Cel.sl 1016 b5 41 4 4 0, Cel.sl 1016 b5 45 32 32 0, Cel.sl 1016 b5 77 8 8 0, Cel.sl 1016 b5 85 4 4 0] ++ [])))]) (by kernel_rfl) (by kernel_rfl) ?_
  intro b7 _
  refine And.intro ⟨⟨rfl, rfl⟩, by omega⟩ ?_
  refine And.intro rfl ?_
  refine And.intro (And.intro (rfl) (And.intro (rfl) (And.intro (by omega) (by omega)))) ?_
  refine And.intro (by kernel_rfl) ?_
  refine stE ([(7, SV.c (Cel.ptr 1007 b7 0)), (6, SV.c (Cel.ptr 1006 b6 0)), (5, SV.c (Cel.sl 1016 b5 0 89 (Int.toNat (89 + (↑(min g.n 4096) : Int))) 0)), (1, SV.c (Cel.sl 1 g.b g.off (min g.n 4096) g.c g.z)), (2, SV.c (Cel.ptr 2 b2 0))]) ([(1, g.b, Cont.cells g.y [Cel.ints .u8 g.m g.B]), (2, b2, Cont.cells 36 [Cel.ints .u8 32 f.key, Cel.v (Value.int .i64 f.part), Cel.v (Value.bool f.last), Cel.v (Value.int .i64 f.size), Cel.ints .u8 32 f.sum, Cel.v (Value.int .u64 f.turn)]), (1016, b5, Cont.cells 5 [Cel.ints .u8 (Int.toNat (89 + (↑(min g.n 4096) : Int))) (List.take 0 (List.replicate (Int.toNat (89 + (↑(min g.n 4096) : Int))) 0) ++ (List.take 4 (strInts { data := { toList := [65, 77, 66, 82] : Array UInt8 } : ByteArray }) ++ List.drop 4 (List.replicate (Int.toNat (89 + (↑(min g.n 4096) : Int))) 0)))]), (1006, b6, Cont.cells 76 ([] ++ ([Cel.sl 1016 b5 0 4 4 0, Cel.sl 1016 b5 4 32 32 0, Cel.sl 1016 b5 36 4 4 0, Cel.sl 1016 b5 40 1 1 0, Cel.sl 1016 b5 41 4 4 0, Cel.sl 1016 b5 45 32 32 0, Cel.sl 1016 b5 77 8 8 0, Cel.sl 1016 b5 85 4 4 0] ++ []))), (1007, b7, Cont.cells 25 [Cel.ints .u8 32 (List.take 0 (List.replicate 32 0) ++ sumL (GS.l ⟨g.b, g.off, min g.n 4096, g.c, g.z, g.m, g.y, g.B⟩) (min g.n 4096) ++ List.drop 32 (List.replicate 32 0))])]) (by kernel_rfl) (by kernel_rfl) ?_
  refine And.intro rfl ?_
  refine And.intro (And.intro (And.intro (rfl) (And.intro (rfl) (And.intro (by omega) (by omega)))) (rfl)) ?_
  refine And.intro rfl ?_
  refine And.intro rfl ?_
  refine stE ([(32, SV.int .i64 f.part), (31, SV.c (Cel.ptr 2 b2 32)), (30, SV.c (Cel.sl 1016 b5 36 4 4 0)), (29, SV.c (Cel.ptr 1006 b6 2)), (7, SV.c (Cel.ptr 1007 b7 0)), (6, SV.c (Cel.ptr 1006 b6 0)), (5, SV.c (Cel.sl 1016 b5 0 89 (Int.toNat (89 + (↑(min g.n 4096) : Int))) 0)), (1, SV.c (Cel.sl 1 g.b g.off (min g.n 4096) g.c g.z)), (2, SV.c (Cel.ptr 2 b2 0))]) ([(1, g.b, Cont.cells g.y [Cel.ints .u8 g.m g.B]), (2, b2, Cont.cells 36 [Cel.ints .u8 32 f.key, Cel.v (Value.int .i64 f.part), Cel.v (Value.bool f.last), Cel.v (Value.int .i64 f.size), Cel.ints .u8 32 f.sum, Cel.v (Value.int .u64 f.turn)]), (1016, b5, Cont.cells 5 [Cel.ints .u8 (Int.toNat (89 + (↑(min g.n 4096) : Int))) (List.take 4 (List.take 0 (List.replicate (Int.toNat (89 + (↑(min g.n 4096) : Int))) 0) ++ (List.take 4 (strInts { data := { toList := [65, 77, 66, 82] : Array UInt8 } : ByteArray }) ++ List.drop 4 (List.replicate (Int.toNat (89 + (↑(min g.n 4096) : Int))) 0))) ++ (List.take 32 (List.take 32 (List.drop 0 f.key)) ++ List.drop 36 (List.take 0 (List.replicate (Int.toNat (89 + (↑(min g.n 4096) : Int))) 0) ++ (List.take 4 (strInts { data := { toList := [65, 77, 66, 82] : Array UInt8 } : ByteArray }) ++ List.drop 4 (List.replicate (Int.toNat (89 + (↑(min g.n 4096) : Int))) 0)))))]), (1006, b6, Cont.cells 76 ([] ++ ([Cel.sl 1016 b5 0 4 4 0, Cel.sl 1016 b5 4 32 32 0, Cel.sl 1016 b5 36 4 4 0, Cel.sl 1016 b5 40 1 1 0, Cel.sl 1016 b5 41 4 4 0, Cel.sl 1016 b5 45 32 32 0, Cel.sl 1016 b5 77 8 8 0, Cel.sl 1016 b5 85 4 4 0] ++ []))), (1007, b7, Cont.cells 25 [Cel.ints .u8 32 (List.take 0 (List.replicate 32 0) ++ sumL (GS.l ⟨g.b, g.off, min g.n 4096, g.c, g.z, g.m, g.y, g.B⟩) (min g.n 4096) ++ List.drop 32 (List.replicate 32 0))])]) (by kernel_rfl) (by kernel_rfl) ?_
  refine And.intro (And.intro (And.intro (And.intro (rfl) (And.intro (rfl) (And.intro (rfl) (And.intro (rfl) (rfl))))) (And.intro (rfl) (trivial))) (And.intro (And.intro (And.intro (And.intro (rfl) (And.intro (rfl) (And.intro (And.intro (rfl) (And.intro (rfl) (rfl))) (trivial)))) (trivial)) (rfl)) (And.intro (rfl) (And.intro (rfl) (And.intro (rfl) (And.intro (rfl) (And.intro (Eq.mpr (β := 36 + 4 ≤ Int.toNat (89 + (↑(min g.n 4096) : Int))) (by kernel_rfl) (by omega)) (And.intro (rfl) (Eq.mpr (β := 4 ≤ 1099511627776) (by kernel_rfl) (by omega)))))))))) (fun (_ : Unit) _ => ?_)
  refine stE ([(34, SV.tup []), (33, SV.int .u64 (IntKind.wrap .u64 f.part)), (32, SV.int .i64 f.part), (31, SV.c (Cel.ptr 2 b2 32)), (30, SV.c (Cel.sl 1016 b5 36 4 4 0)), (29, SV.c (Cel.ptr 1006 b6 2)), (7, SV.c (Cel.ptr 1007 b7 0)), (6, SV.c (Cel.ptr 1006 b6 0)), (5, SV.c (Cel.sl 1016 b5 0 89 (Int.toNat (89 + (↑(min g.n 4096) : Int))) 0)), (1, SV.c (Cel.sl 1 g.b g.off (min g.n 4096) g.c g.z)), (2, SV.c (Cel.ptr 2 b2 0))]) ([(1, g.b, Cont.cells g.y [Cel.ints .u8 g.m g.B]), (2, b2, Cont.cells 36 [Cel.ints .u8 32 f.key, Cel.v (Value.int .i64 f.part), Cel.v (Value.bool f.last), Cel.v (Value.int .i64 f.size), Cel.ints .u8 32 f.sum, Cel.v (Value.int .u64 f.turn)]), (1016, b5, Cont.cells 5 [Cel.ints .u8 (Int.toNat (89 + (↑(min g.n 4096) : Int))) (putB (List.take 4 (List.take 0 (List.replicate (Int.toNat (89 + (↑(min g.n 4096) : Int))) 0) ++ (List.take 4 (strInts { data := { toList := [65, 77, 66, 82] : Array UInt8 } : ByteArray }) ++ List.drop 4 (List.replicate (Int.toNat (89 + (↑(min g.n 4096) : Int))) 0))) ++ (List.take 32 (List.take 32 (List.drop 0 f.key)) ++ List.drop 36 (List.take 0 (List.replicate (Int.toNat (89 + (↑(min g.n 4096) : Int))) 0) ++ (List.take 4 (strInts { data := { toList := [65, 77, 66, 82] : Array UInt8 } : ByteArray }) ++ List.drop 4 (List.replicate (Int.toNat (89 + (↑(min g.n 4096) : Int))) 0))))) 36 4 (IntKind.wrap .u64 f.part) 4)]), (1006, b6, Cont.cells 76 ([] ++ ([Cel.sl 1016 b5 0 4 4 0, Cel.sl 1016 b5 4 32 32 0, Cel.sl 1016 b5 36 4 4 0, Cel.sl 1016 b5 40 1 1 0, Cel.sl 1016 b5 41 4 4 0, Cel.sl 1016 b5 45 32 32 0, Cel.sl 1016 b5 77 8 8 0, Cel.sl 1016 b5 85 4 4 0] ++ []))), (1007, b7, Cont.cells 25 [Cel.ints .u8 32 (List.take 0 (List.replicate 32 0) ++ sumL (GS.l ⟨g.b, g.off, min g.n 4096, g.c, g.z, g.m, g.y, g.B⟩) (min g.n 4096) ++ List.drop 32 (List.replicate 32 0))])]) (by kernel_rfl) (by kernel_rfl) ?_
  have hc : (89 + ((min g.n 4096 : Nat) : Int)).toNat = 89 + min g.n 4096 := by omega
  have hS : (GS.mk g.b g.off (min g.n 4096) g.c g.z g.m g.y g.B).l = g.l.take 4096 := by
    show (g.B.drop g.off).take (min g.n 4096) = ((g.B.drop g.off).take g.n).take 4096
    rw [List.take_take, Nat.min_comm]
  have hE := frA_eq (f := f) l1 (c := 89 + min g.n 4096) (by omega)
  refine ⟨inv19b f g b2 b5 b6 b7 (89 + min g.n 4096), ?_, ?_⟩
  · refine And.intro rfl ?_
    refine stE ([(36, SV.bool f.last), (35, SV.c (Cel.ptr 2 b2 33)), (7, SV.c (Cel.ptr 1007 b7 0)), (6, SV.c (Cel.ptr 1006 b6 0)), (5, SV.c (Cel.sl 1016 b5 0 89 (Int.toNat (89 + (↑(min g.n 4096) : Int))) 0)), (1, SV.c (Cel.sl 1 g.b g.off (min g.n 4096) g.c g.z)), (2, SV.c (Cel.ptr 2 b2 0))]) ([(1, g.b, Cont.cells g.y [Cel.ints .u8 g.m g.B]), (2, b2, Cont.cells 36 [Cel.ints .u8 32 f.key, Cel.v (Value.int .i64 f.part), Cel.v (Value.bool f.last), Cel.v (Value.int .i64 f.size), Cel.ints .u8 32 f.sum, Cel.v (Value.int .u64 f.turn)]), (1016, b5, Cont.cells 5 [Cel.ints .u8 (Int.toNat (89 + (↑(min g.n 4096) : Int))) (putB (List.take 4 (List.take 0 (List.replicate (Int.toNat (89 + (↑(min g.n 4096) : Int))) 0) ++ (List.take 4 (strInts { data := { toList := [65, 77, 66, 82] : Array UInt8 } : ByteArray }) ++ List.drop 4 (List.replicate (Int.toNat (89 + (↑(min g.n 4096) : Int))) 0))) ++ (List.take 32 (List.take 32 (List.drop 0 f.key)) ++ List.drop 36 (List.take 0 (List.replicate (Int.toNat (89 + (↑(min g.n 4096) : Int))) 0) ++ (List.take 4 (strInts { data := { toList := [65, 77, 66, 82] : Array UInt8 } : ByteArray }) ++ List.drop 4 (List.replicate (Int.toNat (89 + (↑(min g.n 4096) : Int))) 0))))) 36 4 (IntKind.wrap .u64 f.part) 4)]), (1006, b6, Cont.cells 76 ([] ++ ([Cel.sl 1016 b5 0 4 4 0, Cel.sl 1016 b5 4 32 32 0, Cel.sl 1016 b5 36 4 4 0, Cel.sl 1016 b5 40 1 1 0, Cel.sl 1016 b5 41 4 4 0, Cel.sl 1016 b5 45 32 32 0, Cel.sl 1016 b5 77 8 8 0, Cel.sl 1016 b5 85 4 4 0] ++ []))), (1007, b7, Cont.cells 25 [Cel.ints .u8 32 (List.take 0 (List.replicate 32 0) ++ sumL (GS.l ⟨g.b, g.off, min g.n 4096, g.c, g.z, g.m, g.y, g.B⟩) (min g.n 4096) ++ List.drop 32 (List.replicate 32 0))])]) (by kernel_rfl) (by kernel_rfl) ?_
    refine ⟨fun h => ?_, fun h => ?_⟩
    · have h : f.last = true := h
      refine And.intro rfl ?_
      refine And.intro (by omega) ?_
      refine And.intro ⟨⟨rfl, rfl⟩, by omega⟩ ?_
      refine stE ([(39, SV.c (Cel.ptr 1016 b5 40)), (38, SV.c (Cel.sl 1016 b5 40 1 1 0)), (37, SV.c (Cel.ptr 1006 b6 3)), (36, SV.bool f.last), (7, SV.c (Cel.ptr 1007 b7 0)), (6, SV.c (Cel.ptr 1006 b6 0)), (5, SV.c (Cel.sl 1016 b5 0 89 (Int.toNat (89 + (↑(min g.n 4096) : Int))) 0)), (1, SV.c (Cel.sl 1 g.b g.off (min g.n 4096) g.c g.z)), (2, SV.c (Cel.ptr 2 b2 0))]) ([(1, g.b, Cont.cells g.y [Cel.ints .u8 g.m g.B]), (2, b2, Cont.cells 36 [Cel.ints .u8 32 f.key, Cel.v (Value.int .i64 f.part), Cel.v (Value.bool f.last), Cel.v (Value.int .i64 f.size), Cel.ints .u8 32 f.sum, Cel.v (Value.int .u64 f.turn)]), (1016, b5, Cont.cells 5 [Cel.ints .u8 (Int.toNat (89 + (↑(min g.n 4096) : Int))) (List.set (putB (List.take 4 (List.take 0 (List.replicate (Int.toNat (89 + (↑(min g.n 4096) : Int))) 0) ++ (List.take 4 (strInts { data := { toList := [65, 77, 66, 82] : Array UInt8 } : ByteArray }) ++ List.drop 4 (List.replicate (Int.toNat (89 + (↑(min g.n 4096) : Int))) 0))) ++ (List.take 32 (List.take 32 (List.drop 0 f.key)) ++ List.drop 36 (List.take 0 (List.replicate (Int.toNat (89 + (↑(min g.n 4096) : Int))) 0) ++ (List.take 4 (strInts { data := { toList := [65, 77, 66, 82] : Array UInt8 } : ByteArray }) ++ List.drop 4 (List.replicate (Int.toNat (89 + (↑(min g.n 4096) : Int))) 0))))) 36 4 (IntKind.wrap .u64 f.part) 4) 40 1)]), (1006, b6, Cont.cells 76 ([] ++ ([Cel.sl 1016 b5 0 4 4 0, Cel.sl 1016 b5 4 32 32 0, Cel.sl 1016 b5 36 4 4 0, Cel.sl 1016 b5 40 1 1 0, Cel.sl 1016 b5 41 4 4 0, Cel.sl 1016 b5 45 32 32 0, Cel.sl 1016 b5 77 8 8 0, Cel.sl 1016 b5 85 4 4 0] ++ []))), (1007, b7, Cont.cells 25 [Cel.ints .u8 32 (List.take 0 (List.replicate 32 0) ++ sumL (GS.l ⟨g.b, g.off, min g.n 4096, g.c, g.z, g.m, g.y, g.B⟩) (min g.n 4096) ++ List.drop 32 (List.replicate 32 0))])]) (by kernel_rfl) (by kernel_rfl) ?_
      refine ⟨(), [1, 2, 1016, 1006, 1007], rfl, rfl, ?_, ?_, trivial, trivial⟩
      · refine Eq.mpr (β := (g.b = g.b ∧ g.off = g.off ∧ min g.n 4096 = min g.n 4096 ∧ g.c = g.c ∧ g.z = g.z) ∧ ({ o := b2, ro := false : Blk } = { o := b2, ro := false : Blk } ∧ 0 = 0) ∧ ({ o := b5, ro := false : Blk } = { o := b5, ro := false : Blk } ∧ 0 = 0 ∧ 89 = 89 ∧ Int.toNat (89 + (↑(min g.n 4096) : Int)) = 89 + min g.n 4096 ∧ 0 = 0) ∧ ({ o := b6, ro := false : Blk } = { o := b6, ro := false : Blk } ∧ 0 = 0) ∧ ({ o := b7, ro := false : Blk } = { o := b7, ro := false : Blk } ∧ 0 = 0) ∧ True) (by kernel_rfl) (And.intro (And.intro (rfl) (And.intro (rfl) (And.intro (rfl) (And.intro (rfl) (rfl))))) (And.intro (And.intro (rfl) (rfl)) (And.intro (And.intro (rfl) (And.intro (rfl) (And.intro (rfl) (And.intro (by omega) (rfl))))) (And.intro (And.intro (rfl) (rfl)) (And.intro (And.intro (rfl) (rfl)) (trivial))))))
      · refine Eq.mpr (β := (g.b = g.b ∧ g.y = g.y ∧ (IntKind.u8 = IntKind.u8 ∧ g.m = g.m ∧ g.B = g.B) ∧ True) ∧ ({ o := b2, ro := false : Blk } = { o := b2, ro := false : Blk } ∧ 36 = 36 ∧ (IntKind.u8 = IntKind.u8 ∧ 32 = 32 ∧ f.key = f.key) ∧ Value.int IntKind.i64 f.part = Value.int IntKind.i64 f.part ∧ Value.bool f.last = Value.bool f.last ∧ Value.int IntKind.i64 f.size = Value.int IntKind.i64 f.size ∧ (IntKind.u8 = IntKind.u8 ∧ 32 = 32 ∧ f.sum = f.sum) ∧ Value.int IntKind.u64 f.turn = Value.int IntKind.u64 f.turn ∧ True) ∧ ({ o := b5, ro := false : Blk } = { o := b5, ro := false : Blk } ∧ 5 = 5 ∧ (IntKind.u8 = IntKind.u8 ∧ Int.toNat (89 + (↑(min g.n 4096) : Int)) = 89 + min g.n 4096 ∧ List.set (putB (List.take 4 (List.take 0 (List.replicate (Int.toNat (89 + (↑(min g.n 4096) : Int))) 0) ++ (List.take 4 (strInts { data := { toList := [65, 77, 66, 82] : Array UInt8 } : ByteArray }) ++ List.drop 4 (List.replicate (Int.toNat (89 + (↑(min g.n 4096) : Int))) 0))) ++ (List.take 32 (List.take 32 (List.drop 0 f.key)) ++ List.drop 36 (List.take 0 (List.replicate (Int.toNat (89 + (↑(min g.n 4096) : Int))) 0) ++ (List.take 4 (strInts { data := { toList := [65, 77, 66, 82] : Array UInt8 } : ByteArray }) ++ List.drop 4 (List.replicate (Int.toNat (89 + (↑(min g.n 4096) : Int))) 0))))) 36 4 (IntKind.wrap IntKind.u64 f.part) 4) 40 1 = frA f (89 + min g.n 4096)) ∧ True) ∧ ({ o := b6, ro := false : Blk } = { o := b6, ro := false : Blk } ∧ 76 = 76 ∧ ({ o := b5, ro := false : Blk } = { o := b5, ro := false : Blk } ∧ 0 = 0 ∧ 4 = 4 ∧ 4 = 4 ∧ 0 = 0) ∧ ({ o := b5, ro := false : Blk } = { o := b5, ro := false : Blk } ∧ 4 = 4 ∧ 32 = 32 ∧ 32 = 32 ∧ 0 = 0) ∧ ({ o := b5, ro := false : Blk } = { o := b5, ro := false : Blk } ∧ 36 = 36 ∧ 4 = 4 ∧ 4 = 4 ∧ 0 = 0) ∧ ({ o := b5, ro := false : Blk } = { o := b5, ro := false : Blk } ∧ 40 = 40 ∧ 1 = 1 ∧ 1 = 1 ∧ 0 = 0) ∧ ({ o := b5, ro := false : Blk } = { o := b5, ro := false : Blk } ∧ 41 = 41 ∧ 4 = 4 ∧ 4 = 4 ∧ 0 = 0) ∧ ({ o := b5, ro := false : Blk } = { o := b5, ro := false : Blk } ∧ 45 = 45 ∧ 32 = 32 ∧ 32 = 32 ∧ 0 = 0) ∧ ({ o := b5, ro := false : Blk } = { o := b5, ro := false : Blk } ∧ 77 = 77 ∧ 8 = 8 ∧ 8 = 8 ∧ 0 = 0) ∧ ({ o := b5, ro := false : Blk } = { o := b5, ro := false : Blk } ∧ 85 = 85 ∧ 4 = 4 ∧ 4 = 4 ∧ 0 = 0) ∧ True) ∧ ({ o := b7, ro := false : Blk } = { o := b7, ro := false : Blk } ∧ 25 = 25 ∧ (IntKind.u8 = IntKind.u8 ∧ 32 = 32 ∧ List.take 0 (List.replicate 32 0) ++ sumL (GS.l { b := g.b, off := g.off, n := min g.n 4096, c := g.c, z := g.z, m := g.m, y := g.y, B := g.B : GS }) (min g.n 4096) ++ List.drop 32 (List.replicate 32 0) = sumL (List.take 4096 (GS.l g)) (min g.n 4096)) ∧ True) ∧ True) (by kernel_rfl) (And.intro (And.intro (rfl) (And.intro (rfl) (And.intro (And.intro (rfl) (And.intro (rfl) (rfl))) (trivial)))) (And.intro (And.intro (rfl) (And.intro (rfl) (And.intro (And.intro (rfl) (And.intro (rfl) (rfl))) (And.intro (rfl) (And.intro (rfl) (And.intro (rfl) (And.intro (And.intro (rfl) (And.intro (rfl) (rfl))) (And.intro (rfl) (trivial))))))))) (And.intro (And.intro (rfl) (And.intro (rfl) (And.intro (And.intro (rfl) (And.intro (by omega) (?_))) (trivial)))) (And.intro (And.intro (rfl) (And.intro (rfl) (And.intro (And.intro (rfl) (And.intro (rfl) (And.intro (rfl) (And.intro (rfl) (rfl))))) (And.intro (And.intro (rfl) (And.intro (rfl) (And.intro (rfl) (And.intro (rfl) (rfl))))) (And.intro (And.intro (rfl) (And.intro (rfl) (And.intro (rfl) (And.intro (rfl) (rfl))))) (And.intro (And.intro (rfl) (And.intro (rfl) (And.intro (rfl) (And.intro (rfl) (rfl))))) (And.intro (And.intro (rfl) (And.intro (rfl) (And.intro (rfl) (And.intro (rfl) (rfl))))) (And.intro (And.intro (rfl) (And.intro (rfl) (And.intro (rfl) (And.intro (rfl) (rfl))))) (And.intro (And.intro (rfl) (And.intro (rfl) (And.intro (rfl) (And.intro (rfl) (rfl))))) (And.intro (And.intro (rfl) (And.intro (rfl) (And.intro (rfl) (And.intro (rfl) (rfl))))) (trivial))))))))))) (And.intro (And.intro (rfl) (And.intro (rfl) (And.intro (And.intro (rfl) (And.intro (rfl) (?_))) (trivial)))) (trivial))))))
        · rw [hc, hE]
          exact frA_set l1 h (by omega)
        · rw [hS]; simp [sumL_len]
    · have h : f.last = false := h
      skip
      refine ⟨(), [1, 2, 1016, 1006, 1007], rfl, rfl, ?_, ?_, trivial, trivial⟩
      · refine Eq.mpr (β := (g.b = g.b ∧ g.off = g.off ∧ min g.n 4096 = min g.n 4096 ∧ g.c = g.c ∧ g.z = g.z) ∧ ({ o := b2, ro := false : Blk } = { o := b2, ro := false : Blk } ∧ 0 = 0) ∧ ({ o := b5, ro := false : Blk } = { o := b5, ro := false : Blk } ∧ 0 = 0 ∧ 89 = 89 ∧ Int.toNat (89 + (↑(min g.n 4096) : Int)) = 89 + min g.n 4096 ∧ 0 = 0) ∧ ({ o := b6, ro := false : Blk } = { o := b6, ro := false : Blk } ∧ 0 = 0) ∧ ({ o := b7, ro := false : Blk } = { o := b7, ro := false : Blk } ∧ 0 = 0) ∧ True) (by kernel_rfl) (And.intro (And.intro (rfl) (And.intro (rfl) (And.intro (rfl) (And.intro (rfl) (rfl))))) (And.intro (And.intro (rfl) (rfl)) (And.intro (And.intro (rfl) (And.intro (rfl) (And.intro (rfl) (And.intro (by omega) (rfl))))) (And.intro (And.intro (rfl) (rfl)) (And.intro (And.intro (rfl) (rfl)) (trivial))))))
      · refine Eq.mpr (β := (g.b = g.b ∧ g.y = g.y ∧ (IntKind.u8 = IntKind.u8 ∧ g.m = g.m ∧ g.B = g.B) ∧ True) ∧ ({ o := b2, ro := false : Blk } = { o := b2, ro := false : Blk } ∧ 36 = 36 ∧ (IntKind.u8 = IntKind.u8 ∧ 32 = 32 ∧ f.key = f.key) ∧ Value.int IntKind.i64 f.part = Value.int IntKind.i64 f.part ∧ Value.bool f.last = Value.bool f.last ∧ Value.int IntKind.i64 f.size = Value.int IntKind.i64 f.size ∧ (IntKind.u8 = IntKind.u8 ∧ 32 = 32 ∧ f.sum = f.sum) ∧ Value.int IntKind.u64 f.turn = Value.int IntKind.u64 f.turn ∧ True) ∧ ({ o := b5, ro := false : Blk } = { o := b5, ro := false : Blk } ∧ 5 = 5 ∧ (IntKind.u8 = IntKind.u8 ∧ Int.toNat (89 + (↑(min g.n 4096) : Int)) = 89 + min g.n 4096 ∧ putB (List.take 4 (List.take 0 (List.replicate (Int.toNat (89 + (↑(min g.n 4096) : Int))) 0) ++ (List.take 4 (strInts { data := { toList := [65, 77, 66, 82] : Array UInt8 } : ByteArray }) ++ List.drop 4 (List.replicate (Int.toNat (89 + (↑(min g.n 4096) : Int))) 0))) ++ (List.take 32 (List.take 32 (List.drop 0 f.key)) ++ List.drop 36 (List.take 0 (List.replicate (Int.toNat (89 + (↑(min g.n 4096) : Int))) 0) ++ (List.take 4 (strInts { data := { toList := [65, 77, 66, 82] : Array UInt8 } : ByteArray }) ++ List.drop 4 (List.replicate (Int.toNat (89 + (↑(min g.n 4096) : Int))) 0))))) 36 4 (IntKind.wrap IntKind.u64 f.part) 4 = frA f (89 + min g.n 4096)) ∧ True) ∧ ({ o := b6, ro := false : Blk } = { o := b6, ro := false : Blk } ∧ 76 = 76 ∧ ({ o := b5, ro := false : Blk } = { o := b5, ro := false : Blk } ∧ 0 = 0 ∧ 4 = 4 ∧ 4 = 4 ∧ 0 = 0) ∧ ({ o := b5, ro := false : Blk } = { o := b5, ro := false : Blk } ∧ 4 = 4 ∧ 32 = 32 ∧ 32 = 32 ∧ 0 = 0) ∧ ({ o := b5, ro := false : Blk } = { o := b5, ro := false : Blk } ∧ 36 = 36 ∧ 4 = 4 ∧ 4 = 4 ∧ 0 = 0) ∧ ({ o := b5, ro := false : Blk } = { o := b5, ro := false : Blk } ∧ 40 = 40 ∧ 1 = 1 ∧ 1 = 1 ∧ 0 = 0) ∧ ({ o := b5, ro := false : Blk } = { o := b5, ro := false : Blk } ∧ 41 = 41 ∧ 4 = 4 ∧ 4 = 4 ∧ 0 = 0) ∧ ({ o := b5, ro := false : Blk } = { o := b5, ro := false : Blk } ∧ 45 = 45 ∧ 32 = 32 ∧ 32 = 32 ∧ 0 = 0) ∧ ({ o := b5, ro := false : Blk } = { o := b5, ro := false : Blk } ∧ 77 = 77 ∧ 8 = 8 ∧ 8 = 8 ∧ 0 = 0) ∧ ({ o := b5, ro := false : Blk } = { o := b5, ro := false : Blk } ∧ 85 = 85 ∧ 4 = 4 ∧ 4 = 4 ∧ 0 = 0) ∧ True) ∧ ({ o := b7, ro := false : Blk } = { o := b7, ro := false : Blk } ∧ 25 = 25 ∧ (IntKind.u8 = IntKind.u8 ∧ 32 = 32 ∧ List.take 0 (List.replicate 32 0) ++ sumL (GS.l { b := g.b, off := g.off, n := min g.n 4096, c := g.c, z := g.z, m := g.m, y := g.y, B := g.B : GS }) (min g.n 4096) ++ List.drop 32 (List.replicate 32 0) = sumL (List.take 4096 (GS.l g)) (min g.n 4096)) ∧ True) ∧ True) (by kernel_rfl) (And.intro (And.intro (rfl) (And.intro (rfl) (And.intro (And.intro (rfl) (And.intro (rfl) (rfl))) (trivial)))) (And.intro (And.intro (rfl) (And.intro (rfl) (And.intro (And.intro (rfl) (And.intro (rfl) (rfl))) (And.intro (rfl) (And.intro (rfl) (And.intro (rfl) (And.intro (And.intro (rfl) (And.intro (rfl) (rfl))) (And.intro (rfl) (trivial))))))))) (And.intro (And.intro (rfl) (And.intro (rfl) (And.intro (And.intro (rfl) (And.intro (by omega) (?_))) (trivial)))) (And.intro (And.intro (rfl) (And.intro (rfl) (And.intro (And.intro (rfl) (And.intro (rfl) (And.intro (rfl) (And.intro (rfl) (rfl))))) (And.intro (And.intro (rfl) (And.intro (rfl) (And.intro (rfl) (And.intro (rfl) (rfl))))) (And.intro (And.intro (rfl) (And.intro (rfl) (And.intro (rfl) (And.intro (rfl) (rfl))))) (And.intro (And.intro (rfl) (And.intro (rfl) (And.intro (rfl) (And.intro (rfl) (rfl))))) (And.intro (And.intro (rfl) (And.intro (rfl) (And.intro (rfl) (And.intro (rfl) (rfl))))) (And.intro (And.intro (rfl) (And.intro (rfl) (And.intro (rfl) (And.intro (rfl) (rfl))))) (And.intro (And.intro (rfl) (And.intro (rfl) (And.intro (rfl) (And.intro (rfl) (rfl))))) (And.intro (And.intro (rfl) (And.intro (rfl) (And.intro (rfl) (And.intro (rfl) (rfl))))) (trivial))))))))))) (And.intro (And.intro (rfl) (And.intro (rfl) (And.intro (And.intro (rfl) (And.intro (rfl) (?_))) (trivial)))) (trivial))))))
        · rw [hc, hE]
          exact frA_not h (by omega)
        · rw [hS]; simp [sumL_len]
  rintro ⟨⟩ _
  have lA : (frA f (89 + min g.n 4096)).length = 89 + min g.n 4096 := frA_len l1 (by omega)
  have lS : (sumL (g.l.take 4096) (min g.n 4096)).length = 32 := sumL_len _ _
  refine And.intro rfl ?_
  refine And.intro (And.intro (And.intro (And.intro (rfl) (And.intro (rfl) (And.intro (rfl) (And.intro (rfl) (rfl))))) (And.intro (rfl) (trivial))) (And.intro (And.intro (And.intro (And.intro (rfl) (And.intro (rfl) (And.intro (And.intro (rfl) (And.intro (rfl) (rfl))) (trivial)))) (trivial)) (rfl)) (And.intro (rfl) (And.intro (rfl) (And.intro (rfl) (And.intro (rfl) (And.intro (Eq.mpr (β := 41 + 4 ≤ 89 + min g.n 4096) (by kernel_rfl) (by omega)) (And.intro (rfl) (Eq.mpr (β := 4 ≤ 1099511627776) (by kernel_rfl) (by omega)))))))))) (fun (_ : Unit) _ => ?_)
  refine And.intro (by kernel_rfl) ?_
  refine And.intro rfl ?_
  refine stE ([(47, SV.c (Cel.sl 5 b5 45 32 32 0)), (46, SV.c (Cel.ptr 6 b6 5)), (1, SV.c (Cel.sl 1 g.b g.off (min g.n 4096) g.c g.z)), (2, SV.c (Cel.ptr 2 b2 0)), (5, SV.c (Cel.sl 5 b5 0 89 (89 + min g.n 4096) 0)), (6, SV.c (Cel.ptr 6 b6 0)), (7, SV.c (Cel.ptr 7 b7 0))]) ([(1, g.b, Cont.cells g.y [Cel.ints .u8 g.m g.B]), (2, b2, Cont.cells 36 [Cel.ints .u8 32 f.key, Cel.v (Value.int .i64 f.part), Cel.v (Value.bool f.last), Cel.v (Value.int .i64 f.size), Cel.ints .u8 32 f.sum, Cel.v (Value.int .u64 f.turn)]), (5, b5, Cont.cells 5 [Cel.ints .u8 (89 + min g.n 4096) (putB (frA f (89 + min g.n 4096)) 41 4 (IntKind.wrap .u64 (↑(min g.n 4096) : Int)) 4)]), (6, b6, Cont.cells 76 [Cel.sl 5 b5 0 4 4 0, Cel.sl 5 b5 4 32 32 0, Cel.sl 5 b5 36 4 4 0, Cel.sl 5 b5 40 1 1 0, Cel.sl 5 b5 41 4 4 0, Cel.sl 5 b5 45 32 32 0, Cel.sl 5 b5 77 8 8 0, Cel.sl 5 b5 85 4 4 0]), (7, b7, Cont.cells 25 [Cel.ints .u8 32 (sumL (List.take 4096 (GS.l g)) (min g.n 4096))])]) (by kernel_rfl) (by kernel_rfl) ?_
  refine And.intro (And.intro (And.intro (rfl) (And.intro (rfl) (And.intro (by omega) (by omega)))) (And.intro (rfl) (And.intro (Eq.mpr (β := 32 ≤ 32) (by kernel_rfl) (by omega)) (by omega)))) ?_
  refine And.intro rfl ?_
  refine And.intro rfl ?_
  refine And.intro (And.intro (And.intro (And.intro (rfl) (And.intro (rfl) (And.intro (rfl) (And.intro (rfl) (rfl))))) (And.intro (rfl) (trivial))) (And.intro (And.intro (And.intro (And.intro (rfl) (And.intro (rfl) (And.intro (And.intro (rfl) (And.intro (rfl) (rfl))) (trivial)))) (trivial)) (rfl)) (And.intro (rfl) (And.intro (rfl) (And.intro (rfl) (And.intro (rfl) (And.intro (Eq.mpr (β := 77 + 8 ≤ 89 + min g.n 4096) (by kernel_rfl) (by omega)) (And.intro (rfl) (Eq.mpr (β := 8 ≤ 1099511627776) (by kernel_rfl) (by omega)))))))))) (fun (_ : Unit) _ => ?_)
  refine stE ([(54, SV.tup []), (53, SV.int .u64 f.turn), (52, SV.c (Cel.ptr 2 b2 67)), (51, SV.c (Cel.sl 5 b5 77 8 8 0)), (50, SV.c (Cel.ptr 6 b6 6)), (1, SV.c (Cel.sl 1 g.b g.off (min g.n 4096) g.c g.z)), (2, SV.c (Cel.ptr 2 b2 0)), (5, SV.c (Cel.sl 5 b5 0 89 (89 + min g.n 4096) 0)), (6, SV.c (Cel.ptr 6 b6 0)), (7, SV.c (Cel.ptr 7 b7 0))]) ([(1, g.b, Cont.cells g.y [Cel.ints .u8 g.m g.B]), (2, b2, Cont.cells 36 [Cel.ints .u8 32 f.key, Cel.v (Value.int .i64 f.part), Cel.v (Value.bool f.last), Cel.v (Value.int .i64 f.size), Cel.ints .u8 32 f.sum, Cel.v (Value.int .u64 f.turn)]), (5, b5, Cont.cells 5 [Cel.ints .u8 (89 + min g.n 4096) (putB (List.take 45 (putB (frA f (89 + min g.n 4096)) 41 4 (IntKind.wrap .u64 (↑(min g.n 4096) : Int)) 4) ++ (List.take 32 (List.take 32 (List.drop 0 (sumL (List.take 4096 (GS.l g)) (min g.n 4096)))) ++ List.drop 77 (putB (frA f (89 + min g.n 4096)) 41 4 (IntKind.wrap .u64 (↑(min g.n 4096) : Int)) 4))) 77 8 f.turn 8)]), (6, b6, Cont.cells 76 [Cel.sl 5 b5 0 4 4 0, Cel.sl 5 b5 4 32 32 0, Cel.sl 5 b5 36 4 4 0, Cel.sl 5 b5 40 1 1 0, Cel.sl 5 b5 41 4 4 0, Cel.sl 5 b5 45 32 32 0, Cel.sl 5 b5 77 8 8 0, Cel.sl 5 b5 85 4 4 0]), (7, b7, Cont.cells 25 [Cel.ints .u8 32 (sumL (List.take 4096 (GS.l g)) (min g.n 4096))])]) (by kernel_rfl) (by kernel_rfl) ?_
  refine And.intro (by kernel_rfl) ?_
  refine And.intro rfl ?_
  refine And.intro (by omega) ?_
  refine And.intro (And.intro (And.intro (And.intro (rfl) (And.intro (rfl) (And.intro (rfl) (And.intro (rfl) (rfl))))) (trivial)) (And.intro (And.intro (And.intro (And.intro (rfl) (And.intro (rfl) (And.intro (And.intro (rfl) (And.intro (rfl) (rfl))) (trivial)))) (trivial)) (rfl)) (And.intro (rfl) (And.intro (rfl) (And.intro (rfl) (And.intro (rfl) (And.intro (And.intro (Eq.mpr (β := 0 + (89 + min g.n 4096 - 0) ≤ 89 + min g.n 4096) (by kernel_rfl) (by omega)) (And.intro (Eq.mpr (β := 85 ≤ 89 + min g.n 4096 - 0) (by kernel_rfl) (by omega)) (And.intro (Eq.mpr (β := 0 = 0 ∨ 89 + min g.n 4096 - 0 = 0) (by kernel_rfl) (by omega)) (Eq.mpr (β := List.length (putB (List.take 45 (putB (frA f (89 + min g.n 4096)) 41 4 (IntKind.wrap IntKind.u64 (↑(min g.n 4096) : Int)) 4) ++ (List.take 32 (List.take 32 (List.drop 0 (sumL (List.take 4096 (GS.l g)) (min g.n 4096)))) ++ List.drop 77 (putB (frA f (89 + min g.n 4096)) 41 4 (IntKind.wrap IntKind.u64 (↑(min g.n 4096) : Int)) 4))) 77 8 f.turn 8) = 89 + min g.n 4096) (by kernel_rfl) (by simp only [putB_len, List.length_append, List.length_take, List.length_drop, lA, lS] <;> omega))))) (Eq.mpr (β := 85 ≤ 1099511627776) (by kernel_rfl) (by omega))))))))) (fun (_ : Unit) _ => ?_)
  refine stE ([(59, SV.int .u32 (crc (GS.l ⟨b5, 0, 85, 89 + min g.n 4096 - 0, 0, 89 + min g.n 4096, 5, putB (List.take 45 (putB (frA f (89 + min g.n 4096)) 41 4 (IntKind.wrap .u64 (↑(min g.n 4096) : Int)) 4) ++ (List.take 32 (List.take 32 (List.drop 0 (sumL (List.take 4096 (GS.l g)) (min g.n 4096)))) ++ List.drop 77 (putB (frA f (89 + min g.n 4096)) 41 4 (IntKind.wrap .u64 (↑(min g.n 4096) : Int)) 4))) 77 8 f.turn 8⟩) 85)), (58, SV.c (Cel.sl 5 b5 0 85 (89 + min g.n 4096 - 0) 0)), (57, SV.c (Cel.sl 5 b5 0 89 (89 + min g.n 4096) 0)), (56, SV.c (Cel.sl 5 b5 85 4 4 0)), (55, SV.c (Cel.ptr 6 b6 7)), (1, SV.c (Cel.sl 1 g.b g.off (min g.n 4096) g.c g.z)), (2, SV.c (Cel.ptr 2 b2 0)), (5, SV.c (Cel.sl 5 b5 0 89 (89 + min g.n 4096) 0)), (6, SV.c (Cel.ptr 6 b6 0)), (7, SV.c (Cel.ptr 7 b7 0))]) ([(1, g.b, Cont.cells g.y [Cel.ints .u8 g.m g.B]), (2, b2, Cont.cells 36 [Cel.ints .u8 32 f.key, Cel.v (Value.int .i64 f.part), Cel.v (Value.bool f.last), Cel.v (Value.int .i64 f.size), Cel.ints .u8 32 f.sum, Cel.v (Value.int .u64 f.turn)]), (5, b5, Cont.cells 5 [Cel.ints .u8 (89 + min g.n 4096) (putB (List.take 45 (putB (frA f (89 + min g.n 4096)) 41 4 (IntKind.wrap .u64 (↑(min g.n 4096) : Int)) 4) ++ (List.take 32 (List.take 32 (List.drop 0 (sumL (List.take 4096 (GS.l g)) (min g.n 4096)))) ++ List.drop 77 (putB (frA f (89 + min g.n 4096)) 41 4 (IntKind.wrap .u64 (↑(min g.n 4096) : Int)) 4))) 77 8 f.turn 8)]), (6, b6, Cont.cells 76 [Cel.sl 5 b5 0 4 4 0, Cel.sl 5 b5 4 32 32 0, Cel.sl 5 b5 36 4 4 0, Cel.sl 5 b5 40 1 1 0, Cel.sl 5 b5 41 4 4 0, Cel.sl 5 b5 45 32 32 0, Cel.sl 5 b5 77 8 8 0, Cel.sl 5 b5 85 4 4 0]), (7, b7, Cont.cells 25 [Cel.ints .u8 32 (sumL (List.take 4096 (GS.l g)) (min g.n 4096))])]) (by kernel_rfl) (by kernel_rfl) ?_
  refine And.intro (And.intro (And.intro (And.intro (rfl) (And.intro (rfl) (And.intro (rfl) (And.intro (rfl) (rfl))))) (And.intro (rfl) (trivial))) (And.intro (And.intro (And.intro (And.intro (rfl) (And.intro (rfl) (And.intro (And.intro (rfl) (And.intro (rfl) (rfl))) (trivial)))) (trivial)) (rfl)) (And.intro (rfl) (And.intro (rfl) (And.intro (rfl) (And.intro (rfl) (And.intro (Eq.mpr (β := 85 + 4 ≤ 89 + min g.n 4096) (by kernel_rfl) (by omega)) (And.intro (rfl) (Eq.mpr (β := 4 ≤ 1099511627776) (by kernel_rfl) (by omega)))))))))) (fun (_ : Unit) _ => ?_)
  refine And.intro (And.intro (And.intro (And.intro (rfl) (And.intro (rfl) (And.intro (Eq.mpr (β := 0 + (89 + min g.n 4096) ≤ 89 + min g.n 4096) (by kernel_rfl) (by omega)) (And.intro (by omega) (by omega))))) (And.intro (rfl) (And.intro (by omega) (by omega)))) (by omega)) ?_
  intro r hr
  replace hr : ApR.fits r (89 + min g.n 4096) (List.take 89 (List.drop 0 (putB (putB (List.take 45 (putB (frA f (89 + min g.n 4096)) 41 4 (IntKind.wrap IntKind.u64 (↑(min g.n 4096) : Int)) 4) ++ (List.take 32 (List.take 32 (List.drop 0 (sumL (List.take 4096 (GS.l g)) (min g.n 4096)))) ++ List.drop 77 (putB (frA f (89 + min g.n 4096)) 41 4 (IntKind.wrap IntKind.u64 (↑(min g.n 4096) : Int)) 4))) 77 8 f.turn 8) 85 4 (IntKind.wrap IntKind.u64 (crc (GS.l { b := { o := b5, ro := false : Blk }, off := 0, n := 85, c := 89 + min g.n 4096 - 0, z := 0, m := 89 + min g.n 4096, y := 5, B := putB (List.take 45 (putB (frA f (89 + min g.n 4096)) 41 4 (IntKind.wrap IntKind.u64 (↑(min g.n 4096) : Int)) 4) ++ (List.take 32 (List.take 32 (List.drop 0 (sumL (List.take 4096 (GS.l g)) (min g.n 4096)))) ++ List.drop 77 (putB (frA f (89 + min g.n 4096)) 41 4 (IntKind.wrap IntKind.u64 (↑(min g.n 4096) : Int)) 4))) 77 8 f.turn 8 : GS }) 85)) 4)) ++ List.take (min g.n 4096) (List.drop g.off g.B)) := Eq.mp (by kernel_rfl) hr
  skip
  have hL := frB_eq (f := f) l1 (c := 89 + min g.n 4096) (by omega) (min g.n 4096) _ lS
  rw [hL] at hr
  refine ⟨r, [1064, 1], ?_, rfl, rfl, ?_, ?_⟩
  · refine Eq.mpr (β := { o := r.b, ro := false : Blk } = { o := r.b, ro := false : Blk } ∧ r.off = r.off ∧ 89 + min g.n 4096 = 89 + min g.n 4096 ∧ r.cap = r.cap ∧ r.z = r.z) (by kernel_rfl) (And.intro (rfl) (And.intro (rfl) (And.intro (rfl) (And.intro (rfl) (rfl)))))
  · refine Eq.mpr (β := ({ o := r.b, ro := false : Blk } = { o := r.b, ro := false : Blk } ∧ r.y = r.y ∧ (IntKind.u8 = IntKind.u8 ∧ r.m = r.m ∧ r.L = r.L) ∧ True) ∧ (g.b = g.b ∧ g.y = g.y ∧ (IntKind.u8 = IntKind.u8 ∧ g.m = g.m ∧ g.B = g.B) ∧ True) ∧ True) (by kernel_rfl) (And.intro (And.intro (rfl) (And.intro (rfl) (And.intro (And.intro (rfl) (And.intro (rfl) (rfl))) (trivial)))) (And.intro (And.intro (rfl) (And.intro (rfl) (And.intro (And.intro (rfl) (And.intro (rfl) (rfl))) (trivial)))) (trivial)))
  · refine fits_of hr rfl ?_
    show _ = frL f (g.l.take 4096) (min g.n 4096)
    show List.take 89 (List.drop 0 (putB (frHead f (g.l.take 4096) (min g.n 4096) ++ List.replicate (89 + min g.n 4096 - 85) 0) 85 4
      (IntKind.u64.wrap (crc (List.take 85 (List.drop 0 (frHead f (g.l.take 4096) (min g.n 4096) ++ List.replicate (89 + min g.n 4096 - 85) 0))) 85)) 4)) ++ (GS.mk g.b g.off (min g.n 4096) g.c g.z g.m g.y g.B).l = _
    have hh := frHead_len (f := f) l1 (g.l.take 4096) (min g.n 4096)
    rw [hS]
    unfold frL
    generalize frHead f (g.l.take 4096) (min g.n 4096) = X at hh ⊢
    simp only [List.drop_zero]
    rw [List.take_left' hh, putB_app _ _ 85 4 _ hh.symm (by simp; omega)]
    generalize putL (IntKind.u64.wrap (crc X 85)) 4 4 = Y, putL_len (IntKind.u64.wrap (crc X 85)) 4 4 = lY
    simp [List.take_append, hh, lY, List.take_of_length_le]

end Go.Proofs.Ytpggklkofilmfaa
