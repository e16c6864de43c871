/- The reference's padding, its numbers' bytes. -/
import Derived.Test.YtpggklkofilmfaaSha2
set_option linter.unusedSimpArgs false
set_option linter.unusedVariables false
namespace Go.Proofs.Ytpggklkofilmfaa
open Go Go.Ab
set_option maxRecDepth 100000

/-- A slice argument of numbers: its block, where it begins, how long it is, its capacity, whether it is nil; the block's type, length, numbers. -/
structure GS where
  b : Blk
  (off n c z m y : Nat)
  B : List Int
def GS.l (g : GS) : List Int := (g.B.drop g.off).take g.n
def GS.arg (g : GS) (t : Nat) : SV := .c (.sl t g.b g.off g.n g.c g.z)
def GS.ent (g : GS) (t : Nat) (k : IntKind) : Nat × Blk × Cont := (t, g.b, .cells g.y [.ints k g.m g.B])
structure GS.ok (g : GS) : Prop where
  h1 : g.off + g.c ≤ g.m
  h2 : g.n ≤ g.c
  h3 : g.z = 0 ∨ g.c = 0
  h4 : g.B.length = g.m
def gsOf (h : Hp) : SV → Option (GS × Nat)
  | .c (.sl t b o n c z) => match h.get t with
    | some (_, .cells y [.ints _ m B]) => some (⟨b, o, n, c, z, m, y, B⟩, t)
    | some (_, .void) => some (⟨b, o, n, c, z, 0, 0, []⟩, t)
    | _ => none
  | _ => none
def vS (i t N : Nat) (r : ApR) : Nat × SV := (i, .c (.sl t r.b r.off N r.cap r.z))
def vH (t : Nat) (k : IntKind) (r : ApR) : Nat × Blk × Cont := (t, r.b, .cells r.y [.ints k r.m r.L])

/-! ### ambryref1.pad -/
def padK (n : Nat) : Nat := (119 - n % 64) % 64
def beTail (x : Int) : Nat → List Int
  | 0 => []
  | j + 1 => beTail x j ++ [IntKind.u8.wrap (ishr .u64 x (8 * (7 - (j : Int))))]
def padL (l : List Int) (n : Nat) : List Int := l ++ 128 :: List.replicate (padK n) 0 ++ beTail (imul .u64 (IntKind.u64.wrap n) 8) 8
theorem beTail_succ (x : Int) (j : Nat) : beTail x (j + 1) = beTail x j ++ [IntKind.u8.wrap (ishr .u64 x (8 * (7 - (j : Int))))] := rfl
attribute [irreducible] beTail

def cx35 : Cx := ⟨tab, fun _ => none, 34, true⟩
theorem cx35_ok : CxOk Try.prog cx35 := ⟨tab_ok, fun f c h => by cases h⟩
def sp35 : FSpec where
  G := GS
  args g := [g.arg 0]
  hp g := [g.ent 0 .u8]
  pre g := g.ok ∧ g.n ≤ 1099511627776
  R _ := ApR
  post g r := r.fits (g.n + 1 + padK g.n + 8) (padL g.l g.n)
  res g r := (vS 0 100 (g.n + 1 + padK g.n + 8) r).2
  new _ r := [vH 100 .u8 r]
  upd _ _ := []
  news := [100]
  wr := false
  mt vs h := match vs with
    | [x] => match gsOf h x with
      | some (g, t) => some (g, [t])
      | none => none
    | _ => none
def inv35a (g : GS) : Inv where
  G := ApR × Nat
  pre x := x.1.fits (g.n + 1 + x.2) (g.l ++ 128 :: List.replicate x.2 0) ∧ x.2 ≤ padK g.n
  sl x := [(0, g.arg 0), vS 3 3 (g.n + 1 + x.2) x.1]
  hp x := [g.ent 0 .u8, vH 3 .u8 x.1]
  mu x := padK g.n - x.2
def inv35b (g : GS) : Inv where
  G := ApR × Nat
  pre x := x.1.fits (g.n + 1 + padK g.n + x.2) (g.l ++ 128 :: List.replicate (padK g.n) 0 ++ beTail (imul .u64 (IntKind.u64.wrap g.n) 8) x.2) ∧ x.2 ≤ 8
  sl x := [(0, g.arg 0), vS 3 3 (g.n + 1 + padK g.n + x.2) x.1, (4, .int .u64 (imul .u64 (IntKind.u64.wrap g.n) 8)), (5, .int .i64 (7 - (x.2 : Int)))]
  hp x := [g.ent 0 .u8, vH 3 .u8 x.1]
  mu x := 8 - x.2
def nt35 (g : GS) : Notes := ⟨fun _ => none, fun _ => none, fun
    | 2 => some (inv35a g)
    | 6 => some (inv35b g)
    | _ => none, [0, 2, 3, 4, 5, 13, 22]⟩

set_option maxHeartbeats 4000000 in
theorem fn35 : FnOk Try.prog 35 sp35 := by
  refine fnOk_of_vc cx35_ok wide (nt := nt35) Try.func35 rfl rfl (by kernel_rfl) (fuel := 1000) (fun _ => Nat.le_of_ble_eq_true rfl) (fun _ _ t h => h) (fun h => by cases h) ?_
  intro (g : GS) hpre
  have hn : g.n ≤ 1099511627776 := hpre.2
  obtain ⟨g1, g2, g3, g4⟩ := hpre.1
  have hl : g.l.length = g.n := by unfold GS.l; simp; omega
  refine And.intro (And.intro (And.intro (And.intro (rfl) (rfl)) (And.intro (rfl) (And.intro (by omega) (by omega)))) (by omega)) ?_
  intro r1 hr1
  replace hr1 : ApR.fits r1 (0 + g.n) ([] ++ List.take g.n (List.drop g.off g.B)) := Eq.mp (by kernel_rfl) hr1
  obtain ⟨a1, a2, a3, a4, a5⟩ := hr1
  intro b8 _
  refine And.intro (And.intro (And.intro (And.intro (rfl) (And.intro (rfl) (And.intro (by omega) (And.intro (by omega) (by omega))))) (And.intro (rfl) (And.intro (by omega) (by omega)))) (by omega)) ?_
  intro r2 hr2
  replace hr2 : ApR.fits r2 (0 + g.n + 1) (List.take (0 + g.n) (List.drop r1.off r1.L) ++ List.take 1 (List.drop 0 [128])) := Eq.mp (by kernel_rfl) hr2
  refine ⟨⟨(r2, 0), [0, 1009], rfl, rfl, ?_, ?_, ?_, trivial⟩, ?_⟩
  · refine Eq.mpr (β := (g.b = g.b ∧ g.off = g.off ∧ g.n = g.n ∧ g.c = g.c ∧ g.z = g.z) ∧ ({ o := r2.b, ro := false : Blk } = { o := r2.b, ro := false : Blk } ∧ r2.off = r2.off ∧ 0 + g.n + 1 = g.n + 1 + 0 ∧ r2.cap = r2.cap ∧ r2.z = r2.z) ∧ True) (by kernel_rfl) (And.intro (And.intro (rfl) (And.intro (rfl) (And.intro (rfl) (And.intro (rfl) (rfl))))) (And.intro (And.intro (rfl) (And.intro (rfl) (And.intro (by omega) (And.intro (rfl) (rfl))))) (trivial)))
  · refine Eq.mpr (β := (g.b = g.b ∧ g.y = g.y ∧ (IntKind.u8 = IntKind.u8 ∧ g.m = g.m ∧ g.B = g.B) ∧ True) ∧ ({ o := r2.b, ro := false : Blk } = { o := r2.b, ro := false : Blk } ∧ r2.y = r2.y ∧ (IntKind.u8 = IntKind.u8 ∧ r2.m = r2.m ∧ r2.L = r2.L) ∧ True) ∧ True) (by kernel_rfl) (And.intro (And.intro (rfl) (And.intro (rfl) (And.intro (And.intro (rfl) (And.intro (rfl) (rfl))) (trivial)))) (And.intro (And.intro (rfl) (And.intro (rfl) (And.intro (And.intro (rfl) (And.intro (rfl) (rfl))) (trivial)))) (trivial)))
  · exact ⟨fits_of hr2 (by omega) (by rw [a5]; simp [GS.l]), Nat.zero_le _⟩
  rintro ⟨r, j⟩ ⟨hr, hj⟩
  have hj : j ≤ padK g.n := hj
  have hpk : padK g.n ≤ 63 := by unfold padK; omega
  obtain ⟨b1, b2, b3, b4, b5⟩ := hr
  have b1 : r.off + r.cap ≤ r.m := b1
  have b2 : g.n + 1 + j ≤ r.cap := b2
  have b3 : r.z = 0 ∨ r.cap = 0 := b3
  have b4 : r.L.length = r.m := b4
  have b5 : (r.L.drop r.off).take (g.n + 1 + j) = g.l ++ 128 :: List.replicate j 0 := b5
  have htm : Int.tmod ((g.n + 1 + j : Nat) : Int) 64 = ((g.n + 1 + j) % 64 : Nat) := by
    rw [Int.tmod_eq_emod_of_nonneg (by omega)]; omega
  refine And.intro (by omega) ?_
  refine ⟨fun h => ?_, fun h => ?_⟩
  · replace h : (!decide (Int.tmod (↑(g.n + 1 + j) : Int) 64 = 56)) = true := Eq.mp (by kernel_rfl) h
    have hne : (g.n + 1 + j) % 64 ≠ 56 := by
      intro e
      rw [htm, e] at h
      simp at h
    intro b15 _
    refine And.intro (And.intro (And.intro (And.intro (rfl) (And.intro (rfl) (And.intro (by omega) (And.intro (by omega) (by omega))))) (And.intro (rfl) (And.intro (by omega) (by omega)))) (by omega)) ?_
    intro r2 hr2
    replace hr2 : ApR.fits r2 (g.n + 1 + j + 1) (List.take (g.n + 1 + j) (List.drop r.off r.L) ++ List.take 1 (List.drop 0 [0])) := Eq.mp (by kernel_rfl) hr2
    refine ⟨(r2, j + 1), [0, 1016], rfl, rfl, ?_, ?_, ?_, ?_⟩
    · refine Eq.mpr (β := (g.b = g.b ∧ g.off = g.off ∧ g.n = g.n ∧ g.c = g.c ∧ g.z = g.z) ∧ ({ o := r2.b, ro := false : Blk } = { o := r2.b, ro := false : Blk } ∧ r2.off = r2.off ∧ g.n + 1 + j + 1 = g.n + 1 + (j + 1) ∧ r2.cap = r2.cap ∧ r2.z = r2.z) ∧ True) (by kernel_rfl) (And.intro (And.intro (rfl) (And.intro (rfl) (And.intro (rfl) (And.intro (rfl) (rfl))))) (And.intro (And.intro (rfl) (And.intro (rfl) (And.intro (by omega) (And.intro (rfl) (rfl))))) (trivial)))
    · refine Eq.mpr (β := (g.b = g.b ∧ g.y = g.y ∧ (IntKind.u8 = IntKind.u8 ∧ g.m = g.m ∧ g.B = g.B) ∧ True) ∧ ({ o := r2.b, ro := false : Blk } = { o := r2.b, ro := false : Blk } ∧ r2.y = r2.y ∧ (IntKind.u8 = IntKind.u8 ∧ r2.m = r2.m ∧ r2.L = r2.L) ∧ True) ∧ True) (by kernel_rfl) (And.intro (And.intro (rfl) (And.intro (rfl) (And.intro (And.intro (rfl) (And.intro (rfl) (rfl))) (trivial)))) (And.intro (And.intro (rfl) (And.intro (rfl) (And.intro (And.intro (rfl) (And.intro (rfl) (rfl))) (trivial)))) (trivial)))
    · refine ⟨fits_of hr2 (by omega) (by rw [b5]; simp [List.replicate_succ']), ?_⟩
      show j + 1 ≤ padK g.n
      unfold padK at hj ⊢; omega
    · show padK g.n - (j + 1) < padK g.n - j
      unfold padK at hj ⊢; omega
  have hje : j = padK g.n := by
    replace h : (!decide (Int.tmod (↑(g.n + 1 + j) : Int) 64 = 56)) = false := Eq.mp (by kernel_rfl) h
    have : (g.n + 1 + j) % 64 = 56 := by
      rw [htm] at h
      simp at h
      omega
    unfold padK at hj ⊢; omega
  subst hje
  refine ⟨⟨(r, 0), [0, 3], rfl, rfl, ?_, ?_, ?_, trivial⟩, ?_⟩
  · refine Eq.mpr (β := (g.b = g.b ∧ g.off = g.off ∧ g.n = g.n ∧ g.c = g.c ∧ g.z = g.z) ∧ ({ o := r.b, ro := false : Blk } = { o := r.b, ro := false : Blk } ∧ r.off = r.off ∧ g.n + 1 + padK g.n = g.n + 1 + padK g.n + 0 ∧ r.cap = r.cap ∧ r.z = r.z) ∧ Value.int IntKind.u64 (imul IntKind.u64 (IntKind.wrap IntKind.u64 (↑g.n : Int)) 8) = Value.int IntKind.u64 (imul IntKind.u64 (IntKind.wrap IntKind.u64 (↑g.n : Int)) 8) ∧ Value.int IntKind.i64 7 = Value.int IntKind.i64 (7 - (↑0 : Int)) ∧ True) (by kernel_rfl) (And.intro (And.intro (rfl) (And.intro (rfl) (And.intro (rfl) (And.intro (rfl) (rfl))))) (And.intro (And.intro (rfl) (And.intro (rfl) (And.intro (by omega) (And.intro (rfl) (rfl))))) (And.intro (rfl) (And.intro (intE (by omega)) (trivial)))))
  · refine Eq.mpr (β := (g.b = g.b ∧ g.y = g.y ∧ (IntKind.u8 = IntKind.u8 ∧ g.m = g.m ∧ g.B = g.B) ∧ True) ∧ ({ o := r.b, ro := false : Blk } = { o := r.b, ro := false : Blk } ∧ r.y = r.y ∧ (IntKind.u8 = IntKind.u8 ∧ r.m = r.m ∧ r.L = r.L) ∧ True) ∧ True) (by kernel_rfl) (And.intro (And.intro (rfl) (And.intro (rfl) (And.intro (And.intro (rfl) (And.intro (rfl) (rfl))) (trivial)))) (And.intro (And.intro (rfl) (And.intro (rfl) (And.intro (And.intro (rfl) (And.intro (rfl) (rfl))) (trivial)))) (trivial)))
  · exact ⟨fits_of ⟨b1, b2, b3, b4, b5⟩ (by omega) (by unfold beTail; simp), Nat.zero_le _⟩
  rintro ⟨r, j⟩ ⟨hr, hj⟩
  have hj : j ≤ 8 := hj
  obtain ⟨b1, b2, b3, b4, b5⟩ := hr
  have b1 : r.off + r.cap ≤ r.m := b1
  have b2 : g.n + 1 + padK g.n + j ≤ r.cap := b2
  have b3 : r.z = 0 ∨ r.cap = 0 := b3
  have b4 : r.L.length = r.m := b4
  refine ⟨fun h => ?_, fun h => ?_⟩
  · have h : (0 : Int) ≤ 7 - (j : Int) := of_decide_eq_true h
    refine And.intro (by omega) ?_
    refine And.intro (by omega) ?_
    intro b31 _
    refine And.intro (And.intro (And.intro (And.intro (rfl) (And.intro (rfl) (And.intro (by omega) (And.intro (by omega) (by omega))))) (And.intro (rfl) (And.intro (by omega) (by omega)))) (by omega)) ?_
    intro r2 hr2
    replace hr2 : ApR.fits r2 (g.n + 1 + padK g.n + j + 1) (List.take (g.n + 1 + padK g.n + j) (List.drop r.off r.L) ++ List.take 1 (List.drop 0 [IntKind.wrap IntKind.u8 (ishr IntKind.u64 (imul IntKind.u64 (IntKind.wrap IntKind.u64 (↑g.n : Int)) 8) (8 * (7 - (↑j : Int))))])) := Eq.mp (by kernel_rfl) hr2
    refine And.intro (by omega) ?_
    refine ⟨(r2, j + 1), [0, 1032], rfl, rfl, ?_, ?_, ?_, ?_⟩
    · refine Eq.mpr (β := (g.b = g.b ∧ g.off = g.off ∧ g.n = g.n ∧ g.c = g.c ∧ g.z = g.z) ∧ ({ o := r2.b, ro := false : Blk } = { o := r2.b, ro := false : Blk } ∧ r2.off = r2.off ∧ g.n + 1 + padK g.n + j + 1 = g.n + 1 + padK g.n + (j + 1) ∧ r2.cap = r2.cap ∧ r2.z = r2.z) ∧ Value.int IntKind.u64 (imul IntKind.u64 (IntKind.wrap IntKind.u64 (↑g.n : Int)) 8) = Value.int IntKind.u64 (imul IntKind.u64 (IntKind.wrap IntKind.u64 (↑g.n : Int)) 8) ∧ Value.int IntKind.i64 (7 - (↑j : Int) - 1) = Value.int IntKind.i64 (7 - (↑(j + 1) : Int)) ∧ True) (by kernel_rfl) (And.intro (And.intro (rfl) (And.intro (rfl) (And.intro (rfl) (And.intro (rfl) (rfl))))) (And.intro (And.intro (rfl) (And.intro (rfl) (And.intro (by omega) (And.intro (rfl) (rfl))))) (And.intro (rfl) (And.intro (intE (by omega)) (trivial)))))
    · refine Eq.mpr (β := (g.b = g.b ∧ g.y = g.y ∧ (IntKind.u8 = IntKind.u8 ∧ g.m = g.m ∧ g.B = g.B) ∧ True) ∧ ({ o := r2.b, ro := false : Blk } = { o := r2.b, ro := false : Blk } ∧ r2.y = r2.y ∧ (IntKind.u8 = IntKind.u8 ∧ r2.m = r2.m ∧ r2.L = r2.L) ∧ True) ∧ True) (by kernel_rfl) (And.intro (And.intro (rfl) (And.intro (rfl) (And.intro (And.intro (rfl) (And.intro (rfl) (rfl))) (trivial)))) (And.intro (And.intro (rfl) (And.intro (rfl) (And.intro (And.intro (rfl) (And.intro (rfl) (rfl))) (trivial)))) (trivial)))
    · refine ⟨fits_of hr2 (by omega) (by rw [b5, beTail_succ]; simp), ?_⟩
      show j + 1 ≤ 8
      omega
    · show 8 - (j + 1) < 8 - j
      omega
  have hje : j = 8 := by
    have h : ¬ ((0 : Int) ≤ 7 - (j : Int)) := of_decide_eq_false h
    omega
  subst hje
  refine ⟨r, [3, 0], ?_, rfl, rfl, ?_, ?_⟩
  · refine Eq.mpr (β := { o := r.b, ro := false : Blk } = { o := r.b, ro := false : Blk } ∧ r.off = r.off ∧ g.n + 1 + padK g.n + 8 = g.n + 1 + padK g.n + 8 ∧ r.cap = r.cap ∧ r.z = r.z) (by kernel_rfl) (And.intro (rfl) (And.intro (rfl) (And.intro (rfl) (And.intro (rfl) (rfl)))))
  · refine Eq.mpr (β := ({ o := r.b, ro := false : Blk } = { o := r.b, ro := false : Blk } ∧ r.y = r.y ∧ (IntKind.u8 = IntKind.u8 ∧ r.m = r.m ∧ r.L = r.L) ∧ True) ∧ (g.b = g.b ∧ g.y = g.y ∧ (IntKind.u8 = IntKind.u8 ∧ g.m = g.m ∧ g.B = g.B) ∧ True) ∧ True) (by kernel_rfl) (And.intro (And.intro (rfl) (And.intro (rfl) (And.intro (And.intro (rfl) (And.intro (rfl) (rfl))) (trivial)))) (And.intro (And.intro (rfl) (And.intro (rfl) (And.intro (And.intro (rfl) (And.intro (rfl) (rfl))) (trivial)))) (trivial)))
  · exact fits_of ⟨b1, b2, b3, b4, b5⟩ rfl rfl

end Go.Proofs.Ytpggklkofilmfaa
