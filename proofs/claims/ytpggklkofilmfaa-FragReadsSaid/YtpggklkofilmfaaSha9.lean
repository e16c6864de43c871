/- The reference's key. -/
import Derived.Test.YtpggklkofilmfaaSha8
set_option linter.unusedSimpArgs false
set_option linter.unusedVariables false
namespace Go.Proofs.Ytpggklkofilmfaa
open Go Go.Ab
set_option maxRecDepth 100000

def inv17 (g : GT) (b2 : BlkO) : Inv where
  G := ApR × Nat
  pre x := x.1.fits (keyL (g.l.take x.2)).length (keyL (g.l.take x.2)) ∧ x.2 ≤ g.n
  sl x := [(0, g.arg 0), (2, .c (.ptr 1002 b2 0)), vS 3 3 (keyL (g.l.take x.2)).length x.1, (4, .int .i64 x.2)]
  hp x := [g.ent 0, (1002, b2, .cells 25 [.ints .u8 32 (List.replicate 32 0)]), vH 3 .u8 x.1]
  mu x := g.n - x.2
def nt17 : Notes := ⟨fun | 5 => some (preOf [0, 1, 2, 3, 4, 5, 6, 8, 9, 10] (.fork 7 (seqOf [11, 12, 13]) (.step 11 (seqOf [7, 12, 13])))) | _ => none, fun _ => none, fun _ => none, [0, 2, 3, 4, 8]⟩
def con17 : FuncId → Option Con
  | 15 => some spSum.con
  | 37 => some sp37.con
  | _ => none
def cx17 : Cx := ⟨tab, con17, 26, true⟩
theorem cx17_ok : CxOk Try.prog cx17 := ⟨tab_ok, fun f c h => by
  unfold cx17 con17 at h
  dsimp only at h
  split at h
  · cases h; exact conOk_of_spec fn15
  · cases h; exact conOk_of_spec fn37
  · cases h⟩

set_option maxHeartbeats 4000000 in
theorem fn17 : FnOk Try.prog 17 spKey := by
  refine fnOk_of_vc cx17_ok wide (nt := fun _ => nt17) Try.func17 rfl rfl (by kernel_rfl) (fuel := 1000) (fun _ => Nat.le_of_ble_eq_true rfl) (fun _ _ t h => h) (fun h => by cases h) ?_
  intro (g : GT) hpre
  obtain ⟨hok, hn, hk⟩ := hpre
  obtain ⟨g1, g2, g3, g4⟩ : g.ok := hok
  have hn : g.n ≤ 1099511627776 := hn
  have hk : (keyL g.l).length ≤ 1099511627776 := hk
  have hll : g.l.length = g.n := by unfold GT.l; simp; omega
  have hk0 : keyL (g.l.take 0) = [] := rfl
  intro bR _
  refine ⟨inv17 g bR, ⟨(⟨0, 0, 0, 0, 1, 0, []⟩, 0), [0, 1002, 99999], rfl, rfl, ?_, ?_, ?_, trivial⟩, ?_⟩
  · refine Eq.mpr (β := And (And (@Eq Blk g.b g.b) (And (@Eq Nat g.off g.off) (And (@Eq Nat g.n g.n) (And (@Eq Nat g.c g.c) (@Eq Nat g.z g.z))))) (And (And (@Eq Blk { o := bR, ro := false : Blk } { o := bR, ro := false : Blk }) (@Eq Nat (@OfNat.ofNat Nat (nat_lit 0) (instOfNatNat (nat_lit 0))) (@OfNat.ofNat Nat (nat_lit 0) (instOfNatNat (nat_lit 0))))) (And (And (@Eq (Option Addr) (@none Addr) (@none Addr)) (And (@Eq Nat (@OfNat.ofNat Nat (nat_lit 0) (instOfNatNat (nat_lit 0))) (@List.length Int (keyL (@List.take ByteArray (@OfNat.ofNat Nat (nat_lit 0) (instOfNatNat (nat_lit 0))) (GT.l g))))) (@Eq Nat (@OfNat.ofNat Nat (nat_lit 0) (instOfNatNat (nat_lit 0))) (@OfNat.ofNat Nat (nat_lit 0) (instOfNatNat (nat_lit 0)))))) (And (@Eq Value (Value.int IntKind.i64 (@OfNat.ofNat Int (nat_lit 0) (@instOfNat (nat_lit 0)))) (Value.int IntKind.i64 (@Nat.cast Int instNatCastInt (@OfNat.ofNat Nat (nat_lit 0) (instOfNatNat (nat_lit 0)))))) True)))) (by kernel_rfl) (And.intro (And.intro (rfl) (And.intro (rfl) (And.intro (rfl) (And.intro (rfl) (rfl))))) (And.intro (And.intro (rfl) (rfl)) (And.intro (And.intro (rfl) (And.intro (?_) (rfl))) (And.intro (intE (by omega)) (trivial)))))
    rw [hk0]; rfl
  · refine Eq.mpr (β := (g.b = g.b ∧ g.y = g.y ∧ (g.m = g.m ∧ g.B = g.B) ∧ True) ∧ ({ o := bR, ro := false : Blk } = { o := bR, ro := false : Blk } ∧ (25 : Nat) = (25 : TypeId) ∧ (IntKind.u8 = IntKind.u8 ∧ (32 : Nat) = (32 : Nat) ∧ List.replicate (32 : Nat) (0 : Int) = List.replicate (32 : Nat) (0 : Int)) ∧ True) ∧ ((0 : Nat) + (0 : Nat) = (0 : Nat) ∧ (true && true) = true) ∧ True) (by kernel_rfl) (And.intro (And.intro (rfl) (And.intro (rfl) (And.intro (And.intro (rfl) (rfl)) (trivial)))) (And.intro (And.intro (rfl) (And.intro (rfl) (And.intro (And.intro (rfl) (And.intro (rfl) (rfl))) (trivial)))) (And.intro (And.intro (rfl) (?_)) (trivial))))
    rfl
  · refine ⟨⟨Nat.le_refl _, ?_, Or.inr rfl, rfl, ?_⟩, Nat.zero_le _⟩
    · show (keyL (g.l.take 0)).length ≤ 0
      rw [hk0]; exact Nat.le_refl _
    · show _ = keyL (g.l.take 0)
      rw [hk0]; rfl
  rintro ⟨r, i⟩ ⟨hr, hi⟩
  have hi : i ≤ g.n := hi
  obtain ⟨b1, b2, b3, b4, b5⟩ := hr
  have b1 : r.off + r.cap ≤ r.m := b1
  have b2 : (keyL (g.l.take i)).length ≤ r.cap := b2
  have b3 : r.z = 0 ∨ r.cap = 0 := b3
  have b4 : r.L.length = r.m := b4
  have b5 : (r.L.drop r.off).take (keyL (g.l.take i)).length = keyL (g.l.take i) := b5
  refine ⟨fun h => ?_, fun h => ?_⟩
  · have h : (i : Int) < (g.n : Int) := of_decide_eq_true h
    have hkt := keyL_take g.l i (by omega)
    have hkl := keyL_take_len g.l (i + 1)
    have hsl := strInts_length (g.l.getD i ByteArray.empty)
    have hgd : g.l.getD i ByteArray.empty = g.B.getD (g.off + i) ByteArray.empty := tl_getD _ _ _ _ (by omega)
    rw [hkt] at hkl
    simp only [List.length_append, lenB_len, hsl] at hkl
    rw [hgd] at hkt hkl hsl
    have e0 : g.off + (i : Int).toNat * 1 = g.off + i := by omega
    have hpre : r.fits (keyL (g.l.take i)).length ((r.L.drop r.off).take (keyL (g.l.take i)).length) := ⟨b1, b2, b3, b4, rfl⟩
    refine And.intro (by kernel_rfl) ?_
    refine And.intro (by omega) ?_
    refine And.intro ⟨rfl, by omega⟩ ?_
    refine And.intro (by omega) ?_
    refine ⟨?_, ?_⟩
    · refine And.intro (And.intro (And.intro (And.intro (rfl) (And.intro (rfl) (And.intro (rfl) (And.intro (rfl) (rfl))))) (And.intro (rfl) (And.intro (rfl) (trivial)))) (And.intro (And.intro (And.intro (And.intro (rfl) (And.intro (rfl) (And.intro (And.intro (rfl) (And.intro (rfl) (rfl))) (trivial)))) (trivial)) (rfl)) (And.intro (rfl) (And.intro (rfl) (And.intro (rfl) (And.intro (rfl) (And.intro (And.intro (by omega) (And.intro (by omega) (And.intro (by omega) (And.intro (by omega) (rfl))))) (And.intro (Eq.mpr (β := List.length (keyL (List.take i (GT.l g))) ≤ 1099511627776) (by kernel_rfl) (by omega)) (Eq.mpr (β := Int.toNat 4 ≤ 8) (by kernel_rfl) (by omega)))))))))) ?_
      intro r2 hr2
      have hr2 : r2.fits ((keyL (g.l.take i)).length + 4) (keyL (g.l.take i) ++ lenB (g.B.getD (g.off + i) ByteArray.empty).size) := fits_of hr2 rfl (by
        rw [← lenB_put _ (by omega), ← e0]
        show (r.L.drop r.off).take (keyL (g.l.take i)).length ++ putL (IntKind.u64.wrap ((g.B.getD (g.off + (i : Int).toNat * 1) ByteArray.empty).size : Nat)) 4 4 = _
        rw [b5])
      obtain ⟨c1, c2, c3, c4, c5⟩ := hr2
      refine And.intro ⟨rfl, by omega⟩ ?_
      refine And.intro (by (refine Eq.mpr (β := ({ o := r2.b, ro := false : Blk } = { o := r2.b, ro := false : Blk } ∧ false = false ∧ r2.off + r2.cap ≤ r2.m ∧ List.length (keyL (List.take i (GT.l g))) + Int.toNat 4 ≤ r2.cap ∧ (r2.z = 0 ∨ r2.cap = 0)) ∧ (List.length (keyL (List.take i (GT.l g))) + Int.toNat 4 + ByteArray.size (List.getD g.B (g.off + Int.toNat (↑i : Int) * 1) ByteArray.empty)) * 1 ≤ 70368744177664) (by kernel_rfl) ?_); rw [e0]; exact ⟨⟨rfl, rfl, by omega⟩, by omega⟩) ?_
      intro r3 hr3
      replace hr3 : ApR.fits r3 (List.length (keyL (List.take i (GT.l g))) + Int.toNat 4 + ByteArray.size (List.getD g.B (g.off + Int.toNat (↑i : Int) * 1) ByteArray.empty)) (List.take (List.length (keyL (List.take i (GT.l g))) + Int.toNat 4) (List.drop r2.off r2.L) ++ strInts (List.getD g.B (g.off + Int.toNat (↑i : Int) * 1) ByteArray.empty)) := Eq.mp (by kernel_rfl) hr3
      refine And.intro (by omega) ?_
      rw [e0, show Int.toNat 4 = 4 from rfl] at hr3
      refine ⟨(r3, i + 1), [0, 1002, 1023], rfl, rfl, ?_, ?_, ?_, ?_⟩
      · refine Eq.mpr (β := (g.b = g.b ∧ g.off = g.off ∧ g.n = g.n ∧ g.c = g.c ∧ g.z = g.z) ∧ ({ o := bR, ro := false : Blk } = { o := bR, ro := false : Blk } ∧ 0 = 0) ∧ ({ o := r3.b, ro := false : Blk } = { o := r3.b, ro := false : Blk } ∧ r3.off = r3.off ∧ List.length (keyL (List.take i (GT.l g))) + Int.toNat 4 + ByteArray.size (List.getD g.B (g.off + Int.toNat (↑i : Int) * 1) ByteArray.empty) = List.length (keyL (List.take (i + 1) (GT.l g))) ∧ r3.cap = r3.cap ∧ r3.z = r3.z) ∧ Value.int IntKind.i64 ((↑i : Int) + 1) = Value.int IntKind.i64 (↑(i + 1) : Int) ∧ True) (by kernel_rfl) (And.intro (And.intro (rfl) (And.intro (rfl) (And.intro (rfl) (And.intro (rfl) (rfl))))) (And.intro (And.intro (rfl) (rfl)) (And.intro (And.intro (rfl) (And.intro (rfl) (And.intro (?_) (And.intro (rfl) (rfl))))) (And.intro (intE (by omega)) (trivial)))))
        rw [hkt, e0, show Int.toNat 4 = 4 from rfl]
        simp only [List.length_append, lenB_len, hsl]
      · refine Eq.mpr (β := (g.b = g.b ∧ g.y = g.y ∧ (g.m = g.m ∧ g.B = g.B) ∧ True) ∧ ({ o := bR, ro := false : Blk } = { o := bR, ro := false : Blk } ∧ (25 : TypeId) = (25 : TypeId) ∧ (IntKind.u8 = IntKind.u8 ∧ (32 : Nat) = (32 : Nat) ∧ List.replicate (32 : Nat) (0 : Int) = List.replicate (32 : Nat) (0 : Int)) ∧ True) ∧ ({ o := r3.b, ro := false : Blk } = { o := r3.b, ro := false : Blk } ∧ r3.y = r3.y ∧ (IntKind.u8 = IntKind.u8 ∧ r3.m = r3.m ∧ r3.L = r3.L) ∧ True) ∧ True) (by kernel_rfl) (And.intro (And.intro (rfl) (And.intro (rfl) (And.intro (And.intro (rfl) (rfl)) (trivial)))) (And.intro (And.intro (rfl) (And.intro (rfl) (And.intro (And.intro (rfl) (And.intro (rfl) (rfl))) (trivial)))) (And.intro (And.intro (rfl) (And.intro (rfl) (And.intro (And.intro (rfl) (And.intro (rfl) (rfl))) (trivial)))) (trivial))))
      · refine ⟨fits_of hr3 ?_ ?_, ?_⟩
        · rw [hkt]
          simp only [List.length_append, lenB_len, hsl]
        · rw [hkt, c5]
        · show i + 1 ≤ g.n
          omega
      · show g.n - (i + 1) < g.n - i
        omega
    · refine And.intro ⟨rfl, by omega⟩ ?_
      refine And.intro (And.intro (And.intro (And.intro (rfl) (And.intro (rfl) (And.intro (rfl) (And.intro (rfl) (rfl))))) (And.intro (rfl) (And.intro (rfl) (trivial)))) (And.intro (And.intro (And.intro (And.intro (rfl) (And.intro (rfl) (And.intro (And.intro (rfl) (And.intro (rfl) (rfl))) (trivial)))) (trivial)) (rfl)) (And.intro (rfl) (And.intro (rfl) (And.intro (rfl) (And.intro (rfl) (And.intro (And.intro (by omega) (And.intro (by omega) (And.intro (by omega) (And.intro (by omega) (rfl))))) (And.intro (Eq.mpr (β := List.length (keyL (List.take i (GT.l g))) ≤ 1099511627776) (by kernel_rfl) (by omega)) (Eq.mpr (β := Int.toNat 4 ≤ 8) (by kernel_rfl) (by omega)))))))))) ?_
      intro r2 hr2
      have hr2 : r2.fits ((keyL (g.l.take i)).length + 4) (keyL (g.l.take i) ++ lenB (g.B.getD (g.off + i) ByteArray.empty).size) := fits_of hr2 rfl (by
        rw [← lenB_put _ (by omega), ← e0]
        show (r.L.drop r.off).take (keyL (g.l.take i)).length ++ putL (IntKind.u64.wrap ((g.B.getD (g.off + (i : Int).toNat * 1) ByteArray.empty).size : Nat)) 4 4 = _
        rw [b5])
      obtain ⟨c1, c2, c3, c4, c5⟩ := hr2
      refine And.intro (by (refine Eq.mpr (β := ({ o := r2.b, ro := false : Blk } = { o := r2.b, ro := false : Blk } ∧ false = false ∧ r2.off + r2.cap ≤ r2.m ∧ List.length (keyL (List.take i (GT.l g))) + Int.toNat 4 ≤ r2.cap ∧ (r2.z = 0 ∨ r2.cap = 0)) ∧ (List.length (keyL (List.take i (GT.l g))) + Int.toNat 4 + ByteArray.size (List.getD g.B (g.off + Int.toNat (↑i : Int) * 1) ByteArray.empty)) * 1 ≤ 70368744177664) (by kernel_rfl) ?_); rw [e0]; exact ⟨⟨rfl, rfl, by omega⟩, by omega⟩) ?_
      intro r3 hr3
      replace hr3 : ApR.fits r3 (List.length (keyL (List.take i (GT.l g))) + Int.toNat 4 + ByteArray.size (List.getD g.B (g.off + Int.toNat (↑i : Int) * 1) ByteArray.empty)) (List.take (List.length (keyL (List.take i (GT.l g))) + Int.toNat 4) (List.drop r2.off r2.L) ++ strInts (List.getD g.B (g.off + Int.toNat (↑i : Int) * 1) ByteArray.empty)) := Eq.mp (by kernel_rfl) hr3
      refine And.intro (by omega) ?_
      rw [e0, show Int.toNat 4 = 4 from rfl] at hr3
      refine ⟨(r3, i + 1), [0, 1002, 1023], rfl, rfl, ?_, ?_, ?_, ?_⟩
      · refine Eq.mpr (β := (g.b = g.b ∧ g.off = g.off ∧ g.n = g.n ∧ g.c = g.c ∧ g.z = g.z) ∧ ({ o := bR, ro := false : Blk } = { o := bR, ro := false : Blk } ∧ 0 = 0) ∧ ({ o := r3.b, ro := false : Blk } = { o := r3.b, ro := false : Blk } ∧ r3.off = r3.off ∧ List.length (keyL (List.take i (GT.l g))) + Int.toNat 4 + ByteArray.size (List.getD g.B (g.off + Int.toNat (↑i : Int) * 1) ByteArray.empty) = List.length (keyL (List.take (i + 1) (GT.l g))) ∧ r3.cap = r3.cap ∧ r3.z = r3.z) ∧ Value.int IntKind.i64 ((↑i : Int) + 1) = Value.int IntKind.i64 (↑(i + 1) : Int) ∧ True) (by kernel_rfl) (And.intro (And.intro (rfl) (And.intro (rfl) (And.intro (rfl) (And.intro (rfl) (rfl))))) (And.intro (And.intro (rfl) (rfl)) (And.intro (And.intro (rfl) (And.intro (rfl) (And.intro (?_) (And.intro (rfl) (rfl))))) (And.intro (intE (by omega)) (trivial)))))
        rw [hkt, e0, show Int.toNat 4 = 4 from rfl]
        simp only [List.length_append, lenB_len, hsl]
      · refine Eq.mpr (β := (g.b = g.b ∧ g.y = g.y ∧ (g.m = g.m ∧ g.B = g.B) ∧ True) ∧ ({ o := bR, ro := false : Blk } = { o := bR, ro := false : Blk } ∧ (25 : TypeId) = (25 : TypeId) ∧ (IntKind.u8 = IntKind.u8 ∧ (32 : Nat) = (32 : Nat) ∧ List.replicate (32 : Nat) (0 : Int) = List.replicate (32 : Nat) (0 : Int)) ∧ True) ∧ ({ o := r3.b, ro := false : Blk } = { o := r3.b, ro := false : Blk } ∧ r3.y = r3.y ∧ (IntKind.u8 = IntKind.u8 ∧ r3.m = r3.m ∧ r3.L = r3.L) ∧ True) ∧ True) (by kernel_rfl) (And.intro (And.intro (rfl) (And.intro (rfl) (And.intro (And.intro (rfl) (rfl)) (trivial)))) (And.intro (And.intro (rfl) (And.intro (rfl) (And.intro (And.intro (rfl) (And.intro (rfl) (rfl))) (trivial)))) (And.intro (And.intro (rfl) (And.intro (rfl) (And.intro (And.intro (rfl) (And.intro (rfl) (rfl))) (trivial)))) (trivial))))
      · refine ⟨fits_of hr3 ?_ ?_, ?_⟩
        · rw [hkt]
          simp only [List.length_append, lenB_len, hsl]
        · rw [hkt, c5]
        · show i + 1 ≤ g.n
          omega
      · show g.n - (i + 1) < g.n - i
        omega
  have hi : i = g.n := by
    have : ¬((i : Int) < (g.n : Int)) := of_decide_eq_false h
    omega
  subst hi
  have hkn := keyL_take_len g.l g.n
  have htn : g.l.take g.n = g.l := List.take_of_length_le (by omega)
  refine And.intro (by (refine And.intro (And.intro (And.intro (rfl) (And.intro (rfl) (And.intro (rfl) (And.intro (rfl) (rfl))))) (trivial)) (And.intro (And.intro (And.intro (And.intro (rfl) (And.intro (rfl) (And.intro (And.intro (rfl) (And.intro (rfl) (rfl))) (trivial)))) (trivial)) (rfl)) (And.intro (rfl) (And.intro (rfl) (And.intro (rfl) (And.intro (rfl) (And.intro (?_) (?_)))))))); exact ⟨b1, b2, b3, b4⟩; show (keyL (g.l.take g.n)).length ≤ 1099511627776; omega) (fun _ _ => ?_)
  refine And.intro ⟨⟨rfl, rfl⟩, by omega⟩ ?_
  refine And.intro ⟨rfl, Nat.le_of_ble_eq_true rfl⟩ ?_
  refine ⟨(), [0], ?_, rfl, rfl, ?_, trivial⟩
  · refine Eq.mpr (β := (IntKind.u8 = IntKind.u8 ∧ 31 + 1 = 32 ∧ List.take (31 + 1) (List.drop 0 (List.take 0 (List.replicate 32 0) ++ sumL (GS.l { b := { o := r.b, ro := false : Blk }, off := r.off, n := List.length (keyL (List.take g.n (GT.l g))), c := r.cap, z := r.z, m := r.m, y := r.y, B := r.L : GS }) (List.length (keyL (List.take g.n (GT.l g)))) ++ List.drop (0 + 32) (List.replicate 32 0))) = sumL (keyL (GT.l g)) (List.length (keyL (GT.l g)))) ∧ True) (by kernel_rfl) (And.intro (And.intro (rfl) (And.intro (rfl) (?_))) (trivial))
    rw [htn] at b5 ⊢
    have e : GS.l ⟨r.b, r.off, (keyL g.l).length, r.cap, r.z, r.m, r.y, r.L⟩ = keyL g.l := b5
    rw [e]
    have h := outL_len (runB (padL (keyL g.l) (keyL g.l).length) (padN (keyL g.l).length / 64)) 32
    rw [show sumL (keyL g.l) (keyL g.l).length = outL (runB (padL (keyL g.l) (keyL g.l).length) (padN (keyL g.l).length / 64)) 32 from rfl]
    generalize outL (runB (padL (keyL g.l) (keyL g.l).length) (padN (keyL g.l).length / 64)) 32 = X at h ⊢
    simp [List.take_of_length_le, h]
  · refine Eq.mpr (β := (g.b = g.b ∧ g.y = g.y ∧ (g.m = g.m ∧ g.B = g.B) ∧ True) ∧ True) (by kernel_rfl) (And.intro (And.intro (rfl) (And.intro (rfl) (And.intro (And.intro (rfl) (rfl)) (trivial)))) (trivial))

end Go.Proofs.Ytpggklkofilmfaa
