/- Keys: the program's, the reference's. -/
import Derived.Test.YtpggklkofilmfaaSha7
set_option linter.unusedSimpArgs false
set_option linter.unusedVariables false
namespace Go.Proofs.Ytpggklkofilmfaa
open Go Go.Ab
set_option maxRecDepth 100000

/-- A slice argument of texts. -/
structure GT where
  b : Blk
  (off n c z m y : Nat)
  B : List ByteArray
def GT.l (g : GT) : List ByteArray := (g.B.drop g.off).take g.n
def GT.arg (g : GT) (t : Nat) : SV := .c (.sl t g.b g.off g.n g.c g.z)
def GT.ent (g : GT) (t : Nat) : Nat × Blk × Cont := (t, g.b, .cells g.y [.strs g.m g.B])
structure GT.ok (g : GT) : Prop where
  h1 : g.off + g.c ≤ g.m
  h2 : g.n ≤ g.c
  h3 : g.z = 0 ∨ g.c = 0
  h4 : g.B.length = g.m
def gtOf (h : Hp) : SV → Option (GT × Nat)
  | .c (.sl t b o n c z) => match h.get t with
    | some (_, .cells y [.strs m B]) => some (⟨b, o, n, c, z, m, y, B⟩, t)
    | some (_, .void) => some (⟨b, o, n, c, z, 0, 0, []⟩, t)
    | _ => none
  | _ => none

/-- A length's four bytes. -/
def lenB (n : Nat) : List Int := [IntKind.u8.wrap (ishr .i64 n 24), IntKind.u8.wrap (ishr .i64 n 16), IntKind.u8.wrap (ishr .i64 n 8), IntKind.u8.wrap n]
def keyL (l : List ByteArray) : List Int := l.flatMap fun t => lenB t.size ++ strInts t
theorem keyL_take (l : List ByteArray) (i : Nat) (h : i < l.length) : keyL (l.take (i + 1)) = keyL (l.take i) ++ lenB (l.getD i ByteArray.empty).size ++ strInts (l.getD i ByteArray.empty) := by
  unfold keyL
  rw [List.take_add_one, List.flatMap_append, List.append_assoc]
  congr 1
  simp [List.getD_eq_getElem?_getD, h]
theorem keyL_take_len (l : List ByteArray) : ∀ i, (keyL (l.take i)).length ≤ (keyL l).length := by
  intro i
  have h : keyL l = keyL (l.take i) ++ keyL (l.drop i) := by
    unfold keyL
    rw [← List.flatMap_append, List.take_append_drop]
  rw [h]
  simp
theorem lenB_len (n : Nat) : (lenB n).length = 4 := rfl
theorem lenB_put (n : Nat) (h : n < 18446744073709551616) : putL (IntKind.u64.wrap n) 4 4 = lenB n := by
  rw [putL_succ, putL_succ, putL_succ, putL_succ, putL_zero, wrap_u64_id (by omega)]
  have e : ∀ x, ishr .u64 (n : Int) x = ishr .i64 n x := fun _ => rfl
  simp only [e]
  show _ = [IntKind.u8.wrap (ishr .i64 n 24), IntKind.u8.wrap (ishr .i64 n 16), IntKind.u8.wrap (ishr .i64 n 8), IntKind.u8.wrap n]
  have := ishr_zero .i64 n
  simp [this]
theorem tl_getD (B : List ByteArray) (o n i : Nat) (h : i < n) : ((B.drop o).take n).getD i ByteArray.empty = B.getD (o + i) ByteArray.empty := by
  simp [List.getD_eq_getElem?_getD, List.getElem?_take, List.getElem?_drop, h]

def spKey : FSpec where
  G := GT
  args g := [g.arg 0]
  hp g := [g.ent 0]
  pre g := g.ok ∧ g.n ≤ 1099511627776 ∧ (keyL g.l).length ≤ 1099511627776
  R _ := Unit
  post _ _ := True
  res g _ := .agg [.ints .u8 32 (sumL (keyL g.l) (keyL g.l).length)]
  new _ _ := []
  upd _ _ := []
  news := []
  wr := false
  mt vs h := match vs with
    | [x] => match gtOf h x with
      | some (g, t) => some (g, [t])
      | none => none
    | _ => none
def inv16 (g : GT) (b2 : BlkO) : Inv where
  G := ApR × Nat
  pre x := x.1.fits (keyL (g.l.take x.2)).length (keyL (g.l.take x.2)) ∧ x.2 ≤ g.n
  sl x := [(2, .c (.ptr 1002 b2 0)), vS 3 3 (keyL (g.l.take x.2)).length x.1, (7, g.arg 0), (8, .int .i64 g.n), (9, .int .i64 x.2)]
  hp x := [g.ent 0, (1002, b2, .cells 25 [.ints .u8 32 (List.replicate 32 0)]), vH 3 .u8 x.1]
  mu x := g.n - x.2
def nt16 : Notes := ⟨fun _ => none, fun _ => none, fun _ => none, [0, 2, 3, 5, 6, 7, 8, 9, 10]⟩
def con16 : FuncId → Option Con
  | 14 => some spSum.con
  | _ => none
def cx16 : Cx := ⟨tab, con16, 35, true⟩
theorem cx16_ok : CxOk Try.prog cx16 := ⟨tab_ok, fun f c h => by
  unfold cx16 con16 at h
  dsimp only at h
  split at h
  · cases h; exact conOk_of_spec fn14
  · cases h⟩

set_option maxHeartbeats 4000000 in
theorem fn16 : FnOk Try.prog 16 spKey := by
  refine fnOk_of_vc cx16_ok wide (nt := fun _ => nt16) Try.func16 rfl rfl (by kernel_rfl) (fuel := 1000) (fun _ => Nat.le_of_ble_eq_true rfl) (fun _ _ t h => h) (fun h => by cases h) ?_
  intro (g : GT) hpre
  obtain ⟨hok, hn, hk⟩ := hpre
  obtain ⟨g1, g2, g3, g4⟩ : g.ok := hok
  have hn : g.n ≤ 1099511627776 := hn
  have hk : (keyL g.l).length ≤ 1099511627776 := hk
  have hll : g.l.length = g.n := by unfold GT.l; simp; omega
  have hk0 : keyL (g.l.take 0) = [] := rfl
  intro bR _
  refine ⟨inv16 g bR, ⟨(⟨0, 0, 0, 0, 1, 0, []⟩, 0), [0, 1002, 99999], rfl, rfl, ?_, ?_, ?_, trivial⟩, ?_⟩
  · refine Eq.mpr (β := And (And (@Eq Blk { o := bR, ro := false : Blk } { o := bR, ro := false : Blk }) (@Eq Nat (@OfNat.ofNat Nat (nat_lit 0) (instOfNatNat (nat_lit 0))) (@OfNat.ofNat Nat (nat_lit 0) (instOfNatNat (nat_lit 0))))) (And (And (@Eq (Option Addr) (@none Addr) (@none Addr)) (And (@Eq Nat (@OfNat.ofNat Nat (nat_lit 0) (instOfNatNat (nat_lit 0))) (@List.length Int (keyL (@List.take ByteArray (@OfNat.ofNat Nat (nat_lit 0) (instOfNatNat (nat_lit 0))) (GT.l g))))) (@Eq Nat (@OfNat.ofNat Nat (nat_lit 0) (instOfNatNat (nat_lit 0))) (@OfNat.ofNat Nat (nat_lit 0) (instOfNatNat (nat_lit 0)))))) (And (And (@Eq Blk g.b g.b) (And (@Eq Nat g.off g.off) (And (@Eq Nat g.n g.n) (And (@Eq Nat g.c g.c) (@Eq Nat g.z g.z))))) (And (@Eq Value (Value.int IntKind.i64 (@Nat.cast Int instNatCastInt g.n)) (Value.int IntKind.i64 (@Nat.cast Int instNatCastInt g.n))) (And (@Eq Value (Value.int IntKind.i64 (@OfNat.ofNat Int (nat_lit 0) (@instOfNat (nat_lit 0)))) (Value.int IntKind.i64 (@Nat.cast Int instNatCastInt (@OfNat.ofNat Nat (nat_lit 0) (instOfNatNat (nat_lit 0)))))) True))))) (by kernel_rfl) (And.intro (And.intro (rfl) (rfl)) (And.intro (And.intro (rfl) (And.intro (?_) (rfl))) (And.intro (And.intro (rfl) (And.intro (rfl) (And.intro (rfl) (And.intro (rfl) (rfl))))) (And.intro (rfl) (And.intro (intE (by omega)) (trivial))))))
    rw [hk0]; rfl
  · refine Eq.mpr (β := (g.b = g.b ∧ g.y = g.y ∧ (g.m = g.m ∧ g.B = g.B) ∧ True) ∧ ({ o := bR, ro := false : Blk } = { o := bR, ro := false : Blk } ∧ (25 : Nat) = (25 : TypeId) ∧ (IntKind.u8 = IntKind.u8 ∧ (32 : Nat) = (32 : Nat) ∧ List.replicate (32 : Nat) (0 : Int) = List.replicate (32 : Nat) (0 : Int)) ∧ True) ∧ ((0 : Nat) + (0 : Nat) = (0 : Nat) ∧ (true && true) = true) ∧ True) (by kernel_rfl) (And.intro (And.intro (rfl) (And.intro (rfl) (And.intro (And.intro (rfl) (rfl)) (trivial)))) (And.intro (And.intro (rfl) (And.intro (rfl) (And.intro (And.intro (rfl) (And.intro (rfl) (rfl))) (trivial)))) (And.intro (And.intro (rfl) (?_)) (trivial))))
    rfl
  · refine ⟨⟨Nat.le_refl _, ?_, Or.inr rfl, rfl, ?_⟩, Nat.zero_le _⟩
    · show (keyL (g.l.take 0)).length ≤ 0
      rw [hk0]; exact Nat.le_refl _
    · show _ = keyL (g.l.take 0)
      rw [hk0]; rfl
  rintro ⟨r, i⟩ ⟨hr, hi⟩
  have hi : i ≤ g.n := hi
  obtain ⟨b1, b2, b3, b4, b5⟩ := hr
  have b1 : r.off + r.cap ≤ r.m := b1
  have b2 : (keyL (g.l.take i)).length ≤ r.cap := b2
  have b3 : r.z = 0 ∨ r.cap = 0 := b3
  have b4 : r.L.length = r.m := b4
  have b5 : (r.L.drop r.off).take (keyL (g.l.take i)).length = keyL (g.l.take i) := b5
  refine ⟨fun h => ?_, fun h => ?_⟩
  · have h : (i : Int) < (g.n : Int) := of_decide_eq_true h
    have hkt := keyL_take g.l i (by omega)
    have hkl := keyL_take_len g.l (i + 1)
    have hsl := strInts_length (g.l.getD i ByteArray.empty)
    have hgd : g.l.getD i ByteArray.empty = g.B.getD (g.off + i) ByteArray.empty := tl_getD _ _ _ _ (by omega)
    rw [hkt] at hkl
    simp only [List.length_append, lenB_len, hsl] at hkl
    rw [hgd] at hkt hkl hsl
    have e0 : g.off + (i : Int).toNat * 1 = g.off + i := by omega
    refine And.intro (by omega) ?_
    refine And.intro ⟨rfl, by omega⟩ ?_
    refine And.intro (by omega) ?_
    refine And.intro (by omega) ?_
    refine And.intro (by omega) ?_
    intro b27 _
    refine And.intro (And.intro (And.intro (And.intro (rfl) (And.intro (rfl) (And.intro (by omega) (And.intro (by omega) (by omega))))) (And.intro (rfl) (And.intro (by omega) (by omega)))) (Eq.mpr (β := (List.length (keyL (List.take i (GT.l g))) + 4) * 1 ≤ 70368744177664) (by kernel_rfl) (by omega))) ?_
    intro r2 hr2
    replace hr2 : ApR.fits r2 (List.length (keyL (List.take i (GT.l g))) + 4) (List.take (List.length (keyL (List.take i (GT.l g)))) (List.drop r.off r.L) ++ List.take 4 (List.drop 0 [IntKind.wrap IntKind.u8 (ishr IntKind.i64 (↑(ByteArray.size (List.getD g.B (g.off + Int.toNat (↑i : Int) * 1) ByteArray.empty)) : Int) 24), IntKind.wrap IntKind.u8 (ishr IntKind.i64 (↑(ByteArray.size (List.getD g.B (g.off + Int.toNat (↑i : Int) * 1) ByteArray.empty)) : Int) 16), IntKind.wrap IntKind.u8 (ishr IntKind.i64 (↑(ByteArray.size (List.getD g.B (g.off + Int.toNat (↑i : Int) * 1) ByteArray.empty)) : Int) 8), IntKind.wrap IntKind.u8 (↑(ByteArray.size (List.getD g.B (g.off + Int.toNat (↑i : Int) * 1) ByteArray.empty)) : Int)])) := Eq.mp (by kernel_rfl) hr2
    obtain ⟨c1, c2, c3, c4, c5⟩ := hr2
    refine And.intro (by (refine Eq.mpr (β := ({ o := r2.b, ro := false : Blk } = { o := r2.b, ro := false : Blk } ∧ false = false ∧ r2.off + r2.cap ≤ r2.m ∧ List.length (keyL (List.take i (GT.l g))) + 4 ≤ r2.cap ∧ (r2.z = 0 ∨ r2.cap = 0)) ∧ (List.length (keyL (List.take i (GT.l g))) + 4 + ByteArray.size (List.getD g.B (g.off + Int.toNat (↑i : Int) * 1) ByteArray.empty)) * 1 ≤ 70368744177664) (by kernel_rfl) ?_); rw [e0]; exact ⟨⟨rfl, rfl, by omega⟩, by omega⟩) ?_
    intro r3 hr3
    replace hr3 : ApR.fits r3 (List.length (keyL (List.take i (GT.l g))) + 4 + ByteArray.size (List.getD g.B (g.off + Int.toNat (↑i : Int) * 1) ByteArray.empty)) (List.take (List.length (keyL (List.take i (GT.l g))) + 4) (List.drop r2.off r2.L) ++ strInts (List.getD g.B (g.off + Int.toNat (↑i : Int) * 1) ByteArray.empty)) := Eq.mp (by kernel_rfl) hr3
    rw [e0] at hr3
    rw [e0] at c5
    refine And.intro (by omega) ?_
    refine ⟨(r3, i + 1), [0, 1002, 1031], rfl, rfl, ?_, ?_, ?_, ?_⟩
    · refine Eq.mpr (β := ({ o := bR, ro := false : Blk } = { o := bR, ro := false : Blk } ∧ 0 = 0) ∧ ({ o := r3.b, ro := false : Blk } = { o := r3.b, ro := false : Blk } ∧ r3.off = r3.off ∧ List.length (keyL (List.take i (GT.l g))) + 4 + ByteArray.size (List.getD g.B (g.off + Int.toNat (↑i : Int) * 1) ByteArray.empty) = List.length (keyL (List.take (i + 1) (GT.l g))) ∧ r3.cap = r3.cap ∧ r3.z = r3.z) ∧ (g.b = g.b ∧ g.off = g.off ∧ g.n = g.n ∧ g.c = g.c ∧ g.z = g.z) ∧ Value.int IntKind.i64 (↑g.n : Int) = Value.int IntKind.i64 (↑g.n : Int) ∧ Value.int IntKind.i64 ((↑i : Int) + 1) = Value.int IntKind.i64 (↑(i + 1) : Int) ∧ True) (by kernel_rfl) (And.intro (And.intro (rfl) (rfl)) (And.intro (And.intro (rfl) (And.intro (rfl) (And.intro (?_) (And.intro (rfl) (rfl))))) (And.intro (And.intro (rfl) (And.intro (rfl) (And.intro (rfl) (And.intro (rfl) (rfl))))) (And.intro (rfl) (And.intro (intE (by omega)) (trivial))))))
      rw [hkt, e0]
      simp only [List.length_append, lenB_len, hsl]
    · refine Eq.mpr (β := (g.b = g.b ∧ g.y = g.y ∧ (g.m = g.m ∧ g.B = g.B) ∧ True) ∧ ({ o := bR, ro := false : Blk } = { o := bR, ro := false : Blk } ∧ (25 : TypeId) = (25 : TypeId) ∧ (IntKind.u8 = IntKind.u8 ∧ (32 : Nat) = (32 : Nat) ∧ List.replicate (32 : Nat) (0 : Int) = List.replicate (32 : Nat) (0 : Int)) ∧ True) ∧ ({ o := r3.b, ro := false : Blk } = { o := r3.b, ro := false : Blk } ∧ r3.y = r3.y ∧ (IntKind.u8 = IntKind.u8 ∧ r3.m = r3.m ∧ r3.L = r3.L) ∧ True) ∧ True) (by kernel_rfl) (And.intro (And.intro (rfl) (And.intro (rfl) (And.intro (And.intro (rfl) (rfl)) (trivial)))) (And.intro (And.intro (rfl) (And.intro (rfl) (And.intro (And.intro (rfl) (And.intro (rfl) (rfl))) (trivial)))) (And.intro (And.intro (rfl) (And.intro (rfl) (And.intro (And.intro (rfl) (And.intro (rfl) (rfl))) (trivial)))) (trivial))))
    · refine ⟨fits_of hr3 ?_ ?_, ?_⟩
      · rw [hkt]
        simp only [List.length_append, lenB_len, hsl]
      · rw [c5, b5, hkt]
        rfl
      · show i + 1 ≤ g.n
        omega
    · show g.n - (i + 1) < g.n - i
      omega
  have hi : i = g.n := by
    have : ¬((i : Int) < (g.n : Int)) := of_decide_eq_false h
    omega
  subst hi
  have hkn := keyL_take_len g.l g.n
  have htn : g.l.take g.n = g.l := List.take_of_length_le (by omega)
  refine And.intro (by (refine And.intro (And.intro (And.intro (rfl) (And.intro (rfl) (And.intro (rfl) (And.intro (rfl) (rfl))))) (trivial)) (And.intro (And.intro (And.intro (And.intro (rfl) (And.intro (rfl) (And.intro (And.intro (rfl) (And.intro (rfl) (rfl))) (trivial)))) (trivial)) (rfl)) (And.intro (rfl) (And.intro (rfl) (And.intro (rfl) (And.intro (rfl) (And.intro (?_) (?_)))))))); exact ⟨b1, b2, b3, b4⟩; show (keyL (g.l.take g.n)).length ≤ 1099511627776; omega) (fun _ _ => ?_)
  refine And.intro ⟨⟨rfl, rfl⟩, by omega⟩ ?_
  refine And.intro ⟨rfl, Nat.le_of_ble_eq_true rfl⟩ ?_
  refine ⟨(), [0], ?_, rfl, rfl, ?_, trivial⟩
  · refine Eq.mpr (β := (IntKind.u8 = IntKind.u8 ∧ 31 + 1 = 32 ∧ List.take (31 + 1) (List.drop 0 (List.take 0 (List.replicate 32 0) ++ sumL (GS.l { b := { o := r.b, ro := false : Blk }, off := r.off, n := List.length (keyL (List.take g.n (GT.l g))), c := r.cap, z := r.z, m := r.m, y := r.y, B := r.L : GS }) (List.length (keyL (List.take g.n (GT.l g)))) ++ List.drop (0 + 32) (List.replicate 32 0))) = sumL (keyL (GT.l g)) (List.length (keyL (GT.l g)))) ∧ True) (by kernel_rfl) (And.intro (And.intro (rfl) (And.intro (rfl) (?_))) (trivial))
    rw [htn] at b5 ⊢
    have e : GS.l ⟨r.b, r.off, (keyL g.l).length, r.cap, r.z, r.m, r.y, r.L⟩ = keyL g.l := b5
    rw [e]
    have h := outL_len (runB (padL (keyL g.l) (keyL g.l).length) (padN (keyL g.l).length / 64)) 32
    rw [show sumL (keyL g.l) (keyL g.l).length = outL (runB (padL (keyL g.l) (keyL g.l).length) (padN (keyL g.l).length / 64)) 32 from rfl]
    generalize outL (runB (padL (keyL g.l) (keyL g.l).length) (padN (keyL g.l).length / 64)) 32 = X at h ⊢
    simp [List.take_of_length_le, h]
  · refine Eq.mpr (β := (g.b = g.b ∧ g.y = g.y ∧ (g.m = g.m ∧ g.B = g.B) ∧ True) ∧ True) (by kernel_rfl) (And.intro (And.intro (rfl) (And.intro (rfl) (And.intro (And.intro (rfl) (rfl)) (trivial)))) (trivial))

end Go.Proofs.Ytpggklkofilmfaa
