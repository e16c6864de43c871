/- Entries, written. -/
import Derived.Test.YtpggklkofilmfaaFrag4
import Derived.Test.YtpggklkofilmfaaSha7
import Derived.Test.YtpggklkofilmfaaAbLem
set_option linter.unusedSimpArgs false
set_option linter.unusedVariables false
namespace Go.Proofs.Ytpggklkofilmfaa
open Go Go.Ab
set_option maxRecDepth 100000

theorem putL_len (x : Int) (k : Nat) : ∀ i, (putL x k i).length = i
  | 0 => by rw [putL_zero]; rfl
  | i + 1 => by rw [putL_succ, List.length_append, putL_len x k i]; rfl
theorem putB_eq (L : List Int) (off n : Nat) (x : Int) (h : off + n ≤ L.length) : ∀ i, i ≤ n → putB L off n x i = L.take off ++ (putL x n i ++ L.drop (off + i))
  | 0, _ => by rw [putB_zero, putL_zero]; simp
  | i + 1, hi => by
    rw [putB_succ, putB_eq L off n x h i (by omega), putL_succ]
    have h1 : (L.take off).length = off := by simp; omega
    have h2 : L.drop (off + i) = L.getD (off + i) 0 :: L.drop (off + i + 1) := by
      rw [List.getD_eq_getElem?_getD, List.getElem?_eq_getElem (by omega)]
      exact List.drop_eq_getElem_cons (by omega)
    rw [List.set_append_right _ _ (by omega), h1, Nat.add_sub_cancel_left, List.set_append_right _ _ (by rw [putL_len]; omega), putL_len, Nat.sub_self, h2, List.set_cons_zero]
    simp [Nat.add_assoc]
theorem putB_app (X Y : List Int) (off n : Nat) (x : Int) (ho : off = X.length) (h : n ≤ Y.length) : putB (X ++ Y) off n x n = X ++ (putL x n n ++ Y.drop n) := by
  subst ho
  rw [putB_eq _ _ _ _ (by simp; omega) _ (Nat.le_refl _)]
  simp [List.drop_append]
theorem ent_put (a s t u : Int) : putB (putB (putB (putB (List.replicate 16 0) 0 4 a 4) 4 2 s 2) 6 2 t 2) 8 8 u 8 = putL a 4 4 ++ (putL s 2 2 ++ (putL t 2 2 ++ putL u 8 8)) := by
  have h1 : putB (List.replicate 16 0) 0 4 a 4 = putL a 4 4 ++ List.replicate 12 0 := by
    have := putB_app [] (List.replicate 16 0) 0 4 a rfl (by simp)
    simpa using this
  have h2 : putB (putL a 4 4 ++ List.replicate 12 0) 4 2 s 2 = (putL a 4 4 ++ putL s 2 2) ++ List.replicate 10 0 := by
    have := putB_app (putL a 4 4) (List.replicate 12 0) 4 2 s (by rw [putL_len]) (by simp)
    simpa using this
  have h3 : putB ((putL a 4 4 ++ putL s 2 2) ++ List.replicate 10 0) 6 2 t 2 = ((putL a 4 4 ++ putL s 2 2) ++ putL t 2 2) ++ List.replicate 8 0 := by
    have := putB_app (putL a 4 4 ++ putL s 2 2) (List.replicate 10 0) 6 2 t (by simp [putL_len]) (by simp)
    simpa using this
  have h4 := putB_app ((putL a 4 4 ++ putL s 2 2) ++ putL t 2 2) (List.replicate 8 0) 8 8 u (by simp [putL_len]) (by simp)
  rw [h1, h2, h3, h4]
  simp
structure GE where
  (t a s u : Int)
def GE.cels (e : GE) : List Cel := [.v (.int .u16 e.t), .v (.int .u32 e.a), .v (.int .u16 e.s), .v (.int .u64 e.u)]
def GE.l (e : GE) : List Int := putL (IntKind.u64.wrap e.a) 4 4 ++ (putL (IntKind.u64.wrap e.s) 2 2 ++ (putL (IntKind.u64.wrap (iand .u16 e.t 4095)) 2 2 ++ putL (ior .u64 e.u 9223372036854775808) 8 8))
def spEntry : FSpec where
  G := GE
  args e := [.agg e.cels]
  hp _ := []
  pre _ := True
  R _ := Unit
  post _ _ := True
  res e _ := .agg [.ints .u8 16 e.l]
  new _ _ := []
  upd _ _ := []
  news := []
  wr := false
  mt vs _ := match vs with
    | [.agg [.v (.int _ t), .v (.int _ a), .v (.int _ s), .v (.int _ u)]] => some (⟨t, a, s, u⟩, [])
    | _ => none
def con26 : FuncId → Option Con
  | 39 => some sp39.con
  | 37 => some sp37.con
  | _ => none
def cx26 (n : Nat) : Cx := ⟨tab, con26, n, true⟩
theorem cx26_ok (n : Nat) : CxOk Try.prog (cx26 n) := ⟨tab_ok, fun f c h => by
  unfold cx26 con26 at h
  dsimp only at h
  split at h
  · cases h; exact conOk_of_spec fn39
  · cases h; exact conOk_of_spec fn37
  · cases h⟩
def nt26 : Notes := ⟨fun | 2 => some (seqOf [0, 1, 2, 3, 4]) | 3 => some (seqOf [0, 1, 2, 3, 4]) | 4 => some (seqOf [0, 1, 2, 3, 4, 5]) | 5 => some (seqOf [0, 1, 2, 3, 4]) | _ => none, fun _ => none, fun _ => none, [0, 1, 2, 3]⟩
set_option maxHeartbeats 8000000 in
theorem fn26 : FnOk Try.prog 26 spEntry := by
  refine fnOk_of_vc (cx26_ok 26) wide (nt := fun _ => nt26) Try.func26 rfl rfl (by kernel_rfl) (fuel := 1000) (fun _ => Nat.le_of_ble_eq_true rfl) (fun _ _ t h => h) (fun h => by cases h) ?_
  intro (e : GE) _
  intro b1 _ b2 _ b3 _
  refine And.intro (by kernel_rfl) ?_
  refine stE ([(3, SV.c (Cel.ptr 1003 b3 0)), (2, SV.c (Cel.ptr 1002 b2 0)), (1, SV.c (Cel.ptr 1001 b1 0)), (0, SV.agg [Cel.v (Value.int .u16 e.t), Cel.v (Value.int .u32 e.a), Cel.v (Value.int .u16 e.s), Cel.v (Value.int .u64 e.u)])]) ([(1001, b1, Cont.cells 51 [Cel.v (Value.int .u16 e.t), Cel.v (Value.int .u32 e.a), Cel.v (Value.int .u16 e.s), Cel.v (Value.int .u64 e.u)]), (1002, b2, Cont.cells 52 [Cel.ints .u8 16 (List.replicate 16 0)]), (1003, b3, Cont.cells 52 [Cel.ints .u8 16 (List.replicate 16 0)])]) (by kernel_rfl) (by kernel_rfl) ?_
  refine And.intro (by omega) ?_
  refine stE ([(4, SV.c (Cel.sl 1003 b3 0 4 16 0)), (3, SV.c (Cel.ptr 1003 b3 0)), (2, SV.c (Cel.ptr 1002 b2 0)), (1, SV.c (Cel.ptr 1001 b1 0)), (0, SV.agg [Cel.v (Value.int .u16 e.t), Cel.v (Value.int .u32 e.a), Cel.v (Value.int .u16 e.s), Cel.v (Value.int .u64 e.u)])]) ([(1001, b1, Cont.cells 51 [Cel.v (Value.int .u16 e.t), Cel.v (Value.int .u32 e.a), Cel.v (Value.int .u16 e.s), Cel.v (Value.int .u64 e.u)]), (1002, b2, Cont.cells 52 [Cel.ints .u8 16 (List.replicate 16 0)]), (1003, b3, Cont.cells 52 [Cel.ints .u8 16 (List.replicate 16 0)])]) (by kernel_rfl) (by kernel_rfl) ?_
  refine And.intro rfl ?_
  refine stE ([(6, SV.int .u32 e.a), (5, SV.c (Cel.ptr 1001 b1 1)), (4, SV.c (Cel.sl 1003 b3 0 4 16 0)), (3, SV.c (Cel.ptr 1003 b3 0)), (2, SV.c (Cel.ptr 1002 b2 0)), (1, SV.c (Cel.ptr 1001 b1 0)), (0, SV.agg [Cel.v (Value.int .u16 e.t), Cel.v (Value.int .u32 e.a), Cel.v (Value.int .u16 e.s), Cel.v (Value.int .u64 e.u)])]) ([(1001, b1, Cont.cells 51 [Cel.v (Value.int .u16 e.t), Cel.v (Value.int .u32 e.a), Cel.v (Value.int .u16 e.s), Cel.v (Value.int .u64 e.u)]), (1002, b2, Cont.cells 52 [Cel.ints .u8 16 (List.replicate 16 0)]), (1003, b3, Cont.cells 52 [Cel.ints .u8 16 (List.replicate 16 0)])]) (by kernel_rfl) (by kernel_rfl) ?_
  refine And.intro (And.intro (And.intro (And.intro (rfl) (And.intro (rfl) (And.intro (rfl) (And.intro (rfl) (rfl))))) (And.intro (rfl) (trivial))) (And.intro (And.intro (And.intro (And.intro (rfl) (And.intro (rfl) (And.intro (And.intro (rfl) (And.intro (rfl) (rfl))) (trivial)))) (trivial)) (rfl)) (And.intro (rfl) (And.intro (rfl) (And.intro (rfl) (And.intro (rfl) (And.intro (Eq.mpr (β := 0 + 4 ≤ 16) (by kernel_rfl) (by omega)) (And.intro (rfl) (Eq.mpr (β := 4 ≤ 1099511627776) (by kernel_rfl) (by omega)))))))))) (fun (_ : Unit) _ => ?_)
  refine stE ([(8, SV.tup []), (7, SV.int .u64 (IntKind.wrap .u64 e.a)), (6, SV.int .u32 e.a), (5, SV.c (Cel.ptr 1001 b1 1)), (4, SV.c (Cel.sl 1003 b3 0 4 16 0)), (3, SV.c (Cel.ptr 1003 b3 0)), (2, SV.c (Cel.ptr 1002 b2 0)), (1, SV.c (Cel.ptr 1001 b1 0)), (0, SV.agg [Cel.v (Value.int .u16 e.t), Cel.v (Value.int .u32 e.a), Cel.v (Value.int .u16 e.s), Cel.v (Value.int .u64 e.u)])]) ([(1001, b1, Cont.cells 51 [Cel.v (Value.int .u16 e.t), Cel.v (Value.int .u32 e.a), Cel.v (Value.int .u16 e.s), Cel.v (Value.int .u64 e.u)]), (1002, b2, Cont.cells 52 [Cel.ints .u8 16 (List.replicate 16 0)]), (1003, b3, Cont.cells 52 [Cel.ints .u8 16 (putB (List.replicate 16 0) 0 4 (IntKind.wrap .u64 e.a) 4)])]) (by kernel_rfl) (by kernel_rfl) ?_
  refine And.intro (by kernel_rfl) ?_
  refine stE ([(3, SV.c (Cel.ptr 1003 b3 0)), (2, SV.c (Cel.ptr 1002 b2 0)), (1, SV.c (Cel.ptr 1001 b1 0)), (0, SV.agg [Cel.v (Value.int .u16 e.t), Cel.v (Value.int .u32 e.a), Cel.v (Value.int .u16 e.s), Cel.v (Value.int .u64 e.u)])]) ([(1001, b1, Cont.cells 51 [Cel.v (Value.int .u16 e.t), Cel.v (Value.int .u32 e.a), Cel.v (Value.int .u16 e.s), Cel.v (Value.int .u64 e.u)]), (1002, b2, Cont.cells 52 [Cel.ints .u8 16 (List.replicate 16 0)]), (1003, b3, Cont.cells 52 [Cel.ints .u8 16 (putB (List.replicate 16 0) 0 4 (IntKind.wrap .u64 e.a) 4)])]) (by kernel_rfl) (by kernel_rfl) ?_
  refine And.intro (by omega) ?_
  refine stE ([(9, SV.c (Cel.sl 1003 b3 4 2 12 0)), (3, SV.c (Cel.ptr 1003 b3 0)), (2, SV.c (Cel.ptr 1002 b2 0)), (1, SV.c (Cel.ptr 1001 b1 0)), (0, SV.agg [Cel.v (Value.int .u16 e.t), Cel.v (Value.int .u32 e.a), Cel.v (Value.int .u16 e.s), Cel.v (Value.int .u64 e.u)])]) ([(1001, b1, Cont.cells 51 [Cel.v (Value.int .u16 e.t), Cel.v (Value.int .u32 e.a), Cel.v (Value.int .u16 e.s), Cel.v (Value.int .u64 e.u)]), (1002, b2, Cont.cells 52 [Cel.ints .u8 16 (List.replicate 16 0)]), (1003, b3, Cont.cells 52 [Cel.ints .u8 16 (putB (List.replicate 16 0) 0 4 (IntKind.wrap .u64 e.a) 4)])]) (by kernel_rfl) (by kernel_rfl) ?_
  refine And.intro rfl ?_
  refine stE ([(11, SV.int .u16 e.s), (10, SV.c (Cel.ptr 1001 b1 2)), (9, SV.c (Cel.sl 1003 b3 4 2 12 0)), (3, SV.c (Cel.ptr 1003 b3 0)), (2, SV.c (Cel.ptr 1002 b2 0)), (1, SV.c (Cel.ptr 1001 b1 0)), (0, SV.agg [Cel.v (Value.int .u16 e.t), Cel.v (Value.int .u32 e.a), Cel.v (Value.int .u16 e.s), Cel.v (Value.int .u64 e.u)])]) ([(1001, b1, Cont.cells 51 [Cel.v (Value.int .u16 e.t), Cel.v (Value.int .u32 e.a), Cel.v (Value.int .u16 e.s), Cel.v (Value.int .u64 e.u)]), (1002, b2, Cont.cells 52 [Cel.ints .u8 16 (List.replicate 16 0)]), (1003, b3, Cont.cells 52 [Cel.ints .u8 16 (putB (List.replicate 16 0) 0 4 (IntKind.wrap .u64 e.a) 4)])]) (by kernel_rfl) (by kernel_rfl) ?_
  refine And.intro (And.intro (And.intro (And.intro (rfl) (And.intro (rfl) (And.intro (rfl) (And.intro (rfl) (rfl))))) (And.intro (rfl) (trivial))) (And.intro (And.intro (And.intro (And.intro (rfl) (And.intro (rfl) (And.intro (And.intro (rfl) (And.intro (rfl) (rfl))) (trivial)))) (trivial)) (rfl)) (And.intro (rfl) (And.intro (rfl) (And.intro (rfl) (And.intro (rfl) (And.intro (Eq.mpr (β := 4 + 2 ≤ 16) (by kernel_rfl) (by omega)) (And.intro (rfl) (Eq.mpr (β := 2 ≤ 1099511627776) (by kernel_rfl) (by omega)))))))))) (fun (_ : Unit) _ => ?_)
  refine stE ([(13, SV.tup []), (12, SV.int .u64 (IntKind.wrap .u64 e.s)), (11, SV.int .u16 e.s), (10, SV.c (Cel.ptr 1001 b1 2)), (9, SV.c (Cel.sl 1003 b3 4 2 12 0)), (3, SV.c (Cel.ptr 1003 b3 0)), (2, SV.c (Cel.ptr 1002 b2 0)), (1, SV.c (Cel.ptr 1001 b1 0)), (0, SV.agg [Cel.v (Value.int .u16 e.t), Cel.v (Value.int .u32 e.a), Cel.v (Value.int .u16 e.s), Cel.v (Value.int .u64 e.u)])]) ([(1001, b1, Cont.cells 51 [Cel.v (Value.int .u16 e.t), Cel.v (Value.int .u32 e.a), Cel.v (Value.int .u16 e.s), Cel.v (Value.int .u64 e.u)]), (1002, b2, Cont.cells 52 [Cel.ints .u8 16 (List.replicate 16 0)]), (1003, b3, Cont.cells 52 [Cel.ints .u8 16 (putB (putB (List.replicate 16 0) 0 4 (IntKind.wrap .u64 e.a) 4) 4 2 (IntKind.wrap .u64 e.s) 2)])]) (by kernel_rfl) (by kernel_rfl) ?_
  refine And.intro (by kernel_rfl) ?_
  refine stE ([(3, SV.c (Cel.ptr 1003 b3 0)), (2, SV.c (Cel.ptr 1002 b2 0)), (1, SV.c (Cel.ptr 1001 b1 0)), (0, SV.agg [Cel.v (Value.int .u16 e.t), Cel.v (Value.int .u32 e.a), Cel.v (Value.int .u16 e.s), Cel.v (Value.int .u64 e.u)])]) ([(1001, b1, Cont.cells 51 [Cel.v (Value.int .u16 e.t), Cel.v (Value.int .u32 e.a), Cel.v (Value.int .u16 e.s), Cel.v (Value.int .u64 e.u)]), (1002, b2, Cont.cells 52 [Cel.ints .u8 16 (List.replicate 16 0)]), (1003, b3, Cont.cells 52 [Cel.ints .u8 16 (putB (putB (List.replicate 16 0) 0 4 (IntKind.wrap .u64 e.a) 4) 4 2 (IntKind.wrap .u64 e.s) 2)])]) (by kernel_rfl) (by kernel_rfl) ?_
  refine And.intro (by omega) ?_
  refine stE ([(14, SV.c (Cel.sl 1003 b3 6 2 10 0)), (3, SV.c (Cel.ptr 1003 b3 0)), (2, SV.c (Cel.ptr 1002 b2 0)), (1, SV.c (Cel.ptr 1001 b1 0)), (0, SV.agg [Cel.v (Value.int .u16 e.t), Cel.v (Value.int .u32 e.a), Cel.v (Value.int .u16 e.s), Cel.v (Value.int .u64 e.u)])]) ([(1001, b1, Cont.cells 51 [Cel.v (Value.int .u16 e.t), Cel.v (Value.int .u32 e.a), Cel.v (Value.int .u16 e.s), Cel.v (Value.int .u64 e.u)]), (1002, b2, Cont.cells 52 [Cel.ints .u8 16 (List.replicate 16 0)]), (1003, b3, Cont.cells 52 [Cel.ints .u8 16 (putB (putB (List.replicate 16 0) 0 4 (IntKind.wrap .u64 e.a) 4) 4 2 (IntKind.wrap .u64 e.s) 2)])]) (by kernel_rfl) (by kernel_rfl) ?_
  refine And.intro rfl ?_
  refine stE ([(16, SV.int .u16 e.t), (15, SV.c (Cel.ptr 1001 b1 0)), (14, SV.c (Cel.sl 1003 b3 6 2 10 0)), (3, SV.c (Cel.ptr 1003 b3 0)), (2, SV.c (Cel.ptr 1002 b2 0)), (1, SV.c (Cel.ptr 1001 b1 0)), (0, SV.agg [Cel.v (Value.int .u16 e.t), Cel.v (Value.int .u32 e.a), Cel.v (Value.int .u16 e.s), Cel.v (Value.int .u64 e.u)])]) ([(1001, b1, Cont.cells 51 [Cel.v (Value.int .u16 e.t), Cel.v (Value.int .u32 e.a), Cel.v (Value.int .u16 e.s), Cel.v (Value.int .u64 e.u)]), (1002, b2, Cont.cells 52 [Cel.ints .u8 16 (List.replicate 16 0)]), (1003, b3, Cont.cells 52 [Cel.ints .u8 16 (putB (putB (List.replicate 16 0) 0 4 (IntKind.wrap .u64 e.a) 4) 4 2 (IntKind.wrap .u64 e.s) 2)])]) (by kernel_rfl) (by kernel_rfl) ?_
  refine And.intro (And.intro (And.intro (And.intro (rfl) (And.intro (rfl) (And.intro (rfl) (And.intro (rfl) (rfl))))) (And.intro (rfl) (trivial))) (And.intro (And.intro (And.intro (And.intro (rfl) (And.intro (rfl) (And.intro (And.intro (rfl) (And.intro (rfl) (rfl))) (trivial)))) (trivial)) (rfl)) (And.intro (rfl) (And.intro (rfl) (And.intro (rfl) (And.intro (rfl) (And.intro (Eq.mpr (β := 6 + 2 ≤ 16) (by kernel_rfl) (by omega)) (And.intro (rfl) (Eq.mpr (β := 2 ≤ 1099511627776) (by kernel_rfl) (by omega)))))))))) (fun (_ : Unit) _ => ?_)
  refine stE ([(19, SV.tup []), (18, SV.int .u64 (IntKind.wrap .u64 (iand .u16 e.t 4095))), (17, SV.int .u16 (iand .u16 e.t 4095)), (16, SV.int .u16 e.t), (15, SV.c (Cel.ptr 1001 b1 0)), (14, SV.c (Cel.sl 1003 b3 6 2 10 0)), (3, SV.c (Cel.ptr 1003 b3 0)), (2, SV.c (Cel.ptr 1002 b2 0)), (1, SV.c (Cel.ptr 1001 b1 0)), (0, SV.agg [Cel.v (Value.int .u16 e.t), Cel.v (Value.int .u32 e.a), Cel.v (Value.int .u16 e.s), Cel.v (Value.int .u64 e.u)])]) ([(1001, b1, Cont.cells 51 [Cel.v (Value.int .u16 e.t), Cel.v (Value.int .u32 e.a), Cel.v (Value.int .u16 e.s), Cel.v (Value.int .u64 e.u)]), (1002, b2, Cont.cells 52 [Cel.ints .u8 16 (List.replicate 16 0)]), (1003, b3, Cont.cells 52 [Cel.ints .u8 16 (putB (putB (putB (List.replicate 16 0) 0 4 (IntKind.wrap .u64 e.a) 4) 4 2 (IntKind.wrap .u64 e.s) 2) 6 2 (IntKind.wrap .u64 (iand .u16 e.t 4095)) 2)])]) (by kernel_rfl) (by kernel_rfl) ?_
  refine And.intro (by kernel_rfl) ?_
  refine stE ([(3, SV.c (Cel.ptr 1003 b3 0)), (2, SV.c (Cel.ptr 1002 b2 0)), (1, SV.c (Cel.ptr 1001 b1 0)), (0, SV.agg [Cel.v (Value.int .u16 e.t), Cel.v (Value.int .u32 e.a), Cel.v (Value.int .u16 e.s), Cel.v (Value.int .u64 e.u)])]) ([(1001, b1, Cont.cells 51 [Cel.v (Value.int .u16 e.t), Cel.v (Value.int .u32 e.a), Cel.v (Value.int .u16 e.s), Cel.v (Value.int .u64 e.u)]), (1002, b2, Cont.cells 52 [Cel.ints .u8 16 (List.replicate 16 0)]), (1003, b3, Cont.cells 52 [Cel.ints .u8 16 (putB (putB (putB (List.replicate 16 0) 0 4 (IntKind.wrap .u64 e.a) 4) 4 2 (IntKind.wrap .u64 e.s) 2) 6 2 (IntKind.wrap .u64 (iand .u16 e.t 4095)) 2)])]) (by kernel_rfl) (by kernel_rfl) ?_
  refine And.intro (by omega) ?_
  refine stE ([(20, SV.c (Cel.sl 1003 b3 8 8 8 0)), (3, SV.c (Cel.ptr 1003 b3 0)), (2, SV.c (Cel.ptr 1002 b2 0)), (1, SV.c (Cel.ptr 1001 b1 0)), (0, SV.agg [Cel.v (Value.int .u16 e.t), Cel.v (Value.int .u32 e.a), Cel.v (Value.int .u16 e.s), Cel.v (Value.int .u64 e.u)])]) ([(1001, b1, Cont.cells 51 [Cel.v (Value.int .u16 e.t), Cel.v (Value.int .u32 e.a), Cel.v (Value.int .u16 e.s), Cel.v (Value.int .u64 e.u)]), (1002, b2, Cont.cells 52 [Cel.ints .u8 16 (List.replicate 16 0)]), (1003, b3, Cont.cells 52 [Cel.ints .u8 16 (putB (putB (putB (List.replicate 16 0) 0 4 (IntKind.wrap .u64 e.a) 4) 4 2 (IntKind.wrap .u64 e.s) 2) 6 2 (IntKind.wrap .u64 (iand .u16 e.t 4095)) 2)])]) (by kernel_rfl) (by kernel_rfl) ?_
  refine And.intro rfl ?_
  refine stE ([(22, SV.int .u64 e.u), (21, SV.c (Cel.ptr 1001 b1 3)), (20, SV.c (Cel.sl 1003 b3 8 8 8 0)), (3, SV.c (Cel.ptr 1003 b3 0)), (2, SV.c (Cel.ptr 1002 b2 0)), (1, SV.c (Cel.ptr 1001 b1 0)), (0, SV.agg [Cel.v (Value.int .u16 e.t), Cel.v (Value.int .u32 e.a), Cel.v (Value.int .u16 e.s), Cel.v (Value.int .u64 e.u)])]) ([(1001, b1, Cont.cells 51 [Cel.v (Value.int .u16 e.t), Cel.v (Value.int .u32 e.a), Cel.v (Value.int .u16 e.s), Cel.v (Value.int .u64 e.u)]), (1002, b2, Cont.cells 52 [Cel.ints .u8 16 (List.replicate 16 0)]), (1003, b3, Cont.cells 52 [Cel.ints .u8 16 (putB (putB (putB (List.replicate 16 0) 0 4 (IntKind.wrap .u64 e.a) 4) 4 2 (IntKind.wrap .u64 e.s) 2) 6 2 (IntKind.wrap .u64 (iand .u16 e.t 4095)) 2)])]) (by kernel_rfl) (by kernel_rfl) ?_
  refine And.intro (And.intro (And.intro (And.intro (rfl) (And.intro (rfl) (And.intro (rfl) (And.intro (rfl) (rfl))))) (And.intro (rfl) (trivial))) (And.intro (And.intro (And.intro (And.intro (rfl) (And.intro (rfl) (And.intro (And.intro (rfl) (And.intro (rfl) (rfl))) (trivial)))) (trivial)) (rfl)) (And.intro (rfl) (And.intro (rfl) (And.intro (rfl) (And.intro (rfl) (And.intro (Eq.mpr (β := 8 + 8 ≤ 16) (by kernel_rfl) (by omega)) (And.intro (rfl) (Eq.mpr (β := 8 ≤ 1099511627776) (by kernel_rfl) (by omega)))))))))) (fun (_ : Unit) _ => ?_)
  refine stE ([(24, SV.tup []), (23, SV.int .u64 (ior .u64 e.u 9223372036854775808)), (22, SV.int .u64 e.u), (21, SV.c (Cel.ptr 1001 b1 3)), (20, SV.c (Cel.sl 1003 b3 8 8 8 0)), (3, SV.c (Cel.ptr 1003 b3 0)), (2, SV.c (Cel.ptr 1002 b2 0)), (1, SV.c (Cel.ptr 1001 b1 0)), (0, SV.agg [Cel.v (Value.int .u16 e.t), Cel.v (Value.int .u32 e.a), Cel.v (Value.int .u16 e.s), Cel.v (Value.int .u64 e.u)])]) ([(1001, b1, Cont.cells 51 [Cel.v (Value.int .u16 e.t), Cel.v (Value.int .u32 e.a), Cel.v (Value.int .u16 e.s), Cel.v (Value.int .u64 e.u)]), (1002, b2, Cont.cells 52 [Cel.ints .u8 16 (List.replicate 16 0)]), (1003, b3, Cont.cells 52 [Cel.ints .u8 16 (putB (putB (putB (putB (List.replicate 16 0) 0 4 (IntKind.wrap .u64 e.a) 4) 4 2 (IntKind.wrap .u64 e.s) 2) 6 2 (IntKind.wrap .u64 (iand .u16 e.t 4095)) 2) 8 8 (ior .u64 e.u 9223372036854775808) 8)])]) (by kernel_rfl) (by kernel_rfl) ?_
  refine And.intro ⟨rfl, Nat.le_of_ble_eq_true rfl⟩ ?_
  refine stE ([(25, SV.agg [Cel.ints .u8 16 (List.take 16 (List.drop 0 (putB (putB (putB (putB (List.replicate 16 0) 0 4 (IntKind.wrap .u64 e.a) 4) 4 2 (IntKind.wrap .u64 e.s) 2) 6 2 (IntKind.wrap .u64 (iand .u16 e.t 4095)) 2) 8 8 (ior .u64 e.u 9223372036854775808) 8)))]), (3, SV.c (Cel.ptr 1003 b3 0)), (2, SV.c (Cel.ptr 1002 b2 0)), (1, SV.c (Cel.ptr 1001 b1 0)), (0, SV.agg [Cel.v (Value.int .u16 e.t), Cel.v (Value.int .u32 e.a), Cel.v (Value.int .u16 e.s), Cel.v (Value.int .u64 e.u)])]) ([(1001, b1, Cont.cells 51 [Cel.v (Value.int .u16 e.t), Cel.v (Value.int .u32 e.a), Cel.v (Value.int .u16 e.s), Cel.v (Value.int .u64 e.u)]), (1002, b2, Cont.cells 52 [Cel.ints .u8 16 (List.replicate 16 0)]), (1003, b3, Cont.cells 52 [Cel.ints .u8 16 (putB (putB (putB (putB (List.replicate 16 0) 0 4 (IntKind.wrap .u64 e.a) 4) 4 2 (IntKind.wrap .u64 e.s) 2) 6 2 (IntKind.wrap .u64 (iand .u16 e.t 4095)) 2) 8 8 (ior .u64 e.u 9223372036854775808) 8)])]) (by kernel_rfl) (by kernel_rfl) ?_
  refine And.intro ⟨⟨rfl, rfl⟩, by omega⟩ ?_
  refine stE ([(25, SV.agg [Cel.ints .u8 16 (List.take 16 (List.drop 0 (putB (putB (putB (putB (List.replicate 16 0) 0 4 (IntKind.wrap .u64 e.a) 4) 4 2 (IntKind.wrap .u64 e.s) 2) 6 2 (IntKind.wrap .u64 (iand .u16 e.t 4095)) 2) 8 8 (ior .u64 e.u 9223372036854775808) 8)))]), (3, SV.c (Cel.ptr 1003 b3 0)), (2, SV.c (Cel.ptr 1002 b2 0)), (1, SV.c (Cel.ptr 1001 b1 0)), (0, SV.agg [Cel.v (Value.int .u16 e.t), Cel.v (Value.int .u32 e.a), Cel.v (Value.int .u16 e.s), Cel.v (Value.int .u64 e.u)])]) ([(1001, b1, Cont.cells 51 [Cel.v (Value.int .u16 e.t), Cel.v (Value.int .u32 e.a), Cel.v (Value.int .u16 e.s), Cel.v (Value.int .u64 e.u)]), (1002, b2, Cont.cells 52 [Cel.ints .u8 16 (List.take 0 (List.replicate 16 0) ++ List.take 16 (List.drop 0 (putB (putB (putB (putB (List.replicate 16 0) 0 4 (IntKind.wrap .u64 e.a) 4) 4 2 (IntKind.wrap .u64 e.s) 2) 6 2 (IntKind.wrap .u64 (iand .u16 e.t 4095)) 2) 8 8 (ior .u64 e.u 9223372036854775808) 8)) ++ List.drop 16 (List.replicate 16 0))]), (1003, b3, Cont.cells 52 [Cel.ints .u8 16 (putB (putB (putB (putB (List.replicate 16 0) 0 4 (IntKind.wrap .u64 e.a) 4) 4 2 (IntKind.wrap .u64 e.s) 2) 6 2 (IntKind.wrap .u64 (iand .u16 e.t 4095)) 2) 8 8 (ior .u64 e.u 9223372036854775808) 8)])]) (by kernel_rfl) (by kernel_rfl) ?_
  refine And.intro ⟨rfl, Nat.le_of_ble_eq_true rfl⟩ ?_
  refine ⟨(), [], ?_, rfl, rfl, ?_, trivial⟩
  · refine Eq.mpr (β := (IntKind.u8 = IntKind.u8 ∧ 15 + 1 = 16 ∧ List.take (15 + 1) (List.drop 0 (List.take 0 (List.replicate 16 0) ++ List.take 16 (List.drop 0 (putB (putB (putB (putB (List.replicate 16 0) 0 4 (IntKind.wrap IntKind.u64 e.a) 4) 4 2 (IntKind.wrap IntKind.u64 e.s) 2) 6 2 (IntKind.wrap IntKind.u64 (iand IntKind.u16 e.t 4095)) 2) 8 8 (ior IntKind.u64 e.u 9223372036854775808) 8)) ++ List.drop 16 (List.replicate 16 0))) = GE.l e) ∧ True) (by kernel_rfl) (And.intro (And.intro (rfl) (And.intro (rfl) (?_))) (trivial))
    rw [ent_put]
    have h : e.l.length = 16 := by simp [GE.l, putL_len]
    show List.take 16 (List.drop 0 (List.take 0 (List.replicate 16 0) ++ List.take 16 (List.drop 0 e.l) ++ List.drop 16 (List.replicate 16 0))) = e.l
    simp [List.take_of_length_le, h]
  · refine Eq.mpr (β := True) (by kernel_rfl) (trivial)

end Go.Proofs.Ytpggklkofilmfaa
