/- The rotations, the constants: what each call of them comes to. -/
import Derived.Test.YtpggklkofilmfaaAbTab
import Derived.Test.YtpggklkofilmfaaAbLem
set_option linter.unusedSimpArgs false
set_option linter.unusedVariables false
namespace Go.Proofs.Ytpggklkofilmfaa
open Go Go.Ab
set_option maxRecDepth 100000

theorem wide : Try.prog.follows .mixedOrders = true := by kernel_rfl
def noNotes (ks : List Nat) : Notes := ⟨fun _ => none, fun _ => none, fun _ => none, ks⟩

/-! ### math/bits.RotateLeft32 -/
def cx45 : Cx := ⟨tab, fun _ => none, 17, false⟩
theorem cx45_ok : CxOk Try.prog cx45 := ⟨tab_ok, fun f c h => by cases h⟩
def rotl (x k : Int) : Int := ior .u32 (ishl .u32 x (iand .u64 (IntKind.u64.wrap k) 31)) (ishr .u32 x (isub .u64 32 (iand .u64 (IntKind.u64.wrap k) 31)))
def sp45 : FSpec where
  G := Int × Int
  args g := [.int .u32 g.1, .int .i64 g.2]
  hp _ := []
  pre _ := True
  R _ := Unit
  post _ _ := True
  res g _ := .int .u32 (rotl g.1 g.2)
  new _ _ := []
  upd _ _ := []
  news := []
  wr := false
  mt vs _ := match vs with
    | [.c (.v (.int _ x)), .c (.v (.int _ k))] => some ((x, k), [])
    | _ => none
theorem iand_nonneg (x y : Int) : 0 ≤ iand .u64 x y := by
  unfold iand IntKind.wrap
  simp only [IntKind.bits, IntKind.signed, Bool.false_and, Bool.false_eq_true, if_false]
  omega
theorem isub_nonneg (x y : Int) : 0 ≤ isub .u64 x y := by
  unfold isub IntKind.wrap
  simp only [IntKind.bits, IntKind.signed, Bool.false_and, Bool.false_eq_true, if_false]
  omega
theorem fn45 : FnOk Try.prog 45 sp45 := by
  refine fnOk_of_vc cx45_ok wide (nt := fun _ => noNotes [0, 1, 4, 5]) Try.func45 rfl rfl (by kernel_rfl) (fuel := 100) (fun _ => Nat.le_of_ble_eq_true rfl) (fun _ _ _ h => h) (fun h => by cases h) ?_
  rintro ⟨x, k⟩ hpre
  refine ⟨iand_nonneg _ _, ?_⟩
  refine ⟨isub_nonneg _ _, ?_⟩
  exact ⟨(), [], rfl, rfl, rfl, trivial, trivial⟩

/-! ### ambryref1.turn -/
def cx36 : Cx := ⟨tab, fun _ => none, 13, true⟩
theorem cx36_ok : CxOk Try.prog cx36 := ⟨tab_ok, fun f c h => by cases h⟩
/-- A word turned right by 'n'. -/
def rot (x n : Int) : Int := ior .u32 (ishr .u32 x n) (ishl .u32 x (32 - n))
def sp36 : FSpec where
  G := Int × Int
  args g := [.int .u32 g.1, .int .i64 g.2]
  hp _ := []
  pre g := 0 ≤ g.2 ∧ g.2 ≤ 32
  R _ := Unit
  post _ _ := True
  res g _ := .int .u32 (rot g.1 g.2)
  new _ _ := []
  upd _ _ := []
  news := []
  wr := false
  mt vs _ := match vs with
    | [.c (.v (.int _ x)), .c (.v (.int _ k))] => some ((x, k), [])
    | _ => none
theorem fn36 : FnOk Try.prog 36 sp36 := by
  refine fnOk_of_vc cx36_ok wide (nt := fun _ => ⟨fun _ => some (List.range 9), fun _ => none, fun _ => none, [0, 1, 4]⟩) Try.func36 rfl rfl (by kernel_rfl) (fuel := 100) (fun _ => Nat.le_of_ble_eq_true rfl) (fun _ _ _ h => h) (fun h => by cases h) ?_
  rintro ⟨x, k⟩ ⟨h1, h2⟩
  dsimp only at h1 h2
  refine ⟨by kernel_rfl, ?_⟩
  refine ⟨h1, ?_⟩
  refine ⟨by omega, ?_⟩
  refine ⟨by omega, ?_⟩
  exact ⟨(), [], rfl, rfl, rfl, trivial, trivial⟩

/-! ### the constants -/
def K0 : List Int := [0x428a2f98, 0x71374491, 0xb5c0fbcf, 0xe9b5dba5, 0x3956c25b, 0x59f111f1, 0x923f82a4, 0xab1c5ed5,
  0xd807aa98, 0x12835b01, 0x243185be, 0x550c7dc3, 0x72be5d74, 0x80deb1fe, 0x9bdc06a7, 0xc19bf174,
  0xe49b69c1, 0xefbe4786, 0x0fc19dc6, 0x240ca1cc, 0x2de92c6f, 0x4a7484aa, 0x5cb0a9dc, 0x76f988da,
  0x983e5152, 0xa831c66d, 0xb00327c8, 0xbf597fc7, 0xc6e00bf3, 0xd5a79147, 0x06ca6351, 0x14292967,
  0x27b70a85, 0x2e1b2138, 0x4d2c6dfc, 0x53380d13, 0x650a7354, 0x766a0abb, 0x81c2c92e, 0x92722c85,
  0xa2bfe8a1, 0xa81a664b, 0xc24b8b70, 0xc76c51a3, 0xd192e819, 0xd6990624, 0xf40e3585, 0x106aa070,
  0x19a4c116, 0x1e376c08, 0x2748774c, 0x34b0bcb5, 0x391c0cb3, 0x4ed8aa4a, 0x5b9cca4f, 0x682e6ff3,
  0x748f82ee, 0x78a5636f, 0x84c87814, 0x8cc70208, 0x90befffa, 0xa4506ceb, 0xbef9a3f7, 0xc67178f2]
def H0 : List Int := [0x6a09e667, 0xbb67ae85, 0x3c6ef372, 0xa54ff53a, 0x510e527f, 0x9b05688c, 0x1f83d9ab, 0x5be0cd19]

def cx32 : Cx := ⟨tab, fun _ => none, 5, true⟩
theorem cx32_ok : CxOk Try.prog cx32 := ⟨tab_ok, fun f c h => by cases h⟩
def sp32 : FSpec where
  G := Unit
  args _ := []
  hp _ := []
  pre _ := True
  R _ := BlkO
  post _ _ := True
  res _ b := .c (.ptr 100 b 0)
  new _ b := [(100, b, .cells 67 [.ints .u32 64 K0, .ints .u32 8 H0])]
  upd _ _ := []
  news := [100]
  wr := false
  mt vs _ := match vs with
    | [] => some ((), [])
    | _ => none
theorem fn32 : FnOk Try.prog 32 sp32 := by
  refine fnOk_of_vc cx32_ok wide (nt := fun _ => noNotes [0]) Try.func32 rfl rfl (by kernel_rfl) (fuel := 100) (fun _ => Nat.le_of_ble_eq_true rfl) (fun _ _ t h => h) (fun h => by cases h) ?_
  rintro ⟨⟩ hpre
  refine ⟨?_, ?_⟩
  · exact Nat.le_of_ble_eq_true rfl
  intro b _
  exact ⟨b, [1004], ⟨rfl, rfl⟩, rfl, rfl, ⟨⟨rfl, rfl, ⟨rfl, rfl, rfl⟩, ⟨rfl, rfl, rfl⟩, trivial⟩, trivial⟩, trivial⟩

def cx34 : Cx := ⟨tab, fun _ => none, 2, true⟩
theorem cx34_ok : CxOk Try.prog cx34 := ⟨tab_ok, fun f c h => by cases h⟩
def sp34 : FSpec where
  G := Unit
  args _ := []
  hp _ := []
  pre _ := True
  R _ := Unit
  post _ _ := True
  res _ _ := .agg [.ints .u32 64 K0]
  new _ _ := []
  upd _ _ := []
  news := []
  wr := false
  mt vs _ := match vs with
    | [] => some ((), [])
    | _ => none
theorem fn34 : FnOk Try.prog 34 sp34 := by
  refine fnOk_of_vc cx34_ok wide (nt := fun _ => noNotes [0]) Try.func34 rfl rfl (by kernel_rfl) (fuel := 100) (fun _ => Nat.le_of_ble_eq_true rfl) (fun _ _ t h => h) (fun h => by cases h) ?_
  rintro ⟨⟩ hpre
  intro b _
  refine ⟨⟨⟨rfl, rfl⟩, by decide⟩, ?_⟩
  refine ⟨⟨rfl, by decide⟩, ?_⟩
  exact ⟨(), [], ⟨⟨rfl, rfl, rfl⟩, trivial⟩, rfl, rfl, trivial, trivial⟩

end Go.Proofs.Ytpggklkofilmfaa
