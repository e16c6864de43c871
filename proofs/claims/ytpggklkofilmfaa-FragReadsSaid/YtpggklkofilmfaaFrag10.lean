/- Two fragments' fields held against one another. -/
import Derived.Test.YtpggklkofilmfaaFrag9
import Derived.Test.YtpggklkofilmfaaAbLem
set_option linter.unusedSimpArgs false
set_option linter.unusedVariables false
namespace Go.Proofs.Ytpggklkofilmfaa
open Go Go.Ab
set_option maxRecDepth 100000

/-- A fragment's fields. -/
structure FV where
  key : List Int
  part : Int
  last : Bool
  size : Int
  sum : List Int
  turn : Int
def FV.cels (f : FV) : List Cel := [.ints .u8 32 f.key, .v (.int .i64 f.part), .v (.bool f.last), .v (.int .i64 f.size), .ints .u8 32 f.sum, .v (.int .u64 f.turn)]
def sameF (a b : FV) : Bool := decide (a.key = b.key) && (decide (a.part = b.part) && ((a.last == b.last) && (decide (a.size = b.size) && (decide (a.sum = b.sum) && decide (a.turn = b.turn)))))
def spSame : FSpec where
  G := FV × FV
  args g := [.agg g.1.cels, .agg g.2.cels]
  hp _ := []
  pre g := (g.1.key.length = 32 ∧ g.1.sum.length = 32) ∧ g.2.key.length = 32 ∧ g.2.sum.length = 32
  R _ := Unit
  post _ _ := True
  res g _ := .bool (sameF g.1 g.2)
  new _ _ := []
  upd _ _ := []
  news := []
  wr := false
  mt vs _ := match vs with
    | [.agg [.ints _ _ k, .v (.int _ p), .v (.bool l), .v (.int _ s), .ints _ _ m, .v (.int _ t)], .agg [.ints _ _ k', .v (.int _ p'), .v (.bool l'), .v (.int _ s'), .ints _ _ m', .v (.int _ t')]] =>
      some ((⟨k, p, l, s, m, t⟩, ⟨k', p', l', s', m', t'⟩), [])
    | _ => none
set_option maxHeartbeats 4000000 in
theorem fn24 : FnOk Try.prog 24 spSame := by
  refine fnOk_of_vc (cxN_ok 45) wide (nt := fun _ => ntK [0, 1, 2, 3, 4]) Try.func24 rfl rfl (by kernel_rfl) (fuel := 1000) (fun _ => Nat.le_of_ble_eq_true rfl) (fun _ _ t h => h) (fun h => by cases h) ?_
  rintro ⟨a, b⟩ ⟨⟨l1, l2⟩, l3, l4⟩
  have l1 : a.key.length = 32 := l1
  have l2 : a.sum.length = 32 := l2
  have l3 : b.key.length = 32 := l3
  have l4 : b.sum.length = 32 := l4
  intro b2 _ b3 _
  refine And.intro rfl ?_
  refine And.intro rfl ?_
  refine ⟨fun h0 => ?_, fun h0 => ?_⟩
  rotate_left
  · have h0 : ¬ a.key = b.key := fun e => of_decide_eq_false h0 (by rw [e])
    refine ⟨rfl, ?_⟩
    repeat refine ⟨(fun h => by cases h), fun _ => ⟨rfl, ?_⟩⟩
    refine ⟨(), [], ?_, rfl, rfl, trivial, trivial⟩
    exact boolE (show false = sameF a b by simp [sameF, h0])
  have h0 : a.key = b.key := by
    have e := of_decide_eq_true h0
    simpa [List.take_of_length_le, l1, l2, l3, l4] using e
  skip
  refine ⟨fun _ => ?_, fun hp => by cases hp⟩
  refine And.intro rfl ?_
  refine ⟨fun _ => ?_, fun hp => by cases hp⟩
  skip
  refine ⟨fun _ => ?_, fun hp => by cases hp⟩
  refine And.intro rfl ?_
  refine ⟨fun _ => ?_, fun hp => by cases hp⟩
  skip
  refine ⟨fun h1 => ?_, fun h1 => ?_⟩
  rotate_left
  · have h1 : ¬ a.part = b.part := of_decide_eq_false h1
    refine ⟨rfl, ?_⟩
    repeat refine ⟨(fun h => by cases h), fun _ => ⟨rfl, ?_⟩⟩
    refine ⟨(), [], ?_, rfl, rfl, trivial, trivial⟩
    exact boolE (show false = sameF a b by simp [sameF, h0, h1])
  have h1 : a.part = b.part := of_decide_eq_true h1
  skip
  refine ⟨fun _ => ?_, fun hp => by cases hp⟩
  refine And.intro rfl ?_
  refine ⟨fun _ => ?_, fun hp => by cases hp⟩
  skip
  refine ⟨fun _ => ?_, fun hp => by cases hp⟩
  refine And.intro rfl ?_
  refine ⟨fun _ => ?_, fun hp => by cases hp⟩
  skip
  refine ⟨fun h2 => ?_, fun h2 => ?_⟩
  rotate_left
  · have h2 : (a.last == b.last) = false := h2
    refine ⟨rfl, ?_⟩
    repeat refine ⟨(fun h => by cases h), fun _ => ⟨rfl, ?_⟩⟩
    refine ⟨(), [], ?_, rfl, rfl, trivial, trivial⟩
    exact boolE (show false = sameF a b by simp [sameF, h0, h1, h2])
  have h2 : (a.last == b.last) = true := h2
  skip
  refine ⟨fun _ => ?_, fun hp => by cases hp⟩
  refine And.intro rfl ?_
  refine ⟨fun _ => ?_, fun hp => by cases hp⟩
  skip
  refine ⟨fun _ => ?_, fun hp => by cases hp⟩
  refine And.intro rfl ?_
  refine ⟨fun _ => ?_, fun hp => by cases hp⟩
  skip
  refine ⟨fun h3 => ?_, fun h3 => ?_⟩
  rotate_left
  · have h3 : ¬ a.size = b.size := of_decide_eq_false h3
    refine ⟨rfl, ?_⟩
    repeat refine ⟨(fun h => by cases h), fun _ => ⟨rfl, ?_⟩⟩
    refine ⟨(), [], ?_, rfl, rfl, trivial, trivial⟩
    exact boolE (show false = sameF a b by simp [sameF, h0, h1, h2, h3])
  have h3 : a.size = b.size := of_decide_eq_true h3
  skip
  refine ⟨fun _ => ?_, fun hp => by cases hp⟩
  refine And.intro rfl ?_
  refine ⟨fun _ => ?_, fun hp => by cases hp⟩
  skip
  refine ⟨fun _ => ?_, fun hp => by cases hp⟩
  refine And.intro rfl ?_
  refine ⟨fun _ => ?_, fun hp => by cases hp⟩
  skip
  refine ⟨fun h4 => ?_, fun h4 => ?_⟩
  rotate_left
  · have h4 : ¬ a.sum = b.sum := fun e => of_decide_eq_false h4 (by rw [e])
    refine ⟨rfl, ?_⟩
    repeat refine ⟨(fun h => by cases h), fun _ => ⟨rfl, ?_⟩⟩
    refine ⟨(), [], ?_, rfl, rfl, trivial, trivial⟩
    exact boolE (show false = sameF a b by simp [sameF, h0, h1, h2, h3, h4])
  have h4 : a.sum = b.sum := by
    have e := of_decide_eq_true h4
    simpa [List.take_of_length_le, l1, l2, l3, l4] using e
  skip
  refine ⟨fun _ => ?_, fun hp => by cases hp⟩
  refine And.intro rfl ?_
  refine ⟨fun _ => ?_, fun hp => by cases hp⟩
  skip
  refine ⟨fun _ => ?_, fun hp => by cases hp⟩
  refine And.intro rfl ?_
  refine ⟨fun _ => ?_, fun hp => by cases hp⟩
  skip
  refine ⟨(), [], ?_, rfl, rfl, trivial, trivial⟩
  refine boolE ?_
  show (bif true then decide (a.turn = b.turn) else false) = sameF a b
  simp [sameF, h0, h1, h2, h3, h4]

end Go.Proofs.Ytpggklkofilmfaa
