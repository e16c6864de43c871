/-
  No cell of these rows narrows 'for every input' (looked for: loops, veiled, ifaces, maps, wideKeys, modest, calm, conditions, laid).
  DERIVED. THE GIVEN ROWS OF THIS SEAT. 10 by the template 'for every input the law returns true; each argument reads behind the call as it read before'; 0 by the template 'total and deterministic' (their statements: YtpggklkofilmfaaTotals.lean).
  GIVEN WITH THE SEED: the statements are not yours to turn. If you find one false, say at which input.
  Laid BY PROGRAM, IN A SANDBOX (cutbox-rows.mjs): the forced cells as the released guide's own fill.sh prints them over the translation 05072b3562be8169… (all of the seat's roots in one cut). By AI agents, Wed Nov 11 2026. No macro, syntax, notation, axiom, sorry.
-/
import Derived.Test.YtpggklkofilmfaaChecked
import GoSem.Claim
import GoSem.ClaimJoined
import GoSem.ClaimMapViews
import Derived.JoinedTies
import Derived.KernelRfl
namespace Go.Proofs.Ytpggklkofilmfaa
/- THE CELL 'sum', in the pinned program and in every row, IS THE sha256 OF THE DUMP (.gsa) THAT YtpggklkofilmfaaProg.lean LOADS. Nothing in Lean hashes anything: it is a label: what it is worth is what the hold of that sum in a sandbox is worth. -/
noncomputable def Try.pinned : Pinned := { name := "ytpggklkofilmfaa", sum := "05072b3562be816963458cd4009cb6113b9866884a42875252c08c5cf8f62c8d", checked := Try.checked }
namespace Rows
def none {H : Type} : Left H := { results := [], args := [] }

/-- 'ambrylaw1.ShaSums': WHATEVER THE INPUT: true; the input reads as it did. -/
def shaSumsSpec : ChangeSpec := { name := "shaSums", fn := fun _ => fun
  | [d1, d2] => { results := [.lit (.bool true)], args := [d1, d2] }
  | _ => none }
def shaSumsRow : OpenClaim := { program := "ytpggklkofilmfaa", sum := "05072b3562be816963458cd4009cb6113b9866884a42875252c08c5cf8f62c8d", func := "ambry/ambrylaw1.ShaSums", spec := "shaSums", apart := false }
def ShaSumsSaid : Prop := shaSumsRow.holds Try.pinned (OpenSpec.ofChange shaSumsSpec)

/-- ITS FALSE NEIGHBOUR: 'it returns false'. Refute it at one input. -/
def shaSumsWrong : ChangeSpec := { name := "shaSums", fn := fun _ => fun
  | [d1, d2] => { results := [.lit (.bool false)], args := [d1, d2] }
  | _ => none }
def ShaSumsWrongFalsely : Prop := shaSumsRow.holds Try.pinned (OpenSpec.ofChange shaSumsWrong)

/-- 'ambrylaw1.ShaKeys': WHATEVER THE INPUT: true; the input reads as it did. -/
def shaKeysSpec : ChangeSpec := { name := "shaKeys", fn := fun _ => fun
  | [d] => { results := [.lit (.bool true)], args := [d] }
  | _ => none }
def shaKeysRow : OpenClaim := { program := "ytpggklkofilmfaa", sum := "05072b3562be816963458cd4009cb6113b9866884a42875252c08c5cf8f62c8d", func := "ambry/ambrylaw1.ShaKeys", spec := "shaKeys", apart := false }
def ShaKeysSaid : Prop := shaKeysRow.holds Try.pinned (OpenSpec.ofChange shaKeysSpec)

/-- ITS FALSE NEIGHBOUR: 'it returns false'. Refute it at one input. -/
def shaKeysWrong : ChangeSpec := { name := "shaKeys", fn := fun _ => fun
  | [d] => { results := [.lit (.bool false)], args := [d] }
  | _ => none }
def ShaKeysWrongFalsely : Prop := shaKeysRow.holds Try.pinned (OpenSpec.ofChange shaKeysWrong)

/-- 'ambrylaw1.ShaAgain': WHATEVER THE INPUT: true; the input reads as it did. -/
def shaAgainSpec : ChangeSpec := { name := "shaAgain", fn := fun _ => fun
  | [d1, d2] => { results := [.lit (.bool true)], args := [d1, d2] }
  | _ => none }
def shaAgainRow : OpenClaim := { program := "ytpggklkofilmfaa", sum := "05072b3562be816963458cd4009cb6113b9866884a42875252c08c5cf8f62c8d", func := "ambry/ambrylaw1.ShaAgain", spec := "shaAgain", apart := false }
def ShaAgainSaid : Prop := shaAgainRow.holds Try.pinned (OpenSpec.ofChange shaAgainSpec)

/-- ITS FALSE NEIGHBOUR: 'it returns false'. Refute it at one input. -/
def shaAgainWrong : ChangeSpec := { name := "shaAgain", fn := fun _ => fun
  | [d1, d2] => { results := [.lit (.bool false)], args := [d1, d2] }
  | _ => none }
def ShaAgainWrongFalsely : Prop := shaAgainRow.holds Try.pinned (OpenSpec.ofChange shaAgainWrong)

/-- 'ambrylaw1.ShaLengths': WHATEVER THE INPUT: true; the input reads as it did. -/
def shaLengthsSpec : ChangeSpec := { name := "shaLengths", fn := fun _ => fun
  | [d1, d2] => { results := [.lit (.bool true)], args := [d1, d2] }
  | _ => none }
def shaLengthsRow : OpenClaim := { program := "ytpggklkofilmfaa", sum := "05072b3562be816963458cd4009cb6113b9866884a42875252c08c5cf8f62c8d", func := "ambry/ambrylaw1.ShaLengths", spec := "shaLengths", apart := false }
def ShaLengthsSaid : Prop := shaLengthsRow.holds Try.pinned (OpenSpec.ofChange shaLengthsSpec)

/-- ITS FALSE NEIGHBOUR: 'it returns false'. Refute it at one input. -/
def shaLengthsWrong : ChangeSpec := { name := "shaLengths", fn := fun _ => fun
  | [d1, d2] => { results := [.lit (.bool false)], args := [d1, d2] }
  | _ => none }
def ShaLengthsWrongFalsely : Prop := shaLengthsRow.holds Try.pinned (OpenSpec.ofChange shaLengthsWrong)

/-- 'ambrylaw4.FragWrites': WHATEVER THE INPUT: true; the input reads as it did. -/
def fragWritesSpec : ChangeSpec := { name := "fragWrites", fn := fun _ => fun
  | [d1, d2, d3, d4] => { results := [.lit (.bool true)], args := [d1, d2, d3, d4] }
  | _ => none }
def fragWritesRow : OpenClaim := { program := "ytpggklkofilmfaa", sum := "05072b3562be816963458cd4009cb6113b9866884a42875252c08c5cf8f62c8d", func := "ambry/ambrylaw4.FragWrites", spec := "fragWrites", unfollowed := true, recurses := true, apart := false }
def FragWritesSaid : Prop := fragWritesRow.holds Try.pinned (OpenSpec.ofChange fragWritesSpec)

/-- ITS FALSE NEIGHBOUR: 'it returns false'. Refute it at one input. -/
def fragWritesWrong : ChangeSpec := { name := "fragWrites", fn := fun _ => fun
  | [d1, d2, d3, d4] => { results := [.lit (.bool false)], args := [d1, d2, d3, d4] }
  | _ => none }
def FragWritesWrongFalsely : Prop := fragWritesRow.holds Try.pinned (OpenSpec.ofChange fragWritesWrong)

/-- 'ambrylaw4.FragReads': WHATEVER THE INPUT: true; the input reads as it did. -/
def fragReadsSpec : ChangeSpec := { name := "fragReads", fn := fun _ => fun
  | [d1, d2, d3, d4, d5, d6] => { results := [.lit (.bool true)], args := [d1, d2, d3, d4, d5, d6] }
  | _ => none }
def fragReadsRow : OpenClaim := { program := "ytpggklkofilmfaa", sum := "05072b3562be816963458cd4009cb6113b9866884a42875252c08c5cf8f62c8d", func := "ambry/ambrylaw4.FragReads", spec := "fragReads", unfollowed := true, recurses := true, apart := false }
def FragReadsSaid : Prop := fragReadsRow.holds Try.pinned (OpenSpec.ofChange fragReadsSpec)

/-- ITS FALSE NEIGHBOUR: 'it returns false'. Refute it at one input. -/
def fragReadsWrong : ChangeSpec := { name := "fragReads", fn := fun _ => fun
  | [d1, d2, d3, d4, d5, d6] => { results := [.lit (.bool false)], args := [d1, d2, d3, d4, d5, d6] }
  | _ => none }
def FragReadsWrongFalsely : Prop := fragReadsRow.holds Try.pinned (OpenSpec.ofChange fragReadsWrong)

/-- 'ambrylaw4.FragEntries': WHATEVER THE INPUT: true; the input reads as it did. -/
def fragEntriesSpec : ChangeSpec := { name := "fragEntries", fn := fun _ => fun
  | [d1, d2] => { results := [.lit (.bool true)], args := [d1, d2] }
  | _ => none }
def fragEntriesRow : OpenClaim := { program := "ytpggklkofilmfaa", sum := "05072b3562be816963458cd4009cb6113b9866884a42875252c08c5cf8f62c8d", func := "ambry/ambrylaw4.FragEntries", spec := "fragEntries", unfollowed := true, recurses := true, apart := false }
def FragEntriesSaid : Prop := fragEntriesRow.holds Try.pinned (OpenSpec.ofChange fragEntriesSpec)

/-- ITS FALSE NEIGHBOUR: 'it returns false'. Refute it at one input. -/
def fragEntriesWrong : ChangeSpec := { name := "fragEntries", fn := fun _ => fun
  | [d1, d2] => { results := [.lit (.bool false)], args := [d1, d2] }
  | _ => none }
def FragEntriesWrongFalsely : Prop := fragEntriesRow.holds Try.pinned (OpenSpec.ofChange fragEntriesWrong)

/-- 'ambrylaw4.FragSectors': WHATEVER THE INPUT: true; the input reads as it did. -/
def fragSectorsSpec : ChangeSpec := { name := "fragSectors", fn := fun _ => fun
  | [d1, d2] => { results := [.lit (.bool true)], args := [d1, d2] }
  | _ => none }
def fragSectorsRow : OpenClaim := { program := "ytpggklkofilmfaa", sum := "05072b3562be816963458cd4009cb6113b9866884a42875252c08c5cf8f62c8d", func := "ambry/ambrylaw4.FragSectors", spec := "fragSectors", unfollowed := true, recurses := true, apart := false }
def FragSectorsSaid : Prop := fragSectorsRow.holds Try.pinned (OpenSpec.ofChange fragSectorsSpec)

/-- ITS FALSE NEIGHBOUR: 'it returns false'. Refute it at one input. -/
def fragSectorsWrong : ChangeSpec := { name := "fragSectors", fn := fun _ => fun
  | [d1, d2] => { results := [.lit (.bool false)], args := [d1, d2] }
  | _ => none }
def FragSectorsWrongFalsely : Prop := fragSectorsRow.holds Try.pinned (OpenSpec.ofChange fragSectorsWrong)

/-- 'ambrylaw4.FragBits': WHATEVER THE INPUT: true; the input reads as it did. -/
def fragBitsSpec : ChangeSpec := { name := "fragBits", fn := fun _ => fun
  | [d1, d2, d3] => { results := [.lit (.bool true)], args := [d1, d2, d3] }
  | _ => none }
def fragBitsRow : OpenClaim := { program := "ytpggklkofilmfaa", sum := "05072b3562be816963458cd4009cb6113b9866884a42875252c08c5cf8f62c8d", func := "ambry/ambrylaw4.FragBits", spec := "fragBits", unfollowed := true, recurses := true, apart := false }
def FragBitsSaid : Prop := fragBitsRow.holds Try.pinned (OpenSpec.ofChange fragBitsSpec)

/-- ITS FALSE NEIGHBOUR: 'it returns false'. Refute it at one input. -/
def fragBitsWrong : ChangeSpec := { name := "fragBits", fn := fun _ => fun
  | [d1, d2, d3] => { results := [.lit (.bool false)], args := [d1, d2, d3] }
  | _ => none }
def FragBitsWrongFalsely : Prop := fragBitsRow.holds Try.pinned (OpenSpec.ofChange fragBitsWrong)

/-- 'ambrylaw4.FragCuts': WHATEVER THE INPUT: true; the input reads as it did. -/
def fragCutsSpec : ChangeSpec := { name := "fragCuts", fn := fun _ => fun
  | [d1, d2, d3] => { results := [.lit (.bool true)], args := [d1, d2, d3] }
  | _ => none }
def fragCutsRow : OpenClaim := { program := "ytpggklkofilmfaa", sum := "05072b3562be816963458cd4009cb6113b9866884a42875252c08c5cf8f62c8d", func := "ambry/ambrylaw4.FragCuts", spec := "fragCuts", unfollowed := true, recurses := true, apart := false }
def FragCutsSaid : Prop := fragCutsRow.holds Try.pinned (OpenSpec.ofChange fragCutsSpec)

/-- ITS FALSE NEIGHBOUR: 'it returns false'. Refute it at one input. -/
def fragCutsWrong : ChangeSpec := { name := "fragCuts", fn := fun _ => fun
  | [d1, d2, d3] => { results := [.lit (.bool false)], args := [d1, d2, d3] }
  | _ => none }
def FragCutsWrongFalsely : Prop := fragCutsRow.holds Try.pinned (OpenSpec.ofChange fragCutsWrong)

/- THE SECOND FORM. 'bulk': how many values and letters a reading holds, each counted each time it is reached (what is shared counts as often as it is met; a slice's spare places count too). A statement '..UptoSaid' is the law's where the arguments, and the package variables that the reading takes, are together of bulk at most 1048576: NARROWER than '..Said'. Prove '..Said' where nothing that the law and all that it calls make is longer than what came in: it says more and counts as full. Else prove '..UptoSaid'. A law counts once. -/
mutual
def uptoBulk {H : Type} : DataW H → Nat
  | .lit (.string bytes) => bytes.length + 1
  | .lit _ => 1
  | .nil => 1
  | .ptr d => uptoBulk d + 1
  | .slice elems spare => uptoBulkAll elems + uptoBulkAll spare + 1
  | .agg parts => uptoBulkAll parts + 1
  | .iface _ d => uptoBulk d + 1
  | .map entries => uptoBulkEntries entries + 1
  | .held _ => 1
def uptoBulkAll {H : Type} : List (DataW H) → Nat
  | [] => 0
  | d :: r => uptoBulk d + uptoBulkAll r
def uptoBulkEntries {H : Type} : List (Lit × DataW H) → Nat
  | [] => 0
  | x :: r => uptoBulkEntry x + uptoBulkEntries r
def uptoBulkEntry {H : Type} : Lit × DataW H → Nat
  | (.string bytes, d) => bytes.length + uptoBulk d + 1
  | (_, d) => uptoBulk d + 1
 end
def uptoSmall : (H : Type) → List (DataW H) → Bool := fun _ ds => decide (uptoBulkAll ds ≤ 1048576)
def OpenSpec.upto (s : _root_.Go.ChangeSpec) : _root_.Go.OpenSpec := { _root_.Go.OpenSpec.ofChange s with cond := some uptoSmall }

/-- 'ambrylaw1.ShaSums', WHERE WHAT IT READS IS OF BULK AT MOST 1048576: true; the input reads as it did. -/
def shaSumsUptoRow : OpenClaim := { program := "ytpggklkofilmfaa", sum := "05072b3562be816963458cd4009cb6113b9866884a42875252c08c5cf8f62c8d", func := "ambry/ambrylaw1.ShaSums", spec := "shaSums", apart := false, narrowed := true }
def ShaSumsUptoSaid : Prop := shaSumsUptoRow.holds Try.pinned (OpenSpec.upto shaSumsSpec)

/-- 'ambrylaw1.ShaKeys', WHERE WHAT IT READS IS OF BULK AT MOST 1048576: true; the input reads as it did. -/
def shaKeysUptoRow : OpenClaim := { program := "ytpggklkofilmfaa", sum := "05072b3562be816963458cd4009cb6113b9866884a42875252c08c5cf8f62c8d", func := "ambry/ambrylaw1.ShaKeys", spec := "shaKeys", apart := false, narrowed := true }
def ShaKeysUptoSaid : Prop := shaKeysUptoRow.holds Try.pinned (OpenSpec.upto shaKeysSpec)

/-- 'ambrylaw1.ShaAgain', WHERE WHAT IT READS IS OF BULK AT MOST 1048576: true; the input reads as it did. -/
def shaAgainUptoRow : OpenClaim := { program := "ytpggklkofilmfaa", sum := "05072b3562be816963458cd4009cb6113b9866884a42875252c08c5cf8f62c8d", func := "ambry/ambrylaw1.ShaAgain", spec := "shaAgain", apart := false, narrowed := true }
def ShaAgainUptoSaid : Prop := shaAgainUptoRow.holds Try.pinned (OpenSpec.upto shaAgainSpec)

/-- 'ambrylaw1.ShaLengths', WHERE WHAT IT READS IS OF BULK AT MOST 1048576: true; the input reads as it did. -/
def shaLengthsUptoRow : OpenClaim := { program := "ytpggklkofilmfaa", sum := "05072b3562be816963458cd4009cb6113b9866884a42875252c08c5cf8f62c8d", func := "ambry/ambrylaw1.ShaLengths", spec := "shaLengths", apart := false, narrowed := true }
def ShaLengthsUptoSaid : Prop := shaLengthsUptoRow.holds Try.pinned (OpenSpec.upto shaLengthsSpec)

/-- 'ambrylaw4.FragWrites', WHERE WHAT IT READS IS OF BULK AT MOST 1048576: true; the input reads as it did. -/
def fragWritesUptoRow : OpenClaim := { program := "ytpggklkofilmfaa", sum := "05072b3562be816963458cd4009cb6113b9866884a42875252c08c5cf8f62c8d", func := "ambry/ambrylaw4.FragWrites", spec := "fragWrites", unfollowed := true, recurses := true, apart := false, narrowed := true }
def FragWritesUptoSaid : Prop := fragWritesUptoRow.holds Try.pinned (OpenSpec.upto fragWritesSpec)

/-- 'ambrylaw4.FragReads', WHERE WHAT IT READS IS OF BULK AT MOST 1048576: true; the input reads as it did. -/
def fragReadsUptoRow : OpenClaim := { program := "ytpggklkofilmfaa", sum := "05072b3562be816963458cd4009cb6113b9866884a42875252c08c5cf8f62c8d", func := "ambry/ambrylaw4.FragReads", spec := "fragReads", unfollowed := true, recurses := true, apart := false, narrowed := true }
def FragReadsUptoSaid : Prop := fragReadsUptoRow.holds Try.pinned (OpenSpec.upto fragReadsSpec)

/-- 'ambrylaw4.FragEntries', WHERE WHAT IT READS IS OF BULK AT MOST 1048576: true; the input reads as it did. -/
def fragEntriesUptoRow : OpenClaim := { program := "ytpggklkofilmfaa", sum := "05072b3562be816963458cd4009cb6113b9866884a42875252c08c5cf8f62c8d", func := "ambry/ambrylaw4.FragEntries", spec := "fragEntries", unfollowed := true, recurses := true, apart := false, narrowed := true }
def FragEntriesUptoSaid : Prop := fragEntriesUptoRow.holds Try.pinned (OpenSpec.upto fragEntriesSpec)

/-- 'ambrylaw4.FragSectors', WHERE WHAT IT READS IS OF BULK AT MOST 1048576: true; the input reads as it did. -/
def fragSectorsUptoRow : OpenClaim := { program := "ytpggklkofilmfaa", sum := "05072b3562be816963458cd4009cb6113b9866884a42875252c08c5cf8f62c8d", func := "ambry/ambrylaw4.FragSectors", spec := "fragSectors", unfollowed := true, recurses := true, apart := false, narrowed := true }
def FragSectorsUptoSaid : Prop := fragSectorsUptoRow.holds Try.pinned (OpenSpec.upto fragSectorsSpec)

/-- 'ambrylaw4.FragBits', WHERE WHAT IT READS IS OF BULK AT MOST 1048576: true; the input reads as it did. -/
def fragBitsUptoRow : OpenClaim := { program := "ytpggklkofilmfaa", sum := "05072b3562be816963458cd4009cb6113b9866884a42875252c08c5cf8f62c8d", func := "ambry/ambrylaw4.FragBits", spec := "fragBits", unfollowed := true, recurses := true, apart := false, narrowed := true }
def FragBitsUptoSaid : Prop := fragBitsUptoRow.holds Try.pinned (OpenSpec.upto fragBitsSpec)

/-- 'ambrylaw4.FragCuts', WHERE WHAT IT READS IS OF BULK AT MOST 1048576: true; the input reads as it did. -/
def fragCutsUptoRow : OpenClaim := { program := "ytpggklkofilmfaa", sum := "05072b3562be816963458cd4009cb6113b9866884a42875252c08c5cf8f62c8d", func := "ambry/ambrylaw4.FragCuts", spec := "fragCuts", unfollowed := true, recurses := true, apart := false, narrowed := true }
def FragCutsUptoSaid : Prop := fragCutsUptoRow.holds Try.pinned (OpenSpec.upto fragCutsSpec)

end Rows
end Go.Proofs.Ytpggklkofilmfaa
