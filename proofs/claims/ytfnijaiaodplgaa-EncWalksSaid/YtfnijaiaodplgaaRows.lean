/-
  No cell of these rows narrows 'for every input' (looked for: loops, veiled, ifaces, maps, wideKeys, modest, calm, conditions, laid).
  DERIVED. THE GIVEN ROWS OF THIS SEAT. 11 by the template 'for every input the law returns true; each argument reads behind the call as it read before'; 0 by the template 'total and deterministic' (their statements: YtfnijaiaodplgaaTotals.lean).
  GIVEN WITH THE SEED: the statements are not yours to turn. If you find one false, say at which input.
  Laid BY PROGRAM, IN A SANDBOX (cutbox-rows.mjs): the forced cells as the released guide's own fill.sh prints them over the translation f43fb98f8aeebc0d… (all of the seat's roots in one cut). By AI agents, Wed Nov 11 2026. No macro, syntax, notation, axiom, sorry.
-/
import Derived.Test.YtfnijaiaodplgaaChecked
import GoSem.Claim
import GoSem.ClaimJoined
import GoSem.ClaimMapViews
import Derived.JoinedTies
import Derived.KernelRfl
namespace Go.Proofs.Ytfnijaiaodplgaa
/- THE CELL 'sum', in the pinned program and in every row, IS THE sha256 OF THE DUMP (.gsa) THAT YtfnijaiaodplgaaProg.lean LOADS. Nothing in Lean hashes anything: it is a label: what it is worth is what the hold of that sum in a sandbox is worth. -/
noncomputable def Try.pinned : Pinned := { name := "ytfnijaiaodplgaa", sum := "f43fb98f8aeebc0d10e926c09ea77b5f8d59933de5264bf8cc7dae99a5a4234f", checked := Try.checked }
namespace Rows
def none {H : Type} : Left H := { results := [], args := [] }

/-- 'parchmentlaw02.EncNumbers': WHATEVER THE INPUT: true; the input reads as it did. -/
def encNumbersSpec : ChangeSpec := { name := "encNumbers", fn := fun _ => fun
  | [d] => { results := [.lit (.bool true)], args := [d] }
  | _ => none }
def encNumbersRow : OpenClaim := { program := "ytfnijaiaodplgaa", sum := "f43fb98f8aeebc0d10e926c09ea77b5f8d59933de5264bf8cc7dae99a5a4234f", func := "parchment/parchmentlaw02.EncNumbers", spec := "encNumbers", recurses := true, apart := false }
def EncNumbersSaid : Prop := encNumbersRow.holds Try.pinned (OpenSpec.ofChange encNumbersSpec)

/-- ITS FALSE NEIGHBOUR: 'it returns false'. Refute it at one input. -/
def encNumbersWrong : ChangeSpec := { name := "encNumbers", fn := fun _ => fun
  | [d] => { results := [.lit (.bool false)], args := [d] }
  | _ => none }
def EncNumbersWrongFalsely : Prop := encNumbersRow.holds Try.pinned (OpenSpec.ofChange encNumbersWrong)

/-- 'parchmentlaw01.HashStarts': WHATEVER THE INPUT: true; the input reads as it did. -/
def hashStartsSpec : ChangeSpec := { name := "hashStarts", fn := fun _ => fun
  | [d] => { results := [.lit (.bool true)], args := [d] }
  | _ => none }
def hashStartsRow : OpenClaim := { program := "ytfnijaiaodplgaa", sum := "f43fb98f8aeebc0d10e926c09ea77b5f8d59933de5264bf8cc7dae99a5a4234f", func := "parchment/parchmentlaw01.HashStarts", spec := "hashStarts", apart := false }
def HashStartsSaid : Prop := hashStartsRow.holds Try.pinned (OpenSpec.ofChange hashStartsSpec)

/-- ITS FALSE NEIGHBOUR: 'it returns false'. Refute it at one input. -/
def hashStartsWrong : ChangeSpec := { name := "hashStarts", fn := fun _ => fun
  | [d] => { results := [.lit (.bool false)], args := [d] }
  | _ => none }
def HashStartsWrongFalsely : Prop := hashStartsRow.holds Try.pinned (OpenSpec.ofChange hashStartsWrong)

/-- 'parchmentlaw02.EncSigned': WHATEVER THE INPUT: true; the input reads as it did. -/
def encSignedSpec : ChangeSpec := { name := "encSigned", fn := fun _ => fun
  | [d1, d2] => { results := [.lit (.bool true)], args := [d1, d2] }
  | _ => none }
def encSignedRow : OpenClaim := { program := "ytfnijaiaodplgaa", sum := "f43fb98f8aeebc0d10e926c09ea77b5f8d59933de5264bf8cc7dae99a5a4234f", func := "parchment/parchmentlaw02.EncSigned", spec := "encSigned", recurses := true, apart := false }
def EncSignedSaid : Prop := encSignedRow.holds Try.pinned (OpenSpec.ofChange encSignedSpec)

/-- ITS FALSE NEIGHBOUR: 'it returns false'. Refute it at one input. -/
def encSignedWrong : ChangeSpec := { name := "encSigned", fn := fun _ => fun
  | [d1, d2] => { results := [.lit (.bool false)], args := [d1, d2] }
  | _ => none }
def EncSignedWrongFalsely : Prop := encSignedRow.holds Try.pinned (OpenSpec.ofChange encSignedWrong)

/-- 'parchmentlaw02.EncTakes': WHATEVER THE INPUT: true; the input reads as it did. -/
def encTakesSpec : ChangeSpec := { name := "encTakes", fn := fun _ => fun
  | [d] => { results := [.lit (.bool true)], args := [d] }
  | _ => none }
def encTakesRow : OpenClaim := { program := "ytfnijaiaodplgaa", sum := "f43fb98f8aeebc0d10e926c09ea77b5f8d59933de5264bf8cc7dae99a5a4234f", func := "parchment/parchmentlaw02.EncTakes", spec := "encTakes", apart := false }
def EncTakesSaid : Prop := encTakesRow.holds Try.pinned (OpenSpec.ofChange encTakesSpec)

/-- ITS FALSE NEIGHBOUR: 'it returns false'. Refute it at one input. -/
def encTakesWrong : ChangeSpec := { name := "encTakes", fn := fun _ => fun
  | [d] => { results := [.lit (.bool false)], args := [d] }
  | _ => none }
def EncTakesWrongFalsely : Prop := encTakesRow.holds Try.pinned (OpenSpec.ofChange encTakesWrong)

/-- 'parchmentlaw01.HashMixes': WHATEVER THE INPUT: true; the input reads as it did. -/
def hashMixesSpec : ChangeSpec := { name := "hashMixes", fn := fun _ => fun
  | [d1, d2] => { results := [.lit (.bool true)], args := [d1, d2] }
  | _ => none }
def hashMixesRow : OpenClaim := { program := "ytfnijaiaodplgaa", sum := "f43fb98f8aeebc0d10e926c09ea77b5f8d59933de5264bf8cc7dae99a5a4234f", func := "parchment/parchmentlaw01.HashMixes", spec := "hashMixes", apart := false }
def HashMixesSaid : Prop := hashMixesRow.holds Try.pinned (OpenSpec.ofChange hashMixesSpec)

/-- ITS FALSE NEIGHBOUR: 'it returns false'. Refute it at one input. -/
def hashMixesWrong : ChangeSpec := { name := "hashMixes", fn := fun _ => fun
  | [d1, d2] => { results := [.lit (.bool false)], args := [d1, d2] }
  | _ => none }
def HashMixesWrongFalsely : Prop := hashMixesRow.holds Try.pinned (OpenSpec.ofChange hashMixesWrong)

/-- 'parchmentlaw01.HashSums': WHATEVER THE INPUT: true; the input reads as it did. -/
def hashSumsSpec : ChangeSpec := { name := "hashSums", fn := fun _ => fun
  | [d] => { results := [.lit (.bool true)], args := [d] }
  | _ => none }
def hashSumsRow : OpenClaim := { program := "ytfnijaiaodplgaa", sum := "f43fb98f8aeebc0d10e926c09ea77b5f8d59933de5264bf8cc7dae99a5a4234f", func := "parchment/parchmentlaw01.HashSums", spec := "hashSums", apart := false }
def HashSumsSaid : Prop := hashSumsRow.holds Try.pinned (OpenSpec.ofChange hashSumsSpec)

/-- ITS FALSE NEIGHBOUR: 'it returns false'. Refute it at one input. -/
def hashSumsWrong : ChangeSpec := { name := "hashSums", fn := fun _ => fun
  | [d] => { results := [.lit (.bool false)], args := [d] }
  | _ => none }
def HashSumsWrongFalsely : Prop := hashSumsRow.holds Try.pinned (OpenSpec.ofChange hashSumsWrong)

/-- 'parchmentlaw01.HashCollides': WHATEVER THE INPUT: true; the input reads as it did. -/
def hashCollidesSpec : ChangeSpec := { name := "hashCollides", fn := fun _ => fun
  | [d1, d2] => { results := [.lit (.bool true)], args := [d1, d2] }
  | _ => none }
def hashCollidesRow : OpenClaim := { program := "ytfnijaiaodplgaa", sum := "f43fb98f8aeebc0d10e926c09ea77b5f8d59933de5264bf8cc7dae99a5a4234f", func := "parchment/parchmentlaw01.HashCollides", spec := "hashCollides", apart := false }
def HashCollidesSaid : Prop := hashCollidesRow.holds Try.pinned (OpenSpec.ofChange hashCollidesSpec)

/-- ITS FALSE NEIGHBOUR: 'it returns false'. Refute it at one input. -/
def hashCollidesWrong : ChangeSpec := { name := "hashCollides", fn := fun _ => fun
  | [d1, d2] => { results := [.lit (.bool false)], args := [d1, d2] }
  | _ => none }
def HashCollidesWrongFalsely : Prop := hashCollidesRow.holds Try.pinned (OpenSpec.ofChange hashCollidesWrong)

/-- 'parchmentlaw01.HashLeaves': WHATEVER THE INPUT: true; the input reads as it did. -/
def hashLeavesSpec : ChangeSpec := { name := "hashLeaves", fn := fun _ => fun
  | [d1, d2, d3] => { results := [.lit (.bool true)], args := [d1, d2, d3] }
  | _ => none }
def hashLeavesRow : OpenClaim := { program := "ytfnijaiaodplgaa", sum := "f43fb98f8aeebc0d10e926c09ea77b5f8d59933de5264bf8cc7dae99a5a4234f", func := "parchment/parchmentlaw01.HashLeaves", spec := "hashLeaves", apart := false }
def HashLeavesSaid : Prop := hashLeavesRow.holds Try.pinned (OpenSpec.ofChange hashLeavesSpec)

/-- ITS FALSE NEIGHBOUR: 'it returns false'. Refute it at one input. -/
def hashLeavesWrong : ChangeSpec := { name := "hashLeaves", fn := fun _ => fun
  | [d1, d2, d3] => { results := [.lit (.bool false)], args := [d1, d2, d3] }
  | _ => none }
def HashLeavesWrongFalsely : Prop := hashLeavesRow.holds Try.pinned (OpenSpec.ofChange hashLeavesWrong)

/-- 'parchmentlaw02.EncTexts': WHATEVER THE INPUT: true; the input reads as it did. -/
def encTextsSpec : ChangeSpec := { name := "encTexts", fn := fun _ => fun
  | [d1, d2, d3] => { results := [.lit (.bool true)], args := [d1, d2, d3] }
  | _ => none }
def encTextsRow : OpenClaim := { program := "ytfnijaiaodplgaa", sum := "f43fb98f8aeebc0d10e926c09ea77b5f8d59933de5264bf8cc7dae99a5a4234f", func := "parchment/parchmentlaw02.EncTexts", spec := "encTexts", recurses := true, apart := false }
def EncTextsSaid : Prop := encTextsRow.holds Try.pinned (OpenSpec.ofChange encTextsSpec)

/-- ITS FALSE NEIGHBOUR: 'it returns false'. Refute it at one input. -/
def encTextsWrong : ChangeSpec := { name := "encTexts", fn := fun _ => fun
  | [d1, d2, d3] => { results := [.lit (.bool false)], args := [d1, d2, d3] }
  | _ => none }
def EncTextsWrongFalsely : Prop := encTextsRow.holds Try.pinned (OpenSpec.ofChange encTextsWrong)

/-- 'parchmentlaw02.EncWalks': WHATEVER THE INPUT: true; the input reads as it did. -/
def encWalksSpec : ChangeSpec := { name := "encWalks", fn := fun _ => fun
  | [d1, d2] => { results := [.lit (.bool true)], args := [d1, d2] }
  | _ => none }
def encWalksRow : OpenClaim := { program := "ytfnijaiaodplgaa", sum := "f43fb98f8aeebc0d10e926c09ea77b5f8d59933de5264bf8cc7dae99a5a4234f", func := "parchment/parchmentlaw02.EncWalks", spec := "encWalks", apart := false }
def EncWalksSaid : Prop := encWalksRow.holds Try.pinned (OpenSpec.ofChange encWalksSpec)

/-- ITS FALSE NEIGHBOUR: 'it returns false'. Refute it at one input. -/
def encWalksWrong : ChangeSpec := { name := "encWalks", fn := fun _ => fun
  | [d1, d2] => { results := [.lit (.bool false)], args := [d1, d2] }
  | _ => none }
def EncWalksWrongFalsely : Prop := encWalksRow.holds Try.pinned (OpenSpec.ofChange encWalksWrong)

/-- 'parchmentlaw02.EncNone': WHATEVER THE INPUT: true; the input reads as it did. -/
def encNoneSpec : ChangeSpec := { name := "encNone", fn := fun _ => fun
  | [d] => { results := [.lit (.bool true)], args := [d] }
  | _ => none }
def encNoneRow : OpenClaim := { program := "ytfnijaiaodplgaa", sum := "f43fb98f8aeebc0d10e926c09ea77b5f8d59933de5264bf8cc7dae99a5a4234f", func := "parchment/parchmentlaw02.EncNone", spec := "encNone", apart := false }
def EncNoneSaid : Prop := encNoneRow.holds Try.pinned (OpenSpec.ofChange encNoneSpec)

/-- ITS FALSE NEIGHBOUR: 'it returns false'. Refute it at one input. -/
def encNoneWrong : ChangeSpec := { name := "encNone", fn := fun _ => fun
  | [d] => { results := [.lit (.bool false)], args := [d] }
  | _ => none }
def EncNoneWrongFalsely : Prop := encNoneRow.holds Try.pinned (OpenSpec.ofChange encNoneWrong)

/- THE SECOND FORM. 'bulk': how many values and letters a reading holds, each counted each time it is reached (what is shared counts as often as it is met; a slice's spare places count too). A statement '..UptoSaid' is the law's where the arguments, and the package variables that the reading takes, are together of bulk at most 1048576: NARROWER than '..Said'. Prove '..Said' where nothing that the law and all that it calls make is longer than what came in: it says more and counts as full. Else prove '..UptoSaid'. A law counts once. -/
mutual
def uptoBulk {H : Type} : DataW H → Nat
  | .lit (.string bytes) => bytes.length + 1
  | .lit _ => 1
  | .nil => 1
  | .ptr d => uptoBulk d + 1
  | .slice elems spare => uptoBulkAll elems + uptoBulkAll spare + 1
  | .agg parts => uptoBulkAll parts + 1
  | .iface _ d => uptoBulk d + 1
  | .map entries => uptoBulkEntries entries + 1
  | .held _ => 1
def uptoBulkAll {H : Type} : List (DataW H) → Nat
  | [] => 0
  | d :: r => uptoBulk d + uptoBulkAll r
def uptoBulkEntries {H : Type} : List (Lit × DataW H) → Nat
  | [] => 0
  | x :: r => uptoBulkEntry x + uptoBulkEntries r
def uptoBulkEntry {H : Type} : Lit × DataW H → Nat
  | (.string bytes, d) => bytes.length + uptoBulk d + 1
  | (_, d) => uptoBulk d + 1
 end
def uptoSmall : (H : Type) → List (DataW H) → Bool := fun _ ds => decide (uptoBulkAll ds ≤ 1048576)
def OpenSpec.upto (s : _root_.Go.ChangeSpec) : _root_.Go.OpenSpec := { _root_.Go.OpenSpec.ofChange s with cond := some uptoSmall }

/-- 'parchmentlaw02.EncNumbers', WHERE WHAT IT READS IS OF BULK AT MOST 1048576: true; the input reads as it did. -/
def encNumbersUptoRow : OpenClaim := { program := "ytfnijaiaodplgaa", sum := "f43fb98f8aeebc0d10e926c09ea77b5f8d59933de5264bf8cc7dae99a5a4234f", func := "parchment/parchmentlaw02.EncNumbers", spec := "encNumbers", recurses := true, apart := false, narrowed := true }
def EncNumbersUptoSaid : Prop := encNumbersUptoRow.holds Try.pinned (OpenSpec.upto encNumbersSpec)

/-- 'parchmentlaw01.HashStarts', WHERE WHAT IT READS IS OF BULK AT MOST 1048576: true; the input reads as it did. -/
def hashStartsUptoRow : OpenClaim := { program := "ytfnijaiaodplgaa", sum := "f43fb98f8aeebc0d10e926c09ea77b5f8d59933de5264bf8cc7dae99a5a4234f", func := "parchment/parchmentlaw01.HashStarts", spec := "hashStarts", apart := false, narrowed := true }
def HashStartsUptoSaid : Prop := hashStartsUptoRow.holds Try.pinned (OpenSpec.upto hashStartsSpec)

/-- 'parchmentlaw02.EncSigned', WHERE WHAT IT READS IS OF BULK AT MOST 1048576: true; the input reads as it did. -/
def encSignedUptoRow : OpenClaim := { program := "ytfnijaiaodplgaa", sum := "f43fb98f8aeebc0d10e926c09ea77b5f8d59933de5264bf8cc7dae99a5a4234f", func := "parchment/parchmentlaw02.EncSigned", spec := "encSigned", recurses := true, apart := false, narrowed := true }
def EncSignedUptoSaid : Prop := encSignedUptoRow.holds Try.pinned (OpenSpec.upto encSignedSpec)

/-- 'parchmentlaw02.EncTakes', WHERE WHAT IT READS IS OF BULK AT MOST 1048576: true; the input reads as it did. -/
def encTakesUptoRow : OpenClaim := { program := "ytfnijaiaodplgaa", sum := "f43fb98f8aeebc0d10e926c09ea77b5f8d59933de5264bf8cc7dae99a5a4234f", func := "parchment/parchmentlaw02.EncTakes", spec := "encTakes", apart := false, narrowed := true }
def EncTakesUptoSaid : Prop := encTakesUptoRow.holds Try.pinned (OpenSpec.upto encTakesSpec)

/-- 'parchmentlaw01.HashMixes', WHERE WHAT IT READS IS OF BULK AT MOST 1048576: true; the input reads as it did. -/
def hashMixesUptoRow : OpenClaim := { program := "ytfnijaiaodplgaa", sum := "f43fb98f8aeebc0d10e926c09ea77b5f8d59933de5264bf8cc7dae99a5a4234f", func := "parchment/parchmentlaw01.HashMixes", spec := "hashMixes", apart := false, narrowed := true }
def HashMixesUptoSaid : Prop := hashMixesUptoRow.holds Try.pinned (OpenSpec.upto hashMixesSpec)

/-- 'parchmentlaw01.HashSums', WHERE WHAT IT READS IS OF BULK AT MOST 1048576: true; the input reads as it did. -/
def hashSumsUptoRow : OpenClaim := { program := "ytfnijaiaodplgaa", sum := "f43fb98f8aeebc0d10e926c09ea77b5f8d59933de5264bf8cc7dae99a5a4234f", func := "parchment/parchmentlaw01.HashSums", spec := "hashSums", apart := false, narrowed := true }
def HashSumsUptoSaid : Prop := hashSumsUptoRow.holds Try.pinned (OpenSpec.upto hashSumsSpec)

/-- 'parchmentlaw01.HashCollides', WHERE WHAT IT READS IS OF BULK AT MOST 1048576: true; the input reads as it did. -/
def hashCollidesUptoRow : OpenClaim := { program := "ytfnijaiaodplgaa", sum := "f43fb98f8aeebc0d10e926c09ea77b5f8d59933de5264bf8cc7dae99a5a4234f", func := "parchment/parchmentlaw01.HashCollides", spec := "hashCollides", apart := false, narrowed := true }
def HashCollidesUptoSaid : Prop := hashCollidesUptoRow.holds Try.pinned (OpenSpec.upto hashCollidesSpec)

/-- 'parchmentlaw01.HashLeaves', WHERE WHAT IT READS IS OF BULK AT MOST 1048576: true; the input reads as it did. -/
def hashLeavesUptoRow : OpenClaim := { program := "ytfnijaiaodplgaa", sum := "f43fb98f8aeebc0d10e926c09ea77b5f8d59933de5264bf8cc7dae99a5a4234f", func := "parchment/parchmentlaw01.HashLeaves", spec := "hashLeaves", apart := false, narrowed := true }
def HashLeavesUptoSaid : Prop := hashLeavesUptoRow.holds Try.pinned (OpenSpec.upto hashLeavesSpec)

/-- 'parchmentlaw02.EncTexts', WHERE WHAT IT READS IS OF BULK AT MOST 1048576: true; the input reads as it did. -/
def encTextsUptoRow : OpenClaim := { program := "ytfnijaiaodplgaa", sum := "f43fb98f8aeebc0d10e926c09ea77b5f8d59933de5264bf8cc7dae99a5a4234f", func := "parchment/parchmentlaw02.EncTexts", spec := "encTexts", recurses := true, apart := false, narrowed := true }
def EncTextsUptoSaid : Prop := encTextsUptoRow.holds Try.pinned (OpenSpec.upto encTextsSpec)

/-- 'parchmentlaw02.EncWalks', WHERE WHAT IT READS IS OF BULK AT MOST 1048576: true; the input reads as it did. -/
def encWalksUptoRow : OpenClaim := { program := "ytfnijaiaodplgaa", sum := "f43fb98f8aeebc0d10e926c09ea77b5f8d59933de5264bf8cc7dae99a5a4234f", func := "parchment/parchmentlaw02.EncWalks", spec := "encWalks", apart := false, narrowed := true }
def EncWalksUptoSaid : Prop := encWalksUptoRow.holds Try.pinned (OpenSpec.upto encWalksSpec)

/-- 'parchmentlaw02.EncNone', WHERE WHAT IT READS IS OF BULK AT MOST 1048576: true; the input reads as it did. -/
def encNoneUptoRow : OpenClaim := { program := "ytfnijaiaodplgaa", sum := "f43fb98f8aeebc0d10e926c09ea77b5f8d59933de5264bf8cc7dae99a5a4234f", func := "parchment/parchmentlaw02.EncNone", spec := "encNone", apart := false, narrowed := true }
def EncNoneUptoSaid : Prop := encNoneUptoRow.holds Try.pinned (OpenSpec.upto encNoneSpec)

end Rows
end Go.Proofs.Ytfnijaiaodplgaa
