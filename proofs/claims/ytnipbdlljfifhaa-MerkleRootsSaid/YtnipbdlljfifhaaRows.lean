/-
  No cell of these rows narrows 'for every input' (looked for: loops, veiled, ifaces, maps, wideKeys, modest, calm, conditions, laid).
  DERIVED. THE GIVEN ROWS OF THIS SEAT. 6 by the template 'for every input the law returns true; each argument reads behind the call as it read before'; 0 by the template 'total and deterministic' (their statements: YtnipbdlljfifhaaTotals.lean).
  GIVEN WITH THE SEED: the statements are not yours to turn. If you find one false, say at which input.
  Laid BY PROGRAM, IN A SANDBOX (cutbox-rows.mjs): the forced cells as the released guide's own fill.sh prints them over the translation 9be525157645f1fc… (all of the seat's roots in one cut). By AI agents, Wed Nov 11 2026. No macro, syntax, notation, axiom, sorry.
-/
import Derived.Test.YtnipbdlljfifhaaChecked
import GoSem.Claim
import GoSem.ClaimJoined
import GoSem.ClaimMapViews
import Derived.JoinedTies
import Derived.KernelRfl
namespace Go.Proofs.Ytnipbdlljfifhaa
/- THE CELL 'sum', in the pinned program and in every row, IS THE sha256 OF THE DUMP (.gsa) THAT YtnipbdlljfifhaaProg.lean LOADS. Nothing in Lean hashes anything: it is a label: what it is worth is what the hold of that sum in a sandbox is worth. -/
noncomputable def Try.pinned : Pinned := { name := "ytnipbdlljfifhaa", sum := "9be525157645f1fcf5fe9191d451cb5a173dedee01c720e9a07d6d2847446b5e", checked := Try.checked }
namespace Rows
def none {H : Type} : Left H := { results := [], args := [] }

/-- 'parchmentlaw08.MerkleVerifies': WHATEVER THE INPUT: true; the input reads as it did. -/
def merkleVerifiesSpec : ChangeSpec := { name := "merkleVerifies", fn := fun _ => fun
  | [d] => { results := [.lit (.bool true)], args := [d] }
  | _ => none }
def merkleVerifiesRow : OpenClaim := { program := "ytnipbdlljfifhaa", sum := "9be525157645f1fcf5fe9191d451cb5a173dedee01c720e9a07d6d2847446b5e", func := "parchment/parchmentlaw08.MerkleVerifies", spec := "merkleVerifies", unfollowed := true, recurses := true, apart := false }
def MerkleVerifiesSaid : Prop := merkleVerifiesRow.holds Try.pinned (OpenSpec.ofChange merkleVerifiesSpec)

/-- ITS FALSE NEIGHBOUR: 'it returns false'. Refute it at one input. -/
def merkleVerifiesWrong : ChangeSpec := { name := "merkleVerifies", fn := fun _ => fun
  | [d] => { results := [.lit (.bool false)], args := [d] }
  | _ => none }
def MerkleVerifiesWrongFalsely : Prop := merkleVerifiesRow.holds Try.pinned (OpenSpec.ofChange merkleVerifiesWrong)

/-- 'parchmentlaw08.MerkleRoots': WHATEVER THE INPUT: true; the input reads as it did. -/
def merkleRootsSpec : ChangeSpec := { name := "merkleRoots", fn := fun _ => fun
  | [d1, d2] => { results := [.lit (.bool true)], args := [d1, d2] }
  | _ => none }
def merkleRootsRow : OpenClaim := { program := "ytnipbdlljfifhaa", sum := "9be525157645f1fcf5fe9191d451cb5a173dedee01c720e9a07d6d2847446b5e", func := "parchment/parchmentlaw08.MerkleRoots", spec := "merkleRoots", unfollowed := true, recurses := true, apart := false }
def MerkleRootsSaid : Prop := merkleRootsRow.holds Try.pinned (OpenSpec.ofChange merkleRootsSpec)

/-- ITS FALSE NEIGHBOUR: 'it returns false'. Refute it at one input. -/
def merkleRootsWrong : ChangeSpec := { name := "merkleRoots", fn := fun _ => fun
  | [d1, d2] => { results := [.lit (.bool false)], args := [d1, d2] }
  | _ => none }
def MerkleRootsWrongFalsely : Prop := merkleRootsRow.holds Try.pinned (OpenSpec.ofChange merkleRootsWrong)

/-- 'parchmentlaw08.MerklePaths': WHATEVER THE INPUT: true; the input reads as it did. -/
def merklePathsSpec : ChangeSpec := { name := "merklePaths", fn := fun _ => fun
  | [d1, d2, d3] => { results := [.lit (.bool true)], args := [d1, d2, d3] }
  | _ => none }
def merklePathsRow : OpenClaim := { program := "ytnipbdlljfifhaa", sum := "9be525157645f1fcf5fe9191d451cb5a173dedee01c720e9a07d6d2847446b5e", func := "parchment/parchmentlaw08.MerklePaths", spec := "merklePaths", unfollowed := true, recurses := true, apart := false }
def MerklePathsSaid : Prop := merklePathsRow.holds Try.pinned (OpenSpec.ofChange merklePathsSpec)

/-- ITS FALSE NEIGHBOUR: 'it returns false'. Refute it at one input. -/
def merklePathsWrong : ChangeSpec := { name := "merklePaths", fn := fun _ => fun
  | [d1, d2, d3] => { results := [.lit (.bool false)], args := [d1, d2, d3] }
  | _ => none }
def MerklePathsWrongFalsely : Prop := merklePathsRow.holds Try.pinned (OpenSpec.ofChange merklePathsWrong)

/-- 'parchmentlaw08.MerkleConsists': WHATEVER THE INPUT: true; the input reads as it did. -/
def merkleConsistsSpec : ChangeSpec := { name := "merkleConsists", fn := fun _ => fun
  | [d] => { results := [.lit (.bool true)], args := [d] }
  | _ => none }
def merkleConsistsRow : OpenClaim := { program := "ytnipbdlljfifhaa", sum := "9be525157645f1fcf5fe9191d451cb5a173dedee01c720e9a07d6d2847446b5e", func := "parchment/parchmentlaw08.MerkleConsists", spec := "merkleConsists", unfollowed := true, recurses := true, apart := false }
def MerkleConsistsSaid : Prop := merkleConsistsRow.holds Try.pinned (OpenSpec.ofChange merkleConsistsSpec)

/-- ITS FALSE NEIGHBOUR: 'it returns false'. Refute it at one input. -/
def merkleConsistsWrong : ChangeSpec := { name := "merkleConsists", fn := fun _ => fun
  | [d] => { results := [.lit (.bool false)], args := [d] }
  | _ => none }
def MerkleConsistsWrongFalsely : Prop := merkleConsistsRow.holds Try.pinned (OpenSpec.ofChange merkleConsistsWrong)

/-- 'parchmentlaw08.MerkleGrows': WHATEVER THE INPUT: true; the input reads as it did. -/
def merkleGrowsSpec : ChangeSpec := { name := "merkleGrows", fn := fun _ => fun
  | [d1, d2, d3] => { results := [.lit (.bool true)], args := [d1, d2, d3] }
  | _ => none }
def merkleGrowsRow : OpenClaim := { program := "ytnipbdlljfifhaa", sum := "9be525157645f1fcf5fe9191d451cb5a173dedee01c720e9a07d6d2847446b5e", func := "parchment/parchmentlaw08.MerkleGrows", spec := "merkleGrows", unfollowed := true, recurses := true, apart := false }
def MerkleGrowsSaid : Prop := merkleGrowsRow.holds Try.pinned (OpenSpec.ofChange merkleGrowsSpec)

/-- ITS FALSE NEIGHBOUR: 'it returns false'. Refute it at one input. -/
def merkleGrowsWrong : ChangeSpec := { name := "merkleGrows", fn := fun _ => fun
  | [d1, d2, d3] => { results := [.lit (.bool false)], args := [d1, d2, d3] }
  | _ => none }
def MerkleGrowsWrongFalsely : Prop := merkleGrowsRow.holds Try.pinned (OpenSpec.ofChange merkleGrowsWrong)

/-- 'parchmentlaw08.MerkleChains': WHATEVER THE INPUT: true; the input reads as it did. -/
def merkleChainsSpec : ChangeSpec := { name := "merkleChains", fn := fun _ => fun
  | [d1, d2, d3] => { results := [.lit (.bool true)], args := [d1, d2, d3] }
  | _ => none }
def merkleChainsRow : OpenClaim := { program := "ytnipbdlljfifhaa", sum := "9be525157645f1fcf5fe9191d451cb5a173dedee01c720e9a07d6d2847446b5e", func := "parchment/parchmentlaw08.MerkleChains", spec := "merkleChains", unfollowed := true, recurses := true, apart := false }
def MerkleChainsSaid : Prop := merkleChainsRow.holds Try.pinned (OpenSpec.ofChange merkleChainsSpec)

/-- ITS FALSE NEIGHBOUR: 'it returns false'. Refute it at one input. -/
def merkleChainsWrong : ChangeSpec := { name := "merkleChains", fn := fun _ => fun
  | [d1, d2, d3] => { results := [.lit (.bool false)], args := [d1, d2, d3] }
  | _ => none }
def MerkleChainsWrongFalsely : Prop := merkleChainsRow.holds Try.pinned (OpenSpec.ofChange merkleChainsWrong)

/- THE SECOND FORM. 'bulk': how many values and letters a reading holds, each counted each time it is reached (what is shared counts as often as it is met; a slice's spare places count too). A statement '..UptoSaid' is the law's where the arguments, and the package variables that the reading takes, are together of bulk at most 1048576: NARROWER than '..Said'. Prove '..Said' where nothing that the law and all that it calls make is longer than what came in: it says more and counts as full. Else prove '..UptoSaid'. A law counts once. -/
mutual
def uptoBulk {H : Type} : DataW H → Nat
  | .lit (.string bytes) => bytes.length + 1
  | .lit _ => 1
  | .nil => 1
  | .ptr d => uptoBulk d + 1
  | .slice elems spare => uptoBulkAll elems + uptoBulkAll spare + 1
  | .agg parts => uptoBulkAll parts + 1
  | .iface _ d => uptoBulk d + 1
  | .map entries => uptoBulkEntries entries + 1
  | .held _ => 1
def uptoBulkAll {H : Type} : List (DataW H) → Nat
  | [] => 0
  | d :: r => uptoBulk d + uptoBulkAll r
def uptoBulkEntries {H : Type} : List (Lit × DataW H) → Nat
  | [] => 0
  | x :: r => uptoBulkEntry x + uptoBulkEntries r
def uptoBulkEntry {H : Type} : Lit × DataW H → Nat
  | (.string bytes, d) => bytes.length + uptoBulk d + 1
  | (_, d) => uptoBulk d + 1
 end
def uptoSmall : (H : Type) → List (DataW H) → Bool := fun _ ds => decide (uptoBulkAll ds ≤ 1048576)
def OpenSpec.upto (s : _root_.Go.ChangeSpec) : _root_.Go.OpenSpec := { _root_.Go.OpenSpec.ofChange s with cond := some uptoSmall }

/-- 'parchmentlaw08.MerkleVerifies', WHERE WHAT IT READS IS OF BULK AT MOST 1048576: true; the input reads as it did. -/
def merkleVerifiesUptoRow : OpenClaim := { program := "ytnipbdlljfifhaa", sum := "9be525157645f1fcf5fe9191d451cb5a173dedee01c720e9a07d6d2847446b5e", func := "parchment/parchmentlaw08.MerkleVerifies", spec := "merkleVerifies", unfollowed := true, recurses := true, apart := false, narrowed := true }
def MerkleVerifiesUptoSaid : Prop := merkleVerifiesUptoRow.holds Try.pinned (OpenSpec.upto merkleVerifiesSpec)

/-- 'parchmentlaw08.MerkleRoots', WHERE WHAT IT READS IS OF BULK AT MOST 1048576: true; the input reads as it did. -/
def merkleRootsUptoRow : OpenClaim := { program := "ytnipbdlljfifhaa", sum := "9be525157645f1fcf5fe9191d451cb5a173dedee01c720e9a07d6d2847446b5e", func := "parchment/parchmentlaw08.MerkleRoots", spec := "merkleRoots", unfollowed := true, recurses := true, apart := false, narrowed := true }
def MerkleRootsUptoSaid : Prop := merkleRootsUptoRow.holds Try.pinned (OpenSpec.upto merkleRootsSpec)

/-- 'parchmentlaw08.MerklePaths', WHERE WHAT IT READS IS OF BULK AT MOST 1048576: true; the input reads as it did. -/
def merklePathsUptoRow : OpenClaim := { program := "ytnipbdlljfifhaa", sum := "9be525157645f1fcf5fe9191d451cb5a173dedee01c720e9a07d6d2847446b5e", func := "parchment/parchmentlaw08.MerklePaths", spec := "merklePaths", unfollowed := true, recurses := true, apart := false, narrowed := true }
def MerklePathsUptoSaid : Prop := merklePathsUptoRow.holds Try.pinned (OpenSpec.upto merklePathsSpec)

/-- 'parchmentlaw08.MerkleConsists', WHERE WHAT IT READS IS OF BULK AT MOST 1048576: true; the input reads as it did. -/
def merkleConsistsUptoRow : OpenClaim := { program := "ytnipbdlljfifhaa", sum := "9be525157645f1fcf5fe9191d451cb5a173dedee01c720e9a07d6d2847446b5e", func := "parchment/parchmentlaw08.MerkleConsists", spec := "merkleConsists", unfollowed := true, recurses := true, apart := false, narrowed := true }
def MerkleConsistsUptoSaid : Prop := merkleConsistsUptoRow.holds Try.pinned (OpenSpec.upto merkleConsistsSpec)

/-- 'parchmentlaw08.MerkleGrows', WHERE WHAT IT READS IS OF BULK AT MOST 1048576: true; the input reads as it did. -/
def merkleGrowsUptoRow : OpenClaim := { program := "ytnipbdlljfifhaa", sum := "9be525157645f1fcf5fe9191d451cb5a173dedee01c720e9a07d6d2847446b5e", func := "parchment/parchmentlaw08.MerkleGrows", spec := "merkleGrows", unfollowed := true, recurses := true, apart := false, narrowed := true }
def MerkleGrowsUptoSaid : Prop := merkleGrowsUptoRow.holds Try.pinned (OpenSpec.upto merkleGrowsSpec)

/-- 'parchmentlaw08.MerkleChains', WHERE WHAT IT READS IS OF BULK AT MOST 1048576: true; the input reads as it did. -/
def merkleChainsUptoRow : OpenClaim := { program := "ytnipbdlljfifhaa", sum := "9be525157645f1fcf5fe9191d451cb5a173dedee01c720e9a07d6d2847446b5e", func := "parchment/parchmentlaw08.MerkleChains", spec := "merkleChains", unfollowed := true, recurses := true, apart := false, narrowed := true }
def MerkleChainsUptoSaid : Prop := merkleChainsUptoRow.holds Try.pinned (OpenSpec.upto merkleChainsSpec)

end Rows
end Go.Proofs.Ytnipbdlljfifhaa
