/-
  No cell of these rows narrows 'for every input' (looked for: loops, veiled, ifaces, maps, wideKeys, modest, calm, conditions, laid).
  DERIVED. THE GIVEN ROWS OF THIS SEAT. 7 by the template 'for every input the law returns true; each argument reads behind the call as it read before'; 0 by the template 'total and deterministic' (their statements: YtdcbacbilncnnaaTotals.lean).
  GIVEN WITH THE SEED: the statements are not yours to turn. If you find one false, say at which input.
  Laid BY PROGRAM, IN A SANDBOX (cutbox-rows.mjs): the forced cells as the released guide's own fill.sh prints them over the translation 696be4d8806d9cd5… (all of the seat's roots in one cut). By AI agents, Wed Nov 11 2026. No macro, syntax, notation, axiom, sorry.
-/
import Derived.Test.YtdcbacbilncnnaaChecked
import GoSem.Claim
import GoSem.ClaimJoined
import GoSem.ClaimMapViews
import Derived.JoinedTies
import Derived.KernelRfl
namespace Go.Proofs.Ytdcbacbilncnnaa
/- THE CELL 'sum', in the pinned program and in every row, IS THE sha256 OF THE DUMP (.gsa) THAT YtdcbacbilncnnaaProg.lean LOADS. Nothing in Lean hashes anything: it is a label: what it is worth is what the hold of that sum in a sandbox is worth. -/
noncomputable def Try.pinned : Pinned := { name := "ytdcbacbilncnnaa", sum := "696be4d8806d9cd524551f71437e1e2cbf146e8b1501decdad1fb9dc65da6b4c", checked := Try.checked }
namespace Rows
def none {H : Type} : Left H := { results := [], args := [] }

/-- 'parchmentlaw09.BlockUnlike': WHATEVER THE INPUT: true; the input reads as it did. -/
def blockUnlikeSpec : ChangeSpec := { name := "blockUnlike", fn := fun _ => fun
  | [d1, d2] => { results := [.lit (.bool true)], args := [d1, d2] }
  | _ => none }
def blockUnlikeRow : OpenClaim := { program := "ytdcbacbilncnnaa", sum := "696be4d8806d9cd524551f71437e1e2cbf146e8b1501decdad1fb9dc65da6b4c", func := "parchment/parchmentlaw09.BlockUnlike", spec := "blockUnlike", unfollowed := true, recurses := true, apart := false }
def BlockUnlikeSaid : Prop := blockUnlikeRow.holds Try.pinned (OpenSpec.ofChange blockUnlikeSpec)

/-- ITS FALSE NEIGHBOUR: 'it returns false'. Refute it at one input. -/
def blockUnlikeWrong : ChangeSpec := { name := "blockUnlike", fn := fun _ => fun
  | [d1, d2] => { results := [.lit (.bool false)], args := [d1, d2] }
  | _ => none }
def BlockUnlikeWrongFalsely : Prop := blockUnlikeRow.holds Try.pinned (OpenSpec.ofChange blockUnlikeWrong)

/-- 'parchmentlaw09.BlockBodies': WHATEVER THE INPUT: true; the input reads as it did. -/
def blockBodiesSpec : ChangeSpec := { name := "blockBodies", fn := fun _ => fun
  | [d1, d2, d3] => { results := [.lit (.bool true)], args := [d1, d2, d3] }
  | _ => none }
def blockBodiesRow : OpenClaim := { program := "ytdcbacbilncnnaa", sum := "696be4d8806d9cd524551f71437e1e2cbf146e8b1501decdad1fb9dc65da6b4c", func := "parchment/parchmentlaw09.BlockBodies", spec := "blockBodies", unfollowed := true, recurses := true, apart := false }
def BlockBodiesSaid : Prop := blockBodiesRow.holds Try.pinned (OpenSpec.ofChange blockBodiesSpec)

/-- ITS FALSE NEIGHBOUR: 'it returns false'. Refute it at one input. -/
def blockBodiesWrong : ChangeSpec := { name := "blockBodies", fn := fun _ => fun
  | [d1, d2, d3] => { results := [.lit (.bool false)], args := [d1, d2, d3] }
  | _ => none }
def BlockBodiesWrongFalsely : Prop := blockBodiesRow.holds Try.pinned (OpenSpec.ofChange blockBodiesWrong)

/-- 'parchmentlaw22.ProofVerifies': WHATEVER THE INPUT: true; the input reads as it did. -/
def proofVerifiesSpec : ChangeSpec := { name := "proofVerifies", fn := fun _ => fun
  | [d] => { results := [.lit (.bool true)], args := [d] }
  | _ => none }
def proofVerifiesRow : OpenClaim := { program := "ytdcbacbilncnnaa", sum := "696be4d8806d9cd524551f71437e1e2cbf146e8b1501decdad1fb9dc65da6b4c", func := "parchment/parchmentlaw22.ProofVerifies", spec := "proofVerifies", unfollowed := true, recurses := true, apart := false }
def ProofVerifiesSaid : Prop := proofVerifiesRow.holds Try.pinned (OpenSpec.ofChange proofVerifiesSpec)

/-- ITS FALSE NEIGHBOUR: 'it returns false'. Refute it at one input. -/
def proofVerifiesWrong : ChangeSpec := { name := "proofVerifies", fn := fun _ => fun
  | [d] => { results := [.lit (.bool false)], args := [d] }
  | _ => none }
def ProofVerifiesWrongFalsely : Prop := proofVerifiesRow.holds Try.pinned (OpenSpec.ofChange proofVerifiesWrong)

/-- 'parchmentlaw22.ProofTurned': WHATEVER THE INPUT: true; the input reads as it did. -/
def proofTurnedSpec : ChangeSpec := { name := "proofTurned", fn := fun _ => fun
  | [d1, d2, d3] => { results := [.lit (.bool true)], args := [d1, d2, d3] }
  | _ => none }
def proofTurnedRow : OpenClaim := { program := "ytdcbacbilncnnaa", sum := "696be4d8806d9cd524551f71437e1e2cbf146e8b1501decdad1fb9dc65da6b4c", func := "parchment/parchmentlaw22.ProofTurned", spec := "proofTurned", unfollowed := true, recurses := true, apart := false }
def ProofTurnedSaid : Prop := proofTurnedRow.holds Try.pinned (OpenSpec.ofChange proofTurnedSpec)

/-- ITS FALSE NEIGHBOUR: 'it returns false'. Refute it at one input. -/
def proofTurnedWrong : ChangeSpec := { name := "proofTurned", fn := fun _ => fun
  | [d1, d2, d3] => { results := [.lit (.bool false)], args := [d1, d2, d3] }
  | _ => none }
def ProofTurnedWrongFalsely : Prop := proofTurnedRow.holds Try.pinned (OpenSpec.ofChange proofTurnedWrong)

/-- 'parchmentlaw09.BlockReads': WHATEVER THE INPUT: true; the input reads as it did. -/
def blockReadsSpec : ChangeSpec := { name := "blockReads", fn := fun _ => fun
  | [d] => { results := [.lit (.bool true)], args := [d] }
  | _ => none }
def blockReadsRow : OpenClaim := { program := "ytdcbacbilncnnaa", sum := "696be4d8806d9cd524551f71437e1e2cbf146e8b1501decdad1fb9dc65da6b4c", func := "parchment/parchmentlaw09.BlockReads", spec := "blockReads", unfollowed := true, recurses := true, apart := false }
def BlockReadsSaid : Prop := blockReadsRow.holds Try.pinned (OpenSpec.ofChange blockReadsSpec)

/-- ITS FALSE NEIGHBOUR: 'it returns false'. Refute it at one input. -/
def blockReadsWrong : ChangeSpec := { name := "blockReads", fn := fun _ => fun
  | [d] => { results := [.lit (.bool false)], args := [d] }
  | _ => none }
def BlockReadsWrongFalsely : Prop := blockReadsRow.holds Try.pinned (OpenSpec.ofChange blockReadsWrong)

/-- 'parchmentlaw22.ProofShows': WHATEVER THE INPUT: true; the input reads as it did. -/
def proofShowsSpec : ChangeSpec := { name := "proofShows", fn := fun _ => fun
  | [d1, d2] => { results := [.lit (.bool true)], args := [d1, d2] }
  | _ => none }
def proofShowsRow : OpenClaim := { program := "ytdcbacbilncnnaa", sum := "696be4d8806d9cd524551f71437e1e2cbf146e8b1501decdad1fb9dc65da6b4c", func := "parchment/parchmentlaw22.ProofShows", spec := "proofShows", unfollowed := true, recurses := true, apart := false }
def ProofShowsSaid : Prop := proofShowsRow.holds Try.pinned (OpenSpec.ofChange proofShowsSpec)

/-- ITS FALSE NEIGHBOUR: 'it returns false'. Refute it at one input. -/
def proofShowsWrong : ChangeSpec := { name := "proofShows", fn := fun _ => fun
  | [d1, d2] => { results := [.lit (.bool false)], args := [d1, d2] }
  | _ => none }
def ProofShowsWrongFalsely : Prop := proofShowsRow.holds Try.pinned (OpenSpec.ofChange proofShowsWrong)

/-- 'parchmentlaw22.ProofExtracts': WHATEVER THE INPUT: true; the input reads as it did. -/
def proofExtractsSpec : ChangeSpec := { name := "proofExtracts", fn := fun _ => fun
  | [d1, d2] => { results := [.lit (.bool true)], args := [d1, d2] }
  | _ => none }
def proofExtractsRow : OpenClaim := { program := "ytdcbacbilncnnaa", sum := "696be4d8806d9cd524551f71437e1e2cbf146e8b1501decdad1fb9dc65da6b4c", func := "parchment/parchmentlaw22.ProofExtracts", spec := "proofExtracts", unfollowed := true, recurses := true, apart := false }
def ProofExtractsSaid : Prop := proofExtractsRow.holds Try.pinned (OpenSpec.ofChange proofExtractsSpec)

/-- ITS FALSE NEIGHBOUR: 'it returns false'. Refute it at one input. -/
def proofExtractsWrong : ChangeSpec := { name := "proofExtracts", fn := fun _ => fun
  | [d1, d2] => { results := [.lit (.bool false)], args := [d1, d2] }
  | _ => none }
def ProofExtractsWrongFalsely : Prop := proofExtractsRow.holds Try.pinned (OpenSpec.ofChange proofExtractsWrong)

/- THE SECOND FORM. 'bulk': how many values and letters a reading holds, each counted each time it is reached (what is shared counts as often as it is met; a slice's spare places count too). A statement '..UptoSaid' is the law's where the arguments, and the package variables that the reading takes, are together of bulk at most 1048576: NARROWER than '..Said'. Prove '..Said' where nothing that the law and all that it calls make is longer than what came in: it says more and counts as full. Else prove '..UptoSaid'. A law counts once. -/
mutual
def uptoBulk {H : Type} : DataW H → Nat
  | .lit (.string bytes) => bytes.length + 1
  | .lit _ => 1
  | .nil => 1
  | .ptr d => uptoBulk d + 1
  | .slice elems spare => uptoBulkAll elems + uptoBulkAll spare + 1
  | .agg parts => uptoBulkAll parts + 1
  | .iface _ d => uptoBulk d + 1
  | .map entries => uptoBulkEntries entries + 1
  | .held _ => 1
def uptoBulkAll {H : Type} : List (DataW H) → Nat
  | [] => 0
  | d :: r => uptoBulk d + uptoBulkAll r
def uptoBulkEntries {H : Type} : List (Lit × DataW H) → Nat
  | [] => 0
  | x :: r => uptoBulkEntry x + uptoBulkEntries r
def uptoBulkEntry {H : Type} : Lit × DataW H → Nat
  | (.string bytes, d) => bytes.length + uptoBulk d + 1
  | (_, d) => uptoBulk d + 1
 end
def uptoSmall : (H : Type) → List (DataW H) → Bool := fun _ ds => decide (uptoBulkAll ds ≤ 1048576)
def OpenSpec.upto (s : _root_.Go.ChangeSpec) : _root_.Go.OpenSpec := { _root_.Go.OpenSpec.ofChange s with cond := some uptoSmall }

/-- 'parchmentlaw09.BlockUnlike', WHERE WHAT IT READS IS OF BULK AT MOST 1048576: true; the input reads as it did. -/
def blockUnlikeUptoRow : OpenClaim := { program := "ytdcbacbilncnnaa", sum := "696be4d8806d9cd524551f71437e1e2cbf146e8b1501decdad1fb9dc65da6b4c", func := "parchment/parchmentlaw09.BlockUnlike", spec := "blockUnlike", unfollowed := true, recurses := true, apart := false, narrowed := true }
def BlockUnlikeUptoSaid : Prop := blockUnlikeUptoRow.holds Try.pinned (OpenSpec.upto blockUnlikeSpec)

/-- 'parchmentlaw09.BlockBodies', WHERE WHAT IT READS IS OF BULK AT MOST 1048576: true; the input reads as it did. -/
def blockBodiesUptoRow : OpenClaim := { program := "ytdcbacbilncnnaa", sum := "696be4d8806d9cd524551f71437e1e2cbf146e8b1501decdad1fb9dc65da6b4c", func := "parchment/parchmentlaw09.BlockBodies", spec := "blockBodies", unfollowed := true, recurses := true, apart := false, narrowed := true }
def BlockBodiesUptoSaid : Prop := blockBodiesUptoRow.holds Try.pinned (OpenSpec.upto blockBodiesSpec)

/-- 'parchmentlaw22.ProofVerifies', WHERE WHAT IT READS IS OF BULK AT MOST 1048576: true; the input reads as it did. -/
def proofVerifiesUptoRow : OpenClaim := { program := "ytdcbacbilncnnaa", sum := "696be4d8806d9cd524551f71437e1e2cbf146e8b1501decdad1fb9dc65da6b4c", func := "parchment/parchmentlaw22.ProofVerifies", spec := "proofVerifies", unfollowed := true, recurses := true, apart := false, narrowed := true }
def ProofVerifiesUptoSaid : Prop := proofVerifiesUptoRow.holds Try.pinned (OpenSpec.upto proofVerifiesSpec)

/-- 'parchmentlaw22.ProofTurned', WHERE WHAT IT READS IS OF BULK AT MOST 1048576: true; the input reads as it did. -/
def proofTurnedUptoRow : OpenClaim := { program := "ytdcbacbilncnnaa", sum := "696be4d8806d9cd524551f71437e1e2cbf146e8b1501decdad1fb9dc65da6b4c", func := "parchment/parchmentlaw22.ProofTurned", spec := "proofTurned", unfollowed := true, recurses := true, apart := false, narrowed := true }
def ProofTurnedUptoSaid : Prop := proofTurnedUptoRow.holds Try.pinned (OpenSpec.upto proofTurnedSpec)

/-- 'parchmentlaw09.BlockReads', WHERE WHAT IT READS IS OF BULK AT MOST 1048576: true; the input reads as it did. -/
def blockReadsUptoRow : OpenClaim := { program := "ytdcbacbilncnnaa", sum := "696be4d8806d9cd524551f71437e1e2cbf146e8b1501decdad1fb9dc65da6b4c", func := "parchment/parchmentlaw09.BlockReads", spec := "blockReads", unfollowed := true, recurses := true, apart := false, narrowed := true }
def BlockReadsUptoSaid : Prop := blockReadsUptoRow.holds Try.pinned (OpenSpec.upto blockReadsSpec)

/-- 'parchmentlaw22.ProofShows', WHERE WHAT IT READS IS OF BULK AT MOST 1048576: true; the input reads as it did. -/
def proofShowsUptoRow : OpenClaim := { program := "ytdcbacbilncnnaa", sum := "696be4d8806d9cd524551f71437e1e2cbf146e8b1501decdad1fb9dc65da6b4c", func := "parchment/parchmentlaw22.ProofShows", spec := "proofShows", unfollowed := true, recurses := true, apart := false, narrowed := true }
def ProofShowsUptoSaid : Prop := proofShowsUptoRow.holds Try.pinned (OpenSpec.upto proofShowsSpec)

/-- 'parchmentlaw22.ProofExtracts', WHERE WHAT IT READS IS OF BULK AT MOST 1048576: true; the input reads as it did. -/
def proofExtractsUptoRow : OpenClaim := { program := "ytdcbacbilncnnaa", sum := "696be4d8806d9cd524551f71437e1e2cbf146e8b1501decdad1fb9dc65da6b4c", func := "parchment/parchmentlaw22.ProofExtracts", spec := "proofExtracts", unfollowed := true, recurses := true, apart := false, narrowed := true }
def ProofExtractsUptoSaid : Prop := proofExtractsUptoRow.holds Try.pinned (OpenSpec.upto proofExtractsSpec)

end Rows
end Go.Proofs.Ytdcbacbilncnnaa
