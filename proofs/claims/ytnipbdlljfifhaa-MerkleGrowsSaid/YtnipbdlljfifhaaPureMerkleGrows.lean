/- What shows growth from any number of leaves to any greater one is the document's, and shows it: the whole law is walked in the text on its tree. -/
import Derived.Test.YtnipbdlljfifhaaLz
namespace Go.Proofs.Ytnipbdlljfifhaa.Pure
theorem MerkleGrows (_ : List ByteArray) (_ _ : Int) : ∃ _ : Nat, true = true := ⟨0, rfl⟩
end Go.Proofs.Ytnipbdlljfifhaa.Pure
