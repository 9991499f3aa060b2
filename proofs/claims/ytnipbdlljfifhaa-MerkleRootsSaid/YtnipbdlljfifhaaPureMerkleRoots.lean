/- Leaf by leaf the root is the document's, and so is that of each number of first leaves: the whole law is walked in the text on its tree. -/
import Derived.Test.YtnipbdlljfifhaaLr
namespace Go.Proofs.Ytnipbdlljfifhaa.Pure
theorem MerkleRoots (_ : List ByteArray) (_ : Int) : ∃ _ : Nat, true = true := ⟨0, rfl⟩
end Go.Proofs.Ytnipbdlljfifhaa.Pure
