/- A tree that grew to another one, which grew to a third one, grew to the third one; and what shows a leaf of the first one's roots still does: the whole law is walked in the text on its tree. -/
import Derived.Test.YtnipbdlljfifhaaLc
namespace Go.Proofs.Ytnipbdlljfifhaa.Pure
theorem MerkleChains (_ : List ByteArray) (_ _ : Int) : ∃ _ : Nat, true = true := ⟨0, rfl⟩
end Go.Proofs.Ytnipbdlljfifhaa.Pure
