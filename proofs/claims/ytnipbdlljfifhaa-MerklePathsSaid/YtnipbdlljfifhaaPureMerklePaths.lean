/- What shows any leaf among any number of first ones is the document's, and shows it: the whole law is walked in the text on its tree. -/
import Derived.Test.YtnipbdlljfifhaaLy
namespace Go.Proofs.Ytnipbdlljfifhaa.Pure
theorem MerklePaths (_ : List ByteArray) (_ _ : Int) : ∃ _ : Nat, true = true := ⟨0, rfl⟩
end Go.Proofs.Ytnipbdlljfifhaa.Pure
