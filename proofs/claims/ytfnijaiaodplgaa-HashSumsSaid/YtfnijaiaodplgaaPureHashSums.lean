/- Of any text the program's digest is the reference's: each was shown to be one and the same plain function. -/
import Derived.Test.YtfnijaiaodplgaaHk
namespace Go.Proofs.Ytfnijaiaodplgaa.Pure
open Go.RowKit Go.Proofs.Ytfnijaiaodplgaa.PHsh Go.Proofs.YtfnijaiaodplgaaW.PrintWords Go.Proofs.YtfnijaiaodplgaaW.PrintLast
theorem HashSums : parchmentlaw01_HashSums.Pure := by
  intro a0 _
  obtain ⟨t, ht, hs⟩ := Dig.few a0
  unfold parchmentlaw01_HashSums.f
  rw [Dig.awake, ht, Option.bind_some, if_pos rfl, Option.bind_some, Dig.hash_f t (by omega), Option.bind_some, Option.bind_some, Dig.ref_f t (by omega), Option.bind_some, beq_self_eq_true]
end Go.Proofs.Ytfnijaiaodplgaa.Pure
