/- A collision is two unlike texts of one digest, and nothing else. -/
import Derived.Test.YtfnijaiaodplgaaHk
namespace Go.Proofs.Ytfnijaiaodplgaa.Pure
open Go.RowKit Go.Proofs.Ytfnijaiaodplgaa.PHsh Go.Proofs.YtfnijaiaodplgaaW.PrintWords Go.Proofs.YtfnijaiaodplgaaW.PrintLast
theorem HashCollides : parchmentlaw01_HashCollides.Pure := by
  intro a0 a1 _ _
  obtain ⟨x, hx, hxs⟩ := Dig.few a0
  obtain ⟨y, hy, hys⟩ := Dig.few a1
  unfold parchmentlaw01_HashCollides.f
  rw [hx, Option.bind_some, hy, Option.bind_some, Dig.awake, Option.bind_some, if_pos rfl, Dig.collides x y (by omega) (by omega), Option.bind_some, Dig.collides x x (by omega) (by omega), if_pos rfl]
  by_cases h : x.toList = y.toList
  · rw [if_pos h, if_pos h]; rfl
  · rw [if_neg h, if_neg h, Dig.ref_f x (by omega), Option.bind_some, Dig.ref_f y (by omega), Option.bind_some, if_pos (by rw [beq_self_eq_true])]; rfl
end Go.Proofs.Ytfnijaiaodplgaa.Pure
