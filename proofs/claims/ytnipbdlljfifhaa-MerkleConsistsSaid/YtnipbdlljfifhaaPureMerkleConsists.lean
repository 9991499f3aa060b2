/- Whether any way shows any growth, or why not: the program says what the reference says. -/
import Derived.Test.YtnipbdlljfifhaaPMlx3
import Derived.Test.YtnipbdlljfifhaaMc
namespace Go.Proofs.Ytnipbdlljfifhaa.Pure
open Go.RowKit Go.Proofs.Ytnipbdlljfifhaa.M
theorem MerkleConsists (root leaf : ByteArray) (m n : Int) (l : List ByteArray) : ∃ k, PMl.parchmentlaw08_MerkleConsists.f k root leaf m n l = some true := by
  refine ⟨4294968001, ?_⟩
  unfold PMl.parchmentlaw08_MerkleConsists.f
  by_cases h : (l.length : Int) > 65
  · obtain ⟨r, h1, h2⟩ := consistent_eq 4294968001 (by omega) root leaf m n (l.take 65)
    rw [if_pos h, if_pos (by omega), show Dig.law_awake.f = some true from rfl, Option.bind_some, if_pos rfl, h1, Option.bind_some, h2, Option.bind_some, beq_self_eq_true]
  · obtain ⟨r, h1, h2⟩ := consistent_eq 4294968001 (by omega) root leaf m n l
    rw [if_neg h, show Dig.law_awake.f = some true from rfl, Option.bind_some, if_pos rfl, h1, Option.bind_some, h2, Option.bind_some, beq_self_eq_true]
end Go.Proofs.Ytnipbdlljfifhaa.Pure
