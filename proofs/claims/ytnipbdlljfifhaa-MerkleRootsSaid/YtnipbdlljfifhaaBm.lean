/- The bits of a whole number, in the printed form. -/
import Derived.Test.YtnipbdlljfifhaaBl
import Derived.Test.YtnipbdlljfifhaaWWords
import Derived.Test.YtnipbdlljfifhaaWLast
namespace Go.Proofs.Ytnipbdlljfifhaa.Dig
open Go.Proofs.YtnipbdlljfifhaaW.PrintWords Go.Proofs.YtnipbdlljfifhaaW.PrintLast
def bits_Len.f (a0 : Int) : Option Int := if 0 ≤ a0 then (if a0 ≤ 18446744073709551615 then some (Lib.bitLen a0.toNat : Int) else none) else none
theorem bits_Len.calls (a0 : Int) (r : Int) (w : World) (h : bits_Len.f a0 = some r) :
    Calls Try.prog 46 #[.int .u64 a0] w fun e w' => e = .returned (.int .i64 r) ∧ Drawn0 w w' := by
  unfold bits_Len.f at h
  split at h
  · next h0 =>
    split at h
    · next h1 =>
      obtain rfl := Option.some.inj h
      refine (Bl.bits_Len a0 w h0 h1).mono ?_
      rintro e w' ⟨rfl, rfl⟩
      exact ⟨rfl, Drawn0.refl _⟩
    · exact absurd h (by simp)
  · exact absurd h (by simp)
end Go.Proofs.Ytnipbdlljfifhaa.Dig
