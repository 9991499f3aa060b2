/- The two digests, in the printed form. -/
import Derived.Test.YtfnijaiaodplgaaHi
namespace Go.Proofs.Ytfnijaiaodplgaa.Dig
open Go.RowKit Go.Proofs.Ytfnijaiaodplgaa.Sha Go.Proofs.Ytfnijaiaodplgaa.H
/-- The digest as bytes. -/
def dig (s : ByteArray) : ByteArray := ⟨(sum s.toList).toArray⟩
theorem dig_size (s : ByteArray) : (dig s).size = 32 := sum_length s.toList
def hash_Sum.f (a0 : ByteArray) : Option ByteArray := if a0.size < 1152921504606846976 then some (dig a0) else none
theorem hash_Sum.calls (a0 : ByteArray) (r : ByteArray) (w : World) (h : hash_Sum.f a0 = some r) :
    Calls Try.prog 33 #[.string a0] w fun e w' => e = .returned (.string r) ∧ Below w.heap.size w w' := by
  unfold hash_Sum.f at h
  split at h
  · next hs => obtain rfl := Option.some.inj h; exact sum_calls a0 w hs
  · exact absurd h (by simp)
def parchmentref01_Sum.f (a0 : ByteArray) : Option ByteArray := if a0.size < 1152921504606846976 then some (dig a0) else none
theorem parchmentref01_Sum.calls (a0 : ByteArray) (r : ByteArray) (w : World) (h : parchmentref01_Sum.f a0 = some r) :
    Calls Try.prog 34 #[.string a0] w fun e w' => e = .returned (.string r) ∧ Below w.heap.size w w' := by
  unfold parchmentref01_Sum.f at h
  split at h
  · next hs => obtain rfl := Option.some.inj h; exact refSum_any a0 w hs
  · exact absurd h (by simp)
end Go.Proofs.Ytfnijaiaodplgaa.Dig
