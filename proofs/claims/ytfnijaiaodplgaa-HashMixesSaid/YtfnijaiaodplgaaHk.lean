/- The laws' own words: awake, few, and the digests as they are asked. Plain Lean. -/
import Derived.Test.YtfnijaiaodplgaaPHshx2
namespace Go.Proofs.Ytfnijaiaodplgaa.Dig
open Go.RowKit Go.Proofs.Ytfnijaiaodplgaa.Sha Go.Proofs.Ytfnijaiaodplgaa.H Go.Proofs.Ytfnijaiaodplgaa.PHsh Go.Proofs.YtfnijaiaodplgaaW.PrintWords Go.Proofs.YtfnijaiaodplgaaW.PrintLast
theorem hash_f (s : ByteArray) (h : s.size < 1152921504606846976) : hash_Sum.f s = some (dig s) := if_pos h
theorem ref_f (s : ByteArray) (h : s.size < 1152921504606846976) : parchmentref01_Sum.f s = some (dig s) := if_pos h
theorem dig_abc : dig ⟨#[97, 98, 99]⟩ = ⟨#[186, 120, 22, 191, 143, 1, 207, 234, 65, 65, 64, 222, 93, 174, 34, 35, 176, 3, 97, 163, 150, 23, 122, 156, 180, 16, 255, 97, 242, 0, 21, 173]⟩ := by
  unfold dig
  have e : (⟨#[97, 98, 99]⟩ : ByteArray).toList = [97, 98, 99] := by rw [ByteArray.toList_eq]
  rw [e, sum_abc]
theorem awake : parchmentlaw01_awake.f = some true := by
  unfold parchmentlaw01_awake.f
  rw [hash_f _ (by decide), dig_abc]
  decide +kernel
theorem few (s : ByteArray) : ∃ t, parchmentlaw01_few.f s = some t ∧ t.size ≤ 400 := by
  unfold parchmentlaw01_few.f
  by_cases h : (s.size : Int) > 400
  · rw [if_pos h, if_pos (by decide), if_pos (by omega)]
    exact ⟨_, rfl, by rw [ByteArray.size_extract]; omega⟩
  · rw [if_neg h]
    exact ⟨s, rfl, by omega⟩
theorem collides (x y : ByteArray) (hx : x.size ≤ 2000) (hy : y.size ≤ 2000) : hash_Collides.f x y = some (if x.toList = y.toList then false else (dig x).toList == (dig y).toList) := by
  unfold hash_Collides.f
  by_cases h : x.toList = y.toList
  · rw [if_pos h, if_pos h]
  · rw [if_neg h, if_neg h, hash_f x (by omega), Option.bind_some, hash_f y (by omega), Option.bind_some]
end Go.Proofs.Ytfnijaiaodplgaa.Dig
