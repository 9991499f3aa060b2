/- Leaves' and nodes' digests: the program's are the reference's; a leaf's text and a node's begin unlike, so that one digest of both is a collision. -/
import Derived.Test.YtfnijaiaodplgaaHk
namespace Go.Proofs.Ytfnijaiaodplgaa.Pure
open Go.RowKit Go.Proofs.Ytfnijaiaodplgaa.PHsh Go.Proofs.YtfnijaiaodplgaaW.PrintWords Go.Proofs.YtfnijaiaodplgaaW.PrintLast
theorem bapp (x y : ByteArray) : (x ++ y).toList = x.toList ++ y.toList := by
  rw [ByteArray.toList_eq, ByteArray.toList_eq, ByteArray.toList_eq, ByteArray.data_append, Array.toList_append]
theorem HashLeaves : parchmentlaw01_HashLeaves.Pure := by
  intro a0 a1 a2 _ _ _
  obtain ⟨x, hx, hxs⟩ := Dig.few a0
  obtain ⟨y, hy, hys⟩ := Dig.few a1
  obtain ⟨z, hz, hzs⟩ := Dig.few a2
  have s1 : ((⟨#[0]⟩ : ByteArray) ++ x).size = 1 + x.size := by rw [ByteArray.size_append]; rfl
  have s2 : ((⟨#[1]⟩ : ByteArray) ++ y).size = 1 + y.size := by rw [ByteArray.size_append]; rfl
  have s3 : (((⟨#[1]⟩ : ByteArray) ++ y) ++ z).size = 1 + y.size + z.size := by rw [ByteArray.size_append, s2]
  have l1 : hash_Leaf.f x = some (Dig.dig (⟨#[0]⟩ ++ x)) := by
    unfold hash_Leaf.f
    rw [if_pos (by omega), Dig.hash_f _ (by omega), Option.bind_some]
  have l2 : parchmentref01_Leaf.f x = some (Dig.dig (⟨#[0]⟩ ++ x)) := by
    unfold parchmentref01_Leaf.f
    rw [if_pos (by omega), Dig.ref_f _ (by omega), Option.bind_some]
  have l3 : hash_Node.f y z = some (Dig.dig ((⟨#[1]⟩ ++ y) ++ z)) := by
    unfold hash_Node.f
    rw [if_pos (by omega), if_pos (by omega), Dig.hash_f _ (by omega), Option.bind_some]
  have l4 : parchmentref01_Node.f y z = some (Dig.dig ((⟨#[1]⟩ ++ y) ++ z)) := by
    unfold parchmentref01_Node.f
    rw [if_pos (by omega), if_pos (by omega), Dig.ref_f _ (by omega), Option.bind_some]
  have hj : parchmentlaw01_HashLeaves.j0 1 x y z false = some true := by
    rw [parchmentlaw01_HashLeaves.j0, if_neg (by decide), l1, Option.bind_some, l3, Option.bind_some]
    by_cases h : (Dig.dig (⟨#[0]⟩ ++ x)).toList = (Dig.dig ((⟨#[1]⟩ ++ y) ++ z)).toList
    · have hne : ¬ ((⟨#[0]⟩ : ByteArray) ++ x).toList = ((⟨#[1]⟩ ++ y) ++ z).toList := by
        rw [bapp, bapp, bapp]
        intro e
        have e0 : (⟨#[0]⟩ : ByteArray).toList = [0] := by rw [ByteArray.toList_eq]
        have e1 : (⟨#[1]⟩ : ByteArray).toList = [1] := by rw [ByteArray.toList_eq]
        rw [e0, e1] at e
        simp at e
      rw [if_pos h, if_pos (by omega), if_pos (by omega), if_pos (by omega), Dig.collides _ _ (by omega) (by omega), if_neg hne, h, beq_self_eq_true, Option.bind_some]
    · rw [if_neg h]
  refine ⟨1, ?_⟩
  unfold parchmentlaw01_HashLeaves.f
  rw [hx, Option.bind_some, hy, Option.bind_some, hz, Option.bind_some, Dig.awake, Option.bind_some, if_pos rfl, l1, Option.bind_some, l2, Option.bind_some, if_pos rfl, l3, Option.bind_some, l4, Option.bind_some, bne_self_eq_false, hj]
end Go.Proofs.Ytfnijaiaodplgaa.Pure
