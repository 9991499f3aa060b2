/- Of any number that an int64 holds, also below 0, the program's bytes are the reference's bytes, a cursor over them takes that number again and is at its end, and two numbers have the same bytes just where they are one number. No condition. -/
import Derived.Test.YtfnijaiaodplgaaPEncx2
import Derived.Test.YtfnijaiaodplgaaEncM
namespace Go.Proofs.Ytfnijaiaodplgaa.Pure
open Go.RowKit Go.Proofs.Ytfnijaiaodplgaa.PEnc Go.Proofs.YtfnijaiaodplgaaW.PrintWords Go.Proofs.YtfnijaiaodplgaaW.PrintLast
open Go.Proofs.Ytfnijaiaodplgaa.EncS Go.Proofs.Ytfnijaiaodplgaa.EncL

theorem EncSigned : parchmentlaw02_EncSigned.Pure := by
  intro a b ha hb
  obtain ⟨a0, a1⟩ := wf_i64 a ha
  obtain ⟨b0, b1⟩ := wf_i64 b hb
  have hz := zz_lt a a0 a1
  refine Ev.rounds (g := fun k => parchmentlaw02_EncSigned.f k a b) ?_
  unfold parchmentlaw02_EncSigned.f
  refine Ev.bind (int_f a a0 a1) ?_
  simp only [enc_At.f, Option.bind_some]
  refine Ev.bind awake ?_
  simp only [↓reduceIte]
  refine Ev.bind (int_f a a0 a1) ?_
  refine Ev.bind (ref_int_f a a0 a1) ?_
  simp only [↓reduceIte]
  have ht : Ev (fun k => enc_Cursor_Int.f k (S (encU (zz a))) 0 0) (a, S (encU (zz a)), ((S (encU (zz a))).size : Int), 0) := by
    unfold enc_Cursor_Int.f
    refine Ev.bind (take_own (zz a) hz) ?_
    simp only [cur_unzz (zz a) hz, unzz_zz]
    exact Ev.now _
  refine Ev.bind ht ?_
  simp only [↓reduceIte, end_all, Option.bind_some]
  refine Ev.bind (int_f a a0 a1) ?_
  refine Ev.bind (int_f b b0 b1) ?_
  have e : (((S (encU (zz a))).toList == (S (encU (zz b))).toList) == (a == b)) = true := by
    rw [S_toList, S_toList]
    by_cases h : a = b
    · subst h; simp
    · have : ¬ encU (zz a) = encU (zz b) := fun he => h (zz_inj a b (encU_inj (zz a) (zz b) hz (zz_lt b b0 b1) [] [] (by simpa using he)).1)
      have e1 : (encU (zz a) == encU (zz b)) = false := by simpa using this
      have e2 : (a == b) = false := by simpa using h
      rw [e1, e2]
      rfl
  rw [e]
  exact Ev.now _

end Go.Proofs.Ytfnijaiaodplgaa.Pure
