/- Of any text (of a longer one its first 300 bytes) and any bool the program's bytes are the reference's; put one behind the other they are taken again, and nothing is left, where the text may have so many bytes; where it may not, nothing is taken and the error is that of a limit. No condition. -/
import Derived.Test.YtfnijaiaodplgaaPEncx6
import Derived.Test.YtfnijaiaodplgaaEncO
namespace Go.Proofs.Ytfnijaiaodplgaa.Pure
open Go.RowKit Go.Proofs.Ytfnijaiaodplgaa.PEnc Go.Proofs.YtfnijaiaodplgaaW.PrintWords Go.Proofs.YtfnijaiaodplgaaW.PrintLast
open Go.Proofs.Ytfnijaiaodplgaa.EncS Go.Proofs.Ytfnijaiaodplgaa.EncL

theorem text_f (t : ByteArray) (h : t.size ≤ 4611686018427387904) : Ev (fun k => enc_Text.f k t) (S (encU t.size ++ t.toList)) := by
  unfold enc_Text.f
  have hl := encU_len t.size (by omega)
  rw [u64_in (t.size : Int) (by omega) (by omega)]
  refine Ev.bind (uint_f t.size (by omega)) ?_
  have e : S (encU t.size) ++ t = S (encU t.size ++ t.toList) := by rw [← S_append, S_of]
  rw [if_pos (by rw [S_size]; omega), e]
  exact Ev.now _
theorem ref_text_f (t : ByteArray) (h : t.size ≤ 4611686018427387904) : Ev (fun k => parchmentref02_Text.f k t) (S (encU t.size ++ t.toList)) := by
  unfold parchmentref02_Text.f
  have hl := encU_len t.size (by omega)
  rw [u64_in (t.size : Int) (by omega) (by omega)]
  refine Ev.bind (ref_uint_f t.size t.size (Nat.le_refl _) (by omega)) ?_
  have e : S (encU t.size) ++ t = S (encU t.size ++ t.toList) := by rw [← S_append, S_of]
  rw [if_pos (by rw [S_size]; omega), e]
  exact Ev.now _

/-- A part of bytes. -/
theorem extract_S (a b c : List UInt8) : (S (a ++ (b ++ c))).extract a.length (a.length + b.length) = S b := by
  apply ByteArray.ext
  rw [ByteArray.data_extract]
  simp [S]
theorem text_taken (t : ByteArray) (r : List UInt8) (h : t.size ≤ 300) (most : Int) (hm : (t.size : Int) ≤ most) :
    textS (S (encU t.size ++ (t.toList ++ r))) 0 0 most = (t, (encU t.size).length + t.size, 0) := by
  have hl := encU_len t.size (by omega)
  have hd := decU_put t.size (by omega) (t.toList ++ r)
  have hu : uintS (S (encU t.size ++ (t.toList ++ r))) 0 0 = (t.size, (encU t.size).length, 0) := by
    unfold uintS; rw [if_pos rfl, S_toList, List.drop_zero, hd, if_pos rfl, Nat.zero_add]
  have hmn : ¬ (mn most 1048576 < 0 ∨ (t.size : Int) > mn most 1048576) := by unfold mn; split <;> omega
  have hc : countS (S (encU t.size ++ (t.toList ++ r))) 0 0 (mn most 1048576) = ((t.size : Int), (encU t.size).length, 0) := by
    unfold countS; rw [if_pos rfl, hu, if_pos rfl, if_neg hmn]
  have hsz : (S (encU t.size ++ (t.toList ++ r))).size = (encU t.size).length + (t.size + r.length) := by rw [S_size, List.length_append, List.length_append, toList_length]
  have hb : bytesS (S (encU t.size ++ (t.toList ++ r))) (encU t.size).length 0 (t.size : Int) = (t, (encU t.size).length + t.size, 0) := by
    unfold bytesS
    have e := extract_S (encU t.size) t.toList r
    rw [toList_length] at e
    rw [if_pos rfl, if_neg (by omega), if_neg (by rw [hsz]; omega), Int.toNat_natCast, e, S_of]
  unfold textS
  rw [hc]
  simp only
  rw [hb, if_pos rfl]
theorem text_refused (t : ByteArray) (r : List UInt8) (h : t.size ≤ 300) (most : Int) (hm : most < (t.size : Int)) :
    textS (S (encU t.size ++ (t.toList ++ r))) 0 0 most = (⟨#[]⟩, 0, 3) := by
  have hl := encU_len t.size (by omega)
  have hd := decU_put t.size (by omega) (t.toList ++ r)
  have hu : uintS (S (encU t.size ++ (t.toList ++ r))) 0 0 = (t.size, (encU t.size).length, 0) := by
    unfold uintS; rw [if_pos rfl, S_toList, List.drop_zero, hd, if_pos rfl, Nat.zero_add]
  have hmn : mn most 1048576 < 0 ∨ (t.size : Int) > mn most 1048576 := by unfold mn; split <;> omega
  have hc : countS (S (encU t.size ++ (t.toList ++ r))) 0 0 (mn most 1048576) = (0, 0, 3) := by
    unfold countS; rw [if_pos rfl, hu, if_pos rfl, if_pos hmn]
  have hb : bytesS (S (encU t.size ++ (t.toList ++ r))) 0 3 0 = (⟨#[]⟩, 0, 3) := by
    unfold bytesS; rw [if_neg (by decide)]
  unfold textS
  rw [hc]
  simp only
  rw [hb, if_neg (by decide)]

def yes (b : Bool) : List UInt8 := if b then [1] else [0]
theorem bool_taken (l : List UInt8) (b : Bool) : boolS (S (l ++ yes b)) l.length 0 = (b, l.length + 1, 0) := by
  have hy : (yes b).length = 1 := by cases b <;> rfl
  have e := extract_S l (yes b) []
  rw [List.append_nil, hy] at e
  have hb : bytesS (S (l ++ yes b)) l.length 0 1 = (S (yes b), l.length + 1, 0) := by
    unfold bytesS
    rw [if_pos rfl, if_neg (by decide), if_neg (by rw [S_size, List.length_append, hy]; omega)]
    show (_, _, _) = _
    rw [show (1 : Int).toNat = 1 from rfl, e]
  unfold boolS
  rw [hb]
  cases b <;> rfl

theorem EncTexts : parchmentlaw02_EncTexts.Pure := by
  intro a0 b most _ ha
  obtain ⟨m0, m1⟩ := wf_i64 most ha
  refine Ev.rounds (g := fun k => parchmentlaw02_EncTexts.f k a0 b most) ?_
  unfold parchmentlaw02_EncTexts.f
  have hs := fewB_size a0
  simp only [few_f, Option.bind_some]
  generalize fewB a0 = t at hs
  have hl := encU_len t.size (by omega)
  have eb : enc_Bool.f b = some (S (yes b)) := by unfold enc_Bool.f; cases b <;> rfl
  have rb : parchmentref02_Bool.f b = some (S (yes b)) := by unfold parchmentref02_Bool.f; cases b <;> rfl
  have hy : (yes b).length = 1 := by cases b <;> rfl
  refine Ev.bind (text_f t (by omega)) ?_
  simp only [eb, rb, Option.bind_some, S_append, List.append_assoc, enc_At.f]
  have hsz : (S (encU t.size ++ t.toList)).size + (S (yes b)).size ≤ 9223372036854775807 := by
    rw [S_size, S_size, List.length_append, toList_length, hy]; omega
  simp only [hsz, ↓reduceIte]
  have hsz2 : (S (encU t.size ++ (t.toList ++ yes b))).size < 4611686018427387904 := by
    rw [S_size, List.length_append, List.length_append, toList_length, hy]; omega
  refine Ev.bind (p_text _ 0 0 most hsz2 (by omega) (by omega)) ?_
  refine Ev.bind awake ?_
  simp only [↓reduceIte]
  refine Ev.bind (text_f t (by omega)) ?_
  refine Ev.bind (ref_text_f t (by omega)) ?_
  have hne : ((S (yes b)).toList != (S (yes b)).toList) = false := by simp
  simp only [↓reduceIte, hne]
  by_cases hm : most < (t.size : Int)
  · rw [text_refused t (yes b) hs most hm]
    refine Ev.step (f := fun _ => some true) (fun k => ?_) (Ev.now _)
    simp only [parchmentlaw02_EncTexts.j0, outC, hm, Bool.false_eq_true, ↓reduceIte, enc_Cursor_Err.f, enc_Cursor_Off.f, Option.bind_some]
    rw [ByteArray.toList_eq, if_pos rfl]
    rfl
  · rw [text_taken t (yes b) hs most (by omega)]
    refine Ev.step (f := fun _ => some true) (fun k => ?_) (Ev.now _)
    have hbt := bool_taken (encU t.size ++ t.toList) b
    rw [List.append_assoc, List.length_append, toList_length] at hbt
    simp only [parchmentlaw02_EncTexts.j0, outC, hm, Bool.false_eq_true, ↓reduceIte]
    rw [p_bool _ _ 0 hsz2 (by rw [S_size, List.length_append, List.length_append, toList_length]; omega), Option.bind_some, hbt]
    simp only [outC, BEq.rfl, ↓reduceIte]
    rw [p_end, if_neg (by rw [S_size, List.length_append, List.length_append, toList_length, hy]; omega)]
    rfl

end Go.Proofs.Ytfnijaiaodplgaa.Pure
