/- Of any bytes (of a text its first 300) the program's cursor takes the number that the reference takes, with the same error and the same place; with an error nothing is taken, and a number that is taken has just the bytes that were taken. No condition. -/
import Derived.Test.YtfnijaiaodplgaaPEncx4
import Derived.Test.YtfnijaiaodplgaaEncN
namespace Go.Proofs.Ytfnijaiaodplgaa.Pure
open Go.RowKit Go.Proofs.Ytfnijaiaodplgaa.PEnc Go.Proofs.YtfnijaiaodplgaaW.PrintWords Go.Proofs.YtfnijaiaodplgaaW.PrintLast
open Go.Proofs.Ytfnijaiaodplgaa.EncS Go.Proofs.Ytfnijaiaodplgaa.EncL

theorem EncTakes : parchmentlaw02_EncTakes.Pure := by
  intro a0 _
  refine Ev.rounds (g := fun k => parchmentlaw02_EncTakes.f k a0) ?_
  unfold parchmentlaw02_EncTakes.f
  have hs := fewB_size a0
  simp only [few_f, Option.bind_some]
  generalize fewB a0 = t at hs
  simp only [enc_At.f, Option.bind_some]
  refine Ev.bind (p_uint t 0 0 (by omega) (by omega)) ?_
  refine Ev.bind (r_uint t 0 0 (by omega) (by omega)) ?_
  refine Ev.bind awake ?_
  simp only [↓reduceIte, enc_Cursor_Err.f, enc_Cursor_Off.f, Option.bind_some]
  have hok := uintS_ok t 0 0 (by omega)
  have hu : uintS t 0 0 = (if (decU (t.toList.drop 0) 0 0).1 = 0 then ((decU (t.toList.drop 0) 0 0).2.2, 0 + (decU (t.toList.drop 0) 0 0).2.1, 0) else (0, 0, ((decU (t.toList.drop 0) 0 0).1 : Int))) := by unfold uintS; rw [if_pos rfl]
  rw [List.drop_zero] at hu
  generalize hr : decU t.toList 0 0 = r at hu
  obtain ⟨e, c, v⟩ := r
  by_cases h : e = 0
  · subst h
    rw [if_pos rfl] at hu
    obtain ⟨hb, hc, hl, hv⟩ := taken _ _ _ hr
    rw [toList_length] at hl
    rw [hu]
    simp only [↓reduceIte, Nat.zero_add]
    refine Ev.bind (uint_f v hv) ?_
    have h1 : (0 : Int) ≤ (c : Int) := by omega
    have h2 : (c : Int) ≤ (t.size : Int) := by omega
    simp only [h1, h2, ↓reduceIte, Int.toNat_natCast]
    have e1 : (t.extract 0 c).toList = t.toList.take c := by
      rw [ByteArray.toList_eq, ByteArray.toList_eq]
      simp [ByteArray.data_extract]
    rw [S_toList, e1, hb]
    simp only [BEq.rfl]
    exact Ev.now _
  · rw [if_neg h] at hu
    rw [hu]
    have h1 : ¬ ((e : Int) = 0) := by omega
    simp only [h1, ↓reduceIte, Int.natCast_zero]
    exact Ev.now _

end Go.Proofs.Ytfnijaiaodplgaa.Pure
