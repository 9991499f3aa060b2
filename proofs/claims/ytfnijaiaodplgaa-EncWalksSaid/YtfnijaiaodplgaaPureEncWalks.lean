/- Whatever is taken one behind the other: the two cursors stay one. -/
import Derived.Test.YtfnijaiaodplgaaEncO
import Derived.Test.YtfnijaiaodplgaaPEncx8
set_option linter.unusedVariables false
set_option linter.unusedSimpArgs false
namespace Go.Proofs.Ytfnijaiaodplgaa.Pure
open Go.RowKit Go.Proofs.Ytfnijaiaodplgaa.PEnc Go.Proofs.Ytfnijaiaodplgaa.EncS Go.Proofs.Ytfnijaiaodplgaa.EncL Go.Proofs.YtfnijaiaodplgaaW.PrintWords Go.Proofs.YtfnijaiaodplgaaW.PrintLast Go.Proofs.YtfnijaiaodplgaaW.PrintMore

theorem few_ok (s : ByteArray) : ∃ t, parchmentlaw02_few.f s = some t ∧ t.size ≤ 300 := by
  unfold parchmentlaw02_few.f
  by_cases h : (s.size : Int) > 300
  · rw [if_pos h, if_pos (by decide), if_pos (by omega)]
    exact ⟨_, rfl, by rw [ByteArray.size_extract]; omega⟩
  · rw [if_neg h]
    exact ⟨s, rfl, by omega⟩
theorem fail7 (s : ByteArray) (p : Nat) (e : Int) : enc_Cursor_Fail.f s (p : Int) e 7 = some (s, (p : Int), if e = 0 then 7 else e) := by
  unfold enc_Cursor_Fail.f enc_Cursor_stop.f
  by_cases h : e = 0
  · simp [h]
  · simp [h]
theorem j2_ok (s : ByteArray) (l : List S60) (i : Nat) (hi : i < 1000) (p : Nat) (e : Int) (h : Ev (fun k => parchmentlaw02_EncWalks.l0 k l ((i + 1 : Nat) : Int) s (p : Int) e s (p : Int) e) true) :
    Ev (fun k => parchmentlaw02_EncWalks.j2 k l (i : Int) true s (p : Int) e s (p : Int) e) true := by
  refine Ev.step (fun k => ?_) h
  rw [parchmentlaw02_EncWalks.j2]
  have e1 : wrap64 ((i : Int) + 1) = ((i + 1 : Nat) : Int) := by rw [wrap64_in _ (by omega) (by omega)]; rfl
  simp [enc_Cursor_Err.f, enc_Cursor_Off.f, e1]
theorem j1_end (s : ByteArray) (l : List S60) (i : Int) (p : Nat) (e : Int) : Ev (fun k => parchmentlaw02_EncWalks.j1 k l i false s (p : Int) e s (p : Int) e) true := by
  have h : Ev (fun k => (parchmentlaw02_awake.f k).bind fun t => if t = true then ((enc_Cursor_End.f s (p : Int) e).bind fun b => ((parchmentref02_Cursor_End.f s (p : Int) e).bind fun d => (some (b.1 == d.2.2)))) else some false) true := by
    refine Ev.bind EncL.awake ?_
    rw [if_pos rfl, p_end, r_end]
    simp only [Option.bind_some, beq_self_eq_true]
    exact Ev.now _
  refine Ev.step (fun k => ?_) h
  rw [parchmentlaw02_EncWalks.j1]
  simp
theorem j1_take (s : ByteArray) (hs : s.size ≤ 300) (l : List S60) (hl : ∀ x ∈ l, x.f1 < 9223372036854775808) (i : Nat) (hi : i < l.length) (h30 : i < 30) (p : Nat) (hp : p ≤ s.size) (e : Int)
    (ih : ∀ p' e', p' ≤ s.size → Ev (fun k => parchmentlaw02_EncWalks.l0 k l ((i + 1 : Nat) : Int) s ((p' : Nat) : Int) e' s (p' : Int) e') true) :
    Ev (fun k => parchmentlaw02_EncWalks.j1 k l (i : Int) true s (p : Int) e s (p : Int) e) true := by
  have hm : (rd_T60 l (i : Int)).f1 < 9223372036854775808 := by
    unfold rd_T60
    have h : (i : Int).toNat = i := by omega
    rw [h, List.getD_eq_getElem?_getD, List.getElem?_eq_getElem hi]
    exact hl _ (List.getElem_mem hi)
  have hs' : s.size < 4611686018427387904 := by omega
  refine Ev.step (g := fun k => parchmentlaw02_EncWalks.j1 k l (i : Int) true s (p : Int) e s (p : Int) e) (fun k => by rw [parchmentlaw02_EncWalks.j1, if_pos rfl, if_pos (by omega), if_pos (by omega)]) ?_
  generalize rd_T60 l (i : Int) = x at hm ⊢
  by_cases h1 : x.f0 = 1
  · simp only [if_pos h1]
    refine Ev.bind (r_uint s p e hs' hp) (Ev.bind (p_uint s p e hs' hp) ?_)
    simp only [beq_self_eq_true]
    exact j2_ok s l i (by omega) _ _ (ih _ _ (uintS_ok s p e hp).1)
  simp only [if_neg h1]
  by_cases h2 : x.f0 = 2
  · simp only [if_pos h2]
    refine Ev.bind (r_int s p e hs' hp) (Ev.bind (p_int s p e hs' hp) ?_)
    simp only [beq_self_eq_true]
    exact j2_ok s l i (by omega) _ _ (ih _ _ (uintS_ok s p e hp).1)
  simp only [if_neg h2]
  by_cases h3 : x.f0 = 3
  · simp only [if_pos h3]
    refine Ev.bind (r_count s p e x.f1 hs' hp hm) (Ev.bind (p_count s p e x.f1 hs' hp hm) ?_)
    simp only [outC, outD, beq_self_eq_true]
    exact j2_ok s l i (by omega) _ _ (ih _ _ (countS_ok s p e x.f1 hp).1)
  simp only [if_neg h3]
  by_cases h4 : x.f0 = 4
  · simp only [if_pos h4]
    refine Ev.bind (r_text s p e x.f1 hs' hp hm) (Ev.bind (p_text s p e x.f1 hs' hp hm) ?_)
    simp only [outC, outD, beq_self_eq_true]
    refine j2_ok s l i (by omega) _ _ (ih _ _ ?_)
    unfold textS
    split
    · exact (bytesS_ok s _ _ _ (countS_ok s p e _ hp).1).1
    · exact hp
  simp only [if_neg h4]
  by_cases h5 : x.f0 = 5
  · simp only [if_pos h5, r_bool s p e hs' hp, p_bool s p e hs' hp, Option.bind_some]
    simp only [outC, outD, beq_self_eq_true]
    refine j2_ok s l i (by omega) _ _ (ih _ _ ?_)
    unfold boolS
    split
    · split
      · exact hp
      · exact (bytesS_ok s p e 1 hp).1
    · exact hp
  simp only [if_neg h5]
  by_cases h6 : x.f0 = 6
  · simp only [if_pos h6, fail7, Option.bind_some]
    by_cases he : e = 0
    · simp only [if_pos he]
      exact j2_ok s l i (by omega) _ _ (ih _ _ hp)
    · simp only [if_neg he]
      exact j2_ok s l i (by omega) _ _ (ih _ _ hp)
  simp only [if_neg h6, r_bytes s p e x.f1 hs' hp, p_bytes s p e x.f1 hs' hp, Option.bind_some]
  simp only [outC, outD, beq_self_eq_true]
  exact j2_ok s l i (by omega) _ _ (ih _ _ (bytesS_ok s p e x.f1 hp).1)
theorem l0_ok (s : ByteArray) (hs : s.size ≤ 300) (l : List S60) (hl : ∀ x ∈ l, x.f1 < 9223372036854775808) : ∀ m i p e, i + m = 30 → p ≤ s.size → Ev (fun k => parchmentlaw02_EncWalks.l0 k l ((i : Nat) : Int) s ((p : Nat) : Int) e s (p : Int) e) true := by
  intro m
  induction m with
  | zero =>
    intro i p e hi hp
    refine Ev.step (fun k => ?_) (j1_end s l (i : Int) p e)
    rw [parchmentlaw02_EncWalks.l0]
    by_cases h : (i : Int) < (l.length : Int)
    · rw [if_pos h, decide_eq_false (by omega)]
    · rw [if_neg h]
  | succ m ih =>
    intro i p e hi hp
    by_cases h : (i : Int) < (l.length : Int)
    · refine Ev.step (fun k => ?_) (j1_take s hs l hl i (by omega) (by omega) p hp e (fun p' e' hp' => ih (i + 1) p' e' (by omega) hp'))
      rw [parchmentlaw02_EncWalks.l0, if_pos h, decide_eq_true (by omega)]
    · refine Ev.step (fun k => ?_) (j1_end s l (i : Int) p e)
      rw [parchmentlaw02_EncWalks.l0, if_neg h]
theorem EncWalks (a0 : ByteArray) (l1 : List S60) (hl : ∀ x ∈ l1, x.f1 < 9223372036854775808) : ∃ k, parchmentlaw02_EncWalks.f k a0 l1 = some true := by
  obtain ⟨t, ht, hs⟩ := few_ok a0
  have h := l0_ok t hs l1 hl 30 0 0 0 rfl (Nat.zero_le _)
  refine Ev.rounds (g := fun k => parchmentlaw02_EncWalks.f k a0 l1) ?_
  unfold parchmentlaw02_EncWalks.f
  rw [ht]
  simp only [Option.bind_some, enc_At.f]
  exact h
end Go.Proofs.Ytfnijaiaodplgaa.Pure
