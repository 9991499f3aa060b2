import Derived.Test.YtfnijaiaodplgaaEncN
import Derived.Test.YtfnijaiaodplgaaPEncx7
namespace Go.Proofs.Ytfnijaiaodplgaa.EncL
set_option linter.unusedVariables false
set_option linter.unusedSimpArgs false
open Go.RowKit Go.Proofs.Ytfnijaiaodplgaa.PEnc Go.Proofs.Ytfnijaiaodplgaa.EncS Go.Proofs.YtfnijaiaodplgaaW.PrintWords Go.Proofs.YtfnijaiaodplgaaW.PrintLast Go.Proofs.YtfnijaiaodplgaaW.PrintMore

def countS (s : ByteArray) (p : Nat) (e most : Int) : Int × Nat × Int :=
  if e = 0 then (if (uintS s p 0).2.2 = 0 then (if most < 0 ∨ ((uintS s p 0).1 : Int) > most then (0, p, 3) else (((uintS s p 0).1 : Int), (uintS s p 0).2.1, 0)) else (0, p, (uintS s p 0).2.2)) else (0, p, e)
def bytesS (s : ByteArray) (p : Nat) (e n : Int) : ByteArray × Nat × Int :=
  if e = 0 then (if n < 0 then (⟨#[]⟩, p, 1) else if n > (s.size : Int) - p then (⟨#[]⟩, p, 4) else (s.extract p (p + n.toNat), p + n.toNat, 0)) else (⟨#[]⟩, p, e)
def textS (s : ByteArray) (p : Nat) (e most : Int) : ByteArray × Nat × Int :=
  if (bytesS s (countS s p e (mn most 1048576)).2.1 (countS s p e (mn most 1048576)).2.2 (countS s p e (mn most 1048576)).1).2.2 = 0
  then bytesS s (countS s p e (mn most 1048576)).2.1 (countS s p e (mn most 1048576)).2.2 (countS s p e (mn most 1048576)).1
  else (⟨#[]⟩, p, (bytesS s (countS s p e (mn most 1048576)).2.1 (countS s p e (mn most 1048576)).2.2 (countS s p e (mn most 1048576)).1).2.2)
def boolS (s : ByteArray) (p : Nat) (e : Int) : Bool × Nat × Int :=
  if (bytesS s p e 1).2.2 = 0 then (if bt (bytesS s p e 1).1 0 > 1 then (false, p, 6) else (bt (bytesS s p e 1).1 0 == 1, (bytesS s p e 1).2.1, 0)) else (false, p, (bytesS s p e 1).2.2)

theorem p_int (s : ByteArray) (p : Nat) (e : Int) (hs : s.size < 4611686018427387904) (hp : p ≤ s.size) :
    Ev (fun k => enc_Cursor_Int.f k s (p : Int) e) (unzz (uintS s p e).1, s, ((uintS s p e).2.1 : Int), (uintS s p e).2.2) := by
  unfold enc_Cursor_Int.f
  refine Ev.bind (p_uint s p e hs hp) ?_
  simp only [cur_unzz _ (uintS_ok s p e hp).2.1]
  exact Ev.now _
theorem r_int (s : ByteArray) (p : Nat) (e : Int) (hs : s.size < 4611686018427387904) (hp : p ≤ s.size) :
    Ev (fun k => parchmentref02_Cursor_Int.f k s (p : Int) e) (s, ((uintS s p e).2.1 : Int), (uintS s p e).2.2, unzz (uintS s p e).1) := by
  unfold parchmentref02_Cursor_Int.f
  refine Ev.bind (r_uint s p e hs hp) ?_
  have hv := (uintS_ok s p e hp).2.1
  generalize (uintS s p e).1 = n at hv ⊢
  have et : Int.tmod (n : Int) 2 = ((n % 2 : Nat) : Int) := by rw [Int.tmod_eq_emod_of_nonneg (by omega)]; omega
  have ed : IntKind.u64.wrap (Int.tdiv (n : Int) 2) = ((n / 2 : Nat) : Int) := by rw [Int.tdiv_eq_ediv_of_nonneg (by omega), u64_in _ (by omega) (by omega)]; omega
  simp only [et, ed]
  unfold unzz
  by_cases h : n % 2 = 1
  · rw [if_pos h]
    simp only [h, Int.natCast_one, ↓reduceIte]
    have e3 : wrap64 (wrap64 (-(wrap64 ((n / 2 : Nat) : Int))) - 1) = -((n / 2 : Nat) : Int) - 1 := by
      rw [wrap64_in ((n / 2 : Nat) : Int) (by omega) (by omega), wrap64_in (-((n / 2 : Nat) : Int)) (by omega) (by omega), wrap64_in _ (by omega) (by omega)]
    rw [e3]
    exact Ev.now _
  · rw [if_neg h]
    have h0 : n % 2 = 0 := by omega
    have e4 : ¬ ((n % 2 : Nat) : Int) = 1 := by omega
    simp only [if_neg e4]
    rw [wrap64_in ((n / 2 : Nat) : Int) (by omega) (by omega)]
    exact Ev.now _

theorem p_count (s : ByteArray) (p : Nat) (e most : Int) (hs : s.size < 4611686018427387904) (hp : p ≤ s.size) (hm : most < 9223372036854775808) :
    Ev (fun k => enc_Cursor_Count.f k s (p : Int) e most) (outC s (countS s p e most)) := by
  unfold enc_Cursor_Count.f
  by_cases he : e = 0
  · subst he
    simp only [↓reduceIte]
    refine Ev.bind (p_uint s p 0 hs hp) ?_
    obtain ⟨_, hv, _, hz⟩ := uintS_ok s p 0 hp
    unfold countS
    rw [if_pos rfl]
    generalize uintS s p 0 = r at hv hz ⊢
    obtain ⟨v, p', e'⟩ := r
    simp only at hv hz ⊢
    by_cases h1 : e' = 0
    · subst h1
      simp only [↓reduceIte]
      by_cases h2 : most < 0
      · simp only [if_pos h2, h2, true_or, ↓reduceIte]
        refine Ev.step (f := fun _ => some (outC s ((0 : Int), p, 3))) (fun k => ?_) (Ev.now _)
        simp only [enc_Cursor_Count.j0, ↓reduceIte, stop_0, Option.bind_some]
        rfl
      · simp only [if_neg h2, h2, false_or]
        have hw : IntKind.u64.wrap most = most := u64_in most (by omega) (by omega)
        rw [hw]
        by_cases h3 : (v : Int) > most
        · rw [if_pos h3, decide_eq_true h3]
          refine Ev.step (f := fun _ => some (outC s ((0 : Int), p, 3))) (fun k => ?_) (Ev.now _)
          simp only [enc_Cursor_Count.j0, ↓reduceIte, stop_0, Option.bind_some]
          rfl
        · rw [if_neg h3, decide_eq_false h3]
          refine Ev.step (f := fun _ => some (outC s ((v : Int), p', 0))) (fun k => ?_) (Ev.now _)
          simp only [enc_Cursor_Count.j0, ↓reduceIte, Bool.false_eq_true, wrap64_in (v : Int) (by omega) (by omega)]
          rfl
    · simp only [if_neg h1]
      obtain ⟨rfl, rfl⟩ := hz h1
      refine Ev.step (f := fun _ => some (outC s ((0 : Int), p', e'))) (fun k => ?_) (Ev.now _)
      simp only [enc_Cursor_Count.j0]
      rw [if_neg (by decide), if_neg h1]
      rfl
  · simp only [if_neg he]
    unfold countS
    rw [if_neg he]
    exact Ev.now _
theorem r_count (s : ByteArray) (p : Nat) (e most : Int) (hs : s.size < 4611686018427387904) (hp : p ≤ s.size) (hm : most < 9223372036854775808) :
    Ev (fun k => parchmentref02_Cursor_Count.f k s (p : Int) e most) (outD s (countS s p e most)) := by
  unfold parchmentref02_Cursor_Count.f
  refine Ev.bind (r_uint s p e hs hp) ?_
  by_cases he : e = 0
  · subst he
    obtain ⟨_, hv, _, hz⟩ := uintS_ok s p 0 hp
    unfold countS
    rw [if_pos rfl]
    generalize uintS s p 0 = r at hv hz ⊢
    obtain ⟨v, p', e'⟩ := r
    simp only at hv hz ⊢
    by_cases h1 : e' = 0
    · subst h1
      simp only [↓reduceIte]
      by_cases h2 : most < 0
      · simp only [if_pos h2, h2, true_or, ↓reduceIte, with_f, Option.bind_some]
        exact Ev.now _
      · simp only [if_neg h2, h2, false_or]
        have hw : IntKind.u64.wrap most = most := u64_in most (by omega) (by omega)
        rw [hw]
        by_cases h3 : (v : Int) > most
        · simp only [if_pos h3, with_f, Option.bind_some]
          exact Ev.now _
        · simp only [if_neg h3, wrap64_in (v : Int) (by omega) (by omega)]
          exact Ev.now _
    · simp only [if_neg h1]
      obtain ⟨rfl, rfl⟩ := hz h1
      have z0 : wrap64 ((0 : Nat) : Int) = 0 := wrap64_in _ (by decide) (by decide)
      rw [z0]
      exact Ev.now _
  · have e1 : uintS s p e = (0, p, e) := by unfold uintS; rw [if_neg he]
    have e2 : countS s p e most = (0, p, e) := by unfold countS; rw [if_neg he]
    rw [e1, e2]
    have z0 : wrap64 ((0 : Nat) : Int) = 0 := wrap64_in _ (by decide) (by decide)
    simp only [if_neg he, z0]
    exact Ev.now _

theorem countS_ok (s : ByteArray) (p : Nat) (e most : Int) (hp : p ≤ s.size) : (countS s p e most).2.1 ≤ s.size ∧ p ≤ (countS s p e most).2.1 ∧ 0 ≤ (countS s p e most).1 ∧ ((countS s p e most).1 ≤ most ∨ (countS s p e most).1 = 0) ∧ ((countS s p e most).2.2 ≠ 0 → (countS s p e most).2.1 = p ∧ (countS s p e most).1 = 0) := by
  obtain ⟨h1, _, h2, _⟩ := uintS_ok s p 0 hp
  unfold countS
  by_cases he : e = 0
  · rw [if_pos he]
    by_cases h3 : (uintS s p 0).2.2 = 0
    · rw [if_pos h3]
      by_cases h4 : most < 0 ∨ ((uintS s p 0).1 : Int) > most
      · rw [if_pos h4]; exact ⟨hp, Nat.le_refl _, Int.le_refl _, .inr rfl, fun _ => ⟨rfl, rfl⟩⟩
      · rw [if_neg h4]; exact ⟨h1, h2, Int.natCast_nonneg _, .inl (by show ((uintS s p 0).1 : Int) ≤ most; omega), fun h => absurd rfl h⟩
    · rw [if_neg h3]; exact ⟨hp, Nat.le_refl _, Int.le_refl _, .inr rfl, fun _ => ⟨rfl, rfl⟩⟩
  · rw [if_neg he]; exact ⟨hp, Nat.le_refl _, Int.le_refl _, .inr rfl, fun _ => ⟨rfl, rfl⟩⟩

theorem p_bytes (s : ByteArray) (p : Nat) (e n : Int) (hs : s.size < 4611686018427387904) (hp : p ≤ s.size) :
    enc_Cursor_Bytes.f s (p : Int) e n = some (outC s (bytesS s p e n)) := by
  unfold enc_Cursor_Bytes.f bytesS
  by_cases he : e = 0
  · subst he
    rw [if_pos rfl, if_pos rfl]
    by_cases h1 : n < 0
    · rw [if_pos h1, if_pos h1, stop_0]; rfl
    · have ew : wrap64 ((s.size : Int) - p) = (s.size : Int) - p := wrap64_in _ (by omega) (by omega)
      rw [if_neg h1, if_neg h1, ew]
      by_cases h2 : n > (s.size : Int) - p
      · rw [if_pos h2, if_pos h2, stop_0]; rfl
      · have e1 : wrap64 ((p : Int) + n) = (p : Int) + n := wrap64_in _ (by omega) (by omega)
        have e2 : wrap64 ((p : Int) + n - n) = (p : Int) := by rw [wrap64_in _ (by omega) (by omega)]; omega
        rw [if_neg h2, if_neg h2, e1, e2, if_pos (by omega), if_pos (by omega), if_pos (by omega)]
        have e3 : ((p : Int) + n).toNat = p + n.toNat := by omega
        have e4 : (p : Int) + n = ((p + n.toNat : Nat) : Int) := by omega
        rw [e3, e4, Int.toNat_natCast]
        rfl
  · rw [if_neg he, if_neg he]; rfl
theorem r_bytes (s : ByteArray) (p : Nat) (e n : Int) (hs : s.size < 4611686018427387904) (hp : p ≤ s.size) :
    parchmentref02_Cursor_Bytes.f s (p : Int) e n = some (outD s (bytesS s p e n)) := by
  unfold parchmentref02_Cursor_Bytes.f bytesS
  by_cases he : e = 0
  · subst he
    rw [if_pos rfl, if_pos rfl]
    by_cases h1 : n < 0
    · rw [if_pos h1, if_pos h1, with_f]; rfl
    · have ew : wrap64 ((s.size : Int) - p) = (s.size : Int) - p := wrap64_in _ (by omega) (by omega)
      rw [if_neg h1, if_neg h1, ew]
      by_cases h2 : n > (s.size : Int) - p
      · rw [if_pos h2, if_pos h2, with_f]; rfl
      · have e1 : wrap64 ((p : Int) + n) = (p : Int) + n := wrap64_in _ (by omega) (by omega)
        rw [if_neg h2, if_neg h2, e1, if_pos (by omega), if_pos (by omega), if_pos (by omega)]
        have e3 : ((p : Int) + n).toNat = p + n.toNat := by omega
        have e4 : (p : Int) + n = ((p + n.toNat : Nat) : Int) := by omega
        rw [e3, e4, Int.toNat_natCast]
        rfl
  · rw [if_neg he, if_neg he]; rfl

theorem bytesS_ok (s : ByteArray) (p : Nat) (e n : Int) (hp : p ≤ s.size) : (bytesS s p e n).2.1 ≤ s.size ∧ p ≤ (bytesS s p e n).2.1 ∧ ((bytesS s p e n).2.2 ≠ 0 → (bytesS s p e n).1 = ⟨#[]⟩ ∧ (bytesS s p e n).2.1 = p) ∧ ((bytesS s p e n).2.2 = 0 → e = 0 ∧ 0 ≤ n ∧ (bytesS s p e n).1.size = n.toNat) := by
  unfold bytesS
  by_cases he : e = 0
  · rw [if_pos he]
    by_cases h1 : n < 0
    · rw [if_pos h1]; exact ⟨hp, Nat.le_refl _, fun _ => ⟨rfl, rfl⟩, fun h => absurd (show (1 : Int) = 0 from h) (by decide)⟩
    · rw [if_neg h1]
      by_cases h2 : n > (s.size : Int) - p
      · rw [if_pos h2]; exact ⟨hp, Nat.le_refl _, fun _ => ⟨rfl, rfl⟩, fun h => absurd (show (4 : Int) = 0 from h) (by decide)⟩
      · rw [if_neg h2]
        refine ⟨by show p + n.toNat ≤ s.size; omega, by show p ≤ p + n.toNat; omega, fun h => absurd rfl h, fun _ => ⟨he, by omega, ?_⟩⟩
        show (s.extract p (p + n.toNat)).size = n.toNat
        rw [ByteArray.size_extract]; omega
  · rw [if_neg he]; exact ⟨hp, Nat.le_refl _, fun _ => ⟨rfl, rfl⟩, fun h => absurd h he⟩

theorem mn_le (a b : Int) : mn a b ≤ b ∧ mn a b ≤ a := by unfold mn; split <;> omega

theorem p_text (s : ByteArray) (p : Nat) (e most : Int) (hs : s.size < 4611686018427387904) (hp : p ≤ s.size) (hm : most < 9223372036854775808) :
    Ev (fun k => enc_Cursor_Text.f k s (p : Int) e most) (outC s (textS s p e most)) := by
  unfold enc_Cursor_Text.f
  have hmn := mn_le most 1048576
  refine Ev.bind (p_count s p e (mn most 1048576) hs hp (by omega)) ?_
  obtain ⟨hc1, _, _, _, _⟩ := countS_ok s p e (mn most 1048576) hp
  simp only [outC]
  rw [p_bytes s _ _ _ hs hc1, Option.bind_some]
  unfold textS
  have hb := bytesS_ok s (countS s p e (mn most 1048576)).2.1 (countS s p e (mn most 1048576)).2.2 (countS s p e (mn most 1048576)).1 hc1
  generalize bytesS s (countS s p e (mn most 1048576)).2.1 (countS s p e (mn most 1048576)).2.2 (countS s p e (mn most 1048576)).1 = r at hb ⊢
  obtain ⟨x, p2, e2⟩ := r
  simp only [outC] at hb ⊢
  by_cases h : e2 = 0
  · subst h
    simp only [↓reduceIte]
    exact Ev.now _
  · obtain ⟨rfl, _⟩ := hb.2.2.1 h
    simp only [h, ↓reduceIte]
    exact Ev.now _

theorem r_text (s : ByteArray) (p : Nat) (e most : Int) (hs : s.size < 4611686018427387904) (hp : p ≤ s.size) (hm : most < 9223372036854775808) :
    Ev (fun k => parchmentref02_Cursor_Text.f k s (p : Int) e most) (outD s (textS s p e most)) := by
  have hj : Ev (fun k => parchmentref02_Cursor_Text.j0 k (mn most 1048576) s (p : Int) e) (outD s (textS s p e most)) := by
    have hmn := mn_le most 1048576
    refine Ev.step (fun k => rfl) ?_
    refine Ev.bind (r_count s p e (mn most 1048576) hs hp (by omega)) ?_
    obtain ⟨hc1, _, _, _, hc2⟩ := countS_ok s p e (mn most 1048576) hp
    simp only [outD]
    rw [r_bytes s _ _ _ hs hc1, Option.bind_some]
    unfold textS
    have hb := bytesS_ok s (countS s p e (mn most 1048576)).2.1 (countS s p e (mn most 1048576)).2.2 (countS s p e (mn most 1048576)).1 hc1
    have he : e ≠ 0 → countS s p e (mn most 1048576) = (0, p, e) := fun h => by unfold countS; rw [if_neg h]
    have hbe : e ≠ 0 → bytesS s p e 0 = (⟨#[]⟩, p, e) := fun h => by unfold bytesS; rw [if_neg h]
    generalize hr : bytesS s (countS s p e (mn most 1048576)).2.1 (countS s p e (mn most 1048576)).2.2 (countS s p e (mn most 1048576)).1 = r at hb ⊢
    obtain ⟨x, p2, e2⟩ := r
    simp only [outD, with_f, Option.bind_some] at hb ⊢
    by_cases h : e2 = 0
    · subst h
      simp only [↓reduceIte]
      exact Ev.now _
    · by_cases h0 : e = 0
      · simp only [h, h0, ↓reduceIte]; exact Ev.now _
      · have h1 := he h0
        rw [h1] at hr
        simp only at hr
        rw [hbe h0] at hr
        simp only [Prod.mk.injEq] at hr
        obtain ⟨rfl, rfl, rfl⟩ := hr
        simp only [h0, ↓reduceIte]; exact Ev.now _
  unfold parchmentref02_Cursor_Text.f
  by_cases h : most > 1048576
  · have e1 : mn most 1048576 = 1048576 := by unfold mn; rw [if_pos (by omega)]
    rw [e1] at hj
    simp only [if_pos h]
    exact hj
  · have e1 : mn most 1048576 = most := by unfold mn; rw [if_neg (by omega)]
    rw [e1] at hj
    simp only [if_neg h]
    exact hj

theorem p_bool (s : ByteArray) (p : Nat) (e : Int) (hs : s.size < 4611686018427387904) (hp : p ≤ s.size) :
    enc_Cursor_Bool.f s (p : Int) e = some (outC s (boolS s p e)) := by
  unfold enc_Cursor_Bool.f boolS
  rw [p_bytes s p e 1 hs hp, Option.bind_some]
  have hb := bytesS_ok s p e 1 hp
  generalize bytesS s p e 1 = r at hb ⊢
  obtain ⟨x, p2, e2⟩ := r
  simp only [outC] at hb ⊢
  by_cases h : e2 = 0
  · obtain ⟨_, _, hx⟩ := hb.2.2.2 h
    have hx1 : x.size = 1 := hx
    subst h
    have hpos : 0 < (x.size : Int) := by omega
    by_cases h2 : bt x 0 > 1
    · simp only [↓reduceIte, hpos, h2, stop_0, Option.bind_some]
      rfl
    · simp only [↓reduceIte, hpos, h2]
  · obtain ⟨_, hp2⟩ := hb.2.2.1 h
    have hp3 : p2 = p := hp2
    subst hp3
    simp only [h, ↓reduceIte]

theorem one_list (x : ByteArray) (h : x.size = 1) : (x.toList == [1]) = (bt x 0 == 1) := by
  have hl := toList_length x
  rw [h] at hl
  obtain ⟨b, hb⟩ := List.length_eq_one_iff.1 hl
  have := (bt_at_drop x 0 b [] (by rw [hb]; rfl)).1
  rw [show ((0 : Nat) : Int) = 0 from rfl] at this
  rw [hb, this]
  have hb256 := b.toNat_lt
  by_cases h1 : b = 1
  · subst h1; rfl
  · have h2 : ¬ (b.toNat : Int) = 1 := fun h3 => h1 (UInt8.toNat_inj.1 (by show b.toNat = 1; omega))
    have e1 : ([b] == [1]) = false := by simpa using h1
    have e2 : ((b.toNat : Int) == 1) = false := by simpa using h2
    rw [e1, e2]

theorem r_bool (s : ByteArray) (p : Nat) (e : Int) (hs : s.size < 4611686018427387904) (hp : p ≤ s.size) :
    parchmentref02_Cursor_Bool.f s (p : Int) e = some (outD s (boolS s p e)) := by
  unfold parchmentref02_Cursor_Bool.f boolS
  rw [r_bytes s p e 1 hs hp, Option.bind_some]
  have hb := bytesS_ok s p e 1 hp
  generalize bytesS s p e 1 = r at hb ⊢
  obtain ⟨x, p2, e2⟩ := r
  simp only [outD] at hb ⊢
  by_cases h : e2 = 0
  · obtain ⟨_, _, hx⟩ := hb.2.2.2 h
    have hx1 : x.size = 1 := hx
    subst h
    have hpos : 0 < (x.size : Int) := by omega
    by_cases h2 : bt x 0 > 1
    · simp only [↓reduceIte, hpos, h2, with_f, Option.bind_some]
    · simp only [↓reduceIte, hpos, h2, one_list x hx1]
  · obtain ⟨hx0, hp2⟩ := hb.2.2.1 h
    have hp3 : p2 = p := hp2
    have hx1 : x = ⟨#[]⟩ := hx0
    subst hp3
    subst hx1
    simp only [h, ↓reduceIte]
    rw [ByteArray.toList_eq]
    rfl

theorem p_end (s : ByteArray) (p : Nat) (e : Int) : enc_Cursor_End.f s (p : Int) e = some (if e = 0 ∧ p < s.size then 5 else e, s, (p : Int), if e = 0 ∧ p < s.size then 5 else e) := by
  unfold enc_Cursor_End.f
  by_cases h : p < s.size
  · rw [if_pos (by omega)]
    by_cases he : e = 0
    · subst he; rw [stop_0, if_pos ⟨rfl, h⟩]; rfl
    · rw [stop_n s p e 5 he, if_neg (fun hh => he hh.1)]; rfl
  · rw [if_neg (by omega), if_neg (fun hh => h hh.2)]
theorem r_end (s : ByteArray) (p : Nat) (e : Int) : parchmentref02_Cursor_End.f s (p : Int) e = some (s, (p : Int), if e = 0 ∧ p < s.size then 5 else e) := by
  unfold parchmentref02_Cursor_End.f
  by_cases he : e = 0
  · subst he
    rw [if_pos rfl]
    by_cases h : p < s.size
    · rw [if_pos (by omega), with_f, if_pos ⟨rfl, h⟩]; rfl
    · rw [if_neg (by omega), if_neg (fun hh => h hh.2)]
  · rw [if_neg he, if_neg (fun hh => he hh.1)]
end Go.Proofs.Ytfnijaiaodplgaa.EncL
