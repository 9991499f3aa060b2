import Derived.Test.YtfnijaiaodplgaaEncM
namespace Go.Proofs.Ytfnijaiaodplgaa.EncL
set_option linter.unusedVariables false
set_option linter.unusedSimpArgs false
open Go.RowKit Go.Proofs.Ytfnijaiaodplgaa.PEnc Go.Proofs.Ytfnijaiaodplgaa.EncS Go.Proofs.YtfnijaiaodplgaaW.PrintWords Go.Proofs.YtfnijaiaodplgaaW.PrintLast Go.Proofs.YtfnijaiaodplgaaW.PrintMore

/-- A text that is not too long. -/
def fewB (s : ByteArray) : ByteArray := if (s.size : Int) > 300 then s.extract 0 300 else s
theorem fewB_size (s : ByteArray) : (fewB s).size ≤ 300 := by
  unfold fewB
  split
  · rw [ByteArray.size_extract]; omega
  · omega
theorem few_f (s : ByteArray) : parchmentlaw02_few.f s = some (fewB s) := by
  unfold parchmentlaw02_few.f fewB
  by_cases h : (s.size : Int) > 300
  · rw [if_pos h, if_pos (by omega), if_pos (by omega), if_pos h]
  · rw [if_neg h, if_neg h]

/-- What the reference's cursor is behind a number's taking. -/
def outR (s : ByteArray) (p : Nat) (r : Nat × Nat × Nat) : ByteArray × Int × Int × Int :=
  if r.1 = 0 then (s, ((p + r.2.1 : Nat) : Int), 0, (r.2.2 : Int)) else (s, (p : Int), (r.1 : Int), 0)

theorem with_f (s : ByteArray) (a c e : Int) : parchmentref02_Cursor_with.f s a c e = some (s, a, e) := rfl

theorem pow128_lt (i : Nat) (h : i ≤ 9) : (128 : Nat) ^ i ≤ 9223372036854775808 := by
  have : (128 : Nat) ^ i ≤ 128 ^ 9 := Nat.pow_le_pow_right (by decide) h
  rw [pow9] at this
  exact this

theorem ref_l0 (s : ByteArray) (p : Nat) (hs : s.size < 4611686018427387904) : ∀ (l : List UInt8) (i acc : Nat), s.toList.drop (p + i) = l → p + i ≤ s.size → i ≤ 9 → acc < 128 ^ i →
    Ev (fun k => parchmentref02_Cursor_Uint.l0 k (acc : Int) ((128 ^ i : Nat) : Int) (i : Int) s (p : Int) 0) (outR s p (decU l i acc)) := by
  intro l
  induction l with
  | nil =>
    intro i acc hl hp hi ha
    have hsz := size_of_drop_nil s (p + i) hl
    refine Ev.step (f := fun _ => some (outR s p (4, 0, 0))) (fun k => ?_) (Ev.now _)
    simp only [parchmentref02_Cursor_Uint.l0]
    rw [if_pos (by omega), if_pos (by rw [wrap64_in _ (by omega) (by omega)]; omega), with_f]
    rfl
  | cons b l ih =>
    intro i acc hl hp hi ha
    obtain ⟨hb, hlt, hd⟩ := bt_at_drop s (p + i) b l hl
    have hb256 := b.toNat_lt
    have hw := pow128_lt i hi
    have hpos : 0 < (128 : Nat) ^ i := Nat.pow_pos (by decide)
    have ew : wrap64 ((p : Int) + (i : Int)) = ((p + i : Nat) : Int) := by rw [wrap64_in _ (by omega) (by omega)]; omega
    have eb : IntKind.u64.wrap ((b.toNat : Int)) = (b.toNat : Int) := u64_in _ (by omega) (by omega)
    have hj : ∀ k, parchmentref02_Cursor_Uint.l0 (k + 1) (acc : Int) ((128 ^ i : Nat) : Int) (i : Int) s (p : Int) 0 = parchmentref02_Cursor_Uint.j1 k (acc : Int) ((128 ^ i : Nat) : Int) (i : Int) (b.toNat : Int) (decide ((i = 9 ∧ 1 < b.toNat) ∨ (0 < i ∧ b.toNat = 0))) s (p : Int) 0 := by
      intro k
      simp only [parchmentref02_Cursor_Uint.l0]
      rw [if_pos (by omega), if_neg (by rw [ew]; omega), if_pos (by rw [ew]; omega), if_pos (by rw [ew]; omega), ew, hb, eb]
      by_cases h9 : i = 9
      · subst h9
        by_cases h1 : 1 < b.toNat
        · rw [if_pos (by omega), if_pos (by omega), decide_eq_true (.inl ⟨rfl, h1⟩)]
        · rw [if_pos (by omega), if_neg (by omega), if_pos (by omega)]
          congr 1
          by_cases h0 : b.toNat = 0 <;> simp [h0, h1]
      · by_cases h0 : 0 < i
        · rw [if_neg (by omega), if_pos (by omega)]
          congr 1
          by_cases h0' : b.toNat = 0 <;> simp [h0, h0', h9]
        · rw [if_neg (by omega), if_neg (by omega)]
          congr 1
          simp [h0, h9]
    simp only [decU]
    by_cases hc : (i = 9 ∧ 1 < b.toNat) ∨ (0 < i ∧ b.toNat = 0)
    · rw [if_pos hc]
      refine Ev.step hj (Ev.step (f := fun _ => some (outR s p (6, 0, 0))) (fun k => ?_) (Ev.now _))
      simp only [parchmentref02_Cursor_Uint.j1]
      rw [if_pos (decide_eq_true hc), with_f]
      rfl
    · rw [if_neg hc]
      have hj2 := joined b i acc hi (fun h => by omega) ha
      have et : Int.tmod (b.toNat : Int) 128 = ((b.toNat % 128 : Nat) : Int) := by rw [Int.tmod_eq_emod_of_nonneg (by omega)]; omega
      have em : ((b.toNat % 128 : Nat) : Int) * ((128 ^ i : Nat) : Int) = ((b.toNat % 128 * 128 ^ i : Nat) : Int) := by rw [Int.natCast_mul]
      have e1 : IntKind.u64.wrap ((acc : Int) + IntKind.u64.wrap ((Int.tmod (b.toNat : Int) 128) * ((128 ^ i : Nat) : Int))) = ((acc + b.toNat % 128 * 128 ^ i : Nat) : Int) := by
        rw [et, em, u64_in ((b.toNat % 128 * 128 ^ i : Nat) : Int) (by omega) (by omega), u64_in _ (by omega) (by omega)]; omega
      by_cases h128 : b.toNat < 128
      · rw [if_pos h128]
        refine Ev.step hj (Ev.step (f := fun _ => some (outR s p (0, i + 1, acc + b.toNat * 128 ^ i))) (fun k => ?_) (Ev.now _))
        simp only [parchmentref02_Cursor_Uint.j1]
        rw [if_neg (by rw [decide_eq_false hc]; decide), if_pos (by omega), e1, Nat.mod_eq_of_lt h128]
        have e2 : wrap64 (wrap64 ((p : Int) + (i : Int)) + 1) = ((p + (i + 1) : Nat) : Int) := by rw [ew, wrap64_in _ (by omega) (by omega)]; omega
        rw [e2]
        rfl
      · rw [if_neg h128]
        have hm : b.toNat % 128 = b.toNat - 128 := by omega
        have h8 : i ≤ 8 := by omega
        have hp8 : (128 : Nat) ^ i ≤ 72057594037927936 := by
          have : (128 : Nat) ^ i ≤ 128 ^ 8 := Nat.pow_le_pow_right (by decide) h8
          have e8 : (128 : Nat) ^ 8 = 72057594037927936 := by decide
          omega
        have hnew : acc + (b.toNat - 128) * 128 ^ i < 128 ^ (i + 1) := by
          have : (b.toNat - 128) * 128 ^ i ≤ 127 * 128 ^ i := Nat.mul_le_mul_right _ (by omega)
          rw [pow_succ']; omega
        have h1 := ih (i + 1) (acc + (b.toNat - 128) * 128 ^ i) (by rw [← hd]; congr 1) (by omega) (by omega) hnew
        refine Ev.step hj (Ev.step (fun k => ?_) h1)
        simp only [parchmentref02_Cursor_Uint.j1]
        have e3 : IntKind.u64.wrap (((128 ^ i : Nat) : Int) * 128) = ((128 ^ (i + 1) : Nat) : Int) := by
          rw [u64_in _ (by omega) (by omega), pow_succ', Int.natCast_mul]; rfl
        rw [if_neg (by rw [decide_eq_false hc]; decide), if_neg (by omega), e1, e3, hm, wrap64_in ((i : Int) + 1) (by omega) (by omega)]
        rfl

theorem ref_uint (s : ByteArray) (p : Nat) (hs : s.size < 4611686018427387904) (hp : p ≤ s.size) :
    Ev (fun k => parchmentref02_Cursor_Uint.f k s (p : Int) 0) (outR s p (decU (s.toList.drop p) 0 0)) := by
  have h := ref_l0 s p hs (s.toList.drop p) 0 0 rfl hp (by decide) (by decide)
  refine Ev.congr (fun k => ?_) h
  unfold parchmentref02_Cursor_Uint.f
  rw [if_pos rfl]
  rfl
/-! What each call takes: the value, the place behind it, the error. -/
def uintS (s : ByteArray) (p : Nat) (e : Int) : Nat × Nat × Int :=
  if e = 0 then (if (decU (s.toList.drop p) 0 0).1 = 0 then ((decU (s.toList.drop p) 0 0).2.2, p + (decU (s.toList.drop p) 0 0).2.1, 0) else (0, p, ((decU (s.toList.drop p) 0 0).1 : Int))) else (0, p, e)
theorem toList_length (s : ByteArray) : s.toList.length = s.size := by rw [ByteArray.toList_eq, Array.length_toList]; rfl

/-- What a number's taking keeps. -/
theorem uintS_ok (s : ByteArray) (p : Nat) (e : Int) (hp : p ≤ s.size) : (uintS s p e).2.1 ≤ s.size ∧ (uintS s p e).1 < 18446744073709551616 ∧ p ≤ (uintS s p e).2.1 ∧ ((uintS s p e).2.2 ≠ 0 → (uintS s p e).1 = 0 ∧ (uintS s p e).2.1 = p) := by
  unfold uintS
  by_cases he : e = 0
  · rw [if_pos he]
    generalize hr : decU (s.toList.drop p) 0 0 = r
    obtain ⟨e1, c, v⟩ := r
    by_cases h1 : e1 = 0
    · subst h1
      obtain ⟨_, _, hc, hv⟩ := taken _ _ _ hr
      rw [List.length_drop, toList_length] at hc
      rw [if_pos rfl]
      exact ⟨by show p + c ≤ s.size; omega, hv, by show p ≤ p + c; omega, fun h => absurd rfl h⟩
    · rw [if_neg h1]
      exact ⟨hp, (by decide : 0 < 18446744073709551616), Nat.le_refl _, fun _ => ⟨rfl, rfl⟩⟩
  · rw [if_neg he]
    exact ⟨hp, (by decide : 0 < 18446744073709551616), Nat.le_refl _, fun _ => ⟨rfl, rfl⟩⟩

def outC (s : ByteArray) {α : Type} (r : α × Nat × Int) : α × ByteArray × Int × Int := (r.1, s, (r.2.1 : Int), r.2.2)
def outD (s : ByteArray) {α : Type} (r : α × Nat × Int) : ByteArray × Int × Int × α := (s, (r.2.1 : Int), r.2.2, r.1)

theorem p_uint (s : ByteArray) (p : Nat) (e : Int) (hs : s.size < 4611686018427387904) (hp : p ≤ s.size) :
    Ev (fun k => enc_Cursor_Uint.f k s (p : Int) e) (((uintS s p e).1 : Int), s, ((uintS s p e).2.1 : Int), (uintS s p e).2.2) := by
  by_cases he : e = 0
  · subst he
    have h := cur_uint s p hs hp
    have e1 : outU s p (decU (s.toList.drop p) 0 0) = (((uintS s p 0).1 : Int), s, ((uintS s p 0).2.1 : Int), (uintS s p 0).2.2) := by
      unfold outU uintS
      rw [if_pos rfl]
      split <;> rfl
    rw [e1] at h
    exact h
  · have e1 : uintS s p e = (0, p, e) := by unfold uintS; rw [if_neg he]
    rw [e1]
    refine Ev.congr (fun k => ?_) (Ev.now _)
    exact cur_uint_err s p e he k
theorem r_uint (s : ByteArray) (p : Nat) (e : Int) (hs : s.size < 4611686018427387904) (hp : p ≤ s.size) :
    Ev (fun k => parchmentref02_Cursor_Uint.f k s (p : Int) e) (s, ((uintS s p e).2.1 : Int), (uintS s p e).2.2, ((uintS s p e).1 : Int)) := by
  by_cases he : e = 0
  · subst he
    have h := ref_uint s p hs hp
    have e1 : outR s p (decU (s.toList.drop p) 0 0) = (s, ((uintS s p 0).2.1 : Int), (uintS s p 0).2.2, ((uintS s p 0).1 : Int)) := by
      unfold outR uintS
      rw [if_pos rfl]
      split <;> rfl
    rw [e1] at h
    exact h
  · have e1 : uintS s p e = (0, p, e) := by unfold uintS; rw [if_neg he]
    rw [e1]
    refine Ev.congr (fun k => ?_) (Ev.now _)
    unfold parchmentref02_Cursor_Uint.f; rw [if_neg he]
    rfl

end Go.Proofs.Ytfnijaiaodplgaa.EncL
