/- Numbers and texts in bytes, in plain Lean: what is put, what is taken, and that each is the other's inverse. No program here. -/
namespace Go.Proofs.Ytfnijaiaodplgaa.EncS

/-- A number's bytes. -/
def encU (n : Nat) : List UInt8 := if n < 128 then [UInt8.ofNat n] else UInt8.ofNat (n % 128 + 128) :: encU (n / 128)
termination_by n
decreasing_by omega

/-- What a number's taking comes to, from byte i on with what was gathered: the error, how many bytes, the number. -/
def decU : List UInt8 → Nat → Nat → Nat × Nat × Nat
  | [], _, _ => (4, 0, 0)
  | b :: l, i, n =>
    if (i = 9 ∧ 1 < b.toNat) ∨ (0 < i ∧ b.toNat = 0) then (6, 0, 0)
    else if b.toNat < 128 then (0, i + 1, n + b.toNat * 128 ^ i)
    else decU l (i + 1) (n + (b.toNat - 128) * 128 ^ i)

theorem encU_small (n : Nat) (h : n < 128) : encU n = [UInt8.ofNat n] := by rw [encU, if_pos h]
theorem encU_great (n : Nat) (h : ¬ n < 128) : encU n = UInt8.ofNat (n % 128 + 128) :: encU (n / 128) := by rw [encU, if_neg h]

theorem encU_pos (n : Nat) : 0 < (encU n).length := by
  by_cases h : n < 128
  · rw [encU_small n h]; simp
  · rw [encU_great n h]; simp

theorem pow9 : (128 : Nat) ^ 9 = 9223372036854775808 := by decide
theorem pow_succ' (i : Nat) : (128 : Nat) ^ (i + 1) = 128 ^ i * 128 := Nat.pow_succ ..

theorem i_le (n i : Nat) (h : n * 128 ^ i < 18446744073709551616) (hn : 128 ≤ n) : i ≤ 8 := by
  by_cases hi : i ≤ 8
  · exact hi
  · have h9 : (128 : Nat) ^ 9 ≤ 128 ^ i := Nat.pow_le_pow_right (by decide) (by omega)
    rw [pow9] at h9
    have := Nat.mul_le_mul hn h9
    omega

theorem nine_small (n : Nat) (h : n * 128 ^ 9 < 18446744073709551616) : n ≤ 1 := by rw [pow9] at h; omega

theorem decU_enc (rest : List UInt8) : ∀ (m n i acc : Nat), n ≤ m → n * 128 ^ i < 18446744073709551616 → (0 < i → 0 < n) →
    decU (encU n ++ rest) i acc = (0, i + (encU n).length, acc + n * 128 ^ i) := by
  intro m
  induction m with
  | zero =>
    intro n i acc hm hb h0
    have hn : n = 0 := by omega
    subst hn
    have hi : i = 0 := by omega
    subst hi
    rw [encU_small 0 (by decide)]
    rfl
  | succ m ih =>
    intro n i acc hm hb h0
    by_cases h : n < 128
    · rw [encU_small n h]
      have ht : (UInt8.ofNat n).toNat = n := by rw [UInt8.toNat_ofNat']; omega
      have hc : ¬ ((i = 9 ∧ 1 < (UInt8.ofNat n).toNat) ∨ (0 < i ∧ (UInt8.ofNat n).toNat = 0)) := by
        rw [ht]
        rintro (⟨rfl, h1⟩ | ⟨h1, h2⟩)
        · have := nine_small n hb; omega
        · have := h0 h1; omega
      simp only [List.cons_append, List.nil_append, decU]
      rw [if_neg hc, if_pos (by rw [ht]; exact h), ht]
      rfl
    · rw [encU_great n h]
      have ht : (UInt8.ofNat (n % 128 + 128)).toNat = n % 128 + 128 := by rw [UInt8.toNat_ofNat']; omega
      have hi := i_le n i hb (by omega)
      have hc : ¬ ((i = 9 ∧ 1 < (UInt8.ofNat (n % 128 + 128)).toNat) ∨ (0 < i ∧ (UInt8.ofNat (n % 128 + 128)).toNat = 0)) := by
        rw [ht]; omega
      simp only [List.cons_append, decU]
      rw [if_neg hc, if_neg (by rw [ht]; omega), ht]
      have hle : n / 128 * 128 ^ (i + 1) ≤ n * 128 ^ i := by
        rw [pow_succ', ← Nat.mul_assoc, Nat.mul_right_comm]
        exact Nat.mul_le_mul_right _ (Nat.div_mul_le_self n 128)
      rw [ih (n / 128) (i + 1) _ (by omega) (by omega) (fun _ => by omega)]
      have e1 : acc + (n % 128 + 128 - 128) * 128 ^ i + n / 128 * 128 ^ (i + 1) = acc + n * 128 ^ i := by
        rw [pow_succ', ← Nat.mul_assoc, Nat.mul_right_comm (n / 128), Nat.add_assoc, ← Nat.add_mul]
        congr 2
        omega
      rw [e1]
      simp only [List.length_cons]
      congr 2
      omega

/-- What was put is taken again. -/
theorem decU_put (n : Nat) (h : n < 18446744073709551616) (rest : List UInt8) : decU (encU n ++ rest) 0 0 = (0, (encU n).length, n) := by
  rw [decU_enc rest n n 0 0 (Nat.le_refl _) (by simpa using h) (fun h => by omega)]
  simp

/-- What is taken has these bytes. -/
theorem enc_decU : ∀ (l : List UInt8) (i acc c v : Nat), i ≤ 9 → decU l i acc = (0, c, v) →
    ∃ m, v = acc + m * 128 ^ i ∧ encU m = l.take (c - i) ∧ i < c ∧ c - i ≤ l.length ∧ (0 < i → 0 < m) ∧ m * 128 ^ i < 18446744073709551616 - 128 ^ i + 1 := by
  intro l
  induction l with
  | nil => intro i acc c v _ h; simp [decU] at h
  | cons b l ih =>
    intro i acc c v hi h
    simp only [decU] at h
    by_cases h1 : (i = 9 ∧ 1 < b.toNat) ∨ (0 < i ∧ b.toNat = 0)
    · rw [if_pos h1] at h; simp at h
    · rw [if_neg h1] at h
      by_cases h2 : b.toNat < 128
      · rw [if_pos h2] at h
        simp only [Prod.mk.injEq, true_and] at h
        obtain ⟨rfl, rfl⟩ := h
        refine ⟨b.toNat, rfl, ?_, by omega, by simp, fun h0 => ?_, ?_⟩
        · rw [encU_small _ h2, show i + 1 - i = 1 by omega]
          simp
        · omega
        · by_cases h9 : i = 9
          · subst h9; rw [pow9]; omega
          · have hp : (128 : Nat) ^ i ≤ 128 ^ 8 := Nat.pow_le_pow_right (by decide) (by omega)
            have hm : b.toNat * 128 ^ i ≤ 127 * 128 ^ i := Nat.mul_le_mul_right _ (by omega)
            have h8 : (128 : Nat) ^ 8 = 72057594037927936 := by decide
            omega
      · rw [if_neg h2] at h
        have hi8 : i ≤ 8 := by omega
        obtain ⟨m, hv, he, hc, hl, h0, hb⟩ := ih (i + 1) _ c v (by omega) h
        have hb256 := b.toNat_lt
        refine ⟨b.toNat - 128 + 128 * m, ?_, ?_, by omega, by simp; omega, fun _ => by have := h0 (by omega); omega, ?_⟩
        · rw [hv, pow_succ', Nat.add_assoc, Nat.add_mul]
          congr 2
          rw [Nat.mul_comm 128 m, Nat.mul_assoc, Nat.mul_comm 128]
        · have hm := h0 (by omega)
          rw [encU_great _ (by omega), show (b.toNat - 128 + 128 * m) % 128 + 128 = b.toNat by omega, show (b.toNat - 128 + 128 * m) / 128 = m by omega, he,
            show c - i = (c - (i + 1)) + 1 by omega, List.take_succ_cons]
          simp
        · rw [pow_succ'] at hb
          have e : (b.toNat - 128 + 128 * m) * 128 ^ i = (b.toNat - 128) * 128 ^ i + m * (128 ^ i * 128) := by
            rw [Nat.add_mul, Nat.mul_comm 128 m, Nat.mul_assoc, Nat.mul_comm 128]
          have hm : (b.toNat - 128) * 128 ^ i ≤ 127 * 128 ^ i := Nat.mul_le_mul_right _ (by omega)
          have hp : (128 : Nat) ^ i ≤ 128 ^ 8 := Nat.pow_le_pow_right (by decide) (by omega)
          have h8 : (128 : Nat) ^ 8 = 72057594037927936 := by decide
          rw [e]
          omega

theorem decU_err : ∀ (l : List UInt8) (i acc e c v : Nat), decU l i acc = (e, c, v) → e = 0 ∨ (e = 4 ∧ c = 0 ∧ v = 0) ∨ (e = 6 ∧ c = 0 ∧ v = 0) := by
  intro l
  induction l with
  | nil => intro i acc e c v h; simp only [decU, Prod.mk.injEq] at h; omega
  | cons b l ih =>
    intro i acc e c v h
    simp only [decU] at h
    split at h
    · simp only [Prod.mk.injEq] at h; omega
    · split at h
      · simp only [Prod.mk.injEq] at h; omega
      · exact ih _ _ _ _ _ h

/-- A number that was taken, its place and its bytes. -/
theorem taken (l : List UInt8) (c v : Nat) (h : decU l 0 0 = (0, c, v)) : encU v = l.take c ∧ 0 < c ∧ c ≤ l.length ∧ v < 18446744073709551616 := by
  obtain ⟨m, hv, he, hc, hl, _, hb⟩ := enc_decU l 0 0 c v (by decide) h
  simp at hv he hl hb
  subst hv
  exact ⟨he, hc, hl, by omega⟩

theorem encU_len (n : Nat) (h : n < 18446744073709551616) : (encU n).length ≤ 10 := by
  have : ∀ (i n : Nat), n * 128 ^ i < 18446744073709551616 → i ≤ 9 → (encU n).length ≤ 10 - i := by
    intro i
    induction hk : 9 - i generalizing i with
    | zero =>
      intro n hb hi
      have : i = 9 := by omega
      subst this
      have := nine_small n hb
      rw [encU_small n (by omega)]
      simp
    | succ k ih =>
      intro n hb hi
      by_cases h : n < 128
      · rw [encU_small n h]; simp; omega
      · rw [encU_great n h]
        have hle : n / 128 * 128 ^ (i + 1) ≤ n * 128 ^ i := by
          rw [pow_succ', ← Nat.mul_assoc, Nat.mul_right_comm]
          exact Nat.mul_le_mul_right _ (Nat.div_mul_le_self n 128)
        have := ih (i + 1) (by omega) (n / 128) (by omega) (by omega)
        simp only [List.length_cons]
        omega
  exact this 0 n (by simpa using h) (by decide)

/-- Numbers of unlike bytes are unlike, and the other way about; also with anything behind them. -/
theorem encU_inj (a b : Nat) (ha : a < 18446744073709551616) (hb : b < 18446744073709551616) (x y : List UInt8) (h : encU a ++ x = encU b ++ y) : a = b ∧ x = y := by
  have h1 := decU_put a ha x
  have h2 := decU_put b hb y
  rw [h, h2] at h1
  simp only [Prod.mk.injEq, true_and] at h1
  obtain ⟨h3, h4⟩ := h1
  subst h4
  exact ⟨rfl, List.append_cancel_left h⟩

end Go.Proofs.Ytfnijaiaodplgaa.EncS
