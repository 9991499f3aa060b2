import Derived.Test.YtfnijaiaodplgaaEncL
namespace Go.Proofs.Ytfnijaiaodplgaa.EncL
open Go.RowKit Go.Proofs.Ytfnijaiaodplgaa.PEnc Go.Proofs.Ytfnijaiaodplgaa.EncS Go.Proofs.YtfnijaiaodplgaaW.PrintWords Go.Proofs.YtfnijaiaodplgaaW.PrintLast Go.Proofs.YtfnijaiaodplgaaW.PrintMore

theorem wf_u64 (a : Int) (h : (Lit.int .u64 a).wf = true) : 0 ≤ a ∧ a < 18446744073709551616 := by
  simp [Lit.wf, IntKind.min, IntKind.max, IntKind.signed, IntKind.bits] at h
  omega
theorem wf_i64 (a : Int) (h : (Lit.int .i64 a).wf = true) : -9223372036854775808 ≤ a ∧ a ≤ 9223372036854775807 := by
  simp [Lit.wf, IntKind.min, IntKind.max, IntKind.signed, IntKind.bits] at h
  omega

/-- A number that may be below 0, as one that may not; and back. -/
def zz (a : Int) : Nat := if a < 0 then (-2 * a - 1).toNat else (2 * a).toNat
def unzz (n : Nat) : Int := if n % 2 = 1 then -((n / 2 : Nat) : Int) - 1 else ((n / 2 : Nat) : Int)
theorem zz_lt (a : Int) (h0 : -9223372036854775808 ≤ a) (h1 : a ≤ 9223372036854775807) : zz a < 18446744073709551616 := by
  unfold zz; split <;> omega
theorem unzz_zz (a : Int) : unzz (zz a) = a := by
  unfold unzz zz
  by_cases h : a < 0
  · rw [if_pos h, if_pos (by omega)]; omega
  · rw [if_neg h, if_neg (by omega)]; omega
theorem zz_inj (a b : Int) (h : zz a = zz b) : a = b := by rw [← unzz_zz a, h, unzz_zz]

theorem ofInt_nat (n : Nat) : BitVec.ofInt 64 (n : Int) = BitVec.ofNat 64 n := BitVec.ofInt_natCast 64 n
theorem xor_zero (n : Nat) (h : n < 18446744073709551616) : Go.bits .xor .u64 (n : Int) 0 = (n : Int) := by
  show IntKind.u64.wrap ((BitVec.ofInt 64 (n : Int) ^^^ BitVec.ofInt 64 0).toNat : Int) = _
  have e0 : BitVec.ofInt 64 (0 : Int) = BitVec.ofNat 64 0 := rfl
  rw [e0, BitVec.xor_zero, ofInt_nat, BitVec.toNat_ofNat, Nat.mod_eq_of_lt (by simpa using h), u64_in (n : Int) (by omega) (by omega)]
theorem xor_ones (n : Nat) (h : n < 18446744073709551616) : Go.bits .xor .u64 (n : Int) 18446744073709551615 = ((18446744073709551615 - n : Nat) : Int) := by
  show IntKind.u64.wrap ((BitVec.ofInt 64 (n : Int) ^^^ BitVec.ofInt 64 18446744073709551615).toNat : Int) = _
  have e0 : BitVec.ofInt 64 (18446744073709551615 : Int) = BitVec.allOnes 64 := by decide
  rw [e0, BitVec.xor_allOnes, ofInt_nat, BitVec.toNat_not, BitVec.toNat_ofNat, Nat.mod_eq_of_lt (by simpa using h)]
  have e1 : 2 ^ 64 - 1 - n = 18446744073709551615 - n := rfl
  rw [e1, u64_in ((18446744073709551615 - n : Nat) : Int) (by omega) (by omega)]

theorem enc_zz (a : Int) (h0 : -9223372036854775808 ≤ a) (h1 : a ≤ 9223372036854775807) :
    Go.bits .xor .u64 (IntKind.u64.wrap (IntKind.u64.wrap a * 2)) (IntKind.u64.wrap (a / 9223372036854775808)) = (zz a : Int) := by
  rw [u64_wrap, u64_wrap, u64_wrap]
  by_cases h : a < 0
  · have e1 : (a % 18446744073709551616 * 2) % 18446744073709551616 = (((2 * a) % 18446744073709551616).toNat : Int) := by omega
    have e2 : (a / 9223372036854775808) % 18446744073709551616 = 18446744073709551615 := by omega
    rw [e1, e2, xor_ones _ (by omega), zz, if_pos h]
    omega
  · have e1 : (a % 18446744073709551616 * 2) % 18446744073709551616 = ((2 * a).toNat : Int) := by omega
    have e2 : (a / 9223372036854775808) % 18446744073709551616 = 0 := by omega
    rw [e1, e2, xor_zero _ (by omega), zz, if_neg h]

theorem int_f (a : Int) (h0 : -9223372036854775808 ≤ a) (h1 : a ≤ 9223372036854775807) : Ev (fun k => enc_Int.f k a) (S (encU (zz a))) := by
  have h := uint_f (zz a) (zz_lt a h0 h1)
  unfold enc_Int.f
  rw [enc_zz a h0 h1]
  exact Ev.bind h (Ev.now _)

theorem ref_int_f (a : Int) (h0 : -9223372036854775808 ≤ a) (h1 : a ≤ 9223372036854775807) : Ev (fun k => parchmentref02_Int.f k a) (S (encU (zz a))) := by
  have h := ref_uint_f (zz a) (zz a) (Nat.le_refl _) (zz_lt a h0 h1)
  unfold parchmentref02_Int.f
  by_cases hn : a < 0
  · have e : IntKind.u64.wrap (IntKind.u64.wrap (IntKind.u64.wrap (wrap64 (-(wrap64 (a + 1)))) * 2) + 1) = (zz a : Int) := by
      rw [wrap64_in (a + 1) (by omega) (by omega), wrap64_in _ (by omega) (by omega), u64_in (-(a + 1)) (by omega) (by omega), u64_in (-(a + 1) * 2) (by omega) (by omega), u64_in _ (by omega) (by omega), zz, if_pos hn]
      omega
    simp only [if_pos hn, e]
    exact Ev.bind h (Ev.now _)
  · have e : IntKind.u64.wrap (IntKind.u64.wrap a * 2) = (zz a : Int) := by
      rw [u64_in a (by omega) (by omega), u64_in _ (by omega) (by omega), zz, if_neg hn]
      omega
    simp only [if_neg hn, e]
    exact Ev.bind h (Ev.now _)

theorem and_one (n : Nat) (h : n < 18446744073709551616) : Go.bits .and .u64 (n : Int) 1 = ((n % 2 : Nat) : Int) := by
  have := bits_mask .u64 64 (by decide) wraps_u64 1 (by decide) (n : Int) (by omega) (cast_lt n h)
  simp only [Int.pow_succ, Int.pow_zero] at this
  rw [show (1 : Int) * 2 - 1 = 1 from rfl, show (1 : Int) * 2 = 2 from rfl] at this
  rw [this]; omega
theorem xor_i64_zero (n : Nat) (h : n < 9223372036854775808) : Go.bits .xor .i64 (n : Int) 0 = (n : Int) := by
  show IntKind.i64.wrap ((BitVec.ofInt 64 (n : Int) ^^^ BitVec.ofInt 64 0).toNat : Int) = _
  have e0 : BitVec.ofInt 64 (0 : Int) = BitVec.ofNat 64 0 := rfl
  rw [e0, BitVec.xor_zero, ofInt_nat, BitVec.toNat_ofNat, Nat.mod_eq_of_lt (by omega), IntKind.wrap_i64]
  omega
theorem xor_i64_ones (n : Nat) (h : n < 9223372036854775808) : Go.bits .xor .i64 (n : Int) (-1) = -(n : Int) - 1 := by
  show IntKind.i64.wrap ((BitVec.ofInt 64 (n : Int) ^^^ BitVec.ofInt 64 (-1)).toNat : Int) = _
  have e0 : BitVec.ofInt 64 (-1 : Int) = BitVec.allOnes 64 := by decide
  rw [e0, BitVec.xor_allOnes, ofInt_nat, BitVec.toNat_not, BitVec.toNat_ofNat, Nat.mod_eq_of_lt (by omega), IntKind.wrap_i64]
  have e1 : 2 ^ 64 - 1 - n = 18446744073709551615 - n := rfl
  rw [e1]
  omega

theorem cur_unzz (n : Nat) (h : n < 18446744073709551616) : Go.bits .xor .i64 (wrap64 ((n : Int) / 2)) (wrap64 (-(wrap64 (Go.bits .and .u64 (n : Int) 1)))) = unzz n := by
  rw [and_one n h, wrap64_in ((n : Int) / 2) (by omega) (by omega), show (n : Int) / 2 = ((n / 2 : Nat) : Int) by omega]
  unfold unzz
  by_cases h2 : n % 2 = 1
  · rw [if_pos h2, h2, wrap64_in ((1 : Nat) : Int) (by omega) (by omega), wrap64_in _ (by omega) (by omega)]
    exact xor_i64_ones (n / 2) (by omega)
  · rw [if_neg h2, show n % 2 = 0 by omega, wrap64_in ((0 : Nat) : Int) (by omega) (by omega), wrap64_in _ (by omega) (by omega)]
    exact xor_i64_zero (n / 2) (by omega)

/-- A number of its own bytes is taken, and nothing is left. -/
theorem take_own (n : Nat) (h : n < 18446744073709551616) : Ev (fun k => enc_Cursor_Uint.f k (S (encU n)) 0 0) ((n : Int), S (encU n), ((S (encU n)).size : Int), 0) := by
  have hl := encU_len n h
  have h1 := cur_uint (S (encU n)) 0 (by rw [S_size]; omega) (by omega)
  rw [S_toList, List.drop_zero] at h1
  have h2 := decU_put n h []
  rw [List.append_nil] at h2
  rw [h2] at h1
  rw [S_size]
  have e : outU (S (encU n)) 0 (0, (encU n).length, n) = ((n : Int), S (encU n), ((encU n).length : Int), 0) := by
    unfold outU; rw [if_pos rfl]; simp
  rw [e] at h1
  exact h1
end Go.Proofs.Ytfnijaiaodplgaa.EncL
