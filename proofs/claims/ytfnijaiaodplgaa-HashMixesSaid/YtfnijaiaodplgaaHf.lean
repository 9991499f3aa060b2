/- What stands behind so many bytes: the printed loop comes to the padding. Plain Lean. -/
import Derived.Test.YtfnijaiaodplgaaHe
set_option linter.unusedVariables false
set_option linter.unusedSimpArgs false
namespace Go.Proofs.Ytfnijaiaodplgaa.H
open Go.RowKit Go.Proofs.Ytfnijaiaodplgaa.Sha Go.Proofs.YtfnijaiaodplgaaW.PrintWords Go.Proofs.YtfnijaiaodplgaaW.PrintLast Go.Proofs.YtfnijaiaodplgaaW.PrintMore

theorem w64_of (x : Int) (h1 : -9223372036854775808 ≤ x) (h2 : x < 9223372036854775808) : wrap64 x = x := by
  have := IntWalk.i64_in x (by omega)
  first | exact this | (unfold wrap64; omega)
/-- Byte i of the number of bits, the lowest first. -/
def lowB (n i : Nat) : Int := ((n * 8 / 2 ^ (8 * i) % 256 : Nat) : Int)
/-- The padding of which the last i bytes are written. -/
def padI (n i : Nat) : List Int := 128 :: (List.replicate ((119 - n % 64) % 64 + (8 - i)) 0 ++ ((List.range i).map (lowB n)).reverse)
theorem padI_len (n i : Nat) (h : i ≤ 8) : (padI n i).length = 9 + (119 - n % 64) % 64 := by simp [padI]; omega
theorem padI_set (n i : Nat) (h : i < 8) : (padI n i).set ((119 - n % 64) % 64 + 8 - i) (lowB n i) = padI n (i + 1) := by
  unfold padI
  obtain ⟨r, hr⟩ : ∃ r, (119 - n % 64) % 64 = r := ⟨_, rfl⟩
  rw [hr, show r + 8 - i = (r + (7 - i)) + 1 by omega, List.set_cons_succ]
  congr 1
  rw [show r + (8 - i) = (r + (7 - i)) + 1 by omega, List.replicate_succ', List.append_assoc, List.set_append_right _ _ (by simp)]
  simp only [List.length_replicate, Nat.sub_self, List.cons_append, List.nil_append, List.set_cons_zero]
  rw [show r + (8 - (i + 1)) = r + (7 - i) by omega, List.range_succ, List.map_append, List.reverse_append]
  rfl
theorem padI_8 (n : Nat) : padI n 8 = byts (pad n) := by
  unfold padI byts pad
  have e : ∀ m : Nat, ((UInt8.ofNat m).toNat : Int) = ((m % 256 : Nat) : Int) := fun m => by rw [UInt8.toNat_ofNat']
  simp only [List.map_cons, List.map_append, List.map_replicate]
  congr 1
theorem shr_low (n i : Nat) (hn : n < 1152921504606846976) (hi : i < 8) : shr .u64 (IntKind.u64.wrap (IntKind.u64.wrap (n : Int) * 8)) (8 * (i : Int)) % 256 = lowB n i := by
  have e1 : IntKind.u64.wrap (n : Int) = (n : Int) := by simp [IntKind.wrap, IntKind.bits, IntKind.signed]; omega
  have e2 : IntKind.u64.wrap ((n : Int) * 8) = ((n * 8 : Nat) : Int) := by simp [IntKind.wrap, IntKind.bits, IntKind.signed]; omega
  rw [e1, e2]
  unfold lowB
  have e3 : shr .u64 ((n * 8 : Nat) : Int) (8 * (i : Int)) = ((n * 8 / 2 ^ (8 * i) : Nat) : Int) := by
    have : (8 * (i : Int)).toNat = 8 * i := by omega
    unfold shr
    simp [this, IntKind.bits]
    have : min (8 * i) 64 = 8 * i := by omega
    rw [this]
  rw [e3]
  omega
theorem tail_l0 (n : Nat) (hn : n < 1152921504606846976) : ∀ d i, i + d = 8 → PHash.hash_tail.l0 (d + 1) (n : Int) (padI n i) (i : Int) = some ⟨(pad n).toArray⟩ := by
  intro d
  induction d with
  | zero =>
    intro i hi
    obtain rfl : i = 8 := by omega
    unfold PHash.hash_tail.l0
    rw [if_neg (by omega), padI_8, strOf_byts]
  | succ d ih =>
    intro i hi
    have hlen := padI_len n i (by omega)
    have h := ih (i + 1) (by omega)
    unfold PHash.hash_tail.l0
    have w1 := w64_of (8 * (i : Int)) (by omega) (by omega)
    have w2 := w64_of (((padI n i).length : Int) - 1) (by omega) (by omega)
    have w3 := w64_of (((padI n i).length : Int) - 1 - (i : Int)) (by omega) (by omega)
    have w4 := w64_of ((i : Int) + 1) (by omega) (by omega)
    rw [w1, w2, w3, w4, if_pos (by omega), if_pos (by omega), if_pos (by omega), if_pos (by omega), shr_low n i hn (by omega)]
    have e : (((padI n i).length : Int) - 1 - (i : Int)).toNat = (119 - n % 64) % 64 + 8 - i := by omega
    rw [e, padI_set n i (by omega)]
    exact_mod_cast h
theorem tail_ok (n : Nat) (hn : n < 1152921504606846976) : PHash.hash_tail.f 9 (n : Int) = some ⟨(pad n).toArray⟩ := by
  unfold PHash.hash_tail.f
  have e1 : Int.tmod (n : Int) 64 = ((n % 64 : Nat) : Int) := by rw [Int.tmod_eq_emod_of_nonneg (by omega)]; omega
  have w1 := w64_of (119 - ((n % 64 : Nat) : Int)) (by omega) (by omega)
  have e2 : Int.tmod (119 - ((n % 64 : Nat) : Int)) 64 = (((119 - n % 64) % 64 : Nat) : Int) := by rw [Int.tmod_eq_emod_of_nonneg (by omega)]; omega
  have w2 := w64_of (1 + (((119 - n % 64) % 64 : Nat) : Int)) (by omega) (by omega)
  have w3 := w64_of (1 + (((119 - n % 64) % 64 : Nat) : Int) + 8) (by omega) (by omega)
  rw [e1, w1, e2, w2, w3, if_pos (by omega)]
  have e3 : (1 + (((119 - n % 64) % 64 : Nat) : Int) + 8).toNat = (119 - n % 64) % 64 + 9 := by omega
  rw [e3, if_pos (by omega)]
  have hl : ((List.replicate ((119 - n % 64) % 64 + 9) (0 : Int)).length : Int) > 0 := by rw [List.length_replicate]; omega
  show (if 0 < ((List.replicate ((119 - n % 64) % 64 + 9) (0 : Int)).length : Int) then _ else none) = _
  rw [if_pos hl]
  have e4 : (List.replicate ((119 - n % 64) % 64 + 9) (0 : Int)).set (0 : Int).toNat 128 = padI n 0 := by
    rw [List.replicate_succ]
    simp [padI]
  rw [e4]
  exact tail_l0 n hn 8 0 rfl
theorem sum_calls (s : ByteArray) (w : World) (hs : s.size < 1152921504606846976) : Calls Try.prog 33 #[.string s] w fun e w' => e = .returned (.string ⟨(sum s.toList).toArray⟩) ∧ Below w.heap.size w w' :=
  sum_any s w hs 9 (tail_ok s.size hs)
end Go.Proofs.Ytfnijaiaodplgaa.H
