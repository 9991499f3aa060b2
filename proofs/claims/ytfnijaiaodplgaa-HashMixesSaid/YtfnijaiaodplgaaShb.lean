/- Blocks mixed in one behind the other, and what a reference reckons otherwise: plain Lean, no program. -/
import Derived.Test.YtfnijaiaodplgaaSha
namespace Go.Proofs.Ytfnijaiaodplgaa.Sha
theorem blocks_snoc : ∀ (n : Nat) (h : St) (l : List UInt8), blocks (n + 1) h l = mix (blocks n h l) ((l.drop (64 * n)).take 64) := by
  intro n
  induction n with
  | zero => intro h l; rfl
  | succ n ih =>
    intro h l
    show blocks (n + 1) (mix h (l.take 64)) (l.drop 64) = mix (blocks n (mix h (l.take 64)) (l.drop 64)) _
    rw [ih, List.drop_drop]
    congr 3
    omega
theorem blocks_append : ∀ (a b : Nat) (h : St) (l : List UInt8), blocks (a + b) h l = blocks b (blocks a h l) (l.drop (64 * a)) := by
  intro a
  induction a with
  | zero => intro b h l; simp [blocks]
  | succ a ih =>
    intro b h l
    rw [show a + 1 + b = (a + b) + 1 by omega]
    show blocks (a + b) (mix h (l.take 64)) (l.drop 64) = blocks b (blocks a (mix h (l.take 64)) (l.drop 64)) _
    rw [ih, List.drop_drop]
    congr 2
    omega
theorem blocks_prefix : ∀ (n : Nat) (h : St) (l r : List UInt8), 64 * n ≤ l.length → blocks n h (l ++ r) = blocks n h l := by
  intro n
  induction n with
  | zero => intro h l r _; rfl
  | succ n ih =>
    intro h l r hl
    show blocks n (mix h ((l ++ r).take 64)) ((l ++ r).drop 64) = blocks n (mix h (l.take 64)) (l.drop 64)
    rw [List.take_append_of_le_length (by omega), List.drop_append_of_le_length (by omega), ih _ _ _ (by simp; omega)]
theorem sum_parts (l : List UInt8) : sum l = out (blocks ((l.length + 72) / 64 - l.length / 64) (blocks (l.length / 64) start l) (l.drop (64 * (l.length / 64)) ++ pad l.length)) := by
  unfold sum
  have e : (l.length + 72) / 64 = l.length / 64 + ((l.length + 72) / 64 - l.length / 64) := by omega
  rw [e, blocks_append, blocks_prefix _ _ _ _ (by omega), List.drop_append_of_le_length (by omega)]
  congr 3
theorem be_length (x : UInt32) : (be x).length = 4 := rfl

theorem u32_not (e : UInt32) : 4294967295 - e = ~~~e := by
  apply UInt32.toNat_inj.1
  rw [UInt32.toNat_sub, UInt32.toNat_not]
  have := e.toNat_lt
  show (2 ^ 32 - e.toNat + 4294967295) % 2 ^ 32 = 2 ^ 32 - 1 - e.toNat
  omega
theorem u32_ext (x y : UInt32) (h : ∀ i, i < 32 → x.toBitVec.getLsbD i = y.toBitVec.getLsbD i) : x = y :=
  UInt32.toBitVec_inj.1 (BitVec.eq_of_getLsbD_eq h)
theorem ref_ch (e f g : UInt32) : (e &&& f) ||| ((4294967295 - e) &&& g) = (e &&& f) ^^^ (~~~e &&& g) := by
  rw [u32_not]
  apply u32_ext
  intro i hi
  simp only [UInt32.toBitVec_or, UInt32.toBitVec_xor, UInt32.toBitVec_and, UInt32.toBitVec_not, BitVec.getLsbD_or, BitVec.getLsbD_xor, BitVec.getLsbD_and, BitVec.getLsbD_not, hi, decide_true, Bool.true_and]
  cases e.toBitVec.getLsbD i <;> cases f.toBitVec.getLsbD i <;> cases g.toBitVec.getLsbD i <;> rfl
theorem ref_maj (a b c : UInt32) : (a &&& b) ||| (a &&& c) ||| (b &&& c) = (a &&& b) ^^^ (a &&& c) ^^^ (b &&& c) := by
  apply u32_ext
  intro i hi
  simp only [UInt32.toBitVec_or, UInt32.toBitVec_xor, UInt32.toBitVec_and, BitVec.getLsbD_or, BitVec.getLsbD_xor, BitVec.getLsbD_and]
  cases a.toBitVec.getLsbD i <;> cases b.toBitVec.getLsbD i <;> cases c.toBitVec.getLsbD i <;> rfl
end Go.Proofs.Ytfnijaiaodplgaa.Sha
