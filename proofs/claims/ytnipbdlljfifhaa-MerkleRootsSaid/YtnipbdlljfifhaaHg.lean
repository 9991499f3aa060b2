/- What stands behind so many bytes: the printed loop comes to the padding. Plain Lean. -/
/- The reference's words: Start, salts, turn, Mix. -/
import Derived.Test.YtnipbdlljfifhaaHe
set_option linter.unusedVariables false
set_option linter.unusedSimpArgs false
namespace Go.Proofs.Ytnipbdlljfifhaa.H
open Go.RowKit Go.Proofs.Ytnipbdlljfifhaa.Sha Go.Proofs.YtnipbdlljfifhaaW.PrintWords Go.Proofs.YtnipbdlljfifhaaW.PrintLast Go.Proofs.YtnipbdlljfifhaaW.PrintMore

theorem w64_of (x : Int) (h1 : -9223372036854775808 ≤ x) (h2 : x < 9223372036854775808) : wrap64 x = x := by
  have := IntWalk.i64_in x (by omega)
  first | exact this | (unfold wrap64; omega)
/-- Byte i of the number of bits, the lowest first. -/
def lowB (n i : Nat) : Int := ((n * 8 / 2 ^ (8 * i) % 256 : Nat) : Int)
/-- The padding of which the last i bytes are written. -/
def padI (n i : Nat) : List Int := 128 :: (List.replicate ((119 - n % 64) % 64 + (8 - i)) 0 ++ ((List.range i).map (lowB n)).reverse)
theorem padI_len (n i : Nat) (h : i ≤ 8) : (padI n i).length = 9 + (119 - n % 64) % 64 := by simp [padI]; omega
theorem padI_set (n i : Nat) (h : i < 8) : (padI n i).set ((119 - n % 64) % 64 + 8 - i) (lowB n i) = padI n (i + 1) := by
  unfold padI
  obtain ⟨r, hr⟩ : ∃ r, (119 - n % 64) % 64 = r := ⟨_, rfl⟩
  rw [hr, show r + 8 - i = (r + (7 - i)) + 1 by omega, List.set_cons_succ]
  congr 1
  rw [show r + (8 - i) = (r + (7 - i)) + 1 by omega, List.replicate_succ', List.append_assoc, List.set_append_right _ _ (by simp)]
  simp only [List.length_replicate, Nat.sub_self, List.cons_append, List.nil_append, List.set_cons_zero]
  rw [show r + (8 - (i + 1)) = r + (7 - i) by omega, List.range_succ, List.map_append, List.reverse_append]
  rfl
theorem padI_8 (n : Nat) : padI n 8 = byts (pad n) := by
  unfold padI byts pad
  have e : ∀ m : Nat, ((UInt8.ofNat m).toNat : Int) = ((m % 256 : Nat) : Int) := fun m => by rw [UInt8.toNat_ofNat']
  simp only [List.map_cons, List.map_append, List.map_replicate]
  congr 1
theorem shr_low (n i : Nat) (hn : n < 1152921504606846976) (hi : i < 8) : shr .u64 (IntKind.u64.wrap (IntKind.u64.wrap (n : Int) * 8)) (8 * (i : Int)) % 256 = lowB n i := by
  have e1 : IntKind.u64.wrap (n : Int) = (n : Int) := by simp [IntKind.wrap, IntKind.bits, IntKind.signed]; omega
  have e2 : IntKind.u64.wrap ((n : Int) * 8) = ((n * 8 : Nat) : Int) := by simp [IntKind.wrap, IntKind.bits, IntKind.signed]; omega
  rw [e1, e2]
  unfold lowB
  have e3 : shr .u64 ((n * 8 : Nat) : Int) (8 * (i : Int)) = ((n * 8 / 2 ^ (8 * i) : Nat) : Int) := by
    have : (8 * (i : Int)).toNat = 8 * i := by omega
    unfold shr
    simp [this, IntKind.bits]
    have : min (8 * i) 64 = 8 * i := by omega
    rw [this]
  rw [e3]
  omega
theorem tail_l0 (n : Nat) (hn : n < 1152921504606846976) : ∀ d i, i + d = 8 → PHash.hash_tail.l0 (d + 1) (n : Int) (padI n i) (i : Int) = some ⟨(pad n).toArray⟩ := by
  intro d
  induction d with
  | zero =>
    intro i hi
    obtain rfl : i = 8 := by omega
    unfold PHash.hash_tail.l0
    rw [if_neg (by omega), padI_8, strOf_byts]
  | succ d ih =>
    intro i hi
    have hlen := padI_len n i (by omega)
    have h := ih (i + 1) (by omega)
    unfold PHash.hash_tail.l0
    have w1 := w64_of (8 * (i : Int)) (by omega) (by omega)
    have w2 := w64_of (((padI n i).length : Int) - 1) (by omega) (by omega)
    have w3 := w64_of (((padI n i).length : Int) - 1 - (i : Int)) (by omega) (by omega)
    have w4 := w64_of ((i : Int) + 1) (by omega) (by omega)
    rw [w1, w2, w3, w4, if_pos (by omega), if_pos (by omega), if_pos (by omega), if_pos (by omega), shr_low n i hn (by omega)]
    have e : (((padI n i).length : Int) - 1 - (i : Int)).toNat = (119 - n % 64) % 64 + 8 - i := by omega
    rw [e, padI_set n i (by omega)]
    exact_mod_cast h
theorem tail_ok (n : Nat) (hn : n < 1152921504606846976) : PHash.hash_tail.f 9 (n : Int) = some ⟨(pad n).toArray⟩ := by
  unfold PHash.hash_tail.f
  have e1 : Int.tmod (n : Int) 64 = ((n % 64 : Nat) : Int) := by rw [Int.tmod_eq_emod_of_nonneg (by omega)]; omega
  have w1 := w64_of (119 - ((n % 64 : Nat) : Int)) (by omega) (by omega)
  have e2 : Int.tmod (119 - ((n % 64 : Nat) : Int)) 64 = (((119 - n % 64) % 64 : Nat) : Int) := by rw [Int.tmod_eq_emod_of_nonneg (by omega)]; omega
  have w2 := w64_of (1 + (((119 - n % 64) % 64 : Nat) : Int)) (by omega) (by omega)
  have w3 := w64_of (1 + (((119 - n % 64) % 64 : Nat) : Int) + 8) (by omega) (by omega)
  rw [e1, w1, e2, w2, w3, if_pos (by omega)]
  have e3 : (1 + (((119 - n % 64) % 64 : Nat) : Int) + 8).toNat = (119 - n % 64) % 64 + 9 := by omega
  rw [e3, if_pos (by omega)]
  have hl : ((List.replicate ((119 - n % 64) % 64 + 9) (0 : Int)).length : Int) > 0 := by rw [List.length_replicate]; omega
  show (if 0 < ((List.replicate ((119 - n % 64) % 64 + 9) (0 : Int)).length : Int) then _ else none) = _
  rw [if_pos hl]
  have e4 : (List.replicate ((119 - n % 64) % 64 + 9) (0 : Int)).set (0 : Int).toNat 128 = padI n 0 := by
    rw [List.replicate_succ]
    simp [padI]
  rw [e4]
  exact tail_l0 n hn 8 0 rfl
theorem sum_calls (s : ByteArray) (w : World) (hs : s.size < 1152921504606846976) : Calls Try.prog 33 #[.string s] w fun e w' => e = .returned (.string ⟨(sum s.toList).toArray⟩) ∧ Below w.heap.size w w' :=
  sum_any s w hs 9 (tail_ok s.size hs)
end Go.Proofs.Ytnipbdlljfifhaa.H
set_option linter.unusedVariables false
set_option linter.unusedSimpArgs false
namespace Go.Proofs.Ytnipbdlljfifhaa.H
open Go.RowKit Go.Proofs.Ytnipbdlljfifhaa.Sha Go.Proofs.YtnipbdlljfifhaaW.PrintWords Go.Proofs.YtnipbdlljfifhaaW.PrintLast

theorem zero32 : (Try.prog.info? 63).map (·.zero) = some (some (.agg z8)) := by kernel_rfl
theorem size32 (l : List UInt32) (h : l.length = 8) : (Try.prog.info? 63).map (·.size) = some (us l).size := by
  rw [us_size, h]; kernel_rfl
theorem at32 (g i : Nat) (x : Int) (hx : x = (i : Int)) (hi : i < 8) (w : World) : (Instr.indexAt 63 (.pointer (some ⟨g, 0, none⟩)) (.int .i64 x)).run Try.prog w = .ok (.pointer (some ⟨g, i, none⟩)) w := by
  subst hx
  have h2 : (i : Int) < 8 := by omega
  simp [go_sem, Try.underlying63, h2]
theorem refStart_any (w : World) : Calls Try.prog 40 #[] w fun e w' => e = .returned (.agg (us Sha.start.l)) ∧ Below w.heap.size w w' := by
  go_enter Try.func40, Try.ntmps40
  go_wp2
  refine bodyPost_ret (results_cell_row rfl _ _ w.heap.size 63 _ (0, 0) _ rfl (heap_alloc_last w _) Try.underlying63 rfl (by kernel_rfl)) rfl ⟨?_, (Below.refl _ _).alloc (Nat.le_refl _) _⟩
  rfl
set_option maxHeartbeats 1000000 in
set_option maxRecDepth 100000 in
theorem salts_any (w : World) : Calls Try.prog 47 #[] w fun e w' => e = .returned (.agg (us keys)) ∧ Below w.heap.size w w' := by
  go_enter Try.func47, Try.ntmps47
  apply wp_seq_k
  intro K1 hK1
  apply wp_region_lit
  refine wpList_alloc_arr rfl 72 rfl z64 zero78 ?_
  apply wpList_nil
  refine hK1 _ _ ?_
  apply wp_seq_k
  intro K2 hK2
  apply wp_region_lit
  refine wpList_build rfl 72 _ rfl (by kernel_rfl) ?_
  refine wpList_store_row rfl 72 _ _ rfl w.heap.size (us keys) rfl (by kernel_rfl) 72 z64 (heap_alloc_last w _) (size78 _ rfl) (by rw [us_size]; kernel_rfl) (us_one _) ?_
  rw [World.setRow_alloc_new]
  apply wpList_nil
  refine hK2 _ _ ?_
  apply wp_ret
  exact bodyPost_ret (results_cell_row rfl _ _ w.heap.size 72 (us keys) (0, 0) _ rfl (heap_alloc_last w _) Try.underlying72 rfl (size78 _ rfl)) rfl ⟨rfl, (Below.refl _ _).alloc (Nat.le_refl _) _⟩
theorem turn_any (x : UInt32) (m n : Nat) (hmn : m + n = 32) (h1 : 1 ≤ m) (h2 : 1 ≤ n) (w : World) :
    Calls Try.prog 48 #[.int .u32 x.toNat, .int .i64 n] w fun e w' => e = .returned (.int .u32 (rotr x (UInt32.ofNat n) (UInt32.ofNat m)).toNat) ∧ w' = w := by
  have e0 : IntKind.u64.wrap (n : Int) = (n : Int) := by simp [IntKind.wrap, IntKind.bits, IntKind.signed]; omega
  have e1 : IntKind.i64.wrap (32 - (n : Int)) = (m : Int) := by rw [IntWalk.i64_in _ (by omega)]; omega
  have e2 : IntKind.u64.wrap (m : Int) = (m : Int) := by simp [IntKind.wrap, IntKind.bits, IntKind.signed]; omega
  have e1' : IntKind.u64.wrap (32 - (n : Int)) = (m : Int) := by simp [IntKind.wrap, IntKind.bits, IntKind.signed]; omega
  have hm : m ≤ 31 := by omega
  have hn : n ≤ 31 := by omega
  have HM := Lib.hid hmn
  clear hmn
  go_enter Try.func48, Try.ntmps48
  go_wp2
  go_ret
  refine ⟨?_, rfl⟩
  have f1 := u_shl x m (by omega)
  have f2 := u_shr x n (by omega)
  rw [wrap_u32, Int.natCast_pow] at f1
  rw [Int.natCast_pow] at f2
  rw [show ((x.toNat : Int) * 2 ^ m) % 4294967296 = _ from f1, show (x.toNat : Int) / 2 ^ n = _ from f2, u_or]
  unfold rotr
  rw [UInt32.or_comm]
  rfl
theorem turn7 (x : UInt32) (w : World) : Calls Try.prog 48 #[.int .u32 x.toNat, .int .i64 7] w fun e w' => e = .returned (.int .u32 (rotr x 7 25).toNat) ∧ w' = w := turn_any x 25 7 (by decide) (by decide) (by decide) w
theorem turn18 (x : UInt32) (w : World) : Calls Try.prog 48 #[.int .u32 x.toNat, .int .i64 18] w fun e w' => e = .returned (.int .u32 (rotr x 18 14).toNat) ∧ w' = w := turn_any x 14 18 (by decide) (by decide) (by decide) w
theorem turn17 (x : UInt32) (w : World) : Calls Try.prog 48 #[.int .u32 x.toNat, .int .i64 17] w fun e w' => e = .returned (.int .u32 (rotr x 17 15).toNat) ∧ w' = w := turn_any x 15 17 (by decide) (by decide) (by decide) w
theorem turn19 (x : UInt32) (w : World) : Calls Try.prog 48 #[.int .u32 x.toNat, .int .i64 19] w fun e w' => e = .returned (.int .u32 (rotr x 19 13).toNat) ∧ w' = w := turn_any x 13 19 (by decide) (by decide) (by decide) w
theorem turn6 (x : UInt32) (w : World) : Calls Try.prog 48 #[.int .u32 x.toNat, .int .i64 6] w fun e w' => e = .returned (.int .u32 (rotr x 6 26).toNat) ∧ w' = w := turn_any x 26 6 (by decide) (by decide) (by decide) w
theorem turn11 (x : UInt32) (w : World) : Calls Try.prog 48 #[.int .u32 x.toNat, .int .i64 11] w fun e w' => e = .returned (.int .u32 (rotr x 11 21).toNat) ∧ w' = w := turn_any x 21 11 (by decide) (by decide) (by decide) w
theorem turn25 (x : UInt32) (w : World) : Calls Try.prog 48 #[.int .u32 x.toNat, .int .i64 25] w fun e w' => e = .returned (.int .u32 (rotr x 25 7).toNat) ∧ w' = w := turn_any x 7 25 (by decide) (by decide) (by decide) w
theorem turn2 (x : UInt32) (w : World) : Calls Try.prog 48 #[.int .u32 x.toNat, .int .i64 2] w fun e w' => e = .returned (.int .u32 (rotr x 2 30).toNat) ∧ w' = w := turn_any x 30 2 (by decide) (by decide) (by decide) w
theorem turn13 (x : UInt32) (w : World) : Calls Try.prog 48 #[.int .u32 x.toNat, .int .i64 13] w fun e w' => e = .returned (.int .u32 (rotr x 13 19).toNat) ∧ w' = w := turn_any x 19 13 (by decide) (by decide) (by decide) w
theorem turn22 (x : UInt32) (w : World) : Calls Try.prog 48 #[.int .u32 x.toNat, .int .i64 22] w fun e w' => e = .returned (.int .u32 (rotr x 22 10).toNat) ∧ w' = w := turn_any x 10 22 (by decide) (by decide) (by decide) w

/-- The words as the reference gathers them: byte by byte. -/
def accs (l : List UInt8) : Nat → List UInt32
  | 0 => List.replicate 64 0
  | i + 1 => (accs l i).set (i / 4) (at_ (accs l i) (i / 4) * 256 + byte l i)
theorem accs_length (l : List UInt8) : ∀ i, (accs l i).length = 64 := by
  intro i
  induction i with
  | zero => rfl
  | succ i ih => simp [accs, ih]
theorem set_at (l : List UInt32) (i : Nat) (x : UInt32) (h : i < l.length) : at_ (l.set i x) i = x := by
  simp [at_, h]
theorem mul256 (x : UInt32) : x * (256 : UInt32) = x <<< (8 : UInt32) := by
  apply UInt32.toNat_inj.1
  rw [UInt32.toNat_mul, UInt32.toNat_shiftLeft, Nat.shiftLeft_eq]
  rfl
theorem word_acc (l : List UInt8) (k : Nat) : (((0 * 256 + byte l (4 * k)) * 256 + byte l (4 * k + 1)) * 256 + byte l (4 * k + 2)) * 256 + byte l (4 * k + 3) = word l k := by
  apply UInt32.toNat_inj.1
  have b : ∀ i, (byte l i).toNat < 256 := fun i => by unfold byte; rw [UInt8.toNat_toUInt32]; exact UInt8.toNat_lt _
  have b0 := b (4 * k); have b1 := b (4 * k + 1); have b2 := b (4 * k + 2); have b3 := b (4 * k + 3)
  have e := word_add (byte l (4 * k)).toNat (byte l (4 * k + 1)).toNat (byte l (4 * k + 2)).toNat (byte l (4 * k + 3)).toNat b1 b2 b3
  have f : (word l k).toNat = (byte l (4 * k)).toNat * 16777216 + (byte l (4 * k + 1)).toNat * 65536 + (byte l (4 * k + 2)).toNat * 256 + (byte l (4 * k + 3)).toNat := by
    rw [← e]
    unfold word
    simp only [UInt32.toNat_or, UInt32.toNat_shiftLeft]
    rw [show (24 : UInt32).toNat % 32 = 24 from rfl, show (16 : UInt32).toNat % 32 = 16 from rfl, show (8 : UInt32).toNat % 32 = 8 from rfl, Nat.shiftLeft_eq, Nat.shiftLeft_eq, Nat.shiftLeft_eq]
    rw [Nat.mod_eq_of_lt (by omega), Nat.mod_eq_of_lt (by omega), Nat.mod_eq_of_lt (by omega)]
  rw [f]
  simp only [UInt32.toNat_add, UInt32.toNat_mul]
  rw [show (256 : UInt32).toNat = 256 from rfl, show (0 : UInt32).toNat = 0 from rfl]
  omega
theorem part1_0 (l : List UInt8) (k j : Nat) (h : k ≤ j) (h2 : j < 64) : at_ (part1 l k) j = 0 := by
  unfold part1 at_
  rw [List.getD_eq_getElem?_getD, List.getElem?_append_right (by simpa using h)]
  simp
  have : (List.replicate (64 - k) (0 : UInt32))[j - k]? = some 0 := by rw [List.getElem?_replicate, if_pos (by omega)]
  simp only [this, Option.getD_some]
theorem accs_part (l : List UInt8) : ∀ k, k ≤ 16 → accs l (4 * k) = part1 l k := by
  intro k
  induction k with
  | zero => intro _; rfl
  | succ k ih =>
    intro hk
    have h := ih (by omega)
    have hl := part1_length l k (by omega)
    rw [show 4 * (k + 1) = 4 * k + 1 + 1 + 1 + 1 by omega]
    unfold accs
    unfold accs
    unfold accs
    unfold accs
    rw [show (4 * k + 1 + 1 + 1) / 4 = k by omega, show (4 * k + 1 + 1) / 4 = k by omega, show (4 * k + 1) / 4 = k by omega, show (4 * k) / 4 = k by omega, h]
    rw [part1_0 l k k (Nat.le_refl _) (by omega)]
    simp only [set_at _ _ _ (show k < (part1 l k).length by omega), List.set_set, List.length_set]
    rw [show 4 * k + 1 + 1 = 4 * k + 2 from rfl, show 4 * k + 2 + 1 = 4 * k + 3 from rfl, word_acc]
    exact part1_set l k (by omega)
theorem u_mul256 (x : UInt32) : IntKind.u32.wrap ((x.toNat : Int) * 256) = ((x * (256 : UInt32)).toNat : Int) := by rw [mul256]; exact u_shl8 x
end Go.Proofs.Ytnipbdlljfifhaa.H
