/- The walk's arithmetic on words of 32 bits, as that of UInt32. -/
import Derived.Test.YtnipbdlljfifhaaHw
import Derived.Outline
import Derived.Lib.Hide
import Derived.StillTailTactics
set_option linter.unusedVariables false
set_option linter.unusedSimpArgs false
namespace Go.Proofs.Ytnipbdlljfifhaa.H
open Go.RowKit Go.Proofs.Ytnipbdlljfifhaa.Sha Go.Proofs.YtnipbdlljfifhaaW.PrintWords Go.Proofs.YtnipbdlljfifhaaW.PrintLast

def z64 : Array Value := us (List.replicate 64 0)
def z8 : Array Value := us (List.replicate 8 0)
theorem zero78 : (Try.prog.info? 72).map (·.zero) = some (some (.agg z64)) := by kernel_rfl
theorem zero33 : (Try.prog.info? 66).map (·.zero) = some (some (.agg z8)) := by kernel_rfl
theorem size78 (l : List UInt32) (h : l.length = 64) : (Try.prog.info? 72).map (·.size) = some (us l).size := by
  rw [us_size, h]; kernel_rfl
theorem size33 (l : List UInt32) (h : l.length = 8) : (Try.prog.info? 66).map (·.size) = some (us l).size := by
  rw [us_size, h]; kernel_rfl

/-- hash.Start: the words ahead of all bytes. -/
theorem start_any (w : World) : Calls Try.prog 42 #[] w fun e w' => e = .returned (.agg (us Sha.start.l)) ∧ Below w.heap.size w w' := by
  go_enter Try.func42, Try.ntmps42
  go_wp2
  refine bodyPost_ret (results_cell_row rfl _ _ w.heap.size 66 _ (0, 0) _ rfl (heap_alloc_last w _) Try.underlying66 rfl (by kernel_rfl)) rfl ⟨?_, (Below.refl _ _).alloc (Nat.le_refl _) _⟩
  rfl

set_option maxHeartbeats 1000000 in
set_option maxRecDepth 100000 in
theorem keys_any (w : World) : Calls Try.prog 50 #[] w fun e w' => e = .returned (.agg (us keys)) ∧ Below w.heap.size w w' := by
  go_enter Try.func50, Try.ntmps50
  apply wp_seq_k
  intro K1 hK1
  apply wp_region_lit
  refine wpList_alloc_arr rfl 72 rfl z64 zero78 ?_
  apply wpList_nil
  refine hK1 _ _ ?_
  apply wp_seq_k
  intro K2 hK2
  apply wp_region_lit
  refine wpList_build rfl 72 _ rfl (by kernel_rfl) ?_
  refine wpList_store_row rfl 72 _ _ rfl w.heap.size (us keys) rfl (by kernel_rfl) 72 z64 (heap_alloc_last w _) (size78 _ rfl) (by rw [us_size]; kernel_rfl) (us_one _) ?_
  rw [World.setRow_alloc_new]
  apply wpList_nil
  refine hK2 _ _ ?_
  apply wp_ret
  exact bodyPost_ret (results_cell_row rfl _ _ w.heap.size 72 (us keys) (0, 0) _ rfl (heap_alloc_last w _) Try.underlying72 rfl (size78 _ rfl)) rfl ⟨rfl, (Below.refl _ _).alloc (Nat.le_refl _) _⟩
end Go.Proofs.Ytnipbdlljfifhaa.H
set_option linter.unusedVariables false
set_option linter.unusedSimpArgs false
namespace Go.Proofs.Ytnipbdlljfifhaa.H
open Go.RowKit Go.Proofs.Ytnipbdlljfifhaa.Sha

theorem wrap_u32 (n : Int) : IntKind.u32.wrap n = n % 4294967296 := IntKind.wrap_u32 n
theorem u_lt (x : UInt32) : (x.toNat : Int) < 4294967296 := by have := x.toNat_lt; omega
theorem u_wrap (x : UInt32) : IntKind.u32.wrap (x.toNat : Int) = (x.toNat : Int) := by rw [wrap_u32]; have := u_lt x; omega
theorem u_add (x y : UInt32) : IntKind.u32.wrap ((x.toNat : Int) + (y.toNat : Int)) = ((x + y).toNat : Int) := by
  rw [wrap_u32, UInt32.toNat_add]; omega
theorem u_add' (x y : UInt32) : ((x.toNat : Int) + (y.toNat : Int)) % 4294967296 = ((x + y).toNat : Int) := by
  rw [UInt32.toNat_add]; omega
theorem ofInt32 (x : UInt32) : BitVec.ofInt 32 (x.toNat : Int) = x.toBitVec := by
  rw [BitVec.ofInt_natCast]
  exact BitVec.eq_of_toNat_eq (by rw [BitVec.toNat_ofNat]; exact Nat.mod_eq_of_lt x.toNat_lt)
theorem u_or (x y : UInt32) : Go.bits .or .u32 (x.toNat : Int) (y.toNat : Int) = ((x ||| y).toNat : Int) := by
  show IntKind.u32.wrap ((BitVec.ofInt 32 (x.toNat : Int) ||| BitVec.ofInt 32 (y.toNat : Int)).toNat : Int) = _
  rw [ofInt32, ofInt32]; exact u_wrap (x ||| y)
theorem u_and (x y : UInt32) : Go.bits .and .u32 (x.toNat : Int) (y.toNat : Int) = ((x &&& y).toNat : Int) := by
  show IntKind.u32.wrap ((BitVec.ofInt 32 (x.toNat : Int) &&& BitVec.ofInt 32 (y.toNat : Int)).toNat : Int) = _
  rw [ofInt32, ofInt32]; exact u_wrap (x &&& y)
theorem u_xor (x y : UInt32) : Go.bits .xor .u32 (x.toNat : Int) (y.toNat : Int) = ((x ^^^ y).toNat : Int) := by
  show IntKind.u32.wrap ((BitVec.ofInt 32 (x.toNat : Int) ^^^ BitVec.ofInt 32 (y.toNat : Int)).toNat : Int) = _
  rw [ofInt32, ofInt32]; exact u_wrap (x ^^^ y)
theorem u_shl (x : UInt32) (n : Nat) (h : n < 32) : IntKind.u32.wrap ((x.toNat : Int) * ((2 ^ n : Nat) : Int)) = ((x <<< UInt32.ofNat n).toNat : Int) := by
  rw [wrap_u32, UInt32.toNat_shiftLeft, UInt32.toNat_ofNat', Nat.mod_eq_of_lt (by omega : n < 2 ^ 32), Nat.mod_eq_of_lt h, Nat.shiftLeft_eq]
  rw [← Int.natCast_mul]
  exact (Int.natCast_emod _ _).symm
theorem u_shr (x : UInt32) (n : Nat) (h : n < 32) : (x.toNat : Int) / ((2 ^ n : Nat) : Int) = ((x >>> UInt32.ofNat n).toNat : Int) := by
  rw [UInt32.toNat_shiftRight, UInt32.toNat_ofNat', Nat.mod_eq_of_lt (by omega : n < 2 ^ 32), Nat.mod_eq_of_lt h, Nat.shiftRight_eq_div_pow, Int.natCast_ediv]
theorem u_shl24 (x : UInt32) : IntKind.u32.wrap ((x.toNat : Int) * 16777216) = ((x <<< 24).toNat : Int) := u_shl x 24 (by decide)
theorem u_shl16 (x : UInt32) : IntKind.u32.wrap ((x.toNat : Int) * 65536) = ((x <<< 16).toNat : Int) := u_shl x 16 (by decide)
theorem u_shl8 (x : UInt32) : IntKind.u32.wrap ((x.toNat : Int) * 256) = ((x <<< 8).toNat : Int) := u_shl x 8 (by decide)
theorem u_shr3 (x : UInt32) : (x.toNat : Int) / (8 : Int) = ((x >>> 3).toNat : Int) := u_shr x 3 (by decide)
theorem u_shr10 (x : UInt32) : (x.toNat : Int) / (1024 : Int) = ((x >>> 10).toNat : Int) := u_shr x 10 (by decide)
theorem u_of8 (b : UInt8) : IntKind.u32.wrap (b.toNat : Int) = (b.toUInt32.toNat : Int) := by
  rw [wrap_u32, UInt8.toNat_toUInt32]; have := b.toNat_lt; omega
theorem u_of8' (b : UInt8) : ((b.toNat : Int)) % 4294967296 = (b.toUInt32.toNat : Int) := by
  rw [UInt8.toNat_toUInt32]; have := b.toNat_lt; omega
theorem u_not (x : UInt32) : Go.bits .xor .u32 (-1) (x.toNat : Int) = ((~~~x).toNat : Int) := by
  show IntKind.u32.wrap ((BitVec.ofInt 32 (-1) ^^^ BitVec.ofInt 32 (x.toNat : Int)).toNat : Int) = _
  have e0 : BitVec.ofInt 32 (-1 : Int) = BitVec.allOnes 32 := by decide
  rw [ofInt32, e0, BitVec.allOnes_xor]
  exact u_wrap (~~~x)
theorem u_not2 (x : UInt32) : Go.bits .xor .u32 (if IntKind.u32.signed = true then -1 else IntKind.u32.max) (x.toNat : Int) = ((~~~x).toNat : Int) := by
  rw [if_neg (by decide), show IntKind.u32.max = 4294967295 by decide]
  show IntKind.u32.wrap ((BitVec.ofInt 32 4294967295 ^^^ BitVec.ofInt 32 (x.toNat : Int)).toNat : Int) = _
  have e0 : BitVec.ofInt 32 (4294967295 : Int) = BitVec.allOnes 32 := by decide
  rw [ofInt32, e0, BitVec.allOnes_xor]
  exact u_wrap (~~~x)
theorem rT_int (x : St) (k w : UInt32) : IntKind.u32.wrap (IntKind.u32.wrap (IntKind.u32.wrap (IntKind.u32.wrap ((x.h.toNat : Int) + Go.bits .xor .u32 (Go.bits .xor .u32 ((rotr x.e 6 26).toNat : Int) ((rotr x.e 11 21).toNat : Int)) ((rotr x.e 25 7).toNat : Int)) +
    Go.bits .xor .u32 (Go.bits .and .u32 (x.e.toNat : Int) (x.f.toNat : Int)) (Go.bits .and .u32 (Go.bits .xor .u32 (if IntKind.u32.signed = true then -1 else IntKind.u32.max) (x.e.toNat : Int)) (x.g.toNat : Int))) + (k.toNat : Int)) + (w.toNat : Int)) = ((rT x k w).toNat : Int) := by
  rw [u_xor, u_xor, u_and, u_not2, u_and, u_xor, u_add, u_add, u_add, u_add]
  rfl
theorem rU_int (x : St) : IntKind.u32.wrap (Go.bits .xor .u32 (Go.bits .xor .u32 ((rotr x.a 2 30).toNat : Int) ((rotr x.a 13 19).toNat : Int)) ((rotr x.a 22 10).toNat : Int) +
    Go.bits .xor .u32 (Go.bits .xor .u32 (Go.bits .and .u32 (x.a.toNat : Int) (x.b.toNat : Int)) (Go.bits .and .u32 (x.a.toNat : Int) (x.c.toNat : Int))) (Go.bits .and .u32 (x.b.toNat : Int) (x.c.toNat : Int))) = ((rU x).toNat : Int) := by
  rw [u_xor, u_xor, u_and, u_and, u_and, u_xor, u_xor, u_add]
  rfl
end Go.Proofs.Ytnipbdlljfifhaa.H
set_option linter.unusedVariables false
set_option linter.unusedSimpArgs false
namespace Go.Proofs.Ytnipbdlljfifhaa.H
open Go.RowKit Go.Proofs.Ytnipbdlljfifhaa.Sha Go.Proofs.YtnipbdlljfifhaaW.PrintWords Go.Proofs.YtnipbdlljfifhaaW.PrintLast

theorem index_s (s : ByteArray) (j : Nat) (x : Int) (hx : x = (j : Int)) (hj : j < s.size) (w : World) : (Instr.index 9 (.string s) (.int .i64 x)).run Try.prog w = .ok (.int .u8 (((s.toList.getD j 0)).toNat : Int)) w := by
  subst hx
  have e : s.toList.getD j 0 = s[j] := by
    have hl : s.toList = s.data.toList := ByteArray.toList_eq s
    have hj' : j < s.data.toList.length := by rw [Array.length_toList]; exact hj
    rw [hl, List.getD_eq_getElem?_getD, List.getElem?_eq_getElem hj']
    rfl
  rw [e]
  simp [go_sem, Try.underlying9, hj]
theorem at78 (g i : Nat) (x : Int) (hx : x = (i : Int)) (hi : i < 64) (w : World) : (Instr.indexAt 72 (.pointer (some ⟨g, 0, none⟩)) (.int .i64 x)).run Try.prog w = .ok (.pointer (some ⟨g, i, none⟩)) w := by
  subst hx
  have h2 : (i : Int) < 64 := by omega
  simp [go_sem, Try.underlying72, h2]
theorem at33 (g i : Nat) (x : Int) (hx : x = (i : Int)) (hi : i < 8) (w : World) : (Instr.indexAt 66 (.pointer (some ⟨g, 0, none⟩)) (.int .i64 x)).run Try.prog w = .ok (.pointer (some ⟨g, i, none⟩)) w := by
  subst hx
  have h2 : (i : Int) < 8 := by omega
  simp [go_sem, Try.underlying66, h2]
theorem word_int (l : List UInt8) (i : Nat) : Go.bits .or .u32 (Go.bits .or .u32 (Go.bits .or .u32 (((l[4 * i]?.getD 0).toNat : Int) % 4294967296 * 16777216 % 4294967296) (((l[4 * i + 1]?.getD 0).toNat : Int) % 4294967296 * 65536 % 4294967296)) (((l[4 * i + 2]?.getD 0).toNat : Int) % 4294967296 * 256 % 4294967296)) (((l[4 * i + 3]?.getD 0).toNat : Int) % 4294967296) = ((word l i).toNat : Int) := by
  have s24 := fun x => (wrap_u32 _).symm.trans (u_shl24 x)
  have s16 := fun x => (wrap_u32 _).symm.trans (u_shl16 x)
  have s8 := fun x => (wrap_u32 _).symm.trans (u_shl8 x)
  rw [u_of8', u_of8', u_of8', u_of8', s24, s16, s8, u_or, u_or, u_or]
  simp only [word, byte, List.getD_eq_getElem?_getD]
/-- The array's words, of which the first i are reckoned. -/
def part1 (l : List UInt8) (i : Nat) : List UInt32 := (List.range i).map (word l) ++ List.replicate (64 - i) 0
theorem part1_length (l : List UInt8) (i : Nat) (h : i ≤ 64) : (part1 l i).length = 64 := by simp [part1]; omega
theorem part1_set (l : List UInt8) (i : Nat) (h : i < 64) : (part1 l i).set i (word l i) = part1 l (i + 1) := by
  unfold part1
  rw [List.set_append_right _ _ (by simp)]
  simp only [List.length_map, List.length_range, Nat.sub_self]
  rw [show 64 - i = (64 - (i + 1)) + 1 by omega, List.replicate_succ, List.set_cons_zero, List.range_succ, List.map_append]
  simp
/-- The array's words, of which the first 16 and n more are reckoned. -/
def part2 (l : List UInt8) (n : Nat) : List UInt32 := grow (w16 l) n ++ List.replicate (48 - n) 0
theorem part2_length (l : List UInt8) (n : Nat) (h : n ≤ 48) : (part2 l n).length = 64 := by
  simp [part2, grow_length _ (w16_length l)]; omega
theorem part2_0 (l : List UInt8) : part2 l 0 = part1 l 16 := rfl
theorem part2_48 (l : List UInt8) : part2 l 48 = spread l := by simp [part2, spread]
theorem part2_at (l : List UInt8) (n i : Nat) (h : i < 16 + n) : at_ (part2 l n) i = at_ (grow (w16 l) n) i := by
  unfold at_ part2
  rw [List.getD_eq_getElem?_getD, List.getD_eq_getElem?_getD, List.getElem?_append_left (by rw [grow_length _ (w16_length l)]; exact h)]
theorem part2_set (l : List UInt8) (n : Nat) (h : n < 48) : (part2 l n).set (16 + n) (next (part2 l n) (16 + n)) = part2 l (n + 1) := by
  have e : next (part2 l n) (16 + n) = next (grow (w16 l) n) (16 + n) := by
    unfold next
    rw [part2_at _ _ _ (by omega), part2_at _ _ _ (by omega), part2_at _ _ _ (by omega), part2_at _ _ _ (by omega)]
  rw [e]
  have hl := grow_length (w16 l) (w16_length l) n
  unfold part2
  rw [List.set_append_right _ _ (by omega), hl, Nat.sub_self, show 48 - n = (48 - (n + 1)) + 1 by omega, List.replicate_succ, List.set_cons_zero]
  simp only [grow, List.append_assoc, List.cons_append, List.nil_append]
theorem us_cell {W : World} {g t : Nat} {l : List UInt32} (h : W.heap[g]? = some (.cells (us l) t (0, 0))) (i : Nat) (hi : i < l.length) : W.cell? ⟨g, i, none⟩ = some (.int .u32 ((at_ l i).toNat : Int)) :=
  (blk_cell h i).trans (us_get l i hi)
theorem us_put {W : World} {g t : Nat} {l : List UInt32} (h : W.heap[g]? = some (.cells (us l) t (0, 0))) (i : Nat) (x : UInt32) : (W.setCell ⟨g, i, none⟩ (.int .u32 (x.toNat : Int))).heap[g]? = some (.cells (us (l.set i x)) t (0, 0)) := by
  rw [← us_set]; exact blk_set h i _
theorem rot_any (x : UInt32) (k : Int) (m n : Nat) (hk : Go.bits .and .u64 (IntKind.u64.wrap k) 31 = (m : Int)) (hm : m ≤ 31) (hmn : m + n = 32) (h1 : 1 ≤ m) (w : World) :
    Calls Try.prog 51 #[.int .u32 x.toNat, .int .i64 k] w fun e w' => e = .returned (.int .u32 (rotr x (UInt32.ofNat n) (UInt32.ofNat m)).toNat) ∧ w' = w := by
  have e32 : IntKind.u64.wrap (32 - (m : Int)) = (n : Int) := by simp [IntKind.wrap, IntKind.bits, IntKind.signed]; omega
  have hn : n ≤ 31 := by omega
  have HM := Lib.hid hmn
  clear hmn
  go_enter Try.func51, Try.ntmps51
  go_wp2
  go_ret
  refine ⟨?_, rfl⟩
  have e1 := u_shl x m (by omega)
  have e2 := u_shr x n (by omega)
  rw [wrap_u32, Int.natCast_pow] at e1
  rw [Int.natCast_pow] at e2
  rw [show ((x.toNat : Int) * 2 ^ m) % 4294967296 = _ from e1, show (x.toNat : Int) / 2 ^ n = _ from e2, u_or]
  rfl
theorem rot7 (x : UInt32) (w : World) : Calls Try.prog 51 #[.int .u32 x.toNat, .int .i64 (-7)] w fun e w' => e = .returned (.int .u32 (rotr x 7 25).toNat) ∧ w' = w := rot_any x (-7) 25 7 (by decide) (by decide) (by decide) (by decide) w
theorem rot18 (x : UInt32) (w : World) : Calls Try.prog 51 #[.int .u32 x.toNat, .int .i64 (-18)] w fun e w' => e = .returned (.int .u32 (rotr x 18 14).toNat) ∧ w' = w := rot_any x (-18) 14 18 (by decide) (by decide) (by decide) (by decide) w
theorem rot17 (x : UInt32) (w : World) : Calls Try.prog 51 #[.int .u32 x.toNat, .int .i64 (-17)] w fun e w' => e = .returned (.int .u32 (rotr x 17 15).toNat) ∧ w' = w := rot_any x (-17) 15 17 (by decide) (by decide) (by decide) (by decide) w
theorem rot19 (x : UInt32) (w : World) : Calls Try.prog 51 #[.int .u32 x.toNat, .int .i64 (-19)] w fun e w' => e = .returned (.int .u32 (rotr x 19 13).toNat) ∧ w' = w := rot_any x (-19) 13 19 (by decide) (by decide) (by decide) (by decide) w
theorem rot6 (x : UInt32) (w : World) : Calls Try.prog 51 #[.int .u32 x.toNat, .int .i64 (-6)] w fun e w' => e = .returned (.int .u32 (rotr x 6 26).toNat) ∧ w' = w := rot_any x (-6) 26 6 (by decide) (by decide) (by decide) (by decide) w
theorem rot11 (x : UInt32) (w : World) : Calls Try.prog 51 #[.int .u32 x.toNat, .int .i64 (-11)] w fun e w' => e = .returned (.int .u32 (rotr x 11 21).toNat) ∧ w' = w := rot_any x (-11) 21 11 (by decide) (by decide) (by decide) (by decide) w
theorem rot25 (x : UInt32) (w : World) : Calls Try.prog 51 #[.int .u32 x.toNat, .int .i64 (-25)] w fun e w' => e = .returned (.int .u32 (rotr x 25 7).toNat) ∧ w' = w := rot_any x (-25) 7 25 (by decide) (by decide) (by decide) (by decide) w
theorem rot2 (x : UInt32) (w : World) : Calls Try.prog 51 #[.int .u32 x.toNat, .int .i64 (-2)] w fun e w' => e = .returned (.int .u32 (rotr x 2 30).toNat) ∧ w' = w := rot_any x (-2) 30 2 (by decide) (by decide) (by decide) (by decide) w
theorem rot13 (x : UInt32) (w : World) : Calls Try.prog 51 #[.int .u32 x.toNat, .int .i64 (-13)] w fun e w' => e = .returned (.int .u32 (rotr x 13 19).toNat) ∧ w' = w := rot_any x (-13) 19 13 (by decide) (by decide) (by decide) (by decide) w
theorem rot22 (x : UInt32) (w : World) : Calls Try.prog 51 #[.int .u32 x.toNat, .int .i64 (-22)] w fun e w' => e = .returned (.int .u32 (rotr x 22 10).toNat) ∧ w' = w := rot_any x (-22) 10 22 (by decide) (by decide) (by decide) (by decide) w
theorem u_add4 (a b c d : UInt32) : ((a.toNat : Int) + (b.toNat : Int) + (c.toNat : Int) + (d.toNat : Int)) % 4294967296 = ((a + b + c + d).toNat : Int) := by
  rw [UInt32.toNat_add, UInt32.toNat_add, UInt32.toNat_add]; omega
theorem below_setRow {B g : Nat} {w W : World} (h : Below B w W) (hg : B ≤ g) (cs : Array Value) : Below B w (W.setRow g cs) :=
  ⟨h.os, h.tape, h.output, by rw [setRow_size]; exact h.size, fun k hk => (setRow_other W g k cs (by omega)).trans (h.block k hk)⟩
theorem blk_setRow {W : World} {g k : Nat} {o : Obj} (h : W.heap[k]? = some o) (hne : k ≠ g) (cs : Array Value) : (W.setRow g cs).heap[k]? = some o := (setRow_other W g k cs hne).trans h

end Go.Proofs.Ytnipbdlljfifhaa.H
set_option linter.unusedVariables false
namespace Go.Proofs.Ytnipbdlljfifhaa.H
open Go.RowKit Go.Proofs.Ytnipbdlljfifhaa.Sha Go.Proofs.YtnipbdlljfifhaaW.PrintWords Go.Proofs.YtnipbdlljfifhaaW.PrintLast

set_option maxHeartbeats 400000 in
/-- hash.spread: the 64 words of a block. -/
theorem spread_any (s : ByteArray) (w : World) (hs : s.size = 64) : Calls Try.prog 49 #[.string s] w fun e w' => e = .returned (.agg (us (spread s.toList))) ∧ Below w.heap.size w w' := by
  have HS := Lib.hid hs
  clear hs
  go_enter Try.func49, Try.ntmps49
  apply wp_seq_k
  intro K1 hK1
  apply wp_region_lit
  refine wpList_alloc_arr rfl 72 rfl z64 zero78 ?_
  apply wpList_nil
  refine hK1 _ _ ?_
  clear hK1 K1
  apply wp_seq_k
  intro K1 hK1
  apply wp_region_lit
  refine wpList_alloc_arr rfl 72 rfl z64 zero78 ?_
  apply wpList_nil
  refine hK1 _ _ ?_
  clear hK1 K1
  simp only [Act.put, List.setIfInBounds_toArray, List.set_cons_zero, List.set_cons_succ]
  have hg0 : ((w.alloc (.cells z64 72)).alloc (.cells z64 72)).heap[w.heap.size]? = some (.cells z64 72 (0, 0)) := blk_alloc (heap_alloc_last w _) _
  have hg1 : ((w.alloc (.cells z64 72)).alloc (.cells z64 72)).heap[w.heap.size + 1]? = some (.cells z64 72 (0, 0)) := by
    have h := heap_alloc_last (w.alloc (.cells z64 72)) (.cells z64 72)
    rw [World.size_alloc] at h
    exact h
  have hB : Below w.heap.size w ((w.alloc (.cells z64 72)).alloc (.cells z64 72)) := ((Below.refl _ _).alloc (Nat.le_refl _) _).alloc (by simp) _
  have e1 : (w.alloc (Obj.cells z64 72)).heap.size = w.heap.size + 1 := by simp
  rw [e1]
  generalize (w.alloc (.cells z64 72)).alloc (.cells z64 72) = W at hg0 hg1 hB
  generalize hgn : w.heap.size = g at hg0 hg1 hB
  have G := Lib.hid hgn
  clear hgn e1
  go_wp2
  go_loopw [8] (fun v wr => ∃ i : Nat, i ≤ 16 ∧ v = .int .i64 i ∧ wr.heap[g]? = some (.cells z64 72 (0, 0)) ∧ wr.heap[g + 1]? = some (.cells (us (part1 s.toList i)) 72 (0, 0)) ∧ Below g w wr) (fun v _ => (16 - intOf v).toNat)
  case atStart => exact ⟨0, by omega, rfl, hg0, by simpa [part1, z64] using hg1, hB⟩
  case round =>
    obtain ⟨i, hi, rfl, h0, h1, hb⟩ := hrel
    by_cases hlt : i < 16
    · have b0 : decide ((i : Int) < 16) = true := decide_eq_true (by omega)
      have z := HS.out
      have x0 := index_s s (4 * i) (4 * (i : Int)) (by omega) (by omega)
      have x1 := index_s s (4 * i + 1) (4 * (i : Int) + 1) (by omega) (by omega)
      have x2 := index_s s (4 * i + 2) (4 * (i : Int) + 2) (by omega) (by omega)
      have x3 := index_s s (4 * i + 3) (4 * (i : Int) + 3) (by omega) (by omega)
      have e0 : IntKind.i64.wrap (4 * (i : Int)) = 4 * (i : Int) := IntWalk.i64_in _ (by omega)
      have e1 : IntKind.i64.wrap (4 * (i : Int) + 1) = 4 * (i : Int) + 1 := IntWalk.i64_in _ (by omega)
      have e2 : IntKind.i64.wrap (4 * (i : Int) + 2) = 4 * (i : Int) + 2 := IntWalk.i64_in _ (by omega)
      have e3 : IntKind.i64.wrap (4 * (i : Int) + 3) = 4 * (i : Int) + 3 := IntWalk.i64_in _ (by omega)
      clear z
      have y := at78 (g + 1) i (i : Int) rfl (by omega)
      have hcell := us_cell h1 i (by rw [part1_length _ _ (by omega)]; omega)
      have hfroz := blk_frozen h1 i
      have hwd := Lib.hid (word_int s.toList i)
      go_wp2
      go_still_tail 31, (by kernel_rfl)
      change wpList _ _ _ _ _ wr.drew
      have hcell2 : wr.drew.cell? ⟨g + 1, i, none⟩ = _ := hcell
      have hfroz2 : wr.drew.frozen? ⟨g + 1, i, none⟩ = _ := hfroz
      have h1' : wr.drew.heap[g + 1]? = _ := h1
      have h0' : wr.drew.heap[g]? = _ := h0
      have hb' : Below g w wr.drew := below_drew hb
      clear hcell hfroz h1 h0 hb
      generalize wr.drew = w2 at hcell2 hfroz2 h1' h0' hb' ⊢
      have H1 := Lib.hid h1'
      have H0 := Lib.hid h0'
      have HB := Lib.hid hb'
      clear h1' h0' hb'
      go_wp2
      go_roundw
      case rel =>
        rw [hwd.out]
        refine ⟨i + 1, by omega, by go_num, (blk_far H0.out (by simp) _), ?_, HB.out.setCell (by simp) _⟩
        have hp := us_put H1.out i (word s.toList i)
        rw [part1_set _ _ (by omega)] at hp
        exact hp
      case measure => simp [intOf]; omega
    · obtain rfl : i = 16 := by omega
      have b0 : decide ((16 : Int) < 16) = false := by decide
      rw [show ((16 : Nat) : Int) = (16 : Int) from rfl]
      clear hlt hi
      have H1 := Lib.hid h1
      have H0 := Lib.hid h0
      have HB := Lib.hid hb
      clear h1 h0 hb
      go_wp2
      refine Code.wp_mono (fun _ _ _ h => h) ?_
      go_loopw [5] (fun v wr => ∃ n : Nat, n ≤ 48 ∧ v = .int .i64 ((n : Int) + 16) ∧ wr.heap[g]? = some (.cells z64 72 (0, 0)) ∧ wr.heap[g + 1]? = some (.cells (us (part2 s.toList n)) 72 (0, 0)) ∧ Below g w wr) (fun v _ => (64 - intOf v).toNat)
      case atStart => exact ⟨0, by omega, rfl, H0.out, by rw [part2_0]; exact H1.out, HB.out⟩
      case round =>
        obtain ⟨n, hn, rfl, h0, h1, hb⟩ := hrel
        by_cases hlt : n < 48
        · have b0 : decide ((n : Int) + 16 < 64) = true := decide_eq_true (by omega)
          have e15 : IntKind.i64.wrap ((n : Int) + 16 - 15) = (n : Int) + 1 := by rw [IntWalk.i64_in _ (by omega)]; omega
          have e2 : IntKind.i64.wrap ((n : Int) + 16 - 2) = (n : Int) + 14 := by rw [IntWalk.i64_in _ (by omega)]; omega
          have e16 : IntKind.i64.wrap ((n : Int) + 16 - 16) = (n : Int) := by rw [IntWalk.i64_in _ (by omega)]; omega
          have e16' : IntKind.i64.wrap (n : Int) = (n : Int) := IntWalk.i64_in _ (by omega)
          have e7 : IntKind.i64.wrap ((n : Int) + 16 - 7) = (n : Int) + 9 := by rw [IntWalk.i64_in _ (by omega)]; omega
          have hlen := part2_length s.toList n (by omega)
          have y15 := at78 (g + 1) (n + 1) ((n : Int) + 1) (by omega) (by omega)
          have y2 := at78 (g + 1) (n + 14) ((n : Int) + 14) (by omega) (by omega)
          have y16 := at78 (g + 1) n (n : Int) (by omega) (by omega)
          have y7 := at78 (g + 1) (n + 9) ((n : Int) + 9) (by omega) (by omega)
          have y0 := at78 (g + 1) (16 + n) ((n : Int) + 16) (by omega) (by omega)
          have c15 := us_cell h1 (n + 1) (by omega)
          have c2 := us_cell h1 (n + 14) (by omega)
          have c16 := us_cell h1 n (by omega)
          have c7 := us_cell h1 (n + 9) (by omega)
          have c0 := us_cell h1 (16 + n) (by omega)
          have hfroz := blk_frozen h1 (16 + n)
          obtain ⟨x15, hx15⟩ : ∃ x, at_ (part2 s.toList n) (n + 1) = x := ⟨_, rfl⟩
          obtain ⟨x2, hx2⟩ : ∃ x, at_ (part2 s.toList n) (n + 14) = x := ⟨_, rfl⟩
          obtain ⟨x16, hx16⟩ : ∃ x, at_ (part2 s.toList n) n = x := ⟨_, rfl⟩
          obtain ⟨x7, hx7⟩ : ∃ x, at_ (part2 s.toList n) (n + 9) = x := ⟨_, rfl⟩
          rw [hx15] at c15
          rw [hx2] at c2
          rw [hx16] at c16
          rw [hx7] at c7
          have hnext : next (part2 s.toList n) (16 + n) = x16 + (rotr x15 7 25 ^^^ rotr x15 18 14 ^^^ x15 >>> 3) + x7 + (rotr x2 17 15 ^^^ rotr x2 19 13 ^^^ x2 >>> 10) := by
            unfold next
            rw [show 16 + n - 16 = n by omega, show 16 + n - 15 = n + 1 by omega, show 16 + n - 7 = n + 9 by omega, show 16 + n - 2 = n + 14 by omega, hx15, hx2, hx16, hx7]
          have HN := Lib.hid hnext
          have H1 := Lib.hid h1
          have H0 := Lib.hid h0
          have HB := Lib.hid hb
          clear h1 h0 hb hlen hx15 hx2 hx16 hx7 hnext
          go_wp2
          go_quiet (fail)
          go_wp2
          have H1 : Hid ((wr.drewN nq).heap[g + 1]? = _) := H1
          have H0 : Hid ((wr.drewN nq).heap[g]? = _) := H0
          have HB : Hid (Below g w (wr.drewN nq)) := Lib.hid (pw_below_drewN HB.out nq)
          have c16 : (wr.drewN nq).cell? _ = _ := c16
          have c7 : (wr.drewN nq).cell? _ = _ := c7
          have c0 : (wr.drewN nq).cell? _ = _ := c0
          have hfroz : (wr.drewN nq).frozen? _ = _ := hfroz
          clear c15 c2 y15 y2 e15 e2
          generalize wr.drewN nq = w3 at H1 H0 HB c16 c7 c0 hfroz ⊢
          refine wp_region_still_tail 29 (by kernel_rfl) (by kernel_rfl) ?_
          simp only [List.take_succ_cons, List.take_zero, List.drop_succ_cons, List.drop_zero]
          repeat still_step
          still_call (rot7 x15 _)
          repeat still_step
          still_call (rot18 x15 _)
          repeat still_step
          still_call (rot17 x2 _)
          repeat still_step
          still_call (rot19 x2 _)
          repeat still_step
          refine wpStill_nil ?_
          change wpList _ _ _ _ _ w3.drew
          go_wp2
          go_roundw
          case rel =>
            refine ⟨n + 1, by omega, congrArg (Value.int .i64) (by omega), blk_far (w := w3) H0.out (by simp) _, ?_, below_drew (HB.out.setCell (by simp) _)⟩
            rw [u_shr3, u_shr10, u_xor, u_xor, u_xor, u_xor, u_add4, ← HN.out]
            have hp := us_put H1.out (16 + n) (next (part2 s.toList n) (16 + n))
            rw [part2_set _ _ hlt] at hp
            exact hp
          case measure => simp [intOf]; omega
        · obtain rfl : n = 48 := by omega
          have b0 : decide (((48 : Nat) : Int) + 16 < 64) = false := by decide
          rw [part2_48] at h1
          have hl := spread_length s.toList
          have H1 := Lib.hid h1
          have H0 := Lib.hid h0
          have HB := Lib.hid hb
          have HL := Lib.hid hl
          clear h1 h0 hb hlt hl hn
          go_wp2_with (first | (refine wpList_load_row rfl 72 _ rfl (g + 1) rfl 72 (us (spread s.toList)) (0, 0) _ H1.out Try.underlying72 rfl (size78 _ HL.out) ?_) | (refine wpList_store_row rfl 72 _ _ rfl g (us (spread s.toList)) rfl rfl 72 z64 H0.out (size78 _ HL.out) (by rw [us_size, HL.out]; rfl) (us_one _) ?_))
          refine bodyPost_ret (results_cell_row rfl _ _ g 72 (us (spread s.toList)) (0, 0) _ rfl (setRow_heap wr g z64 _ 72 _ H0.out) Try.underlying72 rfl (size78 _ HL.out)) rfl ⟨rfl, below_setRow HB.out (Nat.le_refl _) _⟩
end Go.Proofs.Ytnipbdlljfifhaa.H
