import Derived.Test.YtfnijaiaodplgaaHa
import Derived.Test.YtfnijaiaodplgaaHu
import Derived.Lib.Hide
set_option linter.unusedVariables false
set_option linter.unusedSimpArgs false
namespace Go.Proofs.Ytfnijaiaodplgaa.H
open Go.RowKit Go.Proofs.Ytfnijaiaodplgaa.Sha Go.Proofs.YtfnijaiaodplgaaW.PrintWords Go.Proofs.YtfnijaiaodplgaaW.PrintLast

theorem index_s (s : ByteArray) (j : Nat) (x : Int) (hx : x = (j : Int)) (hj : j < s.size) (w : World) : (Instr.index 9 (.string s) (.int .i64 x)).run Try.prog w = .ok (.int .u8 (((s.toList.getD j 0)).toNat : Int)) w := by
  subst hx
  have e : s.toList.getD j 0 = s[j] := by
    have hl : s.toList = s.data.toList := ByteArray.toList_eq s
    have hj' : j < s.data.toList.length := by rw [Array.length_toList]; exact hj
    rw [hl, List.getD_eq_getElem?_getD, List.getElem?_eq_getElem hj']
    rfl
  rw [e]
  simp [go_sem, Try.underlying9, hj]
theorem at78 (g i : Nat) (x : Int) (hx : x = (i : Int)) (hi : i < 64) (w : World) : (Instr.indexAt 78 (.pointer (some ⟨g, 0, none⟩)) (.int .i64 x)).run Try.prog w = .ok (.pointer (some ⟨g, i, none⟩)) w := by
  subst hx
  have h2 : (i : Int) < 64 := by omega
  simp [go_sem, Try.underlying78, h2]
theorem at33 (g i : Nat) (x : Int) (hx : x = (i : Int)) (hi : i < 8) (w : World) : (Instr.indexAt 33 (.pointer (some ⟨g, 0, none⟩)) (.int .i64 x)).run Try.prog w = .ok (.pointer (some ⟨g, i, none⟩)) w := by
  subst hx
  have h2 : (i : Int) < 8 := by omega
  simp [go_sem, Try.underlying33, h2]
theorem word_int (l : List UInt8) (i : Nat) : Go.bits .or .u32 (Go.bits .or .u32 (Go.bits .or .u32 (((l[4 * i]?.getD 0).toNat : Int) % 4294967296 * 16777216 % 4294967296) (((l[4 * i + 1]?.getD 0).toNat : Int) % 4294967296 * 65536 % 4294967296)) (((l[4 * i + 2]?.getD 0).toNat : Int) % 4294967296 * 256 % 4294967296)) (((l[4 * i + 3]?.getD 0).toNat : Int) % 4294967296) = ((word l i).toNat : Int) := by
  have s24 := fun x => (wrap_u32 _).symm.trans (u_shl24 x)
  have s16 := fun x => (wrap_u32 _).symm.trans (u_shl16 x)
  have s8 := fun x => (wrap_u32 _).symm.trans (u_shl8 x)
  rw [u_of8', u_of8', u_of8', u_of8', s24, s16, s8, u_or, u_or, u_or]
  simp only [word, byte, List.getD_eq_getElem?_getD]
/-- The array's words, of which the first i are reckoned. -/
def part1 (l : List UInt8) (i : Nat) : List UInt32 := (List.range i).map (word l) ++ List.replicate (64 - i) 0
theorem part1_length (l : List UInt8) (i : Nat) (h : i ≤ 64) : (part1 l i).length = 64 := by simp [part1]; omega
theorem part1_set (l : List UInt8) (i : Nat) (h : i < 64) : (part1 l i).set i (word l i) = part1 l (i + 1) := by
  unfold part1
  rw [List.set_append_right _ _ (by simp)]
  simp only [List.length_map, List.length_range, Nat.sub_self]
  rw [show 64 - i = (64 - (i + 1)) + 1 by omega, List.replicate_succ, List.set_cons_zero, List.range_succ, List.map_append]
  simp
/-- The array's words, of which the first 16 and n more are reckoned. -/
def part2 (l : List UInt8) (n : Nat) : List UInt32 := grow (w16 l) n ++ List.replicate (48 - n) 0
theorem part2_length (l : List UInt8) (n : Nat) (h : n ≤ 48) : (part2 l n).length = 64 := by
  simp [part2, grow_length _ (w16_length l)]; omega
theorem part2_0 (l : List UInt8) : part2 l 0 = part1 l 16 := rfl
theorem part2_48 (l : List UInt8) : part2 l 48 = spread l := by simp [part2, spread]
theorem part2_at (l : List UInt8) (n i : Nat) (h : i < 16 + n) : at_ (part2 l n) i = at_ (grow (w16 l) n) i := by
  unfold at_ part2
  rw [List.getD_eq_getElem?_getD, List.getD_eq_getElem?_getD, List.getElem?_append_left (by rw [grow_length _ (w16_length l)]; exact h)]
theorem part2_set (l : List UInt8) (n : Nat) (h : n < 48) : (part2 l n).set (16 + n) (next (part2 l n) (16 + n)) = part2 l (n + 1) := by
  have e : next (part2 l n) (16 + n) = next (grow (w16 l) n) (16 + n) := by
    unfold next
    rw [part2_at _ _ _ (by omega), part2_at _ _ _ (by omega), part2_at _ _ _ (by omega), part2_at _ _ _ (by omega)]
  rw [e]
  have hl := grow_length (w16 l) (w16_length l) n
  unfold part2
  rw [List.set_append_right _ _ (by omega), hl, Nat.sub_self, show 48 - n = (48 - (n + 1)) + 1 by omega, List.replicate_succ, List.set_cons_zero]
  simp only [grow, List.append_assoc, List.cons_append, List.nil_append]
theorem us_cell {W : World} {g t : Nat} {l : List UInt32} (h : W.heap[g]? = some (.cells (us l) t (0, 0))) (i : Nat) (hi : i < l.length) : W.cell? ⟨g, i, none⟩ = some (.int .u32 ((at_ l i).toNat : Int)) :=
  (blk_cell h i).trans (us_get l i hi)
theorem us_put {W : World} {g t : Nat} {l : List UInt32} (h : W.heap[g]? = some (.cells (us l) t (0, 0))) (i : Nat) (x : UInt32) : (W.setCell ⟨g, i, none⟩ (.int .u32 (x.toNat : Int))).heap[g]? = some (.cells (us (l.set i x)) t (0, 0)) := by
  rw [← us_set]; exact blk_set h i _
theorem rot_any (x : UInt32) (k : Int) (m n : Nat) (hk : Go.bits .and .u64 (IntKind.u64.wrap k) 31 = (m : Int)) (hm : m ≤ 31) (hmn : m + n = 32) (h1 : 1 ≤ m) (w : World) :
    Calls Try.prog 58 #[.int .u32 x.toNat, .int .i64 k] w fun e w' => e = .returned (.int .u32 (rotr x (UInt32.ofNat n) (UInt32.ofNat m)).toNat) ∧ w' = w := by
  have e32 : IntKind.u64.wrap (32 - (m : Int)) = (n : Int) := by simp [IntKind.wrap, IntKind.bits, IntKind.signed]; omega
  have hn : n ≤ 31 := by omega
  have HM := Lib.hid hmn
  clear hmn
  go_enter Try.func58, Try.ntmps58
  go_wp2
  go_ret
  refine ⟨?_, rfl⟩
  have e1 := u_shl x m (by omega)
  have e2 := u_shr x n (by omega)
  rw [wrap_u32, Int.natCast_pow] at e1
  rw [Int.natCast_pow] at e2
  rw [show ((x.toNat : Int) * 2 ^ m) % 4294967296 = _ from e1, show (x.toNat : Int) / 2 ^ n = _ from e2, u_or]
  rfl
theorem rot7 (x : UInt32) (w : World) : Calls Try.prog 58 #[.int .u32 x.toNat, .int .i64 (-7)] w fun e w' => e = .returned (.int .u32 (rotr x 7 25).toNat) ∧ w' = w := rot_any x (-7) 25 7 (by decide) (by decide) (by decide) (by decide) w
theorem rot18 (x : UInt32) (w : World) : Calls Try.prog 58 #[.int .u32 x.toNat, .int .i64 (-18)] w fun e w' => e = .returned (.int .u32 (rotr x 18 14).toNat) ∧ w' = w := rot_any x (-18) 14 18 (by decide) (by decide) (by decide) (by decide) w
theorem rot17 (x : UInt32) (w : World) : Calls Try.prog 58 #[.int .u32 x.toNat, .int .i64 (-17)] w fun e w' => e = .returned (.int .u32 (rotr x 17 15).toNat) ∧ w' = w := rot_any x (-17) 15 17 (by decide) (by decide) (by decide) (by decide) w
theorem rot19 (x : UInt32) (w : World) : Calls Try.prog 58 #[.int .u32 x.toNat, .int .i64 (-19)] w fun e w' => e = .returned (.int .u32 (rotr x 19 13).toNat) ∧ w' = w := rot_any x (-19) 13 19 (by decide) (by decide) (by decide) (by decide) w
theorem rot6 (x : UInt32) (w : World) : Calls Try.prog 58 #[.int .u32 x.toNat, .int .i64 (-6)] w fun e w' => e = .returned (.int .u32 (rotr x 6 26).toNat) ∧ w' = w := rot_any x (-6) 26 6 (by decide) (by decide) (by decide) (by decide) w
theorem rot11 (x : UInt32) (w : World) : Calls Try.prog 58 #[.int .u32 x.toNat, .int .i64 (-11)] w fun e w' => e = .returned (.int .u32 (rotr x 11 21).toNat) ∧ w' = w := rot_any x (-11) 21 11 (by decide) (by decide) (by decide) (by decide) w
theorem rot25 (x : UInt32) (w : World) : Calls Try.prog 58 #[.int .u32 x.toNat, .int .i64 (-25)] w fun e w' => e = .returned (.int .u32 (rotr x 25 7).toNat) ∧ w' = w := rot_any x (-25) 7 25 (by decide) (by decide) (by decide) (by decide) w
theorem rot2 (x : UInt32) (w : World) : Calls Try.prog 58 #[.int .u32 x.toNat, .int .i64 (-2)] w fun e w' => e = .returned (.int .u32 (rotr x 2 30).toNat) ∧ w' = w := rot_any x (-2) 30 2 (by decide) (by decide) (by decide) (by decide) w
theorem rot13 (x : UInt32) (w : World) : Calls Try.prog 58 #[.int .u32 x.toNat, .int .i64 (-13)] w fun e w' => e = .returned (.int .u32 (rotr x 13 19).toNat) ∧ w' = w := rot_any x (-13) 19 13 (by decide) (by decide) (by decide) (by decide) w
theorem rot22 (x : UInt32) (w : World) : Calls Try.prog 58 #[.int .u32 x.toNat, .int .i64 (-22)] w fun e w' => e = .returned (.int .u32 (rotr x 22 10).toNat) ∧ w' = w := rot_any x (-22) 10 22 (by decide) (by decide) (by decide) (by decide) w
theorem u_add4 (a b c d : UInt32) : ((a.toNat : Int) + (b.toNat : Int) + (c.toNat : Int) + (d.toNat : Int)) % 4294967296 = ((a + b + c + d).toNat : Int) := by
  rw [UInt32.toNat_add, UInt32.toNat_add, UInt32.toNat_add]; omega
theorem below_setRow {B g : Nat} {w W : World} (h : Below B w W) (hg : B ≤ g) (cs : Array Value) : Below B w (W.setRow g cs) :=
  ⟨h.os, h.tape, h.output, by rw [setRow_size]; exact h.size, fun k hk => (setRow_other W g k cs (by omega)).trans (h.block k hk)⟩
theorem blk_setRow {W : World} {g k : Nat} {o : Obj} (h : W.heap[k]? = some o) (hne : k ≠ g) (cs : Array Value) : (W.setRow g cs).heap[k]? = some o := (setRow_other W g k cs hne).trans h

end Go.Proofs.Ytfnijaiaodplgaa.H
