/- The walk's arithmetic on words of 32 bits, as that of UInt32. -/
import Derived.Test.YtfnijaiaodplgaaHw
set_option linter.unusedVariables false
set_option linter.unusedSimpArgs false
namespace Go.Proofs.Ytfnijaiaodplgaa.H
open Go.RowKit Go.Proofs.Ytfnijaiaodplgaa.Sha

theorem wrap_u32 (n : Int) : IntKind.u32.wrap n = n % 4294967296 := IntKind.wrap_u32 n
theorem u_lt (x : UInt32) : (x.toNat : Int) < 4294967296 := by have := x.toNat_lt; omega
theorem u_wrap (x : UInt32) : IntKind.u32.wrap (x.toNat : Int) = (x.toNat : Int) := by rw [wrap_u32]; have := u_lt x; omega
theorem u_add (x y : UInt32) : IntKind.u32.wrap ((x.toNat : Int) + (y.toNat : Int)) = ((x + y).toNat : Int) := by
  rw [wrap_u32, UInt32.toNat_add]; omega
theorem u_add' (x y : UInt32) : ((x.toNat : Int) + (y.toNat : Int)) % 4294967296 = ((x + y).toNat : Int) := by
  rw [UInt32.toNat_add]; omega
theorem ofInt32 (x : UInt32) : BitVec.ofInt 32 (x.toNat : Int) = x.toBitVec := by
  rw [BitVec.ofInt_natCast]
  exact BitVec.eq_of_toNat_eq (by rw [BitVec.toNat_ofNat]; exact Nat.mod_eq_of_lt x.toNat_lt)
theorem u_or (x y : UInt32) : Go.bits .or .u32 (x.toNat : Int) (y.toNat : Int) = ((x ||| y).toNat : Int) := by
  show IntKind.u32.wrap ((BitVec.ofInt 32 (x.toNat : Int) ||| BitVec.ofInt 32 (y.toNat : Int)).toNat : Int) = _
  rw [ofInt32, ofInt32]; exact u_wrap (x ||| y)
theorem u_and (x y : UInt32) : Go.bits .and .u32 (x.toNat : Int) (y.toNat : Int) = ((x &&& y).toNat : Int) := by
  show IntKind.u32.wrap ((BitVec.ofInt 32 (x.toNat : Int) &&& BitVec.ofInt 32 (y.toNat : Int)).toNat : Int) = _
  rw [ofInt32, ofInt32]; exact u_wrap (x &&& y)
theorem u_xor (x y : UInt32) : Go.bits .xor .u32 (x.toNat : Int) (y.toNat : Int) = ((x ^^^ y).toNat : Int) := by
  show IntKind.u32.wrap ((BitVec.ofInt 32 (x.toNat : Int) ^^^ BitVec.ofInt 32 (y.toNat : Int)).toNat : Int) = _
  rw [ofInt32, ofInt32]; exact u_wrap (x ^^^ y)
theorem u_shl (x : UInt32) (n : Nat) (h : n < 32) : IntKind.u32.wrap ((x.toNat : Int) * ((2 ^ n : Nat) : Int)) = ((x <<< UInt32.ofNat n).toNat : Int) := by
  rw [wrap_u32, UInt32.toNat_shiftLeft, UInt32.toNat_ofNat', Nat.mod_eq_of_lt (by omega : n < 2 ^ 32), Nat.mod_eq_of_lt h, Nat.shiftLeft_eq]
  rw [← Int.natCast_mul]
  exact (Int.natCast_emod _ _).symm
theorem u_shr (x : UInt32) (n : Nat) (h : n < 32) : (x.toNat : Int) / ((2 ^ n : Nat) : Int) = ((x >>> UInt32.ofNat n).toNat : Int) := by
  rw [UInt32.toNat_shiftRight, UInt32.toNat_ofNat', Nat.mod_eq_of_lt (by omega : n < 2 ^ 32), Nat.mod_eq_of_lt h, Nat.shiftRight_eq_div_pow, Int.natCast_ediv]
theorem u_shl24 (x : UInt32) : IntKind.u32.wrap ((x.toNat : Int) * 16777216) = ((x <<< 24).toNat : Int) := u_shl x 24 (by decide)
theorem u_shl16 (x : UInt32) : IntKind.u32.wrap ((x.toNat : Int) * 65536) = ((x <<< 16).toNat : Int) := u_shl x 16 (by decide)
theorem u_shl8 (x : UInt32) : IntKind.u32.wrap ((x.toNat : Int) * 256) = ((x <<< 8).toNat : Int) := u_shl x 8 (by decide)
theorem u_shr3 (x : UInt32) : (x.toNat : Int) / (8 : Int) = ((x >>> 3).toNat : Int) := u_shr x 3 (by decide)
theorem u_shr10 (x : UInt32) : (x.toNat : Int) / (1024 : Int) = ((x >>> 10).toNat : Int) := u_shr x 10 (by decide)
theorem u_of8 (b : UInt8) : IntKind.u32.wrap (b.toNat : Int) = (b.toUInt32.toNat : Int) := by
  rw [wrap_u32, UInt8.toNat_toUInt32]; have := b.toNat_lt; omega
theorem u_of8' (b : UInt8) : ((b.toNat : Int)) % 4294967296 = (b.toUInt32.toNat : Int) := by
  rw [UInt8.toNat_toUInt32]; have := b.toNat_lt; omega
theorem u_not (x : UInt32) : Go.bits .xor .u32 (-1) (x.toNat : Int) = ((~~~x).toNat : Int) := by
  show IntKind.u32.wrap ((BitVec.ofInt 32 (-1) ^^^ BitVec.ofInt 32 (x.toNat : Int)).toNat : Int) = _
  have e0 : BitVec.ofInt 32 (-1 : Int) = BitVec.allOnes 32 := by decide
  rw [ofInt32, e0, BitVec.allOnes_xor]
  exact u_wrap (~~~x)
theorem u_not2 (x : UInt32) : Go.bits .xor .u32 (if IntKind.u32.signed = true then -1 else IntKind.u32.max) (x.toNat : Int) = ((~~~x).toNat : Int) := by
  rw [if_neg (by decide), show IntKind.u32.max = 4294967295 by decide]
  show IntKind.u32.wrap ((BitVec.ofInt 32 4294967295 ^^^ BitVec.ofInt 32 (x.toNat : Int)).toNat : Int) = _
  have e0 : BitVec.ofInt 32 (4294967295 : Int) = BitVec.allOnes 32 := by decide
  rw [ofInt32, e0, BitVec.allOnes_xor]
  exact u_wrap (~~~x)
theorem rT_int (x : St) (k w : UInt32) : IntKind.u32.wrap (IntKind.u32.wrap (IntKind.u32.wrap (IntKind.u32.wrap ((x.h.toNat : Int) + Go.bits .xor .u32 (Go.bits .xor .u32 ((rotr x.e 6 26).toNat : Int) ((rotr x.e 11 21).toNat : Int)) ((rotr x.e 25 7).toNat : Int)) +
    Go.bits .xor .u32 (Go.bits .and .u32 (x.e.toNat : Int) (x.f.toNat : Int)) (Go.bits .and .u32 (Go.bits .xor .u32 (if IntKind.u32.signed = true then -1 else IntKind.u32.max) (x.e.toNat : Int)) (x.g.toNat : Int))) + (k.toNat : Int)) + (w.toNat : Int)) = ((rT x k w).toNat : Int) := by
  rw [u_xor, u_xor, u_and, u_not2, u_and, u_xor, u_add, u_add, u_add, u_add]
  rfl
theorem rU_int (x : St) : IntKind.u32.wrap (Go.bits .xor .u32 (Go.bits .xor .u32 ((rotr x.a 2 30).toNat : Int) ((rotr x.a 13 19).toNat : Int)) ((rotr x.a 22 10).toNat : Int) +
    Go.bits .xor .u32 (Go.bits .xor .u32 (Go.bits .and .u32 (x.a.toNat : Int) (x.b.toNat : Int)) (Go.bits .and .u32 (x.a.toNat : Int) (x.c.toNat : Int))) (Go.bits .and .u32 (x.b.toNat : Int) (x.c.toNat : Int))) = ((rU x).toNat : Int) := by
  rw [u_xor, u_xor, u_and, u_and, u_and, u_xor, u_xor, u_add]
  rfl
end Go.Proofs.Ytfnijaiaodplgaa.H
