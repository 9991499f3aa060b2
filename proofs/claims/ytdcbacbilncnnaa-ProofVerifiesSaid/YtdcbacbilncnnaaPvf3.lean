/- Part 3 of what the proof of ProofVerifies stands on. -/
import Derived.Test.YtdcbacbilncnnaaProg
import Derived.WalkKit
import Derived.KernelRfl
import Derived.Deep.WholeRow
import Derived.Laws.Rows
import Derived.Laws.Tables
import Derived.Deep.QuietTactic
import Derived.BigQuiet
import Derived.Outline
import Derived.Lib.Hide
import Derived.StillTailTactics
import Derived.Below
import Derived.Deep.Draws
import Derived.Deep.AppendLies
import Derived.Maps.AppendAt
import Derived.OwnWalk
import Derived.Laws.BytesArg
import Derived.Laws.MakeOwn
import Derived.Laws.OwnMore
import Derived.Deep.OwnRows
import Derived.Tactics
import Derived.Lib.ConvBytes
import Derived.Laws.Slices
import Derived.RowKit3
import Derived.Deep.LoopGhost
import Derived.WideLaws
import Derived.Deep.DeepCutAuto
import Derived.Deep.CutBlock
import Derived.Deep.RegionHeld3
import Derived.Lib.AppendStr
import Derived.ArgAppend
import Derived.Laws.IdiomCopy
import Derived.OrdersHeld
import Derived.Laws.BitsLemmas
import Derived.RowKit
import Derived.Great.BuildSlice
import Derived.Test.YtdcbacbilncnnaaPvf2
import Derived.Test.YtdcbacbilncnnaaPvfS1
section
/- Numbers and texts in bytes, in plain Lean: what is put, what is taken, and that each is the other's inverse. No program here. -/
namespace Go.Proofs.Ytdcbacbilncnnaa.EncS
/-- A number's bytes. -/
def encU (n : Nat) : List UInt8 := if n < 128 then [UInt8.ofNat n] else UInt8.ofNat (n % 128 + 128) :: encU (n / 128)
termination_by n
decreasing_by omega
theorem encU_small (n : Nat) (h : n < 128) : encU n = [UInt8.ofNat n] := by rw [encU, if_pos h]
theorem encU_great (n : Nat) (h : ¬ n < 128) : encU n = UInt8.ofNat (n % 128 + 128) :: encU (n / 128) := by rw [encU, if_neg h]
theorem pow9 : (128 : Nat) ^ 9 = 9223372036854775808 := by decide
theorem pow_succ' (i : Nat) : (128 : Nat) ^ (i + 1) = 128 ^ i * 128 := Nat.pow_succ ..
theorem nine_small (n : Nat) (h : n * 128 ^ 9 < 18446744073709551616) : n ≤ 1 := by rw [pow9] at h; omega
theorem encU_len (n : Nat) (h : n < 18446744073709551616) : (encU n).length ≤ 10 := by
  have : ∀ (i n : Nat), n * 128 ^ i < 18446744073709551616 → i ≤ 9 → (encU n).length ≤ 10 - i := by
    intro i
    induction hk : 9 - i generalizing i with
    | zero =>
      intro n hb hi
      have : i = 9 := by omega
      subst this
      have := nine_small n hb
      rw [encU_small n (by omega)]
      simp
    | succ k ih =>
      intro n hb hi
      by_cases h : n < 128
      · rw [encU_small n h]; simp; omega
      · rw [encU_great n h]
        have hle : n / 128 * 128 ^ (i + 1) ≤ n * 128 ^ i := by
          rw [pow_succ', ← Nat.mul_assoc, Nat.mul_right_comm]
          exact Nat.mul_le_mul_right _ (Nat.div_mul_le_self n 128)
        have := ih (i + 1) (by omega) (n / 128) (by omega) (by omega)
        simp only [List.length_cons]
        omega
  exact this 0 n (by simpa using h) (by decide)
end Go.Proofs.Ytdcbacbilncnnaa.EncS
end
section
/- The bits of a whole number, in the printed form. -/
namespace Go.Proofs.Ytdcbacbilncnnaa.Dig
open Go.Proofs.YtdcbacbilncnnaaW.PrintWords Go.Proofs.YtdcbacbilncnnaaW.PrintLast
def bits_Len.f (a0 : Int) : Option Int := if 0 ≤ a0 then (if a0 ≤ 18446744073709551615 then some (Lib.bitLen a0.toNat : Int) else none) else none
theorem bits_Len.calls (a0 : Int) (r : Int) (w : World) (h : bits_Len.f a0 = some r) :
    Calls Try.prog 98 #[.int .u64 a0] w fun e w' => e = .returned (.int .i64 r) ∧ Drawn0 w w' := by
  unfold bits_Len.f at h
  split at h
  · next h0 =>
    split at h
    · next h1 =>
      obtain rfl := Option.some.inj h
      refine (Bl.bits_Len a0 w h0 h1).mono ?_
      rintro e w' ⟨rfl, rfl⟩
      exact ⟨rfl, Drawn0.refl _⟩
    · exact absurd h (by simp)
  · exact absurd h (by simp)
end Go.Proofs.Ytdcbacbilncnnaa.Dig
end
section
/- SHA-256 in plain Lean over words of 32 bits, and the same over natural numbers for the kernel. No program here. -/
namespace Go.Proofs.Ytdcbacbilncnnaa.Sha
def rotr (x n m : UInt32) : UInt32 := (x <<< m) ||| (x >>> n)
structure St where
  a : UInt32
  b : UInt32
  c : UInt32
  d : UInt32
  e : UInt32
  f : UInt32
  g : UInt32
  h : UInt32
def rT (s : St) (k w : UInt32) : UInt32 :=
  s.h + (rotr s.e 6 26 ^^^ rotr s.e 11 21 ^^^ rotr s.e 25 7) + ((s.e &&& s.f) ^^^ (~~~s.e &&& s.g)) + k + w
def rU (s : St) : UInt32 :=
  (rotr s.a 2 30 ^^^ rotr s.a 13 19 ^^^ rotr s.a 22 10) + ((s.a &&& s.b) ^^^ (s.a &&& s.c) ^^^ (s.b &&& s.c))
def rnd (s : St) (k w : UInt32) : St := ⟨rT s k w + rU s, s.a, s.b, s.c, s.d + rT s k w, s.e, s.f, s.g⟩
def keyNats : List Nat := [
    1116352408, 1899447441, 3049323471, 3921009573, 961987163, 1508970993, 2453635748, 2870763221,
    3624381080, 310598401, 607225278, 1426881987, 1925078388, 2162078206, 2614888103, 3248222580,
    3835390401, 4022224774, 264347078, 604807628, 770255983, 1249150122, 1555081692, 1996064986,
    2554220882, 2821834349, 2952996808, 3210313671, 3336571891, 3584528711, 113926993, 338241895,
    666307205, 773529912, 1294757372, 1396182291, 1695183700, 1986661051, 2177026350, 2456956037,
    2730485921, 2820302411, 3259730800, 3345764771, 3516065817, 3600352804, 4094571909, 275423344,
    430227734, 506948616, 659060556, 883997877, 958139571, 1322822218, 1537002063, 1747873779,
    1955562222, 2024104815, 2227730452, 2361852424, 2428436474, 2756734187, 3204031479, 3329325298]
def keys : List UInt32 := keyNats.map UInt32.ofNat
def start : St := ⟨1779033703, 3144134277, 1013904242, 2773480762, 1359893119, 2600822924, 528734635, 1541459225⟩
/-- Word i of a list of words; byte i of a list of bytes, as a word. -/
def at_ (l : List UInt32) (i : Nat) : UInt32 := l.getD i 0
def byte (l : List UInt8) (i : Nat) : UInt32 := (l.getD i 0).toUInt32
def word (s : List UInt8) (i : Nat) : UInt32 :=
  byte s (4 * i) <<< 24 ||| byte s (4 * i + 1) <<< 16 ||| byte s (4 * i + 2) <<< 8 ||| byte s (4 * i + 3)
def w16 (s : List UInt8) : List UInt32 := (List.range 16).map (word s)
def next (w : List UInt32) (i : Nat) : UInt32 :=
  at_ w (i - 16) + (rotr (at_ w (i - 15)) 7 25 ^^^ rotr (at_ w (i - 15)) 18 14 ^^^ (at_ w (i - 15)) >>> 3) + at_ w (i - 7)
    + (rotr (at_ w (i - 2)) 17 15 ^^^ rotr (at_ w (i - 2)) 19 13 ^^^ (at_ w (i - 2)) >>> 10)
/-- The words of a block, grown: of 16 + n words. -/
def grow (w : List UInt32) : Nat → List UInt32
  | 0 => w
  | n + 1 => grow w n ++ [next (grow w n) (16 + n)]
def spread (s : List UInt8) : List UInt32 := grow (w16 s) 48
def rnds (w : List UInt32) (h : St) : Nat → St
  | 0 => h
  | n + 1 => rnd (rnds w h n) (at_ keys n) (at_ w n)
def addSt (x y : St) : St := ⟨x.a + y.a, x.b + y.b, x.c + y.c, x.d + y.d, x.e + y.e, x.f + y.f, x.g + y.g, x.h + y.h⟩
def mix (h : St) (s : List UInt8) : St := addSt (rnds (spread s) h 64) h
def St.l (x : St) : List UInt32 := [x.a, x.b, x.c, x.d, x.e, x.f, x.g, x.h]
def be (x : UInt32) : List UInt8 := [(x >>> 24).toUInt8, (x >>> 16).toUInt8, (x >>> 8).toUInt8, x.toUInt8]
def out (x : St) : List UInt8 := x.l.flatMap be
/-- n blocks of bytes mixed in. -/
def blocks : Nat → St → List UInt8 → St
  | 0, h, _ => h
  | n + 1, h, l => blocks n (mix h (l.take 64)) (l.drop 64)
/-- How many bits n bytes are: 8 bytes, the highest first. -/
def bits8 (n : Nat) : List UInt8 := (List.range 8).map fun i => UInt8.ofNat (n * 8 / 2 ^ (8 * (7 - i)))
def pad (n : Nat) : List UInt8 := 128 :: (List.replicate ((119 - n % 64) % 64) 0 ++ bits8 n)
def sum (l : List UInt8) : List UInt8 := out (blocks ((l.length + 72) / 64) start (l ++ pad l.length))
/-! The same over natural numbers, each word forced as it comes. -/
namespace Ev
def rotr (x n m : Nat) : Nat := Nat.mod (Nat.lor (Nat.shiftLeft x m) (Nat.shiftRight x n)) 4294967296
structure S8 where
  a : Nat
  b : Nat
  c : Nat
  d : Nat
  e : Nat
  f : Nat
  g : Nat
  h : Nat
def rounds : List Nat → List Nat → Nat → Nat → Nat → Nat → Nat → Nat → Nat → Nat → S8
  | k :: ks, w :: ws, a, b, c, d, e, f, g, h =>
    let t := Nat.add (Nat.add (Nat.add (Nat.add h (Nat.xor (Nat.xor (rotr e 6 26) (rotr e 11 21)) (rotr e 25 7))) (Nat.xor (Nat.land e f) (Nat.land (Nat.sub 4294967295 e) g))) k) w
    let u := Nat.add (Nat.xor (Nat.xor (rotr a 2 30) (rotr a 13 19)) (rotr a 22 10)) (Nat.xor (Nat.xor (Nat.land a b) (Nat.land a c)) (Nat.land b c))
    let a' := Nat.mod (Nat.add t u) 4294967296
    let e' := Nat.mod (Nat.add d t) 4294967296
    bif Nat.ble a' 4294967296 then bif Nat.ble e' 4294967296 then rounds ks ws a' a b c e' e f g else ⟨0, 0, 0, 0, 0, 0, 0, 0⟩ else ⟨0, 0, 0, 0, 0, 0, 0, 0⟩
  | _, _, a, b, c, d, e, f, g, h => ⟨a, b, c, d, e, f, g, h⟩
/-- n words more, the newest first. -/
def grow : Nat → List Nat → List Nat
  | 0, l => l
  | n + 1, l =>
    let x := l.getD 14 0
    let y := l.getD 1 0
    let v := Nat.mod (Nat.add (Nat.add (Nat.add (l.getD 15 0) (Nat.xor (Nat.xor (rotr x 7 25) (rotr x 18 14)) (Nat.shiftRight x 3))) (l.getD 6 0)) (Nat.xor (Nat.xor (rotr y 17 15) (rotr y 19 13)) (Nat.shiftRight y 10))) 4294967296
    bif Nat.ble v 4294967296 then grow n (v :: l) else []
end Ev
namespace Ev
def words : List Nat → List Nat → List Nat
  | b0 :: b1 :: b2 :: b3 :: rest, acc =>
    let v := Nat.add (Nat.add (Nat.add (Nat.mul b0 16777216) (Nat.mul b1 65536)) (Nat.mul b2 256)) b3
    bif Nat.ble v 4294967296 then words rest (v :: acc) else []
  | _, acc => acc
def mix (h : S8) (bs : List Nat) : S8 :=
  let s := rounds keyNats (grow 48 (words bs [])).reverse h.a h.b h.c h.d h.e h.f h.g h.h
  ⟨Nat.mod (Nat.add s.a h.a) 4294967296, Nat.mod (Nat.add s.b h.b) 4294967296, Nat.mod (Nat.add s.c h.c) 4294967296, Nat.mod (Nat.add s.d h.d) 4294967296,
   Nat.mod (Nat.add s.e h.e) 4294967296, Nat.mod (Nat.add s.f h.f) 4294967296, Nat.mod (Nat.add s.g h.g) 4294967296, Nat.mod (Nat.add s.h h.h) 4294967296⟩
def blocks : Nat → S8 → List Nat → S8
  | 0, h, _ => h
  | n + 1, h, l => blocks n (mix h (l.take 64)) (l.drop 64)
def be (x : Nat) : List Nat := [Nat.mod (Nat.div x 16777216) 256, Nat.mod (Nat.div x 65536) 256, Nat.mod (Nat.div x 256) 256, Nat.mod x 256]
def start : S8 := ⟨1779033703, 3144134277, 1013904242, 2773480762, 1359893119, 2600822924, 528734635, 1541459225⟩
def out (s : S8) : List Nat := be s.a ++ (be s.b ++ (be s.c ++ (be s.d ++ (be s.e ++ (be s.f ++ (be s.g ++ be s.h))))))
def bits8 (n : Nat) : List Nat := [0, 0, 0, 0, Nat.mod (Nat.div (Nat.mul n 8) 16777216) 256, Nat.mod (Nat.div (Nat.mul n 8) 65536) 256, Nat.mod (Nat.div (Nat.mul n 8) 256) 256, Nat.mod (Nat.mul n 8) 256]
def sum (l : List Nat) : List Nat :=
  out (blocks ((l.length + 72) / 64) start (l ++ 128 :: (List.replicate ((119 - l.length % 64) % 64) 0 ++ bits8 l.length)))
end Ev
/-! What they have to do with each other. -/
def nats (l : List UInt32) : List Nat := l.map UInt32.toNat
def toS (s : St) : Ev.S8 := ⟨s.a.toNat, s.b.toNat, s.c.toNat, s.d.toNat, s.e.toNat, s.f.toNat, s.g.toNat, s.h.toNat⟩
theorem rotr_nat (x n m : UInt32) (hn : n.toNat < 32) (hm : m.toNat < 32) : (rotr x n m).toNat = Ev.rotr x.toNat n.toNat m.toNat := by
  have hx := x.toNat_lt
  show _ = ((x.toNat <<< m.toNat) ||| (x.toNat >>> n.toNat)) % 2 ^ 32
  rw [Nat.or_mod_two_pow]
  have h2 : x.toNat >>> n.toNat < 2 ^ 32 := by rw [Nat.shiftRight_eq_div_pow]; exact Nat.lt_of_le_of_lt (Nat.div_le_self _ _) hx
  rw [Nat.mod_eq_of_lt h2]
  simp only [rotr, UInt32.toNat_or, UInt32.toNat_shiftLeft, UInt32.toNat_shiftRight]
  rw [Nat.mod_eq_of_lt hn, Nat.mod_eq_of_lt hm]
theorem rT_nat (s : St) (k w : UInt32) : (rT s k w).toNat = (Nat.add (Nat.add (Nat.add (Nat.add s.h.toNat (Nat.xor (Nat.xor (Ev.rotr s.e.toNat 6 26) (Ev.rotr s.e.toNat 11 21)) (Ev.rotr s.e.toNat 25 7))) (Nat.xor (Nat.land s.e.toNat s.f.toNat) (Nat.land (Nat.sub 4294967295 s.e.toNat) s.g.toNat))) k.toNat) w.toNat) % 4294967296 := by
  have e1 := rotr_nat s.e 6 26 (by decide) (by decide)
  have e2 := rotr_nat s.e 11 21 (by decide) (by decide)
  have e3 := rotr_nat s.e 25 7 (by decide) (by decide)
  have hn : (~~~s.e).toNat = Nat.sub 4294967295 s.e.toNat := by
    rw [UInt32.toNat_not]; rfl
  simp only [rT, UInt32.toNat_add, UInt32.toNat_xor, UInt32.toNat_and, e1, e2, e3, hn]
  show _ = (s.h.toNat + _ + _ + k.toNat + w.toNat) % 4294967296
  simp only [Nat.mod_add_mod]
  rfl
theorem rU_nat (s : St) : (rU s).toNat = (Nat.add (Nat.xor (Nat.xor (Ev.rotr s.a.toNat 2 30) (Ev.rotr s.a.toNat 13 19)) (Ev.rotr s.a.toNat 22 10)) (Nat.xor (Nat.xor (Nat.land s.a.toNat s.b.toNat) (Nat.land s.a.toNat s.c.toNat)) (Nat.land s.b.toNat s.c.toNat))) % 4294967296 := by
  have e1 := rotr_nat s.a 2 30 (by decide) (by decide)
  have e2 := rotr_nat s.a 13 19 (by decide) (by decide)
  have e3 := rotr_nat s.a 22 10 (by decide) (by decide)
  simp only [rU, UInt32.toNat_add, UInt32.toNat_xor, UInt32.toNat_and, e1, e2, e3]
  rfl
theorem ble_of (n : Nat) : Nat.ble (Nat.mod n 4294967296) 4294967296 = true :=
  Nat.ble_eq_true_of_le (Nat.le_of_lt (Nat.mod_lt n (by decide)))
def fold : List UInt32 → List UInt32 → St → St
  | k :: ks, w :: ws, s => fold ks ws (rnd s k w)
  | _, _, s => s
theorem rounds_nat (ks : List UInt32) : ∀ (ws : List UInt32) (s : St),
    Ev.rounds (nats ks) (nats ws) s.a.toNat s.b.toNat s.c.toNat s.d.toNat s.e.toNat s.f.toNat s.g.toNat s.h.toNat = toS (fold ks ws s) := by
  induction ks with
  | nil => intro ws s; cases ws <;> rfl
  | cons k ks ih =>
    intro ws s
    cases ws with
    | nil => rfl
    | cons w ws =>
      have h := ih ws (rnd s k w)
      have ht := rT_nat s k w
      have hu := rU_nat s
      simp only [nats, List.map_cons, Ev.rounds, ble_of, cond_true, fold]
      have ea : (rnd s k w).a.toNat = Nat.mod (Nat.add (Nat.add (Nat.add (Nat.add (Nat.add s.h.toNat (Nat.xor (Nat.xor (Ev.rotr s.e.toNat 6 26) (Ev.rotr s.e.toNat 11 21)) (Ev.rotr s.e.toNat 25 7))) (Nat.xor (Nat.land s.e.toNat s.f.toNat) (Nat.land (Nat.sub 4294967295 s.e.toNat) s.g.toNat))) k.toNat) w.toNat) (Nat.add (Nat.xor (Nat.xor (Ev.rotr s.a.toNat 2 30) (Ev.rotr s.a.toNat 13 19)) (Ev.rotr s.a.toNat 22 10)) (Nat.xor (Nat.xor (Nat.land s.a.toNat s.b.toNat) (Nat.land s.a.toNat s.c.toNat)) (Nat.land s.b.toNat s.c.toNat)))) 4294967296 := by
        show (rT s k w + rU s).toNat = _
        rw [UInt32.toNat_add, ht, hu]
        exact (Nat.add_mod _ _ _).symm
      have ee : (rnd s k w).e.toNat = Nat.mod (Nat.add s.d.toNat (Nat.add (Nat.add (Nat.add (Nat.add s.h.toNat (Nat.xor (Nat.xor (Ev.rotr s.e.toNat 6 26) (Ev.rotr s.e.toNat 11 21)) (Ev.rotr s.e.toNat 25 7))) (Nat.xor (Nat.land s.e.toNat s.f.toNat) (Nat.land (Nat.sub 4294967295 s.e.toNat) s.g.toNat))) k.toNat) w.toNat)) 4294967296 := by
        show (s.d + rT s k w).toNat = _
        rw [UInt32.toNat_add, ht]
        exact Nat.add_mod_mod _ _ _
      rw [← h, ea, ee]
      rfl
theorem fold_snoc (k w : UInt32) : ∀ (ks ws : List UInt32) (s : St), ks.length = ws.length → fold (ks ++ [k]) (ws ++ [w]) s = rnd (fold ks ws s) k w := by
  intro ks
  induction ks with
  | nil => intro ws s h; cases ws with
    | nil => rfl
    | cons _ _ => simp at h
  | cons k' ks ih => intro ws s h; cases ws with
    | nil => simp at h
    | cons w' ws => simp only [List.cons_append, fold]; exact ih ws _ (by simpa using h)
theorem take_snoc_at (l : List UInt32) (n : Nat) (h : n < l.length) : l.take (n + 1) = l.take n ++ [at_ l n] := by
  rw [List.take_succ_eq_append_getElem h, at_, List.getD_eq_getElem?_getD, List.getElem?_eq_getElem h]; rfl
theorem rnds_fold (w : List UInt32) (h : St) : ∀ n, n ≤ keys.length → n ≤ w.length → rnds w h n = fold (keys.take n) (w.take n) h := by
  intro n
  induction n with
  | zero => intro _ _; simp [rnds, fold]
  | succ n ih =>
    intro h1 h2
    rw [take_snoc_at keys n (by omega), take_snoc_at w n (by omega), fold_snoc _ _ _ _ _ (by simp; omega), ← ih (by omega) (by omega)]
    rfl
theorem grow_length (w : List UInt32) (hw : w.length = 16) : ∀ n, (grow w n).length = 16 + n := by
  intro n
  induction n with
  | zero => simpa [grow] using hw
  | succ n ih => simp [grow, ih]; omega
theorem w16_length (s : List UInt8) : (w16 s).length = 16 := by simp [w16]
theorem spread_length (s : List UInt8) : (spread s).length = 64 := by rw [spread, grow_length _ (w16_length s)]
theorem keys_length : keys.length = 64 := rfl
theorem at_back (l : List UInt32) (i j : Nat) (h : i + j + 1 = l.length) : (nats l).reverse.getD i 0 = (at_ l j).toNat := by
  have h1 : i < (nats l).reverse.length := by simp [nats]; omega
  have h2 : j < l.length := by omega
  rw [List.getD_eq_getElem?_getD, List.getElem?_eq_getElem h1, at_, List.getD_eq_getElem?_getD, List.getElem?_eq_getElem h2]
  simp only [Option.getD_some, List.getElem_reverse]
  simp only [nats, List.getElem_map, List.length_map]
  congr 2
  omega
theorem next_nat (l : List UInt32) (n : Nat) (h : l.length = 16 + n) : (next l (16 + n)).toNat =
    Nat.mod (Nat.add (Nat.add (Nat.add ((nats l).reverse.getD 15 0) (Nat.xor (Nat.xor (Ev.rotr ((nats l).reverse.getD 14 0) 7 25) (Ev.rotr ((nats l).reverse.getD 14 0) 18 14)) (Nat.shiftRight ((nats l).reverse.getD 14 0) 3))) ((nats l).reverse.getD 6 0)) (Nat.xor (Nat.xor (Ev.rotr ((nats l).reverse.getD 1 0) 17 15) (Ev.rotr ((nats l).reverse.getD 1 0) 19 13)) (Nat.shiftRight ((nats l).reverse.getD 1 0) 10))) 4294967296 := by
  rw [at_back l 15 (16 + n - 16) (by omega), at_back l 14 (16 + n - 15) (by omega), at_back l 6 (16 + n - 7) (by omega), at_back l 1 (16 + n - 2) (by omega)]
  have e1 := rotr_nat (at_ l (16 + n - 15)) 7 25 (by decide) (by decide)
  have e2 := rotr_nat (at_ l (16 + n - 15)) 18 14 (by decide) (by decide)
  have e3 := rotr_nat (at_ l (16 + n - 2)) 17 15 (by decide) (by decide)
  have e4 := rotr_nat (at_ l (16 + n - 2)) 19 13 (by decide) (by decide)
  simp only [next, UInt32.toNat_add, UInt32.toNat_xor, UInt32.toNat_shiftRight, e1, e2, e3, e4]
  show _ = (_ + _ + _ + _) % 4294967296
  simp only [Nat.mod_add_mod]
  rfl
theorem grow_nat (w : List UInt32) (hw : w.length = 16) (m : Nat) : ∀ n, Ev.grow m (nats (grow w n)).reverse = (nats (grow w (n + m))).reverse := by
  induction m with
  | zero => intro n; rfl
  | succ m ih =>
    intro n
    have h := next_nat (grow w n) n (grow_length w hw n)
    have h' := ih (n + 1)
    simp only [Ev.grow, ble_of, cond_true]
    rw [← h]
    have e : (next (grow w n) (16 + n)).toNat :: (nats (grow w n)).reverse = (nats (grow w (n + 1))).reverse := by
      simp [grow, nats]
    rw [e, h']
    congr 3
    omega
theorem or_add (x y k : Nat) (h : y < 2 ^ k) : x * 2 ^ k ||| y = x * 2 ^ k + y := by
  have := Nat.shiftLeft_add_eq_or_of_lt (i := k) (b := y) h x
  rw [Nat.shiftLeft_eq] at this
  exact this.symm
theorem word_add (a b c d : Nat) (hb : b < 256) (hc : c < 256) (hd : d < 256) :
    a * 2 ^ 24 ||| b * 2 ^ 16 ||| c * 2 ^ 8 ||| d = a * 16777216 + b * 65536 + c * 256 + d := by
  have t1 : a * 2 ^ 24 ||| b * 2 ^ 16 = (a * 256 + b) * 2 ^ 16 := by rw [or_add a _ 24 (by omega)]; omega
  have t2 : (a * 256 + b) * 2 ^ 16 ||| c * 2 ^ 8 = ((a * 256 + b) * 256 + c) * 2 ^ 8 := by rw [or_add _ _ 16 (by omega)]; omega
  rw [t1, t2, or_add _ _ 8 (by omega)]
  omega
theorem words_nat : ∀ (n : Nat) (s : List UInt8) (acc : List Nat), s.length = 4 * n → Ev.words (s.map UInt8.toNat) acc = (nats ((List.range n).map (word s))).reverse ++ acc := by
  intro n
  induction n with
  | zero => intro s acc h; have : s = [] := List.length_eq_zero_iff.1 (by omega); subst this; rfl
  | succ n ih =>
    intro s acc h
    match s, h with
    | b0 :: b1 :: b2 :: b3 :: rest, h =>
      have hr : rest.length = 4 * n := by simp at h; omega
      have hv : (word (b0 :: b1 :: b2 :: b3 :: rest) 0).toNat = Nat.add (Nat.add (Nat.add (Nat.mul b0.toNat 16777216) (Nat.mul b1.toNat 65536)) (Nat.mul b2.toNat 256)) b3.toNat := by
        have k0 := b0.toNat_lt; have k1 := b1.toNat_lt; have k2 := b2.toNat_lt; have k3 := b3.toNat_lt
        show (b0.toUInt32 <<< 24 ||| b1.toUInt32 <<< 16 ||| b2.toUInt32 <<< 8 ||| b3.toUInt32).toNat = b0.toNat * 16777216 + b1.toNat * 65536 + b2.toNat * 256 + b3.toNat
        simp only [UInt32.toNat_or, UInt32.toNat_shiftLeft, UInt8.toNat_toUInt32]
        have s0 : b0.toNat <<< ((24 : UInt32).toNat % 32) % 2 ^ 32 = b0.toNat * 2 ^ 24 := by
          rw [show (24 : UInt32).toNat % 32 = 24 from rfl, Nat.shiftLeft_eq]; omega
        have s1 : b1.toNat <<< ((16 : UInt32).toNat % 32) % 2 ^ 32 = b1.toNat * 2 ^ 16 := by
          rw [show (16 : UInt32).toNat % 32 = 16 from rfl, Nat.shiftLeft_eq]; omega
        have s2 : b2.toNat <<< ((8 : UInt32).toNat % 32) % 2 ^ 32 = b2.toNat * 2 ^ 8 := by
          rw [show (8 : UInt32).toNat % 32 = 8 from rfl, Nat.shiftLeft_eq]; omega
        rw [s0, s1, s2]
        have e := word_add b0.toNat b1.toNat b2.toNat b3.toNat k1 k2 k3
        rw [e]
      have hb : Nat.ble (Nat.add (Nat.add (Nat.add (Nat.mul b0.toNat 16777216) (Nat.mul b1.toNat 65536)) (Nat.mul b2.toNat 256)) b3.toNat) 4294967296 = true := by
        rw [← hv]; exact Nat.ble_eq_true_of_le (Nat.le_of_lt (UInt32.toNat_lt (word (b0 :: b1 :: b2 :: b3 :: rest) 0)))
      have hw : (List.range (n + 1)).map (word (b0 :: b1 :: b2 :: b3 :: rest)) = word (b0 :: b1 :: b2 :: b3 :: rest) 0 :: (List.range n).map (word rest) := by
        rw [List.range_succ_eq_map, List.map_cons, List.map_map]
        rfl
      simp only [List.map_cons, Ev.words, hb, cond_true]
      rw [ih rest _ hr, hw, ← hv]
      simp [nats]
theorem mix_nat (h : St) (s : List UInt8) (hs : s.length = 64) : Ev.mix (toS h) (s.map UInt8.toNat) = toS (mix h s) := by
  have hw := words_nat 16 s [] (by omega)
  have hg := grow_nat (w16 s) (w16_length s) 48 0
  have hr := rounds_nat keys (spread s) h
  have hk : nats keys = keyNats := by decide +kernel
  have hf := rnds_fold (spread s) h 64 (by rw [keys_length]; omega) (by rw [spread_length]; omega)
  rw [List.take_of_length_le (by rw [keys_length]; omega), List.take_of_length_le (by rw [spread_length]; omega)] at hf
  have hg' : (Ev.grow 48 (Ev.words (s.map UInt8.toNat) [])).reverse = nats (spread s) := by
    rw [hw, List.append_nil]
    show (Ev.grow 48 (nats (w16 s)).reverse).reverse = _
    rw [show (nats (w16 s)).reverse = (nats (grow (w16 s) 0)).reverse from rfl, hg, List.reverse_reverse]
    rfl
  have e : Ev.rounds keyNats (Ev.grow 48 (Ev.words (s.map UInt8.toNat) [])).reverse h.a.toNat h.b.toNat h.c.toNat h.d.toNat h.e.toNat h.f.toNat h.g.toNat h.h.toNat = toS (rnds (spread s) h 64) := by
    rw [hg', hf, ← hr, hk]
  simp only [Ev.mix, toS] at *
  rw [e]
  simp only [mix, addSt, UInt32.toNat_add]
  rfl
theorem blocks_nat : ∀ (n : Nat) (h : St) (l : List UInt8), l.length = 64 * n → Ev.blocks n (toS h) (l.map UInt8.toNat) = toS (blocks n h l) := by
  intro n
  induction n with
  | zero => intro h l _; rfl
  | succ n ih =>
    intro h l hl
    simp only [Ev.blocks, blocks]
    rw [← List.map_take, ← List.map_drop, mix_nat h _ (by simp; omega)]
    exact ih _ _ (by simp; omega)
theorem be_nat (x : UInt32) : (be x).map UInt8.toNat = Ev.be x.toNat := by
  have hx := x.toNat_lt
  simp only [be, List.map_cons, List.map_nil, UInt32.toNat_toUInt8, UInt32.toNat_shiftRight]
  show _ = [x.toNat / 16777216 % 256, x.toNat / 65536 % 256, x.toNat / 256 % 256, x.toNat % 256]
  rw [show (24 : UInt32).toNat % 32 = 24 from rfl, show (16 : UInt32).toNat % 32 = 16 from rfl, show (8 : UInt32).toNat % 32 = 8 from rfl,
    Nat.shiftRight_eq_div_pow, Nat.shiftRight_eq_div_pow, Nat.shiftRight_eq_div_pow]
theorem out_nat (s : St) : (out s).map UInt8.toNat = Ev.out (toS s) := by
  simp only [out, St.l, List.flatMap_cons, List.flatMap_nil, List.map_append, be_nat, List.append_nil]
  rfl
theorem sum_length (l : List UInt8) : (sum l).length = 32 := by simp [sum, out, St.l, be]
theorem bits8_nat (n : Nat) (hn : n < 536870912) : (bits8 n).map UInt8.toNat = Ev.bits8 n := by
  show [(UInt8.ofNat (n * 8 / 2 ^ 56)).toNat, (UInt8.ofNat (n * 8 / 2 ^ 48)).toNat, (UInt8.ofNat (n * 8 / 2 ^ 40)).toNat, (UInt8.ofNat (n * 8 / 2 ^ 32)).toNat,
    (UInt8.ofNat (n * 8 / 2 ^ 24)).toNat, (UInt8.ofNat (n * 8 / 2 ^ 16)).toNat, (UInt8.ofNat (n * 8 / 2 ^ 8)).toNat, (UInt8.ofNat (n * 8 / 2 ^ 0)).toNat] =
    [0, 0, 0, 0, n * 8 / 16777216 % 256, n * 8 / 65536 % 256, n * 8 / 256 % 256, n * 8 % 256]
  simp only [UInt8.toNat_ofNat']
  have a : n * 8 < 2 ^ 32 := by omega
  rw [Nat.div_eq_of_lt (show n * 8 < 2 ^ 56 by omega), Nat.div_eq_of_lt (show n * 8 < 2 ^ 48 by omega), Nat.div_eq_of_lt (show n * 8 < 2 ^ 40 by omega), Nat.div_eq_of_lt a]
  simp
theorem pad_length (l : List UInt8) : (l ++ pad l.length).length = 64 * ((l.length + 72) / 64) := by
  simp [pad, bits8]
  omega
theorem sum_nat (l : List UInt8) (hl : l.length < 536870912) : (sum l).map UInt8.toNat = Ev.sum (l.map UInt8.toNat) := by
  rw [sum, out_nat, ← blocks_nat _ _ _ (pad_length l), Ev.sum]
  congr 2
  · simp
  · rw [List.map_append, List.length_map]
    congr 1
    simp only [pad, List.map_cons, List.map_append, bits8_nat _ hl, List.map_replicate]
    rfl
/-- A digest by the kernel. -/
theorem sum_is (l r : List UInt8) (hl : l.length < 536870912) (h : (Ev.sum (l.map UInt8.toNat) == r.map UInt8.toNat) = true) : sum l = r := by
  have h' : (sum l).map UInt8.toNat = r.map UInt8.toNat := by rw [sum_nat l hl]; exact eq_of_beq h
  exact (List.map_inj_right fun a b hab => UInt8.toNat_inj.1 hab).1 h'
end Go.Proofs.Ytdcbacbilncnnaa.Sha
end
section
/- What the walk needs of arrays of words: cells out of lists of words, whole arrays made, loaded and stored, and a region that draws its order, by what holds behind each operation. -/
set_option linter.unusedVariables false
set_option linter.unusedSimpArgs false
namespace Go.Proofs.Ytdcbacbilncnnaa.H
open Go.RowKit Go.Proofs.Ytdcbacbilncnnaa.Sha Go.Proofs.YtdcbacbilncnnaaW.PrintWords Go.Proofs.YtdcbacbilncnnaaW.PrintLast
/-- A word as a value; words as cells. -/
def uv (x : UInt32) : Value := .int .u32 (x.toNat : Int)
def us (l : List UInt32) : Array Value := (l.map uv).toArray
theorem us_size (l : List UInt32) : (us l).size = l.length := by simp [us]
theorem us_get (l : List UInt32) (i : Nat) (h : i < l.length) : (us l)[i]? = some (.int .u32 ((at_ l i).toNat : Int)) := by
  simp [us, at_, h, List.getD_eq_getElem?_getD, uv]
theorem us_set (l : List UInt32) (i : Nat) (x : UInt32) : (us l).setIfInBounds i (.int .u32 (x.toNat : Int)) = us (l.set i x) := by
  simp [us, List.map_set, uv]
theorem us_one (l : List UInt32) : (us l).all (·.oneCell') = true := by
  rw [Array.all_eq_true_iff_forall_mem]
  intro v hv
  simp [us] at hv
  obtain ⟨x, _, rfl⟩ := hv
  rfl
theorem us_st (x : St) : us x.l = #[.int .u32 x.a.toNat, .int .u32 x.b.toNat, .int .u32 x.c.toNat, .int .u32 x.d.toNat, .int .u32 x.e.toNat, .int .u32 x.f.toNat, .int .u32 x.g.toNat, .int .u32 x.h.toNat] := rfl
section
variable {P : Program}
theorem run_alloc_arr (w : World) (ty : TypeId) (Z : Array Value) (hz : (P.info? ty).map (·.zero) = some (some (.agg Z))) (old : Value) :
    (Instr.alloc ty true old).run P w = .ok (.pointer (some ⟨w.heap.size, 0, none⟩)) (w.alloc (.cells Z ty)) := by
  cases hq : P.info? ty with
  | none => simp [hq] at hz
  | some i =>
    simp [hq] at hz
    have hzero : (zeroValue ty).run P w = .ok (.agg Z) w := by simp [zeroValue, typeInfo, hq, hz]
    simp [Instr.alloc, hzero, newVar, newRow, Value.cells]
theorem exec_alloc {oi : Oper} (ev : Operand → Value) (w : World) (ty : TypeId) (Z : Array Value) (ho : oi.op = .alloc ty) (hz : (P.info? ty).map (·.zero) = some (some (.agg Z))) :
    (execOp ev oi).run P w = .ok (.value (.pointer (some ⟨w.heap.size, 0, none⟩))) (w.alloc (.cells Z ty)) := by
  unfold execOp
  simp only [ho, Sem.run_bind, run_alloc_arr w ty Z hz, Result.andThen_ok, Sem.run_pure]
theorem exec_load {oi : Oper} (ev : Operand → Value) (w : World) (ty : TypeId) (x : Operand) (ho : oi.op = .load ty x) (g : Nat) (hx : ev x = .pointer (some ⟨g, 0, none⟩)) (t : TypeId) (cs : Array Value) (fr : Nat × Nat) (d : TypeDesc)
    (hg : w.heap[g]? = some (.cells cs t fr)) (hu : P.underlying ty = some d) (hd : (match d with | .struct _ | .array _ _ => true | _ => false) = true) (hi : (P.info? ty).map (·.size) = some cs.size) :
    (execOp ev oi).run P w = .ok (.value (.agg cs)) w := by
  unfold execOp
  simp only [ho, hx, Instr.loadAt, Instr.sureAddr, Sem.run_bind, Sem.run_pure, Result.andThen_ok, run_loadVar_row w g t ty cs fr d hg hu hd hi]
theorem exec_store {oi : Oper} (ev : Operand → Value) (w : World) (ty : TypeId) (x y : Operand) (ho : oi.op = .store ty x y) (g : Nat) (cells : Array Value) (hx : ev x = .pointer (some ⟨g, 0, none⟩)) (hy : ev y = .agg cells)
    (t : TypeId) (old : Array Value) (hg : w.heap[g]? = some (.cells old t (0, 0))) (hi : (P.info? ty).map (·.size) = some cells.size) (hold : old.size = cells.size) (h1 : cells.all (·.oneCell') = true) :
    (execOp ev oi).run P w = .ok .skip (w.setRow g cells) := by
  unfold execOp
  simp only [ho, hx, hy, Instr.storeAt, Instr.sureAddr, Sem.run_bind, Sem.run_pure, Result.andThen_ok, run_storeVar_row w g t ty old cells hg hi hold h1]
/-- The arm of an allocation of an array in a plain list of operations. -/
theorem wpList_alloc_arr {ops : Array Oper} {rest : List Oper} {o : Oper} {a : Act} {w : World} {Q : Exit → Act → World → Prop} (hgd : o.guard = none) (ty : TypeId) (ho : o.op = .alloc ty) (Z : Array Value)
    (hz : (P.info? ty).map (·.zero) = some (some (.agg Z))) (h : wpList P ops Q rest (a.put o.dst (.pointer (some ⟨w.heap.size, 0, none⟩))) (w.alloc (.cells Z ty))) : wpList P ops Q (o :: rest) a w :=
  wpList_plain hgd fun K hK => by
    unfold Oper.wp
    rw [exec_alloc a.eval w ty Z ho hz]
    exact hK _ _ h
/-! A region that draws its order, by what holds behind each set of operations. -/
def countF (l : Array Bool) : Nat := (l.toList.filter fun b => !b).length
theorem countF_set (l : Array Bool) (i : Nat) (h : l.getD i true = false) : countF (l.setIfInBounds i true) + 1 = countF l := by
  have hi : i < l.size := by
    by_cases h' : i < l.size
    · exact h'
    · simp [Array.getElem?_eq_none (by omega : l.size ≤ i)] at h
  have hv : l.toList[i]'(by simpa using hi) = false := by simpa [hi] using h
  have key : ∀ (m : List Bool) (j : Nat) (hj : j < m.length), m[j] = false → ((m.set j true).filter fun b => !b).length + 1 = (m.filter fun b => !b).length := by
    intro m
    induction m with
    | nil => intro j hj; simp at hj
    | cons b m ih =>
      intro j hj hb
      cases j with
      | zero => simp only [List.getElem_cons_zero] at hb; subst hb; simp
      | succ j =>
        simp only [List.getElem_cons_succ] at hb
        have := ih j (by simpa using hj) hb
        cases b <;> simp [List.filter_cons] <;> omega
  have := key l.toList i (by simpa using hi) hv
  unfold countF
  simpa using this
theorem wpAny_inv {ops : Array Oper} {Q : Exit → Act → World → Prop} {md : Region.Mode} (I : Array Bool → Act → World → Prop) (hsize : ∀ l a w, I l a w → l.size = ops.size)
    (hback : ∀ i o, ops[i]? = some o → ∀ e ∈ o.after, Region.binds md e = true → e.on < i)
    (hstep : ∀ l a w i o, I l a w → l.getD i true = false → ops[i]? = some o → (∀ e ∈ o.after, Region.binds md e = true → l.getD e.on false = true) → wpOp P ops Q i (fun a' w' => I (l.setIfInBounds i true) a' w') a w)
    (hend : ∀ l a w, I l a w → (∀ i, i < ops.size → l.getD i true = true) → Q .normal a w) :
    ∀ fuel l a w, I l a w → countF l ≤ fuel → wpAny P md ops Q fuel l a w := by
  have all : ∀ l : Array Bool, l.size = ops.size → Region.ready md ops l = [] → ∀ i, i < ops.size → l.getD i true = true := by
    intro l hl hr i
    induction i using Nat.strongRecOn with
    | _ i ih =>
      intro hi
      cases hb : l.getD i true with
      | true => rfl
      | false =>
        obtain ⟨o, ho⟩ : ∃ o, ops[i]? = some o := ⟨ops[i], by simp [hi]⟩
        have : i ∈ Region.ready md ops l := mem_ready.2 ⟨hb, o, ho, fun e he hbd => by
          have hlt := hback i o ho e he hbd
          have := ih e.on hlt (by omega)
          have hes : e.on < l.size := by omega
          simpa [hes] using this⟩
        rw [hr] at this
        cases this
  intro fuel
  induction fuel with
  | zero =>
    intro l a w hI hc
    have hsz := hsize l a w hI
    have hr : Region.ready md ops l = [] := by
      apply List.eq_nil_iff_forall_not_mem.2
      intro i hi
      have := countF_set l i (mem_ready.1 hi).1
      omega
    exact ⟨hr, hend l a w hI (all l hsz hr)⟩
  | succ fuel ih =>
    intro l a w hI hc
    have hsz := hsize l a w hI
    refine ⟨fun hr => hend l a w hI (all l hsz hr), fun i hi => ?_⟩
    obtain ⟨hf, o, ho, haf⟩ := mem_ready.1 hi
    have hcf := countF_set l i hf
    exact wpOp_mono (fun a' w' h' => ih _ a' w' h' (by omega)) (hstep l a w i o hI hf ho haf)
theorem wp_region_inv {ops : Array Oper} {Q : Exit → Act → World → Prop} {id : Nat} {a : Act} {w : World} (I : Array Bool → Act → World → Prop) (hm : P.follows .mixedOrders = true) (hsize : ∀ l a w, I l a w → l.size = ops.size)
    (hback : ∀ i o, ops[i]? = some o → ∀ e ∈ o.after, Region.binds .any e = true → e.on < i)
    (hstep : ∀ l a w i o, I l a w → l.getD i true = false → ops[i]? = some o → (∀ e ∈ o.after, Region.binds .any e = true → l.getD e.on false = true) → wpOp P ops Q i (fun a' w' => I (l.setIfInBounds i true) a' w') a w)
    (h0 : I (Array.replicate ops.size false) a w.drew) (hend : ∀ l a w, I l a w → (∀ i, i < ops.size → l.getD i true = true) → Q .normal a w) : (Code.region id ops true).wp P Q a w := by
  refine wp_region_any hm (wpAny_inv I hsize hback hstep hend ops.size _ _ _ h0 ?_)
  simp [countF]
end
end Go.Proofs.Ytdcbacbilncnnaa.H
end
section
set_option linter.unusedVariables false
set_option linter.unusedSimpArgs false
namespace Go.Proofs.Ytdcbacbilncnnaa.H
open Go.RowKit Go.Proofs.Ytdcbacbilncnnaa.Sha Go.Proofs.YtdcbacbilncnnaaW.PrintWords Go.Proofs.YtdcbacbilncnnaaW.PrintLast
def z64 : Array Value := us (List.replicate 64 0)
def z8 : Array Value := us (List.replicate 8 0)
theorem zero78 : (Try.prog.info? 141).map (·.zero) = some (some (.agg z64)) := by kernel_rfl
theorem zero33 : (Try.prog.info? 124).map (·.zero) = some (some (.agg z8)) := by kernel_rfl
theorem size78 (l : List UInt32) (h : l.length = 64) : (Try.prog.info? 141).map (·.size) = some (us l).size := by
  rw [us_size, h]; kernel_rfl
theorem size33 (l : List UInt32) (h : l.length = 8) : (Try.prog.info? 124).map (·.size) = some (us l).size := by
  rw [us_size, h]; kernel_rfl
/-- hash.Start: the words ahead of all bytes. -/
theorem start_any (w : World) : Calls Try.prog 76 #[] w fun e w' => e = .returned (.agg (us Sha.start.l)) ∧ Below w.heap.size w w' := by
  go_enter Try.func76, Try.ntmps76
  go_wp2
  refine bodyPost_ret (results_cell_row rfl _ _ w.heap.size 124 _ (0, 0) _ rfl (heap_alloc_last w _) Try.underlying124 rfl (by kernel_rfl)) rfl ⟨?_, (Below.refl _ _).alloc (Nat.le_refl _) _⟩
  rfl
set_option maxHeartbeats 1000000 in
set_option maxRecDepth 100000 in
theorem keys_any (w : World) : Calls Try.prog 93 #[] w fun e w' => e = .returned (.agg (us keys)) ∧ Below w.heap.size w w' := by
  go_enter Try.func93, Try.ntmps93
  apply wp_seq_k
  intro K1 hK1
  apply wp_region_lit
  refine wpList_alloc_arr rfl 141 rfl z64 zero78 ?_
  apply wpList_nil
  refine hK1 _ _ ?_
  apply wp_seq_k
  intro K2 hK2
  apply wp_region_lit
  refine wpList_build rfl 141 _ rfl (by kernel_rfl) ?_
  refine wpList_store_row rfl 141 _ _ rfl w.heap.size (us keys) rfl (by kernel_rfl) 141 z64 (heap_alloc_last w _) (size78 _ rfl) (by rw [us_size]; kernel_rfl) (us_one _) ?_
  rw [World.setRow_alloc_new]
  apply wpList_nil
  refine hK2 _ _ ?_
  apply wp_ret
  exact bodyPost_ret (results_cell_row rfl _ _ w.heap.size 141 (us keys) (0, 0) _ rfl (heap_alloc_last w _) Try.underlying141 rfl (size78 _ rfl)) rfl ⟨rfl, (Below.refl _ _).alloc (Nat.le_refl _) _⟩
end Go.Proofs.Ytdcbacbilncnnaa.H
end
section
/- The walk's arithmetic on words of 32 bits, as that of UInt32. -/
set_option linter.unusedVariables false
set_option linter.unusedSimpArgs false
namespace Go.Proofs.Ytdcbacbilncnnaa.H
open Go.RowKit Go.Proofs.Ytdcbacbilncnnaa.Sha
theorem wrap_u32 (n : Int) : IntKind.u32.wrap n = n % 4294967296 := IntKind.wrap_u32 n
theorem u_lt (x : UInt32) : (x.toNat : Int) < 4294967296 := by have := x.toNat_lt; omega
theorem u_wrap (x : UInt32) : IntKind.u32.wrap (x.toNat : Int) = (x.toNat : Int) := by rw [wrap_u32]; have := u_lt x; omega
theorem u_add (x y : UInt32) : IntKind.u32.wrap ((x.toNat : Int) + (y.toNat : Int)) = ((x + y).toNat : Int) := by
  rw [wrap_u32, UInt32.toNat_add]; omega
theorem u_add' (x y : UInt32) : ((x.toNat : Int) + (y.toNat : Int)) % 4294967296 = ((x + y).toNat : Int) := by
  rw [UInt32.toNat_add]; omega
theorem ofInt32 (x : UInt32) : BitVec.ofInt 32 (x.toNat : Int) = x.toBitVec := by
  rw [BitVec.ofInt_natCast]
  exact BitVec.eq_of_toNat_eq (by rw [BitVec.toNat_ofNat]; exact Nat.mod_eq_of_lt x.toNat_lt)
theorem u_or (x y : UInt32) : Go.bits .or .u32 (x.toNat : Int) (y.toNat : Int) = ((x ||| y).toNat : Int) := by
  show IntKind.u32.wrap ((BitVec.ofInt 32 (x.toNat : Int) ||| BitVec.ofInt 32 (y.toNat : Int)).toNat : Int) = _
  rw [ofInt32, ofInt32]; exact u_wrap (x ||| y)
theorem u_and (x y : UInt32) : Go.bits .and .u32 (x.toNat : Int) (y.toNat : Int) = ((x &&& y).toNat : Int) := by
  show IntKind.u32.wrap ((BitVec.ofInt 32 (x.toNat : Int) &&& BitVec.ofInt 32 (y.toNat : Int)).toNat : Int) = _
  rw [ofInt32, ofInt32]; exact u_wrap (x &&& y)
theorem u_xor (x y : UInt32) : Go.bits .xor .u32 (x.toNat : Int) (y.toNat : Int) = ((x ^^^ y).toNat : Int) := by
  show IntKind.u32.wrap ((BitVec.ofInt 32 (x.toNat : Int) ^^^ BitVec.ofInt 32 (y.toNat : Int)).toNat : Int) = _
  rw [ofInt32, ofInt32]; exact u_wrap (x ^^^ y)
theorem u_shl (x : UInt32) (n : Nat) (h : n < 32) : IntKind.u32.wrap ((x.toNat : Int) * ((2 ^ n : Nat) : Int)) = ((x <<< UInt32.ofNat n).toNat : Int) := by
  rw [wrap_u32, UInt32.toNat_shiftLeft, UInt32.toNat_ofNat', Nat.mod_eq_of_lt (by omega : n < 2 ^ 32), Nat.mod_eq_of_lt h, Nat.shiftLeft_eq]
  rw [← Int.natCast_mul]
  exact (Int.natCast_emod _ _).symm
theorem u_shr (x : UInt32) (n : Nat) (h : n < 32) : (x.toNat : Int) / ((2 ^ n : Nat) : Int) = ((x >>> UInt32.ofNat n).toNat : Int) := by
  rw [UInt32.toNat_shiftRight, UInt32.toNat_ofNat', Nat.mod_eq_of_lt (by omega : n < 2 ^ 32), Nat.mod_eq_of_lt h, Nat.shiftRight_eq_div_pow, Int.natCast_ediv]
theorem u_shl24 (x : UInt32) : IntKind.u32.wrap ((x.toNat : Int) * 16777216) = ((x <<< 24).toNat : Int) := u_shl x 24 (by decide)
theorem u_shl16 (x : UInt32) : IntKind.u32.wrap ((x.toNat : Int) * 65536) = ((x <<< 16).toNat : Int) := u_shl x 16 (by decide)
theorem u_shl8 (x : UInt32) : IntKind.u32.wrap ((x.toNat : Int) * 256) = ((x <<< 8).toNat : Int) := u_shl x 8 (by decide)
theorem u_shr3 (x : UInt32) : (x.toNat : Int) / (8 : Int) = ((x >>> 3).toNat : Int) := u_shr x 3 (by decide)
theorem u_shr10 (x : UInt32) : (x.toNat : Int) / (1024 : Int) = ((x >>> 10).toNat : Int) := u_shr x 10 (by decide)
theorem u_of8' (b : UInt8) : ((b.toNat : Int)) % 4294967296 = (b.toUInt32.toNat : Int) := by
  rw [UInt8.toNat_toUInt32]; have := b.toNat_lt; omega
theorem u_not2 (x : UInt32) : Go.bits .xor .u32 (if IntKind.u32.signed = true then -1 else IntKind.u32.max) (x.toNat : Int) = ((~~~x).toNat : Int) := by
  rw [if_neg (by decide), show IntKind.u32.max = 4294967295 by decide]
  show IntKind.u32.wrap ((BitVec.ofInt 32 4294967295 ^^^ BitVec.ofInt 32 (x.toNat : Int)).toNat : Int) = _
  have e0 : BitVec.ofInt 32 (4294967295 : Int) = BitVec.allOnes 32 := by decide
  rw [ofInt32, e0, BitVec.allOnes_xor]
  exact u_wrap (~~~x)
theorem rT_int (x : St) (k w : UInt32) : IntKind.u32.wrap (IntKind.u32.wrap (IntKind.u32.wrap (IntKind.u32.wrap ((x.h.toNat : Int) + Go.bits .xor .u32 (Go.bits .xor .u32 ((rotr x.e 6 26).toNat : Int) ((rotr x.e 11 21).toNat : Int)) ((rotr x.e 25 7).toNat : Int)) +
    Go.bits .xor .u32 (Go.bits .and .u32 (x.e.toNat : Int) (x.f.toNat : Int)) (Go.bits .and .u32 (Go.bits .xor .u32 (if IntKind.u32.signed = true then -1 else IntKind.u32.max) (x.e.toNat : Int)) (x.g.toNat : Int))) + (k.toNat : Int)) + (w.toNat : Int)) = ((rT x k w).toNat : Int) := by
  rw [u_xor, u_xor, u_and, u_not2, u_and, u_xor, u_add, u_add, u_add, u_add]
  rfl
theorem rU_int (x : St) : IntKind.u32.wrap (Go.bits .xor .u32 (Go.bits .xor .u32 ((rotr x.a 2 30).toNat : Int) ((rotr x.a 13 19).toNat : Int)) ((rotr x.a 22 10).toNat : Int) +
    Go.bits .xor .u32 (Go.bits .xor .u32 (Go.bits .and .u32 (x.a.toNat : Int) (x.b.toNat : Int)) (Go.bits .and .u32 (x.a.toNat : Int) (x.c.toNat : Int))) (Go.bits .and .u32 (x.b.toNat : Int) (x.c.toNat : Int))) = ((rU x).toNat : Int) := by
  rw [u_xor, u_xor, u_and, u_and, u_and, u_xor, u_xor, u_add]
  rfl
end Go.Proofs.Ytdcbacbilncnnaa.H
end
section
set_option linter.unusedVariables false
set_option linter.unusedSimpArgs false
namespace Go.Proofs.Ytdcbacbilncnnaa.H
open Go.RowKit Go.Proofs.Ytdcbacbilncnnaa.Sha Go.Proofs.YtdcbacbilncnnaaW.PrintWords Go.Proofs.YtdcbacbilncnnaaW.PrintLast
theorem index_s (s : ByteArray) (j : Nat) (x : Int) (hx : x = (j : Int)) (hj : j < s.size) (w : World) : (Instr.index 9 (.string s) (.int .i64 x)).run Try.prog w = .ok (.int .u8 (((s.toList.getD j 0)).toNat : Int)) w := by
  subst hx
  have e : s.toList.getD j 0 = s[j] := by
    have hl : s.toList = s.data.toList := ByteArray.toList_eq s
    have hj' : j < s.data.toList.length := by rw [Array.length_toList]; exact hj
    rw [hl, List.getD_eq_getElem?_getD, List.getElem?_eq_getElem hj']
    rfl
  rw [e]
  simp [go_sem, Try.underlying9, hj]
theorem at78 (g i : Nat) (x : Int) (hx : x = (i : Int)) (hi : i < 64) (w : World) : (Instr.indexAt 141 (.pointer (some ⟨g, 0, none⟩)) (.int .i64 x)).run Try.prog w = .ok (.pointer (some ⟨g, i, none⟩)) w := by
  subst hx
  have h2 : (i : Int) < 64 := by omega
  simp [go_sem, Try.underlying141, h2]
theorem at33 (g i : Nat) (x : Int) (hx : x = (i : Int)) (hi : i < 8) (w : World) : (Instr.indexAt 124 (.pointer (some ⟨g, 0, none⟩)) (.int .i64 x)).run Try.prog w = .ok (.pointer (some ⟨g, i, none⟩)) w := by
  subst hx
  have h2 : (i : Int) < 8 := by omega
  simp [go_sem, Try.underlying124, h2]
theorem word_int (l : List UInt8) (i : Nat) : Go.bits .or .u32 (Go.bits .or .u32 (Go.bits .or .u32 (((l[4 * i]?.getD 0).toNat : Int) % 4294967296 * 16777216 % 4294967296) (((l[4 * i + 1]?.getD 0).toNat : Int) % 4294967296 * 65536 % 4294967296)) (((l[4 * i + 2]?.getD 0).toNat : Int) % 4294967296 * 256 % 4294967296)) (((l[4 * i + 3]?.getD 0).toNat : Int) % 4294967296) = ((word l i).toNat : Int) := by
  have s24 := fun x => (wrap_u32 _).symm.trans (u_shl24 x)
  have s16 := fun x => (wrap_u32 _).symm.trans (u_shl16 x)
  have s8 := fun x => (wrap_u32 _).symm.trans (u_shl8 x)
  rw [u_of8', u_of8', u_of8', u_of8', s24, s16, s8, u_or, u_or, u_or]
  simp only [word, byte, List.getD_eq_getElem?_getD]
/-- The array's words, of which the first i are reckoned. -/
def part1 (l : List UInt8) (i : Nat) : List UInt32 := (List.range i).map (word l) ++ List.replicate (64 - i) 0
theorem part1_length (l : List UInt8) (i : Nat) (h : i ≤ 64) : (part1 l i).length = 64 := by simp [part1]; omega
theorem part1_set (l : List UInt8) (i : Nat) (h : i < 64) : (part1 l i).set i (word l i) = part1 l (i + 1) := by
  unfold part1
  rw [List.set_append_right _ _ (by simp)]
  simp only [List.length_map, List.length_range, Nat.sub_self]
  rw [show 64 - i = (64 - (i + 1)) + 1 by omega, List.replicate_succ, List.set_cons_zero, List.range_succ, List.map_append]
  simp
/-- The array's words, of which the first 16 and n more are reckoned. -/
def part2 (l : List UInt8) (n : Nat) : List UInt32 := grow (w16 l) n ++ List.replicate (48 - n) 0
theorem part2_length (l : List UInt8) (n : Nat) (h : n ≤ 48) : (part2 l n).length = 64 := by
  simp [part2, grow_length _ (w16_length l)]; omega
theorem part2_0 (l : List UInt8) : part2 l 0 = part1 l 16 := rfl
theorem part2_48 (l : List UInt8) : part2 l 48 = spread l := by simp [part2, spread]
theorem part2_at (l : List UInt8) (n i : Nat) (h : i < 16 + n) : at_ (part2 l n) i = at_ (grow (w16 l) n) i := by
  unfold at_ part2
  rw [List.getD_eq_getElem?_getD, List.getD_eq_getElem?_getD, List.getElem?_append_left (by rw [grow_length _ (w16_length l)]; exact h)]
theorem part2_set (l : List UInt8) (n : Nat) (h : n < 48) : (part2 l n).set (16 + n) (next (part2 l n) (16 + n)) = part2 l (n + 1) := by
  have e : next (part2 l n) (16 + n) = next (grow (w16 l) n) (16 + n) := by
    unfold next
    rw [part2_at _ _ _ (by omega), part2_at _ _ _ (by omega), part2_at _ _ _ (by omega), part2_at _ _ _ (by omega)]
  rw [e]
  have hl := grow_length (w16 l) (w16_length l) n
  unfold part2
  rw [List.set_append_right _ _ (by omega), hl, Nat.sub_self, show 48 - n = (48 - (n + 1)) + 1 by omega, List.replicate_succ, List.set_cons_zero]
  simp only [grow, List.append_assoc, List.cons_append, List.nil_append]
theorem us_cell {W : World} {g t : Nat} {l : List UInt32} (h : W.heap[g]? = some (.cells (us l) t (0, 0))) (i : Nat) (hi : i < l.length) : W.cell? ⟨g, i, none⟩ = some (.int .u32 ((at_ l i).toNat : Int)) :=
  (blk_cell h i).trans (us_get l i hi)
theorem us_put {W : World} {g t : Nat} {l : List UInt32} (h : W.heap[g]? = some (.cells (us l) t (0, 0))) (i : Nat) (x : UInt32) : (W.setCell ⟨g, i, none⟩ (.int .u32 (x.toNat : Int))).heap[g]? = some (.cells (us (l.set i x)) t (0, 0)) := by
  rw [← us_set]; exact blk_set h i _
theorem rot_any (x : UInt32) (k : Int) (m n : Nat) (hk : Go.bits .and .u64 (IntKind.u64.wrap k) 31 = (m : Int)) (hm : m ≤ 31) (hmn : m + n = 32) (h1 : 1 ≤ m) (w : World) :
    Calls Try.prog 94 #[.int .u32 x.toNat, .int .i64 k] w fun e w' => e = .returned (.int .u32 (rotr x (UInt32.ofNat n) (UInt32.ofNat m)).toNat) ∧ w' = w := by
  have e32 : IntKind.u64.wrap (32 - (m : Int)) = (n : Int) := by simp [IntKind.wrap, IntKind.bits, IntKind.signed]; omega
  have hn : n ≤ 31 := by omega
  have HM := Lib.hid hmn
  clear hmn
  go_enter Try.func94, Try.ntmps94
  go_wp2
  go_ret
  refine ⟨?_, rfl⟩
  have e1 := u_shl x m (by omega)
  have e2 := u_shr x n (by omega)
  rw [wrap_u32, Int.natCast_pow] at e1
  rw [Int.natCast_pow] at e2
  rw [show ((x.toNat : Int) * 2 ^ m) % 4294967296 = _ from e1, show (x.toNat : Int) / 2 ^ n = _ from e2, u_or]
  rfl
theorem rot7 (x : UInt32) (w : World) : Calls Try.prog 94 #[.int .u32 x.toNat, .int .i64 (-7)] w fun e w' => e = .returned (.int .u32 (rotr x 7 25).toNat) ∧ w' = w := rot_any x (-7) 25 7 (by decide) (by decide) (by decide) (by decide) w
theorem rot18 (x : UInt32) (w : World) : Calls Try.prog 94 #[.int .u32 x.toNat, .int .i64 (-18)] w fun e w' => e = .returned (.int .u32 (rotr x 18 14).toNat) ∧ w' = w := rot_any x (-18) 14 18 (by decide) (by decide) (by decide) (by decide) w
theorem rot17 (x : UInt32) (w : World) : Calls Try.prog 94 #[.int .u32 x.toNat, .int .i64 (-17)] w fun e w' => e = .returned (.int .u32 (rotr x 17 15).toNat) ∧ w' = w := rot_any x (-17) 15 17 (by decide) (by decide) (by decide) (by decide) w
theorem rot19 (x : UInt32) (w : World) : Calls Try.prog 94 #[.int .u32 x.toNat, .int .i64 (-19)] w fun e w' => e = .returned (.int .u32 (rotr x 19 13).toNat) ∧ w' = w := rot_any x (-19) 13 19 (by decide) (by decide) (by decide) (by decide) w
theorem rot6 (x : UInt32) (w : World) : Calls Try.prog 94 #[.int .u32 x.toNat, .int .i64 (-6)] w fun e w' => e = .returned (.int .u32 (rotr x 6 26).toNat) ∧ w' = w := rot_any x (-6) 26 6 (by decide) (by decide) (by decide) (by decide) w
theorem rot11 (x : UInt32) (w : World) : Calls Try.prog 94 #[.int .u32 x.toNat, .int .i64 (-11)] w fun e w' => e = .returned (.int .u32 (rotr x 11 21).toNat) ∧ w' = w := rot_any x (-11) 21 11 (by decide) (by decide) (by decide) (by decide) w
theorem rot25 (x : UInt32) (w : World) : Calls Try.prog 94 #[.int .u32 x.toNat, .int .i64 (-25)] w fun e w' => e = .returned (.int .u32 (rotr x 25 7).toNat) ∧ w' = w := rot_any x (-25) 7 25 (by decide) (by decide) (by decide) (by decide) w
theorem rot2 (x : UInt32) (w : World) : Calls Try.prog 94 #[.int .u32 x.toNat, .int .i64 (-2)] w fun e w' => e = .returned (.int .u32 (rotr x 2 30).toNat) ∧ w' = w := rot_any x (-2) 30 2 (by decide) (by decide) (by decide) (by decide) w
theorem rot13 (x : UInt32) (w : World) : Calls Try.prog 94 #[.int .u32 x.toNat, .int .i64 (-13)] w fun e w' => e = .returned (.int .u32 (rotr x 13 19).toNat) ∧ w' = w := rot_any x (-13) 19 13 (by decide) (by decide) (by decide) (by decide) w
theorem rot22 (x : UInt32) (w : World) : Calls Try.prog 94 #[.int .u32 x.toNat, .int .i64 (-22)] w fun e w' => e = .returned (.int .u32 (rotr x 22 10).toNat) ∧ w' = w := rot_any x (-22) 10 22 (by decide) (by decide) (by decide) (by decide) w
theorem u_add4 (a b c d : UInt32) : ((a.toNat : Int) + (b.toNat : Int) + (c.toNat : Int) + (d.toNat : Int)) % 4294967296 = ((a + b + c + d).toNat : Int) := by
  rw [UInt32.toNat_add, UInt32.toNat_add, UInt32.toNat_add]; omega
theorem below_setRow {B g : Nat} {w W : World} (h : Below B w W) (hg : B ≤ g) (cs : Array Value) : Below B w (W.setRow g cs) :=
  ⟨h.os, h.tape, h.output, by rw [setRow_size]; exact h.size, fun k hk => (setRow_other W g k cs (by omega)).trans (h.block k hk)⟩
theorem blk_setRow {W : World} {g k : Nat} {o : Obj} (h : W.heap[k]? = some o) (hne : k ≠ g) (cs : Array Value) : (W.setRow g cs).heap[k]? = some o := (setRow_other W g k cs hne).trans h
end Go.Proofs.Ytdcbacbilncnnaa.H
end
section
set_option linter.unusedVariables false
namespace Go.Proofs.Ytdcbacbilncnnaa.H
open Go.RowKit Go.Proofs.Ytdcbacbilncnnaa.Sha Go.Proofs.YtdcbacbilncnnaaW.PrintWords Go.Proofs.YtdcbacbilncnnaaW.PrintLast
set_option maxHeartbeats 400000 in
set_option maxRecDepth 100000 in
/-- hash.spread: the 64 words of a block. -/
theorem spread_any (s : ByteArray) (w : World) (hs : s.size = 64) : Calls Try.prog 92 #[.string s] w fun e w' => e = .returned (.agg (us (spread s.toList))) ∧ Below w.heap.size w w' := by
  have HS := Lib.hid hs
  clear hs
  go_enter Try.func92, Try.ntmps92
  apply wp_seq_k
  intro K1 hK1
  apply wp_region_lit
  refine wpList_alloc_arr rfl 141 rfl z64 zero78 ?_
  apply wpList_nil
  refine hK1 _ _ ?_
  clear hK1 K1
  apply wp_seq_k
  intro K1 hK1
  apply wp_region_lit
  refine wpList_alloc_arr rfl 141 rfl z64 zero78 ?_
  apply wpList_nil
  refine hK1 _ _ ?_
  clear hK1 K1
  simp only [Act.put, List.setIfInBounds_toArray, List.set_cons_zero, List.set_cons_succ]
  have hg0 : ((w.alloc (.cells z64 141)).alloc (.cells z64 141)).heap[w.heap.size]? = some (.cells z64 141 (0, 0)) := blk_alloc (heap_alloc_last w _) _
  have hg1 : ((w.alloc (.cells z64 141)).alloc (.cells z64 141)).heap[w.heap.size + 1]? = some (.cells z64 141 (0, 0)) := by
    have h := heap_alloc_last (w.alloc (.cells z64 141)) (.cells z64 141)
    rw [World.size_alloc] at h
    exact h
  have hB : Below w.heap.size w ((w.alloc (.cells z64 141)).alloc (.cells z64 141)) := ((Below.refl _ _).alloc (Nat.le_refl _) _).alloc (by simp) _
  have e1 : (w.alloc (Obj.cells z64 141)).heap.size = w.heap.size + 1 := by simp
  rw [e1]
  generalize (w.alloc (.cells z64 141)).alloc (.cells z64 141) = W at hg0 hg1 hB
  generalize hgn : w.heap.size = g at hg0 hg1 hB
  have G := Lib.hid hgn
  clear hgn e1
  go_wp2
  go_loopw [8] (fun v wr => ∃ i : Nat, i ≤ 16 ∧ v = .int .i64 i ∧ wr.heap[g]? = some (.cells z64 141 (0, 0)) ∧ wr.heap[g + 1]? = some (.cells (us (part1 s.toList i)) 141 (0, 0)) ∧ Below g w wr) (fun v _ => (16 - intOf v).toNat)
  case atStart => exact ⟨0, by omega, rfl, hg0, by simpa [part1, z64] using hg1, hB⟩
  case round =>
    obtain ⟨i, hi, rfl, h0, h1, hb⟩ := hrel
    by_cases hlt : i < 16
    · have b0 : decide ((i : Int) < 16) = true := decide_eq_true (by omega)
      have z := HS.out
      have x0 := index_s s (4 * i) (4 * (i : Int)) (by omega) (by omega)
      have x1 := index_s s (4 * i + 1) (4 * (i : Int) + 1) (by omega) (by omega)
      have x2 := index_s s (4 * i + 2) (4 * (i : Int) + 2) (by omega) (by omega)
      have x3 := index_s s (4 * i + 3) (4 * (i : Int) + 3) (by omega) (by omega)
      have e0 : IntKind.i64.wrap (4 * (i : Int)) = 4 * (i : Int) := IntWalk.i64_in _ (by omega)
      have e1 : IntKind.i64.wrap (4 * (i : Int) + 1) = 4 * (i : Int) + 1 := IntWalk.i64_in _ (by omega)
      have e2 : IntKind.i64.wrap (4 * (i : Int) + 2) = 4 * (i : Int) + 2 := IntWalk.i64_in _ (by omega)
      have e3 : IntKind.i64.wrap (4 * (i : Int) + 3) = 4 * (i : Int) + 3 := IntWalk.i64_in _ (by omega)
      clear z
      have y := at78 (g + 1) i (i : Int) rfl (by omega)
      have hcell := us_cell h1 i (by rw [part1_length _ _ (by omega)]; omega)
      have hfroz := blk_frozen h1 i
      have hwd := Lib.hid (word_int s.toList i)
      go_wp2
      go_still_tail 31, (by kernel_rfl)
      change wpList _ _ _ _ _ wr.drew
      have hcell2 : wr.drew.cell? ⟨g + 1, i, none⟩ = _ := hcell
      have hfroz2 : wr.drew.frozen? ⟨g + 1, i, none⟩ = _ := hfroz
      have h1' : wr.drew.heap[g + 1]? = _ := h1
      have h0' : wr.drew.heap[g]? = _ := h0
      have hb' : Below g w wr.drew := below_drew hb
      clear hcell hfroz h1 h0 hb
      generalize wr.drew = w2 at hcell2 hfroz2 h1' h0' hb' ⊢
      have H1 := Lib.hid h1'
      have H0 := Lib.hid h0'
      have HB := Lib.hid hb'
      clear h1' h0' hb'
      go_wp2
      go_roundw
      case rel =>
        rw [hwd.out]
        refine ⟨i + 1, by omega, by go_num, (blk_far H0.out (by simp) _), ?_, HB.out.setCell (by simp) _⟩
        have hp := us_put H1.out i (word s.toList i)
        rw [part1_set _ _ (by omega)] at hp
        exact hp
      case measure => simp [intOf]; omega
    · obtain rfl : i = 16 := by omega
      have b0 : decide ((16 : Int) < 16) = false := by decide
      rw [show ((16 : Nat) : Int) = (16 : Int) from rfl]
      clear hlt hi
      have H1 := Lib.hid h1
      have H0 := Lib.hid h0
      have HB := Lib.hid hb
      clear h1 h0 hb
      go_wp2
      refine Code.wp_mono (fun _ _ _ h => h) ?_
      go_loopw [5] (fun v wr => ∃ n : Nat, n ≤ 48 ∧ v = .int .i64 ((n : Int) + 16) ∧ wr.heap[g]? = some (.cells z64 141 (0, 0)) ∧ wr.heap[g + 1]? = some (.cells (us (part2 s.toList n)) 141 (0, 0)) ∧ Below g w wr) (fun v _ => (64 - intOf v).toNat)
      case atStart => exact ⟨0, by omega, rfl, H0.out, by rw [part2_0]; exact H1.out, HB.out⟩
      case round =>
        obtain ⟨n, hn, rfl, h0, h1, hb⟩ := hrel
        by_cases hlt : n < 48
        · have b0 : decide ((n : Int) + 16 < 64) = true := decide_eq_true (by omega)
          have e15 : IntKind.i64.wrap ((n : Int) + 16 - 15) = (n : Int) + 1 := by rw [IntWalk.i64_in _ (by omega)]; omega
          have e2 : IntKind.i64.wrap ((n : Int) + 16 - 2) = (n : Int) + 14 := by rw [IntWalk.i64_in _ (by omega)]; omega
          have e16 : IntKind.i64.wrap ((n : Int) + 16 - 16) = (n : Int) := by rw [IntWalk.i64_in _ (by omega)]; omega
          have e16' : IntKind.i64.wrap (n : Int) = (n : Int) := IntWalk.i64_in _ (by omega)
          have e7 : IntKind.i64.wrap ((n : Int) + 16 - 7) = (n : Int) + 9 := by rw [IntWalk.i64_in _ (by omega)]; omega
          have hlen := part2_length s.toList n (by omega)
          have y15 := at78 (g + 1) (n + 1) ((n : Int) + 1) (by omega) (by omega)
          have y2 := at78 (g + 1) (n + 14) ((n : Int) + 14) (by omega) (by omega)
          have y16 := at78 (g + 1) n (n : Int) (by omega) (by omega)
          have y7 := at78 (g + 1) (n + 9) ((n : Int) + 9) (by omega) (by omega)
          have y0 := at78 (g + 1) (16 + n) ((n : Int) + 16) (by omega) (by omega)
          have c15 := us_cell h1 (n + 1) (by omega)
          have c2 := us_cell h1 (n + 14) (by omega)
          have c16 := us_cell h1 n (by omega)
          have c7 := us_cell h1 (n + 9) (by omega)
          have c0 := us_cell h1 (16 + n) (by omega)
          have hfroz := blk_frozen h1 (16 + n)
          obtain ⟨x15, hx15⟩ : ∃ x, at_ (part2 s.toList n) (n + 1) = x := ⟨_, rfl⟩
          obtain ⟨x2, hx2⟩ : ∃ x, at_ (part2 s.toList n) (n + 14) = x := ⟨_, rfl⟩
          obtain ⟨x16, hx16⟩ : ∃ x, at_ (part2 s.toList n) n = x := ⟨_, rfl⟩
          obtain ⟨x7, hx7⟩ : ∃ x, at_ (part2 s.toList n) (n + 9) = x := ⟨_, rfl⟩
          rw [hx15] at c15
          rw [hx2] at c2
          rw [hx16] at c16
          rw [hx7] at c7
          have hnext : next (part2 s.toList n) (16 + n) = x16 + (rotr x15 7 25 ^^^ rotr x15 18 14 ^^^ x15 >>> 3) + x7 + (rotr x2 17 15 ^^^ rotr x2 19 13 ^^^ x2 >>> 10) := by
            unfold next
            rw [show 16 + n - 16 = n by omega, show 16 + n - 15 = n + 1 by omega, show 16 + n - 7 = n + 9 by omega, show 16 + n - 2 = n + 14 by omega, hx15, hx2, hx16, hx7]
          have HN := Lib.hid hnext
          have H1 := Lib.hid h1
          have H0 := Lib.hid h0
          have HB := Lib.hid hb
          clear h1 h0 hb hlen hx15 hx2 hx16 hx7 hnext
          go_wp2
          go_quiet (fail)
          go_wp2
          have H1 : Hid ((wr.drewN nq).heap[g + 1]? = _) := H1
          have H0 : Hid ((wr.drewN nq).heap[g]? = _) := H0
          have HB : Hid (Below g w (wr.drewN nq)) := Lib.hid (pw_below_drewN HB.out nq)
          have c16 : (wr.drewN nq).cell? _ = _ := c16
          have c7 : (wr.drewN nq).cell? _ = _ := c7
          have c0 : (wr.drewN nq).cell? _ = _ := c0
          have hfroz : (wr.drewN nq).frozen? _ = _ := hfroz
          clear c15 c2 y15 y2 e15 e2
          generalize wr.drewN nq = w3 at H1 H0 HB c16 c7 c0 hfroz ⊢
          refine wp_region_still_tail 29 (by kernel_rfl) (by kernel_rfl) ?_
          simp only [List.take_succ_cons, List.take_zero, List.drop_succ_cons, List.drop_zero]
          repeat still_step
          still_call (rot7 x15 _)
          repeat still_step
          still_call (rot18 x15 _)
          repeat still_step
          still_call (rot17 x2 _)
          repeat still_step
          still_call (rot19 x2 _)
          repeat still_step
          refine wpStill_nil ?_
          change wpList _ _ _ _ _ w3.drew
          go_wp2
          go_roundw
          case rel =>
            refine ⟨n + 1, by omega, congrArg (Value.int .i64) (by omega), blk_far (w := w3) H0.out (by simp) _, ?_, below_drew (HB.out.setCell (by simp) _)⟩
            rw [u_shr3, u_shr10, u_xor, u_xor, u_xor, u_xor, u_add4, ← HN.out]
            have hp := us_put H1.out (16 + n) (next (part2 s.toList n) (16 + n))
            rw [part2_set _ _ hlt] at hp
            exact hp
          case measure => simp [intOf]; omega
        · obtain rfl : n = 48 := by omega
          have b0 : decide (((48 : Nat) : Int) + 16 < 64) = false := by decide
          rw [part2_48] at h1
          have hl := spread_length s.toList
          have H1 := Lib.hid h1
          have H0 := Lib.hid h0
          have HB := Lib.hid hb
          have HL := Lib.hid hl
          clear h1 h0 hb hlt hl hn
          go_wp2_with (first | (refine wpList_load_row rfl 141 _ rfl (g + 1) rfl 141 (us (spread s.toList)) (0, 0) _ H1.out Try.underlying141 rfl (size78 _ HL.out) ?_) | (refine wpList_store_row rfl 141 _ _ rfl g (us (spread s.toList)) rfl rfl 141 z64 H0.out (size78 _ HL.out) (by rw [us_size, HL.out]; rfl) (us_one _) ?_))
          refine bodyPost_ret (results_cell_row rfl _ _ g 141 (us (spread s.toList)) (0, 0) _ rfl (setRow_heap wr g z64 _ 141 _ H0.out) Try.underlying141 rfl (size78 _ HL.out)) rfl ⟨rfl, below_setRow HB.out (Nat.le_refl _) _⟩
end Go.Proofs.Ytdcbacbilncnnaa.H
end
section
set_option linter.unusedVariables false
namespace Go.Proofs.Ytdcbacbilncnnaa.H
open Go.RowKit Go.Proofs.Ytdcbacbilncnnaa.Sha Go.Proofs.YtdcbacbilncnnaaW.PrintWords Go.Proofs.YtdcbacbilncnnaaW.PrintLast
def backB (md : Region.Mode) (ops : Array Oper) : Bool := (List.range ops.size).all fun i => ((ops[i]?).map fun o => o.after.all fun e => !Region.binds md e || decide (e.on < i)).getD true
theorem back_of {md : Region.Mode} {ops : Array Oper} (h : backB md ops = true) : ∀ i o, ops[i]? = some o → ∀ e ∈ o.after, Region.binds md e = true → e.on < i := by
  intro i o ho e he hb
  have hi : i < ops.size := (Array.getElem?_eq_some_iff.1 ho).1
  have h1 := List.all_eq_true.1 h i (List.mem_range.2 hi)
  rw [ho] at h1
  simp only [Option.map_some, Option.getD_some] at h1
  have h2 := Array.all_eq_true_iff_forall_mem.1 h1 e he
  rw [hb] at h2
  simpa using h2
theorem cases10 {ops : Array Oper} {i : Nat} {o : Oper} (hs : ops.size = 10) (h : ops[i]? = some o) : i = 0 ∨ i = 1 ∨ i = 2 ∨ i = 3 ∨ i = 4 ∨ i = 5 ∨ i = 6 ∨ i = 7 ∨ i = 8 ∨ i = 9 := by
  have hi : i < ops.size := (Array.getElem?_eq_some_iff.1 h).1
  omega
/-- An array of words that was made here. -/
def Made (B t : Nat) (cs : Array Value) (v : Value) (W : World) : Prop := ∃ p, v = .pointer (some ⟨p, 0, none⟩) ∧ B ≤ p ∧ W.heap[p]? = some (.cells cs t (0, 0))
theorem Made.below {B t : Nat} {cs : Array Value} {v : Value} {W W' : World} (h : Made B t cs v W) (hb : Below W.heap.size W W') : Made B t cs v W' := by
  obtain ⟨p, hv, hp, hg⟩ := h
  exact ⟨p, hv, hp, blk_below hg hb⟩
theorem Made.alloc {B t : Nat} {cs : Array Value} {v : Value} {W : World} (h : Made B t cs v W) (o : Obj) : Made B t cs v (W.alloc o) := h.below (below_alloc (Below.refl _ _) o)
theorem Made.new {B t : Nat} (cs : Array Value) (W : World) (h : B ≤ W.heap.size) : Made B t cs (.pointer (some ⟨W.heap.size, 0, none⟩)) (W.alloc (.cells cs t)) := ⟨_, rfl, h, heap_alloc_last W _⟩
theorem Made.setRow {B t : Nat} {cs : Array Value} {v : Value} {W : World} (h : Made B t cs v W) (g : Nat) (hne : v ≠ .pointer (some ⟨g, 0, none⟩)) (cs' : Array Value) : Made B t cs v (W.setRow g cs') := by
  obtain ⟨p, rfl, hp, hg⟩ := h
  exact ⟨p, rfl, hp, blk_setRow hg (fun e => hne (by rw [e])) cs'⟩
theorem Made.put {B t : Nat} {cs : Array Value} {W : World} {g : Nat} (h : Made B t cs (.pointer (some ⟨g, 0, none⟩)) W) (cs' : Array Value) : Made B t cs' (.pointer (some ⟨g, 0, none⟩)) (W.setRow g cs') := by
  obtain ⟨p, hv, hp, hg⟩ := h
  simp at hv
  subst hv
  exact ⟨g, rfl, hp, setRow_heap W g _ _ _ _ hg⟩
def fr22 (h : St) (s : ByteArray) (g : Nat) (v5 v6 v7 v18 v19 v20 v21 : Value) : Act := ⟨#[.agg (us h.l), .string s, .pointer (some ⟨g, 0, none⟩), undef, .pointer (some ⟨g + 1, 0, none⟩), v5, v6, v7, undef, undef, undef, undef, undef, undef, .string s, .int .i64 s.size, .bool false, undef, v18, v19, v20, v21, undef, undef, undef, undef, undef, undef, undef, undef, undef, undef, undef, undef, undef, undef, undef, undef, undef, undef, undef, undef, undef, undef, undef, undef, undef, undef, undef, undef, undef, undef, undef, undef, undef, undef, undef, undef, undef, undef, undef, undef, undef, undef, undef, undef, undef, undef, undef, undef, undef, undef, undef, undef, undef, undef, undef, undef, undef, undef, undef, undef, undef, undef, undef, undef, undef, undef, undef, undef, undef, undef, undef, undef, undef, undef, undef, undef, undef, undef, undef, undef, undef, undef, undef, undef, undef, undef, undef], []⟩
/-- What holds behind some of the ten operations that make the three arrays. -/
structure J22 (h : St) (s : ByteArray) (g : Nat) (W : World) (b0 b1 b2 b3 b4 b5 b6 b7 b8 b9 : Bool) (v5 v6 v7 v18 v19 v20 v21 : Value) (W' : World) : Prop where
  hb : Below (g + 2) W W'
  f0 : b0 = true → v18 = .string s
  f1 : b1 = true → v19 = .agg (us (spread s.toList))
  f2 : b2 = true → v20 = .agg (us keys)
  f3 : b3 = true → v21 = .agg (us h.l)
  f4 : b4 = true → Made (g + 2) 141 (if b7 = true then us (spread s.toList) else z64) v5 W'
  f5 : b5 = true → Made (g + 2) 141 (if b8 = true then us keys else z64) v6 W'
  f6 : b6 = true → Made (g + 2) 124 (if b9 = true then us h.l else z8) v7 W'
  ne : b4 = true → b5 = true → v5 ≠ v6
  o7 : b7 = true → b4 = true
  o8 : b8 = true → b5 = true
  o9 : b9 = true → b6 = true
theorem J22.later {h : St} {s : ByteArray} {g : Nat} {W : World} {b0 b1 b2 b3 b4 b5 b6 b7 b8 b9 : Bool} {v5 v6 v7 v18 v19 v20 v21 : Value} {W' W'' : World} (j : J22 h s g W b0 b1 b2 b3 b4 b5 b6 b7 b8 b9 v5 v6 v7 v18 v19 v20 v21 W')
    (hz : g + 2 ≤ W.heap.size) (hb : Below W'.heap.size W' W'') : J22 h s g W b0 b1 b2 b3 b4 b5 b6 b7 b8 b9 v5 v6 v7 v18 v19 v20 v21 W'' :=
  { j with hb := below_then j.hb (Nat.le_trans hz j.hb.size) hb, f4 := fun k => (j.f4 k).below hb, f5 := fun k => (j.f5 k).below hb, f6 := fun k => (j.f6 k).below hb }
theorem Made.open_ {B t : Nat} {cs : Array Value} {v : Value} {W : World} (h : Made B t cs v W) : ∃ p, v = .pointer (some ⟨p, 0, none⟩) ∧ B ≤ p ∧ W.heap[p]? = some (.cells cs t (0, 0)) := h
theorem Made.lt {B t : Nat} {cs : Array Value} {g : Nat} {W : World} (h : Made B t cs (.pointer (some ⟨g, 0, none⟩)) W) : g < W.heap.size := by
  obtain ⟨p, hv, _, hg⟩ := h
  simp at hv
  subst hv
  exact blk_lt hg
theorem Made.types {B B' t t' : Nat} {cs cs' : Array Value} {v : Value} {g : Nat} {W : World} (h : Made B t cs v W) (h' : Made B' t' cs' (.pointer (some ⟨g, 0, none⟩)) W) (hne : t ≠ t') : v ≠ .pointer (some ⟨g, 0, none⟩) := by
  obtain ⟨p, rfl, _, hg⟩ := h
  obtain ⟨p', hv', _, hg'⟩ := h'
  simp at hv'
  subst hv'
  intro e
  simp at e
  subst e
  rw [hg] at hg'
  simp at hg'
  exact hne hg'.2
theorem Made.putv {B t : Nat} {cs : Array Value} {v : Value} {W : World} {g : Nat} (h : Made B t cs v W) (hv : v = .pointer (some ⟨g, 0, none⟩)) (cs' : Array Value) : Made B t cs' v (W.setRow g cs') := by
  subst hv
  exact h.put cs'
theorem Made.typesv {B B' t t' : Nat} {cs cs' : Array Value} {v v' : Value} {g : Nat} {W : World} (h : Made B t cs v W) (h' : Made B' t' cs' v' W) (hv : v' = .pointer (some ⟨g, 0, none⟩)) (hne : t ≠ t') : v ≠ .pointer (some ⟨g, 0, none⟩) := by
  subst hv
  exact h.types h' hne
theorem copy_run (w : World) (p : Nat) (x : St) (h : w.heap[p]? = some (.cells (us x.l) 124 (0, 0))) :
    (Builtin.copy_ #[145, 145] 3 #[.slice (some ⟨p, 1, none⟩) 7 7, .slice (some ⟨p, 0, none⟩) 7 8]).run Try.prog w = .ok (goInt 7) (w.setRow p (us (St.mk x.a x.a x.b x.c x.d x.e x.f x.g).l)) := by
  have hh := run_copy_row (P := Try.prog) w 145 145 3 122 p 1 7 7 ⟨p, 0, none⟩ 7 8 (us x.l) 124 [uv x.a, uv x.b, uv x.c, uv x.d, uv x.e, uv x.f, uv x.g] Try.underlying145 (by kernel_rfl) h rfl
    (fun j v hj => by
      have e : (⟨p, 0, none⟩ : Addr).add j = ⟨p, j, none⟩ := by unfold Addr.add; split <;> simp_all
      rw [e, blk_cell h j]
      match j, hj with
      | 0, hj | 1, hj | 2, hj | 3, hj | 4, hj | 5, hj | 6, hj => exact hj
      | j + 7, hj => simp at hj)
    (by simp [us_size, St.l]) (by intro v hv; simp at hv; rcases hv with rfl | rfl | rfl | rfl | rfl | rfl | rfl <;> rfl)
  exact hh
/-- The words x, of which the first j have those of h added. -/
def addL (a b : List UInt32) (j : Nat) : List UInt32 :=
  [if 0 < j then at_ a 0 + at_ b 0 else at_ a 0, if 1 < j then at_ a 1 + at_ b 1 else at_ a 1, if 2 < j then at_ a 2 + at_ b 2 else at_ a 2, if 3 < j then at_ a 3 + at_ b 3 else at_ a 3,
   if 4 < j then at_ a 4 + at_ b 4 else at_ a 4, if 5 < j then at_ a 5 + at_ b 5 else at_ a 5, if 6 < j then at_ a 6 + at_ b 6 else at_ a 6, if 7 < j then at_ a 7 + at_ b 7 else at_ a 7]
theorem addL_length (a b : List UInt32) (j : Nat) : (addL a b j).length = 8 := rfl
theorem addL_at (a b : List UInt32) (j : Nat) (h : j < 8) : at_ (addL a b j) j = at_ a j := by
  match j, h with
  | 0, _ | 1, _ | 2, _ | 3, _ | 4, _ | 5, _ | 6, _ | 7, _ => rfl
theorem addL_set (a b : List UInt32) (j : Nat) (h : j < 8) : (addL a b j).set j (at_ a j + at_ b j) = addL a b (j + 1) := by
  match j, h with
  | 0, _ | 1, _ | 2, _ | 3, _ | 4, _ | 5, _ | 6, _ | 7, _ => rfl
set_option maxHeartbeats 4000000 in
set_option maxRecDepth 100000 in
theorem mix_any (h : St) (s : ByteArray) (w : World) (hs : s.size = 64) : Calls Try.prog 77 #[.agg (us h.l), .string s] w fun e w' => e = .returned (.agg (us (mix h s.toList).l)) ∧ Below w.heap.size w w' := by
  have hq : ((s.size : Int) != 64) = false := by rw [hs]; rfl
  have HS := Lib.hid hs
  clear hs
  rw [us_st h]
  go_enter Try.func77, Try.ntmps77
  go_wp2_with fail
  rw [← us_st h]
  have hg0 : ((w.alloc (.cells (us h.l) 124)).alloc (.cells z8 124)).heap[w.heap.size]? = some (.cells (us h.l) 124 (0, 0)) := blk_alloc (heap_alloc_last w _) _
  have hg1 : ((w.alloc (.cells (us h.l) 124)).alloc (.cells z8 124)).heap[w.heap.size + 1]? = some (.cells z8 124 (0, 0)) := by
    have h := heap_alloc_last (w.alloc (.cells (us h.l) 124)) (.cells z8 124)
    rw [World.size_alloc] at h
    exact h
  have hB : Below w.heap.size w ((w.alloc (.cells (us h.l) 124)).alloc (.cells z8 124)) := ((Below.refl _ _).alloc (Nat.le_refl _) _).alloc (by simp) _
  have hz : ((w.alloc (.cells (us h.l) 124)).alloc (.cells z8 124)).heap.size = w.heap.size + 2 := by simp
  rw [show #[Value.int IntKind.u32 0, Value.int IntKind.u32 0, Value.int IntKind.u32 0, Value.int IntKind.u32 0, Value.int IntKind.u32 0, Value.int IntKind.u32 0, Value.int IntKind.u32 0, Value.int IntKind.u32 0] = z8 from rfl]
  generalize (w.alloc (.cells (us h.l) 124)).alloc (.cells z8 124) = W at hg0 hg1 hB hz ⊢
  generalize hG : w.heap.size = g at hg0 hg1 hB hz ⊢
  have HG := Lib.hid hG
  clear hG
  have S1 := spread_any s
  have HZ := HS.out
  refine wp_region_inv (fun l a W' => ∃ b0 b1 b2 b3 b4 b5 b6 b7 b8 b9 v5 v6 v7 v18 v19 v20 v21, l = #[b0, b1, b2, b3, b4, b5, b6, b7, b8, b9] ∧ a = fr22 h s g v5 v6 v7 v18 v19 v20 v21 ∧ J22 h s g W b0 b1 b2 b3 b4 b5 b6 b7 b8 b9 v5 v6 v7 v18 v19 v20 v21 W') (by kernel_rfl) ?_ (back_of (by kernel_rfl)) ?_ ?_ ?_
  · rintro l a W' ⟨b0, b1, b2, b3, b4, b5, b6, b7, b8, b9, _, _, _, _, _, _, _, rfl, _, _⟩
    rfl
  · rintro l a W' i o ⟨b0, b1, b2, b3, b4, b5, b6, b7, b8, b9, v5, v6, v7, v18, v19, v20, v21, rfl, rfl, j⟩ hl ho haf
    rcases cases10 (by rfl) ho with rfl | rfl | rfl | rfl | rfl | rfl | rfl | rfl | rfl | rfl
    · refine wpOp_step ho (fun K' hK' => ?_)
      obtain rfl := Option.some.inj ho
      refine value_ (v := .string s) (by rfl) rfl (by rfl) (hK' _ _ ⟨true, b1, b2, b3, b4, b5, b6, b7, b8, b9, v5, v6, v7, .string s, v19, v20, v21, rfl, rfl, { j with f0 := fun _ => rfl }⟩)
    · refine wpOp_step ho (fun K' hK' => ?_)
      obtain rfl := Option.some.inj ho
      have h0 : b0 = true := haf ⟨0, .data⟩ (by simp) rfl
      obtain rfl := j.f0 h0
      refine goes_ Try.func92 (by kernel_rfl) rfl #[.string s] (by rfl) rfl rfl (by simp only [List.map_toArray, List.map_cons, List.map_nil]; rfl) ?_
      refine (S1 W' HZ).mono ?_
      rintro e W'' ⟨rfl, hb⟩
      exact ⟨_, rfl, hK' _ _ ⟨b0, true, b2, b3, b4, b5, b6, b7, b8, b9, v5, v6, v7, .string s, .agg (us (spread s.toList)), v20, v21, rfl, rfl, { j.later (by omega) hb with f1 := fun _ => rfl }⟩⟩
    · refine wpOp_step ho (fun K' hK' => ?_)
      obtain rfl := Option.some.inj ho
      refine goes_ Try.func93 (by kernel_rfl) rfl #[] (by rfl) rfl rfl (by simp only [List.map_toArray, List.map_nil]) ?_
      refine (keys_any W').mono ?_
      rintro e W'' ⟨rfl, hb⟩
      exact ⟨_, rfl, hK' _ _ ⟨b0, b1, true, b3, b4, b5, b6, b7, b8, b9, v5, v6, v7, v18, v19, .agg (us keys), v21, rfl, rfl, { j.later (by omega) hb with f2 := fun _ => rfl }⟩⟩
    · refine wpOp_step ho (fun K' hK' => ?_)
      obtain rfl := Option.some.inj ho
      refine value_ (v := .agg (us h.l)) (by rfl) rfl (exec_load _ W' 124 _ rfl g rfl 124 (us h.l) (0, 0) _ ((j.hb.block g (by omega)).trans hg0) Try.underlying124 rfl (size33 _ rfl)) (hK' _ _ ⟨b0, b1, b2, true, b4, b5, b6, b7, b8, b9, v5, v6, v7, v18, v19, v20, .agg (us h.l), rfl, rfl, { j with f3 := fun _ => rfl }⟩)
    · refine wpOp_step ho (fun K' hK' => ?_)
      obtain rfl := Option.some.inj ho
      have h7 : b7 = false := by
        cases hb7 : b7 with
        | false => rfl
        | true => have h4 := j.o7 hb7; rw [h4] at hl; cases hl
      subst h7
      have j' := j.later (W'' := W'.alloc (.cells z64 141)) (by omega) (below_alloc (Below.refl _ _) _)
      refine value_ (by rfl) rfl (exec_alloc _ W' 141 z64 rfl zero78) (hK' _ _ ⟨b0, b1, b2, b3, true, b5, b6, false, b8, b9, _, v6, v7, v18, v19, v20, v21, rfl, rfl, { j' with f4 := fun _ => Made.new z64 W' (Nat.le_trans (by omega) j.hb.size), ne := fun _ h5 e => ?_, o7 := fun h => by cases h }⟩)
      have hm := j.f5 h5
      rw [← e] at hm
      exact absurd hm.lt (by omega)
    · refine wpOp_step ho (fun K' hK' => ?_)
      obtain rfl := Option.some.inj ho
      have h8 : b8 = false := by
        cases hb8 : b8 with
        | false => rfl
        | true => have h5 := j.o8 hb8; rw [h5] at hl; cases hl
      subst h8
      have j' := j.later (W'' := W'.alloc (.cells z64 141)) (by omega) (below_alloc (Below.refl _ _) _)
      refine value_ (by rfl) rfl (exec_alloc _ W' 141 z64 rfl zero78) (hK' _ _ ⟨b0, b1, b2, b3, b4, true, b6, b7, false, b9, v5, _, v7, v18, v19, v20, v21, rfl, rfl, { j' with f5 := fun _ => Made.new z64 W' (Nat.le_trans (by omega) j.hb.size), ne := fun h4 _ e => ?_, o8 := fun h => by cases h }⟩)
      have hm := j.f4 h4
      rw [e] at hm
      exact absurd hm.lt (by omega)
    · refine wpOp_step ho (fun K' hK' => ?_)
      obtain rfl := Option.some.inj ho
      have h9 : b9 = false := by
        cases hb9 : b9 with
        | false => rfl
        | true => have h6 := j.o9 hb9; rw [h6] at hl; cases hl
      subst h9
      have j' := j.later (W'' := W'.alloc (.cells z8 124)) (by omega) (below_alloc (Below.refl _ _) _)
      exact value_ (by rfl) rfl (exec_alloc _ W' 124 z8 rfl zero33) (hK' _ _ ⟨b0, b1, b2, b3, b4, b5, true, b7, b8, false, v5, v6, _, v18, v19, v20, v21, rfl, rfl, { j' with f6 := fun _ => Made.new z8 W' (Nat.le_trans (by omega) j.hb.size), o9 := fun h => by cases h }⟩)
    · refine wpOp_step ho (fun K' hK' => ?_)
      obtain rfl := Option.some.inj ho
      have h1 : b1 = true := haf ⟨1, .data⟩ (by simp) rfl
      have h4 : b4 = true := haf ⟨4, .data⟩ (by simp) rfl
      have h5 : b5 = true := haf ⟨5, .phase⟩ (by simp) rfl
      have h6 : b6 = true := haf ⟨6, .phase⟩ (by simp) rfl
      have h7 : b7 = false := hl
      subst h7
      have m4 := j.f4 h4
      rw [if_neg (by decide)] at m4
      obtain ⟨p, hv, hp, hg⟩ := m4.open_
      exact skip_ (by rfl) rfl (exec_store _ W' 141 (.tmp 5) (.tmp 19) rfl p (us (spread s.toList)) hv (j.f1 h1) 141 z64 hg (size78 _ (spread_length _)) (by rw [us_size, spread_length]; rfl) (us_one _)) (hK' _ _ ⟨b0, b1, b2, b3, b4, b5, b6, true, b8, b9, v5, v6, v7, v18, v19, v20, v21, rfl, rfl,
        { j with hb := below_setRow j.hb hp _, f4 := fun _ => m4.putv hv _, f5 := fun k => (j.f5 k).setRow p (fun e => j.ne h4 h5 (hv.trans e.symm)) _, f6 := fun k => (j.f6 k).setRow p ((j.f6 k).typesv m4 hv (by decide)) _, o7 := fun _ => h4 }⟩)
    · refine wpOp_step ho (fun K' hK' => ?_)
      obtain rfl := Option.some.inj ho
      have h2 : b2 = true := haf ⟨2, .data⟩ (by simp) rfl
      have h4 : b4 = true := haf ⟨4, .phase⟩ (by simp) rfl
      have h5 : b5 = true := haf ⟨5, .data⟩ (by simp) rfl
      have h6 : b6 = true := haf ⟨6, .phase⟩ (by simp) rfl
      have h8 : b8 = false := hl
      subst h8
      have m5 := j.f5 h5
      rw [if_neg (by decide)] at m5
      obtain ⟨p, hv, hp, hg⟩ := m5.open_
      exact skip_ (by rfl) rfl (exec_store _ W' 141 (.tmp 6) (.tmp 20) rfl p (us keys) hv (j.f2 h2) 141 z64 hg (size78 _ keys_length) (by rw [us_size, keys_length]; rfl) (us_one _)) (hK' _ _ ⟨b0, b1, b2, b3, b4, b5, b6, b7, true, b9, v5, v6, v7, v18, v19, v20, v21, rfl, rfl,
        { j with hb := below_setRow j.hb hp _, f4 := fun k => (j.f4 k).setRow p (fun e => j.ne h4 h5 (e.trans hv.symm)) _, f5 := fun _ => m5.putv hv _, f6 := fun k => (j.f6 k).setRow p ((j.f6 k).typesv m5 hv (by decide)) _, o8 := fun _ => h5 }⟩)
    · refine wpOp_step ho (fun K' hK' => ?_)
      obtain rfl := Option.some.inj ho
      have h3 : b3 = true := haf ⟨3, .data⟩ (by simp) rfl
      have h6 : b6 = true := haf ⟨6, .data⟩ (by simp) rfl
      have h9 : b9 = false := hl
      subst h9
      have m6 := j.f6 h6
      rw [if_neg (by decide)] at m6
      obtain ⟨p, hv, hp, hg⟩ := m6.open_
      exact skip_ (by rfl) rfl (exec_store _ W' 124 (.tmp 7) (.tmp 21) rfl p (us h.l) hv (j.f3 h3) 124 z8 hg (size33 _ rfl) (by rw [us_size]; rfl) (us_one _)) (hK' _ _ ⟨b0, b1, b2, b3, b4, b5, b6, b7, b8, true, v5, v6, v7, v18, v19, v20, v21, rfl, rfl,
        { j with hb := below_setRow j.hb hp _, f4 := fun k => (j.f4 k).setRow p ((j.f4 k).typesv m6 hv (by decide)) _, f5 := fun k => (j.f5 k).setRow p ((j.f5 k).typesv m6 hv (by decide)) _, f6 := fun _ => m6.putv hv _, o9 := fun _ => h6 }⟩)
  · exact ⟨false, false, false, false, false, false, false, false, false, false, undef, undef, undef, undef, undef, undef, undef, rfl, rfl,
      { hb := below_drew (Below.refl _ _), f0 := nofun, f1 := nofun, f2 := nofun, f3 := nofun, f4 := nofun, f5 := nofun, f6 := nofun, ne := nofun, o7 := nofun, o8 := nofun, o9 := nofun }⟩
  · rintro l a W' ⟨b0, b1, b2, b3, b4, b5, b6, b7, b8, b9, v5, v6, v7, v18, v19, v20, v21, rfl, rfl, j⟩ hall
    have a0 : b0 = true := hall 0 (by decide)
    have a1 : b1 = true := hall 1 (by decide)
    have a2 : b2 = true := hall 2 (by decide)
    have a3 : b3 = true := hall 3 (by decide)
    have a4 : b4 = true := hall 4 (by decide)
    have a5 : b5 = true := hall 5 (by decide)
    have a6 : b6 = true := hall 6 (by decide)
    have a7 : b7 = true := hall 7 (by decide)
    have a8 : b8 = true := hall 8 (by decide)
    have a9 : b9 = true := hall 9 (by decide)
    obtain ⟨p5, e5, q5, g5⟩ := (j.f4 a4).open_
    obtain ⟨p6, e6, q6, g6⟩ := (j.f5 a5).open_
    obtain ⟨p7, e7, q7, g7⟩ := (j.f6 a6).open_
    rw [if_pos a7] at g5
    rw [if_pos a8] at g6
    rw [if_pos a9] at g7
    rw [e5, e6, e7, j.f0 a0, j.f1 a1, j.f2 a2, j.f3 a3]
    have hb := j.hb
    have n57 := Lib.hid (blk_ne g5 g7 (by decide))
    have n67 := Lib.hid (blk_ne g6 g7 (by decide))
    have n07 : Hid (g ≠ p7) := Lib.hid (by omega)
    have n17 : Hid (g + 1 ≠ p7) := Lib.hid (by omega)
    have n7 : Hid (g ≤ p7) := Lib.hid (by omega)
    clear j hall HZ S1
    unfold fr22
    dsimp only
    have hl5 := spread_length s.toList
    have hg0' := (hb.block g (by omega)).trans hg0
    have hg1' := (hb.block (g + 1) (by omega)).trans hg1
    have hBw : Below g w W' := hB.trans (hb.mono (by omega))
    go_wp2_with fail
    go_loopw [22] (fun v wr => ∃ i : Nat, i ≤ 64 ∧ v = .int .i64 i ∧ wr.heap[p7]? = some (.cells (us (rnds (spread s.toList) h i).l) 124 (0, 0)) ∧ wr.heap[p5]? = some (.cells (us (spread s.toList)) 141 (0, 0)) ∧ wr.heap[p6]? = some (.cells (us keys) 141 (0, 0)) ∧ wr.heap[g]? = some (.cells (us h.l) 124 (0, 0)) ∧ wr.heap[g + 1]? = some (.cells z8 124 (0, 0)) ∧ Below g w wr) (fun v _ => (64 - intOf v).toNat)
    case atStart => exact ⟨0, by omega, rfl, g7, g5, g6, hg0', hg1', hBw⟩
    case round =>
      clear g5 g6 g7 hg0' hg1' hBw
      obtain ⟨i, hi, rfl, c7, c5, c6, c0, c1, hbr⟩ := hrel
      by_cases hlt : i < 64
      · have b0 : decide ((i : Int) < 64) = true := decide_eq_true (by omega)
        obtain ⟨x, hx⟩ : ∃ x, rnds (spread s.toList) h i = x := ⟨_, rfl⟩
        obtain ⟨kk, hkk⟩ : ∃ y, at_ keys i = y := ⟨_, rfl⟩
        obtain ⟨ww, hww⟩ : ∃ y, at_ (spread s.toList) i = y := ⟨_, rfl⟩
        have hnx : rnds (spread s.toList) h (i + 1) = rnd x kk ww := by rw [← hx, ← hkk, ← hww]; rfl
        rw [hx] at c7
        have d0 := us_cell c7 0 (by simp [St.l])
        have d1 := us_cell c7 1 (by simp [St.l])
        have d2 := us_cell c7 2 (by simp [St.l])
        have d4 := us_cell c7 4 (by simp [St.l])
        have d5 := us_cell c7 5 (by simp [St.l])
        have d6 := us_cell c7 6 (by simp [St.l])
        have d7 := us_cell c7 7 (by simp [St.l])
        have dw := us_cell c5 i (by rw [hl5]; exact hlt)
        have dk := us_cell c6 i (by rw [keys_length]; exact hlt)
        rw [hww] at dw
        rw [hkk] at dk
        have y5 := at78 p5 i (i : Int) rfl hlt
        have y6 := at78 p6 i (i : Int) rfl hlt
        have HX := Lib.hid hnx
        have C7 := Lib.hid c7
        have C5 := Lib.hid c5
        have C6 := Lib.hid c6
        have C0 := Lib.hid c0
        have C1 := Lib.hid c1
        have HB := Lib.hid hbr
        clear hnx c7 c5 c6 c0 c1 hbr hx hkk hww
        simp only [at_, St.l, List.getD_cons_zero, List.getD_cons_succ] at d0 d1 d2 d4 d5 d6 d7
        go_wp2
        go_quiet (fail)
        go_wp2
        clear d0
        have d1 : (wr.drewN nq).cell? _ = _ := d1
        have d2 : (wr.drewN nq).cell? _ = _ := d2
        have d4 : (wr.drewN nq).cell? _ = _ := d4
        have d5 : (wr.drewN nq).cell? _ = _ := d5
        have d6 : (wr.drewN nq).cell? _ = _ := d6
        have d7 : (wr.drewN nq).cell? _ = _ := d7
        have dw : (wr.drewN nq).cell? _ = _ := dw
        have dk : (wr.drewN nq).cell? _ = _ := dk
        have C7 : Hid ((wr.drewN nq).heap[p7]? = _) := C7
        have C5 : Hid ((wr.drewN nq).heap[p5]? = _) := C5
        have C6 : Hid ((wr.drewN nq).heap[p6]? = _) := C6
        have C0 : Hid ((wr.drewN nq).heap[g]? = _) := C0
        have C1 : Hid ((wr.drewN nq).heap[g + 1]? = _) := C1
        have HB : Hid (Below g w (wr.drewN nq)) := Lib.hid (pw_below_drewN HB.out _)
        generalize wr.drewN nq = w1 at d1 d2 d4 d5 d6 d7 dw dk C7 C5 C6 C0 C1 HB ⊢
        refine wp_region_still_lit (by kernel_rfl) (by kernel_rfl) ?_
        repeat still_step
        still_call (rot6 x.e _)
        repeat still_step
        still_call (rot11 x.e _)
        repeat still_step
        still_call (rot25 x.e _)
        repeat still_step
        refine wpStill_nil ?_
        rw [rT_int, u_not2]
        change Exit.then _ _ Exit.normal _ w1.drew
        have d1 : (w1.drew).cell? _ = _ := d1
        have d2 : (w1.drew).cell? _ = _ := d2
        have d4 : (w1.drew).cell? _ = _ := d4
        have C7 : Hid ((w1.drew).heap[p7]? = _) := C7
        have C5 : Hid ((w1.drew).heap[p5]? = _) := C5
        have C6 : Hid ((w1.drew).heap[p6]? = _) := C6
        have C0 : Hid ((w1.drew).heap[g]? = _) := C0
        have C1 : Hid ((w1.drew).heap[g + 1]? = _) := C1
        have HB : Hid (Below g w (w1.drew)) := Lib.hid (below_drew HB.out)
        generalize w1.drew = w2 at d1 d2 d4 C7 C5 C6 C0 C1 HB ⊢
        clear d5 d6 d7 dw dk y5 y6
        go_wp2
        refine wp_region_still_lit (by kernel_rfl) (by kernel_rfl) ?_
        repeat still_step
        still_call (rot2 x.a _)
        repeat still_step
        still_call (rot13 x.a _)
        repeat still_step
        still_call (rot22 x.a _)
        repeat still_step
        refine wpStill_nil ?_
        rw [rU_int]
        change Exit.then _ _ Exit.normal _ w2.drew
        have d4 : (w2.drew).cell? _ = _ := d4
        have C7 : Hid ((w2.drew).heap[p7]? = _) := C7
        have C5 : Hid ((w2.drew).heap[p5]? = _) := C5
        have C6 : Hid ((w2.drew).heap[p6]? = _) := C6
        have C0 : Hid ((w2.drew).heap[g]? = _) := C0
        have C1 : Hid ((w2.drew).heap[g + 1]? = _) := C1
        have HB : Hid (Below g w (w2.drew)) := Lib.hid (below_drew HB.out)
        generalize w2.drew = w3 at d4 C7 C5 C6 C0 C1 HB ⊢
        clear d1 d2
        go_wp2
        go_still_tail 2, (by kernel_rfl)
        change wpList _ _ _ _ _ w3.drew
        have C7 : Hid ((w3.drew).heap[p7]? = _) := C7
        have C5 : Hid ((w3.drew).heap[p5]? = _) := C5
        have C6 : Hid ((w3.drew).heap[p6]? = _) := C6
        have C0 : Hid ((w3.drew).heap[g]? = _) := C0
        have C1 : Hid ((w3.drew).heap[g + 1]? = _) := C1
        have HB : Hid (Below g w (w3.drew)) := Lib.hid (below_drew HB.out)
        clear d4
        generalize w3.drew = w4 at C7 C5 C6 C0 C1 HB ⊢
        have hcopy := copy_run w4 p7 x C7.out
        refine wpList_plain rfl (fun K' hK' => ?_)
        go_simp
        refine hK' _ _ ?_
        clear hK' K'
        apply wpList_nil
        have C7 : Hid ((w4.setRow p7 (us (St.mk x.a x.a x.b x.c x.d x.e x.f x.g).l)).heap[p7]? = _) := Lib.hid (setRow_heap w4 p7 _ _ _ _ C7.out)
        have C5 : Hid ((w4.setRow p7 (us (St.mk x.a x.a x.b x.c x.d x.e x.f x.g).l)).heap[p5]? = _) := Lib.hid (blk_setRow C5.out n57.out _)
        have C6 : Hid ((w4.setRow p7 (us (St.mk x.a x.a x.b x.c x.d x.e x.f x.g).l)).heap[p6]? = _) := Lib.hid (blk_setRow C6.out n67.out _)
        have C0 : Hid ((w4.setRow p7 (us (St.mk x.a x.a x.b x.c x.d x.e x.f x.g).l)).heap[g]? = _) := Lib.hid (blk_setRow C0.out n07.out _)
        have C1 : Hid ((w4.setRow p7 (us (St.mk x.a x.a x.b x.c x.d x.e x.f x.g).l)).heap[g + 1]? = _) := Lib.hid (blk_setRow C1.out n17.out _)
        have HB : Hid (Below g w (w4.setRow p7 (us (St.mk x.a x.a x.b x.c x.d x.e x.f x.g).l))) := Lib.hid (below_setRow HB.out n7.out _)
        clear hcopy
        generalize w4.setRow p7 (us (St.mk x.a x.a x.b x.c x.d x.e x.f x.g).l) = w5 at C7 C5 C6 C0 C1 HB ⊢
        have d4 := us_cell C7.out 4 (by simp [St.l])
        have d0 := us_cell C7.out 0 (by simp [St.l])
        have f4 := blk_frozen C7.out 4
        have f0 := blk_frozen C7.out 0
        simp only [at_, St.l, List.getD_cons_zero, List.getD_cons_succ] at d0 d4
        go_wp2
        go_roundw
        case rel =>
          rw [u_add', u_add']
          refine ⟨i + 1, by omega, by go_num, ?_, blk_far (blk_far C5.out n57.out _) n57.out _, blk_far (blk_far C6.out n67.out _) n67.out _, blk_far (blk_far C0.out n07.out _) n07.out _, blk_far (blk_far C1.out n17.out _) n17.out _, (HB.out.setCell n7.out _).setCell n7.out _⟩
          rw [HX.out]
          exact us_put (us_put C7.out 4 (x.d + rT x kk ww)) 0 (rT x kk ww + rU x)
        case measure => simp [intOf]; omega
      · obtain rfl : i = 64 := by omega
        have b0 : decide ((64 : Int) < 64) = false := by decide
        rw [show ((64 : Nat) : Int) = (64 : Int) from rfl]
        obtain ⟨x, hx⟩ : ∃ x, rnds (spread s.toList) h 64 = x := ⟨_, rfl⟩
        rw [hx] at c7
        have HM : Hid (mix h s.toList = addSt x h) := Lib.hid (by rw [← hx]; rfl)
        have C7 := Lib.hid c7
        have C0 := Lib.hid c0
        have C1 := Lib.hid c1
        have HB := Lib.hid hbr
        clear c7 c5 c6 c0 c1 hbr hx hlt hi
        go_wp2
        go_loopw [96] (fun v wr => ∃ j : Nat, j ≤ 8 ∧ v = .int .i64 j ∧ wr.heap[p7]? = some (.cells (us (addL x.l h.l j)) 124 (0, 0)) ∧ wr.heap[g]? = some (.cells (us h.l) 124 (0, 0)) ∧ wr.heap[g + 1]? = some (.cells z8 124 (0, 0)) ∧ Below g w wr) (fun v _ => (8 - intOf v).toNat)
        case atStart => exact ⟨0, by omega, rfl, C7.out, C0.out, C1.out, HB.out⟩
        case round =>
          clear C7 C0 C1 HB
          obtain ⟨j, hj, rfl, c7, c0, c1, hbr⟩ := hrel
          by_cases hlt : j < 8
          · have b1 : decide ((j : Int) < 8) = true := decide_eq_true (by omega)
            have dx := us_cell c7 j (by rw [addL_length]; exact hlt)
            have dh := us_cell c0 j hlt
            have fx := blk_frozen c7 j
            have yx := at33 p7 j (j : Int) rfl hlt
            have yh := at33 g j (j : Int) rfl hlt
            rw [addL_at _ _ _ hlt] at dx
            obtain ⟨a1, ha1⟩ : ∃ y, at_ x.l j = y := ⟨_, rfl⟩
            obtain ⟨a2, ha2⟩ : ∃ y, at_ h.l j = y := ⟨_, rfl⟩
            rw [ha1] at dx
            rw [ha2] at dh
            have HS2 : Hid ((addL x.l h.l j).set j (a1 + a2) = addL x.l h.l (j + 1)) := Lib.hid (by rw [← ha1, ← ha2]; exact addL_set _ _ _ hlt)
            have C7 := Lib.hid c7
            have C0 := Lib.hid c0
            have C1 := Lib.hid c1
            have HB := Lib.hid hbr
            clear c7 c0 c1 hbr ha1 ha2
            go_wp2
            go_still_tail 8, (by kernel_rfl)
            change wpList _ _ _ _ _ wr.drew
            have C7 : Hid ((wr.drew).heap[p7]? = _) := C7
            have C0 : Hid ((wr.drew).heap[g]? = _) := C0
            have C1 : Hid ((wr.drew).heap[g + 1]? = _) := C1
            have HB : Hid (Below g w (wr.drew)) := Lib.hid (below_drew HB.out)
            have dx : (wr.drew).cell? _ = _ := dx
            have fx : (wr.drew).frozen? _ = _ := fx
            clear dh
            generalize wr.drew = w2 at C7 C0 C1 HB dx fx ⊢
            go_wp2
            go_roundw
            case rel =>
              first | rw [u_add'] | rw [u_add]
              refine ⟨j + 1, by omega, by go_num, ?_, blk_far C0.out n07.out _, blk_far C1.out n17.out _, HB.out.setCell n7.out _⟩
              have hp := us_put C7.out j (a1 + a2)
              rw [HS2.out] at hp
              exact hp
            case measure => simp [intOf]; omega
          · obtain rfl : j = 8 := by omega
            have b1 : decide ((8 : Int) < 8) = false := by decide
            rw [show ((8 : Nat) : Int) = (8 : Int) from rfl]
            have e8 : addL x.l h.l 8 = (addSt x h).l := rfl
            rw [e8] at c7
            have C7 := Lib.hid c7
            have C1 := Lib.hid c1
            have HB := Lib.hid hbr
            clear c7 c0 c1 hbr hlt hj e8
            go_wp2_with (first | (refine wpList_load_row rfl 124 _ rfl p7 rfl 124 (us (addSt x h).l) (0, 0) _ C7.out Try.underlying124 rfl (size33 _ rfl) ?_) | (refine wpList_store_row rfl 124 _ _ rfl (g + 1) (us (addSt x h).l) rfl rfl 124 z8 C1.out (size33 _ rfl) rfl (us_one _) ?_))
            refine bodyPost_ret (results_cell_row rfl _ _ (g + 1) 124 (us (addSt x h).l) (0, 0) _ rfl (setRow_heap wr (g + 1) z8 _ 124 _ C1.out) Try.underlying124 rfl (size33 _ rfl)) rfl ⟨by rw [HM.out], ?_⟩
            rw [HG.out]
            exact below_setRow HB.out (by omega) _
end Go.Proofs.Ytdcbacbilncnnaa.H
end
namespace Go.Proofs.YtdcbacbilncnnaaW.PrintWords
open Go.RowKit Go.Proofs.YtdcbacbilncnnaaW.PrintLast
theorem bq_ {P Q : Prop} (h : P) (q : P → Q := by intro z_; (with_reducible repeat (first | refine blk_drewN ?_ _ | refine blk_drew ?_ | refine blk_alloc ?_ _)); exact z_) : Q := q h
theorem br_ {P Q : Prop} (h : P) (q : P → Q := by intro z_; (with_reducible repeat (first | apply Kd.R_alloc | apply Kd.R_drewN | apply Kd.R_drew)); exact z_) : Q := q h
theorem bh_ {P Q : Prop} (h : P) (q : P → Q := by intro z_; repeat (first | (with_reducible first | exact z_ | apply below_alloc | apply pw_below_drewN | apply below_drew1 | refine below_set ?_ (Aside0.out (by assumption))) | exact z_)) : Q := q h
theorem bk_ {w w1 w2 : World} {g : Nat} {o : Obj} (h : w.heap[g]? = some o) (hb : Below w1.heap.size w1 w2) (q : w.heap[g]? = some o → w1.heap[g]? = some o := by intro z_; (with_reducible repeat (first | refine blk_drewN ?_ _ | refine blk_drew ?_ | refine blk_alloc ?_ _)); exact z_) : w2.heap[g]? = some o := blk_below (q h) hb
theorem bf_ {w w1 w2 : World} {g : Nat} {o : Obj} (h : w.heap[g]? = some o) (hb : Below w1.heap.size w1 w2) (q : w.heap[g]? = some o → w1.heap[g]? = some o := by intro z_; (repeat (first | (with_reducible first | refine blk_drewN ?_ _ | refine blk_drew ?_ | refine blk_alloc ?_ _) | refine blk_far ?_ (Aside0.out (by assumption)) _)); exact z_) : w2.heap[g]? = some o := blk_below (q h) hb
theorem bp_ {w w1 w2 : World} {g : Nat} {o o' : Obj} (h : w.heap[g]? = some o) (hb : Below w1.heap.size w1 w2) (q : w.heap[g]? = some o → w1.heap[g]? = some o' := by intro z_; (repeat (first | (with_reducible first | refine blk_drewN ?_ _ | refine blk_drew ?_ | refine blk_alloc ?_ _) | (apply blk_far; case hp => exact Aside0.out (by assumption)) | apply blk_put)); (exact z_); all_goals rfl) : w2.heap[g]? = some o' := blk_below (q h) hb
theorem bz_ {P Q : Prop} (h : P) (q : P → Q := by intro z_; (repeat (first | (with_reducible first | refine blk_drewN ?_ _ | refine blk_drew ?_ | refine blk_alloc ?_ _) | (apply blk_far; case hp => exact Aside0.out (by assumption)) | apply blk_put)); (exact z_); all_goals rfl) : Q := q h
theorem gl_ {P : Program} {ops : Array Oper} {Q : Exit → Act → World → Prop} {rest : List Oper} {oi : Oper} {a : Act} {w : World} (N : Option Tmp) {f : FuncId} {fn : Func} {as_ : Array Operand} {ts : Array TypeId} (hf : P.funcs[f]? = some fn) (args : Array Value) (h : Calls P f args w fun e w' => ∃ v, e = .returned v ∧ wpList P ops Q rest (a.put N v) w') (hd : oi.dst = N := by rfl) (hg : oi.guard = none := by rfl) (hname : (fn.name == "runtime.NumGoroutine") = false := by kernel_rfl) (hb : fn.body.isSome = true := by rfl) (hop : oi.op = .call { callee := .value (.func f), args := as_, argTypes := ts } := by rfl) (hargs : as_.map a.eval = args := by (try simp only [List.map_toArray, List.map_cons, List.map_nil]); first | done | rfl | (simp only [List.length_drop, List.length_take]; rfl)) : wpList P ops Q (oi :: rest) a w := goesL_ N hd hg hf hname hb args hop hargs h
theorem q1_ {α : Type} (l : List α) (i : Nat) (a : α) : l.toArray.setIfInBounds i a = (l.set i a).toArray := List.setIfInBounds_toArray ..
theorem q2_ {α : Type} (a b : α) (l : List α) : (a :: l).set 0 b = b :: l := rfl
theorem q3_ {α : Type} (a b : α) (l : List α) (n : Nat) : (a :: l).set (n + 1) b = a :: l.set n b := rfl
abbrev Y_ : Bool := true
abbrev N_ : Bool := false
theorem bc2_ {w : World} {g : Nat} {t : TypeId} {x0 x1 : Value} (h : w.heap[g]? = some (.cells #[x0, x1] t (0, 0))) : w.cell? ⟨g, 0, none⟩ = some x0 ∧ w.cell? ⟨g, 1, none⟩ = some x1 ∧ w.frozen? ⟨g, 0, none⟩ = false ∧ w.frozen? ⟨g, 1, none⟩ = false := ⟨(blk_cell h 0).trans rfl, (blk_cell h 1).trans rfl, blk_frozen h 0, blk_frozen h 1⟩
theorem bc3_ {w : World} {g : Nat} {t : TypeId} {x0 x1 x2 : Value} (h : w.heap[g]? = some (.cells #[x0, x1, x2] t (0, 0))) : w.cell? ⟨g, 0, none⟩ = some x0 ∧ w.cell? ⟨g, 1, none⟩ = some x1 ∧ w.cell? ⟨g, 2, none⟩ = some x2 ∧ w.frozen? ⟨g, 0, none⟩ = false ∧ w.frozen? ⟨g, 1, none⟩ = false ∧ w.frozen? ⟨g, 2, none⟩ = false := ⟨(blk_cell h 0).trans rfl, (blk_cell h 1).trans rfl, (blk_cell h 2).trans rfl, blk_frozen h 0, blk_frozen h 1, blk_frozen h 2⟩
theorem bc4_ {w : World} {g : Nat} {t : TypeId} {x0 x1 x2 x3 : Value} (h : w.heap[g]? = some (.cells #[x0, x1, x2, x3] t (0, 0))) : w.cell? ⟨g, 0, none⟩ = some x0 ∧ w.cell? ⟨g, 1, none⟩ = some x1 ∧ w.cell? ⟨g, 2, none⟩ = some x2 ∧ w.cell? ⟨g, 3, none⟩ = some x3 ∧ w.frozen? ⟨g, 0, none⟩ = false ∧ w.frozen? ⟨g, 1, none⟩ = false ∧ w.frozen? ⟨g, 2, none⟩ = false ∧ w.frozen? ⟨g, 3, none⟩ = false := ⟨(blk_cell h 0).trans rfl, (blk_cell h 1).trans rfl, (blk_cell h 2).trans rfl, (blk_cell h 3).trans rfl, blk_frozen h 0, blk_frozen h 1, blk_frozen h 2, blk_frozen h 3⟩
theorem bc7_ {w : World} {g : Nat} {t : TypeId} {x0 x1 x2 x3 x4 x5 x6 : Value} (h : w.heap[g]? = some (.cells #[x0, x1, x2, x3, x4, x5, x6] t (0, 0))) : w.cell? ⟨g, 0, none⟩ = some x0 ∧ w.cell? ⟨g, 1, none⟩ = some x1 ∧ w.cell? ⟨g, 2, none⟩ = some x2 ∧ w.cell? ⟨g, 3, none⟩ = some x3 ∧ w.cell? ⟨g, 4, none⟩ = some x4 ∧ w.cell? ⟨g, 5, none⟩ = some x5 ∧ w.cell? ⟨g, 6, none⟩ = some x6 ∧ w.frozen? ⟨g, 0, none⟩ = false ∧ w.frozen? ⟨g, 1, none⟩ = false ∧ w.frozen? ⟨g, 2, none⟩ = false ∧ w.frozen? ⟨g, 3, none⟩ = false ∧ w.frozen? ⟨g, 4, none⟩ = false ∧ w.frozen? ⟨g, 5, none⟩ = false ∧ w.frozen? ⟨g, 6, none⟩ = false := ⟨(blk_cell h 0).trans rfl, (blk_cell h 1).trans rfl, (blk_cell h 2).trans rfl, (blk_cell h 3).trans rfl, (blk_cell h 4).trans rfl, (blk_cell h 5).trans rfl, (blk_cell h 6).trans rfl, blk_frozen h 0, blk_frozen h 1, blk_frozen h 2, blk_frozen h 3, blk_frozen h 4, blk_frozen h 5, blk_frozen h 6⟩
theorem bc8_ {w : World} {g : Nat} {t : TypeId} {x0 x1 x2 x3 x4 x5 x6 x7 : Value} (h : w.heap[g]? = some (.cells #[x0, x1, x2, x3, x4, x5, x6, x7] t (0, 0))) : w.cell? ⟨g, 0, none⟩ = some x0 ∧ w.cell? ⟨g, 1, none⟩ = some x1 ∧ w.cell? ⟨g, 2, none⟩ = some x2 ∧ w.cell? ⟨g, 3, none⟩ = some x3 ∧ w.cell? ⟨g, 4, none⟩ = some x4 ∧ w.cell? ⟨g, 5, none⟩ = some x5 ∧ w.cell? ⟨g, 6, none⟩ = some x6 ∧ w.cell? ⟨g, 7, none⟩ = some x7 ∧ w.frozen? ⟨g, 0, none⟩ = false ∧ w.frozen? ⟨g, 1, none⟩ = false ∧ w.frozen? ⟨g, 2, none⟩ = false ∧ w.frozen? ⟨g, 3, none⟩ = false ∧ w.frozen? ⟨g, 4, none⟩ = false ∧ w.frozen? ⟨g, 5, none⟩ = false ∧ w.frozen? ⟨g, 6, none⟩ = false ∧ w.frozen? ⟨g, 7, none⟩ = false := ⟨(blk_cell h 0).trans rfl, (blk_cell h 1).trans rfl, (blk_cell h 2).trans rfl, (blk_cell h 3).trans rfl, (blk_cell h 4).trans rfl, (blk_cell h 5).trans rfl, (blk_cell h 6).trans rfl, (blk_cell h 7).trans rfl, blk_frozen h 0, blk_frozen h 1, blk_frozen h 2, blk_frozen h 3, blk_frozen h 4, blk_frozen h 5, blk_frozen h 6, blk_frozen h 7⟩
end Go.Proofs.YtdcbacbilncnnaaW.PrintWords
section
namespace Go.Proofs.Ytdcbacbilncnnaa.PHash
open Go.RowKit Go.Proofs.YtdcbacbilncnnaaW.PrintWords Go.Proofs.YtdcbacbilncnnaaW.PrintLast Go.Proofs.YtdcbacbilncnnaaW.PrintMore
attribute [local go_sem] max2_int min2_int max_two min_two max_three min_three max_four min_four   -- for this text's walks alone
set_option linter.unusedVariables false
set_option linter.unusedSimpArgs false
def errW : Option Int → Value
 | none => .nilIface
 | some c => .iface 0 (.int .i64 c)
theorem errW_none : errW none = .nilIface := rfl
theorem errW_some (c : Int) : errW (some c) = .iface 0 (.int .i64 c) := rfl
theorem info5 : (Try.prog.info? 5).map (fun i => (i.zero, i.size, i.bytes)) = some (some (.int .u8 0), 1, 1) := by kernel_rfl
-- the values' own types
end Go.Proofs.Ytdcbacbilncnnaa.PHash
end
section
namespace Go.Proofs.Ytdcbacbilncnnaa.PHash
open Go.RowKit Go.Proofs.YtdcbacbilncnnaaW.PrintWords Go.Proofs.YtdcbacbilncnnaaW.PrintLast Go.Proofs.YtdcbacbilncnnaaW.PrintMore
attribute [local go_sem] max2_int min2_int max_two min_two max_three min_three max_four min_four   -- for this text's walks alone
set_option linter.unusedVariables false
set_option linter.unusedSimpArgs false
/-! ### hash_tail: function 78 -/
def hash_tail.l0 : Nat → Int → List Int → Int → Option (ByteArray)
 | 0, _, _, _ => none
 | k + 1, x0, x3, x14 => if x14 < 8 then (if 0 ≤ (wrap64 (8 * x14)) then (if 0 ≤ (wrap64 ((wrap64 ((x3.length : Int) - 1)) - x14)) then (if (wrap64 ((wrap64 ((x3.length : Int) - 1)) - x14)) < (x3.length : Int) then (hash_tail.l0 k x0 (x3.set ((wrap64 ((wrap64 ((x3.length : Int) - 1)) - x14)) : Int).toNat ((shr .u64 (IntKind.u64.wrap ((IntKind.u64.wrap (x0)) * 8)) (wrap64 (8 * x14))) % 256)) (wrap64 (x14 + 1))) else (none)) else (none)) else (none)) else (some (strOfNums x3))
def hash_tail.f (k : Nat) (a0 : Int) : Option (ByteArray) := if 0 ≤ (wrap64 ((wrap64 (1 + (Int.tmod (wrap64 (119 - (Int.tmod a0 64))) 64))) + 8)) then (if (wrap64 ((wrap64 (1 + (Int.tmod (wrap64 (119 - (Int.tmod a0 64))) 64))) + 8) : Int).toNat ≤ 281474976710656 then ((some (List.replicate (wrap64 ((wrap64 (1 + (Int.tmod (wrap64 (119 - (Int.tmod a0 64))) 64))) + 8) : Int).toNat 0 : List Int)).bind fun y101 => (if 0 < (y101.length : Int) then (hash_tail.l0 k a0 (y101.set (0 : Int).toNat 128) 0) else (none))) else (none)) else (none)
set_option maxHeartbeats 8000000 in
set_option maxRecDepth 100000 in
theorem hash_tail.calls (k : Nat) (a0 : Int) (r : ByteArray) (w : World) (h : hash_tail.f k a0 = some r) :
  Calls Try.prog 78 #[.int .i64 a0] w fun e w' => e = .returned (.string r) ∧ Below w.heap.size w w' := by
 have HB := Aside0.mk (Below.refl w.heap.size w)
 have H : (if 0 ≤ (wrap64 ((wrap64 (1 + (Int.tmod (wrap64 (119 - (Int.tmod a0 64))) 64))) + 8)) then (if (wrap64 ((wrap64 (1 + (Int.tmod (wrap64 (119 - (Int.tmod a0 64))) 64))) + 8) : Int).toNat ≤ 281474976710656 then ((some (List.replicate (wrap64 ((wrap64 (1 + (Int.tmod (wrap64 (119 - (Int.tmod a0 64))) 64))) + 8) : Int).toNat 0 : List Int)).bind fun y101 => (if 0 < (y101.length : Int) then (hash_tail.l0 k a0 (y101.set (0 : Int).toNat 128) 0) else (none))) else (none)) else (none)) = some r := h
 clear h
 obtain ⟨ji2, hji2⟩ : ∃ j_ : Int, (wrap64 ((wrap64 (1 + (Int.tmod (wrap64 (119 - (Int.tmod a0 64))) 64))) + 8)) = j_ := ⟨_, rfl⟩
 replace H : (if 0 ≤ (ji2) then (if (ji2 : Int).toNat ≤ 281474976710656 then ((some (List.replicate (ji2 : Int).toNat 0 : List Int)).bind fun y101 => (if 0 < (y101.length : Int) then (hash_tail.l0 k a0 (y101.set (0 : Int).toNat 128) 0) else (none))) else (none)) else (none)) = some r := by first | (rw [hji2] at H; exact H) | (simp only [hji2] at H ⊢; exact H)
 have hji2w : (IntKind.i64.wrap ((wrap64 (1 + (Int.tmod (wrap64 (119 - (Int.tmod a0 64))) 64))) + 8)) = ji2 := (i64_w _).trans hji2
 by_cases c3 : 0 ≤ (ji2)
 ·rw [if_pos c3] at H
  have c3b0 := eq_true c3
  have c3b1 : decide (0 ≤ (ji2)) = true := decide_eq_true c3
  clear c3
  by_cases c4 : (ji2 : Int).toNat ≤ 281474976710656
  ·rw [if_pos c4] at H
   have c4b0 := eq_true c4
   have c4b1 : decide ((ji2 : Int).toNat ≤ 281474976710656) = true := decide_eq_true c4
   clear c4
   obtain ⟨y101, hy101⟩ : ∃ y_ : List Int, y_ = (List.replicate (ji2 : Int).toNat 0) := ⟨_, rfl⟩
   replace H : (if 0 < (y101.length : Int) then (hash_tail.l0 k a0 (y101.set (0 : Int).toNat 128) 0) else (none)) = some r := by first | (rw [hy101]; with_reducible exact H) | (have H2_ := (Option.bind_some _ _).symm.trans H; rw [hy101]; with_reducible exact H2_) | (have H2_ := (Option.bind_some _ _).symm.trans H; with_reducible exact H2_) | with_reducible exact H | (rw [hy101]; exact H) | exact H
   have Ny101 := Aside0.mk hy101
   clear hy101
   by_cases c5 : 0 < (y101.length : Int)
   ·rw [if_pos c5] at H
    have c5b0 : decide (0 < (y101.length : Int)) = true := decide_eq_true c5
    have c5b1 : decide (0 < y101.length) = true := decide_eq_true (by omega)
    clear c5
    obtain ⟨y104, hy104⟩ : ∃ y_ : List Int, y_ = (y101.set (0 : Int).toNat 128) := ⟨_, rfl⟩
    replace H : (hash_tail.l0 k a0 y104 0) = some r := by first | (rw [hy104]; with_reducible exact H) | (have H2_ := (Option.bind_some _ _).symm.trans H; rw [hy104]; with_reducible exact H2_) | (have H2_ := (Option.bind_some _ _).symm.trans H; with_reducible exact H2_) | with_reducible exact H | (rw [hy104]; exact H) | exact H
    have Ny104 := Aside0.mk hy104
    clear hy104
    have H' := Aside0.mk H
    clear H
    go_enter Try.func78, Try.ntmps78
    go_wp2_with (first | ((with_reducible refine gate_dst (N := 11) rfl ?_); refine Kd.R_make (Kd.int .u8) _ 5 rfl (N := 11) rfl 99 _ _ rfl ji2 rfl rfl Try.underlying99 (.int .u8 0) 1 info5 rfl (by decide) (by omega) 0 (ok := fun _ => True) (okp := fun _ => True) rfl (fun _ hk => hk) trivial (of_decide_eq_true (by first | (with_reducible assumption) | assumption)) (Nat.le_trans (Nat.mul_le_mul_right _ (of_decide_eq_true (by first | (with_reducible assumption) | assumption) : ji2.toNat ≤ 281474976710656)) (by omega)) (Below.refl _ _) (Nat.le_refl _) ?_; intro v102 w7 ho8 hb hg_ hnew_; clear hg_ hnew_; (first | rw [← Ny101.out] at ho8 | (simp only [Int.reduceToNat] at ho8; rw [← Ny101.out] at ho8)); have HO103 := Aside0.mk (Kd.R_lower ho8 (below_size (bh_ HB.out))); replace HB := Aside0.mk (below_step (bh_ HB.out) hb); clear hb ho8; have p6 : 0 ≤ (0 : Int) := (by omega); have q6 : (0 : Int) < ((y101.length : Int) : Int) := of_decide_eq_true (by first | (with_reducible assumption) | assumption); have qi6 : (0 < y101.length) = True := eq_true (by omega); obtain ⟨go6, co6, eo6, gb6, gl6, cl6, HG6⟩ := Kd.R_form HO103.out (by omega); (first | cases eo6 | (injection eo6 with ea_ en_ ec_; (first | subst ea_ | (injection ea_ with ea_; subst ea_)); subst ec_; clear en_)); have GB6 := Aside0.mk gb6; have GG6 := Aside0.mk HG6; clear gb6 gl6 HG6; obtain ⟨hx6_0, hf6_0⟩ := Kd.R_celln 0 HO103.out (0 : Int) p6 q6; (try rw [show ((0 : Int)).toNat = 0 from rfl] at hx6_0); (try simp only [Nat.reduceMul, Nat.zero_mul, Nat.zero_add, Nat.reduceAdd] at hx6_0); (try rw [show ((0 : Int)).toNat = 0 from rfl] at hf6_0); (try simp only [Nat.reduceMul, Nat.zero_mul, Nat.zero_add, Nat.reduceAdd] at hf6_0); replace p6 := eq_true p6; replace q6 := eq_true q6; obtain ⟨hy9_, hz9_⟩ := Kd.R_celln 0 HO103.out (0 : Int) (by omega) (of_decide_eq_true (by first | (with_reducible assumption) | assumption)); (try simp only [Int.reduceToNat, Int.toNat_zero, Int.toNat_ofNat, Nat.reduceMul, Nat.zero_mul, Nat.zero_add] at hy9_ hz9_); (try rw [show ((0 : Int)).toNat = 0 from rfl] at hy9_); (try rw [show ((0 : Int)).toNat = 0 from rfl] at hz9_); have HP9 := Kd.R_putg HO103.out (0 : Int) 128) | ((with_reducible refine gate_store (t := 5) (p := 13) rfl ?_); refine store_event (t := 5) (p := 13) (v := ?vo_w10) (w1 := (w7.setCell ⟨go6, (0 : Int).toNat, none⟩ (.int .u8 128))) ?hg ?ho ?hn ?hr ?_; (case ho => rfl); (case hg => rfl); (case hn => rfl); (case hr => first | (go_simp; done) | (go_simp; rfl)); intro w10 hw; have hg : w7.grownBy w10 (some go6) := (by rw [hw]; exact HP9.2); have hp_ : Kd.R (Kd.int .u8) 5 w10 w.heap.size (fun _ => True) (.slice (some ⟨go6, 0, none⟩) y101.length co6) y104 := (by rw [hw, Ny104.out]; exact HP9.1); clear HP9; replace HO103 := Aside0.mk (hp_); replace HB := Aside0.mk ((by rw [hw]; exact below_set (HB.out) GB6.out : Below w.heap.size w w10)); clear hg hw hp_))
    go_loopg [14] k (fun kq v14 w' => ∃ (x3_1 : List Int) (x14_1 : Int), v14 = .int .i64 x14_1 ∧ Aside0 (hash_tail.l0 kq a0 x3_1 x14_1 = some r) ∧ Aside0 (kq ≤ k) ∧ Aside0 (Kd.R (Kd.int .u8) 5 w' w.heap.size (fun _ => True) (.slice (some ⟨go6, 0, none⟩) y101.length co6) x3_1) ∧ Aside0 (Below w.heap.size w w'))
    case atStart => exact ⟨(y104), (0), (by first | rfl | (simp; done) | (simp [*]; done)), H', ⟨Nat.le_refl _⟩, ⟨br_ HO103.out⟩, ⟨bh_ HB.out⟩⟩
    case round =>
     clear H'
     try clear p2
     try clear c3
     try clear c3b0
     try clear c3b1
     try clear c4
     try clear c4b0
     try clear c4b1
     try clear c5
     try clear c5b0
     try clear c5b1
     try clear p6
     try clear q6
     try clear hx6
     try clear qi6
     try clear hf6
     try clear c7
     try clear hx6_0
     try clear p6
     try clear q6
     obtain ⟨x3_1, x14_1, rfl, HA, HK1, HO_3, HB⟩ := hrel
     have hl3_1 := (Kd.R_reads' HO_3.out).1
     rw [hl3_1] at HO_3
     (try simp only [hl3_1])
     cases gk with
     | zero => exact absurd HA.out (by simp [hash_tail.l0])
     | succ k1 =>
      have H := HA.out
      clear HA
      simp only [hash_tail.l0] at H
      by_cases c11 : x14_1 < 8
      ·rw [if_pos c11] at H
       have c11b0 : decide (x14_1 < 8) = true := decide_eq_true c11
       clear c11
       obtain ⟨ji12, hji12⟩ : ∃ j_ : Int, (wrap64 (8 * x14_1)) = j_ := ⟨_, rfl⟩
       replace H : (if 0 ≤ (ji12) then (if 0 ≤ (wrap64 ((wrap64 ((x3_1.length : Int) - 1)) - x14_1)) then (if (wrap64 ((wrap64 ((x3_1.length : Int) - 1)) - x14_1)) < (x3_1.length : Int) then (hash_tail.l0 k1 a0 (x3_1.set ((wrap64 ((wrap64 ((x3_1.length : Int) - 1)) - x14_1)) : Int).toNat ((shr .u64 (IntKind.u64.wrap ((IntKind.u64.wrap (a0)) * 8)) (ji12)) % 256)) (wrap64 (x14_1 + 1))) else (none)) else (none)) else (none)) = some r := by first | (rw [hji12] at H; exact H) | (simp only [hji12] at H ⊢; exact H)
       have hji12w : (IntKind.i64.wrap (8 * x14_1)) = ji12 := (i64_w _).trans hji12
       by_cases c13 : 0 ≤ (ji12)
       ·rw [if_pos c13] at H
        have c13b0 := eq_true c13
        have c13b1 : decide (0 ≤ (ji12)) = true := decide_eq_true c13
        clear c13
        obtain ⟨ji14, hji14⟩ : ∃ j_ : Int, (shr .u64 (IntKind.u64.wrap ((IntKind.u64.wrap (a0)) * 8)) (ji12)) = j_ := ⟨_, rfl⟩
        replace H : (if 0 ≤ (wrap64 ((wrap64 ((x3_1.length : Int) - 1)) - x14_1)) then (if (wrap64 ((wrap64 ((x3_1.length : Int) - 1)) - x14_1)) < (x3_1.length : Int) then (hash_tail.l0 k1 a0 (x3_1.set ((wrap64 ((wrap64 ((x3_1.length : Int) - 1)) - x14_1)) : Int).toNat ((ji14) % 256)) (wrap64 (x14_1 + 1))) else (none)) else (none)) = some r := by first | (rw [hji14] at H; exact H) | (simp only [hji14] at H ⊢; exact H)
        have hji14_ : ((IntKind.u64.wrap ((IntKind.u64.wrap (a0)) * 8)) / 2 ^ min (ji12).toNat 64) = ji14 := hji14
        have hji14z : (ji12) ≤ 64 → ((IntKind.u64.wrap ((IntKind.u64.wrap (a0)) * 8)) / 2 ^ (ji12).toNat) = ji14 := shr_small hji14
        obtain ⟨ji15, hji15⟩ : ∃ j_ : Int, (wrap64 ((wrap64 ((x3_1.length : Int) - 1)) - x14_1)) = j_ := ⟨_, rfl⟩
        replace H : (if 0 ≤ (ji15) then (if (ji15) < (x3_1.length : Int) then (hash_tail.l0 k1 a0 (x3_1.set ((ji15) : Int).toNat ((ji14) % 256)) (wrap64 (x14_1 + 1))) else (none)) else (none)) = some r := by first | (rw [hji15] at H; exact H) | (simp only [hji15] at H ⊢; exact H)
        have hji15w : (IntKind.i64.wrap ((wrap64 ((x3_1.length : Int) - 1)) - x14_1)) = ji15 := (i64_w _).trans hji15
        by_cases c16 : 0 ≤ (ji15)
        ·rw [if_pos c16] at H
         have c16b0 : decide (0 ≤ (ji15)) = true := decide_eq_true c16
         clear c16
         by_cases c17 : (ji15) < (x3_1.length : Int)
         ·rw [if_pos c17] at H
          have c17b0 : decide ((ji15) < (x3_1.length : Int)) = true := decide_eq_true c17
          clear c17
          obtain ⟨y105, hy105⟩ : ∃ y_ : List Int, y_ = (x3_1.set ((ji15) : Int).toNat ((ji14) % 256)) := ⟨_, rfl⟩
          replace H : (hash_tail.l0 k1 a0 y105 (wrap64 (x14_1 + 1))) = some r := by first | (rw [hy105]; with_reducible exact H) | (have H2_ := (Option.bind_some _ _).symm.trans H; rw [hy105]; with_reducible exact H2_) | (have H2_ := (Option.bind_some _ _).symm.trans H; with_reducible exact H2_) | with_reducible exact H | (rw [hy105]; exact H) | exact H
          have Ny105 := Aside0.mk hy105
          clear hy105
          have H' := Aside0.mk H
          clear H
          have p18 : 0 ≤ ((ji15) : Int) := of_decide_eq_true (by first | (with_reducible assumption) | assumption)
          have q18 : ((ji15) : Int) < ((x3_1.length : Int) : Int) := of_decide_eq_true (by first | (with_reducible assumption) | assumption)
          obtain ⟨hx18_0, hf18_0⟩ := Kd.R_celln 0 HO_3.out ((ji15) : Int) p18 q18
          replace p18 := eq_true p18
          replace q18 := eq_true q18
          have HP19 := Kd.R_putg HO_3.out ((ji15) : Int) ((ji14) % 256)
          go_wp2_with (first | ((with_reducible refine gate_store (t := 5) (p := 30) rfl ?_); refine store_event (t := 5) (p := 30) (v := ?vo_w20) (w1 := (wr.setCell ⟨go6, ((ji15) : Int).toNat, none⟩ (.int .u8 ((ji14) % 256)))) ?hg ?ho ?hn ?hr ?_; (case ho => rfl); (case hg => rfl); (case hn => rfl); (case hr => first | (go_simp; done) | (go_simp; rfl)); intro w20 hw; have hg : wr.grownBy w20 (some go6) := (by rw [hw]; exact HP19.2); have hp_ : Kd.R (Kd.int .u8) 5 w20 w.heap.size (fun _ => True) (.slice (some ⟨go6, 0, none⟩) x3_1.length co6) y105 := (by rw [hw, Ny105.out]; exact HP19.1); clear HP19; replace HO_3 := Aside0.mk (hp_); replace HB := Aside0.mk ((by rw [hw]; exact below_set (HB.out) GB6.out : Below w.heap.size w w20)); clear hg hw hp_))
          (try simp only [← hl3_1])
          go_roundg k1
          case measure => have := HK1.out; omega
          case rel => exact ⟨(y105), (wrap64 (x14_1 + 1)), (by first | rfl | (simp; done) | (simp [*]; done)), H', ⟨by have := HK1.out; omega⟩, ⟨by (try simp only [hl3_1]); (with_reducible repeat (first | apply Kd.R_alloc | apply Kd.R_drewN | apply Kd.R_drew)); exact HO_3.out⟩, ⟨bh_ HB.out⟩⟩
         ·rw [if_neg c17] at H
          exact absurd H (by simp)
        ·rw [if_neg c16] at H
         exact absurd H (by simp)
       ·rw [if_neg c13] at H
        exact absurd H (by simp)
      ·rw [if_neg c11] at H
       have c11b0 : decide (x14_1 < 8) = false := decide_eq_false c11
       clear c11
       obtain rfl := Option.some.inj H
       have hcv21 := own_string (P := Try.prog) Try.underlying99 Try.underlying5 Try.underlying9 (Kd.own_of_R HO_3.out)
       go_wp2
       go_ret
       exact ⟨by first | rfl | (simp [errW_none, errW_some] <;> rfl) | (simp only [← hji2]; first | rfl | (simp [errW_none, errW_some] <;> rfl)) | (simp [*, errW_none, errW_some] <;> rfl), by repeat (first | (with_reducible first | exact HB.out | apply below_alloc | apply pw_below_drewN | apply below_drew1) | exact HB.out)⟩
   ·rw [if_neg c5] at H
    exact absurd H (by simp)
  ·rw [if_neg c4] at H
   exact absurd H (by simp)
 ·rw [if_neg c3] at H
  exact absurd H (by simp)
end Go.Proofs.Ytdcbacbilncnnaa.PHash
end
section
/- Blocks mixed in one behind the other, and what a reference reckons otherwise: plain Lean, no program. -/
namespace Go.Proofs.Ytdcbacbilncnnaa.Sha
theorem blocks_snoc : ∀ (n : Nat) (h : St) (l : List UInt8), blocks (n + 1) h l = mix (blocks n h l) ((l.drop (64 * n)).take 64) := by
  intro n
  induction n with
  | zero => intro h l; rfl
  | succ n ih =>
    intro h l
    show blocks (n + 1) (mix h (l.take 64)) (l.drop 64) = mix (blocks n (mix h (l.take 64)) (l.drop 64)) _
    rw [ih, List.drop_drop]
    congr 3
    omega
theorem blocks_append : ∀ (a b : Nat) (h : St) (l : List UInt8), blocks (a + b) h l = blocks b (blocks a h l) (l.drop (64 * a)) := by
  intro a
  induction a with
  | zero => intro b h l; simp [blocks]
  | succ a ih =>
    intro b h l
    rw [show a + 1 + b = (a + b) + 1 by omega]
    show blocks (a + b) (mix h (l.take 64)) (l.drop 64) = blocks b (blocks a (mix h (l.take 64)) (l.drop 64)) _
    rw [ih, List.drop_drop]
    congr 2
    omega
theorem blocks_prefix : ∀ (n : Nat) (h : St) (l r : List UInt8), 64 * n ≤ l.length → blocks n h (l ++ r) = blocks n h l := by
  intro n
  induction n with
  | zero => intro h l r _; rfl
  | succ n ih =>
    intro h l r hl
    show blocks n (mix h ((l ++ r).take 64)) ((l ++ r).drop 64) = blocks n (mix h (l.take 64)) (l.drop 64)
    rw [List.take_append_of_le_length (by omega), List.drop_append_of_le_length (by omega), ih _ _ _ (by simp; omega)]
theorem sum_parts (l : List UInt8) : sum l = out (blocks ((l.length + 72) / 64 - l.length / 64) (blocks (l.length / 64) start l) (l.drop (64 * (l.length / 64)) ++ pad l.length)) := by
  unfold sum
  have e : (l.length + 72) / 64 = l.length / 64 + ((l.length + 72) / 64 - l.length / 64) := by omega
  rw [e, blocks_append, blocks_prefix _ _ _ _ (by omega), List.drop_append_of_le_length (by omega)]
  congr 3
theorem u32_not (e : UInt32) : 4294967295 - e = ~~~e := by
  apply UInt32.toNat_inj.1
  rw [UInt32.toNat_sub, UInt32.toNat_not]
  have := e.toNat_lt
  show (2 ^ 32 - e.toNat + 4294967295) % 2 ^ 32 = 2 ^ 32 - 1 - e.toNat
  omega
theorem u32_ext (x y : UInt32) (h : ∀ i, i < 32 → x.toBitVec.getLsbD i = y.toBitVec.getLsbD i) : x = y :=
  UInt32.toBitVec_inj.1 (BitVec.eq_of_getLsbD_eq h)
theorem ref_ch (e f g : UInt32) : (e &&& f) ||| ((4294967295 - e) &&& g) = (e &&& f) ^^^ (~~~e &&& g) := by
  rw [u32_not]
  apply u32_ext
  intro i hi
  simp only [UInt32.toBitVec_or, UInt32.toBitVec_xor, UInt32.toBitVec_and, UInt32.toBitVec_not, BitVec.getLsbD_or, BitVec.getLsbD_xor, BitVec.getLsbD_and, BitVec.getLsbD_not, hi, decide_true, Bool.true_and]
  cases e.toBitVec.getLsbD i <;> cases f.toBitVec.getLsbD i <;> cases g.toBitVec.getLsbD i <;> rfl
theorem ref_maj (a b c : UInt32) : (a &&& b) ||| (a &&& c) ||| (b &&& c) = (a &&& b) ^^^ (a &&& c) ^^^ (b &&& c) := by
  apply u32_ext
  intro i hi
  simp only [UInt32.toBitVec_or, UInt32.toBitVec_xor, UInt32.toBitVec_and, BitVec.getLsbD_or, BitVec.getLsbD_xor, BitVec.getLsbD_and]
  cases a.toBitVec.getLsbD i <;> cases b.toBitVec.getLsbD i <;> cases c.toBitVec.getLsbD i <;> rfl
end Go.Proofs.Ytdcbacbilncnnaa.Sha
end
section
set_option linter.unusedVariables false
set_option linter.unusedSimpArgs false
namespace Go.Proofs.Ytdcbacbilncnnaa.H
open Go.RowKit Go.Proofs.Ytdcbacbilncnnaa.Sha Go.Proofs.YtdcbacbilncnnaaW.PrintWords Go.Proofs.YtdcbacbilncnnaaW.PrintLast
/-- The words behind a block; as they were, if it has another length. -/
def mixB (h : St) (l : List UInt8) : St := if l.length = 64 then mix h l else h
theorem size_toList (s : ByteArray) : s.toList.length = s.size := by rw [ByteArray.toList_eq, Array.length_toList]; rfl
set_option maxRecDepth 100000 in
set_option maxHeartbeats 1000000 in
theorem mix_short (h : St) (s : ByteArray) (w : World) (hs : s.size ≠ 64) : Calls Try.prog 77 #[.agg (us h.l), .string s] w fun e w' => e = .returned (.agg (us h.l)) ∧ Below w.heap.size w w' := by
  have hq : ((s.size : Int) != 64) = true := by rw [bne_iff_ne]; omega
  clear hs
  rw [us_st h]
  go_enter Try.func77, Try.ntmps77
  go_wp2
  rw [← us_st h]
  have hg1 : ((w.alloc (.cells (us h.l) 124)).alloc (.cells (us h.l) 124)).heap[w.heap.size + 1]? = some (.cells (us h.l) 124 (0, 0)) := by
    have h := heap_alloc_last (w.alloc (.cells (us h.l) 124)) (.cells (us h.l) 124)
    rw [World.size_alloc] at h
    exact h
  refine bodyPost_ret (results_cell_row rfl _ _ (w.heap.size + 1) 124 (us h.l) (0, 0) _ rfl hg1 Try.underlying124 rfl (size33 _ rfl)) rfl ⟨rfl, ?_⟩
  exact ((Below.refl _ _).alloc (Nat.le_refl _) _).alloc (by simp) _
set_option maxRecDepth 100000 in
theorem mix_all (h : St) (s : ByteArray) (w : World) : Calls Try.prog 77 #[.agg (us h.l), .string s] w fun e w' => e = .returned (.agg (us (mixB h s.toList).l)) ∧ Below w.heap.size w w' := by
  unfold mixB
  rw [size_toList]
  by_cases hs : s.size = 64
  · rw [if_pos hs]; exact mix_any h s w hs
  · rw [if_neg hs]; exact mix_short h s w hs
theorem still_load {P : Program} {ops : Array Oper} {w : World} {Q : Act → Prop} {o : Oper} {rest : List Oper} {a : Act} (hgd : o.guard = none) (ty : TypeId) (x : Operand) (ho : o.op = .load ty x) (g : Nat) (hx : a.eval x = .pointer (some ⟨g, 0, none⟩)) (t : TypeId) (cs : Array Value) (fr : Nat × Nat) (d : TypeDesc)
    (hg : w.heap[g]? = some (.cells cs t fr)) (hu : P.underlying ty = some d) (hd : (match d with | .struct _ | .array _ _ => true | _ => false) = true) (hi : (P.info? ty).map (·.size) = some cs.size)
    (h : wpStill P ops w Q rest (a.put o.dst (.agg cs))) : wpStill P ops w Q (o :: rest) a := by
  refine wpStill_step (fun K hK => ?_)
  rw [if_pos (by simp [Region.wanted, hgd])]
  unfold Oper.still
  rw [exec_load a.eval w ty x ho g hx t cs fr d hg hu hd hi]
  exact ⟨rfl, hK _ h⟩
theorem info5 : (Try.prog.info? 5).map (fun i => (i.zero, i.size, i.bytes)) = some (some (.int .u8 0), 1, 1) := by kernel_rfl
def byts (l : List UInt8) : List Int := l.map fun b => (b.toNat : Int)
theorem index_us (l : List UInt32) (hl : l.length = 8) (i : Nat) (x : Int) (hx : x = (i : Int)) (hi : i < 8) (w : World) : (Instr.index 124 (.agg (us l)) (.int .i64 x)).run Try.prog w = .ok (.int .u32 ((at_ l i).toNat : Int)) w := by
  subst hx
  have h3 : 0 ≤ (i : Int) := by omega
  have hg := us_get l i (by omega)
  unfold Instr.index
  simp [go_sem, run_underlying Try.underlying124, asIntOf, h3, hg, part]
  intro h
  omega
theorem new_cells (w : World) (t : TypeId) (l : List Value) : ∀ j u, l[j]? = some u → (w.alloc (.cells l.toArray t)).cell? ((⟨w.heap.size, 0, none⟩ : Addr).add j) = some u := by
  intro j u hj
  rw [add_plain, World.cell?_alloc_new]
  simpa using hj
theorem four_one (a b c d : Int) : ∀ u ∈ [Value.int .u8 a, .int .u8 b, .int .u8 c, .int .u8 d], u.oneCell' = true := by
  intro u hu
  simp at hu
  rcases hu with rfl | rfl | rfl | rfl <;> rfl
theorem strOf_byts (l : List UInt8) : strOfNums (byts l) = ⟨l.toArray⟩ := by
  unfold strOfNums byts
  rw [List.map_map]
  congr 2
  rw [List.map_congr_left (g := id) (fun b _ => by simp)]
  simp
theorem be_vals (x : UInt32) : [Value.int .u8 ((x.toNat : Int) / 16777216 % 256), .int .u8 ((x.toNat : Int) / 65536 % 256), .int .u8 ((x.toNat : Int) / 256 % 256), .int .u8 ((x.toNat : Int) % 256)] = nums .u8 (byts (be x)) := by
  have h := be_nat x
  have e : byts (be x) = ((be x).map UInt8.toNat).map fun (n : Nat) => (n : Int) := by simp [byts]
  rw [e, h]
  simp [Ev.be, nums]
  refine ⟨?_, ?_, ?_, ?_⟩
  all_goals rfl
theorem byts_append (a b : List UInt8) : byts (a ++ b) = byts a ++ byts b := by simp [byts]
theorem be_step (l : List UInt32) (n : Nat) (h : n < l.length) : (l.take (n + 1)).flatMap be = (l.take n).flatMap be ++ be (at_ l n) := by
  rw [take_snoc_at l n h]
  simp
theorem slice_s (s : ByteArray) (a b : Nat) (x y : Int) (hx : x = (a : Int)) (hy : y = (b : Int)) (h1 : a ≤ b) (h2 : b ≤ s.size) (w : World) :
    (Instr.slice 9 (.string s) (some (.int .i64 x)) (some (.int .i64 y)) none).run Try.prog w = .ok (.string (s.extract a b)) w := by
  subst hx hy
  simp [go_sem, Try.underlying9, h1, h2]
theorem slice_to (s : ByteArray) (b : Nat) (y : Int) (hy : y = (b : Int)) (h2 : b ≤ s.size) (w : World) :
    (Instr.slice 9 (.string s) none (some (.int .i64 y)) none).run Try.prog w = .ok (.string (s.extract 0 b)) w := by
  subst hy
  simp [go_sem, Try.underlying9, h2]
theorem slice_from (s : ByteArray) (a : Nat) (x : Int) (hx : x = (a : Int)) (h2 : a ≤ s.size) (w : World) :
    (Instr.slice 9 (.string s) (some (.int .i64 x)) none none).run Try.prog w = .ok (.string (s.extract a s.size)) w := by
  subst hx
  simp [go_sem, Try.underlying9, h2]
theorem pad_len (n : Nat) : (pad n).length = 9 + (119 - n % 64) % 64 := by simp [pad, bits8]; omega
theorem drop_extract (s : ByteArray) (a b : Nat) : (s.extract a b).toList = (s.toList.drop a).take (b - a) := by
  rw [ByteArray.toList_eq, ByteArray.toList_eq, ByteArray.data_extract]
  simp
set_option maxRecDepth 100000 in
set_option maxHeartbeats 4000000 in
theorem sum_any (s : ByteArray) (w : World) (hs : s.size < 1152921504606846976) (kt : Nat) (hT : PHash.hash_tail.f kt (s.size : Int) = some ⟨(pad s.size).toArray⟩) : Calls Try.prog 44 #[.string s] w fun e w' => e = .returned (.string ⟨(sum s.toList).toArray⟩) ∧ Below w.heap.size w w' := by
  have HT := Lib.hid hT
  clear hT
  go_enter Try.func44, Try.ntmps44
  go_wp2_with fail
  refine (start_any _).mono ?_
  rintro e w1 ⟨rfl, hb1⟩
  go_wp2_with (first | (refine wpList_alloc_arr rfl 124 rfl z8 zero33 ?_) | (refine wpList_store_row rfl 124 _ _ rfl w1.heap.size (us Sha.start.l) rfl rfl 124 z8 (heap_alloc_last w1 _) (size33 _ rfl) (by rw [us_size]; rfl) (us_one _) ?_; rw [World.setRow_alloc_new]))
  have hB : Below w.heap.size w (w1.alloc (.cells (us Sha.start.l) 124)) := below_alloc hb1 _
  have hg0 : (w1.alloc (.cells (us Sha.start.l) 124)).heap[w1.heap.size]? = some (.cells (us (blocks 0 Sha.start s.toList).l) 124 (0, 0)) := heap_alloc_last _ _
  have hge : w.heap.size ≤ w1.heap.size := hb1.size
  rw [show ((s.size : Int) / 64 * 64) = ((64 * (s.size / 64) : Nat) : Int) from by omega]
  obtain ⟨m, hm⟩ : ∃ m, 64 * (s.size / 64) = m := ⟨_, rfl⟩
  have hms : m ≤ s.size := by omega
  rw [hm]
  have HM := Lib.hid hm
  clear hm
  generalize w1.alloc (.cells (us Sha.start.l) 124) = W at hg0 hB ⊢
  generalize hG : w1.heap.size = g at hg0 hge ⊢
  clear hG hb1 w1
  have HGE := Lib.hid hge
  clear hge
  go_loopw [5] (fun v wr => ∃ i k : Nat, v = .int .i64 k ∧ Hid (k = 64 * i) ∧ k ≤ m ∧ wr.heap[g]? = some (.cells (us (blocks i Sha.start s.toList).l) 124 (0, 0)) ∧ Below w.heap.size w wr) (fun v _ => (m - intOf v).toNat)
  case atStart => exact ⟨0, 0, rfl, Lib.hid rfl, by omega, hg0, hB⟩
  case round =>
    clear hg0 hB W
    obtain ⟨i, k, rfl, hk, hkm, hg, hb⟩ := hrel
    by_cases hlt : k < m
    · have b0 : decide (k < m) = true := decide_eq_true hlt
      have b1 : decide ((k : Int) < (m : Int)) = true := decide_eq_true (by omega)
      have h64 : k + 64 ≤ m := by have := hk.out; have := HM.out; omega
      have z1 : k + 64 ≤ s.size := by omega
      have e64 : IntKind.i64.wrap ((k : Int) + 64) = (k : Int) + 64 := IntWalk.i64_in _ (by omega)
      have hsl := slice_s s k (k + 64) (k : Int) ((k : Int) + 64) rfl (by omega) (by omega) z1
      have HG := Lib.hid hg
      have HB := Lib.hid hb
      clear hg hb
      go_wp2
      refine wp_region_still_tail 6 (by kernel_rfl) (by kernel_rfl) ?_
      simp only [List.take_succ_cons, List.take_zero, List.drop_succ_cons, List.drop_zero]
      refine still_load rfl 124 _ rfl g rfl 124 (us (blocks i Sha.start s.toList).l) (0, 0) _ HG.out Try.underlying124 rfl (size33 _ rfl) ?_
      simp only [Act.put, List.setIfInBounds_toArray, List.set_cons_zero, List.set_cons_succ]
      repeat still_step
      try refine wpStill_nil ?_
      change wpList _ _ _ _ _ wr.drew
      have HG : Hid (wr.drew.heap[g]? = _) := HG
      have HB : Hid (Below w.heap.size w wr.drew) := Lib.hid (below_drew HB.out)
      clear hsl
      generalize wr.drew = w2 at HG HB ⊢
      go_wp2_with fail
      refine (mix_all _ _ _).mono ?_
      rintro e w3 ⟨rfl, hb3⟩
      have HG3 : Hid (w3.heap[g]? = _) := Lib.hid (blk_below HG.out hb3)
      have HB3 : Hid (Below w.heap.size w w3) := Lib.hid (below_then HB.out HB.out.size hb3)
      clear hb3 HG HB
      go_wp2_with (refine wpList_store_row rfl 124 _ _ rfl g (us (mixB (blocks i Sha.start s.toList) (s.extract k (k + 64)).toList).l) rfl rfl 124 (us (blocks i Sha.start s.toList).l) HG3.out (size33 _ rfl) rfl (us_one _) ?_)
      go_roundw
      case rel =>
        have hmx : mixB (blocks i Sha.start s.toList) (s.extract k (k + 64)).toList = blocks (i + 1) Sha.start s.toList := by
          rw [drop_extract, blocks_snoc, ← hk.out, show k + 64 - k = 64 by omega]
          unfold mixB
          rw [if_pos (by rw [List.length_take, List.length_drop, size_toList]; omega)]
        refine ⟨i + 1, k + 64, by go_num, Lib.hid (by have := hk.out; omega), by omega, ?_, below_setRow HB3.out HGE.out _⟩
        rw [← hmx]
        exact setRow_heap w3 g _ _ _ _ HG3.out
      case measure => simp [intOf]; omega
    · obtain rfl : k = m := by omega
      have b0 : decide (k < k) = false := decide_eq_false (by omega)
      have b1 : decide ((k : Int) < (k : Int)) = false := decide_eq_false (by omega)
      have hin : i = s.size / 64 := by have := hk.out; have := HM.out; omega
      rw [hin] at hg
      have HG := Lib.hid hg
      have HB := Lib.hid hb
      have HK := hk
      clear hg hb hin hk
      go_wp2
      have hsl := slice_from s k (k : Int) rfl (by omega)
      have HG : Hid (wr.drew.heap[g]? = _) := HG
      have HB : Hid (Below w.heap.size w wr.drew) := Lib.hid (below_drew HB.out)
      have hsz : (9223372036854775807 < s.size - k + (pad s.size).length) = False := eq_false (by rw [pad_len]; omega)
      refine start_ (n := 8) (S := fun w' => True) (ds := []) #[false, false, false, false, false, false, false, false] (by kernel_rfl) rfl rfl trivial (fun hHeld => ?_)
      refine pure_ (i := 0) (N := some 27) (v := ?_) (a' := ?_) #[true, false, false, false, false, false, false, false] rfl rfl (by kernel_rfl) (fun _ _ _ h => h) (Or.inl ⟨by rfl, ?_⟩) ?_ ?_
      rotate_left
      · intro w'
        go_simp
        with_reducible rfl
      rotate_left
      · simp only [Act.put, List.setIfInBounds_toArray, List.set_cons_zero, List.set_cons_succ, i64_w, i32_w]
        rfl
      refine pure_ (i := 1) (N := some 28) (v := ?_) (a' := ?_) #[true, true, false, false, false, false, false, false] rfl rfl (by kernel_rfl) (fun _ _ _ h => h) (Or.inl ⟨by rfl, ?_⟩) ?_ ?_
      rotate_left
      · intro w'
        go_simp
        with_reducible rfl
      rotate_left
      · simp only [Act.put, List.setIfInBounds_toArray, List.set_cons_zero, List.set_cons_succ, i64_w, i32_w]
        rfl
      refine pure_ (i := 2) (N := some 29) (v := ?_) (a' := ?_) #[true, true, true, false, false, false, false, false] rfl rfl (by kernel_rfl) (fun _ _ _ h => h) (Or.inl ⟨by rfl, ?_⟩) ?_ ?_
      rotate_left
      · intro w'
        go_simp
        with_reducible rfl
      rotate_left
      · simp only [Act.put, List.setIfInBounds_toArray, List.set_cons_zero, List.set_cons_succ, i64_w, i32_w]
        rfl
      refine pure_ (i := 3) (N := some 30) (v := ?_) (a' := ?_) #[true, true, true, true, false, false, false, false] rfl rfl (by kernel_rfl) (fun _ _ _ h => h) (Or.inl ⟨by rfl, ?_⟩) ?_ ?_
      rotate_left
      · intro w'
        go_simp
        with_reducible rfl
      rotate_left
      · simp only [Act.put, List.setIfInBounds_toArray, List.set_cons_zero, List.set_cons_succ, i64_w, i32_w]
        rfl
      refine pure_ (i := 4) (N := some 31) (v := ?_) (a' := ?_) #[true, true, true, true, true, false, false, false] rfl rfl (by kernel_rfl) (fun _ _ _ h => h) (Or.inl ⟨by rfl, ?_⟩) ?_ ?_
      rotate_left
      · intro w'
        go_simp
        with_reducible rfl
      rotate_left
      · simp only [Act.put, List.setIfInBounds_toArray, List.set_cons_zero, List.set_cons_succ, i64_w, i32_w]
        rfl
      refine one_ (i := 5) (N := some 32) #[true, true, true, true, true, true, false, false] rfl rfl (by kernel_rfl) (by decide) (fun K hK => ?_)
      refine goes_ Try.func78 (by kernel_rfl) rfl #[.int .i64 s.size] (by rfl) rfl rfl (by simp only [List.map_toArray, List.map_cons, List.map_nil]; rfl) ?_
      with_reducible refine (PHash.hash_tail.calls kt _ _ _ HT.out).mono ?_
      rintro e w3 ⟨rfl, hb3⟩
      refine ⟨_, rfl, ?_⟩
      have HG3 : Hid (w3.heap[g]? = _) := Lib.hid (blk_below HG.out hb3)
      have HB3 : Hid (Below w.heap.size w w3) := Lib.hid (below_then HB.out HB.out.size hb3)
      clear hb3 HG HB
      refine hK.out _ _ trivial (fun hHeld => ?_)
      clear hK K
      refine norm_ (a' := ?_) ?_ ?_
      rotate_left
      · show Act.put _ (some 32) _ = _
        simp only [Act.put, List.setIfInBounds_toArray, List.set_cons_zero, List.set_cons_succ, i64_w, i32_w]
        rfl
      refine pure_ (i := 6) (N := some 33) (v := ?_) (a' := ?_) #[true, true, true, true, true, true, true, false] rfl rfl (by kernel_rfl) (fun _ _ _ h => h) (Or.inl ⟨by rfl, ?_⟩) ?_ ?_
      rotate_left
      · intro w'
        go_simp
        with_reducible rfl
      rotate_left
      · simp only [Act.put, List.setIfInBounds_toArray, List.set_cons_zero, List.set_cons_succ, i64_w, i32_w]
        rfl
      refine pure_ (i := 7) (N := some 6) (v := ?_) (a' := ?_) #[true, true, true, true, true, true, true, true] rfl rfl (by kernel_rfl) (fun _ _ _ h => h) (Or.inl ⟨by rfl, ?_⟩) ?_ ?_
      rotate_left
      · intro w'
        go_simp
        with_reducible rfl
      rotate_left
      · simp only [Act.put, List.setIfInBounds_toArray, List.set_cons_zero, List.set_cons_succ, i64_w, i32_w]
        rfl
      refine done_ (by kernel_rfl) ?_
      have HR : Hid ((s.extract k s.size ++ ⟨(pad s.size).toArray⟩ : ByteArray).toList = s.toList.drop (64 * (s.size / 64)) ++ pad s.size) := Lib.hid (by
        rw [ByteArray.toList_eq, ByteArray.data_append, Array.toList_append, ← ByteArray.toList_eq, drop_extract, HM.out, List.take_of_length_le (by rw [List.length_drop, size_toList]; omega)])
      generalize (s.extract k s.size ++ ⟨(pad s.size).toArray⟩ : ByteArray) = X at HR ⊢
      clear hsz hsl
      go_wp2
      have HXs : Hid (X.size = 64 * ((s.size + 72) / 64 - s.size / 64)) := Lib.hid (by
        rw [← size_toList, HR.out, List.length_append, List.length_drop, size_toList, pad_len]; omega)
      obtain ⟨h0, hh0⟩ : ∃ h0, blocks (s.size / 64) Sha.start s.toList = h0 := ⟨_, rfl⟩
      rw [hh0] at HG3
      have HH0 := Lib.hid hh0
      clear hh0
      go_loopw [6] (fun v wr => ∃ (j : Nat) (Y : ByteArray), v = .string Y ∧ Hid (Y.toList = X.toList.drop (64 * j)) ∧ Hid (Y.size + 64 * j = X.size) ∧ wr.heap[g]? = some (.cells (us (blocks j h0 X.toList).l) 124 (0, 0)) ∧ Below w.heap.size w wr) (fun v _ => match v with | .string b => b.size | _ => 0)
      case atStart => exact ⟨0, X, rfl, Lib.hid rfl, Lib.hid rfl, HG3.out, HB3.out⟩
      case round =>
        clear HG3 HB3
        obtain ⟨j, Y, rfl, hY, hYs, hg, hb⟩ := hrel
        by_cases hne : Y.size = 0
        · have hYe : Y = ⟨#[]⟩ := by
            have h := hne
            rw [← size_toList] at h
            have h2 := List.eq_nil_of_length_eq_zero h
            apply ByteArray.ext
            rw [ByteArray.toList_eq] at h2
            simpa using h2
          have hjm : j = (s.size + 72) / 64 - s.size / 64 := by have := HXs.out; have := hYs.out; omega
          subst hYe
          clear hne
          have hsum : sum s.toList = out (blocks j h0 X.toList) := by
            rw [sum_parts, size_toList, HH0.out, HR.out, hjm]
          obtain ⟨hh, hhh⟩ : ∃ hh, blocks j h0 X.toList = hh := ⟨_, rfl⟩
          rw [hhh] at hg hsum
          have HSUM := Lib.hid hsum
          have HG := Lib.hid hg
          have HB := Lib.hid hb
          have hszo := hb.size
          clear hg hb hsum hjm hhh hY hYs
          obtain ⟨i5, hi5, hz5, hs5, hb5⟩ := info_parts info5
          go_wp2_with (first | (refine wpList_make_own _ rfl _ _ 99 rfl w.heap.size 5 i5 (.int .u8 0) 1 Try.underlying99 hi5 hz5 hs5 _ _ 32 32 rfl rfl rfl (by rw [hb5]; decide) (by decide) HB.out.size ?_; intro w4 hown4 hgrow4; have HG4 : Hid (w4.heap[g]? = _) := Lib.hid (blk_grown HG.out hgrow4 (by simp)); have HB4 := Lib.hid (HB.out.grown hgrow4 HB.out.size (fun _ h => by cases h)); clear HG HB hgrow4) | (refine wpList_load_row rfl 124 _ rfl g rfl 124 (us hh.l) (0, 0) _ (by assumption : Hid (_ = _)).out Try.underlying124 rfl (size33 _ rfl) ?_))
          have HOB : Hid (w.heap.size ≤ wr.heap.size) := Lib.hid (by have := HB4.out.size; first | exact hszo | omega)
          generalize wr.heap.size = o at hown4 HOB ⊢
          clear HG4
          have HOWN4 := Lib.hid hown4
          clear hown4
          go_loopw [7, 44] (fun v ix wr' => ∃ n : Nat, n ≤ 8 ∧ ix = .int .i64 n ∧ v = .slice (some ⟨o, 0, none⟩) (4 * n) 32 ∧ wr'.ownsRow w.heap.size 5 1 (.slice (some ⟨o, 0, none⟩) (4 * n) 32) (4 * n) (nums .u8 (byts ((hh.l.take n).flatMap be))) ∧ Below w.heap.size w wr') (fun _ ix _ => (8 - intOf ix).toNat)
          case atStart => exact ⟨0, by omega, rfl, rfl, HOWN4.out, HB4.out⟩
          case round =>
            clear HOWN4 HB4
            obtain ⟨n, hn, rfl, rfl, hown, hbl⟩ := hrel
            by_cases hlt : n < 8
            · have c1 : decide ((n : Int) < 8) = true := decide_eq_true (by omega)
              have ix := index_us hh.l rfl n (n : Int) rfl hlt
              obtain ⟨x, hx⟩ : ∃ x, at_ hh.l n = x := ⟨_, rfl⟩
              rw [hx] at ix
              have HX := Lib.hid hx
              have HO := Lib.hid hown
              have HB := Lib.hid hbl
              clear hx hown hbl
              go_wp2_with (at_builtin; refine wpList_append_fits _ rfl _ _ 99 rfl w.heap.size 5 i5 1 Try.underlying99 hi5 hs5 o (4 * n) 32 (nums .u8 (byts ((hh.l.take n).flatMap be))) rfl (HO.out.alloc _) ⟨wr.heap.size, 0, none⟩ 4 4 [.int .u8 ((x.toNat : Int) / 16777216 % 256), .int .u8 ((x.toNat : Int) / 65536 % 256), .int .u8 ((x.toNat : Int) / 256 % 256), .int .u8 ((x.toNat : Int) % 256)] rfl rfl (new_cells _ _ _) (four_one _ _ _ _) (by omega) ?_; intro w5 hown5 hgrow5)
              go_roundw
              case rel =>
                refine ⟨n + 1, by omega, by go_num, rfl, ?_, (below_alloc HB.out _).grown hgrow5 (Nat.le_trans HB.out.size (by simp)) (fun k hk => by cases hk; exact HOB.out)⟩
                rw [be_step _ _ (by simp [St.l]; omega), byts_append, nums_append, HX.out, ← be_vals]
                exact hown5
              case measure => simp [intOf]; omega
            · obtain rfl : n = 8 := by omega
              have c1 : decide ((8 : Int) < 8) = false := by decide
              rw [show ((8 : Nat) : Int) = (8 : Int) from rfl]
              have hconv := own_string (P := Try.prog) (src := 99) (dst := 9) Try.underlying99 Try.underlying5 Try.underlying9 hown
              have e8 : hh.l.take 8 = hh.l := rfl
              rw [e8, show hh.l.flatMap be = out hh from rfl] at hconv
              rw [strOf_byts, ← HSUM.out] at hconv
              have HB := Lib.hid hbl
              clear hown hbl e8 hlt hn
              obtain ⟨R, hR⟩ : ∃ R, (⟨(sum s.toList).toArray⟩ : ByteArray) = R := ⟨_, rfl⟩
              rw [hR] at hconv
              have HR2 := Lib.hid hR
              clear hR
              go_wp2
              go_ret
              exact ⟨by rw [HR2.out]; rfl, HB.out⟩
        · have z1 : 64 ≤ Y.size := by have := HXs.out; have := hYs.out; omega
          have hnl : ¬ Y.toList = [] := fun e => hne (by rw [← size_toList, e]; rfl)
          have t1 : Y.toList.isEmpty = false := by cases h : Y.toList with
            | nil => exact absurd h hnl
            | cons _ _ => rfl
          have t2 : (!Y.toList.isEmpty) = true := by rw [t1]; rfl
          have t3 : (Y.toList == []) = false := by simpa using hnl
          have HG := Lib.hid hg
          have HB := Lib.hid hb
          have HNE := Lib.hid hne
          clear hg hb hnl hne
          have hsl := slice_to Y 64 64 rfl z1
          have hsf := slice_from Y 64 64 rfl z1
          go_wp2
          refine wp_region_still_tail 3 (by kernel_rfl) (by kernel_rfl) ?_
          simp only [List.take_succ_cons, List.take_zero, List.drop_succ_cons, List.drop_zero]
          refine still_load rfl 124 _ rfl g rfl 124 (us (blocks j h0 X.toList).l) (0, 0) _ HG.out Try.underlying124 rfl (size33 _ rfl) ?_
          simp only [Act.put, List.setIfInBounds_toArray, List.set_cons_zero, List.set_cons_succ]
          repeat still_step
          refine wpStill_nil ?_
          change wpList _ _ _ _ _ wr.drew
          have HG : Hid (wr.drew.heap[g]? = _) := HG
          have HB : Hid (Below w.heap.size w wr.drew) := Lib.hid (below_drew HB.out)
          generalize wr.drew = w2 at HG HB ⊢
          go_wp2_with fail
          refine (mix_all _ _ _).mono ?_
          rintro e w3 ⟨rfl, hb3⟩
          have HG3 : Hid (w3.heap[g]? = _) := Lib.hid (blk_below HG.out hb3)
          have HB3 : Hid (Below w.heap.size w w3) := Lib.hid (below_then HB.out HB.out.size hb3)
          clear hb3 HG HB
          go_wp2_with (refine wpList_store_row rfl 124 _ _ rfl g (us (mixB (blocks j h0 X.toList) (Y.extract 0 64).toList).l) rfl rfl 124 (us (blocks j h0 X.toList).l) HG3.out (size33 _ rfl) rfl (us_one _) ?_)
          go_roundw
          case rel =>
            have hmx : mixB (blocks j h0 X.toList) (Y.extract 0 64).toList = blocks (j + 1) h0 X.toList := by
              rw [drop_extract, hY.out, blocks_snoc, List.drop_zero]
              unfold mixB
              rw [if_pos (by rw [← hY.out, List.length_take, size_toList]; omega)]
            refine ⟨j + 1, Y.extract 64 Y.size, rfl, Lib.hid ?_, Lib.hid ?_, ?_, below_setRow HB3.out HGE.out _⟩
            · rw [drop_extract, hY.out, List.drop_drop, List.take_of_length_le (by rw [List.length_drop, size_toList]; have := hYs.out; omega)]
              congr 1
            · have := hYs.out
              rw [ByteArray.size_extract]
              omega
            · rw [← hmx]
              exact setRow_heap w3 g _ _ _ _ HG3.out
          case measure =>
            show (Y.extract 64 Y.size).size < Y.size
            rw [ByteArray.size_extract]
            omega
end Go.Proofs.Ytdcbacbilncnnaa.H
end
section
/- What stands behind so many bytes: the printed loop comes to the padding. Plain Lean. -/
set_option linter.unusedVariables false
set_option linter.unusedSimpArgs false
namespace Go.Proofs.Ytdcbacbilncnnaa.H
open Go.RowKit Go.Proofs.Ytdcbacbilncnnaa.Sha Go.Proofs.YtdcbacbilncnnaaW.PrintWords Go.Proofs.YtdcbacbilncnnaaW.PrintLast Go.Proofs.YtdcbacbilncnnaaW.PrintMore
theorem w64_of (x : Int) (h1 : -9223372036854775808 ≤ x) (h2 : x < 9223372036854775808) : wrap64 x = x := by
  have := IntWalk.i64_in x (by omega)
  first | exact this | (unfold wrap64; omega)
/-- Byte i of the number of bits, the lowest first. -/
def lowB (n i : Nat) : Int := ((n * 8 / 2 ^ (8 * i) % 256 : Nat) : Int)
/-- The padding of which the last i bytes are written. -/
def padI (n i : Nat) : List Int := 128 :: (List.replicate ((119 - n % 64) % 64 + (8 - i)) 0 ++ ((List.range i).map (lowB n)).reverse)
theorem padI_len (n i : Nat) (h : i ≤ 8) : (padI n i).length = 9 + (119 - n % 64) % 64 := by simp [padI]; omega
theorem padI_set (n i : Nat) (h : i < 8) : (padI n i).set ((119 - n % 64) % 64 + 8 - i) (lowB n i) = padI n (i + 1) := by
  unfold padI
  obtain ⟨r, hr⟩ : ∃ r, (119 - n % 64) % 64 = r := ⟨_, rfl⟩
  rw [hr, show r + 8 - i = (r + (7 - i)) + 1 by omega, List.set_cons_succ]
  congr 1
  rw [show r + (8 - i) = (r + (7 - i)) + 1 by omega, List.replicate_succ', List.append_assoc, List.set_append_right _ _ (by simp)]
  simp only [List.length_replicate, Nat.sub_self, List.cons_append, List.nil_append, List.set_cons_zero]
  rw [show r + (8 - (i + 1)) = r + (7 - i) by omega, List.range_succ, List.map_append, List.reverse_append]
  rfl
theorem padI_8 (n : Nat) : padI n 8 = byts (pad n) := by
  unfold padI byts pad
  have e : ∀ m : Nat, ((UInt8.ofNat m).toNat : Int) = ((m % 256 : Nat) : Int) := fun m => by rw [UInt8.toNat_ofNat']
  simp only [List.map_cons, List.map_append, List.map_replicate]
  congr 1
theorem shr_low (n i : Nat) (hn : n < 1152921504606846976) (hi : i < 8) : shr .u64 (IntKind.u64.wrap (IntKind.u64.wrap (n : Int) * 8)) (8 * (i : Int)) % 256 = lowB n i := by
  have e1 : IntKind.u64.wrap (n : Int) = (n : Int) := by simp [IntKind.wrap, IntKind.bits, IntKind.signed]; omega
  have e2 : IntKind.u64.wrap ((n : Int) * 8) = ((n * 8 : Nat) : Int) := by simp [IntKind.wrap, IntKind.bits, IntKind.signed]; omega
  rw [e1, e2]
  unfold lowB
  have e3 : shr .u64 ((n * 8 : Nat) : Int) (8 * (i : Int)) = ((n * 8 / 2 ^ (8 * i) : Nat) : Int) := by
    have : (8 * (i : Int)).toNat = 8 * i := by omega
    unfold shr
    simp [this, IntKind.bits]
    have : min (8 * i) 64 = 8 * i := by omega
    rw [this]
  rw [e3]
  omega
theorem tail_l0 (n : Nat) (hn : n < 1152921504606846976) : ∀ d i, i + d = 8 → PHash.hash_tail.l0 (d + 1) (n : Int) (padI n i) (i : Int) = some ⟨(pad n).toArray⟩ := by
  intro d
  induction d with
  | zero =>
    intro i hi
    obtain rfl : i = 8 := by omega
    unfold PHash.hash_tail.l0
    rw [if_neg (by omega), padI_8, strOf_byts]
  | succ d ih =>
    intro i hi
    have hlen := padI_len n i (by omega)
    have h := ih (i + 1) (by omega)
    unfold PHash.hash_tail.l0
    have w1 := w64_of (8 * (i : Int)) (by omega) (by omega)
    have w2 := w64_of (((padI n i).length : Int) - 1) (by omega) (by omega)
    have w3 := w64_of (((padI n i).length : Int) - 1 - (i : Int)) (by omega) (by omega)
    have w4 := w64_of ((i : Int) + 1) (by omega) (by omega)
    rw [w1, w2, w3, w4, if_pos (by omega), if_pos (by omega), if_pos (by omega), if_pos (by omega), shr_low n i hn (by omega)]
    have e : (((padI n i).length : Int) - 1 - (i : Int)).toNat = (119 - n % 64) % 64 + 8 - i := by omega
    rw [e, padI_set n i (by omega)]
    exact_mod_cast h
theorem tail_ok (n : Nat) (hn : n < 1152921504606846976) : PHash.hash_tail.f 9 (n : Int) = some ⟨(pad n).toArray⟩ := by
  unfold PHash.hash_tail.f
  have e1 : Int.tmod (n : Int) 64 = ((n % 64 : Nat) : Int) := by rw [Int.tmod_eq_emod_of_nonneg (by omega)]; omega
  have w1 := w64_of (119 - ((n % 64 : Nat) : Int)) (by omega) (by omega)
  have e2 : Int.tmod (119 - ((n % 64 : Nat) : Int)) 64 = (((119 - n % 64) % 64 : Nat) : Int) := by rw [Int.tmod_eq_emod_of_nonneg (by omega)]; omega
  have w2 := w64_of (1 + (((119 - n % 64) % 64 : Nat) : Int)) (by omega) (by omega)
  have w3 := w64_of (1 + (((119 - n % 64) % 64 : Nat) : Int) + 8) (by omega) (by omega)
  rw [e1, w1, e2, w2, w3, if_pos (by omega)]
  have e3 : (1 + (((119 - n % 64) % 64 : Nat) : Int) + 8).toNat = (119 - n % 64) % 64 + 9 := by omega
  rw [e3, if_pos (by omega)]
  have hl : ((List.replicate ((119 - n % 64) % 64 + 9) (0 : Int)).length : Int) > 0 := by rw [List.length_replicate]; omega
  show (if 0 < ((List.replicate ((119 - n % 64) % 64 + 9) (0 : Int)).length : Int) then _ else none) = _
  rw [if_pos hl]
  have e4 : (List.replicate ((119 - n % 64) % 64 + 9) (0 : Int)).set (0 : Int).toNat 128 = padI n 0 := by
    rw [List.replicate_succ]
    simp [padI]
  rw [e4]
  exact tail_l0 n hn 8 0 rfl
theorem sum_calls (s : ByteArray) (w : World) (hs : s.size < 1152921504606846976) : Calls Try.prog 44 #[.string s] w fun e w' => e = .returned (.string ⟨(sum s.toList).toArray⟩) ∧ Below w.heap.size w w' :=
  sum_any s w hs 9 (tail_ok s.size hs)
end Go.Proofs.Ytdcbacbilncnnaa.H
end
section
/- The reference's words: Start, salts, turn, Mix. -/
set_option linter.unusedVariables false
set_option linter.unusedSimpArgs false
namespace Go.Proofs.Ytdcbacbilncnnaa.H
open Go.RowKit Go.Proofs.Ytdcbacbilncnnaa.Sha Go.Proofs.YtdcbacbilncnnaaW.PrintWords Go.Proofs.YtdcbacbilncnnaaW.PrintLast
theorem zero32 : (Try.prog.info? 123).map (·.zero) = some (some (.agg z8)) := by kernel_rfl
theorem size32 (l : List UInt32) (h : l.length = 8) : (Try.prog.info? 123).map (·.size) = some (us l).size := by
  rw [us_size, h]; kernel_rfl
theorem at32 (g i : Nat) (x : Int) (hx : x = (i : Int)) (hi : i < 8) (w : World) : (Instr.indexAt 123 (.pointer (some ⟨g, 0, none⟩)) (.int .i64 x)).run Try.prog w = .ok (.pointer (some ⟨g, i, none⟩)) w := by
  subst hx
  have h2 : (i : Int) < 8 := by omega
  simp [go_sem, Try.underlying123, h2]
theorem refStart_any (w : World) : Calls Try.prog 85 #[] w fun e w' => e = .returned (.agg (us Sha.start.l)) ∧ Below w.heap.size w w' := by
  go_enter Try.func85, Try.ntmps85
  go_wp2
  refine bodyPost_ret (results_cell_row rfl _ _ w.heap.size 123 _ (0, 0) _ rfl (heap_alloc_last w _) Try.underlying123 rfl (by kernel_rfl)) rfl ⟨?_, (Below.refl _ _).alloc (Nat.le_refl _) _⟩
  rfl
set_option maxHeartbeats 1000000 in
set_option maxRecDepth 100000 in
theorem salts_any (w : World) : Calls Try.prog 96 #[] w fun e w' => e = .returned (.agg (us keys)) ∧ Below w.heap.size w w' := by
  go_enter Try.func96, Try.ntmps96
  apply wp_seq_k
  intro K1 hK1
  apply wp_region_lit
  refine wpList_alloc_arr rfl 141 rfl z64 zero78 ?_
  apply wpList_nil
  refine hK1 _ _ ?_
  apply wp_seq_k
  intro K2 hK2
  apply wp_region_lit
  refine wpList_build rfl 141 _ rfl (by kernel_rfl) ?_
  refine wpList_store_row rfl 141 _ _ rfl w.heap.size (us keys) rfl (by kernel_rfl) 141 z64 (heap_alloc_last w _) (size78 _ rfl) (by rw [us_size]; kernel_rfl) (us_one _) ?_
  rw [World.setRow_alloc_new]
  apply wpList_nil
  refine hK2 _ _ ?_
  apply wp_ret
  exact bodyPost_ret (results_cell_row rfl _ _ w.heap.size 141 (us keys) (0, 0) _ rfl (heap_alloc_last w _) Try.underlying141 rfl (size78 _ rfl)) rfl ⟨rfl, (Below.refl _ _).alloc (Nat.le_refl _) _⟩
theorem turn_any (x : UInt32) (m n : Nat) (hmn : m + n = 32) (h1 : 1 ≤ m) (h2 : 1 ≤ n) (w : World) :
    Calls Try.prog 97 #[.int .u32 x.toNat, .int .i64 n] w fun e w' => e = .returned (.int .u32 (rotr x (UInt32.ofNat n) (UInt32.ofNat m)).toNat) ∧ w' = w := by
  have e0 : IntKind.u64.wrap (n : Int) = (n : Int) := by simp [IntKind.wrap, IntKind.bits, IntKind.signed]; omega
  have e1 : IntKind.i64.wrap (32 - (n : Int)) = (m : Int) := by rw [IntWalk.i64_in _ (by omega)]; omega
  have e2 : IntKind.u64.wrap (m : Int) = (m : Int) := by simp [IntKind.wrap, IntKind.bits, IntKind.signed]; omega
  have e1' : IntKind.u64.wrap (32 - (n : Int)) = (m : Int) := by simp [IntKind.wrap, IntKind.bits, IntKind.signed]; omega
  have hm : m ≤ 31 := by omega
  have hn : n ≤ 31 := by omega
  have HM := Lib.hid hmn
  clear hmn
  go_enter Try.func97, Try.ntmps97
  go_wp2
  go_ret
  refine ⟨?_, rfl⟩
  have f1 := u_shl x m (by omega)
  have f2 := u_shr x n (by omega)
  rw [wrap_u32, Int.natCast_pow] at f1
  rw [Int.natCast_pow] at f2
  rw [show ((x.toNat : Int) * 2 ^ m) % 4294967296 = _ from f1, show (x.toNat : Int) / 2 ^ n = _ from f2, u_or]
  unfold rotr
  rw [UInt32.or_comm]
  rfl
theorem turn7 (x : UInt32) (w : World) : Calls Try.prog 97 #[.int .u32 x.toNat, .int .i64 7] w fun e w' => e = .returned (.int .u32 (rotr x 7 25).toNat) ∧ w' = w := turn_any x 25 7 (by decide) (by decide) (by decide) w
theorem turn18 (x : UInt32) (w : World) : Calls Try.prog 97 #[.int .u32 x.toNat, .int .i64 18] w fun e w' => e = .returned (.int .u32 (rotr x 18 14).toNat) ∧ w' = w := turn_any x 14 18 (by decide) (by decide) (by decide) w
theorem turn17 (x : UInt32) (w : World) : Calls Try.prog 97 #[.int .u32 x.toNat, .int .i64 17] w fun e w' => e = .returned (.int .u32 (rotr x 17 15).toNat) ∧ w' = w := turn_any x 15 17 (by decide) (by decide) (by decide) w
theorem turn19 (x : UInt32) (w : World) : Calls Try.prog 97 #[.int .u32 x.toNat, .int .i64 19] w fun e w' => e = .returned (.int .u32 (rotr x 19 13).toNat) ∧ w' = w := turn_any x 13 19 (by decide) (by decide) (by decide) w
theorem turn6 (x : UInt32) (w : World) : Calls Try.prog 97 #[.int .u32 x.toNat, .int .i64 6] w fun e w' => e = .returned (.int .u32 (rotr x 6 26).toNat) ∧ w' = w := turn_any x 26 6 (by decide) (by decide) (by decide) w
theorem turn11 (x : UInt32) (w : World) : Calls Try.prog 97 #[.int .u32 x.toNat, .int .i64 11] w fun e w' => e = .returned (.int .u32 (rotr x 11 21).toNat) ∧ w' = w := turn_any x 21 11 (by decide) (by decide) (by decide) w
theorem turn25 (x : UInt32) (w : World) : Calls Try.prog 97 #[.int .u32 x.toNat, .int .i64 25] w fun e w' => e = .returned (.int .u32 (rotr x 25 7).toNat) ∧ w' = w := turn_any x 7 25 (by decide) (by decide) (by decide) w
theorem turn2 (x : UInt32) (w : World) : Calls Try.prog 97 #[.int .u32 x.toNat, .int .i64 2] w fun e w' => e = .returned (.int .u32 (rotr x 2 30).toNat) ∧ w' = w := turn_any x 30 2 (by decide) (by decide) (by decide) w
theorem turn13 (x : UInt32) (w : World) : Calls Try.prog 97 #[.int .u32 x.toNat, .int .i64 13] w fun e w' => e = .returned (.int .u32 (rotr x 13 19).toNat) ∧ w' = w := turn_any x 19 13 (by decide) (by decide) (by decide) w
theorem turn22 (x : UInt32) (w : World) : Calls Try.prog 97 #[.int .u32 x.toNat, .int .i64 22] w fun e w' => e = .returned (.int .u32 (rotr x 22 10).toNat) ∧ w' = w := turn_any x 10 22 (by decide) (by decide) (by decide) w
/-- The words as the reference gathers them: byte by byte. -/
def accs (l : List UInt8) : Nat → List UInt32
  | 0 => List.replicate 64 0
  | i + 1 => (accs l i).set (i / 4) (at_ (accs l i) (i / 4) * 256 + byte l i)
theorem accs_length (l : List UInt8) : ∀ i, (accs l i).length = 64 := by
  intro i
  induction i with
  | zero => rfl
  | succ i ih => simp [accs, ih]
theorem set_at (l : List UInt32) (i : Nat) (x : UInt32) (h : i < l.length) : at_ (l.set i x) i = x := by
  simp [at_, h]
theorem word_acc (l : List UInt8) (k : Nat) : (((0 * 256 + byte l (4 * k)) * 256 + byte l (4 * k + 1)) * 256 + byte l (4 * k + 2)) * 256 + byte l (4 * k + 3) = word l k := by
  apply UInt32.toNat_inj.1
  have b : ∀ i, (byte l i).toNat < 256 := fun i => by unfold byte; rw [UInt8.toNat_toUInt32]; exact UInt8.toNat_lt _
  have b0 := b (4 * k); have b1 := b (4 * k + 1); have b2 := b (4 * k + 2); have b3 := b (4 * k + 3)
  have e := word_add (byte l (4 * k)).toNat (byte l (4 * k + 1)).toNat (byte l (4 * k + 2)).toNat (byte l (4 * k + 3)).toNat b1 b2 b3
  have f : (word l k).toNat = (byte l (4 * k)).toNat * 16777216 + (byte l (4 * k + 1)).toNat * 65536 + (byte l (4 * k + 2)).toNat * 256 + (byte l (4 * k + 3)).toNat := by
    rw [← e]
    unfold word
    simp only [UInt32.toNat_or, UInt32.toNat_shiftLeft]
    rw [show (24 : UInt32).toNat % 32 = 24 from rfl, show (16 : UInt32).toNat % 32 = 16 from rfl, show (8 : UInt32).toNat % 32 = 8 from rfl, Nat.shiftLeft_eq, Nat.shiftLeft_eq, Nat.shiftLeft_eq]
    rw [Nat.mod_eq_of_lt (by omega), Nat.mod_eq_of_lt (by omega), Nat.mod_eq_of_lt (by omega)]
  rw [f]
  simp only [UInt32.toNat_add, UInt32.toNat_mul]
  rw [show (256 : UInt32).toNat = 256 from rfl, show (0 : UInt32).toNat = 0 from rfl]
  omega
theorem part1_0 (l : List UInt8) (k j : Nat) (h : k ≤ j) (h2 : j < 64) : at_ (part1 l k) j = 0 := by
  unfold part1 at_
  rw [List.getD_eq_getElem?_getD, List.getElem?_append_right (by simpa using h)]
  simp
  have : (List.replicate (64 - k) (0 : UInt32))[j - k]? = some 0 := by rw [List.getElem?_replicate, if_pos (by omega)]
  simp only [this, Option.getD_some]
theorem accs_part (l : List UInt8) : ∀ k, k ≤ 16 → accs l (4 * k) = part1 l k := by
  intro k
  induction k with
  | zero => intro _; rfl
  | succ k ih =>
    intro hk
    have h := ih (by omega)
    have hl := part1_length l k (by omega)
    rw [show 4 * (k + 1) = 4 * k + 1 + 1 + 1 + 1 by omega]
    unfold accs
    unfold accs
    unfold accs
    unfold accs
    rw [show (4 * k + 1 + 1 + 1) / 4 = k by omega, show (4 * k + 1 + 1) / 4 = k by omega, show (4 * k + 1) / 4 = k by omega, show (4 * k) / 4 = k by omega, h]
    rw [part1_0 l k k (Nat.le_refl _) (by omega)]
    simp only [set_at _ _ _ (show k < (part1 l k).length by omega), List.set_set, List.length_set]
    rw [show 4 * k + 1 + 1 = 4 * k + 2 from rfl, show 4 * k + 2 + 1 = 4 * k + 3 from rfl, word_acc]
    exact part1_set l k (by omega)
end Go.Proofs.Ytdcbacbilncnnaa.H
end
section
/- The reference's Mix. -/
set_option linter.unusedVariables false
set_option linter.unusedSimpArgs false
namespace Go.Proofs.Ytdcbacbilncnnaa.H
open Go.RowKit Go.Proofs.Ytdcbacbilncnnaa.Sha Go.Proofs.YtdcbacbilncnnaaW.PrintWords Go.Proofs.YtdcbacbilncnnaaW.PrintLast
theorem u_cpl (x : UInt32) : IntKind.u32.wrap (4294967295 - (x.toNat : Int)) = ((4294967295 - x : UInt32).toNat : Int) := by
  rw [u32_not, UInt32.toNat_not, wrap_u32]
  have := x.toNat_lt
  show _ = ((2 ^ 32 - 1 - x.toNat : Nat) : Int)
  omega
theorem rTref_int (x : St) (k w : UInt32) : IntKind.u32.wrap (IntKind.u32.wrap (IntKind.u32.wrap (IntKind.u32.wrap ((x.h.toNat : Int) + Go.bits .xor .u32 (Go.bits .xor .u32 ((rotr x.e 6 26).toNat : Int) ((rotr x.e 11 21).toNat : Int)) ((rotr x.e 25 7).toNat : Int)) +
    Go.bits .or .u32 (Go.bits .and .u32 (x.e.toNat : Int) (x.f.toNat : Int)) (Go.bits .and .u32 (IntKind.u32.wrap (4294967295 - (x.e.toNat : Int))) (x.g.toNat : Int))) + (k.toNat : Int)) + (w.toNat : Int)) = ((rT x k w).toNat : Int) := by
  rw [u_xor, u_xor, u_and, u_cpl, u_and, u_or, u_add, u_add, u_add, u_add, ref_ch]
  rfl
theorem rUref_int (x : St) : IntKind.u32.wrap (Go.bits .xor .u32 (Go.bits .xor .u32 ((rotr x.a 2 30).toNat : Int) ((rotr x.a 13 19).toNat : Int)) ((rotr x.a 22 10).toNat : Int) +
    Go.bits .or .u32 (Go.bits .or .u32 (Go.bits .and .u32 (x.a.toNat : Int) (x.b.toNat : Int)) (Go.bits .and .u32 (x.a.toNat : Int) (x.c.toNat : Int))) (Go.bits .and .u32 (x.b.toNat : Int) (x.c.toNat : Int))) = ((rU x).toNat : Int) := by
  rw [u_xor, u_xor, u_and, u_and, u_and, u_or, u_or, u_add, ref_maj]
  rfl
theorem u_arc (a b c : UInt32) : a + b + c = a + c + b := by rw [UInt32.add_assoc, UInt32.add_comm b c, ← UInt32.add_assoc]
theorem u_acc (x : UInt32) (b : UInt8) : ((x.toNat : Int) * 256 + (b.toNat : Int)) % 4294967296 = ((x * 256 + b.toUInt32).toNat : Int) := by
  rw [UInt32.toNat_add, UInt32.toNat_mul, UInt8.toNat_toUInt32, show (256 : UInt32).toNat = 256 from rfl]
  omega
set_option maxHeartbeats 4000000 in
set_option maxRecDepth 100000 in
theorem refMix_any (h : St) (s : ByteArray) (w : World) (hs : s.size = 64) : Calls Try.prog 86 #[.agg (us h.l), .string s] w fun e w' => e = .returned (.agg (us (mix h s.toList).l)) ∧ Below w.heap.size w w' := by
  have HS := Lib.hid hs
  clear hs
  rw [us_st h]
  go_enter Try.func86, Try.ntmps86
  apply wp_seq_k
  intro K1 hK1
  have HK1 := Lib.hid hK1
  clear hK1
  apply wp_region_lit
  go_wp2_with fail
  rw [← us_st h]
  have hg0 : ((w.alloc (.cells (us h.l) 123)).alloc (.cells z8 123)).heap[w.heap.size]? = some (.cells (us h.l) 123 (0, 0)) := blk_alloc (heap_alloc_last w _) _
  have hg1 : ((w.alloc (.cells (us h.l) 123)).alloc (.cells z8 123)).heap[w.heap.size + 1]? = some (.cells z8 123 (0, 0)) := by
    have h := heap_alloc_last (w.alloc (.cells (us h.l) 123)) (.cells z8 123)
    rw [World.size_alloc] at h
    exact h
  have hB : Below w.heap.size w ((w.alloc (.cells (us h.l) 123)).alloc (.cells z8 123)) := ((Below.refl _ _).alloc (Nat.le_refl _) _).alloc (by simp) _
  have hz : ((w.alloc (.cells (us h.l) 123)).alloc (.cells z8 123)).heap.size = w.heap.size + 2 := by simp
  rw [show #[Value.int IntKind.u32 0, Value.int IntKind.u32 0, Value.int IntKind.u32 0, Value.int IntKind.u32 0, Value.int IntKind.u32 0, Value.int IntKind.u32 0, Value.int IntKind.u32 0, Value.int IntKind.u32 0] = z8 from rfl]
  generalize (w.alloc (.cells (us h.l) 123)).alloc (.cells z8 123) = W at hg0 hg1 hB hz ⊢
  generalize hG : w.heap.size = g at hg0 hg1 hB hz ⊢
  have HG := Lib.hid hG
  clear hG
  refine HK1.out _ _ ?_
  clear HK1 K1
  apply wp_seq_k
  intro K1 hK1
  have HK1 := Lib.hid hK1
  clear hK1
  apply wp_region_lit
  refine wpList_buildTo rfl 141 _ rfl (some 22) rfl z64 (by kernel_rfl) ?_
  go_wp2_with fail
  refine (salts_any _).mono ?_
  rintro e w1 ⟨rfl, hb1⟩
  have c0 := blk_below hg0 hb1
  have c1 := blk_below hg1 hb1
  have hB1 : Below g w w1 := below_then hB (by omega) hb1
  have hz1 : g + 2 ≤ w1.heap.size := by rw [← hz]; exact hb1.size
  clear hg0 hg1 hB hz hb1 W
  dsimp only
  rename_i K hK
  refine hK _ _ ?_
  clear hK K
  refine wpList_alloc_arr rfl 141 rfl z64 zero78 ?_
  refine wpList_alloc_arr rfl 141 rfl z64 zero78 ?_
  have p5 : ((w1.alloc (.cells z64 141)).alloc (.cells z64 141)).heap[w1.heap.size]? = some (.cells z64 141 (0, 0)) := blk_alloc (heap_alloc_last w1 _) _
  have p6 : ((w1.alloc (.cells z64 141)).alloc (.cells z64 141)).heap[w1.heap.size + 1]? = some (.cells z64 141 (0, 0)) := by
    have h := heap_alloc_last (w1.alloc (.cells z64 141)) (.cells z64 141)
    rw [World.size_alloc] at h
    exact h
  have hB2 : Below w1.heap.size w1 ((w1.alloc (.cells z64 141)).alloc (.cells z64 141)) := ((Below.refl _ _).alloc (Nat.le_refl _) _).alloc (by simp) _
  replace c0 := blk_below c0 hB2
  replace c1 := blk_below c1 hB2
  have hB : Below g w ((w1.alloc (.cells z64 141)).alloc (.cells z64 141)) := below_then hB1 (by omega) hB2
  have e1 : (w1.alloc (Obj.cells z64 141)).heap.size = w1.heap.size + 1 := by simp
  rw [e1]
  clear hB2 hB1
  generalize (w1.alloc (.cells z64 141)).alloc (.cells z64 141) = W at c0 c1 p5 p6 hB ⊢
  generalize w1.heap.size = p at *
  clear e1 w1
  refine wpList_store_rowTo rfl 141 _ _ rfl rfl p z64 rfl rfl 141 z64 p5 (size78 _ (by simp)) rfl (us_one _) ?_
  replace p5 := setRow_heap W p _ z64 _ _ p5
  replace p6 := blk_setRow p6 (show p + 1 ≠ p by omega) z64
  replace c0 := blk_setRow c0 (show g ≠ p by omega) z64
  replace c1 := blk_setRow c1 (show g + 1 ≠ p by omega) z64
  replace hB := below_setRow hB (show g ≤ p by omega) z64
  generalize W.setRow p z64 = W2 at c0 c1 p5 p6 hB ⊢
  refine wpList_store_rowTo rfl 141 _ _ rfl rfl (p + 1) (us keys) rfl rfl 141 z64 p6 (size78 _ (by rfl)) (by rw [us_size]; rfl) (us_one _) ?_
  replace p6 := setRow_heap W2 (p + 1) _ (us keys) _ _ p6
  replace p5 := blk_setRow p5 (show p ≠ p + 1 by omega) (us keys)
  replace c0 := blk_setRow c0 (show g ≠ p + 1 by omega) (us keys)
  replace c1 := blk_setRow c1 (show g + 1 ≠ p + 1 by omega) (us keys)
  replace hB := below_setRow hB (show g ≤ p + 1 by omega) (us keys)
  generalize W2.setRow (p + 1) (us keys) = W3 at c0 c1 p5 p6 hB ⊢
  clear W W2
  have n05 := Lib.hid (show g ≠ p by omega)
  have n15 := Lib.hid (show g + 1 ≠ p by omega)
  have n65 := Lib.hid (show p + 1 ≠ p by omega)
  have n5 : Hid (g ≤ p) := Lib.hid (by omega)
  clear hz1
  apply wpList_nil
  refine HK1.out _ _ ?_
  clear HK1 K1
  simp only [Act.put, List.setIfInBounds_toArray, List.set_cons_zero, List.set_cons_succ]
  rw [show z64 = us (accs s.toList 0) from rfl] at p5
  go_wp2_with fail
  go_loopw [7] (fun v wr => ∃ i : Nat, i ≤ 64 ∧ v = .int .i64 i ∧ wr.heap[p]? = some (.cells (us (accs s.toList i)) 141 (0, 0)) ∧ wr.heap[p + 1]? = some (.cells (us keys) 141 (0, 0)) ∧ wr.heap[g]? = some (.cells (us h.l) 123 (0, 0)) ∧ wr.heap[g + 1]? = some (.cells z8 123 (0, 0)) ∧ Below g w wr) (fun v _ => (64 - intOf v).toNat)
  case atStart => exact ⟨0, by omega, rfl, p5, p6, c0, c1, hB⟩
  case round =>
    clear p5 p6 c0 c1 hB
    obtain ⟨i, hi, rfl, p5, p6, c0, c1, hB⟩ := hrel
    by_cases hlt : i < 64
    · have b0 : decide ((i : Int) < 64) = true := decide_eq_true (by omega)
      have z := HS.out
      have x0 := index_s s i (i : Int) rfl (by omega)
      have y := at78 p (i / 4) ((i : Int) / 4) (by omega) (by omega)
      have ew : IntKind.i64.wrap ((i : Int) / 4) = (i : Int) / 4 := IntWalk.i64_in _ (by omega)
      have hcell := us_cell p5 (i / 4) (by rw [accs_length]; omega)
      have hfroz := blk_frozen p5 (i / 4)
      obtain ⟨x, hx⟩ : ∃ x, at_ (accs s.toList i) (i / 4) = x := ⟨_, rfl⟩
      obtain ⟨b, hb⟩ : ∃ b, s.toList.getD i 0 = b := ⟨_, rfl⟩
      rw [hx] at hcell
      rw [hb] at x0
      have HA : Hid (accs s.toList (i + 1) = (accs s.toList i).set (i / 4) (x * 256 + b.toUInt32)) := Lib.hid (by rw [← hx, ← hb]; rfl)
      have P5 := Lib.hid p5
      have P6 := Lib.hid p6
      have C0 := Lib.hid c0
      have C1 := Lib.hid c1
      have HB := Lib.hid hB
      clear p5 p6 c0 c1 hB hx hb z
      go_wp2
      go_still_tail 13, (by kernel_rfl)
      change wpList _ _ _ _ _ wr.drew
      have hcell : wr.drew.cell? _ = _ := hcell
      have hfroz : wr.drew.frozen? _ = _ := hfroz
      have P5 : Hid (wr.drew.heap[p]? = _) := P5
      have P6 : Hid (wr.drew.heap[p + 1]? = _) := P6
      have C0 : Hid (wr.drew.heap[g]? = _) := C0
      have C1 : Hid (wr.drew.heap[g + 1]? = _) := C1
      have HB : Hid (Below g w wr.drew) := Lib.hid (below_drew HB.out)
      generalize wr.drew = w2 at hcell hfroz P5 P6 C0 C1 HB ⊢
      go_wp2
      go_roundw
      case rel =>
        rw [u_acc]
        refine ⟨i + 1, by omega, by go_num, ?_, blk_far P6.out n65.out _, blk_far C0.out n05.out _, blk_far C1.out n15.out _, HB.out.setCell n5.out _⟩
        rw [HA.out]
        exact us_put P5.out (i / 4) (x * 256 + b.toUInt32)
      case measure => simp [intOf]; omega
    · obtain rfl : i = 64 := by omega
      have b0 : decide ((64 : Int) < 64) = false := by decide
      rw [show ((64 : Nat) : Int) = (64 : Int) from rfl]
      have ea := accs_part s.toList 16 (by omega)
      rw [show accs s.toList 64 = part1 s.toList 16 from ea] at p5
      clear ea hlt hi
      have P5 := Lib.hid p5
      have P6 := Lib.hid p6
      have C0 := Lib.hid c0
      have C1 := Lib.hid c1
      have HB := Lib.hid hB
      clear p5 p6 c0 c1 hB
      go_wp2_with fail
      rw [← part2_0] at P5
      go_loopw [8] (fun v wr => ∃ n : Nat, n ≤ 48 ∧ v = .int .i64 ((n : Int) + 16) ∧ wr.heap[p]? = some (.cells (us (part2 s.toList n)) 141 (0, 0)) ∧ wr.heap[p + 1]? = some (.cells (us keys) 141 (0, 0)) ∧ wr.heap[g]? = some (.cells (us h.l) 123 (0, 0)) ∧ wr.heap[g + 1]? = some (.cells z8 123 (0, 0)) ∧ Below g w wr) (fun v _ => (64 - intOf v).toNat)
      case atStart => exact ⟨0, by omega, rfl, P5.out, P6.out, C0.out, C1.out, HB.out⟩
      case round =>
        clear P5 P6 C0 C1 HB
        obtain ⟨n, hn, rfl, p5, p6, c0, c1, hb⟩ := hrel
        by_cases hlt : n < 48
        · have b0 : decide ((n : Int) + 16 < 64) = true := decide_eq_true (by omega)
          have e15 : IntKind.i64.wrap ((n : Int) + 16 - 15) = (n : Int) + 1 := by rw [IntWalk.i64_in _ (by omega)]; omega
          have e2 : IntKind.i64.wrap ((n : Int) + 16 - 2) = (n : Int) + 14 := by rw [IntWalk.i64_in _ (by omega)]; omega
          have e16 : IntKind.i64.wrap ((n : Int) + 16 - 16) = (n : Int) := by rw [IntWalk.i64_in _ (by omega)]; omega
          have e16' : IntKind.i64.wrap (n : Int) = (n : Int) := IntWalk.i64_in _ (by omega)
          have e7 : IntKind.i64.wrap ((n : Int) + 16 - 7) = (n : Int) + 9 := by rw [IntWalk.i64_in _ (by omega)]; omega
          have hlen := part2_length s.toList n (by omega)
          have y15 := at78 p (n + 1) ((n : Int) + 1) (by omega) (by omega)
          have y2 := at78 p (n + 14) ((n : Int) + 14) (by omega) (by omega)
          have y16 := at78 p n (n : Int) (by omega) (by omega)
          have y7 := at78 p (n + 9) ((n : Int) + 9) (by omega) (by omega)
          have y0 := at78 p (16 + n) ((n : Int) + 16) (by omega) (by omega)
          have c15 := us_cell p5 (n + 1) (by omega)
          have c2 := us_cell p5 (n + 14) (by omega)
          have c16 := us_cell p5 n (by omega)
          have c7 := us_cell p5 (n + 9) (by omega)
          have ce := us_cell p5 (16 + n) (by omega)
          have hfroz := blk_frozen p5 (16 + n)
          obtain ⟨x15, hx15⟩ : ∃ x, at_ (part2 s.toList n) (n + 1) = x := ⟨_, rfl⟩
          obtain ⟨x2, hx2⟩ : ∃ x, at_ (part2 s.toList n) (n + 14) = x := ⟨_, rfl⟩
          obtain ⟨x16, hx16⟩ : ∃ x, at_ (part2 s.toList n) n = x := ⟨_, rfl⟩
          obtain ⟨x7, hx7⟩ : ∃ x, at_ (part2 s.toList n) (n + 9) = x := ⟨_, rfl⟩
          rw [hx15] at c15
          rw [hx2] at c2
          rw [hx16] at c16
          rw [hx7] at c7
          have hnext : next (part2 s.toList n) (16 + n) = x16 + x7 + (rotr x15 7 25 ^^^ rotr x15 18 14 ^^^ x15 >>> 3) + (rotr x2 17 15 ^^^ rotr x2 19 13 ^^^ x2 >>> 10) := by
            unfold next
            rw [show 16 + n - 16 = n by omega, show 16 + n - 15 = n + 1 by omega, show 16 + n - 7 = n + 9 by omega, show 16 + n - 2 = n + 14 by omega, hx15, hx2, hx16, hx7, u_arc x16]
          have HN := Lib.hid hnext
          have P5 := Lib.hid p5
          have P6 := Lib.hid p6
          have C0 := Lib.hid c0
          have C1 := Lib.hid c1
          have HB := Lib.hid hb
          clear p5 p6 c0 c1 hb hlen hx15 hx2 hx16 hx7 hnext
          go_wp2
          go_quiet (fail)
          go_wp2
          have P5 : Hid ((wr.drewN nq).heap[p]? = _) := P5
          have P6 : Hid ((wr.drewN nq).heap[p + 1]? = _) := P6
          have C0 : Hid ((wr.drewN nq).heap[g]? = _) := C0
          have C1 : Hid ((wr.drewN nq).heap[g + 1]? = _) := C1
          have HB : Hid (Below g w (wr.drewN nq)) := Lib.hid (pw_below_drewN HB.out nq)
          have c16 : (wr.drewN nq).cell? _ = _ := c16
          have c7 : (wr.drewN nq).cell? _ = _ := c7
          have ce : (wr.drewN nq).cell? _ = _ := ce
          have hfroz : (wr.drewN nq).frozen? _ = _ := hfroz
          clear c15 c2 y15 y2 e15 e2
          generalize wr.drewN nq = w3 at P5 P6 C0 C1 HB c16 c7 ce hfroz ⊢
          refine wp_region_still_tail 29 (by kernel_rfl) (by kernel_rfl) ?_
          simp only [List.take_succ_cons, List.take_zero, List.drop_succ_cons, List.drop_zero]
          repeat still_step
          still_call (turn7 x15 _)
          repeat still_step
          still_call (turn18 x15 _)
          repeat still_step
          still_call (turn17 x2 _)
          repeat still_step
          still_call (turn19 x2 _)
          repeat still_step
          refine wpStill_nil ?_
          change wpList _ _ _ _ _ w3.drew
          go_wp2
          go_roundw
          case rel =>
            refine ⟨n + 1, by omega, congrArg (Value.int .i64) (by omega), ?_, blk_far (w := w3) P6.out n65.out _, blk_far (w := w3) C0.out n05.out _, blk_far (w := w3) C1.out n15.out _, below_drew (HB.out.setCell n5.out _)⟩
            rw [u_shr3, u_shr10, u_xor, u_xor, u_xor, u_xor, u_add4, ← HN.out]
            have hp := us_put P5.out (16 + n) (next (part2 s.toList n) (16 + n))
            rw [part2_set _ _ hlt] at hp
            exact hp
          case measure => simp [intOf]; omega
        · obtain rfl : n = 48 := by omega
          have b0 : decide ((64 : Int) < 64) = false := by decide
          rw [show ((48 : Nat) : Int) + 16 = (64 : Int) from rfl]
          rw [part2_48] at p5
          have d0 := us_cell c0 0 (by simp [St.l])
          have d1 := us_cell c0 1 (by simp [St.l])
          have d2 := us_cell c0 2 (by simp [St.l])
          have d3 := us_cell c0 3 (by simp [St.l])
          have d4 := us_cell c0 4 (by simp [St.l])
          have d5 := us_cell c0 5 (by simp [St.l])
          have d6 := us_cell c0 6 (by simp [St.l])
          have d7 := us_cell c0 7 (by simp [St.l])
          simp only [at_, St.l, List.getD_cons_zero, List.getD_cons_succ] at d0 d1 d2 d3 d4 d5 d6 d7
          have P5 := Lib.hid p5
          have P6 := Lib.hid p6
          have C0 := Lib.hid c0
          have C1 := Lib.hid c1
          have HB := Lib.hid hb
          clear p5 p6 c0 c1 hb hlt hn
          go_wp2
          go_quiet (fail)
          go_wp2
          have P5 : Hid ((wr.drewN nq).heap[p]? = _) := P5
          have P6 : Hid ((wr.drewN nq).heap[p + 1]? = _) := P6
          have C0 : Hid ((wr.drewN nq).heap[g]? = _) := C0
          have C1 : Hid ((wr.drewN nq).heap[g + 1]? = _) := C1
          have HB : Hid (Below g w (wr.drewN nq)) := Lib.hid (pw_below_drewN HB.out nq)
          clear d0 d1 d2 d3 d4 d5 d6 d7
          generalize wr.drewN nq = w3 at P5 P6 C0 C1 HB ⊢
          go_loopw [11, 12, 13, 14, 15, 16, 17, 18, 19] (fun va vb vc vd ve vf vg vz v wr => ∃ (i : Nat) (x : St), i ≤ 64 ∧ v = .int .i64 i ∧ va = .int .u32 x.a.toNat ∧ vb = .int .u32 x.b.toNat ∧ vc = .int .u32 x.c.toNat ∧ vd = .int .u32 x.d.toNat ∧ ve = .int .u32 x.e.toNat ∧ vf = .int .u32 x.f.toNat ∧ vg = .int .u32 x.g.toNat ∧ vz = .int .u32 x.h.toNat ∧ Hid (rnds (spread s.toList) h i = x) ∧ wr.heap[p]? = some (.cells (us (spread s.toList)) 141 (0, 0)) ∧ wr.heap[p + 1]? = some (.cells (us keys) 141 (0, 0)) ∧ wr.heap[g]? = some (.cells (us h.l) 123 (0, 0)) ∧ wr.heap[g + 1]? = some (.cells z8 123 (0, 0)) ∧ Below g w wr) (fun _ _ _ _ _ _ _ _ v _ => (64 - intOf v).toNat)
          case atStart => exact ⟨0, h, by omega, rfl, rfl, rfl, rfl, rfl, rfl, rfl, rfl, rfl, Lib.hid rfl, P5.out, P6.out, C0.out, C1.out, HB.out⟩
          case round =>
            clear P5 P6 C0 C1 HB
            obtain ⟨i, x, hi, rfl, rfl, rfl, rfl, rfl, rfl, rfl, rfl, rfl, HX, p5, p6, c0, c1, hb⟩ := hrel
            by_cases hlt : i < 64
            · have b0 : decide ((i : Int) < 64) = true := decide_eq_true (by omega)
              obtain ⟨kk, hkk⟩ : ∃ y, at_ keys i = y := ⟨_, rfl⟩
              obtain ⟨ww, hww⟩ : ∃ y, at_ (spread s.toList) i = y := ⟨_, rfl⟩
              have HN : Hid (rnds (spread s.toList) h (i + 1) = rnd x kk ww) := Lib.hid (by rw [← HX.out, ← hkk, ← hww]; rfl)
              have dw := us_cell p5 i (by rw [spread_length]; exact hlt)
              have dk := us_cell p6 i (by rw [keys_length]; exact hlt)
              rw [hww] at dw
              rw [hkk] at dk
              have y5 := at78 p i (i : Int) rfl hlt
              have y6 := at78 (p + 1) i (i : Int) rfl hlt
              have P5 := Lib.hid p5
              have P6 := Lib.hid p6
              have C0 := Lib.hid c0
              have C1 := Lib.hid c1
              have HB := Lib.hid hb
              clear p5 p6 c0 c1 hb hkk hww HX
              go_wp2_with fail
              refine wp_region_still_lit (by kernel_rfl) (by kernel_rfl) ?_
              repeat still_step
              still_call (turn6 x.e _)
              repeat still_step
              still_call (turn11 x.e _)
              repeat still_step
              still_call (turn25 x.e _)
              repeat still_step
              refine wpStill_nil ?_
              rw [rTref_int]
              change Exit.then _ _ Exit.normal _ wr.drew
              have P5 : Hid (wr.drew.heap[p]? = _) := P5
              have P6 : Hid (wr.drew.heap[p + 1]? = _) := P6
              have C0 : Hid (wr.drew.heap[g]? = _) := C0
              have C1 : Hid (wr.drew.heap[g + 1]? = _) := C1
              have HB : Hid (Below g w wr.drew) := Lib.hid (below_drew HB.out)
              clear dw dk y5 y6
              generalize wr.drew = w2 at P5 P6 C0 C1 HB ⊢
              go_wp2_with fail
              refine (turn2 x.a _).mono ?_
              rintro _ _ ⟨rfl, rfl⟩
              go_wp2_with fail
              refine (turn13 x.a _).mono ?_
              rintro _ _ ⟨rfl, rfl⟩
              go_wp2_with fail
              refine (turn22 x.a _).mono ?_
              rintro _ _ ⟨rfl, rfl⟩
              go_wp2_with fail
              go_roundw
              case rel =>
                have eu := rUref_int x
                rw [wrap_u32] at eu
                rw [eu, u_add', u_add']
                exact ⟨i + 1, rnd x kk ww, by omega, by go_num, rfl, rfl, rfl, rfl, rfl, rfl, rfl, rfl, HN, P5.out, P6.out, C0.out, C1.out, HB.out⟩
              case measure => simp [intOf]; omega
            · obtain rfl : i = 64 := by omega
              have b0 : decide ((64 : Int) < 64) = false := by decide
              rw [show ((64 : Nat) : Int) = (64 : Int) from rfl]
              have HM : Hid (mix h s.toList = addSt x h) := Lib.hid (by rw [← HX.out]; rfl)
              have d0 := us_cell c0 0 (by simp [St.l])
              have d1 := us_cell c0 1 (by simp [St.l])
              have d2 := us_cell c0 2 (by simp [St.l])
              have d3 := us_cell c0 3 (by simp [St.l])
              have d4 := us_cell c0 4 (by simp [St.l])
              have d5 := us_cell c0 5 (by simp [St.l])
              have d6 := us_cell c0 6 (by simp [St.l])
              have d7 := us_cell c0 7 (by simp [St.l])
              simp only [at_, St.l, List.getD_cons_zero, List.getD_cons_succ] at d0 d1 d2 d3 d4 d5 d6 d7
              have C1 := Lib.hid c1
              have HB := Lib.hid hb
              clear p5 p6 c0 c1 hb hlt hi HX
              have ec : #[Value.int .u32 (((h.a.toNat : Int) + (x.a.toNat : Int)) % 4294967296), .int .u32 (((h.b.toNat : Int) + (x.b.toNat : Int)) % 4294967296), .int .u32 (((h.c.toNat : Int) + (x.c.toNat : Int)) % 4294967296), .int .u32 (((h.d.toNat : Int) + (x.d.toNat : Int)) % 4294967296), .int .u32 (((h.e.toNat : Int) + (x.e.toNat : Int)) % 4294967296), .int .u32 (((h.f.toNat : Int) + (x.f.toNat : Int)) % 4294967296), .int .u32 (((h.g.toNat : Int) + (x.g.toNat : Int)) % 4294967296), .int .u32 (((h.h.toNat : Int) + (x.h.toNat : Int)) % 4294967296)] = us (addSt x h).l := by
                rw [u_add', u_add', u_add', u_add', u_add', u_add', u_add', u_add', UInt32.add_comm h.a, UInt32.add_comm h.b, UInt32.add_comm h.c, UInt32.add_comm h.d, UInt32.add_comm h.e, UInt32.add_comm h.f, UInt32.add_comm h.g, UInt32.add_comm h.h]
                rfl
              have EC := Lib.hid ec
              clear ec
              go_wp2_with (refine wpList_store_row rfl 123 _ _ rfl (g + 1) (us (addSt x h).l) rfl (congrArg Value.agg EC.out) 123 z8 C1.out (size32 _ rfl) rfl (us_one _) ?_)
              refine bodyPost_ret (results_cell_row rfl _ _ (g + 1) 123 (us (addSt x h).l) (0, 0) _ rfl (setRow_heap wr (g + 1) z8 _ 123 _ C1.out) Try.underlying123 rfl (size32 _ rfl)) rfl ⟨by rw [HM.out], ?_⟩
              rw [HG.out]
              exact below_setRow HB.out (by omega) _
end Go.Proofs.Ytdcbacbilncnnaa.H
end
section
/- The reference's Sum. -/
set_option linter.unusedVariables false
set_option linter.unusedSimpArgs false
namespace Go.Proofs.Ytdcbacbilncnnaa.H
open Go.RowKit Go.Proofs.Ytdcbacbilncnnaa.Sha Go.Proofs.YtdcbacbilncnnaaW.PrintWords Go.Proofs.YtdcbacbilncnnaaW.PrintLast
/-- How many noughts stand behind. -/
def nz (n : Nat) : Nat := (119 - n % 64) % 64
theorem nz_le (n : Nat) : nz n < 64 := Nat.mod_lt _ (by decide)
theorem nz_is (n j : Nat) (h : j ≤ nz n) : (n + 1 + j) % 64 = 56 ↔ j = nz n := by
  unfold nz at *
  omega
theorem nz_pad (n : Nat) : pad n = 128 :: (List.replicate (nz n) 0 ++ bits8 n) := rfl
def footL (n i : Nat) : List UInt8 := ((List.range i).map fun k => UInt8.ofNat (n * 8 / 2 ^ (8 * k))).reverse
theorem footL_8 (n : Nat) : footL n 8 = bits8 n := rfl
theorem footL_len (n i : Nat) : (footL n i).length = i := by simp [footL]
theorem footL_succ (n i : Nat) : footL n (i + 1) = UInt8.ofNat (n * 8 / 2 ^ (8 * i)) :: footL n i := by
  unfold footL
  rw [List.range_succ, List.map_append, List.reverse_append]
  rfl
theorem be_at (x : UInt32) : be x = [UInt8.ofNat (x.toNat / 2 ^ 24), UInt8.ofNat (x.toNat / 2 ^ 16), UInt8.ofNat (x.toNat / 2 ^ 8), UInt8.ofNat (x.toNat / 2 ^ 0)] := by
  apply (List.map_inj_right fun a b hab => UInt8.toNat_inj.1 hab).1
  rw [be_nat]
  simp only [List.map_cons, List.map_nil, UInt8.toNat_ofNat']
  rw [Nat.pow_zero, Nat.div_one]
  rfl
def outF (x : St) (i : Nat) : UInt8 := UInt8.ofNat ((at_ x.l (i / 4)).toNat / 2 ^ (24 - i % 4 * 8))
theorem out_map (x : St) : out x = (List.range 32).map (outF x) := by
  unfold out
  simp only [St.l, List.flatMap_cons, List.flatMap_nil, be_at]
  rfl
theorem out_take (x : St) (i : Nat) (h : i < 32) : (out x).take (i + 1) = (out x).take i ++ [outF x i] := by
  have hl : (out x).length = 32 := by rw [out_map]; simp
  rw [List.take_succ_eq_append_getElem (by omega)]
  congr 2
  simp only [out_map, List.getElem_map, List.getElem_range]
theorem us_size8 (x : St) : (us x.l).size = 8 := rfl
theorem one_byte (w : World) (b : Int) : (convert 99 9 (.slice (some ⟨w.heap.size, 0, none⟩) 1 1)).run Try.prog (w.alloc (.cells #[.int .u8 b] 5)) = .ok (.string (strOfNums [b])) (w.alloc (.cells #[.int .u8 b] 5)) :=
  own_string (P := Try.prog) (src := 99) (dst := 9) (base := w.heap.size) (e' := 5) (n := 1) (xs := [b]) Try.underlying99 Try.underlying5 Try.underlying9 ⟨rfl, .inr ⟨w.heap.size, 1, #[.int .u8 b], rfl, Nat.le_refl _, heap_alloc_last w _, Nat.le_refl _, by decide, rfl, rfl⟩⟩
theorem one_str (q : Nat) : strOfNums [(q : Int) % 256] = ⟨#[UInt8.ofNat q]⟩ := by
  have h := strOf_byts [UInt8.ofNat q]
  have e : byts [UInt8.ofNat q] = [(q : Int) % 256] := by
    show [((UInt8.ofNat q).toNat : Int)] = _
    rw [UInt8.toNat_ofNat']
    rfl
  rw [e] at h
  exact h
theorem one_byteq (w : World) (q : Nat) : (convert 99 9 (.slice (some ⟨w.heap.size, 0, none⟩) 1 1)).run Try.prog (w.alloc (.cells #[.int .u8 ((q : Int) % 256)] 5)) = .ok (.string ⟨#[UInt8.ofNat q]⟩) (w.alloc (.cells #[.int .u8 ((q : Int) % 256)] 5)) := by rw [one_byte, one_str]
set_option maxHeartbeats 4000000 in
set_option maxRecDepth 100000 in
theorem refSum_any (s : ByteArray) (w : World) (hs : s.size < 1152921504606846976) : Calls Try.prog 54 #[.string s] w fun e w' => e = .returned (.string ⟨(sum s.toList).toArray⟩) ∧ Below w.heap.size w w' := by
  have HS := Lib.hid hs
  have h1 : (9223372036854775807 < s.size + 1) = False := eq_false (by omega)
  clear hs
  go_enter Try.func54, Try.ntmps54
  go_wp2_with fail
  have e8 : IntKind.u64.wrap (IntKind.u64.wrap (s.size : Int) * 8) = ((s.size * 8 : Nat) : Int) := by
    have := HS.out
    simp [IntKind.wrap, IntKind.bits, IntKind.signed]
    omega
  rw [e8]
  clear e8 h1
  obtain ⟨n, hn⟩ : ∃ n, s.size = n := ⟨_, rfl⟩
  have HSN := Lib.hid hn
  have HN : Hid (n < 1152921504606846976) := Lib.hid (by rw [← hn]; exact HS.out)
  have hX0 : (s ++ (⟨#[128]⟩ : ByteArray)).toList = s.toList ++ 128 :: List.replicate 0 0 := by
    rw [ByteArray.toList_eq, ByteArray.data_append, Array.toList_append, ← ByteArray.toList_eq]
    rfl
  rw [hn]
  clear hn
  generalize hX : (s ++ (⟨#[128]⟩ : ByteArray)) = X0 at hX0 ⊢
  clear hX
  go_loopw [0] (fun v wr => ∃ (j : Nat) (X : ByteArray), v = .string X ∧ Hid (j ≤ nz n) ∧ Hid (X.toList = s.toList ++ 128 :: List.replicate j 0) ∧ wr = w) (fun v _ => match v with | .string b => nz n + n + 1 - b.size | _ => 0)
  case atStart => exact ⟨0, X0, rfl, Lib.hid (Nat.zero_le _), Lib.hid hX0, rfl⟩
  case round =>
    clear hX0
    obtain ⟨j, X, rfl, hj, hX, rfl⟩ := hrel
    obtain ⟨w, hw⟩ : ∃ w, w = wr := ⟨_, rfl⟩
    subst hw
    have hsz : X.size = n + 1 + j := by
      have h := congrArg List.length hX.out
      rw [size_toList, List.length_append, size_toList, List.length_cons, List.length_replicate] at h
      have := HSN.out
      omega
    by_cases hlt : j = nz n
    · have t0 : ((X.size : Int) % 64 != 56) = false := by
        have h := (nz_is n j hj.out).2 hlt
        have e : ((X.size : Int) % 64) = 56 := by rw [hsz]; omega
        rw [e]; rfl
      have HZ := Lib.hid hsz
      have HL := Lib.hid hlt
      clear hsz hlt
      go_wp2_with fail
      go_loopw [3, 4, 5] (fun a3 a4 a5 w2 => ∃ (i : Nat), i ≤ 8 ∧ a3 = .int .u64 ((n * 8 / 2 ^ (8 * i) : Nat) : Int) ∧ a4 = .string ⟨(footL n i).toArray⟩ ∧ a5 = .int .i64 i ∧ Below w.heap.size w w2) (fun _ _ a5 _ => (8 - intOf a5).toNat)
      case atStart => exact ⟨0, by omega, by simp, rfl, rfl, Below.refl _ _⟩
      case round =>
        obtain ⟨i, hi, rfl, rfl, rfl, hb⟩ := hrel
        have HB := Lib.hid hb
        clear hb
        by_cases hlt : i < 8
        · have b0 : decide ((i : Int) < 8) = true := decide_eq_true (by omega)
          obtain ⟨q, hq⟩ : ∃ q, n * 8 / 2 ^ (8 * i) = q := ⟨_, rfl⟩
          have HQ : Hid (q < 18446744073709551616) := Lib.hid (by rw [← hq]; have h := Nat.div_le_self (n * 8) (2 ^ (8 * i)); have := HN.out; omega)
          have hf := footL_succ n i
          have hq2 : n * 8 / 2 ^ (8 * (i + 1)) = q / 256 := by rw [← hq, Nat.div_div_eq_div_mul]; congr 1; rw [show 8 * (i + 1) = 8 * i + 8 by omega, Nat.pow_add]
          rw [hq] at hf ⊢
          have HF := Lib.hid hf
          have HQ2 := Lib.hid hq2
          have hsz := congrArg List.length hf
          rw [footL_len, List.length_cons, footL_len] at hsz
          have hbig : (9223372036854775807 < 1 + (footL n i).length) = False := eq_false (by rw [footL_len]; omega)
          clear hf hq2 hq hsz
          have ho := one_byteq wr q
          go_wp2_with fail
          go_roundw
          case rel =>
            have eq2 : IntKind.u64.wrap ((q : Int) / 256) = ((q / 256 : Nat) : Int) := by have := HQ.out; simp [IntKind.wrap, IntKind.bits, IntKind.signed]; omega
            refine ⟨i + 1, by omega, by rw [HQ2.out, eq2], ?_, by go_num, below_alloc HB.out _⟩
            rw [HF.out]
            rfl
          case measure => simp [intOf]; omega
        · obtain rfl : i = 8 := by omega
          have b0 : decide ((8 : Int) < 8) = false := by decide
          rw [show ((8 : Nat) : Int) = (8 : Int) from rfl]
          clear hlt hi
          rw [footL_8]
          generalize ((n * 8 / 2 ^ (8 * 8) : Nat) : Int) = z3
          have hXl : (X ++ (⟨(bits8 n).toArray⟩ : ByteArray)).toList = s.toList ++ pad n := by
            rw [ByteArray.toList_eq, ByteArray.data_append, Array.toList_append, ← ByteArray.toList_eq, hX.out, nz_pad, HL.out]
            simp
          have hXs : (X ++ (⟨(bits8 n).toArray⟩ : ByteArray)).size = 64 * ((n + 72) / 64) := by
            have h := congrArg List.length hXl
            have h2 := pad_length s.toList
            rw [size_toList s, HSN.out] at h2
            rw [h2] at h
            rw [← h, size_toList]
          have hbig : (9223372036854775807 < X.size + (bits8 n).length) = False := eq_false (by have := HN.out; have := HZ.out; have := nz_le n; have := HL.out; have e : (bits8 n).length = 8 := rfl; omega)
          have HXL := Lib.hid hXl
          have HXS := Lib.hid hXs
          clear hXl hXs
          go_wp2_with fail
          refine (refStart_any _).mono ?_
          rintro e w1 ⟨rfl, hb1⟩
          have hb1 := below_then HB.out HB.out.size hb1
          have hg0 : (w1.alloc (.cells (us Sha.start.l) 123)).heap[w1.heap.size]? = some (.cells (us Sha.start.l) 123 (0, 0)) := heap_alloc_last _ _
          have hB : Below w.heap.size w (w1.alloc (.cells (us Sha.start.l) 123)) := below_alloc hb1 _
          have hge : w.heap.size ≤ w1.heap.size := hb1.size
          generalize (X ++ (⟨(bits8 n).toArray⟩ : ByteArray)) = L at HXL HXS ⊢
          go_wp2_with (first | (refine wpList_alloc_arr rfl 123 rfl z8 zero32 ?_) | (refine wpList_store_row rfl 123 _ _ rfl w1.heap.size (us Sha.start.l) rfl rfl 123 z8 (heap_alloc_last w1 _) (size32 _ rfl) (by rw [us_size]; rfl) (us_one _) ?_; rw [World.setRow_alloc_new]))
          generalize w1.alloc (.cells (us Sha.start.l) 123) = W at hg0 hB ⊢
          have HGE := Lib.hid hge
          clear hge hb1
          generalize w1.heap.size = g at hg0 HGE ⊢
          go_loopw [7] (fun v w2 => ∃ i k : Nat, v = .int .i64 k ∧ Hid (k = 64 * i) ∧ k ≤ L.size ∧ w2.heap[g]? = some (.cells (us (blocks i Sha.start L.toList).l) 123 (0, 0)) ∧ Below w.heap.size w w2) (fun v _ => (L.size - intOf v).toNat)
          case atStart => exact ⟨0, 0, rfl, Lib.hid rfl, by omega, hg0, hB⟩
          case round =>
            clear hg0 hB W HB
            obtain ⟨i, k, rfl, hk, hkm, hg, hb⟩ := hrel
            by_cases hlt : k < L.size
            · have b0 : decide (k < L.size) = true := decide_eq_true hlt
              have b1 : decide ((k : Int) < (L.size : Int)) = true := decide_eq_true (by omega)
              have h64 : k + 64 ≤ L.size := by have := hk.out; have := HXS.out; omega
              have e64 : IntKind.i64.wrap ((k : Int) + 64) = (k : Int) + 64 := IntWalk.i64_in _ (by have := HN.out; have := HXS.out; omega)
              have hsl := slice_s L k (k + 64) (k : Int) ((k : Int) + 64) rfl (by omega) (by omega) h64
              have HG := Lib.hid hg
              have HB := Lib.hid hb
              clear hg hb
              go_wp2
              refine wp_region_still_tail 6 (by kernel_rfl) (by kernel_rfl) ?_
              simp only [List.take_succ_cons, List.take_zero, List.drop_succ_cons, List.drop_zero]
              refine still_load rfl 123 _ rfl g rfl 123 (us (blocks i Sha.start L.toList).l) (0, 0) _ HG.out Try.underlying123 rfl (size32 _ rfl) ?_
              simp only [Act.put, List.setIfInBounds_toArray, List.set_cons_zero, List.set_cons_succ]
              repeat still_step
              try refine wpStill_nil ?_
              change wpList _ _ _ _ _ wr.drew
              have HG : Hid (wr.drew.heap[g]? = _) := HG
              have HB : Hid (Below w.heap.size w wr.drew) := Lib.hid (below_drew HB.out)
              clear hsl
              generalize wr.drew = w2 at HG HB ⊢
              go_wp2_with fail
              refine (refMix_any _ _ _ (by rw [ByteArray.size_extract]; omega)).mono ?_
              rintro e w3 ⟨rfl, hb3⟩
              have HG3 : Hid (w3.heap[g]? = _) := Lib.hid (blk_below HG.out hb3)
              have HB3 : Hid (Below w.heap.size w w3) := Lib.hid (below_then HB.out HB.out.size hb3)
              clear hb3 HG HB
              go_wp2_with (refine wpList_store_row rfl 123 _ _ rfl g (us (mix (blocks i Sha.start L.toList) (L.extract k (k + 64)).toList).l) rfl rfl 123 (us (blocks i Sha.start L.toList).l) HG3.out (size32 _ rfl) ((us_size8 _).trans (us_size8 _).symm) (us_one _) ?_)
              go_roundw
              case rel =>
                have hmx : mix (blocks i Sha.start L.toList) (L.extract k (k + 64)).toList = blocks (i + 1) Sha.start L.toList := by
                  rw [drop_extract, blocks_snoc, ← hk.out, show k + 64 - k = 64 by omega]
                refine ⟨i + 1, k + 64, by go_num, Lib.hid (by have := hk.out; omega), by omega, ?_, below_setRow HB3.out HGE.out _⟩
                rw [← hmx]
                exact setRow_heap w3 g _ _ _ _ HG3.out
              case measure => simp [intOf]; omega
            · obtain rfl : k = L.size := by omega
              have b0 : decide (L.size < L.size) = false := decide_eq_false (by omega)
              have b1 : decide ((L.size : Int) < (L.size : Int)) = false := decide_eq_false (by omega)
              have hin : i = (n + 72) / 64 := by have := hk.out; have := HXS.out; omega
              obtain ⟨H, hH⟩ : ∃ H, blocks i Sha.start L.toList = H := ⟨_, rfl⟩
              have hsum : sum s.toList = out H := by
                rw [← hH, HXL.out, hin]
                unfold sum
                rw [size_toList, HSN.out]
              rw [hH] at hg
              have HSUM := Lib.hid hsum
              clear hsum hH hin hk hkm hlt
              have HG := Lib.hid hg
              have HB := Lib.hid hb
              clear hg hb
              go_wp2_with fail
              go_loopw [8, 9] (fun a8 a9 w2 => ∃ i : Nat, i ≤ 32 ∧ a9 = .int .i64 i ∧ a8 = .string ⟨((out H).take i).toArray⟩ ∧ w2.heap[g]? = some (.cells (us H.l) 123 (0, 0)) ∧ Below w.heap.size w w2) (fun _ a9 _ => (32 - intOf a9).toNat)
              case atStart => exact ⟨0, by omega, rfl, rfl, HG.out, HB.out⟩
              case round =>
                clear HG HB
                obtain ⟨i, hi, rfl, rfl, hg, hb⟩ := hrel
                by_cases hlt : i < 32
                · have b2 : decide ((i : Int) < 32) = true := decide_eq_true (by omega)
                  have ew : IntKind.i64.wrap ((i : Int) / 4) = (i : Int) / 4 := IntWalk.i64_in _ (by omega)
                  have y := at32 g (i / 4) ((i : Int) / 4) (by omega) (by omega)
                  have hcell := us_cell hg (i / 4) (by show i / 4 < 8; omega)
                  obtain ⟨x, hx⟩ : ∃ x, at_ H.l (i / 4) = x := ⟨_, rfl⟩
                  rw [hx] at hcell
                  have HX := Lib.hid hx
                  have HG := Lib.hid hg
                  have HB := Lib.hid hb
                  clear hg hb hx
                  have ho := one_byteq wr (x.toNat / 2 ^ (24 - i % 4 * 8))
                  rw [Int.natCast_ediv, Int.natCast_pow, show ((2 : Nat) : Int) = 2 from rfl] at ho
                  have HO := Lib.hid (out_take H i hlt)
                  have hlen : ((out H).take i).length = i := by rw [List.length_take, out_map]; simp; omega
                  have hbig : (9223372036854775807 < ((out H).take i).length + 1) = False := eq_false (by omega)
                  have hbig' : (9223372036854775807 < min i (out H).length + 1) = False := eq_false (by omega)
                  clear hlen
                  go_wp2_with fail
                  go_roundw
                  case rel =>
                    refine ⟨i + 1, by omega, by go_num, ?_, blk_alloc HG.out _, below_alloc HB.out _⟩
                    rw [HO.out, ← HX.out]
                    show Value.string _ = Value.string _
                    congr 1
                  case measure => simp [intOf]; omega
                · obtain rfl : i = 32 := by omega
                  have b2 : decide ((32 : Int) < 32) = false := by decide
                  rw [show ((32 : Nat) : Int) = (32 : Int) from rfl]
                  have HB := Lib.hid hb
                  have ht : (out H).take 32 = out H := List.take_of_length_le (by rw [out_map]; simp)
                  rw [ht]
                  clear hb hg hlt hi ht
                  go_wp2_with fail
                  go_ret
                  exact ⟨by rw [HSUM.out]; rfl, HB.out⟩
    · have t0 : ((X.size : Int) % 64 != 56) = true := by
        have h := fun h => hlt ((nz_is n j hj.out).1 h)
        rw [bne_iff_ne]
        intro e
        exact h (by rw [hsz] at e; omega)
      have hbig : (9223372036854775807 < X.size + 1) = False := eq_false (by have := HN.out; have := hj.out; have := nz_le n; omega)
      have HZ := Lib.hid hsz
      have HL := Lib.hid hlt
      clear hsz hlt
      go_wp2_with fail
      go_roundw
      case rel =>
        refine ⟨j + 1, X ++ ⟨#[0]⟩, rfl, Lib.hid (by have := hj.out; have := HL.out; omega), Lib.hid ?_, trivial⟩
        rw [ByteArray.toList_eq, ByteArray.data_append, Array.toList_append, ← ByteArray.toList_eq, hX.out, List.replicate_succ']
        simp
      case measure =>
        show nz n + n + 1 - (X ++ (⟨#[0]⟩ : ByteArray)).size < nz n + n + 1 - X.size
        rw [ByteArray.size_append, HZ.out]
        have := HL.out
        have := hj.out
        show nz n + n + 1 - (n + 1 + j + 1) < _
        omega
end Go.Proofs.Ytdcbacbilncnnaa.H
end
section
/- The two digests, in the printed form. -/
namespace Go.Proofs.Ytdcbacbilncnnaa.Dig
open Go.RowKit Go.Proofs.Ytdcbacbilncnnaa.Sha Go.Proofs.Ytdcbacbilncnnaa.H
/-- The digest as bytes. -/
def dig (s : ByteArray) : ByteArray := ⟨(sum s.toList).toArray⟩
theorem dig_size (s : ByteArray) : (dig s).size = 32 := sum_length s.toList
def hash_Sum.f (a0 : ByteArray) : Option ByteArray := if a0.size < 1152921504606846976 then some (dig a0) else none
theorem hash_Sum.calls (a0 : ByteArray) (r : ByteArray) (w : World) (h : hash_Sum.f a0 = some r) :
    Calls Try.prog 44 #[.string a0] w fun e w' => e = .returned (.string r) ∧ Below w.heap.size w w' := by
  unfold hash_Sum.f at h
  split at h
  · next hs => obtain rfl := Option.some.inj h; exact sum_calls a0 w hs
  · exact absurd h (by simp)
def parchmentref01_Sum.f (a0 : ByteArray) : Option ByteArray := if a0.size < 1152921504606846976 then some (dig a0) else none
theorem parchmentref01_Sum.calls (a0 : ByteArray) (r : ByteArray) (w : World) (h : parchmentref01_Sum.f a0 = some r) :
    Calls Try.prog 54 #[.string a0] w fun e w' => e = .returned (.string r) ∧ Below w.heap.size w w' := by
  unfold parchmentref01_Sum.f at h
  split at h
  · next hs => obtain rfl := Option.some.inj h; exact refSum_any a0 w hs
  · exact absurd h (by simp)
end Go.Proofs.Ytdcbacbilncnnaa.Dig
end
section
namespace Go.Proofs.Ytdcbacbilncnnaa.PMk
open Go.RowKit Go.Proofs.YtdcbacbilncnnaaW.PrintWords Go.Proofs.YtdcbacbilncnnaaW.PrintLast Go.Proofs.YtdcbacbilncnnaaW.PrintMore
attribute [local go_sem] max2_int min2_int max_two min_two max_three min_three max_four min_four   -- for this text's walks alone
set_option linter.unusedVariables false
set_option linter.unusedSimpArgs false
def errW : Option Int → Value
 | none => .nilIface
 | some c => .iface 0 (.int .i64 c)
theorem errW_none : errW none = .nilIface := rfl
theorem errW_some (c : Int) : errW (some c) = .iface 0 (.int .i64 c) := rfl
theorem info4 : (Try.prog.info? 4).map (fun i => (i.zero, i.size, i.bytes)) = some (some (.bool false), 1, 1) := by kernel_rfl
theorem info5 : (Try.prog.info? 5).map (fun i => (i.zero, i.size, i.bytes)) = some (some (.int .u8 0), 1, 1) := by kernel_rfl
theorem info9 : (Try.prog.info? 9).map (fun i => (i.zero, i.size, i.bytes)) = some (some (.string ⟨#[]⟩), 1, 16) := by kernel_rfl
theorem info47 : (Try.prog.info? 47).map (fun i => (i.zero, i.size, i.bytes)) = some (some (.agg #[(.int .i64 0), (.string ⟨#[]⟩), (.string ⟨#[]⟩), (.int .u64 0), (.int .u64 0), (.string ⟨#[]⟩), (.string ⟨#[]⟩), (.bool false)]), 8, 96) := by kernel_rfl
-- the values' own types
/-! #### struct type 44 -/
structure S44 where
 f0 : Int
 f1 : ByteArray
 f2 : ByteArray
 f3 : Int
 f4 : Int
 f5 : ByteArray
 f6 : ByteArray
 f7 : Bool
def k44 : Kd S44 := Kd.iso (Kd.pair (Kd.int .i64) (Kd.pair Kd.string (Kd.pair Kd.string (Kd.pair (Kd.int .u64) (Kd.pair (Kd.int .u64) (Kd.pair Kd.string (Kd.pair Kd.string Kd.bool))))))) (fun x : S44 => (x.f0, x.f1, x.f2, x.f3, x.f4, x.f5, x.f6, x.f7))
/-! #### struct type 47 -/
structure S47 where
 f0 : Int
 f1 : ByteArray
 f2 : ByteArray
 f3 : Int
 f4 : Int
 f5 : ByteArray
 f6 : ByteArray
 f7 : Bool
def z47 : S47 := ⟨(0 : Int), (⟨#[]⟩ : ByteArray), (⟨#[]⟩ : ByteArray), (0 : Int), (0 : Int), (⟨#[]⟩ : ByteArray), (⟨#[]⟩ : ByteArray), false⟩
def k47 : Kd S47 := Kd.iso (Kd.pair (Kd.int .i64) (Kd.pair Kd.string (Kd.pair Kd.string (Kd.pair (Kd.int .u64) (Kd.pair (Kd.int .u64) (Kd.pair Kd.string (Kd.pair Kd.string Kd.bool))))))) (fun x : S47 => (x.f0, x.f1, x.f2, x.f3, x.f4, x.f5, x.f6, x.f7))
theorem k47_open {w : World} {x : S47} {cs : List Value} (h : k47.K w x cs) : cs = [.int .i64 x.f0, .string x.f1, .string x.f2, .int .u64 x.f3, .int .u64 x.f4, .string x.f5, .string x.f6, .bool x.f7] := by
 obtain ⟨_, _, rfl, rfl, ⟨_, _, rfl, rfl, ⟨_, _, rfl, rfl, ⟨_, _, rfl, rfl, ⟨_, _, rfl, rfl, ⟨_, _, rfl, rfl, ⟨_, _, rfl, rfl, rfl⟩⟩⟩⟩⟩⟩⟩ := h
 exact rfl
theorem k47_mkM (w : World) (base : Nat) (ok : Nat → Prop) (x : S47)  : k47.M w base ok x [.int .i64 x.f0, .string x.f1, .string x.f2, .int .u64 x.f3, .int .u64 x.f4, .string x.f5, .string x.f6, .bool x.f7] := ⟨[.int .i64 x.f0], [.string x.f1, .string x.f2, .int .u64 x.f3, .int .u64 x.f4, .string x.f5, .string x.f6, .bool x.f7], rfl, rfl, ⟨[.string x.f1], [.string x.f2, .int .u64 x.f3, .int .u64 x.f4, .string x.f5, .string x.f6, .bool x.f7], rfl, rfl, ⟨[.string x.f2], [.int .u64 x.f3, .int .u64 x.f4, .string x.f5, .string x.f6, .bool x.f7], rfl, rfl, ⟨[.int .u64 x.f3], [.int .u64 x.f4, .string x.f5, .string x.f6, .bool x.f7], rfl, rfl, ⟨[.int .u64 x.f4], [.string x.f5, .string x.f6, .bool x.f7], rfl, rfl, ⟨[.string x.f5], [.string x.f6, .bool x.f7], rfl, rfl, ⟨[.string x.f6], [.bool x.f7], rfl, rfl, rfl⟩⟩⟩⟩⟩⟩⟩
def rd_T47 (xs : List S47) (i : Int) : S47 := xs.getD i.toNat z47
theorem at_T47 {w : World} {A : Option Addr} {n : Nat} {xs : List S47} (h : Kd.C k47 w A n xs) (i : Int) (h0 : 0 ≤ i) (h1 : i < n) : ∃ ad , A = some ad ∧ w.cell? (ad.add (i.toNat * 8)) = some (.int .i64 (rd_T47 xs i).f0) ∧ w.cell? ⟨(ad.add (i.toNat * 8)).block, (ad.add (i.toNat * 8)).off + 1, none⟩ = some (.string (rd_T47 xs i).f1) ∧ w.cell? ⟨(ad.add (i.toNat * 8)).block, (ad.add (i.toNat * 8)).off + 2, none⟩ = some (.string (rd_T47 xs i).f2) ∧ w.cell? ⟨(ad.add (i.toNat * 8)).block, (ad.add (i.toNat * 8)).off + 3, none⟩ = some (.int .u64 (rd_T47 xs i).f3) ∧ w.cell? ⟨(ad.add (i.toNat * 8)).block, (ad.add (i.toNat * 8)).off + 4, none⟩ = some (.int .u64 (rd_T47 xs i).f4) ∧ w.cell? ⟨(ad.add (i.toNat * 8)).block, (ad.add (i.toNat * 8)).off + 5, none⟩ = some (.string (rd_T47 xs i).f5) ∧ w.cell? ⟨(ad.add (i.toNat * 8)).block, (ad.add (i.toNat * 8)).off + 6, none⟩ = some (.string (rd_T47 xs i).f6) ∧ w.cell? ⟨(ad.add (i.toNat * 8)).block, (ad.add (i.toNat * 8)).off + 7, none⟩ = some (.bool (rd_T47 xs i).f7) := by
 obtain ⟨ad, c, e, _, hK, hc0⟩ := Kd.C_get h z47 i h0 h1
 have hc : ∀ j u, c[j]? = some u → w.cell? (ad.add (i.toNat * 8 + j)) = some u := hc0
 obtain rfl := k47_open hK
 exact ⟨ad, e, hc 0 _ rfl, by rw [← add_field _ _ 1 (by omega)]; exact hc 1 _ rfl, by rw [← add_field _ _ 2 (by omega)]; exact hc 2 _ rfl, by rw [← add_field _ _ 3 (by omega)]; exact hc 3 _ rfl, by rw [← add_field _ _ 4 (by omega)]; exact hc 4 _ rfl, by rw [← add_field _ _ 5 (by omega)]; exact hc 5 _ rfl, by rw [← add_field _ _ 6 (by omega)]; exact hc 6 _ rfl, by rw [← add_field _ _ 7 (by omega)]; exact hc 7 _ rfl⟩
end Go.Proofs.Ytdcbacbilncnnaa.PMk
end
section
namespace Go.Proofs.Ytdcbacbilncnnaa.PMk
open Go.RowKit Go.Proofs.YtdcbacbilncnnaaW.PrintWords Go.Proofs.YtdcbacbilncnnaaW.PrintLast Go.Proofs.YtdcbacbilncnnaaW.PrintMore
attribute [local go_sem] max2_int min2_int max_two min_two max_three min_three max_four min_four   -- for this text's walks alone
set_option linter.unusedVariables false
set_option linter.unusedSimpArgs false
/-! ### parchmentlaw09_Ref: function 21 -/
def parchmentlaw09_Ref.f (a0_0 : Int) (a0_1 : ByteArray) (a0_2 : ByteArray) (a0_3 : Int) (a0_4 : Int) (a0_5 : ByteArray) (a0_6 : ByteArray) (a0_7 : Bool) : Option (Int × ByteArray × ByteArray × Int × Int × ByteArray × ByteArray × Bool) := some (a0_0, a0_1, a0_2, a0_3, a0_4, a0_5, a0_6, a0_7)
set_option maxHeartbeats 8000000 in
set_option maxRecDepth 100000 in
theorem parchmentlaw09_Ref.calls (a0_0 : Int) (a0_1 : ByteArray) (a0_2 : ByteArray) (a0_3 : Int) (a0_4 : Int) (a0_5 : ByteArray) (a0_6 : ByteArray) (a0_7 : Bool) (r1 : Int) (r2 : ByteArray) (r3 : ByteArray) (r4 : Int) (r5 : Int) (r6 : ByteArray) (r7 : ByteArray) (r8 : Bool) (w : World) (h : parchmentlaw09_Ref.f a0_0 a0_1 a0_2 a0_3 a0_4 a0_5 a0_6 a0_7 = some (r1, r2, r3, r4, r5, r6, r7, r8)) :
  Calls Try.prog 21 #[.agg #[.int .i64 a0_0, .string a0_1, .string a0_2, .int .u64 a0_3, .int .u64 a0_4, .string a0_5, .string a0_6, .bool a0_7]] w fun e w' => e = .returned (.agg #[.int .i64 r1, .string r2, .string r3, .int .u64 r4, .int .u64 r5, .string r6, .string r7, .bool r8]) ∧ Below w.heap.size w w' := by
 have hu47 := Try.underlying47
 have hu44 := Try.underlying44
 have HB := Aside0.mk (Below.refl w.heap.size w)
 have H : (some (a0_0, a0_1, a0_2, a0_3, a0_4, a0_5, a0_6, a0_7)) = some (r1, r2, r3, r4, r5, r6, r7, r8) := h
 clear h
 simp only [Option.some.injEq, Prod.mk.injEq] at H
 obtain ⟨rfl, rfl, rfl, rfl, rfl, rfl, rfl, rfl⟩ := H
 go_enter Try.func21, Try.ntmps21
 go_wp2_with (first | ((with_reducible refine gate_dst (N := 1) rfl ?_); refine box_event ?hg (N := 1) ?hd (cs := #[.int .i64 a0_0, .string a0_1, .string a0_2, .int .u64 a0_3, .int .u64 a0_4, .string a0_5, .string a0_6, .bool a0_7]) (t := 47) ?hr ?_; (case hd => rfl); (case hg => rfl); (case hr => first | (go_simp; done) | (go_simp; rfl)); intro gb101 hg w2 hbox hb; have n0_ := Aside0.mk (below_step (bh_ HB.out) hb); have n1_ := Aside0.mk (hbox); have n2_ := Aside0.mk ((by rw [hg]; exact (below_size (bh_ HB.out)) : w.heap.size ≤ gb101)); have n3_ := Aside0.mk ((by rw [hg]; exact (below_size (bh_ HB.out)) : w.heap.size ≤ gb101)); clear HB; have HB := n0_; have BK101 := n1_; have GW101 := n2_; have GE101 := n3_; clear n0_ n1_ n2_ n3_; clear hb hbox hg) | ((with_reducible refine gate_dst (N := 2) rfl ?_); refine box_event ?hg (N := 2) ?hd (cs := #[.int .i64 0, .string (⟨#[]⟩ : ByteArray), .string (⟨#[]⟩ : ByteArray), .int .u64 0, .int .u64 0, .string (⟨#[]⟩ : ByteArray), .string (⟨#[]⟩ : ByteArray), .bool false]) (t := 44) ?hr ?_; (case hd => rfl); (case hg => rfl); (case hr => first | (go_simp; done) | (go_simp; rfl)); intro gb102 hg w3 hbox hb; have n0_ := Aside0.mk (bk_ BK101.out hb); have n1_ := Aside0.mk (below_step (bh_ HB.out) hb); have n2_ := Aside0.mk (hbox); have n3_ := Aside0.mk ((by rw [hg]; exact (below_size (bh_ HB.out)) : w.heap.size ≤ gb102)); have n4_ := Aside0.mk ((by rw [hg]; exact (below_size (bh_ HB.out)) : w.heap.size ≤ gb102)); have n5_ := Aside0.mk ((by rw [hg]; exact Nat.ne_of_lt (blk_lt (g := gb101) (o := .cells #[.int .i64 a0_0, .string a0_1, .string a0_2, .int .u64 a0_3, .int .u64 a0_4, .string a0_5, .string a0_6, .bool a0_7] 47 (0, 0)) (bz_ BK101.out)) : gb101 ≠ gb102)); have n6_ := Aside0.mk ((by rw [hg]; exact Nat.ne_of_gt (blk_lt (g := gb101) (o := .cells #[.int .i64 a0_0, .string a0_1, .string a0_2, .int .u64 a0_3, .int .u64 a0_4, .string a0_5, .string a0_6, .bool a0_7] 47 (0, 0)) (bz_ BK101.out)) : gb102 ≠ gb101)); clear BK101; clear HB; have BK101 := n0_; have HB := n1_; have BK102 := n2_; have GW102 := n3_; have GE102 := n4_; have NB101_102 := n5_; have NB102_101 := n6_; clear n0_ n1_ n2_ n3_ n4_ n5_ n6_; clear hb hbox hg; have hnb4 := NB101_102.out; have hnc4 := NB102_101.out; obtain ⟨z5_0, z5_1, z5_2, z5_3, z5_4, z5_5, z5_6, z5_7, f5_0, f5_1, f5_2, f5_3, f5_4, f5_5, f5_6, f5_7⟩ := bc8_ BK101.out; obtain ⟨z6_0, z6_1, z6_2, z6_3, z6_4, z6_5, z6_6, z6_7, f6_0, f6_1, f6_2, f6_3, f6_4, f6_5, f6_6, f6_7⟩ := bc8_ BK102.out))
 refine bodyPost_ret (results_cell_row rfl _ _ gb102 44 #[.int .i64 a0_0, .string a0_1, .string a0_2, .int .u64 a0_3, .int .u64 a0_4, .string a0_5, .string a0_6, .bool a0_7] (0, 0) _ rfl (bz_ BK102.out) Try.underlying44 rfl (by kernel_rfl)) rfl ?_
 exact ⟨by first | rfl | (simp [errW_none, errW_some] <;> rfl) | (simp [*, errW_none, errW_some] <;> rfl), by repeat (first | (with_reducible first | exact HB.out | apply below_alloc | apply pw_below_drewN | apply below_drew1 | refine below_set ?_ GE101.out | refine below_set ?_ GE102.out) | exact HB.out)⟩
/-! ### parchmentref01_Leaf: function 53 -/
def parchmentref01_Leaf.f (a0 : ByteArray) : Option (ByteArray) := if 1 + a0.size ≤ 9223372036854775807 then ((Dig.parchmentref01_Sum.f ((⟨#[0]⟩ : ByteArray) ++ a0)).bind fun t111 => (some t111)) else (none)
set_option maxHeartbeats 8000000 in
set_option maxRecDepth 100000 in
theorem parchmentref01_Leaf.calls (a0 : ByteArray) (r : ByteArray) (w : World) (h : parchmentref01_Leaf.f a0 = some r) :
  Calls Try.prog 53 #[.string a0] w fun e w' => e = .returned (.string r) ∧ Below w.heap.size w w' := by
 have HB := Aside0.mk (Below.refl w.heap.size w)
 have H : (if 1 + a0.size ≤ 9223372036854775807 then ((Dig.parchmentref01_Sum.f ((⟨#[0]⟩ : ByteArray) ++ a0)).bind fun t111 => (some t111)) else (none)) = some r := h
 clear h
 by_cases c2 : 1 + a0.size ≤ 9223372036854775807
 ·rw [if_pos c2] at H
  have c2b0 := eq_true c2
  have c2b1 : decide (1 + a0.size ≤ 9223372036854775807) = true := decide_eq_true c2
  try have c2b2 : (9223372036854775807 < 1 + a0.size) = False := eq_false (Nat.not_lt.2 c2)
  replace H := Option.bind_eq_some_iff.mp H
  obtain ⟨t111, A30, H⟩ := H
  replace H : (some t111) = some r := H
  have A3 := Aside0.mk A30
  clear A30
  obtain rfl := Option.some.inj H
  go_enter Try.func53, Try.ntmps53
  go_wp2_with (first | ((with_reducible refine gate_callee (f := 54) rfl ?_); refine gl_ (some 5) Try.func54 #[.string ((⟨#[0]⟩ : ByteArray) ++ a0)] ?_; (with_reducible refine (Dig.parchmentref01_Sum.calls ((⟨#[0]⟩ : ByteArray) ++ a0) t111 _ A3.out).mono ?_); rintro e w4 ⟨rfl, hb⟩; refine ⟨_, rfl, ?_⟩; replace HB := Aside0.mk (below_step (bh_ HB.out) hb); (try clear hb)))
  go_ret
  exact ⟨by first | rfl | (simp [errW_none, errW_some] <;> rfl) | (simp [*, errW_none, errW_some] <;> rfl), by repeat (first | (with_reducible first | exact HB.out | apply below_alloc | apply pw_below_drewN | apply below_drew1) | exact HB.out)⟩
 ·rw [if_neg c2] at H
  exact absurd H (by simp)
/-! ### parchmentref03_Name: function 75 -/
def parchmentref03_Name.l0 : Nat → ByteArray → Int → Option (Bool)
 | 0, _, _ => none
 | k + 1, x0, x3 => if x3 < (x0.size : Int) then (if 0 ≤ x3 then (if (bt x0 x3) = 95 then (if (bt x0 x3) ≥ 48 then (parchmentref03_Name.l0 k x0 (wrap64 (x3 + 1))) else (parchmentref03_Name.l0 k x0 (wrap64 (x3 + 1)))) else (if (bt x0 x3) ≥ 65 then (if (bt x0 x3) ≤ 90 then (if (bt x0 x3) ≥ 48 then (parchmentref03_Name.l0 k x0 (wrap64 (x3 + 1))) else (parchmentref03_Name.l0 k x0 (wrap64 (x3 + 1)))) else (if (bt x0 x3) ≥ 97 then (if (bt x0 x3) ≥ 48 then (if (bt x0 x3) ≤ 122 then (parchmentref03_Name.l0 k x0 (wrap64 (x3 + 1))) else (if (bt x0 x3) ≤ 57 then (if x3 = 0 then (some false) else (parchmentref03_Name.l0 k x0 (wrap64 (x3 + 1)))) else (some false))) else (if (bt x0 x3) ≤ 122 then (parchmentref03_Name.l0 k x0 (wrap64 (x3 + 1))) else (some false))) else (if (bt x0 x3) ≥ 48 then (if (bt x0 x3) ≤ 57 then (if x3 = 0 then (some false) else (parchmentref03_Name.l0 k x0 (wrap64 (x3 + 1)))) else (some false)) else (some false)))) else (if (bt x0 x3) ≥ 97 then (if (bt x0 x3) ≥ 48 then (if (bt x0 x3) ≤ 122 then (parchmentref03_Name.l0 k x0 (wrap64 (x3 + 1))) else (if (bt x0 x3) ≤ 57 then (if x3 = 0 then (some false) else (parchmentref03_Name.l0 k x0 (wrap64 (x3 + 1)))) else (some false))) else (if (bt x0 x3) ≤ 122 then (parchmentref03_Name.l0 k x0 (wrap64 (x3 + 1))) else (some false))) else (if (bt x0 x3) ≥ 48 then (if (bt x0 x3) ≤ 57 then (if x3 = 0 then (some false) else (parchmentref03_Name.l0 k x0 (wrap64 (x3 + 1)))) else (some false)) else (some false))))) else (none)) else (if (x0.size : Int) > 0 then (some (decide ((x0.size : Int) < 17))) else (some false))
def parchmentref03_Name.f (k : Nat) (a0 : ByteArray) : Option (Bool) := parchmentref03_Name.l0 k a0 0
set_option maxHeartbeats 8000000 in
set_option maxRecDepth 100000 in
theorem parchmentref03_Name.calls (k : Nat) (a0 : ByteArray) (r : Bool) (w : World) (h : parchmentref03_Name.f k a0 = some r) :
  Calls Try.prog 75 #[.string a0] w fun e w' => e = .returned (.bool r) ∧ Drawn0 w w' := by
 have H : (parchmentref03_Name.l0 k a0 0) = some r := h
 clear h
 have H' := Aside0.mk H
 clear H
 go_enter Try.func75, Try.ntmps75
 go_wp2
 go_loopg [3] k (fun kq v3 w' => ∃ (x3_1 : Int), v3 = .int .i64 x3_1 ∧ Aside0 (parchmentref03_Name.l0 kq a0 x3_1 = some r) ∧ Aside0 (kq ≤ k) ∧ Drawn0 w w')
 case atStart => exact ⟨(0), (by first | rfl | (simp; done) | (simp [*]; done)), H', ⟨Nat.le_refl _⟩, by repeat (first | exact Drawn0.refl _ | apply Drawn0.step)⟩
 case round =>
  clear H'
  obtain ⟨x3_1, rfl, HA, HK1, ⟨m1, rfl⟩⟩ := hrel
  cases gk with
  | zero => exact absurd HA.out (by simp [parchmentref03_Name.l0])
  | succ k1 =>
   have H := HA.out
   clear HA
   simp only [parchmentref03_Name.l0] at H
   by_cases c2 : x3_1 < (a0.size : Int)
   ·rw [if_pos c2] at H
    have c2b0 : decide (x3_1 < (a0.size : Int)) = true := decide_eq_true c2
    clear c2
    by_cases c3 : 0 ≤ x3_1
    ·rw [if_pos c3] at H
     have c3b0 : decide (0 ≤ x3_1) = true := decide_eq_true c3
     clear c3
     by_cases c5 : (bt a0 x3_1) = 95
     ·rw [if_pos c5] at H
      have c5b0 : ((bt a0 x3_1) == 95) = true := beq_iff_eq.mpr c5
      have c5b1 : ((bt a0 x3_1) != 95) = false := bne_eq_false_iff_eq.mpr c5
      clear c5
      by_cases c6 : (bt a0 x3_1) ≥ 48
      ·rw [if_pos c6] at H
       have c6b0 : decide (48 ≤ (bt a0 x3_1)) = true := decide_eq_true c6
       clear c6
       have H' := Aside0.mk H
       clear H
       have p4 : 0 ≤ (x3_1 : Int) := of_decide_eq_true (by first | (with_reducible assumption) | assumption)
       have q4 : x3_1 < (a0.size : Int) := of_decide_eq_true (by first | (with_reducible assumption) | assumption)
       have hx4 := bt_at a0 x3_1
       replace p4 := eq_true p4
       replace q4 := eq_true q4
       go_wp2
       go_roundg k1
       case measure => have := HK1.out; omega
       case rel => exact ⟨(wrap64 (x3_1 + 1)), (by first | rfl | (simp; done) | (simp [*]; done)), H', ⟨by have := HK1.out; omega⟩, by repeat (first | exact Drawn0.refl _ | apply Drawn0.step)⟩
      ·rw [if_neg c6] at H
       have c6b0 : decide (48 ≤ (bt a0 x3_1)) = false := decide_eq_false c6
       clear c6
       have H' := Aside0.mk H
       clear H
       have p4 : 0 ≤ (x3_1 : Int) := of_decide_eq_true (by first | (with_reducible assumption) | assumption)
       have q4 : x3_1 < (a0.size : Int) := of_decide_eq_true (by first | (with_reducible assumption) | assumption)
       have hx4 := bt_at a0 x3_1
       replace p4 := eq_true p4
       replace q4 := eq_true q4
       go_wp2
       go_roundg k1
       case measure => have := HK1.out; omega
       case rel => exact ⟨(wrap64 (x3_1 + 1)), (by first | rfl | (simp; done) | (simp [*]; done)), H', ⟨by have := HK1.out; omega⟩, by repeat (first | exact Drawn0.refl _ | apply Drawn0.step)⟩
     ·rw [if_neg c5] at H
      have c5b0 : ((bt a0 x3_1) == 95) = false := beq_eq_false_iff_ne.mpr c5
      have c5b1 : ((bt a0 x3_1) != 95) = true := bne_iff_ne.mpr c5
      by_cases c7 : (bt a0 x3_1) ≥ 65
      ·rw [if_pos c7] at H
       have c7b0 : decide (65 ≤ (bt a0 x3_1)) = true := decide_eq_true c7
       clear c7
       by_cases c8 : (bt a0 x3_1) ≤ 90
       ·rw [if_pos c8] at H
        have c8b0 : decide ((bt a0 x3_1) ≤ 90) = true := decide_eq_true c8
        clear c8
        by_cases c9 : (bt a0 x3_1) ≥ 48
        ·rw [if_pos c9] at H
         have c9b0 : decide (48 ≤ (bt a0 x3_1)) = true := decide_eq_true c9
         clear c9
         have H' := Aside0.mk H
         clear H
         have p4 : 0 ≤ (x3_1 : Int) := of_decide_eq_true (by first | (with_reducible assumption) | assumption)
         have q4 : x3_1 < (a0.size : Int) := of_decide_eq_true (by first | (with_reducible assumption) | assumption)
         have hx4 := bt_at a0 x3_1
         replace p4 := eq_true p4
         replace q4 := eq_true q4
         go_wp2
         go_roundg k1
         case measure => have := HK1.out; omega
         case rel => exact ⟨(wrap64 (x3_1 + 1)), (by first | rfl | (simp; done) | (simp [*]; done)), H', ⟨by have := HK1.out; omega⟩, by repeat (first | exact Drawn0.refl _ | apply Drawn0.step)⟩
        ·rw [if_neg c9] at H
         have c9b0 : decide (48 ≤ (bt a0 x3_1)) = false := decide_eq_false c9
         clear c9
         have H' := Aside0.mk H
         clear H
         have p4 : 0 ≤ (x3_1 : Int) := of_decide_eq_true (by first | (with_reducible assumption) | assumption)
         have q4 : x3_1 < (a0.size : Int) := of_decide_eq_true (by first | (with_reducible assumption) | assumption)
         have hx4 := bt_at a0 x3_1
         replace p4 := eq_true p4
         replace q4 := eq_true q4
         go_wp2
         go_roundg k1
         case measure => have := HK1.out; omega
         case rel => exact ⟨(wrap64 (x3_1 + 1)), (by first | rfl | (simp; done) | (simp [*]; done)), H', ⟨by have := HK1.out; omega⟩, by repeat (first | exact Drawn0.refl _ | apply Drawn0.step)⟩
       ·rw [if_neg c8] at H
        have c8b0 : decide ((bt a0 x3_1) ≤ 90) = false := decide_eq_false c8
        clear c8
        by_cases c10 : (bt a0 x3_1) ≥ 97
        ·rw [if_pos c10] at H
         have c10b0 : decide (97 ≤ (bt a0 x3_1)) = true := decide_eq_true c10
         clear c10
         by_cases c11 : (bt a0 x3_1) ≥ 48
         ·rw [if_pos c11] at H
          have c11b0 : decide (48 ≤ (bt a0 x3_1)) = true := decide_eq_true c11
          clear c11
          by_cases c12 : (bt a0 x3_1) ≤ 122
          ·rw [if_pos c12] at H
           have c12b0 : decide ((bt a0 x3_1) ≤ 122) = true := decide_eq_true c12
           clear c12
           have H' := Aside0.mk H
           clear H
           have p4 : 0 ≤ (x3_1 : Int) := of_decide_eq_true (by first | (with_reducible assumption) | assumption)
           have q4 : x3_1 < (a0.size : Int) := of_decide_eq_true (by first | (with_reducible assumption) | assumption)
           have hx4 := bt_at a0 x3_1
           replace p4 := eq_true p4
           replace q4 := eq_true q4
           go_wp2
           go_roundg k1
           case measure => have := HK1.out; omega
           case rel => exact ⟨(wrap64 (x3_1 + 1)), (by first | rfl | (simp; done) | (simp [*]; done)), H', ⟨by have := HK1.out; omega⟩, by repeat (first | exact Drawn0.refl _ | apply Drawn0.step)⟩
          ·rw [if_neg c12] at H
           have c12b0 : decide ((bt a0 x3_1) ≤ 122) = false := decide_eq_false c12
           clear c12
           by_cases c13 : (bt a0 x3_1) ≤ 57
           ·rw [if_pos c13] at H
            have c13b0 : decide ((bt a0 x3_1) ≤ 57) = true := decide_eq_true c13
            clear c13
            by_cases c14 : x3_1 = 0
            ·rw [if_pos c14] at H
             have c14b0 : (x3_1 == 0) = true := beq_iff_eq.mpr c14
             have c14b1 : (x3_1 != 0) = false := bne_eq_false_iff_eq.mpr c14
             clear c14
             obtain rfl := Option.some.inj H
             have p4 : 0 ≤ (x3_1 : Int) := of_decide_eq_true (by first | (with_reducible assumption) | assumption)
             have q4 : x3_1 < (a0.size : Int) := of_decide_eq_true (by first | (with_reducible assumption) | assumption)
             have hx4 := bt_at a0 x3_1
             replace p4 := eq_true p4
             replace q4 := eq_true q4
             go_wp2
             go_ret
             exact ⟨by first | rfl | (simp; done) | (simp [*]; done), by repeat (first | exact Drawn0.refl _ | apply Drawn0.step)⟩
            ·rw [if_neg c14] at H
             have c14b0 : (x3_1 == 0) = false := beq_eq_false_iff_ne.mpr c14
             have c14b1 : (x3_1 != 0) = true := bne_iff_ne.mpr c14
             have H' := Aside0.mk H
             clear H
             have p4 : 0 ≤ (x3_1 : Int) := of_decide_eq_true (by first | (with_reducible assumption) | assumption)
             have q4 : x3_1 < (a0.size : Int) := of_decide_eq_true (by first | (with_reducible assumption) | assumption)
             have hx4 := bt_at a0 x3_1
             replace p4 := eq_true p4
             replace q4 := eq_true q4
             go_wp2
             go_roundg k1
             case measure => have := HK1.out; omega
             case rel => exact ⟨(wrap64 (x3_1 + 1)), (by first | rfl | (simp; done) | (simp [*]; done)), H', ⟨by have := HK1.out; omega⟩, by repeat (first | exact Drawn0.refl _ | apply Drawn0.step)⟩
           ·rw [if_neg c13] at H
            have c13b0 : decide ((bt a0 x3_1) ≤ 57) = false := decide_eq_false c13
            clear c13
            obtain rfl := Option.some.inj H
            have p4 : 0 ≤ (x3_1 : Int) := of_decide_eq_true (by first | (with_reducible assumption) | assumption)
            have q4 : x3_1 < (a0.size : Int) := of_decide_eq_true (by first | (with_reducible assumption) | assumption)
            have hx4 := bt_at a0 x3_1
            replace p4 := eq_true p4
            replace q4 := eq_true q4
            go_wp2
            go_ret
            exact ⟨by first | rfl | (simp; done) | (simp [*]; done), by repeat (first | exact Drawn0.refl _ | apply Drawn0.step)⟩
         ·rw [if_neg c11] at H
          have c11b0 : decide (48 ≤ (bt a0 x3_1)) = false := decide_eq_false c11
          clear c11
          by_cases c15 : (bt a0 x3_1) ≤ 122
          ·rw [if_pos c15] at H
           have c15b0 : decide ((bt a0 x3_1) ≤ 122) = true := decide_eq_true c15
           clear c15
           have H' := Aside0.mk H
           clear H
           have p4 : 0 ≤ (x3_1 : Int) := of_decide_eq_true (by first | (with_reducible assumption) | assumption)
           have q4 : x3_1 < (a0.size : Int) := of_decide_eq_true (by first | (with_reducible assumption) | assumption)
           have hx4 := bt_at a0 x3_1
           replace p4 := eq_true p4
           replace q4 := eq_true q4
           go_wp2
           go_roundg k1
           case measure => have := HK1.out; omega
           case rel => exact ⟨(wrap64 (x3_1 + 1)), (by first | rfl | (simp; done) | (simp [*]; done)), H', ⟨by have := HK1.out; omega⟩, by repeat (first | exact Drawn0.refl _ | apply Drawn0.step)⟩
          ·rw [if_neg c15] at H
           have c15b0 : decide ((bt a0 x3_1) ≤ 122) = false := decide_eq_false c15
           clear c15
           obtain rfl := Option.some.inj H
           have p4 : 0 ≤ (x3_1 : Int) := of_decide_eq_true (by first | (with_reducible assumption) | assumption)
           have q4 : x3_1 < (a0.size : Int) := of_decide_eq_true (by first | (with_reducible assumption) | assumption)
           have hx4 := bt_at a0 x3_1
           replace p4 := eq_true p4
           replace q4 := eq_true q4
           go_wp2
           go_ret
           exact ⟨by first | rfl | (simp; done) | (simp [*]; done), by repeat (first | exact Drawn0.refl _ | apply Drawn0.step)⟩
        ·rw [if_neg c10] at H
         have c10b0 : decide (97 ≤ (bt a0 x3_1)) = false := decide_eq_false c10
         clear c10
         by_cases c16 : (bt a0 x3_1) ≥ 48
         ·rw [if_pos c16] at H
          have c16b0 : decide (48 ≤ (bt a0 x3_1)) = true := decide_eq_true c16
          clear c16
          by_cases c17 : (bt a0 x3_1) ≤ 57
          ·rw [if_pos c17] at H
           have c17b0 : decide ((bt a0 x3_1) ≤ 57) = true := decide_eq_true c17
           clear c17
           by_cases c18 : x3_1 = 0
           ·rw [if_pos c18] at H
            have c18b0 : (x3_1 == 0) = true := beq_iff_eq.mpr c18
            have c18b1 : (x3_1 != 0) = false := bne_eq_false_iff_eq.mpr c18
            clear c18
            obtain rfl := Option.some.inj H
            have p4 : 0 ≤ (x3_1 : Int) := of_decide_eq_true (by first | (with_reducible assumption) | assumption)
            have q4 : x3_1 < (a0.size : Int) := of_decide_eq_true (by first | (with_reducible assumption) | assumption)
            have hx4 := bt_at a0 x3_1
            replace p4 := eq_true p4
            replace q4 := eq_true q4
            go_wp2
            go_ret
            exact ⟨by first | rfl | (simp; done) | (simp [*]; done), by repeat (first | exact Drawn0.refl _ | apply Drawn0.step)⟩
           ·rw [if_neg c18] at H
            have c18b0 : (x3_1 == 0) = false := beq_eq_false_iff_ne.mpr c18
            have c18b1 : (x3_1 != 0) = true := bne_iff_ne.mpr c18
            have H' := Aside0.mk H
            clear H
            have p4 : 0 ≤ (x3_1 : Int) := of_decide_eq_true (by first | (with_reducible assumption) | assumption)
            have q4 : x3_1 < (a0.size : Int) := of_decide_eq_true (by first | (with_reducible assumption) | assumption)
            have hx4 := bt_at a0 x3_1
            replace p4 := eq_true p4
            replace q4 := eq_true q4
            go_wp2
            go_roundg k1
            case measure => have := HK1.out; omega
            case rel => exact ⟨(wrap64 (x3_1 + 1)), (by first | rfl | (simp; done) | (simp [*]; done)), H', ⟨by have := HK1.out; omega⟩, by repeat (first | exact Drawn0.refl _ | apply Drawn0.step)⟩
          ·rw [if_neg c17] at H
           have c17b0 : decide ((bt a0 x3_1) ≤ 57) = false := decide_eq_false c17
           clear c17
           obtain rfl := Option.some.inj H
           have p4 : 0 ≤ (x3_1 : Int) := of_decide_eq_true (by first | (with_reducible assumption) | assumption)
           have q4 : x3_1 < (a0.size : Int) := of_decide_eq_true (by first | (with_reducible assumption) | assumption)
           have hx4 := bt_at a0 x3_1
           replace p4 := eq_true p4
           replace q4 := eq_true q4
           go_wp2
           go_ret
           exact ⟨by first | rfl | (simp; done) | (simp [*]; done), by repeat (first | exact Drawn0.refl _ | apply Drawn0.step)⟩
         ·rw [if_neg c16] at H
          have c16b0 : decide (48 ≤ (bt a0 x3_1)) = false := decide_eq_false c16
          clear c16
          obtain rfl := Option.some.inj H
          have p4 : 0 ≤ (x3_1 : Int) := of_decide_eq_true (by first | (with_reducible assumption) | assumption)
          have q4 : x3_1 < (a0.size : Int) := of_decide_eq_true (by first | (with_reducible assumption) | assumption)
          have hx4 := bt_at a0 x3_1
          replace p4 := eq_true p4
          replace q4 := eq_true q4
          go_wp2
          go_ret
          exact ⟨by first | rfl | (simp; done) | (simp [*]; done), by repeat (first | exact Drawn0.refl _ | apply Drawn0.step)⟩
      ·rw [if_neg c7] at H
       have c7b0 : decide (65 ≤ (bt a0 x3_1)) = false := decide_eq_false c7
       clear c7
       by_cases c19 : (bt a0 x3_1) ≥ 97
       ·rw [if_pos c19] at H
        have c19b0 : decide (97 ≤ (bt a0 x3_1)) = true := decide_eq_true c19
        clear c19
        by_cases c20 : (bt a0 x3_1) ≥ 48
        ·rw [if_pos c20] at H
         have c20b0 : decide (48 ≤ (bt a0 x3_1)) = true := decide_eq_true c20
         clear c20
         by_cases c21 : (bt a0 x3_1) ≤ 122
         ·rw [if_pos c21] at H
          have c21b0 : decide ((bt a0 x3_1) ≤ 122) = true := decide_eq_true c21
          clear c21
          have H' := Aside0.mk H
          clear H
          have p4 : 0 ≤ (x3_1 : Int) := of_decide_eq_true (by first | (with_reducible assumption) | assumption)
          have q4 : x3_1 < (a0.size : Int) := of_decide_eq_true (by first | (with_reducible assumption) | assumption)
          have hx4 := bt_at a0 x3_1
          replace p4 := eq_true p4
          replace q4 := eq_true q4
          go_wp2
          go_roundg k1
          case measure => have := HK1.out; omega
          case rel => exact ⟨(wrap64 (x3_1 + 1)), (by first | rfl | (simp; done) | (simp [*]; done)), H', ⟨by have := HK1.out; omega⟩, by repeat (first | exact Drawn0.refl _ | apply Drawn0.step)⟩
         ·rw [if_neg c21] at H
          have c21b0 : decide ((bt a0 x3_1) ≤ 122) = false := decide_eq_false c21
          clear c21
          by_cases c22 : (bt a0 x3_1) ≤ 57
          ·rw [if_pos c22] at H
           have c22b0 : decide ((bt a0 x3_1) ≤ 57) = true := decide_eq_true c22
           clear c22
           by_cases c23 : x3_1 = 0
           ·rw [if_pos c23] at H
            have c23b0 : (x3_1 == 0) = true := beq_iff_eq.mpr c23
            have c23b1 : (x3_1 != 0) = false := bne_eq_false_iff_eq.mpr c23
            clear c23
            obtain rfl := Option.some.inj H
            have p4 : 0 ≤ (x3_1 : Int) := of_decide_eq_true (by first | (with_reducible assumption) | assumption)
            have q4 : x3_1 < (a0.size : Int) := of_decide_eq_true (by first | (with_reducible assumption) | assumption)
            have hx4 := bt_at a0 x3_1
            replace p4 := eq_true p4
            replace q4 := eq_true q4
            go_wp2
            go_ret
            exact ⟨by first | rfl | (simp; done) | (simp [*]; done), by repeat (first | exact Drawn0.refl _ | apply Drawn0.step)⟩
           ·rw [if_neg c23] at H
            have c23b0 : (x3_1 == 0) = false := beq_eq_false_iff_ne.mpr c23
            have c23b1 : (x3_1 != 0) = true := bne_iff_ne.mpr c23
            have H' := Aside0.mk H
            clear H
            have p4 : 0 ≤ (x3_1 : Int) := of_decide_eq_true (by first | (with_reducible assumption) | assumption)
            have q4 : x3_1 < (a0.size : Int) := of_decide_eq_true (by first | (with_reducible assumption) | assumption)
            have hx4 := bt_at a0 x3_1
            replace p4 := eq_true p4
            replace q4 := eq_true q4
            go_wp2
            go_roundg k1
            case measure => have := HK1.out; omega
            case rel => exact ⟨(wrap64 (x3_1 + 1)), (by first | rfl | (simp; done) | (simp [*]; done)), H', ⟨by have := HK1.out; omega⟩, by repeat (first | exact Drawn0.refl _ | apply Drawn0.step)⟩
          ·rw [if_neg c22] at H
           have c22b0 : decide ((bt a0 x3_1) ≤ 57) = false := decide_eq_false c22
           clear c22
           obtain rfl := Option.some.inj H
           have p4 : 0 ≤ (x3_1 : Int) := of_decide_eq_true (by first | (with_reducible assumption) | assumption)
           have q4 : x3_1 < (a0.size : Int) := of_decide_eq_true (by first | (with_reducible assumption) | assumption)
           have hx4 := bt_at a0 x3_1
           replace p4 := eq_true p4
           replace q4 := eq_true q4
           go_wp2
           go_ret
           exact ⟨by first | rfl | (simp; done) | (simp [*]; done), by repeat (first | exact Drawn0.refl _ | apply Drawn0.step)⟩
        ·rw [if_neg c20] at H
         have c20b0 : decide (48 ≤ (bt a0 x3_1)) = false := decide_eq_false c20
         clear c20
         by_cases c24 : (bt a0 x3_1) ≤ 122
         ·rw [if_pos c24] at H
          have c24b0 : decide ((bt a0 x3_1) ≤ 122) = true := decide_eq_true c24
          clear c24
          have H' := Aside0.mk H
          clear H
          have p4 : 0 ≤ (x3_1 : Int) := of_decide_eq_true (by first | (with_reducible assumption) | assumption)
          have q4 : x3_1 < (a0.size : Int) := of_decide_eq_true (by first | (with_reducible assumption) | assumption)
          have hx4 := bt_at a0 x3_1
          replace p4 := eq_true p4
          replace q4 := eq_true q4
          go_wp2
          go_roundg k1
          case measure => have := HK1.out; omega
          case rel => exact ⟨(wrap64 (x3_1 + 1)), (by first | rfl | (simp; done) | (simp [*]; done)), H', ⟨by have := HK1.out; omega⟩, by repeat (first | exact Drawn0.refl _ | apply Drawn0.step)⟩
         ·rw [if_neg c24] at H
          have c24b0 : decide ((bt a0 x3_1) ≤ 122) = false := decide_eq_false c24
          clear c24
          obtain rfl := Option.some.inj H
          have p4 : 0 ≤ (x3_1 : Int) := of_decide_eq_true (by first | (with_reducible assumption) | assumption)
          have q4 : x3_1 < (a0.size : Int) := of_decide_eq_true (by first | (with_reducible assumption) | assumption)
          have hx4 := bt_at a0 x3_1
          replace p4 := eq_true p4
          replace q4 := eq_true q4
          go_wp2
          go_ret
          exact ⟨by first | rfl | (simp; done) | (simp [*]; done), by repeat (first | exact Drawn0.refl _ | apply Drawn0.step)⟩
       ·rw [if_neg c19] at H
        have c19b0 : decide (97 ≤ (bt a0 x3_1)) = false := decide_eq_false c19
        clear c19
        by_cases c25 : (bt a0 x3_1) ≥ 48
        ·rw [if_pos c25] at H
         have c25b0 : decide (48 ≤ (bt a0 x3_1)) = true := decide_eq_true c25
         clear c25
         by_cases c26 : (bt a0 x3_1) ≤ 57
         ·rw [if_pos c26] at H
          have c26b0 : decide ((bt a0 x3_1) ≤ 57) = true := decide_eq_true c26
          clear c26
          by_cases c27 : x3_1 = 0
          ·rw [if_pos c27] at H
           have c27b0 : (x3_1 == 0) = true := beq_iff_eq.mpr c27
           have c27b1 : (x3_1 != 0) = false := bne_eq_false_iff_eq.mpr c27
           clear c27
           obtain rfl := Option.some.inj H
           have p4 : 0 ≤ (x3_1 : Int) := of_decide_eq_true (by first | (with_reducible assumption) | assumption)
           have q4 : x3_1 < (a0.size : Int) := of_decide_eq_true (by first | (with_reducible assumption) | assumption)
           have hx4 := bt_at a0 x3_1
           replace p4 := eq_true p4
           replace q4 := eq_true q4
           go_wp2
           go_ret
           exact ⟨by first | rfl | (simp; done) | (simp [*]; done), by repeat (first | exact Drawn0.refl _ | apply Drawn0.step)⟩
          ·rw [if_neg c27] at H
           have c27b0 : (x3_1 == 0) = false := beq_eq_false_iff_ne.mpr c27
           have c27b1 : (x3_1 != 0) = true := bne_iff_ne.mpr c27
           have H' := Aside0.mk H
           clear H
           have p4 : 0 ≤ (x3_1 : Int) := of_decide_eq_true (by first | (with_reducible assumption) | assumption)
           have q4 : x3_1 < (a0.size : Int) := of_decide_eq_true (by first | (with_reducible assumption) | assumption)
           have hx4 := bt_at a0 x3_1
           replace p4 := eq_true p4
           replace q4 := eq_true q4
           go_wp2
           go_roundg k1
           case measure => have := HK1.out; omega
           case rel => exact ⟨(wrap64 (x3_1 + 1)), (by first | rfl | (simp; done) | (simp [*]; done)), H', ⟨by have := HK1.out; omega⟩, by repeat (first | exact Drawn0.refl _ | apply Drawn0.step)⟩
         ·rw [if_neg c26] at H
          have c26b0 : decide ((bt a0 x3_1) ≤ 57) = false := decide_eq_false c26
          clear c26
          obtain rfl := Option.some.inj H
          have p4 : 0 ≤ (x3_1 : Int) := of_decide_eq_true (by first | (with_reducible assumption) | assumption)
          have q4 : x3_1 < (a0.size : Int) := of_decide_eq_true (by first | (with_reducible assumption) | assumption)
          have hx4 := bt_at a0 x3_1
          replace p4 := eq_true p4
          replace q4 := eq_true q4
          go_wp2
          go_ret
          exact ⟨by first | rfl | (simp; done) | (simp [*]; done), by repeat (first | exact Drawn0.refl _ | apply Drawn0.step)⟩
        ·rw [if_neg c25] at H
         have c25b0 : decide (48 ≤ (bt a0 x3_1)) = false := decide_eq_false c25
         clear c25
         obtain rfl := Option.some.inj H
         have p4 : 0 ≤ (x3_1 : Int) := of_decide_eq_true (by first | (with_reducible assumption) | assumption)
         have q4 : x3_1 < (a0.size : Int) := of_decide_eq_true (by first | (with_reducible assumption) | assumption)
         have hx4 := bt_at a0 x3_1
         replace p4 := eq_true p4
         replace q4 := eq_true q4
         go_wp2
         go_ret
         exact ⟨by first | rfl | (simp; done) | (simp [*]; done), by repeat (first | exact Drawn0.refl _ | apply Drawn0.step)⟩
    ·rw [if_neg c3] at H
     exact absurd H (by simp)
   ·rw [if_neg c2] at H
    have c2b0 : decide (x3_1 < (a0.size : Int)) = false := decide_eq_false c2
    clear c2
    by_cases c28 : (a0.size : Int) > 0
    ·rw [if_pos c28] at H
     have c28b0 : decide (0 < (a0.size : Int)) = true := decide_eq_true c28
     have c28b1 : decide (0 < a0.size) = true := decide_eq_true (by omega)
     clear c28
     obtain rfl := Option.some.inj H
     go_wp2
     go_ret
     exact ⟨by first | rfl | (simp; done) | (simp [*]; done), by repeat (first | exact Drawn0.refl _ | apply Drawn0.step)⟩
    ·rw [if_neg c28] at H
     have c28b0 : decide (0 < (a0.size : Int)) = false := decide_eq_false c28
     have c28b1 : decide (0 < a0.size) = false := decide_eq_false (by omega)
     clear c28
     obtain rfl := Option.some.inj H
     go_wp2
     go_ret
     exact ⟨by first | rfl | (simp; done) | (simp [*]; done), by repeat (first | exact Drawn0.refl _ | apply Drawn0.step)⟩
end Go.Proofs.Ytdcbacbilncnnaa.PMk
end
