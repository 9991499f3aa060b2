/- Blocks mixed in one behind the other, and what a reference reckons otherwise: plain Lean, no program. -/

/- SHA-256 in plain Lean over words of 32 bits, and the same over natural numbers for the kernel. No program here. -/
namespace Go.Proofs.Ytnipbdlljfifhaa.Sha

def rotr (x n m : UInt32) : UInt32 := (x <<< m) ||| (x >>> n)

structure St where
  a : UInt32
  b : UInt32
  c : UInt32
  d : UInt32
  e : UInt32
  f : UInt32
  g : UInt32
  h : UInt32

def rT (s : St) (k w : UInt32) : UInt32 :=
  s.h + (rotr s.e 6 26 ^^^ rotr s.e 11 21 ^^^ rotr s.e 25 7) + ((s.e &&& s.f) ^^^ (~~~s.e &&& s.g)) + k + w
def rU (s : St) : UInt32 :=
  (rotr s.a 2 30 ^^^ rotr s.a 13 19 ^^^ rotr s.a 22 10) + ((s.a &&& s.b) ^^^ (s.a &&& s.c) ^^^ (s.b &&& s.c))
def rnd (s : St) (k w : UInt32) : St := ⟨rT s k w + rU s, s.a, s.b, s.c, s.d + rT s k w, s.e, s.f, s.g⟩

def keyNats : List Nat := [
    1116352408, 1899447441, 3049323471, 3921009573, 961987163, 1508970993, 2453635748, 2870763221,
    3624381080, 310598401, 607225278, 1426881987, 1925078388, 2162078206, 2614888103, 3248222580,
    3835390401, 4022224774, 264347078, 604807628, 770255983, 1249150122, 1555081692, 1996064986,
    2554220882, 2821834349, 2952996808, 3210313671, 3336571891, 3584528711, 113926993, 338241895,
    666307205, 773529912, 1294757372, 1396182291, 1695183700, 1986661051, 2177026350, 2456956037,
    2730485921, 2820302411, 3259730800, 3345764771, 3516065817, 3600352804, 4094571909, 275423344,
    430227734, 506948616, 659060556, 883997877, 958139571, 1322822218, 1537002063, 1747873779,
    1955562222, 2024104815, 2227730452, 2361852424, 2428436474, 2756734187, 3204031479, 3329325298]
def keys : List UInt32 := keyNats.map UInt32.ofNat

def start : St := ⟨1779033703, 3144134277, 1013904242, 2773480762, 1359893119, 2600822924, 528734635, 1541459225⟩

/-- Word i of a list of words; byte i of a list of bytes, as a word. -/
def at_ (l : List UInt32) (i : Nat) : UInt32 := l.getD i 0
def byte (l : List UInt8) (i : Nat) : UInt32 := (l.getD i 0).toUInt32

def word (s : List UInt8) (i : Nat) : UInt32 :=
  byte s (4 * i) <<< 24 ||| byte s (4 * i + 1) <<< 16 ||| byte s (4 * i + 2) <<< 8 ||| byte s (4 * i + 3)
def w16 (s : List UInt8) : List UInt32 := (List.range 16).map (word s)
def next (w : List UInt32) (i : Nat) : UInt32 :=
  at_ w (i - 16) + (rotr (at_ w (i - 15)) 7 25 ^^^ rotr (at_ w (i - 15)) 18 14 ^^^ (at_ w (i - 15)) >>> 3) + at_ w (i - 7)
    + (rotr (at_ w (i - 2)) 17 15 ^^^ rotr (at_ w (i - 2)) 19 13 ^^^ (at_ w (i - 2)) >>> 10)
/-- The words of a block, grown: of 16 + n words. -/
def grow (w : List UInt32) : Nat → List UInt32
  | 0 => w
  | n + 1 => grow w n ++ [next (grow w n) (16 + n)]
def spread (s : List UInt8) : List UInt32 := grow (w16 s) 48
def rnds (w : List UInt32) (h : St) : Nat → St
  | 0 => h
  | n + 1 => rnd (rnds w h n) (at_ keys n) (at_ w n)
def addSt (x y : St) : St := ⟨x.a + y.a, x.b + y.b, x.c + y.c, x.d + y.d, x.e + y.e, x.f + y.f, x.g + y.g, x.h + y.h⟩
def mix (h : St) (s : List UInt8) : St := addSt (rnds (spread s) h 64) h

def St.l (x : St) : List UInt32 := [x.a, x.b, x.c, x.d, x.e, x.f, x.g, x.h]
def be (x : UInt32) : List UInt8 := [(x >>> 24).toUInt8, (x >>> 16).toUInt8, (x >>> 8).toUInt8, x.toUInt8]
def out (x : St) : List UInt8 := x.l.flatMap be
/-- n blocks of bytes mixed in. -/
def blocks : Nat → St → List UInt8 → St
  | 0, h, _ => h
  | n + 1, h, l => blocks n (mix h (l.take 64)) (l.drop 64)
/-- How many bits n bytes are: 8 bytes, the highest first. -/
def bits8 (n : Nat) : List UInt8 := (List.range 8).map fun i => UInt8.ofNat (n * 8 / 2 ^ (8 * (7 - i)))
def pad (n : Nat) : List UInt8 := 128 :: (List.replicate ((119 - n % 64) % 64) 0 ++ bits8 n)
def sum (l : List UInt8) : List UInt8 := out (blocks ((l.length + 72) / 64) start (l ++ pad l.length))

/-! The same over natural numbers, each word forced as it comes. -/
namespace Ev
def rotr (x n m : Nat) : Nat := Nat.mod (Nat.lor (Nat.shiftLeft x m) (Nat.shiftRight x n)) 4294967296
structure S8 where
  a : Nat
  b : Nat
  c : Nat
  d : Nat
  e : Nat
  f : Nat
  g : Nat
  h : Nat
def rounds : List Nat → List Nat → Nat → Nat → Nat → Nat → Nat → Nat → Nat → Nat → S8
  | k :: ks, w :: ws, a, b, c, d, e, f, g, h =>
    let t := Nat.add (Nat.add (Nat.add (Nat.add h (Nat.xor (Nat.xor (rotr e 6 26) (rotr e 11 21)) (rotr e 25 7))) (Nat.xor (Nat.land e f) (Nat.land (Nat.sub 4294967295 e) g))) k) w
    let u := Nat.add (Nat.xor (Nat.xor (rotr a 2 30) (rotr a 13 19)) (rotr a 22 10)) (Nat.xor (Nat.xor (Nat.land a b) (Nat.land a c)) (Nat.land b c))
    let a' := Nat.mod (Nat.add t u) 4294967296
    let e' := Nat.mod (Nat.add d t) 4294967296
    bif Nat.ble a' 4294967296 then bif Nat.ble e' 4294967296 then rounds ks ws a' a b c e' e f g else ⟨0, 0, 0, 0, 0, 0, 0, 0⟩ else ⟨0, 0, 0, 0, 0, 0, 0, 0⟩
  | _, _, a, b, c, d, e, f, g, h => ⟨a, b, c, d, e, f, g, h⟩
/-- n words more, the newest first. -/
def grow : Nat → List Nat → List Nat
  | 0, l => l
  | n + 1, l =>
    let x := l.getD 14 0
    let y := l.getD 1 0
    let v := Nat.mod (Nat.add (Nat.add (Nat.add (l.getD 15 0) (Nat.xor (Nat.xor (rotr x 7 25) (rotr x 18 14)) (Nat.shiftRight x 3))) (l.getD 6 0)) (Nat.xor (Nat.xor (rotr y 17 15) (rotr y 19 13)) (Nat.shiftRight y 10))) 4294967296
    bif Nat.ble v 4294967296 then grow n (v :: l) else []
end Ev
namespace Ev
def words : List Nat → List Nat → List Nat
  | b0 :: b1 :: b2 :: b3 :: rest, acc =>
    let v := Nat.add (Nat.add (Nat.add (Nat.mul b0 16777216) (Nat.mul b1 65536)) (Nat.mul b2 256)) b3
    bif Nat.ble v 4294967296 then words rest (v :: acc) else []
  | _, acc => acc
def mix (h : S8) (bs : List Nat) : S8 :=
  let s := rounds keyNats (grow 48 (words bs [])).reverse h.a h.b h.c h.d h.e h.f h.g h.h
  ⟨Nat.mod (Nat.add s.a h.a) 4294967296, Nat.mod (Nat.add s.b h.b) 4294967296, Nat.mod (Nat.add s.c h.c) 4294967296, Nat.mod (Nat.add s.d h.d) 4294967296,
   Nat.mod (Nat.add s.e h.e) 4294967296, Nat.mod (Nat.add s.f h.f) 4294967296, Nat.mod (Nat.add s.g h.g) 4294967296, Nat.mod (Nat.add s.h h.h) 4294967296⟩
def blocks : Nat → S8 → List Nat → S8
  | 0, h, _ => h
  | n + 1, h, l => blocks n (mix h (l.take 64)) (l.drop 64)
def be (x : Nat) : List Nat := [Nat.mod (Nat.div x 16777216) 256, Nat.mod (Nat.div x 65536) 256, Nat.mod (Nat.div x 256) 256, Nat.mod x 256]
def start : S8 := ⟨1779033703, 3144134277, 1013904242, 2773480762, 1359893119, 2600822924, 528734635, 1541459225⟩
def out (s : S8) : List Nat := be s.a ++ (be s.b ++ (be s.c ++ (be s.d ++ (be s.e ++ (be s.f ++ (be s.g ++ be s.h))))))
def bits8 (n : Nat) : List Nat := [0, 0, 0, 0, Nat.mod (Nat.div (Nat.mul n 8) 16777216) 256, Nat.mod (Nat.div (Nat.mul n 8) 65536) 256, Nat.mod (Nat.div (Nat.mul n 8) 256) 256, Nat.mod (Nat.mul n 8) 256]
def sum (l : List Nat) : List Nat :=
  out (blocks ((l.length + 72) / 64) start (l ++ 128 :: (List.replicate ((119 - l.length % 64) % 64) 0 ++ bits8 l.length)))
end Ev

/-! What they have to do with each other. -/
def nats (l : List UInt32) : List Nat := l.map UInt32.toNat
def toS (s : St) : Ev.S8 := ⟨s.a.toNat, s.b.toNat, s.c.toNat, s.d.toNat, s.e.toNat, s.f.toNat, s.g.toNat, s.h.toNat⟩

theorem rotr_nat (x n m : UInt32) (hn : n.toNat < 32) (hm : m.toNat < 32) : (rotr x n m).toNat = Ev.rotr x.toNat n.toNat m.toNat := by
  have hx := x.toNat_lt
  show _ = ((x.toNat <<< m.toNat) ||| (x.toNat >>> n.toNat)) % 2 ^ 32
  rw [Nat.or_mod_two_pow]
  have h2 : x.toNat >>> n.toNat < 2 ^ 32 := by rw [Nat.shiftRight_eq_div_pow]; exact Nat.lt_of_le_of_lt (Nat.div_le_self _ _) hx
  rw [Nat.mod_eq_of_lt h2]
  simp only [rotr, UInt32.toNat_or, UInt32.toNat_shiftLeft, UInt32.toNat_shiftRight]
  rw [Nat.mod_eq_of_lt hn, Nat.mod_eq_of_lt hm]

theorem rT_nat (s : St) (k w : UInt32) : (rT s k w).toNat = (Nat.add (Nat.add (Nat.add (Nat.add s.h.toNat (Nat.xor (Nat.xor (Ev.rotr s.e.toNat 6 26) (Ev.rotr s.e.toNat 11 21)) (Ev.rotr s.e.toNat 25 7))) (Nat.xor (Nat.land s.e.toNat s.f.toNat) (Nat.land (Nat.sub 4294967295 s.e.toNat) s.g.toNat))) k.toNat) w.toNat) % 4294967296 := by
  have e1 := rotr_nat s.e 6 26 (by decide) (by decide)
  have e2 := rotr_nat s.e 11 21 (by decide) (by decide)
  have e3 := rotr_nat s.e 25 7 (by decide) (by decide)
  have hn : (~~~s.e).toNat = Nat.sub 4294967295 s.e.toNat := by
    rw [UInt32.toNat_not]; rfl
  simp only [rT, UInt32.toNat_add, UInt32.toNat_xor, UInt32.toNat_and, e1, e2, e3, hn]
  show _ = (s.h.toNat + _ + _ + k.toNat + w.toNat) % 4294967296
  simp only [Nat.mod_add_mod]
  rfl

theorem rU_nat (s : St) : (rU s).toNat = (Nat.add (Nat.xor (Nat.xor (Ev.rotr s.a.toNat 2 30) (Ev.rotr s.a.toNat 13 19)) (Ev.rotr s.a.toNat 22 10)) (Nat.xor (Nat.xor (Nat.land s.a.toNat s.b.toNat) (Nat.land s.a.toNat s.c.toNat)) (Nat.land s.b.toNat s.c.toNat))) % 4294967296 := by
  have e1 := rotr_nat s.a 2 30 (by decide) (by decide)
  have e2 := rotr_nat s.a 13 19 (by decide) (by decide)
  have e3 := rotr_nat s.a 22 10 (by decide) (by decide)
  simp only [rU, UInt32.toNat_add, UInt32.toNat_xor, UInt32.toNat_and, e1, e2, e3]
  rfl

theorem ble_of (n : Nat) : Nat.ble (Nat.mod n 4294967296) 4294967296 = true :=
  Nat.ble_eq_true_of_le (Nat.le_of_lt (Nat.mod_lt n (by decide)))

def fold : List UInt32 → List UInt32 → St → St
  | k :: ks, w :: ws, s => fold ks ws (rnd s k w)
  | _, _, s => s

theorem rounds_nat (ks : List UInt32) : ∀ (ws : List UInt32) (s : St),
    Ev.rounds (nats ks) (nats ws) s.a.toNat s.b.toNat s.c.toNat s.d.toNat s.e.toNat s.f.toNat s.g.toNat s.h.toNat = toS (fold ks ws s) := by
  induction ks with
  | nil => intro ws s; cases ws <;> rfl
  | cons k ks ih =>
    intro ws s
    cases ws with
    | nil => rfl
    | cons w ws =>
      have h := ih ws (rnd s k w)
      have ht := rT_nat s k w
      have hu := rU_nat s
      simp only [nats, List.map_cons, Ev.rounds, ble_of, cond_true, fold]
      have ea : (rnd s k w).a.toNat = Nat.mod (Nat.add (Nat.add (Nat.add (Nat.add (Nat.add s.h.toNat (Nat.xor (Nat.xor (Ev.rotr s.e.toNat 6 26) (Ev.rotr s.e.toNat 11 21)) (Ev.rotr s.e.toNat 25 7))) (Nat.xor (Nat.land s.e.toNat s.f.toNat) (Nat.land (Nat.sub 4294967295 s.e.toNat) s.g.toNat))) k.toNat) w.toNat) (Nat.add (Nat.xor (Nat.xor (Ev.rotr s.a.toNat 2 30) (Ev.rotr s.a.toNat 13 19)) (Ev.rotr s.a.toNat 22 10)) (Nat.xor (Nat.xor (Nat.land s.a.toNat s.b.toNat) (Nat.land s.a.toNat s.c.toNat)) (Nat.land s.b.toNat s.c.toNat)))) 4294967296 := by
        show (rT s k w + rU s).toNat = _
        rw [UInt32.toNat_add, ht, hu]
        exact (Nat.add_mod _ _ _).symm
      have ee : (rnd s k w).e.toNat = Nat.mod (Nat.add s.d.toNat (Nat.add (Nat.add (Nat.add (Nat.add s.h.toNat (Nat.xor (Nat.xor (Ev.rotr s.e.toNat 6 26) (Ev.rotr s.e.toNat 11 21)) (Ev.rotr s.e.toNat 25 7))) (Nat.xor (Nat.land s.e.toNat s.f.toNat) (Nat.land (Nat.sub 4294967295 s.e.toNat) s.g.toNat))) k.toNat) w.toNat)) 4294967296 := by
        show (s.d + rT s k w).toNat = _
        rw [UInt32.toNat_add, ht]
        exact Nat.add_mod_mod _ _ _
      rw [← h, ea, ee]
      rfl

theorem fold_snoc (k w : UInt32) : ∀ (ks ws : List UInt32) (s : St), ks.length = ws.length → fold (ks ++ [k]) (ws ++ [w]) s = rnd (fold ks ws s) k w := by
  intro ks
  induction ks with
  | nil => intro ws s h; cases ws with
    | nil => rfl
    | cons _ _ => simp at h
  | cons k' ks ih => intro ws s h; cases ws with
    | nil => simp at h
    | cons w' ws => simp only [List.cons_append, fold]; exact ih ws _ (by simpa using h)

theorem take_snoc_at (l : List UInt32) (n : Nat) (h : n < l.length) : l.take (n + 1) = l.take n ++ [at_ l n] := by
  rw [List.take_succ_eq_append_getElem h, at_, List.getD_eq_getElem?_getD, List.getElem?_eq_getElem h]; rfl

theorem rnds_fold (w : List UInt32) (h : St) : ∀ n, n ≤ keys.length → n ≤ w.length → rnds w h n = fold (keys.take n) (w.take n) h := by
  intro n
  induction n with
  | zero => intro _ _; simp [rnds, fold]
  | succ n ih =>
    intro h1 h2
    rw [take_snoc_at keys n (by omega), take_snoc_at w n (by omega), fold_snoc _ _ _ _ _ (by simp; omega), ← ih (by omega) (by omega)]
    rfl

theorem grow_length (w : List UInt32) (hw : w.length = 16) : ∀ n, (grow w n).length = 16 + n := by
  intro n
  induction n with
  | zero => simpa [grow] using hw
  | succ n ih => simp [grow, ih]; omega

theorem w16_length (s : List UInt8) : (w16 s).length = 16 := by simp [w16]
theorem spread_length (s : List UInt8) : (spread s).length = 64 := by rw [spread, grow_length _ (w16_length s)]
theorem keys_length : keys.length = 64 := rfl

theorem at_back (l : List UInt32) (i j : Nat) (h : i + j + 1 = l.length) : (nats l).reverse.getD i 0 = (at_ l j).toNat := by
  have h1 : i < (nats l).reverse.length := by simp [nats]; omega
  have h2 : j < l.length := by omega
  rw [List.getD_eq_getElem?_getD, List.getElem?_eq_getElem h1, at_, List.getD_eq_getElem?_getD, List.getElem?_eq_getElem h2]
  simp only [Option.getD_some, List.getElem_reverse]
  simp only [nats, List.getElem_map, List.length_map]
  congr 2
  omega

theorem next_nat (l : List UInt32) (n : Nat) (h : l.length = 16 + n) : (next l (16 + n)).toNat =
    Nat.mod (Nat.add (Nat.add (Nat.add ((nats l).reverse.getD 15 0) (Nat.xor (Nat.xor (Ev.rotr ((nats l).reverse.getD 14 0) 7 25) (Ev.rotr ((nats l).reverse.getD 14 0) 18 14)) (Nat.shiftRight ((nats l).reverse.getD 14 0) 3))) ((nats l).reverse.getD 6 0)) (Nat.xor (Nat.xor (Ev.rotr ((nats l).reverse.getD 1 0) 17 15) (Ev.rotr ((nats l).reverse.getD 1 0) 19 13)) (Nat.shiftRight ((nats l).reverse.getD 1 0) 10))) 4294967296 := by
  rw [at_back l 15 (16 + n - 16) (by omega), at_back l 14 (16 + n - 15) (by omega), at_back l 6 (16 + n - 7) (by omega), at_back l 1 (16 + n - 2) (by omega)]
  have e1 := rotr_nat (at_ l (16 + n - 15)) 7 25 (by decide) (by decide)
  have e2 := rotr_nat (at_ l (16 + n - 15)) 18 14 (by decide) (by decide)
  have e3 := rotr_nat (at_ l (16 + n - 2)) 17 15 (by decide) (by decide)
  have e4 := rotr_nat (at_ l (16 + n - 2)) 19 13 (by decide) (by decide)
  simp only [next, UInt32.toNat_add, UInt32.toNat_xor, UInt32.toNat_shiftRight, e1, e2, e3, e4]
  show _ = (_ + _ + _ + _) % 4294967296
  simp only [Nat.mod_add_mod]
  rfl

theorem grow_nat (w : List UInt32) (hw : w.length = 16) (m : Nat) : ∀ n, Ev.grow m (nats (grow w n)).reverse = (nats (grow w (n + m))).reverse := by
  induction m with
  | zero => intro n; rfl
  | succ m ih =>
    intro n
    have h := next_nat (grow w n) n (grow_length w hw n)
    have h' := ih (n + 1)
    simp only [Ev.grow, ble_of, cond_true]
    rw [← h]
    have e : (next (grow w n) (16 + n)).toNat :: (nats (grow w n)).reverse = (nats (grow w (n + 1))).reverse := by
      simp [grow, nats]
    rw [e, h']
    congr 3
    omega

theorem or_add (x y k : Nat) (h : y < 2 ^ k) : x * 2 ^ k ||| y = x * 2 ^ k + y := by
  have := Nat.shiftLeft_add_eq_or_of_lt (i := k) (b := y) h x
  rw [Nat.shiftLeft_eq] at this
  exact this.symm
theorem word_add (a b c d : Nat) (hb : b < 256) (hc : c < 256) (hd : d < 256) :
    a * 2 ^ 24 ||| b * 2 ^ 16 ||| c * 2 ^ 8 ||| d = a * 16777216 + b * 65536 + c * 256 + d := by
  have t1 : a * 2 ^ 24 ||| b * 2 ^ 16 = (a * 256 + b) * 2 ^ 16 := by rw [or_add a _ 24 (by omega)]; omega
  have t2 : (a * 256 + b) * 2 ^ 16 ||| c * 2 ^ 8 = ((a * 256 + b) * 256 + c) * 2 ^ 8 := by rw [or_add _ _ 16 (by omega)]; omega
  rw [t1, t2, or_add _ _ 8 (by omega)]
  omega
theorem words_nat : ∀ (n : Nat) (s : List UInt8) (acc : List Nat), s.length = 4 * n → Ev.words (s.map UInt8.toNat) acc = (nats ((List.range n).map (word s))).reverse ++ acc := by
  intro n
  induction n with
  | zero => intro s acc h; have : s = [] := List.length_eq_zero_iff.1 (by omega); subst this; rfl
  | succ n ih =>
    intro s acc h
    match s, h with
    | b0 :: b1 :: b2 :: b3 :: rest, h =>
      have hr : rest.length = 4 * n := by simp at h; omega
      have hv : (word (b0 :: b1 :: b2 :: b3 :: rest) 0).toNat = Nat.add (Nat.add (Nat.add (Nat.mul b0.toNat 16777216) (Nat.mul b1.toNat 65536)) (Nat.mul b2.toNat 256)) b3.toNat := by
        have k0 := b0.toNat_lt; have k1 := b1.toNat_lt; have k2 := b2.toNat_lt; have k3 := b3.toNat_lt
        show (b0.toUInt32 <<< 24 ||| b1.toUInt32 <<< 16 ||| b2.toUInt32 <<< 8 ||| b3.toUInt32).toNat = b0.toNat * 16777216 + b1.toNat * 65536 + b2.toNat * 256 + b3.toNat
        simp only [UInt32.toNat_or, UInt32.toNat_shiftLeft, UInt8.toNat_toUInt32]
        have s0 : b0.toNat <<< ((24 : UInt32).toNat % 32) % 2 ^ 32 = b0.toNat * 2 ^ 24 := by
          rw [show (24 : UInt32).toNat % 32 = 24 from rfl, Nat.shiftLeft_eq]; omega
        have s1 : b1.toNat <<< ((16 : UInt32).toNat % 32) % 2 ^ 32 = b1.toNat * 2 ^ 16 := by
          rw [show (16 : UInt32).toNat % 32 = 16 from rfl, Nat.shiftLeft_eq]; omega
        have s2 : b2.toNat <<< ((8 : UInt32).toNat % 32) % 2 ^ 32 = b2.toNat * 2 ^ 8 := by
          rw [show (8 : UInt32).toNat % 32 = 8 from rfl, Nat.shiftLeft_eq]; omega
        rw [s0, s1, s2]
        have e := word_add b0.toNat b1.toNat b2.toNat b3.toNat k1 k2 k3
        rw [e]
      have hb : Nat.ble (Nat.add (Nat.add (Nat.add (Nat.mul b0.toNat 16777216) (Nat.mul b1.toNat 65536)) (Nat.mul b2.toNat 256)) b3.toNat) 4294967296 = true := by
        rw [← hv]; exact Nat.ble_eq_true_of_le (Nat.le_of_lt (UInt32.toNat_lt (word (b0 :: b1 :: b2 :: b3 :: rest) 0)))
      have hw : (List.range (n + 1)).map (word (b0 :: b1 :: b2 :: b3 :: rest)) = word (b0 :: b1 :: b2 :: b3 :: rest) 0 :: (List.range n).map (word rest) := by
        rw [List.range_succ_eq_map, List.map_cons, List.map_map]
        rfl
      simp only [List.map_cons, Ev.words, hb, cond_true]
      rw [ih rest _ hr, hw, ← hv]
      simp [nats]

theorem mix_nat (h : St) (s : List UInt8) (hs : s.length = 64) : Ev.mix (toS h) (s.map UInt8.toNat) = toS (mix h s) := by
  have hw := words_nat 16 s [] (by omega)
  have hg := grow_nat (w16 s) (w16_length s) 48 0
  have hr := rounds_nat keys (spread s) h
  have hk : nats keys = keyNats := by decide +kernel
  have hf := rnds_fold (spread s) h 64 (by rw [keys_length]; omega) (by rw [spread_length]; omega)
  rw [List.take_of_length_le (by rw [keys_length]; omega), List.take_of_length_le (by rw [spread_length]; omega)] at hf
  have hg' : (Ev.grow 48 (Ev.words (s.map UInt8.toNat) [])).reverse = nats (spread s) := by
    rw [hw, List.append_nil]
    show (Ev.grow 48 (nats (w16 s)).reverse).reverse = _
    rw [show (nats (w16 s)).reverse = (nats (grow (w16 s) 0)).reverse from rfl, hg, List.reverse_reverse]
    rfl
  have e : Ev.rounds keyNats (Ev.grow 48 (Ev.words (s.map UInt8.toNat) [])).reverse h.a.toNat h.b.toNat h.c.toNat h.d.toNat h.e.toNat h.f.toNat h.g.toNat h.h.toNat = toS (rnds (spread s) h 64) := by
    rw [hg', hf, ← hr, hk]
  simp only [Ev.mix, toS] at *
  rw [e]
  simp only [mix, addSt, UInt32.toNat_add]
  rfl

theorem blocks_nat : ∀ (n : Nat) (h : St) (l : List UInt8), l.length = 64 * n → Ev.blocks n (toS h) (l.map UInt8.toNat) = toS (blocks n h l) := by
  intro n
  induction n with
  | zero => intro h l _; rfl
  | succ n ih =>
    intro h l hl
    simp only [Ev.blocks, blocks]
    rw [← List.map_take, ← List.map_drop, mix_nat h _ (by simp; omega)]
    exact ih _ _ (by simp; omega)

theorem be_nat (x : UInt32) : (be x).map UInt8.toNat = Ev.be x.toNat := by
  have hx := x.toNat_lt
  simp only [be, List.map_cons, List.map_nil, UInt32.toNat_toUInt8, UInt32.toNat_shiftRight]
  show _ = [x.toNat / 16777216 % 256, x.toNat / 65536 % 256, x.toNat / 256 % 256, x.toNat % 256]
  rw [show (24 : UInt32).toNat % 32 = 24 from rfl, show (16 : UInt32).toNat % 32 = 16 from rfl, show (8 : UInt32).toNat % 32 = 8 from rfl,
    Nat.shiftRight_eq_div_pow, Nat.shiftRight_eq_div_pow, Nat.shiftRight_eq_div_pow]

theorem out_nat (s : St) : (out s).map UInt8.toNat = Ev.out (toS s) := by
  simp only [out, St.l, List.flatMap_cons, List.flatMap_nil, List.map_append, be_nat, List.append_nil]
  rfl

theorem sum_length (l : List UInt8) : (sum l).length = 32 := by simp [sum, out, St.l, be]

theorem bits8_nat (n : Nat) (hn : n < 536870912) : (bits8 n).map UInt8.toNat = Ev.bits8 n := by
  show [(UInt8.ofNat (n * 8 / 2 ^ 56)).toNat, (UInt8.ofNat (n * 8 / 2 ^ 48)).toNat, (UInt8.ofNat (n * 8 / 2 ^ 40)).toNat, (UInt8.ofNat (n * 8 / 2 ^ 32)).toNat,
    (UInt8.ofNat (n * 8 / 2 ^ 24)).toNat, (UInt8.ofNat (n * 8 / 2 ^ 16)).toNat, (UInt8.ofNat (n * 8 / 2 ^ 8)).toNat, (UInt8.ofNat (n * 8 / 2 ^ 0)).toNat] =
    [0, 0, 0, 0, n * 8 / 16777216 % 256, n * 8 / 65536 % 256, n * 8 / 256 % 256, n * 8 % 256]
  simp only [UInt8.toNat_ofNat']
  have a : n * 8 < 2 ^ 32 := by omega
  rw [Nat.div_eq_of_lt (show n * 8 < 2 ^ 56 by omega), Nat.div_eq_of_lt (show n * 8 < 2 ^ 48 by omega), Nat.div_eq_of_lt (show n * 8 < 2 ^ 40 by omega), Nat.div_eq_of_lt a]
  simp

theorem pad_length (l : List UInt8) : (l ++ pad l.length).length = 64 * ((l.length + 72) / 64) := by
  simp [pad, bits8]
  omega

theorem sum_nat (l : List UInt8) (hl : l.length < 536870912) : (sum l).map UInt8.toNat = Ev.sum (l.map UInt8.toNat) := by
  rw [sum, out_nat, ← blocks_nat _ _ _ (pad_length l), Ev.sum]
  congr 2
  · simp
  · rw [List.map_append, List.length_map]
    congr 1
    simp only [pad, List.map_cons, List.map_append, bits8_nat _ hl, List.map_replicate]
    rfl

/-- A digest by the kernel. -/
theorem sum_is (l r : List UInt8) (hl : l.length < 536870912) (h : (Ev.sum (l.map UInt8.toNat) == r.map UInt8.toNat) = true) : sum l = r := by
  have h' : (sum l).map UInt8.toNat = r.map UInt8.toNat := by rw [sum_nat l hl]; exact eq_of_beq h
  exact (List.map_inj_right fun a b hab => UInt8.toNat_inj.1 hab).1 h'

set_option maxRecDepth 100000 in
theorem sum_abc : sum [97, 98, 99] = [186, 120, 22, 191, 143, 1, 207, 234, 65, 65, 64, 222, 93, 174, 34, 35, 176, 3, 97, 163, 150, 23, 122, 156, 180, 16, 255, 97, 242, 0, 21, 173] :=
  sum_is _ _ (by decide) (by decide +kernel)

end Go.Proofs.Ytnipbdlljfifhaa.Sha
namespace Go.Proofs.Ytnipbdlljfifhaa.Sha
theorem blocks_snoc : ∀ (n : Nat) (h : St) (l : List UInt8), blocks (n + 1) h l = mix (blocks n h l) ((l.drop (64 * n)).take 64) := by
  intro n
  induction n with
  | zero => intro h l; rfl
  | succ n ih =>
    intro h l
    show blocks (n + 1) (mix h (l.take 64)) (l.drop 64) = mix (blocks n (mix h (l.take 64)) (l.drop 64)) _
    rw [ih, List.drop_drop]
    congr 3
    omega
theorem blocks_append : ∀ (a b : Nat) (h : St) (l : List UInt8), blocks (a + b) h l = blocks b (blocks a h l) (l.drop (64 * a)) := by
  intro a
  induction a with
  | zero => intro b h l; simp [blocks]
  | succ a ih =>
    intro b h l
    rw [show a + 1 + b = (a + b) + 1 by omega]
    show blocks (a + b) (mix h (l.take 64)) (l.drop 64) = blocks b (blocks a (mix h (l.take 64)) (l.drop 64)) _
    rw [ih, List.drop_drop]
    congr 2
    omega
theorem blocks_prefix : ∀ (n : Nat) (h : St) (l r : List UInt8), 64 * n ≤ l.length → blocks n h (l ++ r) = blocks n h l := by
  intro n
  induction n with
  | zero => intro h l r _; rfl
  | succ n ih =>
    intro h l r hl
    show blocks n (mix h ((l ++ r).take 64)) ((l ++ r).drop 64) = blocks n (mix h (l.take 64)) (l.drop 64)
    rw [List.take_append_of_le_length (by omega), List.drop_append_of_le_length (by omega), ih _ _ _ (by simp; omega)]
theorem sum_parts (l : List UInt8) : sum l = out (blocks ((l.length + 72) / 64 - l.length / 64) (blocks (l.length / 64) start l) (l.drop (64 * (l.length / 64)) ++ pad l.length)) := by
  unfold sum
  have e : (l.length + 72) / 64 = l.length / 64 + ((l.length + 72) / 64 - l.length / 64) := by omega
  rw [e, blocks_append, blocks_prefix _ _ _ _ (by omega), List.drop_append_of_le_length (by omega)]
  congr 3
theorem be_length (x : UInt32) : (be x).length = 4 := rfl

theorem u32_not (e : UInt32) : 4294967295 - e = ~~~e := by
  apply UInt32.toNat_inj.1
  rw [UInt32.toNat_sub, UInt32.toNat_not]
  have := e.toNat_lt
  show (2 ^ 32 - e.toNat + 4294967295) % 2 ^ 32 = 2 ^ 32 - 1 - e.toNat
  omega
theorem u32_ext (x y : UInt32) (h : ∀ i, i < 32 → x.toBitVec.getLsbD i = y.toBitVec.getLsbD i) : x = y :=
  UInt32.toBitVec_inj.1 (BitVec.eq_of_getLsbD_eq h)
theorem ref_ch (e f g : UInt32) : (e &&& f) ||| ((4294967295 - e) &&& g) = (e &&& f) ^^^ (~~~e &&& g) := by
  rw [u32_not]
  apply u32_ext
  intro i hi
  simp only [UInt32.toBitVec_or, UInt32.toBitVec_xor, UInt32.toBitVec_and, UInt32.toBitVec_not, BitVec.getLsbD_or, BitVec.getLsbD_xor, BitVec.getLsbD_and, BitVec.getLsbD_not, hi, decide_true, Bool.true_and]
  cases e.toBitVec.getLsbD i <;> cases f.toBitVec.getLsbD i <;> cases g.toBitVec.getLsbD i <;> rfl
theorem ref_maj (a b c : UInt32) : (a &&& b) ||| (a &&& c) ||| (b &&& c) = (a &&& b) ^^^ (a &&& c) ^^^ (b &&& c) := by
  apply u32_ext
  intro i hi
  simp only [UInt32.toBitVec_or, UInt32.toBitVec_xor, UInt32.toBitVec_and, BitVec.getLsbD_or, BitVec.getLsbD_xor, BitVec.getLsbD_and]
  cases a.toBitVec.getLsbD i <;> cases b.toBitVec.getLsbD i <;> cases c.toBitVec.getLsbD i <;> rfl
end Go.Proofs.Ytnipbdlljfifhaa.Sha
