import Derived.Test.YtfnijaiaodplgaaEncS
import Derived.Test.YtfnijaiaodplgaaPEncx3
namespace Go.Proofs.Ytfnijaiaodplgaa.EncL
open Go.RowKit Go.Proofs.Ytfnijaiaodplgaa.PEnc Go.Proofs.Ytfnijaiaodplgaa.EncS Go.Proofs.YtfnijaiaodplgaaW.PrintWords Go.Proofs.YtfnijaiaodplgaaW.PrintLast Go.Proofs.YtfnijaiaodplgaaW.PrintMore

/-- Bytes as a text. -/
def S (l : List UInt8) : ByteArray := ⟨l.toArray⟩
theorem wrap64_in (n : Int) (h0 : -9223372036854775808 ≤ n) (h1 : n < 9223372036854775808) : wrap64 n = n := by unfold wrap64; omega
theorem u64_wrap (n : Int) : IntKind.u64.wrap n = n % 18446744073709551616 := by simp [IntKind.wrap, IntKind.bits, IntKind.signed]
theorem u64_in (n : Int) (h0 : 0 ≤ n) (h1 : n < 18446744073709551616) : IntKind.u64.wrap n = n := by rw [u64_wrap]; omega

theorem or_128 (x : Nat) (h : x < 128) : x ||| 128 = x + 128 := by
  have := Nat.two_pow_add_eq_or_of_lt (i := 7) (b := x) h 1
  simp only [Nat.mul_one, Nat.reducePow] at this
  rw [Nat.or_comm, ← this, Nat.add_comm]
theorem or128 (n : Nat) : Go.bits .or .u8 (((n : Int)) % 256) 128 = ((n % 128 + 128 : Nat) : Int) := by
  have e : ((n : Int) % 256) = ((n % 256 : Nat) : Int) := by omega
  rw [e]
  refine ((bits_nat .u8 8 (by decide) wraps_u8 (n % 256) 128 (by omega) (by decide)).2).trans ?_
  congr 1
  by_cases h2 : n % 256 < 128
  · rw [show n % 128 = n % 256 by omega, or_128 _ h2]
  · have h3 : n % 256 = n % 128 ||| 128 := by rw [or_128 _ (by omega)]; omega
    rw [h3, Nat.or_assoc, Nat.or_self, or_128 _ (by omega)]

theorem S_toList (l : List UInt8) : (S l).toList = l := by
  show (ByteArray.toList ⟨l.toArray⟩) = l
  simp

def ints (l : List UInt8) : List Int := l.map fun b => (b.toNat : Int)
theorem strOf_ints (l : List UInt8) : strOfNums (ints l) = S l := by
  unfold strOfNums ints S
  rw [List.map_map]
  congr 2
  rw [List.map_congr_left (g := id) (fun b _ => by simp)]
  simp
theorem ints_length (l : List UInt8) : (ints l).length = l.length := by simp [ints]
theorem ints_snoc (l : List UInt8) (b : UInt8) (x : Int) (h : (b.toNat : Int) = x) : ints l ++ [x] = ints (l ++ [b]) := by simp [ints, h]
theorem S_size (l : List UInt8) : (S l).size = l.length := by simp [S, ByteArray.size]
theorem S_append (a b : List UInt8) : S a ++ S b = S (a ++ b) := by
  apply ByteArray.ext
  simp [S]
theorem S_of (s : ByteArray) : S s.toList = s := by
  rw [ByteArray.toList_eq]
  simp [S]

/-- enc.Uint's bytes. -/
theorem uint_l0 : ∀ (m n : Nat) (acc : List UInt8), n ≤ m → acc.length + (encU n).length < 140737488355328 →
    Ev (fun k => enc_Uint.l0 k (n : Int) (ints acc)) (S (acc ++ encU n)) := by
  have base : ∀ (n : Nat) (acc : List UInt8), n < 128 → acc.length + (encU n).length < 140737488355328 → Ev (fun k => enc_Uint.l0 k (n : Int) (ints acc)) (S (acc ++ encU n)) := by
    intro n acc h hl
    rw [encU_small n h] at hl ⊢
    simp only [List.length_cons, List.length_nil] at hl
    refine Ev.step (f := fun _ => some (S (acc ++ [UInt8.ofNat n]))) (fun k => ?_) (Ev.now _)
    simp only [enc_Uint.l0]
    rw [if_neg (by omega), if_pos (by rw [ints_length]; omega)]
    rw [ints_snoc acc (UInt8.ofNat n) _ (by rw [UInt8.toNat_ofNat']; omega), strOf_ints]
  intro m
  induction m with
  | zero => intro n acc hm hl; exact base n acc (by omega) hl
  | succ m ih =>
    intro n acc hm hl
    by_cases h : n < 128
    · exact base n acc h hl
    · rw [encU_great n h] at hl ⊢
      simp only [List.length_cons] at hl
      have h1 := ih (n / 128) (acc ++ [UInt8.ofNat (n % 128 + 128)]) (by omega) (by simp only [List.length_append, List.length_cons, List.length_nil]; omega)
      rw [List.append_assoc] at h1
      refine Ev.step (fun k => ?_) h1
      simp only [enc_Uint.l0]
      rw [if_pos (by omega), if_pos (by rw [ints_length]; omega), or128, ints_snoc acc (UInt8.ofNat (n % 128 + 128)) _ (by rw [UInt8.toNat_ofNat']; omega)]
      rfl

theorem uint_f (n : Nat) (h : n < 18446744073709551616) : Ev (fun k => enc_Uint.f k (n : Int)) (S (encU n)) := by
  have hl := encU_len n h
  exact uint_l0 n n [] (Nat.le_refl _) (by simp only [List.length_nil]; omega)

/-- The reference's bytes. -/
theorem ref_uint_f : ∀ (m n : Nat), n ≤ m → n < 18446744073709551616 → Ev (fun k => parchmentref02_Uint.f k (n : Int)) (S (encU n)) := by
  have base : ∀ (n : Nat), n < 128 → Ev (fun k => parchmentref02_Uint.f k (n : Int)) (S (encU n)) := by
    intro n h
    rw [encU_small n h]
    refine Ev.step (f := fun _ => some (S [UInt8.ofNat n])) (fun k => ?_) (Ev.now _)
    simp only [parchmentref02_Uint.f]
    rw [if_pos (by omega)]
    have e := ints_snoc [] (UInt8.ofNat n) ((n : Int) % 256) (by rw [UInt8.toNat_ofNat']; omega)
    simp only [List.nil_append, ints, List.map_nil] at e
    rw [e]
    exact congrArg some (strOf_ints [UInt8.ofNat n])
  intro m
  induction m with
  | zero => intro n hm _; exact base n (by omega)
  | succ m ih =>
    intro n hm hb
    by_cases h : n < 128
    · exact base n h
    · have hl := encU_len (n / 128) (by omega)
      have h1 := ih (n / 128) (by omega) (by omega)
      rw [encU_great n h]
      have e1 : IntKind.u64.wrap (Int.tdiv (n : Int) 128) = ((n / 128 : Nat) : Int) := by
        rw [Int.tdiv_eq_ediv_of_nonneg (by omega), u64_in _ (by omega) (by omega)]; omega
      have e2 : (IntKind.u64.wrap ((Int.tmod (n : Int) 128) + 128)) % 256 = ((UInt8.ofNat (n % 128 + 128)).toNat : Int) := by
        rw [Int.tmod_eq_emod_of_nonneg (by omega), u64_in _ (by omega) (by omega), UInt8.toNat_ofNat']; omega
      refine Ev.step (f := fun k => (parchmentref02_Uint.f k ((n / 128 : Nat) : Int)).bind fun t => if (S [UInt8.ofNat (n % 128 + 128)]).size + t.size ≤ 9223372036854775807 then some (S [UInt8.ofNat (n % 128 + 128)] ++ t) else none) (fun k => ?_) ?_
      · simp only [parchmentref02_Uint.f]
        rw [if_neg (by omega), Option.bind_some, e1, e2]
        have e3 : strOfNums [((UInt8.ofNat (n % 128 + 128)).toNat : Int)] = S [UInt8.ofNat (n % 128 + 128)] := strOf_ints [UInt8.ofNat (n % 128 + 128)]
        rw [e3]
      · refine Ev.bind h1 ?_
        rw [if_pos (by rw [S_size, S_size]; simp only [List.length_cons, List.length_nil]; omega), S_append]
        exact Ev.now _

theorem andNot128 (b : UInt8) : Go.bits .andNot .u8 (b.toNat : Int) 128 = ((b.toNat % 128 : Nat) : Int) := by
  have h : ∀ n : Fin 256, Go.bits .andNot .u8 (n.val : Int) 128 = ((n.val % 128 : Nat) : Int) := by decide +kernel
  exact h ⟨b.toNat, b.toNat_lt⟩
theorem bits_or_comm (k : IntKind) (x y : Int) : Go.bits .or k x y = Go.bits .or k y x := by
  unfold Go.bits
  simp only [BitVec.or_comm]
theorem wraps_u64 (n : Int) (h₀ : 0 ≤ n) (h₁ : n < 2 ^ 64) : IntKind.u64.wrap n = n := u64_in n h₀ (by simpa using h₁)
theorem cast_lt (n : Nat) (h : n < 18446744073709551616) : (n : Int) < 2 ^ 64 := by
  have e : (2 : Int) ^ 64 = 18446744073709551616 := by decide
  omega
theorem pow128 (i : Nat) : (128 : Nat) ^ i = 2 ^ (7 * i) := by rw [Nat.pow_mul]

/-- The number so far, with one byte more. -/
theorem joined (b : UInt8) (i acc : Nat) (hi : i ≤ 9) (hb : i = 9 → b.toNat ≤ 1) (ha : acc < 128 ^ i) :
    Go.bits .or .u64 (acc : Int) (shl .u64 (IntKind.u64.wrap (Go.bits .andNot .u8 (b.toNat : Int) 128)) (wrap64 (7 * (i : Int)))) = ((acc + b.toNat % 128 * 128 ^ i : Nat) : Int) ∧ acc + b.toNat % 128 * 128 ^ i < 18446744073709551616 := by
  have hm : b.toNat % 128 * 128 ^ i + 128 ^ i ≤ 18446744073709551616 := by
    by_cases h9 : i = 9
    · have := hb h9; subst h9
      have : b.toNat % 128 ≤ 1 := by omega
      rw [pow9]; omega
    · have hp : (128 : Nat) ^ i ≤ 128 ^ 8 := Nat.pow_le_pow_right (by decide) (by omega)
      have h8 : (128 : Nat) ^ 8 = 72057594037927936 := by decide
      have hq : b.toNat % 128 * 128 ^ i ≤ 127 * 128 ^ i := Nat.mul_le_mul_right _ (by omega)
      omega
  have hpos : 0 < (128 : Nat) ^ i := Nat.pow_pos (by decide)
  have e7 : (wrap64 (7 * (i : Int))).toNat = 7 * i := by rw [wrap64_in _ (by omega) (by omega)]; omega
  have es : shl .u64 (IntKind.u64.wrap (Go.bits .andNot .u8 (b.toNat : Int) 128)) (wrap64 (7 * (i : Int))) = ((b.toNat % 128 * 128 ^ i : Nat) : Int) := by
    unfold shl
    rw [andNot128, e7, Nat.min_eq_left (show 7 * i ≤ IntKind.u64.bits by simp [IntKind.bits]; omega), u64_in ((b.toNat % 128 : Nat) : Int) (by omega) (by omega)]
    have ec : ((b.toNat % 128 : Nat) : Int) * 2 ^ (7 * i) = ((b.toNat % 128 * 128 ^ i : Nat) : Int) := by
      rw [pow128]; simp
    rw [ec, u64_in ((b.toNat % 128 * 128 ^ i : Nat) : Int) (by omega) (by omega)]
  refine ⟨?_, by omega⟩
  rw [es, bits_or_comm]
  have hd : ((b.toNat % 128 * 128 ^ i : Nat) : Int) % 2 ^ (7 * i) = 0 := by
    have : (b.toNat % 128 * 128 ^ i) % 2 ^ (7 * i) = 0 := by rw [pow128]; exact Nat.mul_mod_left _ _
    exact_mod_cast this
  have hlt : (acc : Int) < 2 ^ (7 * i) := by rw [pow128] at ha; exact_mod_cast ha
  rw [bits_join .u64 64 (by decide) wraps_u64 (7 * i) _ _ (by omega) hd (cast_lt _ (by omega)) (by omega) hlt (cast_lt _ (by omega))]
  omega

theorem bt_at_drop (s : ByteArray) (j : Nat) (b : UInt8) (l : List UInt8) (h : s.toList.drop j = b :: l) : bt s (j : Int) = (b.toNat : Int) ∧ j < s.size ∧ s.toList.drop (j + 1) = l := by
  have hl : s.toList.length = s.size := by rw [ByteArray.toList_eq, Array.length_toList]; rfl
  have hj : j < s.toList.length := by
    by_cases h1 : j < s.toList.length
    · exact h1
    · rw [List.drop_eq_nil_of_le (by omega)] at h; simp at h
  have h2 := List.drop_eq_getElem_cons hj
  rw [h2] at h
  simp only [List.cons.injEq] at h
  refine ⟨?_, by omega, h.2⟩
  rw [← h.1]
  have hjs : j < s.size := by omega
  unfold bt
  rw [Int.toNat_natCast, dif_pos hjs]
  congr 2
  have e := ByteArray.toList_eq s
  simp only [e]
  rfl
theorem size_of_drop_nil (s : ByteArray) (j : Nat) (h : s.toList.drop j = []) : s.size ≤ j := by
  have hl : s.toList.length = s.size := by rw [ByteArray.toList_eq, Array.length_toList]; rfl
  have := List.drop_eq_nil_iff.1 h
  omega

/-- What a cursor is behind a number's taking. -/
def outU (s : ByteArray) (p : Nat) (r : Nat × Nat × Nat) : Int × ByteArray × Int × Int :=
  if r.1 = 0 then ((r.2.2 : Int), s, ((p + r.2.1 : Nat) : Int), 0) else (0, s, (p : Int), (r.1 : Int))

theorem stop_0 (s : ByteArray) (a e : Int) : enc_Cursor_stop.f s a 0 e = some (s, a, e) := by unfold enc_Cursor_stop.f; rw [if_pos rfl]
theorem stop_n (s : ByteArray) (a c e : Int) (h : ¬ c = 0) : enc_Cursor_stop.f s a c e = some (s, a, c) := by unfold enc_Cursor_stop.f; rw [if_neg h]

theorem cur_l0 (s : ByteArray) (p : Nat) (hs : s.size < 4611686018427387904) : ∀ (l : List UInt8) (i acc : Nat), s.toList.drop (p + i) = l → p + i ≤ s.size → i ≤ 9 → acc < 128 ^ i →
    Ev (fun k => enc_Cursor_Uint.l0 k (acc : Int) (i : Int) s (p : Int) 0) (outU s p (decU l i acc)) := by
  intro l
  induction l with
  | nil =>
    intro i acc hl hp hi ha
    have hsz := size_of_drop_nil s (p + i) hl
    refine Ev.step (f := fun _ => some (outU s p (4, 0, 0))) (fun k => ?_) (Ev.now _)
    simp only [enc_Cursor_Uint.l0]
    rw [if_pos (by rw [wrap64_in _ (by omega) (by omega)]; omega), stop_0]
    rfl
  | cons b l ih =>
    intro i acc hl hp hi ha
    obtain ⟨hb, hlt, hd⟩ := bt_at_drop s (p + i) b l hl
    have ew : wrap64 ((p : Int) + (i : Int)) = ((p + i : Nat) : Int) := by rw [wrap64_in _ (by omega) (by omega)]; omega
    have hj : ∀ k, enc_Cursor_Uint.l0 (k + 1) (acc : Int) (i : Int) s (p : Int) 0 = enc_Cursor_Uint.j1 k (acc : Int) (i : Int) (b.toNat : Int) (decide ((i = 9 ∧ 1 < b.toNat) ∨ (0 < i ∧ b.toNat = 0))) s (p : Int) 0 := by
      intro k
      simp only [enc_Cursor_Uint.l0]
      rw [if_neg (by rw [ew]; omega), if_pos (by rw [ew]; omega), if_pos (by rw [ew]; omega), ew, hb]
      by_cases h9 : i = 9
      · subst h9
        by_cases h1 : 1 < b.toNat
        · rw [if_pos (by omega), if_pos (by omega), decide_eq_true (.inl ⟨rfl, h1⟩)]
        · rw [if_pos (by omega), if_neg (by omega), if_pos (by omega)]
          congr 1
          by_cases h0 : b.toNat = 0 <;> simp [h0, h1]
      · by_cases h0 : 0 < i
        · rw [if_neg (by omega), if_pos (by omega)]
          congr 1
          by_cases h0' : b.toNat = 0 <;> simp [h0, h0', h9]
        · rw [if_neg (by omega), if_neg (by omega)]
          congr 1
          simp [h0, h9]
    simp only [decU]
    by_cases hc : (i = 9 ∧ 1 < b.toNat) ∨ (0 < i ∧ b.toNat = 0)
    · rw [if_pos hc]
      refine Ev.step hj (Ev.step (f := fun _ => some (outU s p (6, 0, 0))) (fun k => ?_) (Ev.now _))
      simp only [enc_Cursor_Uint.j1]
      rw [if_pos (decide_eq_true hc), stop_0]
      rfl
    · rw [if_neg hc]
      have hj2 := joined b i acc hi (fun h => by omega) ha
      have e7 : 0 ≤ wrap64 (7 * (i : Int)) := by rw [wrap64_in _ (by omega) (by omega)]; omega
      by_cases h128 : b.toNat < 128
      · rw [if_pos h128]
        refine Ev.step hj (Ev.step (f := fun _ => some (outU s p (0, i + 1, acc + b.toNat * 128 ^ i))) (fun k => ?_) (Ev.now _))
        simp only [enc_Cursor_Uint.j1]
        rw [if_neg (by rw [decide_eq_false hc]; decide), if_pos e7, if_pos (by omega), hj2.1, Nat.mod_eq_of_lt h128]
        have e1 : wrap64 ((p : Int) + wrap64 ((i : Int) + 1)) = ((p + (i + 1) : Nat) : Int) := by rw [wrap64_in ((i : Int) + 1) (by omega) (by omega), wrap64_in _ (by omega) (by omega)]; omega
        rw [e1]
        rfl
      · rw [if_neg h128]
        have hb256 := b.toNat_lt
        have hm : b.toNat % 128 = b.toNat - 128 := by omega
        have h8 : i ≤ 8 := by omega
        have hnew : acc + (b.toNat - 128) * 128 ^ i < 128 ^ (i + 1) := by
          have : (b.toNat - 128) * 128 ^ i ≤ 127 * 128 ^ i := Nat.mul_le_mul_right _ (by omega)
          rw [pow_succ']; omega
        have h1 := ih (i + 1) (acc + (b.toNat - 128) * 128 ^ i) (by rw [← hd]; congr 1) (by omega) (by omega) hnew
        refine Ev.step hj (Ev.step (fun k => ?_) h1)
        simp only [enc_Cursor_Uint.j1]
        rw [if_neg (by rw [decide_eq_false hc]; decide), if_pos e7, if_neg (by omega), hj2.1, hm, wrap64_in ((i : Int) + 1) (by omega) (by omega)]
        rfl

theorem cur_uint (s : ByteArray) (p : Nat) (hs : s.size < 4611686018427387904) (hp : p ≤ s.size) :
    Ev (fun k => enc_Cursor_Uint.f k s (p : Int) 0) (outU s p (decU (s.toList.drop p) 0 0)) := by
  have h := cur_l0 s p hs (s.toList.drop p) 0 0 rfl hp (by decide) (by decide)
  refine Ev.congr (fun k => ?_) h
  unfold enc_Cursor_Uint.f
  rw [if_pos rfl]
  rfl
theorem cur_uint_err (s : ByteArray) (p e : Int) (he : ¬ e = 0) (k : Nat) : enc_Cursor_Uint.f k s p e = some (0, s, p, e) := by
  unfold enc_Cursor_Uint.f; rw [if_neg he]

/-- The end of a cursor at its bytes' end, without an error. -/
theorem end_all (s : ByteArray) : enc_Cursor_End.f s (s.size : Int) 0 = some (0, s, (s.size : Int), 0) := by
  unfold enc_Cursor_End.f; rw [if_neg (by omega)]

theorem awake : Ev (fun k => parchmentlaw02_awake.f k) true := by
  have h1 := uint_f 300 (by decide)
  have he : encU 300 = [172, 2] := by rw [encU_great 300 (by decide), encU_small _ (by decide)]; decide
  rw [he] at h1
  have h2 := cur_uint (S [172, 2]) 0 (by rw [S_size]; decide) (by omega)
  rw [S_toList] at h2
  have h3 : decU ([172, 2].drop 0) 0 0 = (0, 2, 300) := by decide
  rw [h3] at h2
  unfold parchmentlaw02_awake.f
  refine Ev.bind h1 ?_
  simp only [enc_At.f, Option.bind_some]
  simp only [S_toList, ↓reduceIte]
  refine Ev.bind h2 ?_
  show Ev (fun _ => if (300 : Int) = 300 then (enc_Cursor_End.f (S [172, 2]) 2 0).bind fun bt126 => some (bt126.1 == 0) else some false) true
  rw [if_pos rfl]
  have h4 := end_all (S [172, 2])
  rw [S_size] at h4
  have h5 : enc_Cursor_End.f (S [172, 2]) 2 0 = some (0, S [172, 2], 2, 0) := h4
  rw [h5]
  exact Ev.now _

end Go.Proofs.Ytfnijaiaodplgaa.EncL
