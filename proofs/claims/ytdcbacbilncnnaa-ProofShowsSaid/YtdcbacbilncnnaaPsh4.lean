/- Part 4 of what the proof of ProofShows stands on. -/
import Derived.Lib.Hide
import Derived.Test.YtdcbacbilncnnaaPsh3
section
/- Numbers and texts in bytes: the program's and the reference's are one plain function's. -/
namespace Go.Proofs.Ytdcbacbilncnnaa.EncL
set_option linter.unusedVariables false
set_option linter.unusedSimpArgs false
open Go.RowKit Go.Proofs.Ytdcbacbilncnnaa.PMk Go.Proofs.Ytdcbacbilncnnaa.EncS Go.Proofs.YtdcbacbilncnnaaW.PrintWords Go.Proofs.YtdcbacbilncnnaaW.PrintLast Go.Proofs.YtdcbacbilncnnaaW.PrintMore
/-- Bytes as a text. -/
def S (l : List UInt8) : ByteArray := ⟨l.toArray⟩
theorem wrap64_in (n : Int) (h0 : -9223372036854775808 ≤ n) (h1 : n < 9223372036854775808) : wrap64 n = n := by unfold wrap64; omega
theorem u64_wrap (n : Int) : IntKind.u64.wrap n = n % 18446744073709551616 := by simp [IntKind.wrap, IntKind.bits, IntKind.signed]
theorem u64_in (n : Int) (h0 : 0 ≤ n) (h1 : n < 18446744073709551616) : IntKind.u64.wrap n = n := by rw [u64_wrap]; omega
theorem or_128 (x : Nat) (h : x < 128) : x ||| 128 = x + 128 := by
  have := Nat.two_pow_add_eq_or_of_lt (i := 7) (b := x) h 1
  simp only [Nat.mul_one, Nat.reducePow] at this
  rw [Nat.or_comm, ← this, Nat.add_comm]
theorem or128 (n : Nat) : Go.bits .or .u8 (((n : Int)) % 256) 128 = ((n % 128 + 128 : Nat) : Int) := by
  have e : ((n : Int) % 256) = ((n % 256 : Nat) : Int) := by omega
  rw [e]
  refine ((bits_nat .u8 8 (by decide) wraps_u8 (n % 256) 128 (by omega) (by decide)).2).trans ?_
  congr 1
  by_cases h2 : n % 256 < 128
  · rw [show n % 128 = n % 256 by omega, or_128 _ h2]
  · have h3 : n % 256 = n % 128 ||| 128 := by rw [or_128 _ (by omega)]; omega
    rw [h3, Nat.or_assoc, Nat.or_self, or_128 _ (by omega)]
theorem S_toList (l : List UInt8) : (S l).toList = l := by
  show (ByteArray.toList ⟨l.toArray⟩) = l
  simp
def ints (l : List UInt8) : List Int := l.map fun b => (b.toNat : Int)
theorem strOf_ints (l : List UInt8) : strOfNums (ints l) = S l := by
  unfold strOfNums ints S
  rw [List.map_map]
  congr 2
  rw [List.map_congr_left (g := id) (fun b _ => by simp)]
  simp
theorem ints_length (l : List UInt8) : (ints l).length = l.length := by simp [ints]
theorem ints_snoc (l : List UInt8) (b : UInt8) (x : Int) (h : (b.toNat : Int) = x) : ints l ++ [x] = ints (l ++ [b]) := by simp [ints, h]
theorem S_size (l : List UInt8) : (S l).size = l.length := by simp [S, ByteArray.size]
theorem S_append (a b : List UInt8) : S a ++ S b = S (a ++ b) := by
  apply ByteArray.ext
  simp [S]
theorem S_of (s : ByteArray) : S s.toList = s := by
  rw [ByteArray.toList_eq]
  simp [S]
/-- enc.Uint's bytes. -/
theorem uint_l0 : ∀ (m n : Nat) (acc : List UInt8), n ≤ m → acc.length + (encU n).length < 140737488355328 →
    Ev (fun k => enc_Uint.l0 k (n : Int) (ints acc)) (S (acc ++ encU n)) := by
  have base : ∀ (n : Nat) (acc : List UInt8), n < 128 → acc.length + (encU n).length < 140737488355328 → Ev (fun k => enc_Uint.l0 k (n : Int) (ints acc)) (S (acc ++ encU n)) := by
    intro n acc h hl
    rw [encU_small n h] at hl ⊢
    simp only [List.length_cons, List.length_nil] at hl
    refine Ev.step (f := fun _ => some (S (acc ++ [UInt8.ofNat n]))) (fun k => ?_) (Ev.now _)
    simp only [enc_Uint.l0]
    rw [if_neg (by omega), if_pos (by rw [ints_length]; omega)]
    rw [ints_snoc acc (UInt8.ofNat n) _ (by rw [UInt8.toNat_ofNat']; omega), strOf_ints]
  intro m
  induction m with
  | zero => intro n acc hm hl; exact base n acc (by omega) hl
  | succ m ih =>
    intro n acc hm hl
    by_cases h : n < 128
    · exact base n acc h hl
    · rw [encU_great n h] at hl ⊢
      simp only [List.length_cons] at hl
      have h1 := ih (n / 128) (acc ++ [UInt8.ofNat (n % 128 + 128)]) (by omega) (by simp only [List.length_append, List.length_cons, List.length_nil]; omega)
      rw [List.append_assoc] at h1
      refine Ev.step (fun k => ?_) h1
      simp only [enc_Uint.l0]
      rw [if_pos (by omega), if_pos (by rw [ints_length]; omega), or128, ints_snoc acc (UInt8.ofNat (n % 128 + 128)) _ (by rw [UInt8.toNat_ofNat']; omega)]
      rfl
theorem uint_f (n : Nat) (h : n < 18446744073709551616) : Ev (fun k => enc_Uint.f k (n : Int)) (S (encU n)) := by
  have hl := encU_len n h
  exact uint_l0 n n [] (Nat.le_refl _) (by simp only [List.length_nil]; omega)
/-- The reference's bytes. -/
theorem ref_uint_f : ∀ (m n : Nat), n ≤ m → n < 18446744073709551616 → Ev (fun k => parchmentref02_Uint.f k (n : Int)) (S (encU n)) := by
  have base : ∀ (n : Nat), n < 128 → Ev (fun k => parchmentref02_Uint.f k (n : Int)) (S (encU n)) := by
    intro n h
    rw [encU_small n h]
    refine Ev.step (f := fun _ => some (S [UInt8.ofNat n])) (fun k => ?_) (Ev.now _)
    simp only [parchmentref02_Uint.f]
    rw [if_pos (by omega)]
    have e := ints_snoc [] (UInt8.ofNat n) ((n : Int) % 256) (by rw [UInt8.toNat_ofNat']; omega)
    simp only [List.nil_append, ints, List.map_nil] at e
    rw [e]
    exact congrArg some (strOf_ints [UInt8.ofNat n])
  intro m
  induction m with
  | zero => intro n hm _; exact base n (by omega)
  | succ m ih =>
    intro n hm hb
    by_cases h : n < 128
    · exact base n h
    · have hl := encU_len (n / 128) (by omega)
      have h1 := ih (n / 128) (by omega) (by omega)
      rw [encU_great n h]
      have e1 : IntKind.u64.wrap (Int.tdiv (n : Int) 128) = ((n / 128 : Nat) : Int) := by
        rw [Int.tdiv_eq_ediv_of_nonneg (by omega), u64_in _ (by omega) (by omega)]; omega
      have e2 : (IntKind.u64.wrap ((Int.tmod (n : Int) 128) + 128)) % 256 = ((UInt8.ofNat (n % 128 + 128)).toNat : Int) := by
        rw [Int.tmod_eq_emod_of_nonneg (by omega), u64_in _ (by omega) (by omega), UInt8.toNat_ofNat']; omega
      refine Ev.step (f := fun k => (parchmentref02_Uint.f k ((n / 128 : Nat) : Int)).bind fun t => if (S [UInt8.ofNat (n % 128 + 128)]).size + t.size ≤ 9223372036854775807 then some (S [UInt8.ofNat (n % 128 + 128)] ++ t) else none) (fun k => ?_) ?_
      · simp only [parchmentref02_Uint.f]
        rw [if_neg (by omega), Option.bind_some, e1, e2]
        have e3 : strOfNums [((UInt8.ofNat (n % 128 + 128)).toNat : Int)] = S [UInt8.ofNat (n % 128 + 128)] := strOf_ints [UInt8.ofNat (n % 128 + 128)]
        rw [e3]
      · refine Ev.bind h1 ?_
        rw [if_pos (by rw [S_size, S_size]; simp only [List.length_cons, List.length_nil]; omega), S_append]
        exact Ev.now _
theorem text_f (t : ByteArray) (h : t.size ≤ 4611686018427387904) : Ev (fun k => enc_Text.f k t) (S (encU t.size ++ t.toList)) := by
  unfold enc_Text.f
  have hl := encU_len t.size (by omega)
  rw [u64_in (t.size : Int) (by omega) (by omega)]
  refine Ev.bind (uint_f t.size (by omega)) ?_
  have e : S (encU t.size) ++ t = S (encU t.size ++ t.toList) := by rw [← S_append, S_of]
  rw [if_pos (by rw [S_size]; omega), e]
  exact Ev.now _
theorem ref_text_f (t : ByteArray) (h : t.size ≤ 4611686018427387904) : Ev (fun k => parchmentref02_Text.f k t) (S (encU t.size ++ t.toList)) := by
  unfold parchmentref02_Text.f
  have hl := encU_len t.size (by omega)
  rw [u64_in (t.size : Int) (by omega) (by omega)]
  refine Ev.bind (ref_uint_f t.size t.size (Nat.le_refl _) (by omega)) ?_
  have e : S (encU t.size) ++ t = S (encU t.size ++ t.toList) := by rw [← S_append, S_of]
  rw [if_pos (by rw [S_size]; omega), e]
  exact Ev.now _
end Go.Proofs.Ytdcbacbilncnnaa.EncL
end
section
/- A revision's bytes, joined: by what holds behind any of the operations. Written by wip/genmeta.py. -/
set_option linter.unusedVariables false
set_option linter.unusedSimpArgs false
namespace Go.Proofs.Ytdcbacbilncnnaa.Mw
open Go.RowKit Go.Proofs.Ytdcbacbilncnnaa Go.Proofs.Ytdcbacbilncnnaa.PMk Go.Proofs.YtdcbacbilncnnaaW.PrintWords Go.Proofs.YtdcbacbilncnnaaW.PrintLast
theorem cases26 {ops : Array Oper} {i : Nat} {o : Oper} (hs : ops.size = 26) (h : ops[i]? = some o) : i = 0 ∨ i = 1 ∨ i = 2 ∨ i = 3 ∨ i = 4 ∨ i = 5 ∨ i = 6 ∨ i = 7 ∨ i = 8 ∨ i = 9 ∨ i = 10 ∨ i = 11 ∨ i = 12 ∨ i = 13 ∨ i = 14 ∨ i = 15 ∨ i = 16 ∨ i = 17 ∨ i = 18 ∨ i = 19 ∨ i = 20 ∨ i = 21 ∨ i = 22 ∨ i = 23 ∨ i = 24 ∨ i = 25 := by
  have hi : i < ops.size := (Array.getElem?_eq_some_iff.1 h).1
  omega
def fr73 (a0 : Int) (a1 a2 : ByteArray) (a3 a4 : Int) (a5 a6 : ByteArray) (a7 : Bool) (g : Nat) (r v3 v4 v5 v6 v7 v8 v9 v10 v11 v12 v13 v14 v15 v16 v17 v18 v19 v20 v21 v22 v23 v24 v25 v26 v27 : Value) : Act := ⟨#[.agg #[.int .i64 a0, .string a1, .string a2, .int .u64 a3, .int .u64 a4, .string a5, .string a6, .bool a7], .pointer (some ⟨g, 0, none⟩), r, v3, v4, v5, v6, v7, v8, v9, v10, v11, v12, v13, v14, v15, v16, v17, v18, v19, v20, v21, v22, v23, v24, v25, v26, v27], []⟩
structure J73 (a0 : Int) (a1 a2 : ByteArray) (a3 a4 : Int) (a5 a6 : ByteArray) (a7 : Bool) (t1 t2 t3 t4 t5 : ByteArray) (g : Nat) (W : World) (b0 b1 b2 b3 b4 b5 b6 b7 b8 b9 b10 b11 b12 b13 b14 b15 b16 b17 b18 b19 b20 b21 b22 b23 b24 b25 : Bool) (r v3 v4 v5 v6 v7 v8 v9 v10 v11 v12 v13 v14 v15 v16 v17 v18 v19 v20 v21 v22 v23 v24 v25 v26 v27 : Value) (W' : World) : Prop where
  hb : Below (g + 1) W W'
  f0 : b0 = true → v3 = .pointer (some ⟨g, 0, none⟩)
  f1 : b1 = true → v4 = .int .i64 a0
  f2 : b2 = true → v5 = .int .u8 (a0 % 256)
  f3 : b3 = true → W'.ownsRow (g + 1) 5 1 v6 1 (nums .u8 [a0 % 256])
  f4 : b4 = true → v7 = .string (strOfNums [a0 % 256])
  f5 : b5 = true → v8 = .pointer (some ⟨g, 1, none⟩)
  f6 : b6 = true → v9 = .string a1
  f7 : b7 = true → v10 = .string t1
  f8 : b8 = true → v11 = .string ((strOfNums [a0 % 256]) ++ t1)
  f9 : b9 = true → v12 = .pointer (some ⟨g, 2, none⟩)
  f10 : b10 = true → v13 = .string a2
  f11 : b11 = true → v14 = .string t2
  f12 : b12 = true → v15 = .string (((strOfNums [a0 % 256]) ++ t1) ++ t2)
  f13 : b13 = true → v16 = .pointer (some ⟨g, 3, none⟩)
  f14 : b14 = true → v17 = .int .u64 a3
  f15 : b15 = true → v18 = .string t3
  f16 : b16 = true → v19 = .string ((((strOfNums [a0 % 256]) ++ t1) ++ t2) ++ t3)
  f17 : b17 = true → v20 = .pointer (some ⟨g, 4, none⟩)
  f18 : b18 = true → v21 = .int .u64 a4
  f19 : b19 = true → v22 = .string t4
  f20 : b20 = true → v23 = .string (((((strOfNums [a0 % 256]) ++ t1) ++ t2) ++ t3) ++ t4)
  f21 : b21 = true → v24 = .pointer (some ⟨g, 5, none⟩)
  f22 : b22 = true → v25 = .string a5
  f23 : b23 = true → v26 = .string t5
  f24 : b24 = true → v27 = .string ((((((strOfNums [a0 % 256]) ++ t1) ++ t2) ++ t3) ++ t4) ++ t5)
  f25 : b25 = true → r = .string ((((((strOfNums [a0 % 256]) ++ t1) ++ t2) ++ t3) ++ t4) ++ t5)
theorem J73.later {a0 : Int} {a1 a2 : ByteArray} {a3 a4 : Int} {a5 a6 : ByteArray} {a7 : Bool} {t1 t2 t3 t4 t5 : ByteArray} {g : Nat} {W W' W'' : World} {b0 b1 b2 b3 b4 b5 b6 b7 b8 b9 b10 b11 b12 b13 b14 b15 b16 b17 b18 b19 b20 b21 b22 b23 b24 b25 : Bool} {r v3 v4 v5 v6 v7 v8 v9 v10 v11 v12 v13 v14 v15 v16 v17 v18 v19 v20 v21 v22 v23 v24 v25 v26 v27 : Value} (j : J73 a0 a1 a2 a3 a4 a5 a6 a7 t1 t2 t3 t4 t5 g W b0 b1 b2 b3 b4 b5 b6 b7 b8 b9 b10 b11 b12 b13 b14 b15 b16 b17 b18 b19 b20 b21 b22 b23 b24 b25 r v3 v4 v5 v6 v7 v8 v9 v10 v11 v12 v13 v14 v15 v16 v17 v18 v19 v20 v21 v22 v23 v24 v25 v26 v27 W') (hz : g + 1 ≤ W.heap.size) (hb : Below W'.heap.size W' W'') : J73 a0 a1 a2 a3 a4 a5 a6 a7 t1 t2 t3 t4 t5 g W b0 b1 b2 b3 b4 b5 b6 b7 b8 b9 b10 b11 b12 b13 b14 b15 b16 b17 b18 b19 b20 b21 b22 b23 b24 b25 r v3 v4 v5 v6 v7 v8 v9 v10 v11 v12 v13 v14 v15 v16 v17 v18 v19 v20 v21 v22 v23 v24 v25 v26 v27 W'' :=
  { j with hb := below_then j.hb (Nat.le_trans hz j.hb.size) hb, f3 := fun k => pw_own_below (j.f3 k) hb }
set_option maxRecDepth 100000 in
set_option maxHeartbeats 8000000 in
theorem meta73 (a0 : Int) (a1 a2 : ByteArray) (a3 a4 : Int) (a5 a6 : ByteArray) (a7 : Bool) (t1 t2 t3 t4 t5 : ByteArray) (w : World)
    (H1 : Hid (∀ w, Calls Try.prog 46 #[.string a1] w fun e w' => e = .returned (.string t1) ∧ Below w.heap.size w w'))
    (H2 : Hid (∀ w, Calls Try.prog 46 #[.string a2] w fun e w' => e = .returned (.string t2) ∧ Below w.heap.size w w'))
    (H3 : Hid (∀ w, Calls Try.prog 45 #[.int .u64 a3] w fun e w' => e = .returned (.string t3) ∧ Below w.heap.size w w'))
    (H4 : Hid (∀ w, Calls Try.prog 45 #[.int .u64 a4] w fun e w' => e = .returned (.string t4) ∧ Below w.heap.size w w'))
    (H5 : Hid (∀ w, Calls Try.prog 46 #[.string a5] w fun e w' => e = .returned (.string t5) ∧ Below w.heap.size w w'))
    (hs : 1 + t1.size + t2.size + t3.size + t4.size + t5.size ≤ 9223372036854775807) :
    Calls Try.prog 73 #[.agg #[.int .i64 a0, .string a1, .string a2, .int .u64 a3, .int .u64 a4, .string a5, .string a6, .bool a7]] w fun e w' => e = .returned (.string ((((((strOfNums [a0 % 256]) ++ t1) ++ t2) ++ t3) ++ t4) ++ t5)) ∧ Below w.heap.size w w' := by
  have s0 : (strOfNums [a0 % 256]).size = 1 := rfl
  have q1 : (9223372036854775807 < (strOfNums [a0 % 256]).size + t1.size) = False := eq_false (by rw [s0]; omega)
  have q2 : (9223372036854775807 < (strOfNums [a0 % 256]).size + t1.size + t2.size) = False := eq_false (by rw [s0]; omega)
  have q3 : (9223372036854775807 < (strOfNums [a0 % 256]).size + t1.size + t2.size + t3.size) = False := eq_false (by rw [s0]; omega)
  have q4 : (9223372036854775807 < (strOfNums [a0 % 256]).size + t1.size + t2.size + t3.size + t4.size) = False := eq_false (by rw [s0]; omega)
  have q5 : (9223372036854775807 < (strOfNums [a0 % 256]).size + t1.size + t2.size + t3.size + t4.size + t5.size) = False := eq_false (by rw [s0]; omega)
  clear hs s0
  go_enter Try.func73, Try.ntmps73
  go_wp2_with fail
  have BK : Hid ((w.alloc (.cells #[.int .i64 a0, .string a1, .string a2, .int .u64 a3, .int .u64 a4, .string a5, .string a6, .bool a7] 47)).heap[w.heap.size]? = some (.cells #[.int .i64 a0, .string a1, .string a2, .int .u64 a3, .int .u64 a4, .string a5, .string a6, .bool a7] 47 (0, 0))) := Lib.hid (heap_alloc_new w _)
  have HB : Hid (Below w.heap.size w (w.alloc (.cells #[.int .i64 a0, .string a1, .string a2, .int .u64 a3, .int .u64 a4, .string a5, .string a6, .bool a7] 47))) := Lib.hid ((Below.refl _ _).alloc (Nat.le_refl _) _)
  have hz : w.heap.size + 1 ≤ (w.alloc (.cells #[.int .i64 a0, .string a1, .string a2, .int .u64 a3, .int .u64 a4, .string a5, .string a6, .bool a7] 47)).heap.size := by simp
  generalize w.alloc (.cells #[.int .i64 a0, .string a1, .string a2, .int .u64 a3, .int .u64 a4, .string a5, .string a6, .bool a7] 47) = W at BK HB hz ⊢
  generalize hg : w.heap.size = g at BK HB hz ⊢
  refine H.wp_region_inv (fun l a W' => ∃ b0 b1 b2 b3 b4 b5 b6 b7 b8 b9 b10 b11 b12 b13 b14 b15 b16 b17 b18 b19 b20 b21 b22 b23 b24 b25 r v3 v4 v5 v6 v7 v8 v9 v10 v11 v12 v13 v14 v15 v16 v17 v18 v19 v20 v21 v22 v23 v24 v25 v26 v27, l = #[b0, b1, b2, b3, b4, b5, b6, b7, b8, b9, b10, b11, b12, b13, b14, b15, b16, b17, b18, b19, b20, b21, b22, b23, b24, b25] ∧ a = fr73 a0 a1 a2 a3 a4 a5 a6 a7 g r v3 v4 v5 v6 v7 v8 v9 v10 v11 v12 v13 v14 v15 v16 v17 v18 v19 v20 v21 v22 v23 v24 v25 v26 v27 ∧ J73 a0 a1 a2 a3 a4 a5 a6 a7 t1 t2 t3 t4 t5 g W b0 b1 b2 b3 b4 b5 b6 b7 b8 b9 b10 b11 b12 b13 b14 b15 b16 b17 b18 b19 b20 b21 b22 b23 b24 b25 r v3 v4 v5 v6 v7 v8 v9 v10 v11 v12 v13 v14 v15 v16 v17 v18 v19 v20 v21 v22 v23 v24 v25 v26 v27 W') (by kernel_rfl) ?_ (H.back_of (by kernel_rfl)) ?_ ?_ ?_
  · rintro l a W' ⟨b0, b1, b2, b3, b4, b5, b6, b7, b8, b9, b10, b11, b12, b13, b14, b15, b16, b17, b18, b19, b20, b21, b22, b23, b24, b25, _, _, _, _, _, _, _, _, _, _, _, _, _, _, _, _, _, _, _, _, _, _, _, _, _, _, rfl, _, _⟩
    rfl
  · rintro l a W' i o ⟨b0, b1, b2, b3, b4, b5, b6, b7, b8, b9, b10, b11, b12, b13, b14, b15, b16, b17, b18, b19, b20, b21, b22, b23, b24, b25, r, v3, v4, v5, v6, v7, v8, v9, v10, v11, v12, v13, v14, v15, v16, v17, v18, v19, v20, v21, v22, v23, v24, v25, v26, v27, rfl, rfl, j⟩ hl ho haf
    have gc : ∀ k v, W.cell? ⟨g, k, none⟩ = some v → W'.cell? ⟨g, k, none⟩ = some v := fun k v h => (World.cell?_of_block (j.hb.block g (Nat.lt_succ_self g))).trans h
    rcases cases26 (by rfl) ho with rfl | rfl | rfl | rfl | rfl | rfl | rfl | rfl | rfl | rfl | rfl | rfl | rfl | rfl | rfl | rfl | rfl | rfl | rfl | rfl | rfl | rfl | rfl | rfl | rfl | rfl
    · refine wpOp_step ho (fun K hK => ?_)
      obtain rfl := Option.some.inj ho
      refine value_ (v := .pointer (some ⟨g, 0, none⟩)) (by rfl) rfl (by unfold fr73; first | (go_simp; done) | (go_simp; rfl)) (hK _ _ ⟨true, b1, b2, b3, b4, b5, b6, b7, b8, b9, b10, b11, b12, b13, b14, b15, b16, b17, b18, b19, b20, b21, b22, b23, b24, b25, r, .pointer (some ⟨g, 0, none⟩), v4, v5, v6, v7, v8, v9, v10, v11, v12, v13, v14, v15, v16, v17, v18, v19, v20, v21, v22, v23, v24, v25, v26, v27, rfl, rfl, { j with f0 := fun _ => rfl }⟩)
    · refine wpOp_step ho (fun K hK => ?_)
      obtain rfl := Option.some.inj ho
      have d0 := j.f0 (haf ⟨0, .data⟩ (by simp) rfl)
      subst d0
      have c := gc 0 _ ((blk_cell BK.out 0).trans rfl)
      refine value_ (v := .int .i64 a0) (by rfl) rfl (by unfold fr73; first | (go_simp; done) | (go_simp; rfl)) (hK _ _ ⟨b0, true, b2, b3, b4, b5, b6, b7, b8, b9, b10, b11, b12, b13, b14, b15, b16, b17, b18, b19, b20, b21, b22, b23, b24, b25, r, .pointer (some ⟨g, 0, none⟩), .int .i64 a0, v5, v6, v7, v8, v9, v10, v11, v12, v13, v14, v15, v16, v17, v18, v19, v20, v21, v22, v23, v24, v25, v26, v27, rfl, rfl, { j with f1 := fun _ => rfl }⟩)
    · refine wpOp_step ho (fun K hK => ?_)
      obtain rfl := Option.some.inj ho
      have d1 := j.f1 (haf ⟨1, .data⟩ (by simp) rfl)
      subst d1
      refine value_ (v := .int .u8 (a0 % 256)) (by rfl) rfl (by unfold fr73; first | (go_simp; done) | (go_simp; rfl)) (hK _ _ ⟨b0, b1, true, b3, b4, b5, b6, b7, b8, b9, b10, b11, b12, b13, b14, b15, b16, b17, b18, b19, b20, b21, b22, b23, b24, b25, r, v3, .int .i64 a0, .int .u8 (a0 % 256), v6, v7, v8, v9, v10, v11, v12, v13, v14, v15, v16, v17, v18, v19, v20, v21, v22, v23, v24, v25, v26, v27, rfl, rfl, { j with f2 := fun _ => rfl }⟩)
    · refine wpOp_step ho (fun K hK => ?_)
      obtain rfl := Option.some.inj ho
      have d2 := j.f2 (haf ⟨2, .data⟩ (by simp) rfl)
      subst d2
      refine value_ (v := .slice (some ⟨W'.heap.size, 0, none⟩) 1 1) (w1 := W'.alloc (.cells #[.int .u8 (a0 % 256)] 5)) (by rfl) rfl (by unfold fr73; first | (go_simp; done) | (go_simp; rfl)) (hK _ _ ⟨b0, b1, b2, true, b4, b5, b6, b7, b8, b9, b10, b11, b12, b13, b14, b15, b16, b17, b18, b19, b20, b21, b22, b23, b24, b25, r, v3, v4, .int .u8 (a0 % 256), .slice (some ⟨W'.heap.size, 0, none⟩) 1 1, v7, v8, v9, v10, v11, v12, v13, v14, v15, v16, v17, v18, v19, v20, v21, v22, v23, v24, v25, v26, v27, rfl, rfl, { j.later (by omega) (below_alloc (Below.refl _ _) _) with f3 := fun _ => ?_ }⟩)
      exact own_lit W' (g + 1) 5 .u8 [a0 % 256] (by have := j.hb.size; omega) (by show (1 : Nat) ≤ 9223372036854775807; decide)
    · refine wpOp_step ho (fun K hK => ?_)
      obtain rfl := Option.some.inj ho
      have d3 := j.f3 (haf ⟨3, .data⟩ (by simp) rfl)
      have c := own_string (P := Try.prog) Try.underlying99 Try.underlying5 Try.underlying9 d3
      refine value_ (v := .string (strOfNums [a0 % 256])) (by rfl) rfl (by unfold fr73; first | (go_simp; done) | (go_simp; rfl)) (hK _ _ ⟨b0, b1, b2, b3, true, b5, b6, b7, b8, b9, b10, b11, b12, b13, b14, b15, b16, b17, b18, b19, b20, b21, b22, b23, b24, b25, r, v3, v4, v5, v6, .string (strOfNums [a0 % 256]), v8, v9, v10, v11, v12, v13, v14, v15, v16, v17, v18, v19, v20, v21, v22, v23, v24, v25, v26, v27, rfl, rfl, { j with f4 := fun _ => rfl }⟩)
    · refine wpOp_step ho (fun K hK => ?_)
      obtain rfl := Option.some.inj ho
      refine value_ (v := .pointer (some ⟨g, 1, none⟩)) (by rfl) rfl (by unfold fr73; first | (go_simp; done) | (go_simp; rfl)) (hK _ _ ⟨b0, b1, b2, b3, b4, true, b6, b7, b8, b9, b10, b11, b12, b13, b14, b15, b16, b17, b18, b19, b20, b21, b22, b23, b24, b25, r, v3, v4, v5, v6, v7, .pointer (some ⟨g, 1, none⟩), v9, v10, v11, v12, v13, v14, v15, v16, v17, v18, v19, v20, v21, v22, v23, v24, v25, v26, v27, rfl, rfl, { j with f5 := fun _ => rfl }⟩)
    · refine wpOp_step ho (fun K hK => ?_)
      obtain rfl := Option.some.inj ho
      have d5 := j.f5 (haf ⟨5, .data⟩ (by simp) rfl)
      subst d5
      have c := gc 1 _ ((blk_cell BK.out 1).trans rfl)
      refine value_ (v := .string a1) (by rfl) rfl (by unfold fr73; first | (go_simp; done) | (go_simp; rfl)) (hK _ _ ⟨b0, b1, b2, b3, b4, b5, true, b7, b8, b9, b10, b11, b12, b13, b14, b15, b16, b17, b18, b19, b20, b21, b22, b23, b24, b25, r, v3, v4, v5, v6, v7, .pointer (some ⟨g, 1, none⟩), .string a1, v10, v11, v12, v13, v14, v15, v16, v17, v18, v19, v20, v21, v22, v23, v24, v25, v26, v27, rfl, rfl, { j with f6 := fun _ => rfl }⟩)
    · refine wpOp_step ho (fun K hK => ?_)
      obtain rfl := Option.some.inj ho
      have d6 := j.f6 (haf ⟨6, .data⟩ (by simp) rfl)
      subst d6
      refine goes_ Try.func46 (by kernel_rfl) rfl #[.string a1] (by rfl) rfl rfl (by simp only [List.map_toArray, List.map_cons, List.map_nil]; rfl) ?_
      refine (H1.out W').mono ?_
      rintro e W'' ⟨rfl, hb⟩
      exact ⟨_, rfl, hK _ _ ⟨b0, b1, b2, b3, b4, b5, b6, true, b8, b9, b10, b11, b12, b13, b14, b15, b16, b17, b18, b19, b20, b21, b22, b23, b24, b25, r, v3, v4, v5, v6, v7, v8, .string a1, .string t1, v11, v12, v13, v14, v15, v16, v17, v18, v19, v20, v21, v22, v23, v24, v25, v26, v27, rfl, rfl, { j.later (by omega) hb with f7 := fun _ => rfl }⟩⟩
    · refine wpOp_step ho (fun K hK => ?_)
      obtain rfl := Option.some.inj ho
      have d4 := j.f4 (haf ⟨4, .data⟩ (by simp) rfl)
      have d7 := j.f7 (haf ⟨7, .data⟩ (by simp) rfl)
      subst d4; subst d7
      refine value_ (v := .string ((strOfNums [a0 % 256]) ++ t1)) (by rfl) rfl (by unfold fr73; first | (go_simp; done) | (go_simp; rfl)) (hK _ _ ⟨b0, b1, b2, b3, b4, b5, b6, b7, true, b9, b10, b11, b12, b13, b14, b15, b16, b17, b18, b19, b20, b21, b22, b23, b24, b25, r, v3, v4, v5, v6, .string (strOfNums [a0 % 256]), v8, v9, .string t1, .string ((strOfNums [a0 % 256]) ++ t1), v12, v13, v14, v15, v16, v17, v18, v19, v20, v21, v22, v23, v24, v25, v26, v27, rfl, rfl, { j with f8 := fun _ => rfl }⟩)
    · refine wpOp_step ho (fun K hK => ?_)
      obtain rfl := Option.some.inj ho
      refine value_ (v := .pointer (some ⟨g, 2, none⟩)) (by rfl) rfl (by unfold fr73; first | (go_simp; done) | (go_simp; rfl)) (hK _ _ ⟨b0, b1, b2, b3, b4, b5, b6, b7, b8, true, b10, b11, b12, b13, b14, b15, b16, b17, b18, b19, b20, b21, b22, b23, b24, b25, r, v3, v4, v5, v6, v7, v8, v9, v10, v11, .pointer (some ⟨g, 2, none⟩), v13, v14, v15, v16, v17, v18, v19, v20, v21, v22, v23, v24, v25, v26, v27, rfl, rfl, { j with f9 := fun _ => rfl }⟩)
    · refine wpOp_step ho (fun K hK => ?_)
      obtain rfl := Option.some.inj ho
      have d9 := j.f9 (haf ⟨9, .data⟩ (by simp) rfl)
      subst d9
      have c := gc 2 _ ((blk_cell BK.out 2).trans rfl)
      refine value_ (v := .string a2) (by rfl) rfl (by unfold fr73; first | (go_simp; done) | (go_simp; rfl)) (hK _ _ ⟨b0, b1, b2, b3, b4, b5, b6, b7, b8, b9, true, b11, b12, b13, b14, b15, b16, b17, b18, b19, b20, b21, b22, b23, b24, b25, r, v3, v4, v5, v6, v7, v8, v9, v10, v11, .pointer (some ⟨g, 2, none⟩), .string a2, v14, v15, v16, v17, v18, v19, v20, v21, v22, v23, v24, v25, v26, v27, rfl, rfl, { j with f10 := fun _ => rfl }⟩)
    · refine wpOp_step ho (fun K hK => ?_)
      obtain rfl := Option.some.inj ho
      have d10 := j.f10 (haf ⟨10, .data⟩ (by simp) rfl)
      subst d10
      refine goes_ Try.func46 (by kernel_rfl) rfl #[.string a2] (by rfl) rfl rfl (by simp only [List.map_toArray, List.map_cons, List.map_nil]; rfl) ?_
      refine (H2.out W').mono ?_
      rintro e W'' ⟨rfl, hb⟩
      exact ⟨_, rfl, hK _ _ ⟨b0, b1, b2, b3, b4, b5, b6, b7, b8, b9, b10, true, b12, b13, b14, b15, b16, b17, b18, b19, b20, b21, b22, b23, b24, b25, r, v3, v4, v5, v6, v7, v8, v9, v10, v11, v12, .string a2, .string t2, v15, v16, v17, v18, v19, v20, v21, v22, v23, v24, v25, v26, v27, rfl, rfl, { j.later (by omega) hb with f11 := fun _ => rfl }⟩⟩
    · refine wpOp_step ho (fun K hK => ?_)
      obtain rfl := Option.some.inj ho
      have d8 := j.f8 (haf ⟨8, .data⟩ (by simp) rfl)
      have d11 := j.f11 (haf ⟨11, .data⟩ (by simp) rfl)
      subst d8; subst d11
      refine value_ (v := .string (((strOfNums [a0 % 256]) ++ t1) ++ t2)) (by rfl) rfl (by unfold fr73; first | (go_simp; done) | (go_simp; rfl)) (hK _ _ ⟨b0, b1, b2, b3, b4, b5, b6, b7, b8, b9, b10, b11, true, b13, b14, b15, b16, b17, b18, b19, b20, b21, b22, b23, b24, b25, r, v3, v4, v5, v6, v7, v8, v9, v10, .string ((strOfNums [a0 % 256]) ++ t1), v12, v13, .string t2, .string (((strOfNums [a0 % 256]) ++ t1) ++ t2), v16, v17, v18, v19, v20, v21, v22, v23, v24, v25, v26, v27, rfl, rfl, { j with f12 := fun _ => rfl }⟩)
    · refine wpOp_step ho (fun K hK => ?_)
      obtain rfl := Option.some.inj ho
      refine value_ (v := .pointer (some ⟨g, 3, none⟩)) (by rfl) rfl (by unfold fr73; first | (go_simp; done) | (go_simp; rfl)) (hK _ _ ⟨b0, b1, b2, b3, b4, b5, b6, b7, b8, b9, b10, b11, b12, true, b14, b15, b16, b17, b18, b19, b20, b21, b22, b23, b24, b25, r, v3, v4, v5, v6, v7, v8, v9, v10, v11, v12, v13, v14, v15, .pointer (some ⟨g, 3, none⟩), v17, v18, v19, v20, v21, v22, v23, v24, v25, v26, v27, rfl, rfl, { j with f13 := fun _ => rfl }⟩)
    · refine wpOp_step ho (fun K hK => ?_)
      obtain rfl := Option.some.inj ho
      have d13 := j.f13 (haf ⟨13, .data⟩ (by simp) rfl)
      subst d13
      have c := gc 3 _ ((blk_cell BK.out 3).trans rfl)
      refine value_ (v := .int .u64 a3) (by rfl) rfl (by unfold fr73; first | (go_simp; done) | (go_simp; rfl)) (hK _ _ ⟨b0, b1, b2, b3, b4, b5, b6, b7, b8, b9, b10, b11, b12, b13, true, b15, b16, b17, b18, b19, b20, b21, b22, b23, b24, b25, r, v3, v4, v5, v6, v7, v8, v9, v10, v11, v12, v13, v14, v15, .pointer (some ⟨g, 3, none⟩), .int .u64 a3, v18, v19, v20, v21, v22, v23, v24, v25, v26, v27, rfl, rfl, { j with f14 := fun _ => rfl }⟩)
    · refine wpOp_step ho (fun K hK => ?_)
      obtain rfl := Option.some.inj ho
      have d14 := j.f14 (haf ⟨14, .data⟩ (by simp) rfl)
      subst d14
      refine goes_ Try.func45 (by kernel_rfl) rfl #[.int .u64 a3] (by rfl) rfl rfl (by simp only [List.map_toArray, List.map_cons, List.map_nil]; rfl) ?_
      refine (H3.out W').mono ?_
      rintro e W'' ⟨rfl, hb⟩
      exact ⟨_, rfl, hK _ _ ⟨b0, b1, b2, b3, b4, b5, b6, b7, b8, b9, b10, b11, b12, b13, b14, true, b16, b17, b18, b19, b20, b21, b22, b23, b24, b25, r, v3, v4, v5, v6, v7, v8, v9, v10, v11, v12, v13, v14, v15, v16, .int .u64 a3, .string t3, v19, v20, v21, v22, v23, v24, v25, v26, v27, rfl, rfl, { j.later (by omega) hb with f15 := fun _ => rfl }⟩⟩
    · refine wpOp_step ho (fun K hK => ?_)
      obtain rfl := Option.some.inj ho
      have d12 := j.f12 (haf ⟨12, .data⟩ (by simp) rfl)
      have d15 := j.f15 (haf ⟨15, .data⟩ (by simp) rfl)
      subst d12; subst d15
      refine value_ (v := .string ((((strOfNums [a0 % 256]) ++ t1) ++ t2) ++ t3)) (by rfl) rfl (by unfold fr73; first | (go_simp; done) | (go_simp; rfl)) (hK _ _ ⟨b0, b1, b2, b3, b4, b5, b6, b7, b8, b9, b10, b11, b12, b13, b14, b15, true, b17, b18, b19, b20, b21, b22, b23, b24, b25, r, v3, v4, v5, v6, v7, v8, v9, v10, v11, v12, v13, v14, .string (((strOfNums [a0 % 256]) ++ t1) ++ t2), v16, v17, .string t3, .string ((((strOfNums [a0 % 256]) ++ t1) ++ t2) ++ t3), v20, v21, v22, v23, v24, v25, v26, v27, rfl, rfl, { j with f16 := fun _ => rfl }⟩)
    · refine wpOp_step ho (fun K hK => ?_)
      obtain rfl := Option.some.inj ho
      refine value_ (v := .pointer (some ⟨g, 4, none⟩)) (by rfl) rfl (by unfold fr73; first | (go_simp; done) | (go_simp; rfl)) (hK _ _ ⟨b0, b1, b2, b3, b4, b5, b6, b7, b8, b9, b10, b11, b12, b13, b14, b15, b16, true, b18, b19, b20, b21, b22, b23, b24, b25, r, v3, v4, v5, v6, v7, v8, v9, v10, v11, v12, v13, v14, v15, v16, v17, v18, v19, .pointer (some ⟨g, 4, none⟩), v21, v22, v23, v24, v25, v26, v27, rfl, rfl, { j with f17 := fun _ => rfl }⟩)
    · refine wpOp_step ho (fun K hK => ?_)
      obtain rfl := Option.some.inj ho
      have d17 := j.f17 (haf ⟨17, .data⟩ (by simp) rfl)
      subst d17
      have c := gc 4 _ ((blk_cell BK.out 4).trans rfl)
      refine value_ (v := .int .u64 a4) (by rfl) rfl (by unfold fr73; first | (go_simp; done) | (go_simp; rfl)) (hK _ _ ⟨b0, b1, b2, b3, b4, b5, b6, b7, b8, b9, b10, b11, b12, b13, b14, b15, b16, b17, true, b19, b20, b21, b22, b23, b24, b25, r, v3, v4, v5, v6, v7, v8, v9, v10, v11, v12, v13, v14, v15, v16, v17, v18, v19, .pointer (some ⟨g, 4, none⟩), .int .u64 a4, v22, v23, v24, v25, v26, v27, rfl, rfl, { j with f18 := fun _ => rfl }⟩)
    · refine wpOp_step ho (fun K hK => ?_)
      obtain rfl := Option.some.inj ho
      have d18 := j.f18 (haf ⟨18, .data⟩ (by simp) rfl)
      subst d18
      refine goes_ Try.func45 (by kernel_rfl) rfl #[.int .u64 a4] (by rfl) rfl rfl (by simp only [List.map_toArray, List.map_cons, List.map_nil]; rfl) ?_
      refine (H4.out W').mono ?_
      rintro e W'' ⟨rfl, hb⟩
      exact ⟨_, rfl, hK _ _ ⟨b0, b1, b2, b3, b4, b5, b6, b7, b8, b9, b10, b11, b12, b13, b14, b15, b16, b17, b18, true, b20, b21, b22, b23, b24, b25, r, v3, v4, v5, v6, v7, v8, v9, v10, v11, v12, v13, v14, v15, v16, v17, v18, v19, v20, .int .u64 a4, .string t4, v23, v24, v25, v26, v27, rfl, rfl, { j.later (by omega) hb with f19 := fun _ => rfl }⟩⟩
    · refine wpOp_step ho (fun K hK => ?_)
      obtain rfl := Option.some.inj ho
      have d16 := j.f16 (haf ⟨16, .data⟩ (by simp) rfl)
      have d19 := j.f19 (haf ⟨19, .data⟩ (by simp) rfl)
      subst d16; subst d19
      refine value_ (v := .string (((((strOfNums [a0 % 256]) ++ t1) ++ t2) ++ t3) ++ t4)) (by rfl) rfl (by unfold fr73; first | (go_simp; done) | (go_simp; rfl)) (hK _ _ ⟨b0, b1, b2, b3, b4, b5, b6, b7, b8, b9, b10, b11, b12, b13, b14, b15, b16, b17, b18, b19, true, b21, b22, b23, b24, b25, r, v3, v4, v5, v6, v7, v8, v9, v10, v11, v12, v13, v14, v15, v16, v17, v18, .string ((((strOfNums [a0 % 256]) ++ t1) ++ t2) ++ t3), v20, v21, .string t4, .string (((((strOfNums [a0 % 256]) ++ t1) ++ t2) ++ t3) ++ t4), v24, v25, v26, v27, rfl, rfl, { j with f20 := fun _ => rfl }⟩)
    · refine wpOp_step ho (fun K hK => ?_)
      obtain rfl := Option.some.inj ho
      refine value_ (v := .pointer (some ⟨g, 5, none⟩)) (by rfl) rfl (by unfold fr73; first | (go_simp; done) | (go_simp; rfl)) (hK _ _ ⟨b0, b1, b2, b3, b4, b5, b6, b7, b8, b9, b10, b11, b12, b13, b14, b15, b16, b17, b18, b19, b20, true, b22, b23, b24, b25, r, v3, v4, v5, v6, v7, v8, v9, v10, v11, v12, v13, v14, v15, v16, v17, v18, v19, v20, v21, v22, v23, .pointer (some ⟨g, 5, none⟩), v25, v26, v27, rfl, rfl, { j with f21 := fun _ => rfl }⟩)
    · refine wpOp_step ho (fun K hK => ?_)
      obtain rfl := Option.some.inj ho
      have d21 := j.f21 (haf ⟨21, .data⟩ (by simp) rfl)
      subst d21
      have c := gc 5 _ ((blk_cell BK.out 5).trans rfl)
      refine value_ (v := .string a5) (by rfl) rfl (by unfold fr73; first | (go_simp; done) | (go_simp; rfl)) (hK _ _ ⟨b0, b1, b2, b3, b4, b5, b6, b7, b8, b9, b10, b11, b12, b13, b14, b15, b16, b17, b18, b19, b20, b21, true, b23, b24, b25, r, v3, v4, v5, v6, v7, v8, v9, v10, v11, v12, v13, v14, v15, v16, v17, v18, v19, v20, v21, v22, v23, .pointer (some ⟨g, 5, none⟩), .string a5, v26, v27, rfl, rfl, { j with f22 := fun _ => rfl }⟩)
    · refine wpOp_step ho (fun K hK => ?_)
      obtain rfl := Option.some.inj ho
      have d22 := j.f22 (haf ⟨22, .data⟩ (by simp) rfl)
      subst d22
      refine goes_ Try.func46 (by kernel_rfl) rfl #[.string a5] (by rfl) rfl rfl (by simp only [List.map_toArray, List.map_cons, List.map_nil]; rfl) ?_
      refine (H5.out W').mono ?_
      rintro e W'' ⟨rfl, hb⟩
      exact ⟨_, rfl, hK _ _ ⟨b0, b1, b2, b3, b4, b5, b6, b7, b8, b9, b10, b11, b12, b13, b14, b15, b16, b17, b18, b19, b20, b21, b22, true, b24, b25, r, v3, v4, v5, v6, v7, v8, v9, v10, v11, v12, v13, v14, v15, v16, v17, v18, v19, v20, v21, v22, v23, v24, .string a5, .string t5, v27, rfl, rfl, { j.later (by omega) hb with f23 := fun _ => rfl }⟩⟩
    · refine wpOp_step ho (fun K hK => ?_)
      obtain rfl := Option.some.inj ho
      have d20 := j.f20 (haf ⟨20, .data⟩ (by simp) rfl)
      have d23 := j.f23 (haf ⟨23, .data⟩ (by simp) rfl)
      subst d20; subst d23
      refine value_ (v := .string ((((((strOfNums [a0 % 256]) ++ t1) ++ t2) ++ t3) ++ t4) ++ t5)) (by rfl) rfl (by unfold fr73; first | (go_simp; done) | (go_simp; rfl)) (hK _ _ ⟨b0, b1, b2, b3, b4, b5, b6, b7, b8, b9, b10, b11, b12, b13, b14, b15, b16, b17, b18, b19, b20, b21, b22, b23, true, b25, r, v3, v4, v5, v6, v7, v8, v9, v10, v11, v12, v13, v14, v15, v16, v17, v18, v19, v20, v21, v22, .string (((((strOfNums [a0 % 256]) ++ t1) ++ t2) ++ t3) ++ t4), v24, v25, .string t5, .string ((((((strOfNums [a0 % 256]) ++ t1) ++ t2) ++ t3) ++ t4) ++ t5), rfl, rfl, { j with f24 := fun _ => rfl }⟩)
    · refine wpOp_step ho (fun K hK => ?_)
      obtain rfl := Option.some.inj ho
      have d24 := j.f24 (haf ⟨24, .data⟩ (by simp) rfl)
      subst d24
      refine value_ (v := .string ((((((strOfNums [a0 % 256]) ++ t1) ++ t2) ++ t3) ++ t4) ++ t5)) (by rfl) rfl (by unfold fr73; first | (go_simp; done) | (go_simp; rfl)) (hK _ _ ⟨b0, b1, b2, b3, b4, b5, b6, b7, b8, b9, b10, b11, b12, b13, b14, b15, b16, b17, b18, b19, b20, b21, b22, b23, b24, true, .string ((((((strOfNums [a0 % 256]) ++ t1) ++ t2) ++ t3) ++ t4) ++ t5), v3, v4, v5, v6, v7, v8, v9, v10, v11, v12, v13, v14, v15, v16, v17, v18, v19, v20, v21, v22, v23, v24, v25, v26, .string ((((((strOfNums [a0 % 256]) ++ t1) ++ t2) ++ t3) ++ t4) ++ t5), rfl, rfl, { j with f25 := fun _ => rfl }⟩)
  · exact ⟨false, false, false, false, false, false, false, false, false, false, false, false, false, false, false, false, false, false, false, false, false, false, false, false, false, false, .string ⟨#[]⟩, undef, undef, undef, undef, undef, undef, undef, undef, undef, undef, undef, undef, undef, undef, undef, undef, undef, undef, undef, undef, undef, undef, undef, undef, undef, rfl, rfl, { hb := below_drew (Below.refl _ _), f0 := fun h => (by cases h), f1 := fun h => (by cases h), f2 := fun h => (by cases h), f3 := fun h => (by cases h), f4 := fun h => (by cases h), f5 := fun h => (by cases h), f6 := fun h => (by cases h), f7 := fun h => (by cases h), f8 := fun h => (by cases h), f9 := fun h => (by cases h), f10 := fun h => (by cases h), f11 := fun h => (by cases h), f12 := fun h => (by cases h), f13 := fun h => (by cases h), f14 := fun h => (by cases h), f15 := fun h => (by cases h), f16 := fun h => (by cases h), f17 := fun h => (by cases h), f18 := fun h => (by cases h), f19 := fun h => (by cases h), f20 := fun h => (by cases h), f21 := fun h => (by cases h), f22 := fun h => (by cases h), f23 := fun h => (by cases h), f24 := fun h => (by cases h), f25 := fun h => (by cases h) }⟩
  · rintro l a W' ⟨b0, b1, b2, b3, b4, b5, b6, b7, b8, b9, b10, b11, b12, b13, b14, b15, b16, b17, b18, b19, b20, b21, b22, b23, b24, b25, r, v3, v4, v5, v6, v7, v8, v9, v10, v11, v12, v13, v14, v15, v16, v17, v18, v19, v20, v21, v22, v23, v24, v25, v26, v27, rfl, rfl, j⟩ hall
    obtain rfl := j.f25 (hall 25 (by decide))
    go_wp2
    unfold fr73
    go_ret
    exact ⟨rfl, by rw [hg]; exact HB.out.trans (j.hb.mono (by omega))⟩
def fr36 (a0 : Int) (a1 a2 : ByteArray) (a3 a4 : Int) (a5 a6 : ByteArray) (a7 : Bool) (g : Nat) (r v3 v4 v5 v6 v7 v8 v9 v10 v11 v12 v13 v14 v15 v16 v17 v18 v19 v20 v21 v22 v23 v24 v25 v26 v27 : Value) : Act := ⟨#[.agg #[.int .i64 a0, .string a1, .string a2, .int .u64 a3, .int .u64 a4, .string a5, .string a6, .bool a7], .pointer (some ⟨g, 0, none⟩), r, v3, v4, v5, v6, v7, v8, v9, v10, v11, v12, v13, v14, v15, v16, v17, v18, v19, v20, v21, v22, v23, v24, v25, v26, v27], []⟩
structure J36 (a0 : Int) (a1 a2 : ByteArray) (a3 a4 : Int) (a5 a6 : ByteArray) (a7 : Bool) (t1 t2 t3 t4 t5 : ByteArray) (g : Nat) (W : World) (b0 b1 b2 b3 b4 b5 b6 b7 b8 b9 b10 b11 b12 b13 b14 b15 b16 b17 b18 b19 b20 b21 b22 b23 b24 b25 : Bool) (r v3 v4 v5 v6 v7 v8 v9 v10 v11 v12 v13 v14 v15 v16 v17 v18 v19 v20 v21 v22 v23 v24 v25 v26 v27 : Value) (W' : World) : Prop where
  hb : Below (g + 1) W W'
  f0 : b0 = true → v3 = .pointer (some ⟨g, 0, none⟩)
  f1 : b1 = true → v4 = .int .i64 a0
  f2 : b2 = true → v5 = .int .u8 (a0 % 256)
  f3 : b3 = true → W'.ownsRow (g + 1) 5 1 v6 1 (nums .u8 [a0 % 256])
  f4 : b4 = true → v7 = .string (strOfNums [a0 % 256])
  f5 : b5 = true → v8 = .pointer (some ⟨g, 1, none⟩)
  f6 : b6 = true → v9 = .string a1
  f7 : b7 = true → v10 = .string t1
  f8 : b8 = true → v11 = .string ((strOfNums [a0 % 256]) ++ t1)
  f9 : b9 = true → v12 = .pointer (some ⟨g, 2, none⟩)
  f10 : b10 = true → v13 = .string a2
  f11 : b11 = true → v14 = .string t2
  f12 : b12 = true → v15 = .string (((strOfNums [a0 % 256]) ++ t1) ++ t2)
  f13 : b13 = true → v16 = .pointer (some ⟨g, 3, none⟩)
  f14 : b14 = true → v17 = .int .u64 a3
  f15 : b15 = true → v18 = .string t3
  f16 : b16 = true → v19 = .string ((((strOfNums [a0 % 256]) ++ t1) ++ t2) ++ t3)
  f17 : b17 = true → v20 = .pointer (some ⟨g, 4, none⟩)
  f18 : b18 = true → v21 = .int .u64 a4
  f19 : b19 = true → v22 = .string t4
  f20 : b20 = true → v23 = .string (((((strOfNums [a0 % 256]) ++ t1) ++ t2) ++ t3) ++ t4)
  f21 : b21 = true → v24 = .pointer (some ⟨g, 5, none⟩)
  f22 : b22 = true → v25 = .string a5
  f23 : b23 = true → v26 = .string t5
  f24 : b24 = true → v27 = .string ((((((strOfNums [a0 % 256]) ++ t1) ++ t2) ++ t3) ++ t4) ++ t5)
  f25 : b25 = true → r = .string ((((((strOfNums [a0 % 256]) ++ t1) ++ t2) ++ t3) ++ t4) ++ t5)
theorem J36.later {a0 : Int} {a1 a2 : ByteArray} {a3 a4 : Int} {a5 a6 : ByteArray} {a7 : Bool} {t1 t2 t3 t4 t5 : ByteArray} {g : Nat} {W W' W'' : World} {b0 b1 b2 b3 b4 b5 b6 b7 b8 b9 b10 b11 b12 b13 b14 b15 b16 b17 b18 b19 b20 b21 b22 b23 b24 b25 : Bool} {r v3 v4 v5 v6 v7 v8 v9 v10 v11 v12 v13 v14 v15 v16 v17 v18 v19 v20 v21 v22 v23 v24 v25 v26 v27 : Value} (j : J36 a0 a1 a2 a3 a4 a5 a6 a7 t1 t2 t3 t4 t5 g W b0 b1 b2 b3 b4 b5 b6 b7 b8 b9 b10 b11 b12 b13 b14 b15 b16 b17 b18 b19 b20 b21 b22 b23 b24 b25 r v3 v4 v5 v6 v7 v8 v9 v10 v11 v12 v13 v14 v15 v16 v17 v18 v19 v20 v21 v22 v23 v24 v25 v26 v27 W') (hz : g + 1 ≤ W.heap.size) (hb : Below W'.heap.size W' W'') : J36 a0 a1 a2 a3 a4 a5 a6 a7 t1 t2 t3 t4 t5 g W b0 b1 b2 b3 b4 b5 b6 b7 b8 b9 b10 b11 b12 b13 b14 b15 b16 b17 b18 b19 b20 b21 b22 b23 b24 b25 r v3 v4 v5 v6 v7 v8 v9 v10 v11 v12 v13 v14 v15 v16 v17 v18 v19 v20 v21 v22 v23 v24 v25 v26 v27 W'' :=
  { j with hb := below_then j.hb (Nat.le_trans hz j.hb.size) hb, f3 := fun k => pw_own_below (j.f3 k) hb }
set_option maxRecDepth 100000 in
set_option maxHeartbeats 8000000 in
theorem meta36 (a0 : Int) (a1 a2 : ByteArray) (a3 a4 : Int) (a5 a6 : ByteArray) (a7 : Bool) (t1 t2 t3 t4 t5 : ByteArray) (w : World)
    (H1 : Hid (∀ w, Calls Try.prog 46 #[.string a1] w fun e w' => e = .returned (.string t1) ∧ Below w.heap.size w w'))
    (H2 : Hid (∀ w, Calls Try.prog 46 #[.string a2] w fun e w' => e = .returned (.string t2) ∧ Below w.heap.size w w'))
    (H3 : Hid (∀ w, Calls Try.prog 45 #[.int .u64 a3] w fun e w' => e = .returned (.string t3) ∧ Below w.heap.size w w'))
    (H4 : Hid (∀ w, Calls Try.prog 45 #[.int .u64 a4] w fun e w' => e = .returned (.string t4) ∧ Below w.heap.size w w'))
    (H5 : Hid (∀ w, Calls Try.prog 46 #[.string a5] w fun e w' => e = .returned (.string t5) ∧ Below w.heap.size w w'))
    (hs : 1 + t1.size + t2.size + t3.size + t4.size + t5.size ≤ 9223372036854775807) :
    Calls Try.prog 36 #[.agg #[.int .i64 a0, .string a1, .string a2, .int .u64 a3, .int .u64 a4, .string a5, .string a6, .bool a7]] w fun e w' => e = .returned (.string ((((((strOfNums [a0 % 256]) ++ t1) ++ t2) ++ t3) ++ t4) ++ t5)) ∧ Below w.heap.size w w' := by
  have s0 : (strOfNums [a0 % 256]).size = 1 := rfl
  have q1 : (9223372036854775807 < (strOfNums [a0 % 256]).size + t1.size) = False := eq_false (by rw [s0]; omega)
  have q2 : (9223372036854775807 < (strOfNums [a0 % 256]).size + t1.size + t2.size) = False := eq_false (by rw [s0]; omega)
  have q3 : (9223372036854775807 < (strOfNums [a0 % 256]).size + t1.size + t2.size + t3.size) = False := eq_false (by rw [s0]; omega)
  have q4 : (9223372036854775807 < (strOfNums [a0 % 256]).size + t1.size + t2.size + t3.size + t4.size) = False := eq_false (by rw [s0]; omega)
  have q5 : (9223372036854775807 < (strOfNums [a0 % 256]).size + t1.size + t2.size + t3.size + t4.size + t5.size) = False := eq_false (by rw [s0]; omega)
  clear hs s0
  go_enter Try.func36, Try.ntmps36
  go_wp2_with fail
  have BK : Hid ((w.alloc (.cells #[.int .i64 a0, .string a1, .string a2, .int .u64 a3, .int .u64 a4, .string a5, .string a6, .bool a7] 47)).heap[w.heap.size]? = some (.cells #[.int .i64 a0, .string a1, .string a2, .int .u64 a3, .int .u64 a4, .string a5, .string a6, .bool a7] 47 (0, 0))) := Lib.hid (heap_alloc_new w _)
  have HB : Hid (Below w.heap.size w (w.alloc (.cells #[.int .i64 a0, .string a1, .string a2, .int .u64 a3, .int .u64 a4, .string a5, .string a6, .bool a7] 47))) := Lib.hid ((Below.refl _ _).alloc (Nat.le_refl _) _)
  have hz : w.heap.size + 1 ≤ (w.alloc (.cells #[.int .i64 a0, .string a1, .string a2, .int .u64 a3, .int .u64 a4, .string a5, .string a6, .bool a7] 47)).heap.size := by simp
  generalize w.alloc (.cells #[.int .i64 a0, .string a1, .string a2, .int .u64 a3, .int .u64 a4, .string a5, .string a6, .bool a7] 47) = W at BK HB hz ⊢
  generalize hg : w.heap.size = g at BK HB hz ⊢
  refine H.wp_region_inv (fun l a W' => ∃ b0 b1 b2 b3 b4 b5 b6 b7 b8 b9 b10 b11 b12 b13 b14 b15 b16 b17 b18 b19 b20 b21 b22 b23 b24 b25 r v3 v4 v5 v6 v7 v8 v9 v10 v11 v12 v13 v14 v15 v16 v17 v18 v19 v20 v21 v22 v23 v24 v25 v26 v27, l = #[b0, b1, b2, b3, b4, b5, b6, b7, b8, b9, b10, b11, b12, b13, b14, b15, b16, b17, b18, b19, b20, b21, b22, b23, b24, b25] ∧ a = fr36 a0 a1 a2 a3 a4 a5 a6 a7 g r v3 v4 v5 v6 v7 v8 v9 v10 v11 v12 v13 v14 v15 v16 v17 v18 v19 v20 v21 v22 v23 v24 v25 v26 v27 ∧ J36 a0 a1 a2 a3 a4 a5 a6 a7 t1 t2 t3 t4 t5 g W b0 b1 b2 b3 b4 b5 b6 b7 b8 b9 b10 b11 b12 b13 b14 b15 b16 b17 b18 b19 b20 b21 b22 b23 b24 b25 r v3 v4 v5 v6 v7 v8 v9 v10 v11 v12 v13 v14 v15 v16 v17 v18 v19 v20 v21 v22 v23 v24 v25 v26 v27 W') (by kernel_rfl) ?_ (H.back_of (by kernel_rfl)) ?_ ?_ ?_
  · rintro l a W' ⟨b0, b1, b2, b3, b4, b5, b6, b7, b8, b9, b10, b11, b12, b13, b14, b15, b16, b17, b18, b19, b20, b21, b22, b23, b24, b25, _, _, _, _, _, _, _, _, _, _, _, _, _, _, _, _, _, _, _, _, _, _, _, _, _, _, rfl, _, _⟩
    rfl
  · rintro l a W' i o ⟨b0, b1, b2, b3, b4, b5, b6, b7, b8, b9, b10, b11, b12, b13, b14, b15, b16, b17, b18, b19, b20, b21, b22, b23, b24, b25, r, v3, v4, v5, v6, v7, v8, v9, v10, v11, v12, v13, v14, v15, v16, v17, v18, v19, v20, v21, v22, v23, v24, v25, v26, v27, rfl, rfl, j⟩ hl ho haf
    have gc : ∀ k v, W.cell? ⟨g, k, none⟩ = some v → W'.cell? ⟨g, k, none⟩ = some v := fun k v h => (World.cell?_of_block (j.hb.block g (Nat.lt_succ_self g))).trans h
    rcases cases26 (by rfl) ho with rfl | rfl | rfl | rfl | rfl | rfl | rfl | rfl | rfl | rfl | rfl | rfl | rfl | rfl | rfl | rfl | rfl | rfl | rfl | rfl | rfl | rfl | rfl | rfl | rfl | rfl
    · refine wpOp_step ho (fun K hK => ?_)
      obtain rfl := Option.some.inj ho
      refine value_ (v := .pointer (some ⟨g, 0, none⟩)) (by rfl) rfl (by unfold fr36; first | (go_simp; done) | (go_simp; rfl)) (hK _ _ ⟨true, b1, b2, b3, b4, b5, b6, b7, b8, b9, b10, b11, b12, b13, b14, b15, b16, b17, b18, b19, b20, b21, b22, b23, b24, b25, r, .pointer (some ⟨g, 0, none⟩), v4, v5, v6, v7, v8, v9, v10, v11, v12, v13, v14, v15, v16, v17, v18, v19, v20, v21, v22, v23, v24, v25, v26, v27, rfl, rfl, { j with f0 := fun _ => rfl }⟩)
    · refine wpOp_step ho (fun K hK => ?_)
      obtain rfl := Option.some.inj ho
      have d0 := j.f0 (haf ⟨0, .data⟩ (by simp) rfl)
      subst d0
      have c := gc 0 _ ((blk_cell BK.out 0).trans rfl)
      refine value_ (v := .int .i64 a0) (by rfl) rfl (by unfold fr36; first | (go_simp; done) | (go_simp; rfl)) (hK _ _ ⟨b0, true, b2, b3, b4, b5, b6, b7, b8, b9, b10, b11, b12, b13, b14, b15, b16, b17, b18, b19, b20, b21, b22, b23, b24, b25, r, .pointer (some ⟨g, 0, none⟩), .int .i64 a0, v5, v6, v7, v8, v9, v10, v11, v12, v13, v14, v15, v16, v17, v18, v19, v20, v21, v22, v23, v24, v25, v26, v27, rfl, rfl, { j with f1 := fun _ => rfl }⟩)
    · refine wpOp_step ho (fun K hK => ?_)
      obtain rfl := Option.some.inj ho
      have d1 := j.f1 (haf ⟨1, .data⟩ (by simp) rfl)
      subst d1
      refine value_ (v := .int .u8 (a0 % 256)) (by rfl) rfl (by unfold fr36; first | (go_simp; done) | (go_simp; rfl)) (hK _ _ ⟨b0, b1, true, b3, b4, b5, b6, b7, b8, b9, b10, b11, b12, b13, b14, b15, b16, b17, b18, b19, b20, b21, b22, b23, b24, b25, r, v3, .int .i64 a0, .int .u8 (a0 % 256), v6, v7, v8, v9, v10, v11, v12, v13, v14, v15, v16, v17, v18, v19, v20, v21, v22, v23, v24, v25, v26, v27, rfl, rfl, { j with f2 := fun _ => rfl }⟩)
    · refine wpOp_step ho (fun K hK => ?_)
      obtain rfl := Option.some.inj ho
      have d2 := j.f2 (haf ⟨2, .data⟩ (by simp) rfl)
      subst d2
      refine value_ (v := .slice (some ⟨W'.heap.size, 0, none⟩) 1 1) (w1 := W'.alloc (.cells #[.int .u8 (a0 % 256)] 5)) (by rfl) rfl (by unfold fr36; first | (go_simp; done) | (go_simp; rfl)) (hK _ _ ⟨b0, b1, b2, true, b4, b5, b6, b7, b8, b9, b10, b11, b12, b13, b14, b15, b16, b17, b18, b19, b20, b21, b22, b23, b24, b25, r, v3, v4, .int .u8 (a0 % 256), .slice (some ⟨W'.heap.size, 0, none⟩) 1 1, v7, v8, v9, v10, v11, v12, v13, v14, v15, v16, v17, v18, v19, v20, v21, v22, v23, v24, v25, v26, v27, rfl, rfl, { j.later (by omega) (below_alloc (Below.refl _ _) _) with f3 := fun _ => ?_ }⟩)
      exact own_lit W' (g + 1) 5 .u8 [a0 % 256] (by have := j.hb.size; omega) (by show (1 : Nat) ≤ 9223372036854775807; decide)
    · refine wpOp_step ho (fun K hK => ?_)
      obtain rfl := Option.some.inj ho
      have d3 := j.f3 (haf ⟨3, .data⟩ (by simp) rfl)
      have c := own_string (P := Try.prog) Try.underlying99 Try.underlying5 Try.underlying9 d3
      refine value_ (v := .string (strOfNums [a0 % 256])) (by rfl) rfl (by unfold fr36; first | (go_simp; done) | (go_simp; rfl)) (hK _ _ ⟨b0, b1, b2, b3, true, b5, b6, b7, b8, b9, b10, b11, b12, b13, b14, b15, b16, b17, b18, b19, b20, b21, b22, b23, b24, b25, r, v3, v4, v5, v6, .string (strOfNums [a0 % 256]), v8, v9, v10, v11, v12, v13, v14, v15, v16, v17, v18, v19, v20, v21, v22, v23, v24, v25, v26, v27, rfl, rfl, { j with f4 := fun _ => rfl }⟩)
    · refine wpOp_step ho (fun K hK => ?_)
      obtain rfl := Option.some.inj ho
      refine value_ (v := .pointer (some ⟨g, 1, none⟩)) (by rfl) rfl (by unfold fr36; first | (go_simp; done) | (go_simp; rfl)) (hK _ _ ⟨b0, b1, b2, b3, b4, true, b6, b7, b8, b9, b10, b11, b12, b13, b14, b15, b16, b17, b18, b19, b20, b21, b22, b23, b24, b25, r, v3, v4, v5, v6, v7, .pointer (some ⟨g, 1, none⟩), v9, v10, v11, v12, v13, v14, v15, v16, v17, v18, v19, v20, v21, v22, v23, v24, v25, v26, v27, rfl, rfl, { j with f5 := fun _ => rfl }⟩)
    · refine wpOp_step ho (fun K hK => ?_)
      obtain rfl := Option.some.inj ho
      have d5 := j.f5 (haf ⟨5, .data⟩ (by simp) rfl)
      subst d5
      have c := gc 1 _ ((blk_cell BK.out 1).trans rfl)
      refine value_ (v := .string a1) (by rfl) rfl (by unfold fr36; first | (go_simp; done) | (go_simp; rfl)) (hK _ _ ⟨b0, b1, b2, b3, b4, b5, true, b7, b8, b9, b10, b11, b12, b13, b14, b15, b16, b17, b18, b19, b20, b21, b22, b23, b24, b25, r, v3, v4, v5, v6, v7, .pointer (some ⟨g, 1, none⟩), .string a1, v10, v11, v12, v13, v14, v15, v16, v17, v18, v19, v20, v21, v22, v23, v24, v25, v26, v27, rfl, rfl, { j with f6 := fun _ => rfl }⟩)
    · refine wpOp_step ho (fun K hK => ?_)
      obtain rfl := Option.some.inj ho
      have d6 := j.f6 (haf ⟨6, .data⟩ (by simp) rfl)
      subst d6
      refine goes_ Try.func46 (by kernel_rfl) rfl #[.string a1] (by rfl) rfl rfl (by simp only [List.map_toArray, List.map_cons, List.map_nil]; rfl) ?_
      refine (H1.out W').mono ?_
      rintro e W'' ⟨rfl, hb⟩
      exact ⟨_, rfl, hK _ _ ⟨b0, b1, b2, b3, b4, b5, b6, true, b8, b9, b10, b11, b12, b13, b14, b15, b16, b17, b18, b19, b20, b21, b22, b23, b24, b25, r, v3, v4, v5, v6, v7, v8, .string a1, .string t1, v11, v12, v13, v14, v15, v16, v17, v18, v19, v20, v21, v22, v23, v24, v25, v26, v27, rfl, rfl, { j.later (by omega) hb with f7 := fun _ => rfl }⟩⟩
    · refine wpOp_step ho (fun K hK => ?_)
      obtain rfl := Option.some.inj ho
      have d4 := j.f4 (haf ⟨4, .data⟩ (by simp) rfl)
      have d7 := j.f7 (haf ⟨7, .data⟩ (by simp) rfl)
      subst d4; subst d7
      refine value_ (v := .string ((strOfNums [a0 % 256]) ++ t1)) (by rfl) rfl (by unfold fr36; first | (go_simp; done) | (go_simp; rfl)) (hK _ _ ⟨b0, b1, b2, b3, b4, b5, b6, b7, true, b9, b10, b11, b12, b13, b14, b15, b16, b17, b18, b19, b20, b21, b22, b23, b24, b25, r, v3, v4, v5, v6, .string (strOfNums [a0 % 256]), v8, v9, .string t1, .string ((strOfNums [a0 % 256]) ++ t1), v12, v13, v14, v15, v16, v17, v18, v19, v20, v21, v22, v23, v24, v25, v26, v27, rfl, rfl, { j with f8 := fun _ => rfl }⟩)
    · refine wpOp_step ho (fun K hK => ?_)
      obtain rfl := Option.some.inj ho
      refine value_ (v := .pointer (some ⟨g, 2, none⟩)) (by rfl) rfl (by unfold fr36; first | (go_simp; done) | (go_simp; rfl)) (hK _ _ ⟨b0, b1, b2, b3, b4, b5, b6, b7, b8, true, b10, b11, b12, b13, b14, b15, b16, b17, b18, b19, b20, b21, b22, b23, b24, b25, r, v3, v4, v5, v6, v7, v8, v9, v10, v11, .pointer (some ⟨g, 2, none⟩), v13, v14, v15, v16, v17, v18, v19, v20, v21, v22, v23, v24, v25, v26, v27, rfl, rfl, { j with f9 := fun _ => rfl }⟩)
    · refine wpOp_step ho (fun K hK => ?_)
      obtain rfl := Option.some.inj ho
      have d9 := j.f9 (haf ⟨9, .data⟩ (by simp) rfl)
      subst d9
      have c := gc 2 _ ((blk_cell BK.out 2).trans rfl)
      refine value_ (v := .string a2) (by rfl) rfl (by unfold fr36; first | (go_simp; done) | (go_simp; rfl)) (hK _ _ ⟨b0, b1, b2, b3, b4, b5, b6, b7, b8, b9, true, b11, b12, b13, b14, b15, b16, b17, b18, b19, b20, b21, b22, b23, b24, b25, r, v3, v4, v5, v6, v7, v8, v9, v10, v11, .pointer (some ⟨g, 2, none⟩), .string a2, v14, v15, v16, v17, v18, v19, v20, v21, v22, v23, v24, v25, v26, v27, rfl, rfl, { j with f10 := fun _ => rfl }⟩)
    · refine wpOp_step ho (fun K hK => ?_)
      obtain rfl := Option.some.inj ho
      have d10 := j.f10 (haf ⟨10, .data⟩ (by simp) rfl)
      subst d10
      refine goes_ Try.func46 (by kernel_rfl) rfl #[.string a2] (by rfl) rfl rfl (by simp only [List.map_toArray, List.map_cons, List.map_nil]; rfl) ?_
      refine (H2.out W').mono ?_
      rintro e W'' ⟨rfl, hb⟩
      exact ⟨_, rfl, hK _ _ ⟨b0, b1, b2, b3, b4, b5, b6, b7, b8, b9, b10, true, b12, b13, b14, b15, b16, b17, b18, b19, b20, b21, b22, b23, b24, b25, r, v3, v4, v5, v6, v7, v8, v9, v10, v11, v12, .string a2, .string t2, v15, v16, v17, v18, v19, v20, v21, v22, v23, v24, v25, v26, v27, rfl, rfl, { j.later (by omega) hb with f11 := fun _ => rfl }⟩⟩
    · refine wpOp_step ho (fun K hK => ?_)
      obtain rfl := Option.some.inj ho
      have d8 := j.f8 (haf ⟨8, .data⟩ (by simp) rfl)
      have d11 := j.f11 (haf ⟨11, .data⟩ (by simp) rfl)
      subst d8; subst d11
      refine value_ (v := .string (((strOfNums [a0 % 256]) ++ t1) ++ t2)) (by rfl) rfl (by unfold fr36; first | (go_simp; done) | (go_simp; rfl)) (hK _ _ ⟨b0, b1, b2, b3, b4, b5, b6, b7, b8, b9, b10, b11, true, b13, b14, b15, b16, b17, b18, b19, b20, b21, b22, b23, b24, b25, r, v3, v4, v5, v6, v7, v8, v9, v10, .string ((strOfNums [a0 % 256]) ++ t1), v12, v13, .string t2, .string (((strOfNums [a0 % 256]) ++ t1) ++ t2), v16, v17, v18, v19, v20, v21, v22, v23, v24, v25, v26, v27, rfl, rfl, { j with f12 := fun _ => rfl }⟩)
    · refine wpOp_step ho (fun K hK => ?_)
      obtain rfl := Option.some.inj ho
      refine value_ (v := .pointer (some ⟨g, 3, none⟩)) (by rfl) rfl (by unfold fr36; first | (go_simp; done) | (go_simp; rfl)) (hK _ _ ⟨b0, b1, b2, b3, b4, b5, b6, b7, b8, b9, b10, b11, b12, true, b14, b15, b16, b17, b18, b19, b20, b21, b22, b23, b24, b25, r, v3, v4, v5, v6, v7, v8, v9, v10, v11, v12, v13, v14, v15, .pointer (some ⟨g, 3, none⟩), v17, v18, v19, v20, v21, v22, v23, v24, v25, v26, v27, rfl, rfl, { j with f13 := fun _ => rfl }⟩)
    · refine wpOp_step ho (fun K hK => ?_)
      obtain rfl := Option.some.inj ho
      have d13 := j.f13 (haf ⟨13, .data⟩ (by simp) rfl)
      subst d13
      have c := gc 3 _ ((blk_cell BK.out 3).trans rfl)
      refine value_ (v := .int .u64 a3) (by rfl) rfl (by unfold fr36; first | (go_simp; done) | (go_simp; rfl)) (hK _ _ ⟨b0, b1, b2, b3, b4, b5, b6, b7, b8, b9, b10, b11, b12, b13, true, b15, b16, b17, b18, b19, b20, b21, b22, b23, b24, b25, r, v3, v4, v5, v6, v7, v8, v9, v10, v11, v12, v13, v14, v15, .pointer (some ⟨g, 3, none⟩), .int .u64 a3, v18, v19, v20, v21, v22, v23, v24, v25, v26, v27, rfl, rfl, { j with f14 := fun _ => rfl }⟩)
    · refine wpOp_step ho (fun K hK => ?_)
      obtain rfl := Option.some.inj ho
      have d14 := j.f14 (haf ⟨14, .data⟩ (by simp) rfl)
      subst d14
      refine goes_ Try.func45 (by kernel_rfl) rfl #[.int .u64 a3] (by rfl) rfl rfl (by simp only [List.map_toArray, List.map_cons, List.map_nil]; rfl) ?_
      refine (H3.out W').mono ?_
      rintro e W'' ⟨rfl, hb⟩
      exact ⟨_, rfl, hK _ _ ⟨b0, b1, b2, b3, b4, b5, b6, b7, b8, b9, b10, b11, b12, b13, b14, true, b16, b17, b18, b19, b20, b21, b22, b23, b24, b25, r, v3, v4, v5, v6, v7, v8, v9, v10, v11, v12, v13, v14, v15, v16, .int .u64 a3, .string t3, v19, v20, v21, v22, v23, v24, v25, v26, v27, rfl, rfl, { j.later (by omega) hb with f15 := fun _ => rfl }⟩⟩
    · refine wpOp_step ho (fun K hK => ?_)
      obtain rfl := Option.some.inj ho
      have d12 := j.f12 (haf ⟨12, .data⟩ (by simp) rfl)
      have d15 := j.f15 (haf ⟨15, .data⟩ (by simp) rfl)
      subst d12; subst d15
      refine value_ (v := .string ((((strOfNums [a0 % 256]) ++ t1) ++ t2) ++ t3)) (by rfl) rfl (by unfold fr36; first | (go_simp; done) | (go_simp; rfl)) (hK _ _ ⟨b0, b1, b2, b3, b4, b5, b6, b7, b8, b9, b10, b11, b12, b13, b14, b15, true, b17, b18, b19, b20, b21, b22, b23, b24, b25, r, v3, v4, v5, v6, v7, v8, v9, v10, v11, v12, v13, v14, .string (((strOfNums [a0 % 256]) ++ t1) ++ t2), v16, v17, .string t3, .string ((((strOfNums [a0 % 256]) ++ t1) ++ t2) ++ t3), v20, v21, v22, v23, v24, v25, v26, v27, rfl, rfl, { j with f16 := fun _ => rfl }⟩)
    · refine wpOp_step ho (fun K hK => ?_)
      obtain rfl := Option.some.inj ho
      refine value_ (v := .pointer (some ⟨g, 4, none⟩)) (by rfl) rfl (by unfold fr36; first | (go_simp; done) | (go_simp; rfl)) (hK _ _ ⟨b0, b1, b2, b3, b4, b5, b6, b7, b8, b9, b10, b11, b12, b13, b14, b15, b16, true, b18, b19, b20, b21, b22, b23, b24, b25, r, v3, v4, v5, v6, v7, v8, v9, v10, v11, v12, v13, v14, v15, v16, v17, v18, v19, .pointer (some ⟨g, 4, none⟩), v21, v22, v23, v24, v25, v26, v27, rfl, rfl, { j with f17 := fun _ => rfl }⟩)
    · refine wpOp_step ho (fun K hK => ?_)
      obtain rfl := Option.some.inj ho
      have d17 := j.f17 (haf ⟨17, .data⟩ (by simp) rfl)
      subst d17
      have c := gc 4 _ ((blk_cell BK.out 4).trans rfl)
      refine value_ (v := .int .u64 a4) (by rfl) rfl (by unfold fr36; first | (go_simp; done) | (go_simp; rfl)) (hK _ _ ⟨b0, b1, b2, b3, b4, b5, b6, b7, b8, b9, b10, b11, b12, b13, b14, b15, b16, b17, true, b19, b20, b21, b22, b23, b24, b25, r, v3, v4, v5, v6, v7, v8, v9, v10, v11, v12, v13, v14, v15, v16, v17, v18, v19, .pointer (some ⟨g, 4, none⟩), .int .u64 a4, v22, v23, v24, v25, v26, v27, rfl, rfl, { j with f18 := fun _ => rfl }⟩)
    · refine wpOp_step ho (fun K hK => ?_)
      obtain rfl := Option.some.inj ho
      have d18 := j.f18 (haf ⟨18, .data⟩ (by simp) rfl)
      subst d18
      refine goes_ Try.func45 (by kernel_rfl) rfl #[.int .u64 a4] (by rfl) rfl rfl (by simp only [List.map_toArray, List.map_cons, List.map_nil]; rfl) ?_
      refine (H4.out W').mono ?_
      rintro e W'' ⟨rfl, hb⟩
      exact ⟨_, rfl, hK _ _ ⟨b0, b1, b2, b3, b4, b5, b6, b7, b8, b9, b10, b11, b12, b13, b14, b15, b16, b17, b18, true, b20, b21, b22, b23, b24, b25, r, v3, v4, v5, v6, v7, v8, v9, v10, v11, v12, v13, v14, v15, v16, v17, v18, v19, v20, .int .u64 a4, .string t4, v23, v24, v25, v26, v27, rfl, rfl, { j.later (by omega) hb with f19 := fun _ => rfl }⟩⟩
    · refine wpOp_step ho (fun K hK => ?_)
      obtain rfl := Option.some.inj ho
      have d16 := j.f16 (haf ⟨16, .data⟩ (by simp) rfl)
      have d19 := j.f19 (haf ⟨19, .data⟩ (by simp) rfl)
      subst d16; subst d19
      refine value_ (v := .string (((((strOfNums [a0 % 256]) ++ t1) ++ t2) ++ t3) ++ t4)) (by rfl) rfl (by unfold fr36; first | (go_simp; done) | (go_simp; rfl)) (hK _ _ ⟨b0, b1, b2, b3, b4, b5, b6, b7, b8, b9, b10, b11, b12, b13, b14, b15, b16, b17, b18, b19, true, b21, b22, b23, b24, b25, r, v3, v4, v5, v6, v7, v8, v9, v10, v11, v12, v13, v14, v15, v16, v17, v18, .string ((((strOfNums [a0 % 256]) ++ t1) ++ t2) ++ t3), v20, v21, .string t4, .string (((((strOfNums [a0 % 256]) ++ t1) ++ t2) ++ t3) ++ t4), v24, v25, v26, v27, rfl, rfl, { j with f20 := fun _ => rfl }⟩)
    · refine wpOp_step ho (fun K hK => ?_)
      obtain rfl := Option.some.inj ho
      refine value_ (v := .pointer (some ⟨g, 5, none⟩)) (by rfl) rfl (by unfold fr36; first | (go_simp; done) | (go_simp; rfl)) (hK _ _ ⟨b0, b1, b2, b3, b4, b5, b6, b7, b8, b9, b10, b11, b12, b13, b14, b15, b16, b17, b18, b19, b20, true, b22, b23, b24, b25, r, v3, v4, v5, v6, v7, v8, v9, v10, v11, v12, v13, v14, v15, v16, v17, v18, v19, v20, v21, v22, v23, .pointer (some ⟨g, 5, none⟩), v25, v26, v27, rfl, rfl, { j with f21 := fun _ => rfl }⟩)
    · refine wpOp_step ho (fun K hK => ?_)
      obtain rfl := Option.some.inj ho
      have d21 := j.f21 (haf ⟨21, .data⟩ (by simp) rfl)
      subst d21
      have c := gc 5 _ ((blk_cell BK.out 5).trans rfl)
      refine value_ (v := .string a5) (by rfl) rfl (by unfold fr36; first | (go_simp; done) | (go_simp; rfl)) (hK _ _ ⟨b0, b1, b2, b3, b4, b5, b6, b7, b8, b9, b10, b11, b12, b13, b14, b15, b16, b17, b18, b19, b20, b21, true, b23, b24, b25, r, v3, v4, v5, v6, v7, v8, v9, v10, v11, v12, v13, v14, v15, v16, v17, v18, v19, v20, v21, v22, v23, .pointer (some ⟨g, 5, none⟩), .string a5, v26, v27, rfl, rfl, { j with f22 := fun _ => rfl }⟩)
    · refine wpOp_step ho (fun K hK => ?_)
      obtain rfl := Option.some.inj ho
      have d22 := j.f22 (haf ⟨22, .data⟩ (by simp) rfl)
      subst d22
      refine goes_ Try.func46 (by kernel_rfl) rfl #[.string a5] (by rfl) rfl rfl (by simp only [List.map_toArray, List.map_cons, List.map_nil]; rfl) ?_
      refine (H5.out W').mono ?_
      rintro e W'' ⟨rfl, hb⟩
      exact ⟨_, rfl, hK _ _ ⟨b0, b1, b2, b3, b4, b5, b6, b7, b8, b9, b10, b11, b12, b13, b14, b15, b16, b17, b18, b19, b20, b21, b22, true, b24, b25, r, v3, v4, v5, v6, v7, v8, v9, v10, v11, v12, v13, v14, v15, v16, v17, v18, v19, v20, v21, v22, v23, v24, .string a5, .string t5, v27, rfl, rfl, { j.later (by omega) hb with f23 := fun _ => rfl }⟩⟩
    · refine wpOp_step ho (fun K hK => ?_)
      obtain rfl := Option.some.inj ho
      have d20 := j.f20 (haf ⟨20, .data⟩ (by simp) rfl)
      have d23 := j.f23 (haf ⟨23, .data⟩ (by simp) rfl)
      subst d20; subst d23
      refine value_ (v := .string ((((((strOfNums [a0 % 256]) ++ t1) ++ t2) ++ t3) ++ t4) ++ t5)) (by rfl) rfl (by unfold fr36; first | (go_simp; done) | (go_simp; rfl)) (hK _ _ ⟨b0, b1, b2, b3, b4, b5, b6, b7, b8, b9, b10, b11, b12, b13, b14, b15, b16, b17, b18, b19, b20, b21, b22, b23, true, b25, r, v3, v4, v5, v6, v7, v8, v9, v10, v11, v12, v13, v14, v15, v16, v17, v18, v19, v20, v21, v22, .string (((((strOfNums [a0 % 256]) ++ t1) ++ t2) ++ t3) ++ t4), v24, v25, .string t5, .string ((((((strOfNums [a0 % 256]) ++ t1) ++ t2) ++ t3) ++ t4) ++ t5), rfl, rfl, { j with f24 := fun _ => rfl }⟩)
    · refine wpOp_step ho (fun K hK => ?_)
      obtain rfl := Option.some.inj ho
      have d24 := j.f24 (haf ⟨24, .data⟩ (by simp) rfl)
      subst d24
      refine value_ (v := .string ((((((strOfNums [a0 % 256]) ++ t1) ++ t2) ++ t3) ++ t4) ++ t5)) (by rfl) rfl (by unfold fr36; first | (go_simp; done) | (go_simp; rfl)) (hK _ _ ⟨b0, b1, b2, b3, b4, b5, b6, b7, b8, b9, b10, b11, b12, b13, b14, b15, b16, b17, b18, b19, b20, b21, b22, b23, b24, true, .string ((((((strOfNums [a0 % 256]) ++ t1) ++ t2) ++ t3) ++ t4) ++ t5), v3, v4, v5, v6, v7, v8, v9, v10, v11, v12, v13, v14, v15, v16, v17, v18, v19, v20, v21, v22, v23, v24, v25, v26, .string ((((((strOfNums [a0 % 256]) ++ t1) ++ t2) ++ t3) ++ t4) ++ t5), rfl, rfl, { j with f25 := fun _ => rfl }⟩)
  · exact ⟨false, false, false, false, false, false, false, false, false, false, false, false, false, false, false, false, false, false, false, false, false, false, false, false, false, false, .string ⟨#[]⟩, undef, undef, undef, undef, undef, undef, undef, undef, undef, undef, undef, undef, undef, undef, undef, undef, undef, undef, undef, undef, undef, undef, undef, undef, undef, rfl, rfl, { hb := below_drew (Below.refl _ _), f0 := fun h => (by cases h), f1 := fun h => (by cases h), f2 := fun h => (by cases h), f3 := fun h => (by cases h), f4 := fun h => (by cases h), f5 := fun h => (by cases h), f6 := fun h => (by cases h), f7 := fun h => (by cases h), f8 := fun h => (by cases h), f9 := fun h => (by cases h), f10 := fun h => (by cases h), f11 := fun h => (by cases h), f12 := fun h => (by cases h), f13 := fun h => (by cases h), f14 := fun h => (by cases h), f15 := fun h => (by cases h), f16 := fun h => (by cases h), f17 := fun h => (by cases h), f18 := fun h => (by cases h), f19 := fun h => (by cases h), f20 := fun h => (by cases h), f21 := fun h => (by cases h), f22 := fun h => (by cases h), f23 := fun h => (by cases h), f24 := fun h => (by cases h), f25 := fun h => (by cases h) }⟩
  · rintro l a W' ⟨b0, b1, b2, b3, b4, b5, b6, b7, b8, b9, b10, b11, b12, b13, b14, b15, b16, b17, b18, b19, b20, b21, b22, b23, b24, b25, r, v3, v4, v5, v6, v7, v8, v9, v10, v11, v12, v13, v14, v15, v16, v17, v18, v19, v20, v21, v22, v23, v24, v25, v26, v27, rfl, rfl, j⟩ hall
    obtain rfl := j.f25 (hall 25 (by decide))
    go_wp2
    unfold fr36
    go_ret
    exact ⟨rfl, by rw [hg]; exact HB.out.trans (j.hb.mono (by omega))⟩
end Go.Proofs.Ytdcbacbilncnnaa.Mw
end
section
namespace Go.Proofs.Ytdcbacbilncnnaa.PMk
open Go.RowKit Go.Proofs.YtdcbacbilncnnaaW.PrintWords Go.Proofs.YtdcbacbilncnnaaW.PrintLast Go.Proofs.YtdcbacbilncnnaaW.PrintMore
attribute [local go_sem] max2_int min2_int max_two min_two max_three min_three max_four min_four   -- for this text's walks alone
set_option linter.unusedVariables false
set_option linter.unusedSimpArgs false
/-! ### proof_Meta: function 36 -/
def proof_Meta.f (k : Nat) (a0_0 : Int) (a0_1 : ByteArray) (a0_2 : ByteArray) (a0_3 : Int) (a0_4 : Int) (a0_5 : ByteArray) (a0_6 : ByteArray) (a0_7 : Bool) : Option (ByteArray) := (some (([(a0_0) % 256] : List Int) : List Int)).bind fun y507 => ((enc_Text.f k a0_1).bind fun t510 => (if (strOfNums y507).size + t510.size ≤ 9223372036854775807 then ((enc_Text.f k a0_2).bind fun t511 => (if ((strOfNums y507) ++ t510).size + t511.size ≤ 9223372036854775807 then ((enc_Uint.f k a0_3).bind fun t512 => (if (((strOfNums y507) ++ t510) ++ t511).size + t512.size ≤ 9223372036854775807 then ((enc_Uint.f k a0_4).bind fun t513 => (if ((((strOfNums y507) ++ t510) ++ t511) ++ t512).size + t513.size ≤ 9223372036854775807 then ((enc_Text.f k a0_5).bind fun t514 => (if (((((strOfNums y507) ++ t510) ++ t511) ++ t512) ++ t513).size + t514.size ≤ 9223372036854775807 then (some ((((((strOfNums y507) ++ t510) ++ t511) ++ t512) ++ t513) ++ t514)) else (none))) else (none))) else (none))) else (none))) else (none)))
theorem proof_Meta.calls (k : Nat) (a0_0 : Int) (a0_1 : ByteArray) (a0_2 : ByteArray) (a0_3 : Int) (a0_4 : Int) (a0_5 : ByteArray) (a0_6 : ByteArray) (a0_7 : Bool) (r : ByteArray) (w : World) (h : proof_Meta.f k a0_0 a0_1 a0_2 a0_3 a0_4 a0_5 a0_6 a0_7 = some r) :
  Calls Try.prog 36 #[.agg #[.int .i64 a0_0, .string a0_1, .string a0_2, .int .u64 a0_3, .int .u64 a0_4, .string a0_5, .string a0_6, .bool a0_7]] w fun e w' => e = .returned (.string r) ∧ Below w.heap.size w w' := by
 simp only [proof_Meta.f, Option.bind_some] at h
 obtain ⟨t1, e1, h⟩ := Option.bind_eq_some_iff.mp h
 have c1 : ¬ ¬ _ := fun c => by rw [if_neg c] at h; cases h
 rw [if_pos (Classical.not_not.1 c1)] at h
 obtain ⟨t2, e2, h⟩ := Option.bind_eq_some_iff.mp h
 have c2 : ¬ ¬ _ := fun c => by rw [if_neg c] at h; cases h
 rw [if_pos (Classical.not_not.1 c2)] at h
 obtain ⟨t3, e3, h⟩ := Option.bind_eq_some_iff.mp h
 have c3 : ¬ ¬ _ := fun c => by rw [if_neg c] at h; cases h
 rw [if_pos (Classical.not_not.1 c3)] at h
 obtain ⟨t4, e4, h⟩ := Option.bind_eq_some_iff.mp h
 have c4 : ¬ ¬ _ := fun c => by rw [if_neg c] at h; cases h
 rw [if_pos (Classical.not_not.1 c4)] at h
 obtain ⟨t5, e5, h⟩ := Option.bind_eq_some_iff.mp h
 have c5 : ¬ ¬ _ := fun c => by rw [if_neg c] at h; cases h
 rw [if_pos (Classical.not_not.1 c5)] at h
 obtain rfl := Option.some.inj h
 have c := Classical.not_not.1 c5
 simp only [ByteArray.size_append] at c
 exact Mw.meta36 a0_0 a0_1 a0_2 a0_3 a0_4 a0_5 a0_6 a0_7 t1 t2 t3 t4 t5 w (Lib.hid fun w => enc_Text.calls k a0_1 _ w e1) (Lib.hid fun w => enc_Text.calls k a0_2 _ w e2) (Lib.hid fun w => enc_Uint.calls k a0_3 _ w e3) (Lib.hid fun w => enc_Uint.calls k a0_4 _ w e4) (Lib.hid fun w => enc_Text.calls k a0_5 _ w e5) c
end Go.Proofs.Ytdcbacbilncnnaa.PMk
end
section
namespace Go.Proofs.Ytdcbacbilncnnaa.PMk
open Go.RowKit Go.Proofs.YtdcbacbilncnnaaW.PrintWords Go.Proofs.YtdcbacbilncnnaaW.PrintLast Go.Proofs.YtdcbacbilncnnaaW.PrintMore
attribute [local go_sem] max2_int min2_int max_two min_two max_three min_three max_four min_four   -- for this text's walks alone
set_option linter.unusedVariables false
set_option linter.unusedSimpArgs false
/-! ### proof_climb: function 84 -/
mutual
def proof_climb.j0 : Nat → ByteArray → Int → Int → List ByteArray → Int → Bool → Option (ByteArray × List ByteArray × Bool)
 | 0, _, _, _, _, _, _ => none
 | k + 1, x0, x1, x2, x3, x11, x37 => if x37 = true then (some ((⟨#[]⟩ : ByteArray), ([] : List ByteArray), false)) else (proof_climb.l0 k x0 x1 x2 x3 x11 1)
def proof_climb.l0 : Nat → ByteArray → Int → Int → List ByteArray → Int → Int → Option (ByteArray × List ByteArray × Bool)
 | 0, _, _, _, _, _, _ => none
 | k + 1, x0, x1, x2, x3, x11, x12 => if (wrap64 (2 * x12)) < x2 then (proof_climb.l0 k x0 x1 x2 x3 x11 (wrap64 (x12 * 2))) else (if x1 < x12 then (if 0 ≤ x11 then (if x11 ≤ (x3.length : Int) then ((proof_climb.f k x0 x1 x12 (x3.take (x11 : Int).toNat)).bind fun bt517 => (if x11 < (x3.length : Int) then ((hash_Node.f bt517.1 (rdOf ByteArray.empty x3 x11)).bind fun t523 => (if 1 + bt517.1.size ≤ 9223372036854775807 then (if ((⟨#[1]⟩ : ByteArray) ++ bt517.1).size + (rdOf ByteArray.empty x3 x11).size ≤ 9223372036854775807 then ((some (([((⟨#[1]⟩ : ByteArray) ++ bt517.1) ++ (rdOf ByteArray.empty x3 x11)] : List ByteArray) : List ByteArray)).bind fun y525 => (if bt517.2.1.length + y525.length < 8796093022208 then (some (t523, (bt517.2.1 ++ y525), bt517.2.2)) else (none))) else (none)) else (none))) else (none))) else (none)) else (none)) else (if 0 ≤ x11 then (if x11 ≤ (x3.length : Int) then ((proof_climb.f k x0 (wrap64 (x1 - x12)) (wrap64 (x2 - x12)) (x3.take (x11 : Int).toNat)).bind fun bt532 => (if x11 < (x3.length : Int) then ((hash_Node.f (rdOf ByteArray.empty x3 x11) bt532.1).bind fun t538 => (if 1 + (rdOf ByteArray.empty x3 x11).size ≤ 9223372036854775807 then (if ((⟨#[1]⟩ : ByteArray) ++ (rdOf ByteArray.empty x3 x11)).size + bt532.1.size ≤ 9223372036854775807 then ((some (([((⟨#[1]⟩ : ByteArray) ++ (rdOf ByteArray.empty x3 x11)) ++ bt532.1] : List ByteArray) : List ByteArray)).bind fun y540 => (if bt532.2.1.length + y540.length < 8796093022208 then (some (t538, (bt532.2.1 ++ y540), bt532.2.2)) else (none))) else (none)) else (none))) else (none))) else (none)) else (none)))
def proof_climb.f : Nat → ByteArray → Int → Int → List ByteArray → Option (ByteArray × List ByteArray × Bool)
 | 0, _, _, _, _ => none
 | k + 1, a0, a1, a2, l3 => if a2 = 1 then (some (a0, ([] : List ByteArray), ((l3.length : Int) == 0))) else (if (wrap64 ((l3.length : Int) - 1)) < 0 then (proof_climb.j0 k a0 a1 a2 l3 (wrap64 ((l3.length : Int) - 1)) true) else (if 0 ≤ (wrap64 ((l3.length : Int) - 1)) then (if (wrap64 ((l3.length : Int) - 1)) < (l3.length : Int) then (proof_climb.j0 k a0 a1 a2 l3 (wrap64 ((l3.length : Int) - 1)) (((rdOf ByteArray.empty l3 (wrap64 ((l3.length : Int) - 1))).size : Int) != 32)) else (none)) else (none)))
end
def proof_climb.T11 : Bool × List (List Nat × List Nat) := (true, [([], []), ([], []), ([], []), ([1, 2], [1, 2]), ([3], [3]), ([0, 4], [0, 4]), ([], []), ([], []), ([7], [7]), ([], []), ([], []), ([9, 10], [9, 10]), ([11], [11]), ([8, 12], [8, 12]), ([13], [13]), ([6, 14, 5], [6, 14]), ([], []), ([5, 15, 0, 1, 2, 3, 4, 5], [5]), ([15, 17, 0, 1, 2, 3, 4, 5, 6, 7, 8, 9, 10, 11, 12, 13, 14, 15, 17], [15]), ([16, 18, 0, 1, 2, 3, 4, 5, 6, 7, 8, 9, 10, 11, 12, 13, 14, 15, 16, 17, 18], [16])])
def proof_climb.B11 : List Nat := [0, 0, 0, 6, 14, 31, 0, 0, 128, 0, 0, 1536, 3584, 8064, 16256, 32767, 0, 65535, 196607, 524287]
theorem proof_climb.tab11 : rtab .any (opsOf Try.f84 11) = proof_climb.T11 := by kernel_rfl
theorem proof_climb.bits11 : waitsOk proof_climb.T11.2 proof_climb.B11 = true := by kernel_rfl
def proof_climb.T13 : Bool × List (List Nat × List Nat) := (true, [([], []), ([], []), ([0, 1], [0, 1]), ([2], [2]), ([], []), ([3, 4], [3, 4]), ([], []), ([], []), ([], []), ([7, 8], [7, 8]), ([9], [9]), ([10], [10]), ([], []), ([11, 12], [11, 12]), ([13], [13]), ([6, 14, 5], [6, 14]), ([], []), ([5, 15, 0, 1, 2, 3, 4, 5], [5]), ([15, 17, 0, 1, 2, 3, 4, 5, 6, 7, 8, 9, 10, 11, 12, 13, 14, 15, 17], [15]), ([16, 18, 0, 1, 2, 3, 4, 5, 6, 7, 8, 9, 10, 11, 12, 13, 14, 15, 16, 17, 18], [16])])
def proof_climb.B13 : List Nat := [0, 0, 3, 7, 0, 31, 0, 0, 0, 384, 896, 1920, 0, 8064, 16256, 32767, 0, 65535, 196607, 524287]
theorem proof_climb.tab13 : rtab .any (opsOf Try.f84 13) = proof_climb.T13 := by kernel_rfl
theorem proof_climb.bits13 : waitsOk proof_climb.T13.2 proof_climb.B13 = true := by kernel_rfl
set_option maxHeartbeats 8000000 in
set_option maxRecDepth 100000 in
theorem proof_climb.calls (k : Nat) : ∀ (a0 : ByteArray) (a1 : Int) (a2 : Int) (A3 : Option Addr) (c3 : Nat) (l3 : List ByteArray) (r1 : ByteArray) (r2 : List ByteArray) (r3 : Bool) (w : World) (hr3 : Kd.C Kd.string w A3 l3.length l3) (hc3 : l3.length ≤ c3) (h : proof_climb.f k a0 a1 a2 l3 = some (r1, r2, r3)),
  Calls Try.prog 84 #[.string a0, .int .i64 a1, .int .i64 a2, .slice A3 l3.length c3] w fun e w' => ∃ v1_ : Value, e = .returned (.tuple #[.string r1, v1_, .bool r3]) ∧ Kd.R Kd.string 9 w' w.heap.size (fun _ => True) v1_ r2 ∧ Below w.heap.size w w' := by
 induction k using Nat.strongRecOn with
 | _ k ih =>
 intro a0 a1 a2 A3 c3 l3 r1 r2 r3 w hr3 hc3 h
 cases k with
 | zero => exact absurd h (by simp [proof_climb.f])
 | succ k =>
 simp only [proof_climb.f] at h
 have HR3 := Aside0.mk hr3
 have HC3 := Aside0.mk hc3
 clear hr3 hc3
 have HB := Aside0.mk (Below.refl w.heap.size w)
 have H : (if a2 = 1 then (some (a0, ([] : List ByteArray), ((l3.length : Int) == 0))) else (if (wrap64 ((l3.length : Int) - 1)) < 0 then (proof_climb.j0 k a0 a1 a2 l3 (wrap64 ((l3.length : Int) - 1)) true) else (if 0 ≤ (wrap64 ((l3.length : Int) - 1)) then (if (wrap64 ((l3.length : Int) - 1)) < (l3.length : Int) then (proof_climb.j0 k a0 a1 a2 l3 (wrap64 ((l3.length : Int) - 1)) (((rdOf ByteArray.empty l3 (wrap64 ((l3.length : Int) - 1))).size : Int) != 32)) else (none)) else (none)))) = some (r1, r2, r3) := h
 clear h
 by_cases c5 : a2 = 1
 ·rw [if_pos c5] at H
  have c5b0 : (a2 == 1) = true := beq_iff_eq.mpr c5
  have c5b1 : (a2 != 1) = false := bne_eq_false_iff_eq.mpr c5
  clear c5
  simp only [Option.some.injEq, Prod.mk.injEq] at H
  obtain ⟨rfl, rfl, rfl⟩ := H
  go_enter Try.func84, Try.ntmps84
  go_wp2
  go_ret3
  exact ⟨_, by first | rfl | (simp [errW_none, errW_some] <;> rfl) | (simp [*, errW_none, errW_some] <;> rfl), by first | exact Kd.R_nil _ _ _ _ _ | exact Kd.N_nil _ _ _ _ _ | exact Kd.V_nil _ _ _ _ _ | exact Kd.Q_nil _ _ _ _ _ | exact Kd.S_nil _ _ _ _ _, by repeat (first | (with_reducible first | exact HB.out | apply below_alloc | apply pw_below_drewN | apply below_drew1) | exact HB.out)⟩
 ·rw [if_neg c5] at H
  have c5b0 : (a2 == 1) = false := beq_eq_false_iff_ne.mpr c5
  have c5b1 : (a2 != 1) = true := bne_iff_ne.mpr c5
  have HC6 := Aside0.mk H
  clear H
  go_enter Try.func84, Try.ntmps84
  go_upto_region 4 with (fail)
  go_cut [37] (fun v37 wc => ∃ (kq : Nat) (x37_5 : Bool), v37 = .bool x37_5 ∧ Aside0 (proof_climb.j0 kq a0 a1 a2 l3 (wrap64 ((l3.length : Int) - 1)) x37_5 = some (r1, r2, r3)) ∧ Aside0 (kq ≤ k) ∧ Aside0 (Below w.heap.size w wc))
  case first =>
   have H := HC6.out
   clear HC6
   by_cases c7 : (wrap64 ((l3.length : Int) - 1)) < 0
   ·rw [if_pos c7] at H
    have c7b0 : decide ((wrap64 ((l3.length : Int) - 1)) < 0) = true := decide_eq_true c7
    clear c7
    (first | rw [c7b0] | (simp only [i64_w, i32_w]; rw [c7b0]) | skip)
    have H' := Aside0.mk H
    clear H
    go_wp2
    go_meet
    case rel => exact ⟨_, (true), (by first | rfl | (simp; done) | (simp [*]; done)), H', ⟨by first | omega | exact Nat.le_refl _⟩, ⟨bh_ HB.out⟩⟩
   ·rw [if_neg c7] at H
    have c7b0 : decide ((wrap64 ((l3.length : Int) - 1)) < 0) = false := decide_eq_false c7
    clear c7
    (first | rw [c7b0] | (simp only [i64_w, i32_w]; rw [c7b0]) | skip)
    obtain ⟨ji8, hji8⟩ : ∃ j_ : Int, (wrap64 ((l3.length : Int) - 1)) = j_ := ⟨_, rfl⟩
    replace H : (if 0 ≤ (ji8) then (if (ji8) < (l3.length : Int) then (proof_climb.j0 k a0 a1 a2 l3 ji8 (((rdOf ByteArray.empty l3 (ji8)).size : Int) != 32)) else (none)) else (none)) = some (r1, r2, r3) := by first | (rw [hji8] at H; exact H) | (simp only [hji8] at H ⊢; exact H)
    (try rw [hji8] at c7b0)
    have hji8w : (IntKind.i64.wrap ((l3.length : Int) - 1)) = ji8 := (i64_w _).trans hji8
    by_cases c9 : 0 ≤ (ji8)
    ·rw [if_pos c9] at H
     have c9b0 : decide (0 ≤ (ji8)) = true := decide_eq_true c9
     clear c9
     by_cases c10 : (ji8) < (l3.length : Int)
     ·rw [if_pos c10] at H
      have c10b0 : decide ((ji8) < (l3.length : Int)) = true := decide_eq_true c10
      clear c10
      have H' := Aside0.mk H
      clear H
      have p515 : 0 ≤ ((ji8) : Int) := of_decide_eq_true (by first | (with_reducible assumption) | assumption)
      have q515 : (ji8) < (l3.length : Int) := of_decide_eq_true (by first | (with_reducible assumption) | assumption)
      obtain ⟨ad515, e515, hx515_0⟩ := Kd.at_string HR3.out (ji8) p515 q515
      cases e515
      replace hx515_0 := (HB.out.cell (World.block_lt_of_cell? w _ hx515_0)).trans hx515_0
      replace p515 := eq_true p515
      replace q515 := eq_true q515
      go_wp2
      go_meet
      case rel => exact ⟨_, ((((rdOf ByteArray.empty l3 (ji8)).size : Int) != 32)), (by first | rfl | (simp; done) | (simp only [← hji8] <;> (first | rfl | simp)) | (simp [*]; done)), (by first | exact H' | (subst hji8; exact H') | (subst hji8; exact H')), ⟨by first | omega | exact Nat.le_refl _⟩, ⟨bh_ HB.out⟩⟩
     ·rw [if_neg c10] at H
      exact absurd H (by simp)
    ·rw [if_neg c9] at H
     exact absurd H (by simp)
  case rest =>
   clear HC6
   try clear c1
   try clear p2
   try clear c3
   try clear c5
   try clear c5b0
   try clear c5b1
   try clear p5
   try clear q5
   try clear hx5
   try clear p6
   try clear c7
   try clear c7b0
   try clear c8
   try clear c9
   try clear c9b0
   try clear c10
   try clear c10b0
   try clear hx515_0
   try clear p515
   try clear q515
   obtain ⟨kq, x37_5, rfl, HA, HJ5, HB⟩ := hcut
   cases kq with
   | zero => exact absurd HA.out (by simp [proof_climb.j0])
   | succ kj5 =>
    have H := HA.out
    clear HA
    simp only [proof_climb.j0] at H
    by_cases c11 : x37_5 = true
    ·subst c11
     have H1 : (some ((⟨#[]⟩ : ByteArray), ([] : List ByteArray), false)) = some (r1, r2, r3) := by rw [if_pos rfl] at H; exact H
     clear H
     have H := H1
     clear H1
     simp only [Option.some.injEq, Prod.mk.injEq] at H
     obtain ⟨rfl, rfl, rfl⟩ := H
     go_wp2
     go_ret3
     exact ⟨_, by first | rfl | (simp [errW_none, errW_some] <;> rfl) | (simp [*, errW_none, errW_some] <;> rfl), by first | exact Kd.R_nil _ _ _ _ _ | exact Kd.N_nil _ _ _ _ _ | exact Kd.V_nil _ _ _ _ _ | exact Kd.Q_nil _ _ _ _ _ | exact Kd.S_nil _ _ _ _ _, by repeat (first | (with_reducible first | exact HB.out | apply below_alloc | apply pw_below_drewN | apply below_drew1) | exact HB.out)⟩
    ·replace c11 := Bool.eq_false_iff.mpr c11
     subst c11
     have H1 : (proof_climb.l0 kj5 a0 a1 a2 l3 (wrap64 ((l3.length : Int) - 1)) 1) = some (r1, r2, r3) := by rw [if_neg (show ¬ (false = true) by decide)] at H; exact H
     clear H
     have H := H1
     clear H1
     have H' := Aside0.mk H
     clear H
     go_wp2
     go_loopg [12] kj5 (fun kq v12 w' => ∃ (x12_2 : Int), v12 = .int .i64 x12_2 ∧ Aside0 (proof_climb.l0 kq a0 a1 a2 l3 (wrap64 ((l3.length : Int) - 1)) x12_2 = some (r1, r2, r3)) ∧ Aside0 (kq ≤ kj5) ∧ Aside0 (Below w.heap.size w w'))
     case atStart => exact ⟨(1), (by first | rfl | (simp; done) | (simp [*]; done)), H', ⟨Nat.le_refl _⟩, ⟨bh_ HB.out⟩⟩
     case round =>
      clear H'
      try clear c1
      try clear p2
      try clear c3
      try clear c5
      try clear c5b0
      try clear c5b1
      try clear p5
      try clear q5
      try clear hx5
      try clear p6
      try clear c7
      try clear c7b0
      try clear c8
      try clear c9
      try clear c9b0
      try clear c10
      try clear c10b0
      try clear c11
      try clear hx515_0
      try clear p2
      try clear p5
      try clear p515
      try clear p6
      try clear q5
      try clear q515
      obtain ⟨x12_2, rfl, HA, HK2, HB⟩ := hrel
      cases gk with
      | zero => exact absurd HA.out (by simp [proof_climb.l0])
      | succ k2 =>
       have H := HA.out
       clear HA
       simp only [proof_climb.l0] at H
       by_cases c12 : (wrap64 (2 * x12_2)) < a2
       ·rw [if_pos c12] at H
        have c12b0 : decide ((wrap64 (2 * x12_2)) < a2) = true := decide_eq_true c12
        clear c12
        have H' := Aside0.mk H
        clear H
        go_wp2
        go_roundg k2
        case measure => have := HJ5.out; have := HK2.out; omega
        case rel => exact ⟨(wrap64 (x12_2 * 2)), (by first | rfl | (simp; done) | (simp [*]; done)), H', ⟨by have := HJ5.out; have := HK2.out; omega⟩, ⟨bh_ HB.out⟩⟩
       ·rw [if_neg c12] at H
        have c12b0 : decide ((wrap64 (2 * x12_2)) < a2) = false := decide_eq_false c12
        clear c12
        by_cases c13 : a1 < x12_2
        ·rw [if_pos c13] at H
         have c13b0 : decide (a1 < x12_2) = true := decide_eq_true c13
         clear c13
         obtain ⟨ji14, hji14⟩ : ∃ j_ : Int, (wrap64 ((l3.length : Int) - 1)) = j_ := ⟨_, rfl⟩
         replace H : (if 0 ≤ (ji14) then (if (ji14) ≤ (l3.length : Int) then ((proof_climb.f k2 a0 a1 x12_2 (l3.take ((ji14) : Int).toNat)).bind fun bt517 => (if (ji14) < (l3.length : Int) then ((hash_Node.f bt517.1 (rdOf ByteArray.empty l3 (ji14))).bind fun t523 => (if 1 + bt517.1.size ≤ 9223372036854775807 then (if ((⟨#[1]⟩ : ByteArray) ++ bt517.1).size + (rdOf ByteArray.empty l3 (ji14)).size ≤ 9223372036854775807 then ((some (([((⟨#[1]⟩ : ByteArray) ++ bt517.1) ++ (rdOf ByteArray.empty l3 (ji14))] : List ByteArray) : List ByteArray)).bind fun y525 => (if bt517.2.1.length + y525.length < 8796093022208 then (some (t523, (bt517.2.1 ++ y525), bt517.2.2)) else (none))) else (none)) else (none))) else (none))) else (none)) else (none)) = some (r1, r2, r3) := by first | (rw [hji14] at H; exact H) | (simp only [hji14] at H ⊢; exact H)
         have hji14w : (IntKind.i64.wrap ((l3.length : Int) - 1)) = ji14 := (i64_w _).trans hji14
         by_cases c15 : 0 ≤ (ji14)
         ·rw [if_pos c15] at H
          have c15b0 := eq_true c15
          have c15b1 : decide (0 ≤ (ji14)) = true := decide_eq_true c15
          clear c15
          by_cases c16 : (ji14) ≤ (l3.length : Int)
          ·rw [if_pos c16] at H
           have c16b0 := eq_true c16
           have c16b1 : decide ((ji14) ≤ (l3.length : Int)) = true := decide_eq_true c16
           clear c16
           replace H := Option.bind_eq_some_iff.mp H
           obtain ⟨⟨t517, t518, t519⟩, A170, H⟩ := H
           replace H : (if (ji14) < (l3.length : Int) then ((hash_Node.f t517 (rdOf ByteArray.empty l3 (ji14))).bind fun t523 => (if 1 + t517.size ≤ 9223372036854775807 then (if ((⟨#[1]⟩ : ByteArray) ++ t517).size + (rdOf ByteArray.empty l3 (ji14)).size ≤ 9223372036854775807 then ((some (([((⟨#[1]⟩ : ByteArray) ++ t517) ++ (rdOf ByteArray.empty l3 (ji14))] : List ByteArray) : List ByteArray)).bind fun y525 => (if t518.length + y525.length < 8796093022208 then (some (t523, (t518 ++ y525), t519)) else (none))) else (none)) else (none))) else (none)) = some (r1, r2, r3) := H
           have A17 := Aside0.mk A170
           clear A170
           by_cases c18 : (ji14) < (l3.length : Int)
           ·rw [if_pos c18] at H
            have c18b0 : decide ((ji14) < (l3.length : Int)) = true := decide_eq_true c18
            clear c18
            replace H := Option.bind_eq_some_iff.mp H
            obtain ⟨t523, A190, H⟩ := H
            replace H : (if 1 + t517.size ≤ 9223372036854775807 then (if ((⟨#[1]⟩ : ByteArray) ++ t517).size + (rdOf ByteArray.empty l3 (ji14)).size ≤ 9223372036854775807 then ((some (([((⟨#[1]⟩ : ByteArray) ++ t517) ++ (rdOf ByteArray.empty l3 (ji14))] : List ByteArray) : List ByteArray)).bind fun y525 => (if t518.length + y525.length < 8796093022208 then (some (t523, (t518 ++ y525), t519)) else (none))) else (none)) else (none)) = some (r1, r2, r3) := H
            have A19 := Aside0.mk A190
            clear A190
            by_cases c20 : 1 + t517.size ≤ 9223372036854775807
            ·rw [if_pos c20] at H
             have c20b0 := eq_true c20
             have c20b1 : decide (1 + t517.size ≤ 9223372036854775807) = true := decide_eq_true c20
             try have c20b2 : (9223372036854775807 < 1 + t517.size) = False := eq_false (Nat.not_lt.2 c20)
             by_cases c21 : ((⟨#[1]⟩ : ByteArray) ++ t517).size + (rdOf ByteArray.empty l3 (ji14)).size ≤ 9223372036854775807
             ·rw [if_pos c21] at H
              have c21b0 := eq_true c21
              have c21b1 : decide (((⟨#[1]⟩ : ByteArray) ++ t517).size + (rdOf ByteArray.empty l3 (ji14)).size ≤ 9223372036854775807) = true := decide_eq_true c21
              try have c21b2 : (9223372036854775807 < ((⟨#[1]⟩ : ByteArray) ++ t517).size + (rdOf ByteArray.empty l3 (ji14)).size) = False := eq_false (Nat.not_lt.2 c21)
              try (have c21b2x := c21b2; simp only [ByteArray.size_append, show (⟨#[1]⟩ : ByteArray).size = 1 from rfl] at c21b2x)
              obtain ⟨y525, hy525⟩ : ∃ y_ : List ByteArray, y_ = (([((⟨#[1]⟩ : ByteArray) ++ t517) ++ (rdOf ByteArray.empty l3 (ji14))] : List ByteArray)) := ⟨_, rfl⟩
              replace H : (if t518.length + y525.length < 8796093022208 then (some (t523, (t518 ++ y525), t519)) else (none)) = some (r1, r2, r3) := by first | (rw [hy525]; with_reducible exact H) | (have H2_ := (Option.bind_some _ _).symm.trans H; rw [hy525]; with_reducible exact H2_) | (have H2_ := (Option.bind_some _ _).symm.trans H; with_reducible exact H2_) | with_reducible exact H | (rw [hy525]; exact H) | exact H
              have Ny525 := Aside0.mk hy525
              clear hy525
              by_cases c22 : t518.length + y525.length < 8796093022208
              ·rw [if_pos c22] at H
               have LMc22 := Aside0.mk c22
               clear c22
               obtain ⟨y528, hy528⟩ : ∃ y_ : List ByteArray, y_ = (t518 ++ y525) := ⟨_, rfl⟩
               replace H : (some (t523, y528, t519)) = some (r1, r2, r3) := by first | (rw [hy528]; with_reducible exact H) | (have H2_ := (Option.bind_some _ _).symm.trans H; rw [hy528]; with_reducible exact H2_) | (have H2_ := (Option.bind_some _ _).symm.trans H; with_reducible exact H2_) | with_reducible exact H | (rw [hy528]; exact H) | exact H
               have Ny528 := Aside0.mk hy528
               clear hy528
               simp only [Option.some.injEq, Prod.mk.injEq] at H
               obtain ⟨rfl, rfl, rfl⟩ := H
               obtain ⟨i023, hi023, _, hsz23, _⟩ := info_parts info9
               obtain ⟨hcut23, hA23, hC23⟩ := print_take_of (P := Try.prog) Value.string (⟨#[]⟩ : ByteArray) 51 9 .i64 Try.underlying51 hi023 hsz23 A3 c3 l3 (ji14) (of_decide_eq_true (by first | (with_reducible assumption) | assumption)) (of_decide_eq_true (by first | (with_reducible assumption) | assumption)) HC3.out
               have HR516 := Aside0.mk (Kd.C_of_reads (h1 := fun _ => rfl) (hA23 _ (Kd.reads_of_C HR3.out)))
               have HC516 := Aside0.mk hC23
               clear hA23 hC23 hi023 hsz23
               try go_wp2_with (first | ((with_reducible refine gate_callee (f := 84) rfl ?_); refine goesL_ (some 54) rfl rfl Try.func84 (by kernel_rfl) rfl #[.string a0, .int .i64 a1, .int .i64 x12_2, .slice A3 (l3.take ((ji14) : Int).toNat).length c3] rfl (by (try simp only [List.map_toArray, List.map_cons, List.map_nil]); first | done | (rw [show (l3.take ((ji14) : Int).toNat).length = (ji14).toNat from (by rw [List.length_take]; have h_ : ((ji14) : Int) ≤ (l3.length : Int) := of_decide_eq_true (by first | (with_reducible assumption) | assumption); omega)] <;> rfl) | (simp only [hji14]; rfl) | rfl | (simp only [List.length_drop, List.length_take]; rfl)) ?_; (with_reducible refine (ih k2 (by have := HJ5.out; have := HK2.out; omega) a0 a1 x12_2 _ _ (l3.take ((ji14) : Int).toNat) t517 t518 t519 _ ?side1 ?side2 A17.out).mono ?_); (case side1 => repeat (first | exact (Kd.C_below HR516.out HB.out) | (with_reducible refine Kd.C_alloc ?_ _) | (with_reducible refine Kd.C_drewN ?_ _) | (with_reducible refine Kd.C_drew ?_))); (case side2 => exact HC516.out); rintro e w24 ⟨v520, rfl, ho0, hb⟩; refine ⟨_, rfl, ?_⟩; have HO521 := Aside0.mk (Kd.R_lower ho0 (below_size (bh_ HB.out))); replace HB := Aside0.mk (below_step (bh_ HB.out) hb); (try clear hb); (try clear ho0); obtain ⟨Ao25, co25, eo25⟩ := Kd.R_slice HO521.out; subst eo25))
               replace HO521 := Aside0.mk (Kd.R_drew HO521.out)
               replace HB := Aside0.mk (below_drew1 HB.out)
               have p522 : 0 ≤ ((ji14) : Int) := of_decide_eq_true (by first | (with_reducible assumption) | assumption)
               have q522 : (ji14) < (l3.length : Int) := of_decide_eq_true (by first | (with_reducible assumption) | assumption)
               obtain ⟨ad522, e522, hx522_0⟩ := Kd.at_string HR3.out (ji14) p522 q522
               have hw522_0 := hx522_0
               cases e522
               replace hx522_0 := (HB.out.cell (World.block_lt_of_cell? w _ hx522_0)).trans hx522_0
               replace p522 := eq_true p522
               replace q522 := eq_true q522
               have p524 : 0 ≤ ((ji14) : Int) := of_decide_eq_true (by first | (with_reducible assumption) | assumption)
               have q524 : (ji14) < (l3.length : Int) := of_decide_eq_true (by first | (with_reducible assumption) | assumption)
               obtain ⟨ad524, e524, hx524_0⟩ := Kd.at_string HR3.out (ji14) p524 q524
               have hw524_0 := hx524_0
               obtain rfl : ad522 = ad524 := (by injection e524)
               replace hx524_0 := (HB.out.cell (World.block_lt_of_cell? w _ hx524_0)).trans hx524_0
               replace p524 := eq_true p524
               replace q524 := eq_true q524
               refine start_ (n := 20) (S := fun w' => w'.cell? (ad522.add ((ji14)).toNat) = some (.string (rdOf ByteArray.empty l3 (ji14))) ∧ w'.cell? (ad522.add ((ji14)).toNat) = some (.string (rdOf ByteArray.empty l3 (ji14)))) (ds := []) #[N_, N_, N_, N_, N_, N_, N_, N_, N_, N_, N_, N_, N_, N_, N_, N_, N_, N_, N_, N_] (by kernel_rfl) rfl rfl ⟨((HB.out.cell (World.block_lt_of_cell? w _ hw522_0)).trans hw522_0), ((HB.out.cell (World.block_lt_of_cell? w _ hw524_0)).trans hw524_0)⟩ (fun hHeld => ?_); refine with_tabW proof_climb.tab11 proof_climb.bits11 (fun HT_ HW_ => ?_)
               generalize w24.drew = w26 at HO521 HB hx522_0 hx524_0 hHeld ⊢
               refine pure_ (i := 0) (N := some 58) (v := ?_) (a' := ?_) #[Y_, N_, N_, N_, N_, N_, N_, N_, N_, N_, N_, N_, N_, N_, N_, N_, N_, N_, N_, N_] rfl rfl (any_of HT_.out (by kernel_rfl)) (fun _ _ _ h => h) (Or.inl ⟨by rfl, ?_⟩) ?_ ?_
               rotate_left; (intro w'; go_simp; with_reducible rfl); rotate_left; (simp only [Act.put, q1_, q2_, q3_, i64_w, i32_w]; rfl)
               refine pure_ (i := 1) (N := some 59) (v := ?_) (a' := ?_) #[Y_, Y_, N_, N_, N_, N_, N_, N_, N_, N_, N_, N_, N_, N_, N_, N_, N_, N_, N_, N_] rfl rfl (any_of HT_.out (by kernel_rfl)) (fun _ _ _ h => h) (Or.inl ⟨by rfl, ?_⟩) ?_ ?_
               rotate_left; (intro w'; go_simp; with_reducible rfl); rotate_left; (simp only [Act.put, q1_, q2_, q3_, i64_w, i32_w]; rfl)
               refine pure_ (i := 2) (N := some 60) (v := ?_) (a' := ?_) #[Y_, Y_, Y_, N_, N_, N_, N_, N_, N_, N_, N_, N_, N_, N_, N_, N_, N_, N_, N_, N_] rfl rfl (any_of HT_.out (by kernel_rfl)) (fun _ _ _ h => h) (Or.inl ⟨by rfl, ?_⟩) ?_ ?_
               rotate_left; (intro w'; go_simp; with_reducible rfl); rotate_left; (simp only [Act.put, q1_, q2_, q3_, i64_w, i32_w]; rfl)
               refine pure_ (i := 3) (N := some 61) (v := ?_) (a' := ?_) #[Y_, Y_, Y_, Y_, N_, N_, N_, N_, N_, N_, N_, N_, N_, N_, N_, N_, N_, N_, N_, N_] rfl rfl (any_of HT_.out (by kernel_rfl)) (fun _ _ _ h => h) (Or.inl ⟨by rfl, ?_⟩) ?_ ?_
               rotate_left; (intro w'; go_simp; with_reducible rfl); rotate_left; (simp only [Act.put, q1_, q2_, q3_, i64_w, i32_w]; rfl)
               refine pure_ (i := 6) (N := some 64) (v := ?_) (a' := ?_) #[Y_, Y_, Y_, Y_, N_, N_, Y_, N_, N_, N_, N_, N_, N_, N_, N_, N_, N_, N_, N_, N_] rfl rfl (any_of HT_.out (by kernel_rfl)) (fun _ _ _ h => h) (Or.inl ⟨by rfl, ?_⟩) ?_ ?_
               rotate_left; (intro w'; go_simp; with_reducible rfl); rotate_left; (simp only [Act.put, q1_, q2_, q3_, i64_w, i32_w]; rfl)
               refine pure_ (i := 7) (N := some 65) (v := ?_) (a' := ?_) #[Y_, Y_, Y_, Y_, N_, N_, Y_, Y_, N_, N_, N_, N_, N_, N_, N_, N_, N_, N_, N_, N_] rfl rfl (any_of HT_.out (by kernel_rfl)) (fun _ _ _ h => h) (Or.inl ⟨by rfl, ?_⟩) ?_ ?_
               rotate_left; (intro w'; go_simp; with_reducible rfl); rotate_left; (simp only [Act.put, q1_, q2_, q3_, i64_w, i32_w]; rfl)
               refine pure_ (i := 8) (N := some 66) (v := ?_) (a' := ?_) #[Y_, Y_, Y_, Y_, N_, N_, Y_, Y_, Y_, N_, N_, N_, N_, N_, N_, N_, N_, N_, N_, N_] rfl rfl (any_of HT_.out (by kernel_rfl)) (fun _ _ _ h => h) (Or.inl ⟨by rfl, ?_⟩) ?_ ?_
               rotate_left; (intro w'; go_simp; with_reducible rfl); rotate_left; (simp only [Act.put, q1_, q2_, q3_, i64_w, i32_w]; rfl)
               refine pure_ (i := 9) (N := some 67) (v := ?_) (a' := ?_) #[Y_, Y_, Y_, Y_, N_, N_, Y_, Y_, Y_, Y_, N_, N_, N_, N_, N_, N_, N_, N_, N_, N_] rfl rfl (any_of HT_.out (by kernel_rfl)) (fun _ _ _ h => h) (Or.inl ⟨by rfl, ?_⟩) ?_ ?_
               rotate_left; (intro w'; go_simp; with_reducible rfl); rotate_left; (simp only [Act.put, q1_, q2_, q3_, i64_w, i32_w]; rfl)
               refine pure_ (i := 10) (N := some 68) (v := ?_) (a' := ?_) #[Y_, Y_, Y_, Y_, N_, N_, Y_, Y_, Y_, Y_, Y_, N_, N_, N_, N_, N_, N_, N_, N_, N_] rfl rfl (any_of HT_.out (by kernel_rfl)) (fun _ _ _ h => h) (Or.inl ⟨by rfl, ?_⟩) ?_ ?_
               rotate_left; (intro w'; go_simp; with_reducible rfl); rotate_left; (simp only [Act.put, q1_, q2_, q3_, i64_w, i32_w]; rfl)
               refine pure_ (i := 11) (N := some 69) (v := ?_) (a' := ?_) #[Y_, Y_, Y_, Y_, N_, N_, Y_, Y_, Y_, Y_, Y_, Y_, N_, N_, N_, N_, N_, N_, N_, N_] rfl rfl (any_of HT_.out (by kernel_rfl)) (fun _ _ _ h => h) (Or.inl ⟨by rfl, ?_⟩) ?_ ?_
               rotate_left; (intro w'; go_simp; with_reducible rfl); rotate_left; (simp only [Act.put, q1_, q2_, q3_, i64_w, i32_w]; rfl)
               refine pure_ (i := 16) (N := some 74) (v := ?_) (a' := ?_) #[Y_, Y_, Y_, Y_, N_, N_, Y_, Y_, Y_, Y_, Y_, Y_, N_, N_, N_, N_, Y_, N_, N_, N_] rfl rfl (any_of HT_.out (by kernel_rfl)) (fun _ _ _ h => h) (Or.inl ⟨by rfl, ?_⟩) ?_ ?_
               rotate_left; (intro w'; go_simp; with_reducible rfl); rotate_left; (simp only [Act.put, q1_, q2_, q3_, i64_w, i32_w]; rfl)
               refine take_ (i := 4) (N := some 62) (v := ?_) (a' := ?_) #[Y_, Y_, Y_, Y_, Y_, N_, Y_, Y_, Y_, Y_, Y_, Y_, N_, N_, N_, N_, Y_, N_, N_, N_] rfl rfl (take_ofW HT_.out HW_.out (by kernel_rfl)) (fun _ _ _ h => h) (Or.inl ⟨by rfl, ?_⟩) hHeld ?_ ?_
               rotate_left; (rintro w' ⟨s0, s1⟩; go_simp; with_reducible rfl); rotate_left; (simp only [Act.put, q1_, q2_, q3_, i64_w, i32_w]; rfl)
               refine take_ (i := 12) (N := some 70) (v := ?_) (a' := ?_) #[Y_, Y_, Y_, Y_, Y_, N_, Y_, Y_, Y_, Y_, Y_, Y_, Y_, N_, N_, N_, Y_, N_, N_, N_] rfl rfl (take_ofW HT_.out HW_.out (by kernel_rfl)) (fun _ _ _ h => h) (Or.inl ⟨by rfl, ?_⟩) hHeld ?_ ?_
               rotate_left; (rintro w' ⟨s0, s1⟩; go_simp; with_reducible rfl); rotate_left; (simp only [Act.put, q1_, q2_, q3_, i64_w, i32_w]; rfl)
               refine pure_ (i := 13) (N := some 71) (v := ?_) (a' := ?_) #[Y_, Y_, Y_, Y_, Y_, N_, Y_, Y_, Y_, Y_, Y_, Y_, Y_, Y_, N_, N_, Y_, N_, N_, N_] rfl rfl (any_of HT_.out (by kernel_rfl)) (fun _ _ _ h => h) (Or.inl ⟨by rfl, ?_⟩) ?_ ?_
               rotate_left; (intro w'; go_simp; with_reducible rfl); rotate_left; (simp only [Act.put, q1_, q2_, q3_, i64_w, i32_w]; rfl)
               refine join_ (σ := Value) 4 #[Y_, Y_, Y_, Y_, Y_, Y_, Y_, Y_, Y_, Y_, Y_, Y_, Y_, Y_, Y_, N_, Y_, N_, N_, N_] (fun s_ => [(63, .string t523), (72, s_)]) (fun s_ w' => (w'.cell? (ad522.add ((ji14)).toNat) = some (.string (rdOf ByteArray.empty l3 (ji14))) ∧ w'.cell? (ad522.add ((ji14)).toNat) = some (.string (rdOf ByteArray.empty l3 (ji14)))) ∧ (Kd.R Kd.string 9 w' w.heap.size (fun k_ => some k_ ≠ (s_ : Value).ownBlock) (.slice Ao25 t518.length co25) t518) ∧ (Kd.R Kd.string 9 w' w.heap.size (fun k_ => some k_ ≠ (.slice Ao25 t518.length co25 : Value).ownBlock) s_ y525) ∧ (Below w.heap.size w w')) ?_ ?_
               rotate_left
               ·intro hCont
                refine two_ (i := 5) (j := 14) (Ni := some 63) (Nj := some 72) #[Y_, Y_, Y_, Y_, Y_, Y_, Y_, Y_, Y_, Y_, Y_, Y_, Y_, Y_, N_, N_, Y_, N_, N_, N_] #[Y_, Y_, Y_, Y_, Y_, N_, Y_, Y_, Y_, Y_, Y_, Y_, Y_, Y_, Y_, N_, Y_, N_, N_, N_] rfl rfl rfl rfl (two_of HT_.out (by kernel_rfl)) (by decide) (by decide) (fun K hK => ?_) (fun K hK => ?_)
                ·skip
                 refine goes_ Try.func80 (by kernel_rfl) rfl #[.string t517, .string (rdOf ByteArray.empty l3 (ji14))] (by rfl) rfl rfl (by (try simp only [List.map_toArray, List.map_cons, List.map_nil]); first | done | (simp only [hji14]; rfl) | rfl | (simp only [List.length_drop, List.length_take]; rfl)) ?_
                 with_reducible refine (hash_Node.calls t517 (rdOf ByteArray.empty l3 (ji14)) t523 _ A19.out).mono ?_
                 rintro e w27 ⟨rfl, hb⟩
                 refine ⟨_, rfl, ?_⟩
                 replace HO521 := Aside0.mk (Kd.R_below (br_ HO521.out) hb)
                 replace HB := Aside0.mk (below_step (bh_ HB.out) hb)
                 (try clear hb)
                 (try clear hb2)
                 (try clear hk)
                 (try clear hi)
                 refine hK.out _ _ ⟨((HB.out.cell (World.block_lt_of_cell? w _ hw522_0)).trans hw522_0), ((HB.out.cell (World.block_lt_of_cell? w _ hw524_0)).trans hw524_0)⟩ (fun hHeld => ?_)
                 clear hK K
                 refine norm_ (a' := ?_) ?_ ?_
                 rotate_left
                 ·show Act.put _ (some 63) _ = _
                  simp only [Act.put, q1_, q2_, q3_, i64_w, i32_w]
                  rfl
                 refine one_ (i := 14) (N := some 72) #[Y_, Y_, Y_, Y_, Y_, Y_, Y_, Y_, Y_, Y_, Y_, Y_, Y_, Y_, Y_, N_, Y_, N_, N_, N_] rfl rfl (one_of HT_.out (by kernel_rfl)) (by decide) (fun K hK => ?_)
                 refine Kd.R_lit_step Kd.string _ 9 ?hg (N := 72) ?hd (xs := ([((⟨#[1]⟩ : ByteArray) ++ t517) ++ (rdOf ByteArray.empty l3 (ji14))] : List ByteArray)) (inner := [.string (((⟨#[1]⟩ : ByteArray) ++ t517) ++ (rdOf ByteArray.empty l3 (ji14)))]) (ok := fun _ => True) (okp := fun _ => True) ?hr ?hp (fun _ hk => hk) trivial (Below.refl _ _) (Nat.le_refl _) (by simp) ?_; (case hd => rfl); (case hg => rfl); (case hr => first | (go_simp; done) | (go_simp; rfl)); (case hp => exact (Reps.one (show Kd.M Kd.string _ _ _ (((⟨#[1]⟩ : ByteArray) ++ t517) ++ (rdOf ByteArray.empty l3 (ji14))) [.string (((⟨#[1]⟩ : ByteArray) ++ t517) ++ (rdOf ByteArray.empty l3 (ji14)))] from rfl) (Reps.none _ _)))
                 intro v526 w28 ho29 hb hg_ hnew_
                 clear hg_ hnew_
                 (first | rw [← Ny525.out] at ho29 | (simp only [Int.reduceToNat] at ho29; rw [← Ny525.out] at ho29))
                 have n0_ := Aside0.mk (Kd.R_elder' (br_ HO521.out) (Kd.R_base ho29) hb)
                 have n1_ := Aside0.mk (Kd.R_lower (Kd.R_new' ho29 (Kd.R_lt (br_ HO521.out))) (below_size (bh_ HB.out)))
                 have n2_ := Aside0.mk (below_step (bh_ HB.out) hb)
                 clear HO521
                 clear HB
                 have HO521 := n0_
                 have HO527 := n1_
                 have HB := n2_
                 clear n0_ n1_ n2_
                 clear hb ho29
                 refine hK.out _ _ ⟨((HB.out.cell (World.block_lt_of_cell? w _ hw522_0)).trans hw522_0), ((HB.out.cell (World.block_lt_of_cell? w _ hw524_0)).trans hw524_0)⟩ (fun hHeld => ?_)
                 clear hK K
                 refine norm_ (a' := ?_) ?_ ?_
                 rotate_left
                 ·show Act.put _ (some 72) _ = _
                  simp only [Act.put, q1_, q2_, q3_, i64_w, i32_w]
                  rfl
                 exact norm_ (by simp only [putAll, Act.put, q1_, q2_, q3_]) (hCont (v526) _ ⟨hHeld, (by (with_reducible repeat (first | apply Kd.R_alloc | apply Kd.R_drewN | apply Kd.R_drew)); exact Kd.R_mono HO521.out (fun _ hk => hk.2)), (by (with_reducible repeat (first | apply Kd.R_alloc | apply Kd.R_drewN | apply Kd.R_drew)); exact Kd.R_mono HO527.out (fun _ hk => hk.2)), (bh_ HB.out)⟩)
                ·skip
                 refine Kd.R_lit_step Kd.string _ 9 ?hg (N := 72) ?hd (xs := ([((⟨#[1]⟩ : ByteArray) ++ t517) ++ (rdOf ByteArray.empty l3 (ji14))] : List ByteArray)) (inner := [.string (((⟨#[1]⟩ : ByteArray) ++ t517) ++ (rdOf ByteArray.empty l3 (ji14)))]) (ok := fun _ => True) (okp := fun _ => True) ?hr ?hp (fun _ hk => hk) trivial (Below.refl _ _) (Nat.le_refl _) (by simp) ?_; (case hd => rfl); (case hg => rfl); (case hr => first | (go_simp; done) | (go_simp; rfl)); (case hp => exact (Reps.one (show Kd.M Kd.string _ _ _ (((⟨#[1]⟩ : ByteArray) ++ t517) ++ (rdOf ByteArray.empty l3 (ji14))) [.string (((⟨#[1]⟩ : ByteArray) ++ t517) ++ (rdOf ByteArray.empty l3 (ji14)))] from rfl) (Reps.none _ _)))
                 intro v526 w27 ho28 hb hg_ hnew_
                 clear hg_ hnew_
                 (first | rw [← Ny525.out] at ho28 | (simp only [Int.reduceToNat] at ho28; rw [← Ny525.out] at ho28))
                 have n0_ := Aside0.mk (Kd.R_elder' (br_ HO521.out) (Kd.R_base ho28) hb)
                 have n1_ := Aside0.mk (Kd.R_lower (Kd.R_new' ho28 (Kd.R_lt (br_ HO521.out))) (below_size (bh_ HB.out)))
                 have n2_ := Aside0.mk (below_step (bh_ HB.out) hb)
                 clear HO521
                 clear HB
                 have HO521 := n0_
                 have HO527 := n1_
                 have HB := n2_
                 clear n0_ n1_ n2_
                 clear hb ho28
                 refine hK.out _ _ ⟨((HB.out.cell (World.block_lt_of_cell? w _ hw522_0)).trans hw522_0), ((HB.out.cell (World.block_lt_of_cell? w _ hw524_0)).trans hw524_0)⟩ (fun hHeld => ?_)
                 clear hK K
                 refine norm_ (a' := ?_) ?_ ?_
                 rotate_left
                 ·show Act.put _ (some 72) _ = _
                  simp only [Act.put, q1_, q2_, q3_, i64_w, i32_w]
                  rfl
                 refine one_ (i := 5) (N := some 63) #[Y_, Y_, Y_, Y_, Y_, Y_, Y_, Y_, Y_, Y_, Y_, Y_, Y_, Y_, Y_, N_, Y_, N_, N_, N_] rfl rfl (one_of HT_.out (by kernel_rfl)) (by decide) (fun K hK => ?_)
                 refine goes_ Try.func80 (by kernel_rfl) rfl #[.string t517, .string (rdOf ByteArray.empty l3 (ji14))] (by rfl) rfl rfl (by (try simp only [List.map_toArray, List.map_cons, List.map_nil]); first | done | (simp only [hji14]; rfl) | rfl | (simp only [List.length_drop, List.length_take]; rfl)) ?_
                 with_reducible refine (hash_Node.calls t517 (rdOf ByteArray.empty l3 (ji14)) t523 _ A19.out).mono ?_
                 rintro e w29 ⟨rfl, hb⟩
                 refine ⟨_, rfl, ?_⟩
                 replace HO521 := Aside0.mk (Kd.R_below (br_ HO521.out) hb)
                 replace HO527 := Aside0.mk (Kd.R_below (br_ HO527.out) hb)
                 replace HB := Aside0.mk (below_step (bh_ HB.out) hb)
                 (try clear hb)
                 (try clear hb2)
                 (try clear hk)
                 (try clear hi)
                 refine hK.out _ _ ⟨((HB.out.cell (World.block_lt_of_cell? w _ hw522_0)).trans hw522_0), ((HB.out.cell (World.block_lt_of_cell? w _ hw524_0)).trans hw524_0)⟩ (fun hHeld => ?_)
                 clear hK K
                 refine norm_ (a' := ?_) ?_ ?_
                 rotate_left
                 ·show Act.put _ (some 63) _ = _
                  simp only [Act.put, q1_, q2_, q3_, i64_w, i32_w]
                  rfl
                 exact norm_ (by simp only [putAll, Act.put, q1_, q2_, q3_]) (hCont (v526) _ ⟨hHeld, (by (with_reducible repeat (first | apply Kd.R_alloc | apply Kd.R_drewN | apply Kd.R_drew)); exact Kd.R_mono HO521.out (fun _ hk => hk.2)), (by (with_reducible repeat (first | apply Kd.R_alloc | apply Kd.R_drewN | apply Kd.R_drew)); exact Kd.R_mono HO527.out (fun _ hk => hk.2)), (bh_ HB.out)⟩)
               rintro v526 w30 ⟨hS_, h0_, h1_, h2_⟩
               have n0_ : Aside0 (Kd.R Kd.string 9 w30 w.heap.size (fun k_ => some k_ ≠ (v526 : Value).ownBlock) (.slice Ao25 t518.length co25) t518) := ⟨h0_⟩
               have n1_ : Aside0 (Kd.R Kd.string 9 w30 w.heap.size (fun k_ => some k_ ≠ (.slice Ao25 t518.length co25 : Value).ownBlock) v526 y525) := ⟨h1_⟩
               have n2_ : Aside0 (Below w.heap.size w w30) := ⟨h2_⟩
               clear HO521
               clear HB
               clear h0_ h1_ h2_
               have HO521 := n0_
               have HO527 := n1_
               have HB := n2_
               clear n0_ n1_ n2_
               have hHeld : w30.cell? (ad522.add ((ji14)).toNat) = some (.string (rdOf ByteArray.empty l3 (ji14))) ∧ w30.cell? (ad522.add ((ji14)).toNat) = some (.string (rdOf ByteArray.empty l3 (ji14))) := hS_
               obtain ⟨Ao32, co32, eo32⟩ := Kd.R_slice HO527.out
               (first | subst eo32 | (injection eo32 with f1_ f2_ f3_; have f4_ := f1_.symm; have f5_ := f3_.symm; clear f1_ f2_ f3_; subst f4_; subst f5_))
               refine norm_ (a' := ?_) ?_ ?_
               rotate_left
               ·simp only [putAll, Act.put, q1_, q2_, q3_]
                rfl
               refine one_ (i := 15) (N := some 73) #[Y_, Y_, Y_, Y_, Y_, Y_, Y_, Y_, Y_, Y_, Y_, Y_, Y_, Y_, Y_, Y_, Y_, N_, N_, N_] rfl rfl (one_of HT_.out (by kernel_rfl)) (by decide) (fun K hK => ?_)
               refine Kd.R_append_rows_step Kd.string (w0 := w) w.heap.size (by rfl) (.tmp 64) (.tmp 72) 51 9 (.string ⟨#[]⟩) 16 rfl Try.underlying51 info9 rfl (by decide) (by omega) (.slice Ao25 t518.length co25) t518 y525 _ _ _ (fun k_ => some k_ ≠ (.slice Ao32 y525.length co32 : Value).ownBlock) (fun _ => False) rfl rfl ?aO ?aR (fun _ _ h => h) (fun _ h => h.elim) ?aF ?aB ?aS ?aL ?_
               (case aR => repeat (first | exact (Kd.R_reads' HO527.out).2.2 | (with_reducible refine Kd.C_alloc ?_ _) | (with_reducible refine Kd.C_drewN ?_ _) | (with_reducible refine Kd.C_drew ?_)))
               (case aB => exact (bh_ HB.out))
               (case aF => exact (fun k_ hk => Kd.fresh' (Kd.R_lt (br_ HO527.out)) k_ hk))
               (case aO => exact (br_ HO521.out))
               (case aS => exact (below_size (bh_ HB.out)))
               (case aL => have := LMc22.out; omega)
               intro v529 w31 ho hb hg hat
               rw [← Ny528.out] at ho
               have n0_ := Aside0.mk (Kd.R_after (ok := (fun _ => True)) (by (with_reducible repeat (first | apply Kd.R_alloc | apply Kd.R_drewN | apply Kd.R_drew)); exact Kd.R_mono HO527.out (fun _ hk => ⟨trivial, hk⟩)) hg hat)
               have n1_ := Aside0.mk (hb)
               have n2_ := Aside0.mk (ho)
               clear HO527
               clear HB
               clear HO521
               have HO527 := n0_
               have HB := n1_
               have HO530 := n2_
               clear n0_ n1_ n2_
               clear ho hb hg hat
               refine hK.out _ _ ⟨((HB.out.cell (World.block_lt_of_cell? w _ hw522_0)).trans hw522_0), ((HB.out.cell (World.block_lt_of_cell? w _ hw524_0)).trans hw524_0)⟩ (fun hHeld => ?_)
               clear hK K
               refine norm_ (a' := ?_) ?_ ?_
               rotate_left
               ·show Act.put _ (some 73) _ = _
                simp only [Act.put, q1_, q2_, q3_, i64_w, i32_w]
                rfl
               refine pure_ (i := 17) (N := some 8) (v := ?_) (a' := ?_) #[Y_, Y_, Y_, Y_, Y_, Y_, Y_, Y_, Y_, Y_, Y_, Y_, Y_, Y_, Y_, Y_, Y_, Y_, N_, N_] rfl rfl (any_of HT_.out (by kernel_rfl)) (fun _ _ _ h => h) (Or.inl ⟨by rfl, ?_⟩) ?_ ?_
               rotate_left; (intro w'; go_simp; with_reducible rfl); rotate_left; (simp only [Act.put, q1_, q2_, q3_, i64_w, i32_w]; rfl)
               refine pure_ (i := 18) (N := some 9) (v := ?_) (a' := ?_) #[Y_, Y_, Y_, Y_, Y_, Y_, Y_, Y_, Y_, Y_, Y_, Y_, Y_, Y_, Y_, Y_, Y_, Y_, Y_, N_] rfl rfl (any_of HT_.out (by kernel_rfl)) (fun _ _ _ h => h) (Or.inl ⟨by rfl, ?_⟩) ?_ ?_
               rotate_left; (intro w'; go_simp; with_reducible rfl); rotate_left; (simp only [Act.put, q1_, q2_, q3_, i64_w, i32_w]; rfl)
               refine pure_ (i := 19) (N := some 10) (v := ?_) (a' := ?_) #[Y_, Y_, Y_, Y_, Y_, Y_, Y_, Y_, Y_, Y_, Y_, Y_, Y_, Y_, Y_, Y_, Y_, Y_, Y_, Y_] rfl rfl (any_of HT_.out (by kernel_rfl)) (fun _ _ _ h => h) (Or.inl ⟨by rfl, ?_⟩) ?_ ?_
               rotate_left; (intro w'; go_simp; with_reducible rfl); rotate_left; (simp only [Act.put, q1_, q2_, q3_, i64_w, i32_w]; rfl)
               refine done_ (done_of HT_.out (by kernel_rfl)) ?_
               try go_wp2
               go_ret3
               exact ⟨_, by first | rfl | (simp [errW_none, errW_some] <;> rfl) | (simp only [← hji14]; first | rfl | (simp [errW_none, errW_some] <;> rfl)) | (simp [*, errW_none, errW_some] <;> rfl), by (with_reducible repeat (first | apply Kd.R_alloc | apply Kd.R_drewN | apply Kd.R_drew)); exact Kd.R_mono HO530.out (fun _ hk => trivial), by repeat (first | (with_reducible first | exact HB.out | apply below_alloc | apply pw_below_drewN | apply below_drew1) | exact HB.out)⟩
              ·rw [if_neg c22] at H
               exact absurd H (by simp)
             ·rw [if_neg c21] at H
              exact absurd H (by simp)
            ·rw [if_neg c20] at H
             exact absurd H (by simp)
           ·rw [if_neg c18] at H
            exact absurd H (by simp)
          ·rw [if_neg c16] at H
           exact absurd H (by simp)
         ·rw [if_neg c15] at H
          exact absurd H (by simp)
        ·rw [if_neg c13] at H
         have c13b0 : decide (a1 < x12_2) = false := decide_eq_false c13
         clear c13
         obtain ⟨ji33, hji33⟩ : ∃ j_ : Int, (wrap64 ((l3.length : Int) - 1)) = j_ := ⟨_, rfl⟩
         replace H : (if 0 ≤ (ji33) then (if (ji33) ≤ (l3.length : Int) then ((proof_climb.f k2 a0 (wrap64 (a1 - x12_2)) (wrap64 (a2 - x12_2)) (l3.take ((ji33) : Int).toNat)).bind fun bt532 => (if (ji33) < (l3.length : Int) then ((hash_Node.f (rdOf ByteArray.empty l3 (ji33)) bt532.1).bind fun t538 => (if 1 + (rdOf ByteArray.empty l3 (ji33)).size ≤ 9223372036854775807 then (if ((⟨#[1]⟩ : ByteArray) ++ (rdOf ByteArray.empty l3 (ji33))).size + bt532.1.size ≤ 9223372036854775807 then ((some (([((⟨#[1]⟩ : ByteArray) ++ (rdOf ByteArray.empty l3 (ji33))) ++ bt532.1] : List ByteArray) : List ByteArray)).bind fun y540 => (if bt532.2.1.length + y540.length < 8796093022208 then (some (t538, (bt532.2.1 ++ y540), bt532.2.2)) else (none))) else (none)) else (none))) else (none))) else (none)) else (none)) = some (r1, r2, r3) := by first | (rw [hji33] at H; exact H) | (simp only [hji33] at H ⊢; exact H)
         have hji33w : (IntKind.i64.wrap ((l3.length : Int) - 1)) = ji33 := (i64_w _).trans hji33
         by_cases c34 : 0 ≤ (ji33)
         ·rw [if_pos c34] at H
          have c34b0 := eq_true c34
          have c34b1 : decide (0 ≤ (ji33)) = true := decide_eq_true c34
          clear c34
          by_cases c35 : (ji33) ≤ (l3.length : Int)
          ·rw [if_pos c35] at H
           have c35b0 := eq_true c35
           have c35b1 : decide ((ji33) ≤ (l3.length : Int)) = true := decide_eq_true c35
           clear c35
           replace H := Option.bind_eq_some_iff.mp H
           obtain ⟨⟨t532, t533, t534⟩, A360, H⟩ := H
           replace H : (if (ji33) < (l3.length : Int) then ((hash_Node.f (rdOf ByteArray.empty l3 (ji33)) t532).bind fun t538 => (if 1 + (rdOf ByteArray.empty l3 (ji33)).size ≤ 9223372036854775807 then (if ((⟨#[1]⟩ : ByteArray) ++ (rdOf ByteArray.empty l3 (ji33))).size + t532.size ≤ 9223372036854775807 then ((some (([((⟨#[1]⟩ : ByteArray) ++ (rdOf ByteArray.empty l3 (ji33))) ++ t532] : List ByteArray) : List ByteArray)).bind fun y540 => (if t533.length + y540.length < 8796093022208 then (some (t538, (t533 ++ y540), t534)) else (none))) else (none)) else (none))) else (none)) = some (r1, r2, r3) := H
           have A36 := Aside0.mk A360
           clear A360
           by_cases c37 : (ji33) < (l3.length : Int)
           ·rw [if_pos c37] at H
            have c37b0 : decide ((ji33) < (l3.length : Int)) = true := decide_eq_true c37
            clear c37
            replace H := Option.bind_eq_some_iff.mp H
            obtain ⟨t538, A380, H⟩ := H
            replace H : (if 1 + (rdOf ByteArray.empty l3 (ji33)).size ≤ 9223372036854775807 then (if ((⟨#[1]⟩ : ByteArray) ++ (rdOf ByteArray.empty l3 (ji33))).size + t532.size ≤ 9223372036854775807 then ((some (([((⟨#[1]⟩ : ByteArray) ++ (rdOf ByteArray.empty l3 (ji33))) ++ t532] : List ByteArray) : List ByteArray)).bind fun y540 => (if t533.length + y540.length < 8796093022208 then (some (t538, (t533 ++ y540), t534)) else (none))) else (none)) else (none)) = some (r1, r2, r3) := H
            have A38 := Aside0.mk A380
            clear A380
            by_cases c39 : 1 + (rdOf ByteArray.empty l3 (ji33)).size ≤ 9223372036854775807
            ·rw [if_pos c39] at H
             have c39b0 := eq_true c39
             have c39b1 : decide (1 + (rdOf ByteArray.empty l3 (ji33)).size ≤ 9223372036854775807) = true := decide_eq_true c39
             try have c39b2 : (9223372036854775807 < 1 + (rdOf ByteArray.empty l3 (ji33)).size) = False := eq_false (Nat.not_lt.2 c39)
             by_cases c40 : ((⟨#[1]⟩ : ByteArray) ++ (rdOf ByteArray.empty l3 (ji33))).size + t532.size ≤ 9223372036854775807
             ·rw [if_pos c40] at H
              have c40b0 := eq_true c40
              have c40b1 : decide (((⟨#[1]⟩ : ByteArray) ++ (rdOf ByteArray.empty l3 (ji33))).size + t532.size ≤ 9223372036854775807) = true := decide_eq_true c40
              try have c40b2 : (9223372036854775807 < ((⟨#[1]⟩ : ByteArray) ++ (rdOf ByteArray.empty l3 (ji33))).size + t532.size) = False := eq_false (Nat.not_lt.2 c40)
              try (have c40b2x := c40b2; simp only [ByteArray.size_append, show (⟨#[1]⟩ : ByteArray).size = 1 from rfl] at c40b2x)
              obtain ⟨y540, hy540⟩ : ∃ y_ : List ByteArray, y_ = (([((⟨#[1]⟩ : ByteArray) ++ (rdOf ByteArray.empty l3 (ji33))) ++ t532] : List ByteArray)) := ⟨_, rfl⟩
              replace H : (if t533.length + y540.length < 8796093022208 then (some (t538, (t533 ++ y540), t534)) else (none)) = some (r1, r2, r3) := by first | (rw [hy540]; with_reducible exact H) | (have H2_ := (Option.bind_some _ _).symm.trans H; rw [hy540]; with_reducible exact H2_) | (have H2_ := (Option.bind_some _ _).symm.trans H; with_reducible exact H2_) | with_reducible exact H | (rw [hy540]; exact H) | exact H
              have Ny540 := Aside0.mk hy540
              clear hy540
              by_cases c41 : t533.length + y540.length < 8796093022208
              ·rw [if_pos c41] at H
               have LMc41 := Aside0.mk c41
               clear c41
               obtain ⟨y543, hy543⟩ : ∃ y_ : List ByteArray, y_ = (t533 ++ y540) := ⟨_, rfl⟩
               replace H : (some (t538, y543, t534)) = some (r1, r2, r3) := by first | (rw [hy543]; with_reducible exact H) | (have H2_ := (Option.bind_some _ _).symm.trans H; rw [hy543]; with_reducible exact H2_) | (have H2_ := (Option.bind_some _ _).symm.trans H; with_reducible exact H2_) | with_reducible exact H | (rw [hy543]; exact H) | exact H
               have Ny543 := Aside0.mk hy543
               clear hy543
               simp only [Option.some.injEq, Prod.mk.injEq] at H
               obtain ⟨rfl, rfl, rfl⟩ := H
               obtain ⟨i042, hi042, _, hsz42, _⟩ := info_parts info9
               obtain ⟨hcut42, hA42, hC42⟩ := print_take_of (P := Try.prog) Value.string (⟨#[]⟩ : ByteArray) 51 9 .i64 Try.underlying51 hi042 hsz42 A3 c3 l3 (ji33) (of_decide_eq_true (by first | (with_reducible assumption) | assumption)) (of_decide_eq_true (by first | (with_reducible assumption) | assumption)) HC3.out
               have HR531 := Aside0.mk (Kd.C_of_reads (h1 := fun _ => rfl) (hA42 _ (Kd.reads_of_C HR3.out)))
               have HC531 := Aside0.mk hC42
               clear hA42 hC42 hi042 hsz42
               try go_wp2_with (first | ((with_reducible refine gate_callee (f := 84) rfl ?_); refine goesL_ (some 86) rfl rfl Try.func84 (by kernel_rfl) rfl #[.string a0, .int .i64 (wrap64 (a1 - x12_2)), .int .i64 (wrap64 (a2 - x12_2)), .slice A3 (l3.take ((ji33) : Int).toNat).length c3] rfl (by (try simp only [List.map_toArray, List.map_cons, List.map_nil]); first | done | (rw [show (l3.take ((ji33) : Int).toNat).length = (ji33).toNat from (by rw [List.length_take]; have h_ : ((ji33) : Int) ≤ (l3.length : Int) := of_decide_eq_true (by first | (with_reducible assumption) | assumption); omega)] <;> rfl) | (simp only [hji33]; rfl) | rfl | (simp only [List.length_drop, List.length_take]; rfl)) ?_; (with_reducible refine (ih k2 (by have := HJ5.out; have := HK2.out; omega) a0 (wrap64 (a1 - x12_2)) (wrap64 (a2 - x12_2)) _ _ (l3.take ((ji33) : Int).toNat) t532 t533 t534 _ ?side1 ?side2 A36.out).mono ?_); (case side1 => repeat (first | exact (Kd.C_below HR531.out HB.out) | (with_reducible refine Kd.C_alloc ?_ _) | (with_reducible refine Kd.C_drewN ?_ _) | (with_reducible refine Kd.C_drew ?_))); (case side2 => exact HC531.out); rintro e w43 ⟨v535, rfl, ho0, hb⟩; refine ⟨_, rfl, ?_⟩; have HO536 := Aside0.mk (Kd.R_lower ho0 (below_size (bh_ HB.out))); replace HB := Aside0.mk (below_step (bh_ HB.out) hb); (try clear hb); (try clear ho0); obtain ⟨Ao44, co44, eo44⟩ := Kd.R_slice HO536.out; subst eo44))
               replace HO536 := Aside0.mk (Kd.R_drew HO536.out)
               replace HB := Aside0.mk (below_drew1 HB.out)
               have p537 : 0 ≤ ((ji33) : Int) := of_decide_eq_true (by first | (with_reducible assumption) | assumption)
               have q537 : (ji33) < (l3.length : Int) := of_decide_eq_true (by first | (with_reducible assumption) | assumption)
               obtain ⟨ad537, e537, hx537_0⟩ := Kd.at_string HR3.out (ji33) p537 q537
               have hw537_0 := hx537_0
               cases e537
               replace hx537_0 := (HB.out.cell (World.block_lt_of_cell? w _ hx537_0)).trans hx537_0
               replace p537 := eq_true p537
               replace q537 := eq_true q537
               have p539 : 0 ≤ ((ji33) : Int) := of_decide_eq_true (by first | (with_reducible assumption) | assumption)
               have q539 : (ji33) < (l3.length : Int) := of_decide_eq_true (by first | (with_reducible assumption) | assumption)
               obtain ⟨ad539, e539, hx539_0⟩ := Kd.at_string HR3.out (ji33) p539 q539
               have hw539_0 := hx539_0
               obtain rfl : ad537 = ad539 := (by injection e539)
               replace hx539_0 := (HB.out.cell (World.block_lt_of_cell? w _ hx539_0)).trans hx539_0
               replace p539 := eq_true p539
               replace q539 := eq_true q539
               refine start_ (n := 20) (S := fun w' => w'.cell? (ad537.add ((ji33)).toNat) = some (.string (rdOf ByteArray.empty l3 (ji33))) ∧ w'.cell? (ad537.add ((ji33)).toNat) = some (.string (rdOf ByteArray.empty l3 (ji33)))) (ds := []) #[N_, N_, N_, N_, N_, N_, N_, N_, N_, N_, N_, N_, N_, N_, N_, N_, N_, N_, N_, N_] (by kernel_rfl) rfl rfl ⟨((HB.out.cell (World.block_lt_of_cell? w _ hw537_0)).trans hw537_0), ((HB.out.cell (World.block_lt_of_cell? w _ hw539_0)).trans hw539_0)⟩ (fun hHeld => ?_); refine with_tabW proof_climb.tab13 proof_climb.bits13 (fun HT_ HW_ => ?_)
               generalize w43.drew = w45 at HO536 HB hx537_0 hx539_0 hHeld ⊢
               refine pure_ (i := 0) (N := some 90) (v := ?_) (a' := ?_) #[Y_, N_, N_, N_, N_, N_, N_, N_, N_, N_, N_, N_, N_, N_, N_, N_, N_, N_, N_, N_] rfl rfl (any_of HT_.out (by kernel_rfl)) (fun _ _ _ h => h) (Or.inl ⟨by rfl, ?_⟩) ?_ ?_
               rotate_left; (intro w'; go_simp; with_reducible rfl); rotate_left; (simp only [Act.put, q1_, q2_, q3_, i64_w, i32_w]; rfl)
               refine pure_ (i := 1) (N := some 91) (v := ?_) (a' := ?_) #[Y_, Y_, N_, N_, N_, N_, N_, N_, N_, N_, N_, N_, N_, N_, N_, N_, N_, N_, N_, N_] rfl rfl (any_of HT_.out (by kernel_rfl)) (fun _ _ _ h => h) (Or.inl ⟨by rfl, ?_⟩) ?_ ?_
               rotate_left; (intro w'; go_simp; with_reducible rfl); rotate_left; (simp only [Act.put, q1_, q2_, q3_, i64_w, i32_w]; rfl)
               refine pure_ (i := 2) (N := some 92) (v := ?_) (a' := ?_) #[Y_, Y_, Y_, N_, N_, N_, N_, N_, N_, N_, N_, N_, N_, N_, N_, N_, N_, N_, N_, N_] rfl rfl (any_of HT_.out (by kernel_rfl)) (fun _ _ _ h => h) (Or.inl ⟨by rfl, ?_⟩) ?_ ?_
               rotate_left; (intro w'; go_simp; with_reducible rfl); rotate_left; (simp only [Act.put, q1_, q2_, q3_, i64_w, i32_w]; rfl)
               refine pure_ (i := 4) (N := some 94) (v := ?_) (a' := ?_) #[Y_, Y_, Y_, N_, Y_, N_, N_, N_, N_, N_, N_, N_, N_, N_, N_, N_, N_, N_, N_, N_] rfl rfl (any_of HT_.out (by kernel_rfl)) (fun _ _ _ h => h) (Or.inl ⟨by rfl, ?_⟩) ?_ ?_
               rotate_left; (intro w'; go_simp; with_reducible rfl); rotate_left; (simp only [Act.put, q1_, q2_, q3_, i64_w, i32_w]; rfl)
               refine pure_ (i := 6) (N := some 96) (v := ?_) (a' := ?_) #[Y_, Y_, Y_, N_, Y_, N_, Y_, N_, N_, N_, N_, N_, N_, N_, N_, N_, N_, N_, N_, N_] rfl rfl (any_of HT_.out (by kernel_rfl)) (fun _ _ _ h => h) (Or.inl ⟨by rfl, ?_⟩) ?_ ?_
               rotate_left; (intro w'; go_simp; with_reducible rfl); rotate_left; (simp only [Act.put, q1_, q2_, q3_, i64_w, i32_w]; rfl)
               refine pure_ (i := 7) (N := some 97) (v := ?_) (a' := ?_) #[Y_, Y_, Y_, N_, Y_, N_, Y_, Y_, N_, N_, N_, N_, N_, N_, N_, N_, N_, N_, N_, N_] rfl rfl (any_of HT_.out (by kernel_rfl)) (fun _ _ _ h => h) (Or.inl ⟨by rfl, ?_⟩) ?_ ?_
               rotate_left; (intro w'; go_simp; with_reducible rfl); rotate_left; (simp only [Act.put, q1_, q2_, q3_, i64_w, i32_w]; rfl)
               refine pure_ (i := 8) (N := some 98) (v := ?_) (a' := ?_) #[Y_, Y_, Y_, N_, Y_, N_, Y_, Y_, Y_, N_, N_, N_, N_, N_, N_, N_, N_, N_, N_, N_] rfl rfl (any_of HT_.out (by kernel_rfl)) (fun _ _ _ h => h) (Or.inl ⟨by rfl, ?_⟩) ?_ ?_
               rotate_left; (intro w'; go_simp; with_reducible rfl); rotate_left; (simp only [Act.put, q1_, q2_, q3_, i64_w, i32_w]; rfl)
               refine pure_ (i := 9) (N := some 99) (v := ?_) (a' := ?_) #[Y_, Y_, Y_, N_, Y_, N_, Y_, Y_, Y_, Y_, N_, N_, N_, N_, N_, N_, N_, N_, N_, N_] rfl rfl (any_of HT_.out (by kernel_rfl)) (fun _ _ _ h => h) (Or.inl ⟨by rfl, ?_⟩) ?_ ?_
               rotate_left; (intro w'; go_simp; with_reducible rfl); rotate_left; (simp only [Act.put, q1_, q2_, q3_, i64_w, i32_w]; rfl)
               refine pure_ (i := 12) (N := some 102) (v := ?_) (a' := ?_) #[Y_, Y_, Y_, N_, Y_, N_, Y_, Y_, Y_, Y_, N_, N_, Y_, N_, N_, N_, N_, N_, N_, N_] rfl rfl (any_of HT_.out (by kernel_rfl)) (fun _ _ _ h => h) (Or.inl ⟨by rfl, ?_⟩) ?_ ?_
               rotate_left; (intro w'; go_simp; with_reducible rfl); rotate_left; (simp only [Act.put, q1_, q2_, q3_, i64_w, i32_w]; rfl)
               refine pure_ (i := 16) (N := some 106) (v := ?_) (a' := ?_) #[Y_, Y_, Y_, N_, Y_, N_, Y_, Y_, Y_, Y_, N_, N_, Y_, N_, N_, N_, Y_, N_, N_, N_] rfl rfl (any_of HT_.out (by kernel_rfl)) (fun _ _ _ h => h) (Or.inl ⟨by rfl, ?_⟩) ?_ ?_
               rotate_left; (intro w'; go_simp; with_reducible rfl); rotate_left; (simp only [Act.put, q1_, q2_, q3_, i64_w, i32_w]; rfl)
               refine take_ (i := 3) (N := some 93) (v := ?_) (a' := ?_) #[Y_, Y_, Y_, Y_, Y_, N_, Y_, Y_, Y_, Y_, N_, N_, Y_, N_, N_, N_, Y_, N_, N_, N_] rfl rfl (take_ofW HT_.out HW_.out (by kernel_rfl)) (fun _ _ _ h => h) (Or.inl ⟨by rfl, ?_⟩) hHeld ?_ ?_
               rotate_left; (rintro w' ⟨s0, s1⟩; go_simp; with_reducible rfl); rotate_left; (simp only [Act.put, q1_, q2_, q3_, i64_w, i32_w]; rfl)
               refine take_ (i := 10) (N := some 100) (v := ?_) (a' := ?_) #[Y_, Y_, Y_, Y_, Y_, N_, Y_, Y_, Y_, Y_, Y_, N_, Y_, N_, N_, N_, Y_, N_, N_, N_] rfl rfl (take_ofW HT_.out HW_.out (by kernel_rfl)) (fun _ _ _ h => h) (Or.inl ⟨by rfl, ?_⟩) hHeld ?_ ?_
               rotate_left; (rintro w' ⟨s0, s1⟩; go_simp; with_reducible rfl); rotate_left; (simp only [Act.put, q1_, q2_, q3_, i64_w, i32_w]; rfl)
               refine pure_ (i := 11) (N := some 101) (v := ?_) (a' := ?_) #[Y_, Y_, Y_, Y_, Y_, N_, Y_, Y_, Y_, Y_, Y_, Y_, Y_, N_, N_, N_, Y_, N_, N_, N_] rfl rfl (any_of HT_.out (by kernel_rfl)) (fun _ _ _ h => h) (Or.inl ⟨by rfl, ?_⟩) ?_ ?_
               rotate_left; (intro w'; go_simp; with_reducible rfl); rotate_left; (simp only [Act.put, q1_, q2_, q3_, i64_w, i32_w]; rfl)
               refine pure_ (i := 13) (N := some 103) (v := ?_) (a' := ?_) #[Y_, Y_, Y_, Y_, Y_, N_, Y_, Y_, Y_, Y_, Y_, Y_, Y_, Y_, N_, N_, Y_, N_, N_, N_] rfl rfl (any_of HT_.out (by kernel_rfl)) (fun _ _ _ h => h) (Or.inl ⟨by rfl, ?_⟩) ?_ ?_
               rotate_left; (intro w'; go_simp; with_reducible rfl); rotate_left; (simp only [Act.put, q1_, q2_, q3_, i64_w, i32_w]; rfl)
               refine join_ (σ := Value) 4 #[Y_, Y_, Y_, Y_, Y_, Y_, Y_, Y_, Y_, Y_, Y_, Y_, Y_, Y_, Y_, N_, Y_, N_, N_, N_] (fun s_ => [(95, .string t538), (104, s_)]) (fun s_ w' => (w'.cell? (ad537.add ((ji33)).toNat) = some (.string (rdOf ByteArray.empty l3 (ji33))) ∧ w'.cell? (ad537.add ((ji33)).toNat) = some (.string (rdOf ByteArray.empty l3 (ji33)))) ∧ (Kd.R Kd.string 9 w' w.heap.size (fun k_ => some k_ ≠ (s_ : Value).ownBlock) (.slice Ao44 t533.length co44) t533) ∧ (Kd.R Kd.string 9 w' w.heap.size (fun k_ => some k_ ≠ (.slice Ao44 t533.length co44 : Value).ownBlock) s_ y540) ∧ (Below w.heap.size w w')) ?_ ?_
               rotate_left
               ·intro hCont
                refine two_ (i := 5) (j := 14) (Ni := some 95) (Nj := some 104) #[Y_, Y_, Y_, Y_, Y_, Y_, Y_, Y_, Y_, Y_, Y_, Y_, Y_, Y_, N_, N_, Y_, N_, N_, N_] #[Y_, Y_, Y_, Y_, Y_, N_, Y_, Y_, Y_, Y_, Y_, Y_, Y_, Y_, Y_, N_, Y_, N_, N_, N_] rfl rfl rfl rfl (two_of HT_.out (by kernel_rfl)) (by decide) (by decide) (fun K hK => ?_) (fun K hK => ?_)
                ·skip
                 refine goes_ Try.func80 (by kernel_rfl) rfl #[.string (rdOf ByteArray.empty l3 (ji33)), .string t532] (by rfl) rfl rfl (by (try simp only [List.map_toArray, List.map_cons, List.map_nil]); first | done | (simp only [hji33]; rfl) | rfl | (simp only [List.length_drop, List.length_take]; rfl)) ?_
                 with_reducible refine (hash_Node.calls (rdOf ByteArray.empty l3 (ji33)) t532 t538 _ A38.out).mono ?_
                 rintro e w46 ⟨rfl, hb⟩
                 refine ⟨_, rfl, ?_⟩
                 replace HO536 := Aside0.mk (Kd.R_below (br_ HO536.out) hb)
                 replace HB := Aside0.mk (below_step (bh_ HB.out) hb)
                 (try clear hb)
                 (try clear hb2)
                 (try clear hk)
                 (try clear hi)
                 refine hK.out _ _ ⟨((HB.out.cell (World.block_lt_of_cell? w _ hw537_0)).trans hw537_0), ((HB.out.cell (World.block_lt_of_cell? w _ hw539_0)).trans hw539_0)⟩ (fun hHeld => ?_)
                 clear hK K
                 refine norm_ (a' := ?_) ?_ ?_
                 rotate_left
                 ·show Act.put _ (some 95) _ = _
                  simp only [Act.put, q1_, q2_, q3_, i64_w, i32_w]
                  rfl
                 refine one_ (i := 14) (N := some 104) #[Y_, Y_, Y_, Y_, Y_, Y_, Y_, Y_, Y_, Y_, Y_, Y_, Y_, Y_, Y_, N_, Y_, N_, N_, N_] rfl rfl (one_of HT_.out (by kernel_rfl)) (by decide) (fun K hK => ?_)
                 refine Kd.R_lit_step Kd.string _ 9 ?hg (N := 104) ?hd (xs := ([((⟨#[1]⟩ : ByteArray) ++ (rdOf ByteArray.empty l3 (ji33))) ++ t532] : List ByteArray)) (inner := [.string (((⟨#[1]⟩ : ByteArray) ++ (rdOf ByteArray.empty l3 (ji33))) ++ t532)]) (ok := fun _ => True) (okp := fun _ => True) ?hr ?hp (fun _ hk => hk) trivial (Below.refl _ _) (Nat.le_refl _) (by simp) ?_; (case hd => rfl); (case hg => rfl); (case hr => first | (go_simp; done) | (go_simp; rfl)); (case hp => exact (Reps.one (show Kd.M Kd.string _ _ _ (((⟨#[1]⟩ : ByteArray) ++ (rdOf ByteArray.empty l3 (ji33))) ++ t532) [.string (((⟨#[1]⟩ : ByteArray) ++ (rdOf ByteArray.empty l3 (ji33))) ++ t532)] from rfl) (Reps.none _ _)))
                 intro v541 w47 ho48 hb hg_ hnew_
                 clear hg_ hnew_
                 (first | rw [← Ny540.out] at ho48 | (simp only [Int.reduceToNat] at ho48; rw [← Ny540.out] at ho48))
                 have n0_ := Aside0.mk (Kd.R_elder' (br_ HO536.out) (Kd.R_base ho48) hb)
                 have n1_ := Aside0.mk (Kd.R_lower (Kd.R_new' ho48 (Kd.R_lt (br_ HO536.out))) (below_size (bh_ HB.out)))
                 have n2_ := Aside0.mk (below_step (bh_ HB.out) hb)
                 clear HO536
                 clear HB
                 have HO536 := n0_
                 have HO542 := n1_
                 have HB := n2_
                 clear n0_ n1_ n2_
                 clear hb ho48
                 refine hK.out _ _ ⟨((HB.out.cell (World.block_lt_of_cell? w _ hw537_0)).trans hw537_0), ((HB.out.cell (World.block_lt_of_cell? w _ hw539_0)).trans hw539_0)⟩ (fun hHeld => ?_)
                 clear hK K
                 refine norm_ (a' := ?_) ?_ ?_
                 rotate_left
                 ·show Act.put _ (some 104) _ = _
                  simp only [Act.put, q1_, q2_, q3_, i64_w, i32_w]
                  rfl
                 exact norm_ (by simp only [putAll, Act.put, q1_, q2_, q3_]) (hCont (v541) _ ⟨hHeld, (by (with_reducible repeat (first | apply Kd.R_alloc | apply Kd.R_drewN | apply Kd.R_drew)); exact Kd.R_mono HO536.out (fun _ hk => hk.2)), (by (with_reducible repeat (first | apply Kd.R_alloc | apply Kd.R_drewN | apply Kd.R_drew)); exact Kd.R_mono HO542.out (fun _ hk => hk.2)), (bh_ HB.out)⟩)
                ·skip
                 refine Kd.R_lit_step Kd.string _ 9 ?hg (N := 104) ?hd (xs := ([((⟨#[1]⟩ : ByteArray) ++ (rdOf ByteArray.empty l3 (ji33))) ++ t532] : List ByteArray)) (inner := [.string (((⟨#[1]⟩ : ByteArray) ++ (rdOf ByteArray.empty l3 (ji33))) ++ t532)]) (ok := fun _ => True) (okp := fun _ => True) ?hr ?hp (fun _ hk => hk) trivial (Below.refl _ _) (Nat.le_refl _) (by simp) ?_; (case hd => rfl); (case hg => rfl); (case hr => first | (go_simp; done) | (go_simp; rfl)); (case hp => exact (Reps.one (show Kd.M Kd.string _ _ _ (((⟨#[1]⟩ : ByteArray) ++ (rdOf ByteArray.empty l3 (ji33))) ++ t532) [.string (((⟨#[1]⟩ : ByteArray) ++ (rdOf ByteArray.empty l3 (ji33))) ++ t532)] from rfl) (Reps.none _ _)))
                 intro v541 w46 ho47 hb hg_ hnew_
                 clear hg_ hnew_
                 (first | rw [← Ny540.out] at ho47 | (simp only [Int.reduceToNat] at ho47; rw [← Ny540.out] at ho47))
                 have n0_ := Aside0.mk (Kd.R_elder' (br_ HO536.out) (Kd.R_base ho47) hb)
                 have n1_ := Aside0.mk (Kd.R_lower (Kd.R_new' ho47 (Kd.R_lt (br_ HO536.out))) (below_size (bh_ HB.out)))
                 have n2_ := Aside0.mk (below_step (bh_ HB.out) hb)
                 clear HO536
                 clear HB
                 have HO536 := n0_
                 have HO542 := n1_
                 have HB := n2_
                 clear n0_ n1_ n2_
                 clear hb ho47
                 refine hK.out _ _ ⟨((HB.out.cell (World.block_lt_of_cell? w _ hw537_0)).trans hw537_0), ((HB.out.cell (World.block_lt_of_cell? w _ hw539_0)).trans hw539_0)⟩ (fun hHeld => ?_)
                 clear hK K
                 refine norm_ (a' := ?_) ?_ ?_
                 rotate_left
                 ·show Act.put _ (some 104) _ = _
                  simp only [Act.put, q1_, q2_, q3_, i64_w, i32_w]
                  rfl
                 refine one_ (i := 5) (N := some 95) #[Y_, Y_, Y_, Y_, Y_, Y_, Y_, Y_, Y_, Y_, Y_, Y_, Y_, Y_, Y_, N_, Y_, N_, N_, N_] rfl rfl (one_of HT_.out (by kernel_rfl)) (by decide) (fun K hK => ?_)
                 refine goes_ Try.func80 (by kernel_rfl) rfl #[.string (rdOf ByteArray.empty l3 (ji33)), .string t532] (by rfl) rfl rfl (by (try simp only [List.map_toArray, List.map_cons, List.map_nil]); first | done | (simp only [hji33]; rfl) | rfl | (simp only [List.length_drop, List.length_take]; rfl)) ?_
                 with_reducible refine (hash_Node.calls (rdOf ByteArray.empty l3 (ji33)) t532 t538 _ A38.out).mono ?_
                 rintro e w48 ⟨rfl, hb⟩
                 refine ⟨_, rfl, ?_⟩
                 replace HO536 := Aside0.mk (Kd.R_below (br_ HO536.out) hb)
                 replace HO542 := Aside0.mk (Kd.R_below (br_ HO542.out) hb)
                 replace HB := Aside0.mk (below_step (bh_ HB.out) hb)
                 (try clear hb)
                 (try clear hb2)
                 (try clear hk)
                 (try clear hi)
                 refine hK.out _ _ ⟨((HB.out.cell (World.block_lt_of_cell? w _ hw537_0)).trans hw537_0), ((HB.out.cell (World.block_lt_of_cell? w _ hw539_0)).trans hw539_0)⟩ (fun hHeld => ?_)
                 clear hK K
                 refine norm_ (a' := ?_) ?_ ?_
                 rotate_left
                 ·show Act.put _ (some 95) _ = _
                  simp only [Act.put, q1_, q2_, q3_, i64_w, i32_w]
                  rfl
                 exact norm_ (by simp only [putAll, Act.put, q1_, q2_, q3_]) (hCont (v541) _ ⟨hHeld, (by (with_reducible repeat (first | apply Kd.R_alloc | apply Kd.R_drewN | apply Kd.R_drew)); exact Kd.R_mono HO536.out (fun _ hk => hk.2)), (by (with_reducible repeat (first | apply Kd.R_alloc | apply Kd.R_drewN | apply Kd.R_drew)); exact Kd.R_mono HO542.out (fun _ hk => hk.2)), (bh_ HB.out)⟩)
               rintro v541 w49 ⟨hS_, h0_, h1_, h2_⟩
               have n0_ : Aside0 (Kd.R Kd.string 9 w49 w.heap.size (fun k_ => some k_ ≠ (v541 : Value).ownBlock) (.slice Ao44 t533.length co44) t533) := ⟨h0_⟩
               have n1_ : Aside0 (Kd.R Kd.string 9 w49 w.heap.size (fun k_ => some k_ ≠ (.slice Ao44 t533.length co44 : Value).ownBlock) v541 y540) := ⟨h1_⟩
               have n2_ : Aside0 (Below w.heap.size w w49) := ⟨h2_⟩
               clear HO536
               clear HB
               clear h0_ h1_ h2_
               have HO536 := n0_
               have HO542 := n1_
               have HB := n2_
               clear n0_ n1_ n2_
               have hHeld : w49.cell? (ad537.add ((ji33)).toNat) = some (.string (rdOf ByteArray.empty l3 (ji33))) ∧ w49.cell? (ad537.add ((ji33)).toNat) = some (.string (rdOf ByteArray.empty l3 (ji33))) := hS_
               obtain ⟨Ao51, co51, eo51⟩ := Kd.R_slice HO542.out
               (first | subst eo51 | (injection eo51 with f1_ f2_ f3_; have f4_ := f1_.symm; have f5_ := f3_.symm; clear f1_ f2_ f3_; subst f4_; subst f5_))
               refine norm_ (a' := ?_) ?_ ?_
               rotate_left
               ·simp only [putAll, Act.put, q1_, q2_, q3_]
                rfl
               refine one_ (i := 15) (N := some 105) #[Y_, Y_, Y_, Y_, Y_, Y_, Y_, Y_, Y_, Y_, Y_, Y_, Y_, Y_, Y_, Y_, Y_, N_, N_, N_] rfl rfl (one_of HT_.out (by kernel_rfl)) (by decide) (fun K hK => ?_)
               refine Kd.R_append_rows_step Kd.string (w0 := w) w.heap.size (by rfl) (.tmp 96) (.tmp 104) 51 9 (.string ⟨#[]⟩) 16 rfl Try.underlying51 info9 rfl (by decide) (by omega) (.slice Ao44 t533.length co44) t533 y540 _ _ _ (fun k_ => some k_ ≠ (.slice Ao51 y540.length co51 : Value).ownBlock) (fun _ => False) rfl rfl ?aO ?aR (fun _ _ h => h) (fun _ h => h.elim) ?aF ?aB ?aS ?aL ?_
               (case aR => repeat (first | exact (Kd.R_reads' HO542.out).2.2 | (with_reducible refine Kd.C_alloc ?_ _) | (with_reducible refine Kd.C_drewN ?_ _) | (with_reducible refine Kd.C_drew ?_)))
               (case aB => exact (bh_ HB.out))
               (case aF => exact (fun k_ hk => Kd.fresh' (Kd.R_lt (br_ HO542.out)) k_ hk))
               (case aO => exact (br_ HO536.out))
               (case aS => exact (below_size (bh_ HB.out)))
               (case aL => have := LMc41.out; omega)
               intro v544 w50 ho hb hg hat
               rw [← Ny543.out] at ho
               have n0_ := Aside0.mk (Kd.R_after (ok := (fun _ => True)) (by (with_reducible repeat (first | apply Kd.R_alloc | apply Kd.R_drewN | apply Kd.R_drew)); exact Kd.R_mono HO542.out (fun _ hk => ⟨trivial, hk⟩)) hg hat)
               have n1_ := Aside0.mk (hb)
               have n2_ := Aside0.mk (ho)
               clear HO542
               clear HB
               clear HO536
               have HO542 := n0_
               have HB := n1_
               have HO545 := n2_
               clear n0_ n1_ n2_
               clear ho hb hg hat
               refine hK.out _ _ ⟨((HB.out.cell (World.block_lt_of_cell? w _ hw537_0)).trans hw537_0), ((HB.out.cell (World.block_lt_of_cell? w _ hw539_0)).trans hw539_0)⟩ (fun hHeld => ?_)
               clear hK K
               refine norm_ (a' := ?_) ?_ ?_
               rotate_left
               ·show Act.put _ (some 105) _ = _
                simp only [Act.put, q1_, q2_, q3_, i64_w, i32_w]
                rfl
               refine pure_ (i := 17) (N := some 8) (v := ?_) (a' := ?_) #[Y_, Y_, Y_, Y_, Y_, Y_, Y_, Y_, Y_, Y_, Y_, Y_, Y_, Y_, Y_, Y_, Y_, Y_, N_, N_] rfl rfl (any_of HT_.out (by kernel_rfl)) (fun _ _ _ h => h) (Or.inl ⟨by rfl, ?_⟩) ?_ ?_
               rotate_left; (intro w'; go_simp; with_reducible rfl); rotate_left; (simp only [Act.put, q1_, q2_, q3_, i64_w, i32_w]; rfl)
               refine pure_ (i := 18) (N := some 9) (v := ?_) (a' := ?_) #[Y_, Y_, Y_, Y_, Y_, Y_, Y_, Y_, Y_, Y_, Y_, Y_, Y_, Y_, Y_, Y_, Y_, Y_, Y_, N_] rfl rfl (any_of HT_.out (by kernel_rfl)) (fun _ _ _ h => h) (Or.inl ⟨by rfl, ?_⟩) ?_ ?_
               rotate_left; (intro w'; go_simp; with_reducible rfl); rotate_left; (simp only [Act.put, q1_, q2_, q3_, i64_w, i32_w]; rfl)
               refine pure_ (i := 19) (N := some 10) (v := ?_) (a' := ?_) #[Y_, Y_, Y_, Y_, Y_, Y_, Y_, Y_, Y_, Y_, Y_, Y_, Y_, Y_, Y_, Y_, Y_, Y_, Y_, Y_] rfl rfl (any_of HT_.out (by kernel_rfl)) (fun _ _ _ h => h) (Or.inl ⟨by rfl, ?_⟩) ?_ ?_
               rotate_left; (intro w'; go_simp; with_reducible rfl); rotate_left; (simp only [Act.put, q1_, q2_, q3_, i64_w, i32_w]; rfl)
               refine done_ (done_of HT_.out (by kernel_rfl)) ?_
               try go_wp2
               go_ret3
               exact ⟨_, by first | rfl | (simp [errW_none, errW_some] <;> rfl) | (simp only [← hji33]; first | rfl | (simp [errW_none, errW_some] <;> rfl)) | (simp [*, errW_none, errW_some] <;> rfl), by (with_reducible repeat (first | apply Kd.R_alloc | apply Kd.R_drewN | apply Kd.R_drew)); exact Kd.R_mono HO545.out (fun _ hk => trivial), by repeat (first | (with_reducible first | exact HB.out | apply below_alloc | apply pw_below_drewN | apply below_drew1) | exact HB.out)⟩
              ·rw [if_neg c41] at H
               exact absurd H (by simp)
             ·rw [if_neg c40] at H
              exact absurd H (by simp)
            ·rw [if_neg c39] at H
             exact absurd H (by simp)
           ·rw [if_neg c37] at H
            exact absurd H (by simp)
          ·rw [if_neg c35] at H
           exact absurd H (by simp)
         ·rw [if_neg c34] at H
          exact absurd H (by simp)
end Go.Proofs.Ytdcbacbilncnnaa.PMk
end
section
namespace Go.Proofs.Ytdcbacbilncnnaa.PMk
open Go.RowKit Go.Proofs.YtdcbacbilncnnaaW.PrintWords Go.Proofs.YtdcbacbilncnnaaW.PrintLast Go.Proofs.YtdcbacbilncnnaaW.PrintMore
attribute [local go_sem] max2_int min2_int max_two min_two max_three min_three max_four min_four   -- for this text's walks alone
set_option linter.unusedVariables false
set_option linter.unusedSimpArgs false
/-! ### proof_steps: function 51 -/
mutual
def proof_steps.j0 : Nat → Int → Bool → Int → ByteArray → ByteArray → Int → Int → ByteArray → ByteArray → Bool → Int → ByteArray → Int → Int → Int → List ByteArray → List ByteArray → Option (ByteArray × List ByteArray × Bool)
 | 0, _, _, _, _, _, _, _, _, _, _, _, _, _, _, _, _, _ => none
 | k + 1, x2, x68, x547000, x547001, x547002, x547003, x547004, x547005, x547006, x547007, x548000, x548001, x548002, x548003, x548004, x548005, x548006 => if x68 = true then (some ((⟨#[]⟩ : ByteArray), ([] : List ByteArray), false)) else ((proof_Meta.f k x547000 x547001 x547002 x547003 x547004 x547005 x547006 x547007).bind fun t548 => ((some (([] : List ByteArray) : List ByteArray)).bind fun y549 => (if x547006.toList = ([] : List UInt8) then (proof_steps.j1 k x2 t548 y549 x548000 x548001 x548002 x548003 x548004 x548005 x548006) else (if 1 + x547006.size ≤ 9223372036854775807 then (if y549.length < 8796093022208 then (proof_steps.j1 k x2 t548 (y549 ++ [(⟨#[0]⟩ : ByteArray) ++ x547006]) x548000 x548001 x548002 x548003 x548004 x548005 x548006) else (none)) else (none)))))
def proof_steps.j1 : Nat → Int → ByteArray → List ByteArray → Int → ByteArray → Int → Int → Int → List ByteArray → List ByteArray → Option (ByteArray × List ByteArray × Bool)
 | 0, _, _, _, _, _, _, _, _, _, _ => none
 | k + 1, x2, x9, x10, x548000, x548001, x548002, x548003, x548004, x548005, x548006 => if 1 + x9.size ≤ 9223372036854775807 then (if x10.length < 8796093022208 then ((some (x10 ++ [(⟨#[0]⟩ : ByteArray) ++ x9] : List ByteArray)).bind fun y555 => ((hash_Leaf.f x9).bind fun t558 => ((proof_climb.f k t558 x548003 x548004 x548005).bind fun bt559 => (if bt559.2.2 = true then (if y555.length + bt559.2.1.length < 8796093022208 then ((some (y555 ++ bt559.2.1 : List ByteArray)).bind fun y564 => ((enc_Uint.f k x548000).bind fun t567 => (if 1 + t567.size ≤ 9223372036854775807 then ((enc_Text.f k x548001).bind fun t568 => (if ((⟨#[2]⟩ : ByteArray) ++ t567).size + t568.size ≤ 9223372036854775807 then ((enc_Uint.f k x548002).bind fun t569 => (if (((⟨#[2]⟩ : ByteArray) ++ t567) ++ t568).size + t569.size ≤ 9223372036854775807 then ((enc_Uint.f k (IntKind.u64.wrap (x548004))).bind fun t570 => (if ((((⟨#[2]⟩ : ByteArray) ++ t567) ++ t568) ++ t569).size + t570.size ≤ 9223372036854775807 then (if (((((⟨#[2]⟩ : ByteArray) ++ t567) ++ t568) ++ t569) ++ t570).size + bt559.1.size ≤ 9223372036854775807 then ((Dig.hash_Sum.f ((((((⟨#[2]⟩ : ByteArray) ++ t567) ++ t568) ++ t569) ++ t570) ++ bt559.1)).bind fun t571 => (if 1 + t571.size ≤ 9223372036854775807 then ((some (([(((((⟨#[2]⟩ : ByteArray) ++ t567) ++ t568) ++ t569) ++ t570) ++ bt559.1, (⟨#[0]⟩ : ByteArray) ++ t571] : List ByteArray) : List ByteArray)).bind fun y572 => (if y564.length + y572.length < 8796093022208 then ((some (y564 ++ y572 : List ByteArray)).bind fun y575 => ((hash_Leaf.f t571).bind fun t578 => ((proof_climb.f k t578 (wrap64 (x548000)) (wrap64 (x2)) x548006).bind fun bt579 => (if y575.length + bt579.2.1.length < 8796093022208 then (some (bt579.1, (y575 ++ bt579.2.1), bt579.2.2)) else (none))))) else (none))) else (none))) else (none)) else (none))) else (none))) else (none))) else (none)))) else (none)) else (some ((⟨#[]⟩ : ByteArray), ([] : List ByteArray), false)))))) else (none)) else (none)
end
def proof_steps.f (k : Nat) (a0_0 : Int) (a0_1 : ByteArray) (a0_2 : ByteArray) (a0_3 : Int) (a0_4 : Int) (a0_5 : ByteArray) (a0_6 : ByteArray) (a0_7 : Bool) (a1_0 : Int) (a1_1 : ByteArray) (a1_2 : Int) (a1_3 : Int) (a1_4 : Int) (l1_5 : List ByteArray) (l1_6 : List ByteArray) (a2 : Int) : Option (ByteArray × List ByteArray × Bool) := if a2 < 1 then (proof_steps.j0 k a2 true a0_0 a0_1 a0_2 a0_3 a0_4 a0_5 a0_6 a0_7 a1_0 a1_1 a1_2 a1_3 a1_4 l1_5 l1_6) else (if a2 > 2147483648 then (proof_steps.j0 k a2 true a0_0 a0_1 a0_2 a0_3 a0_4 a0_5 a0_6 a0_7 a1_0 a1_1 a1_2 a1_3 a1_4 l1_5 l1_6) else (if a1_0 ≥ a2 then (proof_steps.j0 k a2 true a0_0 a0_1 a0_2 a0_3 a0_4 a0_5 a0_6 a0_7 a1_0 a1_1 a1_2 a1_3 a1_4 l1_5 l1_6) else (if a1_4 < 1 then (proof_steps.j0 k a2 true a0_0 a0_1 a0_2 a0_3 a0_4 a0_5 a0_6 a0_7 a1_0 a1_1 a1_2 a1_3 a1_4 l1_5 l1_6) else (if a1_4 > 64 then (proof_steps.j0 k a2 true a0_0 a0_1 a0_2 a0_3 a0_4 a0_5 a0_6 a0_7 a1_0 a1_1 a1_2 a1_3 a1_4 l1_5 l1_6) else (if a1_3 < 0 then (proof_steps.j0 k a2 true a0_0 a0_1 a0_2 a0_3 a0_4 a0_5 a0_6 a0_7 a1_0 a1_1 a1_2 a1_3 a1_4 l1_5 l1_6) else (if a1_3 ≥ a1_4 then (proof_steps.j0 k a2 true a0_0 a0_1 a0_2 a0_3 a0_4 a0_5 a0_6 a0_7 a1_0 a1_1 a1_2 a1_3 a1_4 l1_5 l1_6) else (if (l1_5.length : Int) > 64 then (proof_steps.j0 k a2 true a0_0 a0_1 a0_2 a0_3 a0_4 a0_5 a0_6 a0_7 a1_0 a1_1 a1_2 a1_3 a1_4 l1_5 l1_6) else (if (l1_6.length : Int) > 64 then (proof_steps.j0 k a2 true a0_0 a0_1 a0_2 a0_3 a0_4 a0_5 a0_6 a0_7 a1_0 a1_1 a1_2 a1_3 a1_4 l1_5 l1_6) else (proof_steps.j0 k a2 (decide ((a1_1.size : Int) > 32)) a0_0 a0_1 a0_2 a0_3 a0_4 a0_5 a0_6 a0_7 a1_0 a1_1 a1_2 a1_3 a1_4 l1_5 l1_6)))))))))
def proof_steps.T8 : Bool × List (List Nat × List Nat) := (true, [([], []), ([0], [0]), ([], []), ([2], [2]), ([], []), ([4], [4]), ([], []), ([6], [6]), ([1, 3, 5, 7, 1], [1, 3, 5, 7]), ([8], [8]), ([9], [9]), ([9], [9]), ([9], [9]), ([10, 8, 0, 1, 2, 3, 4, 5, 6, 7, 8, 9, 10], [10]), ([11, 13, 0, 1, 2, 3, 4, 5, 6, 7, 8, 9, 10, 11, 13], [11]), ([12, 14, 0, 1, 2, 3, 4, 5, 6, 7, 8, 9, 10, 11, 12, 13, 14], [12])])
def proof_steps.B8 : List Nat := [0, 1, 0, 4, 0, 16, 0, 64, 255, 511, 1023, 1023, 1023, 2047, 12287, 32767]
theorem proof_steps.tab8 : rtab .any (opsOf Try.f51 8) = proof_steps.T8 := by kernel_rfl
theorem proof_steps.bits8 : waitsOk proof_steps.T8.2 proof_steps.B8 = true := by kernel_rfl
def proof_steps.T12 : Bool × List (List Nat × List Nat) := (true, [([], []), ([0], [0]), ([1], [1]), ([2], [2]), ([], []), ([4], [4]), ([5, 2], [5]), ([3, 6], [3, 6]), ([], []), ([8], [8]), ([9, 6], [9]), ([7, 10], [7, 10]), ([], []), ([12], [12]), ([13], [13]), ([14, 10], [14]), ([11, 15], [11, 15]), ([], []), ([16, 17], [16, 17]), ([18, 15, 0, 1, 2, 3, 4, 5, 6, 7, 8, 9, 10, 11, 12, 13, 14, 15, 16, 17, 18], [18])])
def proof_steps.B12 : List Nat := [0, 1, 3, 7, 0, 16, 55, 127, 0, 256, 887, 2047, 0, 4096, 12288, 30583, 65535, 0, 262143, 524287]
theorem proof_steps.tab12 : rtab .any (opsOf Try.f51 12) = proof_steps.T12 := by kernel_rfl
theorem proof_steps.bits12 : waitsOk proof_steps.T12.2 proof_steps.B12 = true := by kernel_rfl
def proof_steps.T15 : Bool × List (List Nat × List Nat) := (true, [([], []), ([0], [0]), ([], []), ([2], [2]), ([3], [3]), ([], []), ([5], [5]), ([], []), ([7], [7]), ([1, 4, 6, 8, 1], [1, 4, 6, 8]), ([9], [9]), ([10], [10]), ([10], [10]), ([10], [10]), ([11, 9, 0, 1, 2, 3, 4, 5, 6, 7, 8, 9, 10, 11], [11]), ([12, 14, 0, 1, 2, 3, 4, 5, 6, 7, 8, 9, 10, 11, 12, 14], [12]), ([13, 15, 0, 1, 2, 3, 4, 5, 6, 7, 8, 9, 10, 11, 12, 13, 14, 15], [13])])
def proof_steps.B15 : List Nat := [0, 1, 0, 4, 12, 0, 32, 0, 128, 511, 1023, 2047, 2047, 2047, 4095, 24575, 65535]
theorem proof_steps.tab15 : rtab .any (opsOf Try.f51 15) = proof_steps.T15 := by kernel_rfl
theorem proof_steps.bits15 : waitsOk proof_steps.T15.2 proof_steps.B15 = true := by kernel_rfl
set_option maxHeartbeats 8000000 in
set_option maxRecDepth 100000 in
theorem proof_steps.calls (k : Nat) (a0_0 : Int) (a0_1 : ByteArray) (a0_2 : ByteArray) (a0_3 : Int) (a0_4 : Int) (a0_5 : ByteArray) (a0_6 : ByteArray) (a0_7 : Bool) (a1_0 : Int) (a1_1 : ByteArray) (a1_2 : Int) (a1_3 : Int) (a1_4 : Int) (A1_5 : Option Addr) (c1_5 : Nat) (l1_5 : List ByteArray) (A1_6 : Option Addr) (c1_6 : Nat) (l1_6 : List ByteArray) (a2 : Int) (r1 : ByteArray) (r2 : List ByteArray) (r3 : Bool) (w : World) (hr1_5 : Kd.C Kd.string w A1_5 l1_5.length l1_5) (hc1_5 : l1_5.length ≤ c1_5) (hr1_6 : Kd.C Kd.string w A1_6 l1_6.length l1_6) (hc1_6 : l1_6.length ≤ c1_6) (h : proof_steps.f k a0_0 a0_1 a0_2 a0_3 a0_4 a0_5 a0_6 a0_7 a1_0 a1_1 a1_2 a1_3 a1_4 l1_5 l1_6 a2 = some (r1, r2, r3)) :
  Calls Try.prog 51 #[.agg #[.int .i64 a0_0, .string a0_1, .string a0_2, .int .u64 a0_3, .int .u64 a0_4, .string a0_5, .string a0_6, .bool a0_7], .agg #[.int .u64 a1_0, .string a1_1, .int .u64 a1_2, .int .i64 a1_3, .int .i64 a1_4, .slice A1_5 l1_5.length c1_5, .slice A1_6 l1_6.length c1_6], .int .u64 a2] w fun e w' => ∃ v1_ : Value, e = .returned (.tuple #[.string r1, v1_, .bool r3]) ∧ Kd.R Kd.string 9 w' w.heap.size (fun _ => True) v1_ r2 ∧ Below w.heap.size w w' := by
 have hu47 := Try.underlying47
 have hu53 := Try.underlying53
 have HR1_5 := Aside0.mk hr1_5
 have HC1_5 := Aside0.mk hc1_5
 clear hr1_5 hc1_5
 have HR1_6 := Aside0.mk hr1_6
 have HC1_6 := Aside0.mk hc1_6
 clear hr1_6 hc1_6
 have HB := Aside0.mk (Below.refl w.heap.size w)
 have H : (if a2 < 1 then (proof_steps.j0 k a2 true a0_0 a0_1 a0_2 a0_3 a0_4 a0_5 a0_6 a0_7 a1_0 a1_1 a1_2 a1_3 a1_4 l1_5 l1_6) else (if a2 > 2147483648 then (proof_steps.j0 k a2 true a0_0 a0_1 a0_2 a0_3 a0_4 a0_5 a0_6 a0_7 a1_0 a1_1 a1_2 a1_3 a1_4 l1_5 l1_6) else (if a1_0 ≥ a2 then (proof_steps.j0 k a2 true a0_0 a0_1 a0_2 a0_3 a0_4 a0_5 a0_6 a0_7 a1_0 a1_1 a1_2 a1_3 a1_4 l1_5 l1_6) else (if a1_4 < 1 then (proof_steps.j0 k a2 true a0_0 a0_1 a0_2 a0_3 a0_4 a0_5 a0_6 a0_7 a1_0 a1_1 a1_2 a1_3 a1_4 l1_5 l1_6) else (if a1_4 > 64 then (proof_steps.j0 k a2 true a0_0 a0_1 a0_2 a0_3 a0_4 a0_5 a0_6 a0_7 a1_0 a1_1 a1_2 a1_3 a1_4 l1_5 l1_6) else (if a1_3 < 0 then (proof_steps.j0 k a2 true a0_0 a0_1 a0_2 a0_3 a0_4 a0_5 a0_6 a0_7 a1_0 a1_1 a1_2 a1_3 a1_4 l1_5 l1_6) else (if a1_3 ≥ a1_4 then (proof_steps.j0 k a2 true a0_0 a0_1 a0_2 a0_3 a0_4 a0_5 a0_6 a0_7 a1_0 a1_1 a1_2 a1_3 a1_4 l1_5 l1_6) else (if (l1_5.length : Int) > 64 then (proof_steps.j0 k a2 true a0_0 a0_1 a0_2 a0_3 a0_4 a0_5 a0_6 a0_7 a1_0 a1_1 a1_2 a1_3 a1_4 l1_5 l1_6) else (if (l1_6.length : Int) > 64 then (proof_steps.j0 k a2 true a0_0 a0_1 a0_2 a0_3 a0_4 a0_5 a0_6 a0_7 a1_0 a1_1 a1_2 a1_3 a1_4 l1_5 l1_6) else (proof_steps.j0 k a2 (decide ((a1_1.size : Int) > 32)) a0_0 a0_1 a0_2 a0_3 a0_4 a0_5 a0_6 a0_7 a1_0 a1_1 a1_2 a1_3 a1_4 l1_5 l1_6)))))))))) = some (r1, r2, r3) := h
 clear h
 have HC4 := Aside0.mk H
 clear H
 go_enter Try.func51, Try.ntmps51
 go_upto_region 1 with (first | ((with_reducible refine gate_dst (N := 3) rfl ?_); (try (refine gate_guard (by rfl) ?_; dsimp only)); refine box_event ?hg (N := 3) ?hd (cs := #[.int .i64 a0_0, .string a0_1, .string a0_2, .int .u64 a0_3, .int .u64 a0_4, .string a0_5, .string a0_6, .bool a0_7]) (t := 47) ?hr ?_; (case hd => rfl); (case hg => rfl); (case hr => first | (go_simp; done) | (go_simp; rfl)); intro gb546 hg w5 hbox hb; have n0_ := Aside0.mk (below_step (bh_ HB.out) hb); have n1_ := Aside0.mk (hbox); have n2_ := Aside0.mk ((by rw [hg]; exact (below_size (bh_ HB.out)) : w.heap.size ≤ gb546)); have n3_ := Aside0.mk ((by rw [hg]; exact (below_size (bh_ HB.out)) : w.heap.size ≤ gb546)); clear HB; have HB := n0_; have BK546 := n1_; have GW546 := n2_; have GE546 := n3_; clear n0_ n1_ n2_ n3_; clear hb hbox hg) | ((with_reducible refine gate_dst (N := 4) rfl ?_); (try (refine gate_guard (by rfl) ?_; dsimp only)); refine box_event ?hg (N := 4) ?hd (cs := #[.int .u64 a1_0, .string a1_1, .int .u64 a1_2, .int .i64 a1_3, .int .i64 a1_4, .slice A1_5 l1_5.length c1_5, .slice A1_6 l1_6.length c1_6]) (t := 53) ?hr ?_; (case hd => rfl); (case hg => rfl); (case hr => first | (go_simp; done) | (go_simp; rfl)); intro gb547 hg w6 hbox hb; have n0_ := Aside0.mk (bk_ BK546.out hb); have n1_ := Aside0.mk (below_step (bh_ HB.out) hb); have n2_ := Aside0.mk (hbox); have n3_ := Aside0.mk ((by rw [hg]; exact (below_size (bh_ HB.out)) : w.heap.size ≤ gb547)); have n4_ := Aside0.mk ((by rw [hg]; exact (below_size (bh_ HB.out)) : w.heap.size ≤ gb547)); have n5_ := Aside0.mk ((by rw [hg]; exact Nat.ne_of_lt (blk_lt (g := gb546) (o := .cells #[.int .i64 a0_0, .string a0_1, .string a0_2, .int .u64 a0_3, .int .u64 a0_4, .string a0_5, .string a0_6, .bool a0_7] 47 (0, 0)) (bz_ BK546.out)) : gb546 ≠ gb547)); have n6_ := Aside0.mk ((by rw [hg]; exact Nat.ne_of_gt (blk_lt (g := gb546) (o := .cells #[.int .i64 a0_0, .string a0_1, .string a0_2, .int .u64 a0_3, .int .u64 a0_4, .string a0_5, .string a0_6, .bool a0_7] 47 (0, 0)) (bz_ BK546.out)) : gb547 ≠ gb546)); clear BK546; clear HB; have BK546 := n0_; have HB := n1_; have BK547 := n2_; have GW547 := n3_; have GE547 := n4_; have NB546_547 := n5_; have NB547_546 := n6_; clear n0_ n1_ n2_ n3_ n4_ n5_ n6_; clear hb hbox hg))
 (try simp only [Act.put, q1_, q2_, q3_])
 go_cut [68] (fun v68 wc => ∃ (kq : Nat) (x68_3 : Bool), v68 = .bool x68_3 ∧ Aside0 (proof_steps.j0 kq a2 x68_3 a0_0 a0_1 a0_2 a0_3 a0_4 a0_5 a0_6 a0_7 a1_0 a1_1 a1_2 a1_3 a1_4 l1_5 l1_6 = some (r1, r2, r3)) ∧ Aside0 (kq ≤ k) ∧ Aside0 (wc.heap[gb546]? = some (.cells #[.int .i64 a0_0, .string a0_1, .string a0_2, .int .u64 a0_3, .int .u64 a0_4, .string a0_5, .string a0_6, .bool a0_7] 47 (0, 0))) ∧ Aside0 (wc.heap[gb547]? = some (.cells #[.int .u64 a1_0, .string a1_1, .int .u64 a1_2, .int .i64 a1_3, .int .i64 a1_4, (.slice A1_5 l1_5.length c1_5), (.slice A1_6 l1_6.length c1_6)] 53 (0, 0))) ∧ Aside0 (Below w.heap.size w wc))
 case first =>
  have H := HC4.out
  clear HC4
  by_cases c7 : a2 < 1
  ·rw [if_pos c7] at H
   have c7b0 : decide (a2 < 1) = true := decide_eq_true c7
   clear c7
   (first | rw [c7b0] | (simp only [i64_w, i32_w]; rw [c7b0]) | skip)
   have H' := Aside0.mk H
   clear H
   go_wp2
   go_meet
   case rel => exact ⟨_, (true), (by first | rfl | (simp; done) | (simp [*]; done)), H', ⟨by first | omega | exact Nat.le_refl _⟩, ⟨bz_ BK546.out⟩, ⟨bz_ BK547.out⟩, ⟨bh_ HB.out⟩⟩
  ·rw [if_neg c7] at H
   have c7b0 : decide (a2 < 1) = false := decide_eq_false c7
   clear c7
   (first | rw [c7b0] | (simp only [i64_w, i32_w]; rw [c7b0]) | skip)
   by_cases c8 : a2 > 2147483648
   ·rw [if_pos c8] at H
    have c8b0 : decide (2147483648 < a2) = true := decide_eq_true c8
    clear c8
    have H' := Aside0.mk H
    clear H
    go_wp2
    go_meet
    case rel => exact ⟨_, (true), (by first | rfl | (simp; done) | (simp [*]; done)), H', ⟨by first | omega | exact Nat.le_refl _⟩, ⟨bz_ BK546.out⟩, ⟨bz_ BK547.out⟩, ⟨bh_ HB.out⟩⟩
   ·rw [if_neg c8] at H
    have c8b0 : decide (2147483648 < a2) = false := decide_eq_false c8
    clear c8
    by_cases c9 : a1_0 ≥ a2
    ·rw [if_pos c9] at H
     have c9b0 : decide (a2 ≤ a1_0) = true := decide_eq_true c9
     clear c9
     have H' := Aside0.mk H
     clear H
     have hnb10 := NB547_546.out
     have hnc10 := NB546_547.out
     obtain ⟨z11_0, z11_1, z11_2, z11_3, z11_4, z11_5, z11_6, f11_0, f11_1, f11_2, f11_3, f11_4, f11_5, f11_6⟩ := bc7_ BK547.out
     go_wp2
     go_meet
     case rel => exact ⟨_, (true), (by first | rfl | (simp; done) | (simp [*]; done)), H', ⟨by first | omega | exact Nat.le_refl _⟩, ⟨bz_ BK546.out⟩, ⟨bz_ BK547.out⟩, ⟨bh_ HB.out⟩⟩
    ·rw [if_neg c9] at H
     have c9b0 : decide (a2 ≤ a1_0) = false := decide_eq_false c9
     clear c9
     by_cases c12 : a1_4 < 1
     ·rw [if_pos c12] at H
      have c12b0 : decide (a1_4 < 1) = true := decide_eq_true c12
      clear c12
      have H' := Aside0.mk H
      clear H
      have hnb13 := NB547_546.out
      have hnc13 := NB546_547.out
      obtain ⟨z14_0, z14_1, z14_2, z14_3, z14_4, z14_5, z14_6, f14_0, f14_1, f14_2, f14_3, f14_4, f14_5, f14_6⟩ := bc7_ BK547.out
      go_wp2
      go_meet
      case rel => exact ⟨_, (true), (by first | rfl | (simp; done) | (simp [*]; done)), H', ⟨by first | omega | exact Nat.le_refl _⟩, ⟨bz_ BK546.out⟩, ⟨bz_ BK547.out⟩, ⟨bh_ HB.out⟩⟩
     ·rw [if_neg c12] at H
      have c12b0 : decide (a1_4 < 1) = false := decide_eq_false c12
      clear c12
      by_cases c15 : a1_4 > 64
      ·rw [if_pos c15] at H
       have c15b0 : decide (64 < a1_4) = true := decide_eq_true c15
       clear c15
       have H' := Aside0.mk H
       clear H
       have hnb16 := NB547_546.out
       have hnc16 := NB546_547.out
       obtain ⟨z17_0, z17_1, z17_2, z17_3, z17_4, z17_5, z17_6, f17_0, f17_1, f17_2, f17_3, f17_4, f17_5, f17_6⟩ := bc7_ BK547.out
       go_wp2
       go_meet
       case rel => exact ⟨_, (true), (by first | rfl | (simp; done) | (simp [*]; done)), H', ⟨by first | omega | exact Nat.le_refl _⟩, ⟨bz_ BK546.out⟩, ⟨bz_ BK547.out⟩, ⟨bh_ HB.out⟩⟩
      ·rw [if_neg c15] at H
       have c15b0 : decide (64 < a1_4) = false := decide_eq_false c15
       clear c15
       by_cases c18 : a1_3 < 0
       ·rw [if_pos c18] at H
        have c18b0 : decide (a1_3 < 0) = true := decide_eq_true c18
        clear c18
        have H' := Aside0.mk H
        clear H
        have hnb19 := NB547_546.out
        have hnc19 := NB546_547.out
        obtain ⟨z20_0, z20_1, z20_2, z20_3, z20_4, z20_5, z20_6, f20_0, f20_1, f20_2, f20_3, f20_4, f20_5, f20_6⟩ := bc7_ BK547.out
        go_wp2
        go_meet
        case rel => exact ⟨_, (true), (by first | rfl | (simp; done) | (simp [*]; done)), H', ⟨by first | omega | exact Nat.le_refl _⟩, ⟨bz_ BK546.out⟩, ⟨bz_ BK547.out⟩, ⟨bh_ HB.out⟩⟩
       ·rw [if_neg c18] at H
        have c18b0 : decide (a1_3 < 0) = false := decide_eq_false c18
        clear c18
        by_cases c21 : a1_3 ≥ a1_4
        ·rw [if_pos c21] at H
         have c21b0 : decide (a1_4 ≤ a1_3) = true := decide_eq_true c21
         clear c21
         have H' := Aside0.mk H
         clear H
         have hnb22 := NB547_546.out
         have hnc22 := NB546_547.out
         obtain ⟨z23_0, z23_1, z23_2, z23_3, z23_4, z23_5, z23_6, f23_0, f23_1, f23_2, f23_3, f23_4, f23_5, f23_6⟩ := bc7_ BK547.out
         go_wp2
         go_meet
         case rel => exact ⟨_, (true), (by first | rfl | (simp; done) | (simp [*]; done)), H', ⟨by first | omega | exact Nat.le_refl _⟩, ⟨bz_ BK546.out⟩, ⟨bz_ BK547.out⟩, ⟨bh_ HB.out⟩⟩
        ·rw [if_neg c21] at H
         have c21b0 : decide (a1_4 ≤ a1_3) = false := decide_eq_false c21
         clear c21
         by_cases c24 : (l1_5.length : Int) > 64
         ·rw [if_pos c24] at H
          have c24b0 : decide (64 < (l1_5.length : Int)) = true := decide_eq_true c24
          have c24b1 : decide (64 < l1_5.length) = true := decide_eq_true (by omega)
          clear c24
          have H' := Aside0.mk H
          clear H
          have hnb25 := NB547_546.out
          have hnc25 := NB546_547.out
          obtain ⟨z26_0, z26_1, z26_2, z26_3, z26_4, z26_5, z26_6, f26_0, f26_1, f26_2, f26_3, f26_4, f26_5, f26_6⟩ := bc7_ BK547.out
          go_wp2
          go_meet
          case rel => exact ⟨_, (true), (by first | rfl | (simp; done) | (simp [*]; done)), H', ⟨by first | omega | exact Nat.le_refl _⟩, ⟨bz_ BK546.out⟩, ⟨bz_ BK547.out⟩, ⟨bh_ HB.out⟩⟩
         ·rw [if_neg c24] at H
          have c24b0 : decide (64 < (l1_5.length : Int)) = false := decide_eq_false c24
          have c24b1 : decide (64 < l1_5.length) = false := decide_eq_false (by omega)
          clear c24
          by_cases c27 : (l1_6.length : Int) > 64
          ·rw [if_pos c27] at H
           have c27b0 : decide (64 < (l1_6.length : Int)) = true := decide_eq_true c27
           have c27b1 : decide (64 < l1_6.length) = true := decide_eq_true (by omega)
           clear c27
           have H' := Aside0.mk H
           clear H
           have hnb28 := NB547_546.out
           have hnc28 := NB546_547.out
           obtain ⟨z29_0, z29_1, z29_2, z29_3, z29_4, z29_5, z29_6, f29_0, f29_1, f29_2, f29_3, f29_4, f29_5, f29_6⟩ := bc7_ BK547.out
           go_wp2
           go_meet
           case rel => exact ⟨_, (true), (by first | rfl | (simp; done) | (simp [*]; done)), H', ⟨by first | omega | exact Nat.le_refl _⟩, ⟨bz_ BK546.out⟩, ⟨bz_ BK547.out⟩, ⟨bh_ HB.out⟩⟩
          ·rw [if_neg c27] at H
           have c27b0 : decide (64 < (l1_6.length : Int)) = false := decide_eq_false c27
           have c27b1 : decide (64 < l1_6.length) = false := decide_eq_false (by omega)
           clear c27
           have H' := Aside0.mk H
           clear H
           have hnb30 := NB547_546.out
           have hnc30 := NB546_547.out
           obtain ⟨z31_0, z31_1, z31_2, z31_3, z31_4, z31_5, z31_6, f31_0, f31_1, f31_2, f31_3, f31_4, f31_5, f31_6⟩ := bc7_ BK547.out
           go_wp2
           go_meet
           case rel => exact ⟨_, (decide ((a1_1.size : Int) > 32)), (by first | rfl | (simp; done) | (simp [*]; done)), H', ⟨by first | omega | exact Nat.le_refl _⟩, ⟨bz_ BK546.out⟩, ⟨bz_ BK547.out⟩, ⟨bh_ HB.out⟩⟩
 case rest =>
  clear HC4
  try clear c1
  try clear c2
  try clear p2
  try clear c3
  try clear c5
  try clear c7
  try clear c7b0
  try clear c8
  try clear c8b0
  try clear c9
  try clear c9b0
  try clear c10
  try clear c12
  try clear c12b0
  try clear c13
  try clear c15
  try clear c15b0
  try clear c16
  try clear c18
  try clear c18b0
  try clear c19
  try clear c21
  try clear c21b0
  try clear c22
  try clear c24
  try clear c24b0
  try clear c24b1
  try clear c25
  try clear c27
  try clear c27b0
  try clear c27b1
  try clear c28
  try clear c30
  try clear z11_0 z11_1 z11_2 z11_3 z11_4 z11_5 z11_6
  try clear z14_0 z14_1 z14_2 z14_3 z14_4 z14_5 z14_6
  try clear z17_0 z17_1 z17_2 z17_3 z17_4 z17_5 z17_6
  try clear z20_0 z20_1 z20_2 z20_3 z20_4 z20_5 z20_6
  try clear z23_0 z23_1 z23_2 z23_3 z23_4 z23_5 z23_6
  try clear z26_0 z26_1 z26_2 z26_3 z26_4 z26_5 z26_6
  try clear z29_0 z29_1 z29_2 z29_3 z29_4 z29_5 z29_6
  try clear z31_0 z31_1 z31_2 z31_3 z31_4 z31_5 z31_6
  try clear f11_0 f11_1 f11_2 f11_3 f11_4 f11_5 f11_6
  try clear f14_0 f14_1 f14_2 f14_3 f14_4 f14_5 f14_6
  try clear f17_0 f17_1 f17_2 f17_3 f17_4 f17_5 f17_6
  try clear f20_0 f20_1 f20_2 f20_3 f20_4 f20_5 f20_6
  try clear f23_0 f23_1 f23_2 f23_3 f23_4 f23_5 f23_6
  try clear f26_0 f26_1 f26_2 f26_3 f26_4 f26_5 f26_6
  try clear f29_0 f29_1 f29_2 f29_3 f29_4 f29_5 f29_6
  try clear f31_0 f31_1 f31_2 f31_3 f31_4 f31_5 f31_6
  obtain ⟨kq, x68_3, rfl, HA, HJ3, BK546, BK547, HB⟩ := hcut
  cases kq with
  | zero => exact absurd HA.out (by simp [proof_steps.j0])
  | succ kj3 =>
   have H := HA.out
   clear HA
   simp only [proof_steps.j0] at H
   by_cases c32 : x68_3 = true
   ·subst c32
    have H1 : (some ((⟨#[]⟩ : ByteArray), ([] : List ByteArray), false)) = some (r1, r2, r3) := by rw [if_pos rfl] at H; exact H
    clear H
    have H := H1
    clear H1
    simp only [Option.some.injEq, Prod.mk.injEq] at H
    obtain ⟨rfl, rfl, rfl⟩ := H
    go_wp2
    go_ret3
    exact ⟨_, by first | rfl | (simp [errW_none, errW_some] <;> rfl) | (simp [*, errW_none, errW_some] <;> rfl), by first | exact Kd.R_nil _ _ _ _ _ | exact Kd.N_nil _ _ _ _ _ | exact Kd.V_nil _ _ _ _ _ | exact Kd.Q_nil _ _ _ _ _ | exact Kd.S_nil _ _ _ _ _, by repeat (first | (with_reducible first | exact HB.out | apply below_alloc | apply pw_below_drewN | apply below_drew1 | refine below_set ?_ GE546.out | refine below_set ?_ GE547.out) | exact HB.out)⟩
   ·replace c32 := Bool.eq_false_iff.mpr c32
    subst c32
    have H1 : ((proof_Meta.f kj3 a0_0 a0_1 a0_2 a0_3 a0_4 a0_5 a0_6 a0_7).bind fun t548 => ((some (([] : List ByteArray) : List ByteArray)).bind fun y549 => (if a0_6.toList = ([] : List UInt8) then (proof_steps.j1 kj3 a2 t548 y549 a1_0 a1_1 a1_2 a1_3 a1_4 l1_5 l1_6) else (if 1 + a0_6.size ≤ 9223372036854775807 then (if y549.length < 8796093022208 then (proof_steps.j1 kj3 a2 t548 (y549 ++ [(⟨#[0]⟩ : ByteArray) ++ a0_6]) a1_0 a1_1 a1_2 a1_3 a1_4 l1_5 l1_6) else (none)) else (none))))) = some (r1, r2, r3) := by rw [if_neg (show ¬ (false = true) by decide)] at H; exact H
    clear H
    have H := H1
    clear H1
    replace H := Option.bind_eq_some_iff.mp H
    obtain ⟨t548, A330, H⟩ := H
    replace H : ((some (([] : List ByteArray) : List ByteArray)).bind fun y549 => (if a0_6.toList = ([] : List UInt8) then (proof_steps.j1 kj3 a2 t548 y549 a1_0 a1_1 a1_2 a1_3 a1_4 l1_5 l1_6) else (if 1 + a0_6.size ≤ 9223372036854775807 then (if y549.length < 8796093022208 then (proof_steps.j1 kj3 a2 t548 (y549 ++ [(⟨#[0]⟩ : ByteArray) ++ a0_6]) a1_0 a1_1 a1_2 a1_3 a1_4 l1_5 l1_6) else (none)) else (none)))) = some (r1, r2, r3) := H
    have A33 := Aside0.mk A330
    clear A330
    obtain ⟨y549, hy549⟩ : ∃ y_ : List ByteArray, y_ = (([] : List ByteArray)) := ⟨_, rfl⟩
    replace H : (if a0_6.toList = ([] : List UInt8) then (proof_steps.j1 kj3 a2 t548 y549 a1_0 a1_1 a1_2 a1_3 a1_4 l1_5 l1_6) else (if 1 + a0_6.size ≤ 9223372036854775807 then (if y549.length < 8796093022208 then (proof_steps.j1 kj3 a2 t548 (y549 ++ [(⟨#[0]⟩ : ByteArray) ++ a0_6]) a1_0 a1_1 a1_2 a1_3 a1_4 l1_5 l1_6) else (none)) else (none))) = some (r1, r2, r3) := by first | (rw [hy549]; with_reducible exact H) | (have H2_ := (Option.bind_some _ _).symm.trans H; rw [hy549]; with_reducible exact H2_) | (have H2_ := (Option.bind_some _ _).symm.trans H; with_reducible exact H2_) | with_reducible exact H | (rw [hy549]; exact H) | exact H
    have Ny549 := Aside0.mk hy549
    clear hy549
    have HC34 := Aside0.mk H
    clear H
    have hnb35 := NB546_547.out
    have hnc35 := NB547_546.out
    obtain ⟨z36_0, z36_1, z36_2, z36_3, z36_4, z36_5, z36_6, z36_7, f36_0, f36_1, f36_2, f36_3, f36_4, f36_5, f36_6, f36_7⟩ := bc8_ BK546.out
    go_upto_if 74 with (first | ((with_reducible refine gate_callee (f := 36) rfl ?_); refine gl_ (some 70) Try.func36 #[.agg #[.int .i64 a0_0, .string a0_1, .string a0_2, .int .u64 a0_3, .int .u64 a0_4, .string a0_5, .string a0_6, .bool a0_7]] ?_; (with_reducible refine (proof_Meta.calls kj3 a0_0 a0_1 a0_2 a0_3 a0_4 a0_5 a0_6 a0_7 t548 _ A33.out).mono ?_); rintro e w37 ⟨rfl, hb⟩; refine ⟨_, rfl, ?_⟩; replace BK546 := Aside0.mk (bk_ BK546.out hb); replace BK547 := Aside0.mk (bk_ BK547.out hb); replace HB := Aside0.mk (below_step (bh_ HB.out) hb); (try clear hb)) | ((with_reducible refine gate_dst (N := 71) rfl ?_); (try (refine gate_guard (by rfl) ?_; dsimp only)); refine Kd.R_lit Kd.string _ 9 ?hg (N := 71) ?hd (xs := ([] : List ByteArray)) (inner := []) (ok := fun _ => True) (okp := fun _ => True) ?hr ?hp (fun _ hk => hk) trivial (Below.refl _ _) (Nat.le_refl _) (by simp) ?_; (case hd => rfl); (case hg => rfl); (case hr => first | (go_simp; done) | (go_simp; rfl)); (case hp => exact (Reps.none _ _)); intro v550 w38 ho39 hb hg_ hnew_; clear hg_ hnew_; (first | rw [← Ny549.out] at ho39 | (simp only [Int.reduceToNat] at ho39; rw [← Ny549.out] at ho39)); have HO551 := Aside0.mk (Kd.R_lower ho39 (below_size (bh_ HB.out))); replace BK546 := Aside0.mk (bk_ BK546.out hb); replace BK547 := Aside0.mk (bk_ BK547.out hb); replace HB := Aside0.mk (below_step (bh_ HB.out) hb); clear hb ho39; obtain ⟨z40_0, z40_1, z40_2, z40_3, z40_4, z40_5, z40_6, z40_7, f40_0, f40_1, f40_2, f40_3, f40_4, f40_5, f40_6, f40_7⟩ := bc8_ BK546.out))
    (try simp only [Act.put, q1_, q2_, q3_])
    go_cut [10] (fun v10 wc => ∃ (kq : Nat) (x10_33 : List ByteArray), Aside0 (proof_steps.j1 kq a2 t548 x10_33 a1_0 a1_1 a1_2 a1_3 a1_4 l1_5 l1_6 = some (r1, r2, r3)) ∧ Aside0 (kq ≤ kj3) ∧ Aside0 (Kd.R Kd.string 9 wc w.heap.size (fun _ => True) v10 x10_33) ∧ Aside0 (wc.heap[gb546]? = some (.cells #[.int .i64 a0_0, .string a0_1, .string a0_2, .int .u64 a0_3, .int .u64 a0_4, .string a0_5, .string a0_6, .bool a0_7] 47 (0, 0))) ∧ Aside0 (wc.heap[gb547]? = some (.cells #[.int .u64 a1_0, .string a1_1, .int .u64 a1_2, .int .i64 a1_3, .int .i64 a1_4, (.slice A1_5 l1_5.length c1_5), (.slice A1_6 l1_6.length c1_6)] 53 (0, 0))) ∧ Aside0 (Below w.heap.size w wc))
    case first =>
     have H := HC34.out
     clear HC34
     by_cases c41 : a0_6.toList = ([] : List UInt8)
     ·rw [if_pos c41] at H
      have c41b0 : (a0_6.toList == ([] : List UInt8)) = true := beq_iff_eq.mpr c41
      have c41b1 : (a0_6.toList != ([] : List UInt8)) = false := bne_eq_false_iff_eq.mpr c41
      have c41b3 : (!a0_6.toList.isEmpty) = false := by rw [c41]; rfl
      clear c41
      (first | rw [c41b0] | rw [c41b3] | (simp only [i64_w, i32_w]; rw [c41b0]) | skip)
      have H' := Aside0.mk H
      clear H
      go_wp2
      go_meet
      case rel => exact ⟨_, (y549), H', ⟨by have := HJ3.out; first | omega | exact Nat.le_refl _⟩, ⟨br_ HO551.out⟩, ⟨bz_ BK546.out⟩, ⟨bz_ BK547.out⟩, ⟨bh_ HB.out⟩⟩
     ·rw [if_neg c41] at H
      have c41b0 : (a0_6.toList == ([] : List UInt8)) = false := beq_eq_false_iff_ne.mpr c41
      have c41b1 : (a0_6.toList != ([] : List UInt8)) = true := bne_iff_ne.mpr c41
      have c41b3 : (!a0_6.toList.isEmpty) = true := by cases h_ : a0_6.toList with | nil => exact absurd h_ c41 | cons _ _ => rfl
      (first | rw [c41b0] | rw [c41b3] | (simp only [i64_w, i32_w]; rw [c41b0]) | skip)
      by_cases c42 : 1 + a0_6.size ≤ 9223372036854775807
      ·rw [if_pos c42] at H
       have c42b0 := eq_true c42
       have c42b1 : decide (1 + a0_6.size ≤ 9223372036854775807) = true := decide_eq_true c42
       try have c42b2 : (9223372036854775807 < 1 + a0_6.size) = False := eq_false (Nat.not_lt.2 c42)
       by_cases c43 : y549.length < 8796093022208
       ·rw [if_pos c43] at H
        have LMc43 := Aside0.mk c43
        clear c43
        obtain ⟨y552, hy552⟩ : ∃ y_ : List ByteArray, y_ = (y549 ++ [(⟨#[0]⟩ : ByteArray) ++ a0_6]) := ⟨_, rfl⟩
        replace H : (proof_steps.j1 kj3 a2 t548 y552 a1_0 a1_1 a1_2 a1_3 a1_4 l1_5 l1_6) = some (r1, r2, r3) := by first | (rw [hy552]; with_reducible exact H) | (have H2_ := (Option.bind_some _ _).symm.trans H; rw [hy552]; with_reducible exact H2_) | (have H2_ := (Option.bind_some _ _).symm.trans H; with_reducible exact H2_) | with_reducible exact H | (rw [hy552]; exact H) | exact H
        have Ny552 := Aside0.mk hy552
        clear hy552
        have H' := Aside0.mk H
        clear H
        have hnb44 := NB546_547.out
        have hnc44 := NB547_546.out
        obtain ⟨z45_0, z45_1, z45_2, z45_3, z45_4, z45_5, z45_6, z45_7, f45_0, f45_1, f45_2, f45_3, f45_4, f45_5, f45_6, f45_7⟩ := bc8_ BK546.out
        go_wp2_with (first | ((with_reducible refine gate_builtin (b := .append) (xs := #[.tmp 75, .tmp 79]) rfl ?_); (try (refine gate_guard (by rfl) ?_; dsimp only)); at_builtin; refine Kd.R_append Kd.string (w0 := w) w.heap.size rfl (.tmp 75) (.tmp 79) 51 9 (.string ⟨#[]⟩) 16 rfl Try.underlying51 info9 rfl (by decide) (by omega) v550 y549 ((⟨#[0]⟩ : ByteArray) ++ a0_6) [.string ((⟨#[0]⟩ : ByteArray) ++ a0_6)] (fun _ => True) (fun _ => False) rfl rfl ?aP (fun _ hk => hk.elim) ?aF ?aO ?aB ?aS ?aL ?_; (case aP => exact rfl); (case aB => exact (bh_ HB.out)); (case aF => exact (fun _ _ => trivial)); (case aO => exact (br_ HO551.out)); (case aS => exact (below_size (bh_ HB.out))); (case aL => have := LMc43.out; omega); intro v553 w46 ho hb hg hat; rw [← Ny552.out] at ho; have n0_ := Aside0.mk (blk_grown (g := gb546) (o := .cells #[.int .i64 a0_0, .string a0_1, .string a0_2, .int .u64 a0_3, .int .u64 a0_4, .string a0_5, .string a0_6, .bool a0_7] 47 (0, 0)) (bz_ BK546.out) hg (Kd.R_ne HO551.out BK546.out (by decide))); have n1_ := Aside0.mk (blk_grown (g := gb547) (o := .cells #[.int .u64 a1_0, .string a1_1, .int .u64 a1_2, .int .i64 a1_3, .int .i64 a1_4, .slice A1_5 l1_5.length c1_5, .slice A1_6 l1_6.length c1_6] 53 (0, 0)) (bz_ BK547.out) hg (Kd.R_ne HO551.out BK547.out (by decide))); have n2_ := Aside0.mk (hb); have n3_ := Aside0.mk (ho); clear BK546; clear BK547; clear HB; clear HO551; have BK546 := n0_; have BK547 := n1_; have HB := n2_; have HO554 := n3_; clear n0_ n1_ n2_ n3_; clear ho hb hg hat))
        go_meet
        case rel => exact ⟨_, (y552), H', ⟨by have := HJ3.out; first | omega | exact Nat.le_refl _⟩, ⟨br_ HO554.out⟩, ⟨bz_ BK546.out⟩, ⟨bz_ BK547.out⟩, ⟨bh_ HB.out⟩⟩
       ·rw [if_neg c43] at H
        exact absurd H (by simp)
      ·rw [if_neg c42] at H
       exact absurd H (by simp)
    case rest =>
     clear HC34
     try clear c1
     try clear c2
     try clear p2
     try clear c3
     try clear c4
     try clear c5
     try clear c7
     try clear c7b0
     try clear c8
     try clear c8b0
     try clear c9
     try clear c9b0
     try clear c10
     try clear c12
     try clear c12b0
     try clear c13
     try clear c15
     try clear c15b0
     try clear c16
     try clear c18
     try clear c18b0
     try clear c19
     try clear c21
     try clear c21b0
     try clear c22
     try clear c24
     try clear c24b0
     try clear c24b1
     try clear c25
     try clear c27
     try clear c27b0
     try clear c27b1
     try clear c28
     try clear c30
     try clear c32
     try clear c35
     try clear c36
     try clear c41
     try clear c41b0
     try clear c41b1
     try clear c42
     try clear c42b0
     try clear c42b1
     try clear c42b2
     try clear c43
     try clear c44
     try clear z11_0 z11_1 z11_2 z11_3 z11_4 z11_5 z11_6
     try clear z14_0 z14_1 z14_2 z14_3 z14_4 z14_5 z14_6
     try clear z17_0 z17_1 z17_2 z17_3 z17_4 z17_5 z17_6
     try clear z20_0 z20_1 z20_2 z20_3 z20_4 z20_5 z20_6
     try clear z23_0 z23_1 z23_2 z23_3 z23_4 z23_5 z23_6
     try clear z26_0 z26_1 z26_2 z26_3 z26_4 z26_5 z26_6
     try clear z29_0 z29_1 z29_2 z29_3 z29_4 z29_5 z29_6
     try clear z31_0 z31_1 z31_2 z31_3 z31_4 z31_5 z31_6
     try clear z36_0 z36_1 z36_2 z36_3 z36_4 z36_5 z36_6 z36_7
     try clear z40_0 z40_1 z40_2 z40_3 z40_4 z40_5 z40_6 z40_7
     try clear z45_0 z45_1 z45_2 z45_3 z45_4 z45_5 z45_6 z45_7
     try clear f11_0 f11_1 f11_2 f11_3 f11_4 f11_5 f11_6
     try clear f14_0 f14_1 f14_2 f14_3 f14_4 f14_5 f14_6
     try clear f17_0 f17_1 f17_2 f17_3 f17_4 f17_5 f17_6
     try clear f20_0 f20_1 f20_2 f20_3 f20_4 f20_5 f20_6
     try clear f23_0 f23_1 f23_2 f23_3 f23_4 f23_5 f23_6
     try clear f26_0 f26_1 f26_2 f26_3 f26_4 f26_5 f26_6
     try clear f29_0 f29_1 f29_2 f29_3 f29_4 f29_5 f29_6
     try clear f31_0 f31_1 f31_2 f31_3 f31_4 f31_5 f31_6
     try clear f36_0 f36_1 f36_2 f36_3 f36_4 f36_5 f36_6 f36_7
     try clear f40_0 f40_1 f40_2 f40_3 f40_4 f40_5 f40_6 f40_7
     try clear f45_0 f45_1 f45_2 f45_3 f45_4 f45_5 f45_6 f45_7
     try clear p2
     obtain ⟨kq, x10_33, HA, HJ33, HO_10, BK546, BK547, HB⟩ := hcut
     cases kq with
     | zero => exact absurd HA.out (by simp [proof_steps.j1])
     | succ kj33 =>
      have H := HA.out
      clear HA
      simp only [proof_steps.j1] at H
      by_cases c47 : 1 + t548.size ≤ 9223372036854775807
      ·rw [if_pos c47] at H
       have c47b0 := eq_true c47
       have c47b1 : decide (1 + t548.size ≤ 9223372036854775807) = true := decide_eq_true c47
       try have c47b2 : (9223372036854775807 < 1 + t548.size) = False := eq_false (Nat.not_lt.2 c47)
       by_cases c48 : x10_33.length < 8796093022208
       ·rw [if_pos c48] at H
        have LMc48 := Aside0.mk c48
        clear c48
        obtain ⟨y555, hy555⟩ : ∃ y_ : List ByteArray, y_ = (x10_33 ++ [(⟨#[0]⟩ : ByteArray) ++ t548]) := ⟨_, rfl⟩
        replace H : ((hash_Leaf.f t548).bind fun t558 => ((proof_climb.f kj33 t558 a1_3 a1_4 l1_5).bind fun bt559 => (if bt559.2.2 = true then (if y555.length + bt559.2.1.length < 8796093022208 then ((some (y555 ++ bt559.2.1 : List ByteArray)).bind fun y564 => ((enc_Uint.f kj33 a1_0).bind fun t567 => (if 1 + t567.size ≤ 9223372036854775807 then ((enc_Text.f kj33 a1_1).bind fun t568 => (if ((⟨#[2]⟩ : ByteArray) ++ t567).size + t568.size ≤ 9223372036854775807 then ((enc_Uint.f kj33 a1_2).bind fun t569 => (if (((⟨#[2]⟩ : ByteArray) ++ t567) ++ t568).size + t569.size ≤ 9223372036854775807 then ((enc_Uint.f kj33 (IntKind.u64.wrap (a1_4))).bind fun t570 => (if ((((⟨#[2]⟩ : ByteArray) ++ t567) ++ t568) ++ t569).size + t570.size ≤ 9223372036854775807 then (if (((((⟨#[2]⟩ : ByteArray) ++ t567) ++ t568) ++ t569) ++ t570).size + bt559.1.size ≤ 9223372036854775807 then ((Dig.hash_Sum.f ((((((⟨#[2]⟩ : ByteArray) ++ t567) ++ t568) ++ t569) ++ t570) ++ bt559.1)).bind fun t571 => (if 1 + t571.size ≤ 9223372036854775807 then ((some (([(((((⟨#[2]⟩ : ByteArray) ++ t567) ++ t568) ++ t569) ++ t570) ++ bt559.1, (⟨#[0]⟩ : ByteArray) ++ t571] : List ByteArray) : List ByteArray)).bind fun y572 => (if y564.length + y572.length < 8796093022208 then ((some (y564 ++ y572 : List ByteArray)).bind fun y575 => ((hash_Leaf.f t571).bind fun t578 => ((proof_climb.f kj33 t578 (wrap64 (a1_0)) (wrap64 (a2)) l1_6).bind fun bt579 => (if y575.length + bt579.2.1.length < 8796093022208 then (some (bt579.1, (y575 ++ bt579.2.1), bt579.2.2)) else (none))))) else (none))) else (none))) else (none)) else (none))) else (none))) else (none))) else (none)))) else (none)) else (some ((⟨#[]⟩ : ByteArray), ([] : List ByteArray), false))))) = some (r1, r2, r3) := by first | (rw [hy555]; with_reducible exact H) | (have H2_ := (Option.bind_some _ _).symm.trans H; rw [hy555]; with_reducible exact H2_) | (have H2_ := (Option.bind_some _ _).symm.trans H; with_reducible exact H2_) | with_reducible exact H | (rw [hy555]; exact H) | exact H
        have Ny555 := Aside0.mk hy555
        clear hy555
        replace H := Option.bind_eq_some_iff.mp H
        obtain ⟨t558, A490, H⟩ := H
        replace H : ((proof_climb.f kj33 t558 a1_3 a1_4 l1_5).bind fun bt559 => (if bt559.2.2 = true then (if y555.length + bt559.2.1.length < 8796093022208 then ((some (y555 ++ bt559.2.1 : List ByteArray)).bind fun y564 => ((enc_Uint.f kj33 a1_0).bind fun t567 => (if 1 + t567.size ≤ 9223372036854775807 then ((enc_Text.f kj33 a1_1).bind fun t568 => (if ((⟨#[2]⟩ : ByteArray) ++ t567).size + t568.size ≤ 9223372036854775807 then ((enc_Uint.f kj33 a1_2).bind fun t569 => (if (((⟨#[2]⟩ : ByteArray) ++ t567) ++ t568).size + t569.size ≤ 9223372036854775807 then ((enc_Uint.f kj33 (IntKind.u64.wrap (a1_4))).bind fun t570 => (if ((((⟨#[2]⟩ : ByteArray) ++ t567) ++ t568) ++ t569).size + t570.size ≤ 9223372036854775807 then (if (((((⟨#[2]⟩ : ByteArray) ++ t567) ++ t568) ++ t569) ++ t570).size + bt559.1.size ≤ 9223372036854775807 then ((Dig.hash_Sum.f ((((((⟨#[2]⟩ : ByteArray) ++ t567) ++ t568) ++ t569) ++ t570) ++ bt559.1)).bind fun t571 => (if 1 + t571.size ≤ 9223372036854775807 then ((some (([(((((⟨#[2]⟩ : ByteArray) ++ t567) ++ t568) ++ t569) ++ t570) ++ bt559.1, (⟨#[0]⟩ : ByteArray) ++ t571] : List ByteArray) : List ByteArray)).bind fun y572 => (if y564.length + y572.length < 8796093022208 then ((some (y564 ++ y572 : List ByteArray)).bind fun y575 => ((hash_Leaf.f t571).bind fun t578 => ((proof_climb.f kj33 t578 (wrap64 (a1_0)) (wrap64 (a2)) l1_6).bind fun bt579 => (if y575.length + bt579.2.1.length < 8796093022208 then (some (bt579.1, (y575 ++ bt579.2.1), bt579.2.2)) else (none))))) else (none))) else (none))) else (none)) else (none))) else (none))) else (none))) else (none)))) else (none)) else (some ((⟨#[]⟩ : ByteArray), ([] : List ByteArray), false)))) = some (r1, r2, r3) := H
        have A49 := Aside0.mk A490
        clear A490
        replace H := Option.bind_eq_some_iff.mp H
        obtain ⟨⟨t559, t560, t561⟩, A500, H⟩ := H
        replace H : (if t561 = true then (if y555.length + t560.length < 8796093022208 then ((some (y555 ++ t560 : List ByteArray)).bind fun y564 => ((enc_Uint.f kj33 a1_0).bind fun t567 => (if 1 + t567.size ≤ 9223372036854775807 then ((enc_Text.f kj33 a1_1).bind fun t568 => (if ((⟨#[2]⟩ : ByteArray) ++ t567).size + t568.size ≤ 9223372036854775807 then ((enc_Uint.f kj33 a1_2).bind fun t569 => (if (((⟨#[2]⟩ : ByteArray) ++ t567) ++ t568).size + t569.size ≤ 9223372036854775807 then ((enc_Uint.f kj33 (IntKind.u64.wrap (a1_4))).bind fun t570 => (if ((((⟨#[2]⟩ : ByteArray) ++ t567) ++ t568) ++ t569).size + t570.size ≤ 9223372036854775807 then (if (((((⟨#[2]⟩ : ByteArray) ++ t567) ++ t568) ++ t569) ++ t570).size + t559.size ≤ 9223372036854775807 then ((Dig.hash_Sum.f ((((((⟨#[2]⟩ : ByteArray) ++ t567) ++ t568) ++ t569) ++ t570) ++ t559)).bind fun t571 => (if 1 + t571.size ≤ 9223372036854775807 then ((some (([(((((⟨#[2]⟩ : ByteArray) ++ t567) ++ t568) ++ t569) ++ t570) ++ t559, (⟨#[0]⟩ : ByteArray) ++ t571] : List ByteArray) : List ByteArray)).bind fun y572 => (if y564.length + y572.length < 8796093022208 then ((some (y564 ++ y572 : List ByteArray)).bind fun y575 => ((hash_Leaf.f t571).bind fun t578 => ((proof_climb.f kj33 t578 (wrap64 (a1_0)) (wrap64 (a2)) l1_6).bind fun bt579 => (if y575.length + bt579.2.1.length < 8796093022208 then (some (bt579.1, (y575 ++ bt579.2.1), bt579.2.2)) else (none))))) else (none))) else (none))) else (none)) else (none))) else (none))) else (none))) else (none)))) else (none)) else (some ((⟨#[]⟩ : ByteArray), ([] : List ByteArray), false))) = some (r1, r2, r3) := H
        have A50 := Aside0.mk A500
        clear A500
        by_cases c51 : t561 = true
        ·subst c51
         have H1 : (if y555.length + t560.length < 8796093022208 then ((some (y555 ++ t560 : List ByteArray)).bind fun y564 => ((enc_Uint.f kj33 a1_0).bind fun t567 => (if 1 + t567.size ≤ 9223372036854775807 then ((enc_Text.f kj33 a1_1).bind fun t568 => (if ((⟨#[2]⟩ : ByteArray) ++ t567).size + t568.size ≤ 9223372036854775807 then ((enc_Uint.f kj33 a1_2).bind fun t569 => (if (((⟨#[2]⟩ : ByteArray) ++ t567) ++ t568).size + t569.size ≤ 9223372036854775807 then ((enc_Uint.f kj33 (IntKind.u64.wrap (a1_4))).bind fun t570 => (if ((((⟨#[2]⟩ : ByteArray) ++ t567) ++ t568) ++ t569).size + t570.size ≤ 9223372036854775807 then (if (((((⟨#[2]⟩ : ByteArray) ++ t567) ++ t568) ++ t569) ++ t570).size + t559.size ≤ 9223372036854775807 then ((Dig.hash_Sum.f ((((((⟨#[2]⟩ : ByteArray) ++ t567) ++ t568) ++ t569) ++ t570) ++ t559)).bind fun t571 => (if 1 + t571.size ≤ 9223372036854775807 then ((some (([(((((⟨#[2]⟩ : ByteArray) ++ t567) ++ t568) ++ t569) ++ t570) ++ t559, (⟨#[0]⟩ : ByteArray) ++ t571] : List ByteArray) : List ByteArray)).bind fun y572 => (if y564.length + y572.length < 8796093022208 then ((some (y564 ++ y572 : List ByteArray)).bind fun y575 => ((hash_Leaf.f t571).bind fun t578 => ((proof_climb.f kj33 t578 (wrap64 (a1_0)) (wrap64 (a2)) l1_6).bind fun bt579 => (if y575.length + bt579.2.1.length < 8796093022208 then (some (bt579.1, (y575 ++ bt579.2.1), bt579.2.2)) else (none))))) else (none))) else (none))) else (none)) else (none))) else (none))) else (none))) else (none)))) else (none)) = some (r1, r2, r3) := by rw [if_pos rfl] at H; exact H
         clear H
         have H := H1
         clear H1
         by_cases c52 : y555.length + t560.length < 8796093022208
         ·rw [if_pos c52] at H
          have LMc52 := Aside0.mk c52
          clear c52
          obtain ⟨y564, hy564⟩ : ∃ y_ : List ByteArray, y_ = (y555 ++ t560) := ⟨_, rfl⟩
          replace H : ((enc_Uint.f kj33 a1_0).bind fun t567 => (if 1 + t567.size ≤ 9223372036854775807 then ((enc_Text.f kj33 a1_1).bind fun t568 => (if ((⟨#[2]⟩ : ByteArray) ++ t567).size + t568.size ≤ 9223372036854775807 then ((enc_Uint.f kj33 a1_2).bind fun t569 => (if (((⟨#[2]⟩ : ByteArray) ++ t567) ++ t568).size + t569.size ≤ 9223372036854775807 then ((enc_Uint.f kj33 (IntKind.u64.wrap (a1_4))).bind fun t570 => (if ((((⟨#[2]⟩ : ByteArray) ++ t567) ++ t568) ++ t569).size + t570.size ≤ 9223372036854775807 then (if (((((⟨#[2]⟩ : ByteArray) ++ t567) ++ t568) ++ t569) ++ t570).size + t559.size ≤ 9223372036854775807 then ((Dig.hash_Sum.f ((((((⟨#[2]⟩ : ByteArray) ++ t567) ++ t568) ++ t569) ++ t570) ++ t559)).bind fun t571 => (if 1 + t571.size ≤ 9223372036854775807 then ((some (([(((((⟨#[2]⟩ : ByteArray) ++ t567) ++ t568) ++ t569) ++ t570) ++ t559, (⟨#[0]⟩ : ByteArray) ++ t571] : List ByteArray) : List ByteArray)).bind fun y572 => (if y564.length + y572.length < 8796093022208 then ((some (y564 ++ y572 : List ByteArray)).bind fun y575 => ((hash_Leaf.f t571).bind fun t578 => ((proof_climb.f kj33 t578 (wrap64 (a1_0)) (wrap64 (a2)) l1_6).bind fun bt579 => (if y575.length + bt579.2.1.length < 8796093022208 then (some (bt579.1, (y575 ++ bt579.2.1), bt579.2.2)) else (none))))) else (none))) else (none))) else (none)) else (none))) else (none))) else (none))) else (none))) = some (r1, r2, r3) := by first | (rw [hy564]; with_reducible exact H) | (have H2_ := (Option.bind_some _ _).symm.trans H; rw [hy564]; with_reducible exact H2_) | (have H2_ := (Option.bind_some _ _).symm.trans H; with_reducible exact H2_) | with_reducible exact H | (rw [hy564]; exact H) | exact H
          have Ny564 := Aside0.mk hy564
          clear hy564
          replace H := Option.bind_eq_some_iff.mp H
          obtain ⟨t567, A530, H⟩ := H
          replace H : (if 1 + t567.size ≤ 9223372036854775807 then ((enc_Text.f kj33 a1_1).bind fun t568 => (if ((⟨#[2]⟩ : ByteArray) ++ t567).size + t568.size ≤ 9223372036854775807 then ((enc_Uint.f kj33 a1_2).bind fun t569 => (if (((⟨#[2]⟩ : ByteArray) ++ t567) ++ t568).size + t569.size ≤ 9223372036854775807 then ((enc_Uint.f kj33 (IntKind.u64.wrap (a1_4))).bind fun t570 => (if ((((⟨#[2]⟩ : ByteArray) ++ t567) ++ t568) ++ t569).size + t570.size ≤ 9223372036854775807 then (if (((((⟨#[2]⟩ : ByteArray) ++ t567) ++ t568) ++ t569) ++ t570).size + t559.size ≤ 9223372036854775807 then ((Dig.hash_Sum.f ((((((⟨#[2]⟩ : ByteArray) ++ t567) ++ t568) ++ t569) ++ t570) ++ t559)).bind fun t571 => (if 1 + t571.size ≤ 9223372036854775807 then ((some (([(((((⟨#[2]⟩ : ByteArray) ++ t567) ++ t568) ++ t569) ++ t570) ++ t559, (⟨#[0]⟩ : ByteArray) ++ t571] : List ByteArray) : List ByteArray)).bind fun y572 => (if y564.length + y572.length < 8796093022208 then ((some (y564 ++ y572 : List ByteArray)).bind fun y575 => ((hash_Leaf.f t571).bind fun t578 => ((proof_climb.f kj33 t578 (wrap64 (a1_0)) (wrap64 (a2)) l1_6).bind fun bt579 => (if y575.length + bt579.2.1.length < 8796093022208 then (some (bt579.1, (y575 ++ bt579.2.1), bt579.2.2)) else (none))))) else (none))) else (none))) else (none)) else (none))) else (none))) else (none))) else (none)) = some (r1, r2, r3) := H
          have A53 := Aside0.mk A530
          clear A530
          by_cases c54 : 1 + t567.size ≤ 9223372036854775807
          ·rw [if_pos c54] at H
           have c54b0 := eq_true c54
           have c54b1 : decide (1 + t567.size ≤ 9223372036854775807) = true := decide_eq_true c54
           try have c54b2 : (9223372036854775807 < 1 + t567.size) = False := eq_false (Nat.not_lt.2 c54)
           replace H := Option.bind_eq_some_iff.mp H
           obtain ⟨t568, A550, H⟩ := H
           replace H : (if ((⟨#[2]⟩ : ByteArray) ++ t567).size + t568.size ≤ 9223372036854775807 then ((enc_Uint.f kj33 a1_2).bind fun t569 => (if (((⟨#[2]⟩ : ByteArray) ++ t567) ++ t568).size + t569.size ≤ 9223372036854775807 then ((enc_Uint.f kj33 (IntKind.u64.wrap (a1_4))).bind fun t570 => (if ((((⟨#[2]⟩ : ByteArray) ++ t567) ++ t568) ++ t569).size + t570.size ≤ 9223372036854775807 then (if (((((⟨#[2]⟩ : ByteArray) ++ t567) ++ t568) ++ t569) ++ t570).size + t559.size ≤ 9223372036854775807 then ((Dig.hash_Sum.f ((((((⟨#[2]⟩ : ByteArray) ++ t567) ++ t568) ++ t569) ++ t570) ++ t559)).bind fun t571 => (if 1 + t571.size ≤ 9223372036854775807 then ((some (([(((((⟨#[2]⟩ : ByteArray) ++ t567) ++ t568) ++ t569) ++ t570) ++ t559, (⟨#[0]⟩ : ByteArray) ++ t571] : List ByteArray) : List ByteArray)).bind fun y572 => (if y564.length + y572.length < 8796093022208 then ((some (y564 ++ y572 : List ByteArray)).bind fun y575 => ((hash_Leaf.f t571).bind fun t578 => ((proof_climb.f kj33 t578 (wrap64 (a1_0)) (wrap64 (a2)) l1_6).bind fun bt579 => (if y575.length + bt579.2.1.length < 8796093022208 then (some (bt579.1, (y575 ++ bt579.2.1), bt579.2.2)) else (none))))) else (none))) else (none))) else (none)) else (none))) else (none))) else (none)) = some (r1, r2, r3) := H
           have A55 := Aside0.mk A550
           clear A550
           by_cases c56 : ((⟨#[2]⟩ : ByteArray) ++ t567).size + t568.size ≤ 9223372036854775807
           ·rw [if_pos c56] at H
            have c56b0 := eq_true c56
            have c56b1 : decide (((⟨#[2]⟩ : ByteArray) ++ t567).size + t568.size ≤ 9223372036854775807) = true := decide_eq_true c56
            try have c56b2 : (9223372036854775807 < ((⟨#[2]⟩ : ByteArray) ++ t567).size + t568.size) = False := eq_false (Nat.not_lt.2 c56)
            try (have c56b2x := c56b2; simp only [ByteArray.size_append, show (⟨#[2]⟩ : ByteArray).size = 1 from rfl] at c56b2x)
            replace H := Option.bind_eq_some_iff.mp H
            obtain ⟨t569, A570, H⟩ := H
            replace H : (if (((⟨#[2]⟩ : ByteArray) ++ t567) ++ t568).size + t569.size ≤ 9223372036854775807 then ((enc_Uint.f kj33 (IntKind.u64.wrap (a1_4))).bind fun t570 => (if ((((⟨#[2]⟩ : ByteArray) ++ t567) ++ t568) ++ t569).size + t570.size ≤ 9223372036854775807 then (if (((((⟨#[2]⟩ : ByteArray) ++ t567) ++ t568) ++ t569) ++ t570).size + t559.size ≤ 9223372036854775807 then ((Dig.hash_Sum.f ((((((⟨#[2]⟩ : ByteArray) ++ t567) ++ t568) ++ t569) ++ t570) ++ t559)).bind fun t571 => (if 1 + t571.size ≤ 9223372036854775807 then ((some (([(((((⟨#[2]⟩ : ByteArray) ++ t567) ++ t568) ++ t569) ++ t570) ++ t559, (⟨#[0]⟩ : ByteArray) ++ t571] : List ByteArray) : List ByteArray)).bind fun y572 => (if y564.length + y572.length < 8796093022208 then ((some (y564 ++ y572 : List ByteArray)).bind fun y575 => ((hash_Leaf.f t571).bind fun t578 => ((proof_climb.f kj33 t578 (wrap64 (a1_0)) (wrap64 (a2)) l1_6).bind fun bt579 => (if y575.length + bt579.2.1.length < 8796093022208 then (some (bt579.1, (y575 ++ bt579.2.1), bt579.2.2)) else (none))))) else (none))) else (none))) else (none)) else (none))) else (none)) = some (r1, r2, r3) := H
            have A57 := Aside0.mk A570
            clear A570
            by_cases c58 : (((⟨#[2]⟩ : ByteArray) ++ t567) ++ t568).size + t569.size ≤ 9223372036854775807
            ·rw [if_pos c58] at H
             have c58b0 := eq_true c58
             have c58b1 : decide ((((⟨#[2]⟩ : ByteArray) ++ t567) ++ t568).size + t569.size ≤ 9223372036854775807) = true := decide_eq_true c58
             try have c58b2 : (9223372036854775807 < (((⟨#[2]⟩ : ByteArray) ++ t567) ++ t568).size + t569.size) = False := eq_false (Nat.not_lt.2 c58)
             try (have c58b2x := c58b2; simp only [ByteArray.size_append, show (⟨#[2]⟩ : ByteArray).size = 1 from rfl] at c58b2x)
             replace H := Option.bind_eq_some_iff.mp H
             obtain ⟨t570, A590, H⟩ := H
             replace H : (if ((((⟨#[2]⟩ : ByteArray) ++ t567) ++ t568) ++ t569).size + t570.size ≤ 9223372036854775807 then (if (((((⟨#[2]⟩ : ByteArray) ++ t567) ++ t568) ++ t569) ++ t570).size + t559.size ≤ 9223372036854775807 then ((Dig.hash_Sum.f ((((((⟨#[2]⟩ : ByteArray) ++ t567) ++ t568) ++ t569) ++ t570) ++ t559)).bind fun t571 => (if 1 + t571.size ≤ 9223372036854775807 then ((some (([(((((⟨#[2]⟩ : ByteArray) ++ t567) ++ t568) ++ t569) ++ t570) ++ t559, (⟨#[0]⟩ : ByteArray) ++ t571] : List ByteArray) : List ByteArray)).bind fun y572 => (if y564.length + y572.length < 8796093022208 then ((some (y564 ++ y572 : List ByteArray)).bind fun y575 => ((hash_Leaf.f t571).bind fun t578 => ((proof_climb.f kj33 t578 (wrap64 (a1_0)) (wrap64 (a2)) l1_6).bind fun bt579 => (if y575.length + bt579.2.1.length < 8796093022208 then (some (bt579.1, (y575 ++ bt579.2.1), bt579.2.2)) else (none))))) else (none))) else (none))) else (none)) else (none)) = some (r1, r2, r3) := H
             have A59 := Aside0.mk A590
             clear A590
             by_cases c60 : ((((⟨#[2]⟩ : ByteArray) ++ t567) ++ t568) ++ t569).size + t570.size ≤ 9223372036854775807
             ·rw [if_pos c60] at H
              have c60b0 := eq_true c60
              have c60b1 : decide (((((⟨#[2]⟩ : ByteArray) ++ t567) ++ t568) ++ t569).size + t570.size ≤ 9223372036854775807) = true := decide_eq_true c60
              try have c60b2 : (9223372036854775807 < ((((⟨#[2]⟩ : ByteArray) ++ t567) ++ t568) ++ t569).size + t570.size) = False := eq_false (Nat.not_lt.2 c60)
              try (have c60b2x := c60b2; simp only [ByteArray.size_append, show (⟨#[2]⟩ : ByteArray).size = 1 from rfl] at c60b2x)
              by_cases c61 : (((((⟨#[2]⟩ : ByteArray) ++ t567) ++ t568) ++ t569) ++ t570).size + t559.size ≤ 9223372036854775807
              ·rw [if_pos c61] at H
               have c61b0 := eq_true c61
               have c61b1 : decide ((((((⟨#[2]⟩ : ByteArray) ++ t567) ++ t568) ++ t569) ++ t570).size + t559.size ≤ 9223372036854775807) = true := decide_eq_true c61
               try have c61b2 : (9223372036854775807 < (((((⟨#[2]⟩ : ByteArray) ++ t567) ++ t568) ++ t569) ++ t570).size + t559.size) = False := eq_false (Nat.not_lt.2 c61)
               try (have c61b2x := c61b2; simp only [ByteArray.size_append, show (⟨#[2]⟩ : ByteArray).size = 1 from rfl] at c61b2x)
               replace H := Option.bind_eq_some_iff.mp H
               obtain ⟨t571, A620, H⟩ := H
               replace H : (if 1 + t571.size ≤ 9223372036854775807 then ((some (([(((((⟨#[2]⟩ : ByteArray) ++ t567) ++ t568) ++ t569) ++ t570) ++ t559, (⟨#[0]⟩ : ByteArray) ++ t571] : List ByteArray) : List ByteArray)).bind fun y572 => (if y564.length + y572.length < 8796093022208 then ((some (y564 ++ y572 : List ByteArray)).bind fun y575 => ((hash_Leaf.f t571).bind fun t578 => ((proof_climb.f kj33 t578 (wrap64 (a1_0)) (wrap64 (a2)) l1_6).bind fun bt579 => (if y575.length + bt579.2.1.length < 8796093022208 then (some (bt579.1, (y575 ++ bt579.2.1), bt579.2.2)) else (none))))) else (none))) else (none)) = some (r1, r2, r3) := H
               have A62 := Aside0.mk A620
               clear A620
               by_cases c63 : 1 + t571.size ≤ 9223372036854775807
               ·rw [if_pos c63] at H
                have c63b0 := eq_true c63
                have c63b1 : decide (1 + t571.size ≤ 9223372036854775807) = true := decide_eq_true c63
                try have c63b2 : (9223372036854775807 < 1 + t571.size) = False := eq_false (Nat.not_lt.2 c63)
                obtain ⟨y572, hy572⟩ : ∃ y_ : List ByteArray, y_ = (([(((((⟨#[2]⟩ : ByteArray) ++ t567) ++ t568) ++ t569) ++ t570) ++ t559, (⟨#[0]⟩ : ByteArray) ++ t571] : List ByteArray)) := ⟨_, rfl⟩
                replace H : (if y564.length + y572.length < 8796093022208 then ((some (y564 ++ y572 : List ByteArray)).bind fun y575 => ((hash_Leaf.f t571).bind fun t578 => ((proof_climb.f kj33 t578 (wrap64 (a1_0)) (wrap64 (a2)) l1_6).bind fun bt579 => (if y575.length + bt579.2.1.length < 8796093022208 then (some (bt579.1, (y575 ++ bt579.2.1), bt579.2.2)) else (none))))) else (none)) = some (r1, r2, r3) := by first | (rw [hy572]; with_reducible exact H) | (have H2_ := (Option.bind_some _ _).symm.trans H; rw [hy572]; with_reducible exact H2_) | (have H2_ := (Option.bind_some _ _).symm.trans H; with_reducible exact H2_) | with_reducible exact H | (rw [hy572]; exact H) | exact H
                have Ny572 := Aside0.mk hy572
                clear hy572
                by_cases c64 : y564.length + y572.length < 8796093022208
                ·rw [if_pos c64] at H
                 have LMc64 := Aside0.mk c64
                 clear c64
                 obtain ⟨y575, hy575⟩ : ∃ y_ : List ByteArray, y_ = (y564 ++ y572) := ⟨_, rfl⟩
                 replace H : ((hash_Leaf.f t571).bind fun t578 => ((proof_climb.f kj33 t578 (wrap64 (a1_0)) (wrap64 (a2)) l1_6).bind fun bt579 => (if y575.length + bt579.2.1.length < 8796093022208 then (some (bt579.1, (y575 ++ bt579.2.1), bt579.2.2)) else (none)))) = some (r1, r2, r3) := by first | (rw [hy575]; with_reducible exact H) | (have H2_ := (Option.bind_some _ _).symm.trans H; rw [hy575]; with_reducible exact H2_) | (have H2_ := (Option.bind_some _ _).symm.trans H; with_reducible exact H2_) | with_reducible exact H | (rw [hy575]; exact H) | exact H
                 have Ny575 := Aside0.mk hy575
                 clear hy575
                 replace H := Option.bind_eq_some_iff.mp H
                 obtain ⟨t578, A650, H⟩ := H
                 replace H : ((proof_climb.f kj33 t578 (wrap64 (a1_0)) (wrap64 (a2)) l1_6).bind fun bt579 => (if y575.length + bt579.2.1.length < 8796093022208 then (some (bt579.1, (y575 ++ bt579.2.1), bt579.2.2)) else (none))) = some (r1, r2, r3) := H
                 have A65 := Aside0.mk A650
                 clear A650
                 replace H := Option.bind_eq_some_iff.mp H
                 obtain ⟨⟨t579, t580, t581⟩, A660, H⟩ := H
                 replace H : (if y575.length + t580.length < 8796093022208 then (some (t579, (y575 ++ t580), t581)) else (none)) = some (r1, r2, r3) := H
                 have A66 := Aside0.mk A660
                 clear A660
                 by_cases c67 : y575.length + t580.length < 8796093022208
                 ·rw [if_pos c67] at H
                  have LMc67 := Aside0.mk c67
                  clear c67
                  obtain ⟨y584, hy584⟩ : ∃ y_ : List ByteArray, y_ = (y575 ++ t580) := ⟨_, rfl⟩
                  replace H : (some (t579, y584, t581)) = some (r1, r2, r3) := by first | (rw [hy584]; with_reducible exact H) | (have H2_ := (Option.bind_some _ _).symm.trans H; rw [hy584]; with_reducible exact H2_) | (have H2_ := (Option.bind_some _ _).symm.trans H; with_reducible exact H2_) | with_reducible exact H | (rw [hy584]; exact H) | exact H
                  have Ny584 := Aside0.mk hy584
                  clear hy584
                  simp only [Option.some.injEq, Prod.mk.injEq] at H
                  obtain ⟨rfl, rfl, rfl⟩ := H
                  try go_wp2_with (first | ((with_reducible refine gate_builtin (b := .append) (xs := #[.tmp 81, .tmp 84]) rfl ?_); (try (refine gate_guard (by rfl) ?_; dsimp only)); at_builtin; refine Kd.R_append Kd.string (w0 := w) w.heap.size rfl (.tmp 81) (.tmp 84) 51 9 (.string ⟨#[]⟩) 16 rfl Try.underlying51 info9 rfl (by decide) (by omega) u10 x10_33 ((⟨#[0]⟩ : ByteArray) ++ t548) [.string ((⟨#[0]⟩ : ByteArray) ++ t548)] (fun _ => True) (fun _ => False) rfl rfl ?aP (fun _ hk => hk.elim) ?aF ?aO ?aB ?aS ?aL ?_; (case aP => exact rfl); (case aB => exact (bh_ HB.out)); (case aF => exact (fun _ _ => trivial)); (case aO => exact (br_ HO_10.out)); (case aS => exact (below_size (bh_ HB.out))); (case aL => have := LMc48.out; omega); intro v556 w68 ho hb hg hat; rw [← Ny555.out] at ho; have n0_ := Aside0.mk (blk_grown (g := gb546) (o := .cells #[.int .i64 a0_0, .string a0_1, .string a0_2, .int .u64 a0_3, .int .u64 a0_4, .string a0_5, .string a0_6, .bool a0_7] 47 (0, 0)) (bz_ BK546.out) hg (Kd.R_ne HO_10.out BK546.out (by decide))); have n1_ := Aside0.mk (blk_grown (g := gb547) (o := .cells #[.int .u64 a1_0, .string a1_1, .int .u64 a1_2, .int .i64 a1_3, .int .i64 a1_4, .slice A1_5 l1_5.length c1_5, .slice A1_6 l1_6.length c1_6] 53 (0, 0)) (bz_ BK547.out) hg (Kd.R_ne HO_10.out BK547.out (by decide))); have n2_ := Aside0.mk (hb); have n3_ := Aside0.mk (ho); clear BK546; clear BK547; clear HB; clear HO_10; have BK546 := n0_; have BK547 := n1_; have HB := n2_; have HO557 := n3_; clear n0_ n1_ n2_ n3_; clear ho hb hg hat))
                  replace HO557 := Aside0.mk (Kd.R_drew HO557.out)
                  replace BK546 := Aside0.mk (blk_drew BK546.out)
                  replace BK547 := Aside0.mk (blk_drew BK547.out)
                  replace HB := Aside0.mk (below_drew1 HB.out)
                  refine start_ (n := 16) (S := fun w' => w'.cell? ⟨gb547, 0, none⟩ = some (.int .u64 a1_0) ∧ w'.cell? ⟨gb547, 1, none⟩ = some (.string a1_1) ∧ w'.cell? ⟨gb547, 2, none⟩ = some (.int .u64 a1_2) ∧ w'.cell? ⟨gb547, 3, none⟩ = some (.int .i64 a1_3) ∧ w'.cell? ⟨gb547, 4, none⟩ = some (.int .i64 a1_4) ∧ w'.cell? ⟨gb547, 5, none⟩ = some (.slice A1_5 l1_5.length c1_5) ∧ w'.cell? ⟨gb547, 6, none⟩ = some (.slice A1_6 l1_6.length c1_6)) (ds := []) #[N_, N_, N_, N_, N_, N_, N_, N_, N_, N_, N_, N_, N_, N_, N_, N_] (by kernel_rfl) rfl rfl ⟨(blk_cell BK547.out 0).trans rfl, (blk_cell BK547.out 1).trans rfl, (blk_cell BK547.out 2).trans rfl, (blk_cell BK547.out 3).trans rfl, (blk_cell BK547.out 4).trans rfl, (blk_cell BK547.out 5).trans rfl, (blk_cell BK547.out 6).trans rfl⟩ (fun hHeld => ?_); refine with_tabW proof_steps.tab8 proof_steps.bits8 (fun HT_ HW_ => ?_)
                  generalize w68.drew = w69 at HO557 BK546 BK547 HB hHeld ⊢
                  refine pure_ (i := 0) (N := some 87) (v := ?_) (a' := ?_) #[Y_, N_, N_, N_, N_, N_, N_, N_, N_, N_, N_, N_, N_, N_, N_, N_] rfl rfl (any_of HT_.out (by kernel_rfl)) (fun _ _ _ h => h) (Or.inl ⟨by rfl, ?_⟩) ?_ ?_
                  rotate_left; (intro w'; go_simp; with_reducible rfl); rotate_left; (simp only [Act.put, q1_, q2_, q3_, i64_w, i32_w]; rfl)
                  refine pure_ (i := 2) (N := some 89) (v := ?_) (a' := ?_) #[Y_, N_, Y_, N_, N_, N_, N_, N_, N_, N_, N_, N_, N_, N_, N_, N_] rfl rfl (any_of HT_.out (by kernel_rfl)) (fun _ _ _ h => h) (Or.inl ⟨by rfl, ?_⟩) ?_ ?_
                  rotate_left; (intro w'; go_simp; with_reducible rfl); rotate_left; (simp only [Act.put, q1_, q2_, q3_, i64_w, i32_w]; rfl)
                  refine pure_ (i := 4) (N := some 91) (v := ?_) (a' := ?_) #[Y_, N_, Y_, N_, Y_, N_, N_, N_, N_, N_, N_, N_, N_, N_, N_, N_] rfl rfl (any_of HT_.out (by kernel_rfl)) (fun _ _ _ h => h) (Or.inl ⟨by rfl, ?_⟩) ?_ ?_
                  rotate_left; (intro w'; go_simp; with_reducible rfl); rotate_left; (simp only [Act.put, q1_, q2_, q3_, i64_w, i32_w]; rfl)
                  refine pure_ (i := 6) (N := some 93) (v := ?_) (a' := ?_) #[Y_, N_, Y_, N_, Y_, N_, Y_, N_, N_, N_, N_, N_, N_, N_, N_, N_] rfl rfl (any_of HT_.out (by kernel_rfl)) (fun _ _ _ h => h) (Or.inl ⟨by rfl, ?_⟩) ?_ ?_
                  rotate_left; (intro w'; go_simp; with_reducible rfl); rotate_left; (simp only [Act.put, q1_, q2_, q3_, i64_w, i32_w]; rfl)
                  refine take_ (i := 3) (N := some 90) (v := ?_) (a' := ?_) #[Y_, N_, Y_, Y_, Y_, N_, Y_, N_, N_, N_, N_, N_, N_, N_, N_, N_] rfl rfl (take_ofW HT_.out HW_.out (by kernel_rfl)) (fun _ _ _ h => h) (Or.inl ⟨by rfl, ?_⟩) hHeld ?_ ?_
                  rotate_left; (rintro w' ⟨s0, s1, s2, s3, s4, s5, s6⟩; go_simp; with_reducible rfl); rotate_left; (simp only [Act.put, q1_, q2_, q3_, i64_w, i32_w]; rfl)
                  refine take_ (i := 5) (N := some 92) (v := ?_) (a' := ?_) #[Y_, N_, Y_, Y_, Y_, Y_, Y_, N_, N_, N_, N_, N_, N_, N_, N_, N_] rfl rfl (take_ofW HT_.out HW_.out (by kernel_rfl)) (fun _ _ _ h => h) (Or.inl ⟨by rfl, ?_⟩) hHeld ?_ ?_
                  rotate_left; (rintro w' ⟨s0, s1, s2, s3, s4, s5, s6⟩; go_simp; with_reducible rfl); rotate_left; (simp only [Act.put, q1_, q2_, q3_, i64_w, i32_w]; rfl)
                  refine take_ (i := 7) (N := some 94) (v := ?_) (a' := ?_) #[Y_, N_, Y_, Y_, Y_, Y_, Y_, Y_, N_, N_, N_, N_, N_, N_, N_, N_] rfl rfl (take_ofW HT_.out HW_.out (by kernel_rfl)) (fun _ _ _ h => h) (Or.inl ⟨by rfl, ?_⟩) hHeld ?_ ?_
                  rotate_left; (rintro w' ⟨s0, s1, s2, s3, s4, s5, s6⟩; go_simp; with_reducible rfl); rotate_left; (simp only [Act.put, q1_, q2_, q3_, i64_w, i32_w]; rfl)
                  refine one_ (i := 1) (N := some 88) #[Y_, Y_, Y_, Y_, Y_, Y_, Y_, Y_, N_, N_, N_, N_, N_, N_, N_, N_] rfl rfl (one_of HT_.out (by kernel_rfl)) (by decide) (fun K hK => ?_)
                  refine goes_ Try.func20 (by kernel_rfl) rfl #[.string t548] (by rfl) rfl rfl (by (try simp only [List.map_toArray, List.map_cons, List.map_nil]); first | done | rfl | (simp only [List.length_drop, List.length_take]; rfl)) ?_
                  with_reducible refine (hash_Leaf.calls t548 t558 _ A49.out).mono ?_
                  rintro e w70 ⟨rfl, hb⟩
                  refine ⟨_, rfl, ?_⟩
                  replace HO557 := Aside0.mk (Kd.R_below (br_ HO557.out) hb)
                  replace BK546 := Aside0.mk (bk_ BK546.out hb)
                  replace BK547 := Aside0.mk (bk_ BK547.out hb)
                  replace HB := Aside0.mk (below_step (bh_ HB.out) hb)
                  (try clear hb)
                  (try clear hb2)
                  (try clear hk)
                  (try clear hi)
                  refine hK.out _ _ ⟨(blk_cell BK547.out 0).trans rfl, (blk_cell BK547.out 1).trans rfl, (blk_cell BK547.out 2).trans rfl, (blk_cell BK547.out 3).trans rfl, (blk_cell BK547.out 4).trans rfl, (blk_cell BK547.out 5).trans rfl, (blk_cell BK547.out 6).trans rfl⟩ (fun hHeld => ?_)
                  clear hK K
                  refine norm_ (a' := ?_) ?_ ?_
                  rotate_left
                  ·show Act.put _ (some 88) _ = _
                   simp only [Act.put, q1_, q2_, q3_, i64_w, i32_w]
                   rfl
                  refine one_ (i := 8) (N := some 95) #[Y_, Y_, Y_, Y_, Y_, Y_, Y_, Y_, Y_, N_, N_, N_, N_, N_, N_, N_] rfl rfl (one_of HT_.out (by kernel_rfl)) (by decide) (fun K hK => ?_)
                  refine goes_ Try.func84 (by kernel_rfl) rfl #[.string t558, .int .i64 a1_3, .int .i64 a1_4, .slice A1_5 l1_5.length c1_5] (by rfl) rfl rfl (by (try simp only [List.map_toArray, List.map_cons, List.map_nil]); first | done | rfl | (simp only [List.length_drop, List.length_take]; rfl)) ?_
                  with_reducible refine (proof_climb.calls kj33 t558 a1_3 a1_4 _ _ l1_5 t559 t560 true _ ?side1 ?side2 A50.out).mono ?_
                  (case side1 => repeat (first | exact (Kd.C_below HR1_5.out HB.out) | (with_reducible refine Kd.C_alloc ?_ _) | (with_reducible refine Kd.C_drewN ?_ _) | (with_reducible refine Kd.C_drew ?_)))
                  (case side2 => exact HC1_5.out)
                  rintro e w71 ⟨v562, rfl, ho0, hb⟩
                  refine ⟨_, rfl, ?_⟩
                  have n0_ := Aside0.mk (Kd.R_elder' (br_ HO557.out) (Kd.R_base ho0) hb)
                  have n1_ := Aside0.mk (Kd.R_lower (Kd.R_new' ho0 (Kd.R_lt (br_ HO557.out))) (below_size (bh_ HB.out)))
                  have n2_ := Aside0.mk (bk_ BK546.out hb)
                  have n3_ := Aside0.mk (bk_ BK547.out hb)
                  have n4_ := Aside0.mk (below_step (bh_ HB.out) hb)
                  clear HO557
                  clear BK546
                  clear BK547
                  clear HB
                  have HO557 := n0_
                  have HO563 := n1_
                  have BK546 := n2_
                  have BK547 := n3_
                  have HB := n4_
                  clear n0_ n1_ n2_ n3_ n4_
                  (try clear hb)
                  (try clear hb2)
                  (try clear hk)
                  (try clear hi)
                  (try clear ho0)
                  refine hK.out _ _ ⟨(blk_cell BK547.out 0).trans rfl, (blk_cell BK547.out 1).trans rfl, (blk_cell BK547.out 2).trans rfl, (blk_cell BK547.out 3).trans rfl, (blk_cell BK547.out 4).trans rfl, (blk_cell BK547.out 5).trans rfl, (blk_cell BK547.out 6).trans rfl⟩ (fun hHeld => ?_)
                  clear hK K
                  refine norm_ (a' := ?_) ?_ ?_
                  rotate_left
                  ·show Act.put _ (some 95) _ = _
                   simp only [Act.put, q1_, q2_, q3_, i64_w, i32_w]
                   rfl
                  refine pure_ (i := 9) (N := some 86) (v := ?_) (a' := ?_) #[Y_, Y_, Y_, Y_, Y_, Y_, Y_, Y_, Y_, Y_, N_, N_, N_, N_, N_, N_] rfl rfl (any_of HT_.out (by kernel_rfl)) (fun _ _ _ h => h) (Or.inl ⟨by rfl, ?_⟩) ?_ ?_
                  rotate_left; (intro w'; go_simp; with_reducible rfl); rotate_left; (simp only [Act.put, q1_, q2_, q3_, i64_w, i32_w]; rfl)
                  refine pure_ (i := 10) (N := some 96) (v := ?_) (a' := ?_) #[Y_, Y_, Y_, Y_, Y_, Y_, Y_, Y_, Y_, Y_, Y_, N_, N_, N_, N_, N_] rfl rfl (any_of HT_.out (by kernel_rfl)) (fun _ _ _ h => h) (Or.inl ⟨by rfl, ?_⟩) ?_ ?_
                  rotate_left; (intro w'; go_simp; with_reducible rfl); rotate_left; (simp only [Act.put, q1_, q2_, q3_, i64_w, i32_w]; rfl)
                  refine pure_ (i := 11) (N := some 97) (v := ?_) (a' := ?_) #[Y_, Y_, Y_, Y_, Y_, Y_, Y_, Y_, Y_, Y_, Y_, Y_, N_, N_, N_, N_] rfl rfl (any_of HT_.out (by kernel_rfl)) (fun _ _ _ h => h) (Or.inl ⟨by rfl, ?_⟩) ?_ ?_
                  rotate_left; (intro w'; go_simp; with_reducible rfl); rotate_left; (simp only [Act.put, q1_, q2_, q3_, i64_w, i32_w]; rfl)
                  refine pure_ (i := 12) (N := some 98) (v := ?_) (a' := ?_) #[Y_, Y_, Y_, Y_, Y_, Y_, Y_, Y_, Y_, Y_, Y_, Y_, Y_, N_, N_, N_] rfl rfl (any_of HT_.out (by kernel_rfl)) (fun _ _ _ h => h) (Or.inl ⟨by rfl, ?_⟩) ?_ ?_
                  rotate_left; (intro w'; go_simp; with_reducible rfl); rotate_left; (simp only [Act.put, q1_, q2_, q3_, i64_w, i32_w]; rfl)
                  refine pure_ (i := 13) (N := some 11) (v := ?_) (a' := ?_) #[Y_, Y_, Y_, Y_, Y_, Y_, Y_, Y_, Y_, Y_, Y_, Y_, Y_, Y_, N_, N_] rfl rfl (any_of HT_.out (by kernel_rfl)) (fun _ _ _ h => h) (Or.inl ⟨by rfl, ?_⟩) ?_ ?_
                  rotate_left; (intro w'; go_simp; with_reducible rfl); rotate_left; (simp only [Act.put, q1_, q2_, q3_, i64_w, i32_w]; rfl)
                  refine pure_ (i := 14) (N := some 12) (v := ?_) (a' := ?_) #[Y_, Y_, Y_, Y_, Y_, Y_, Y_, Y_, Y_, Y_, Y_, Y_, Y_, Y_, Y_, N_] rfl rfl (any_of HT_.out (by kernel_rfl)) (fun _ _ _ h => h) (Or.inl ⟨by rfl, ?_⟩) ?_ ?_
                  rotate_left; (intro w'; go_simp; with_reducible rfl); rotate_left; (simp only [Act.put, q1_, q2_, q3_, i64_w, i32_w]; rfl)
                  refine pure_ (i := 15) (N := some 13) (v := ?_) (a' := ?_) #[Y_, Y_, Y_, Y_, Y_, Y_, Y_, Y_, Y_, Y_, Y_, Y_, Y_, Y_, Y_, Y_] rfl rfl (any_of HT_.out (by kernel_rfl)) (fun _ _ _ h => h) (Or.inl ⟨by rfl, ?_⟩) ?_ ?_
                  rotate_left; (intro w'; go_simp; with_reducible rfl); rotate_left; (simp only [Act.put, q1_, q2_, q3_, i64_w, i32_w]; rfl)
                  refine done_ (done_of HT_.out (by kernel_rfl)) ?_
                  obtain ⟨Ao73, co73, eo73⟩ := Kd.R_slice HO563.out
                  subst eo73
                  try go_wp2_with (first | ((with_reducible refine gate_builtin (b := .append) (xs := #[.tmp 101, .tmp 102]) rfl ?_); (try (refine gate_guard (by rfl) ?_; dsimp only)); at_builtin; refine Kd.R_append_rows Kd.string (w0 := w) w.heap.size rfl (.tmp 101) (.tmp 102) 51 9 (.string ⟨#[]⟩) 16 rfl Try.underlying51 info9 rfl (by decide) (by omega) v556 y555 t560 _ _ _ (fun k_ => some k_ ≠ (.slice Ao73 t560.length co73 : Value).ownBlock) (fun _ => False) rfl rfl ?aO ?aR (fun _ _ h => h) (fun _ h => h.elim) ?aF ?aB ?aS ?aL ?_; (case aR => repeat (first | exact (Kd.R_reads' HO563.out).2.2 | (with_reducible refine Kd.C_alloc ?_ _) | (with_reducible refine Kd.C_drewN ?_ _) | (with_reducible refine Kd.C_drew ?_))); (case aB => exact (bh_ HB.out)); (case aF => exact (fun k_ hk => Kd.fresh' (Kd.R_lt (br_ HO563.out)) k_ hk)); (case aO => exact (by (with_reducible repeat (first | apply Kd.R_alloc | apply Kd.R_drewN | apply Kd.R_drew)); exact Kd.R_mono HO557.out (fun _ hk => hk.2))); (case aS => exact (below_size (bh_ HB.out))); (case aL => have := LMc52.out; omega); intro v565 w72 ho hb hg hat; rw [← Ny564.out] at ho; have n0_ := Aside0.mk (blk_grown (g := gb546) (o := .cells #[.int .i64 a0_0, .string a0_1, .string a0_2, .int .u64 a0_3, .int .u64 a0_4, .string a0_5, .string a0_6, .bool a0_7] 47 (0, 0)) (bz_ BK546.out) hg (Kd.R_ne HO557.out BK546.out (by decide))); have n1_ := Aside0.mk (blk_grown (g := gb547) (o := .cells #[.int .u64 a1_0, .string a1_1, .int .u64 a1_2, .int .i64 a1_3, .int .i64 a1_4, .slice A1_5 l1_5.length c1_5, .slice A1_6 l1_6.length c1_6] 53 (0, 0)) (bz_ BK547.out) hg (Kd.R_ne HO557.out BK547.out (by decide))); have n2_ := Aside0.mk (Kd.R_after (ok := (fun _ => True)) (br_ HO563.out) hg hat); have n3_ := Aside0.mk (hb); have n4_ := Aside0.mk (ho); clear BK546; clear BK547; clear HO563; clear HB; clear HO557; have BK546 := n0_; have BK547 := n1_; have HO563 := n2_; have HB := n3_; have HO566 := n4_; clear n0_ n1_ n2_ n3_ n4_; clear ho hb hg hat))
                  replace HO563 := Aside0.mk (Kd.R_drew HO563.out)
                  replace HO566 := Aside0.mk (Kd.R_drew HO566.out)
                  replace BK546 := Aside0.mk (blk_drew BK546.out)
                  replace BK547 := Aside0.mk (blk_drew BK547.out)
                  replace HB := Aside0.mk (below_drew1 HB.out)
                  refine start_ (n := 20) (S := fun w' => w'.cell? ⟨gb547, 0, none⟩ = some (.int .u64 a1_0) ∧ w'.cell? ⟨gb547, 1, none⟩ = some (.string a1_1) ∧ w'.cell? ⟨gb547, 2, none⟩ = some (.int .u64 a1_2) ∧ w'.cell? ⟨gb547, 3, none⟩ = some (.int .i64 a1_3) ∧ w'.cell? ⟨gb547, 4, none⟩ = some (.int .i64 a1_4) ∧ w'.cell? ⟨gb547, 5, none⟩ = some (.slice A1_5 l1_5.length c1_5) ∧ w'.cell? ⟨gb547, 6, none⟩ = some (.slice A1_6 l1_6.length c1_6)) (ds := []) #[N_, N_, N_, N_, N_, N_, N_, N_, N_, N_, N_, N_, N_, N_, N_, N_, N_, N_, N_, N_] (by kernel_rfl) rfl rfl ⟨(blk_cell BK547.out 0).trans rfl, (blk_cell BK547.out 1).trans rfl, (blk_cell BK547.out 2).trans rfl, (blk_cell BK547.out 3).trans rfl, (blk_cell BK547.out 4).trans rfl, (blk_cell BK547.out 5).trans rfl, (blk_cell BK547.out 6).trans rfl⟩ (fun hHeld => ?_); refine with_tabW proof_steps.tab12 proof_steps.bits12 (fun HT_ HW_ => ?_)
                  generalize w72.drew = w74 at HO563 HO566 BK546 BK547 HB hHeld ⊢
                  refine pure_ (i := 0) (N := some 104) (v := ?_) (a' := ?_) #[Y_, N_, N_, N_, N_, N_, N_, N_, N_, N_, N_, N_, N_, N_, N_, N_, N_, N_, N_, N_] rfl rfl (any_of HT_.out (by kernel_rfl)) (fun _ _ _ h => h) (Or.inl ⟨by rfl, ?_⟩) ?_ ?_
                  rotate_left; (intro w'; go_simp; with_reducible rfl); rotate_left; (simp only [Act.put, q1_, q2_, q3_, i64_w, i32_w]; rfl)
                  refine pure_ (i := 4) (N := some 108) (v := ?_) (a' := ?_) #[Y_, N_, N_, N_, Y_, N_, N_, N_, N_, N_, N_, N_, N_, N_, N_, N_, N_, N_, N_, N_] rfl rfl (any_of HT_.out (by kernel_rfl)) (fun _ _ _ h => h) (Or.inl ⟨by rfl, ?_⟩) ?_ ?_
                  rotate_left; (intro w'; go_simp; with_reducible rfl); rotate_left; (simp only [Act.put, q1_, q2_, q3_, i64_w, i32_w]; rfl)
                  refine pure_ (i := 8) (N := some 112) (v := ?_) (a' := ?_) #[Y_, N_, N_, N_, Y_, N_, N_, N_, Y_, N_, N_, N_, N_, N_, N_, N_, N_, N_, N_, N_] rfl rfl (any_of HT_.out (by kernel_rfl)) (fun _ _ _ h => h) (Or.inl ⟨by rfl, ?_⟩) ?_ ?_
                  rotate_left; (intro w'; go_simp; with_reducible rfl); rotate_left; (simp only [Act.put, q1_, q2_, q3_, i64_w, i32_w]; rfl)
                  refine pure_ (i := 12) (N := some 116) (v := ?_) (a' := ?_) #[Y_, N_, N_, N_, Y_, N_, N_, N_, Y_, N_, N_, N_, Y_, N_, N_, N_, N_, N_, N_, N_] rfl rfl (any_of HT_.out (by kernel_rfl)) (fun _ _ _ h => h) (Or.inl ⟨by rfl, ?_⟩) ?_ ?_
                  rotate_left; (intro w'; go_simp; with_reducible rfl); rotate_left; (simp only [Act.put, q1_, q2_, q3_, i64_w, i32_w]; rfl)
                  refine pure_ (i := 17) (N := some 121) (v := ?_) (a' := ?_) #[Y_, N_, N_, N_, Y_, N_, N_, N_, Y_, N_, N_, N_, Y_, N_, N_, N_, N_, Y_, N_, N_] rfl rfl (any_of HT_.out (by kernel_rfl)) (fun _ _ _ h => h) (Or.inl ⟨by rfl, ?_⟩) ?_ ?_
                  rotate_left; (intro w'; go_simp; with_reducible rfl); rotate_left; (simp only [Act.put, q1_, q2_, q3_, i64_w, i32_w]; rfl)
                  refine take_ (i := 1) (N := some 105) (v := ?_) (a' := ?_) #[Y_, Y_, N_, N_, Y_, N_, N_, N_, Y_, N_, N_, N_, Y_, N_, N_, N_, N_, Y_, N_, N_] rfl rfl (take_ofW HT_.out HW_.out (by kernel_rfl)) (fun _ _ _ h => h) (Or.inl ⟨by rfl, ?_⟩) hHeld ?_ ?_
                  rotate_left; (rintro w' ⟨s0, s1, s2, s3, s4, s5, s6⟩; go_simp; with_reducible rfl); rotate_left; (simp only [Act.put, q1_, q2_, q3_, i64_w, i32_w]; rfl)
                  refine take_ (i := 5) (N := some 109) (v := ?_) (a' := ?_) #[Y_, Y_, N_, N_, Y_, Y_, N_, N_, Y_, N_, N_, N_, Y_, N_, N_, N_, N_, Y_, N_, N_] rfl rfl (take_ofW HT_.out HW_.out (by kernel_rfl)) (fun _ _ _ h => h) (Or.inl ⟨by rfl, ?_⟩) hHeld ?_ ?_
                  rotate_left; (rintro w' ⟨s0, s1, s2, s3, s4, s5, s6⟩; go_simp; with_reducible rfl); rotate_left; (simp only [Act.put, q1_, q2_, q3_, i64_w, i32_w]; rfl)
                  refine take_ (i := 9) (N := some 113) (v := ?_) (a' := ?_) #[Y_, Y_, N_, N_, Y_, Y_, N_, N_, Y_, Y_, N_, N_, Y_, N_, N_, N_, N_, Y_, N_, N_] rfl rfl (take_ofW HT_.out HW_.out (by kernel_rfl)) (fun _ _ _ h => h) (Or.inl ⟨by rfl, ?_⟩) hHeld ?_ ?_
                  rotate_left; (rintro w' ⟨s0, s1, s2, s3, s4, s5, s6⟩; go_simp; with_reducible rfl); rotate_left; (simp only [Act.put, q1_, q2_, q3_, i64_w, i32_w]; rfl)
                  refine take_ (i := 13) (N := some 117) (v := ?_) (a' := ?_) #[Y_, Y_, N_, N_, Y_, Y_, N_, N_, Y_, Y_, N_, N_, Y_, Y_, N_, N_, N_, Y_, N_, N_] rfl rfl (take_ofW HT_.out HW_.out (by kernel_rfl)) (fun _ _ _ h => h) (Or.inl ⟨by rfl, ?_⟩) hHeld ?_ ?_
                  rotate_left; (rintro w' ⟨s0, s1, s2, s3, s4, s5, s6⟩; go_simp; with_reducible rfl); rotate_left; (simp only [Act.put, q1_, q2_, q3_, i64_w, i32_w]; rfl)
                  refine pure_ (i := 14) (N := some 118) (v := ?_) (a' := ?_) #[Y_, Y_, N_, N_, Y_, Y_, N_, N_, Y_, Y_, N_, N_, Y_, Y_, Y_, N_, N_, Y_, N_, N_] rfl rfl (any_of HT_.out (by kernel_rfl)) (fun _ _ _ h => h) (Or.inl ⟨by rfl, ?_⟩) ?_ ?_
                  rotate_left; (intro w'; go_simp; with_reducible rfl); rotate_left; (simp only [Act.put, q1_, q2_, q3_, i64_w, i32_w]; rfl)
                  refine one_ (i := 2) (N := some 106) #[Y_, Y_, Y_, N_, Y_, Y_, N_, N_, Y_, Y_, N_, N_, Y_, Y_, Y_, N_, N_, Y_, N_, N_] rfl rfl (one_of HT_.out (by kernel_rfl)) (by decide) (fun K hK => ?_)
                  refine goes_ Try.func45 (by kernel_rfl) rfl #[.int .u64 a1_0] (by rfl) rfl rfl (by (try simp only [List.map_toArray, List.map_cons, List.map_nil]); first | done | rfl | (simp only [List.length_drop, List.length_take]; rfl)) ?_
                  with_reducible refine (enc_Uint.calls kj33 a1_0 t567 _ A53.out).mono ?_
                  rintro e w75 ⟨rfl, hb⟩
                  refine ⟨_, rfl, ?_⟩
                  replace HO563 := Aside0.mk (Kd.R_below (br_ HO563.out) hb)
                  replace HO566 := Aside0.mk (Kd.R_below (br_ HO566.out) hb)
                  replace BK546 := Aside0.mk (bk_ BK546.out hb)
                  replace BK547 := Aside0.mk (bk_ BK547.out hb)
                  replace HB := Aside0.mk (below_step (bh_ HB.out) hb)
                  (try clear hb)
                  (try clear hb2)
                  (try clear hk)
                  (try clear hi)
                  refine hK.out _ _ ⟨(blk_cell BK547.out 0).trans rfl, (blk_cell BK547.out 1).trans rfl, (blk_cell BK547.out 2).trans rfl, (blk_cell BK547.out 3).trans rfl, (blk_cell BK547.out 4).trans rfl, (blk_cell BK547.out 5).trans rfl, (blk_cell BK547.out 6).trans rfl⟩ (fun hHeld => ?_)
                  clear hK K
                  refine norm_ (a' := ?_) ?_ ?_
                  rotate_left
                  ·show Act.put _ (some 106) _ = _
                   simp only [Act.put, q1_, q2_, q3_, i64_w, i32_w]
                   rfl
                  refine pure_ (i := 3) (N := some 107) (v := ?_) (a' := ?_) #[Y_, Y_, Y_, Y_, Y_, Y_, N_, N_, Y_, Y_, N_, N_, Y_, Y_, Y_, N_, N_, Y_, N_, N_] rfl rfl (any_of HT_.out (by kernel_rfl)) (fun _ _ _ h => h) (Or.inl ⟨by rfl, ?_⟩) ?_ ?_
                  rotate_left; (intro w'; go_simp; with_reducible rfl); rotate_left; (simp only [Act.put, q1_, q2_, q3_, i64_w, i32_w]; rfl)
                  refine one_ (i := 6) (N := some 110) #[Y_, Y_, Y_, Y_, Y_, Y_, Y_, N_, Y_, Y_, N_, N_, Y_, Y_, Y_, N_, N_, Y_, N_, N_] rfl rfl (one_of HT_.out (by kernel_rfl)) (by decide) (fun K hK => ?_)
                  refine goes_ Try.func46 (by kernel_rfl) rfl #[.string a1_1] (by rfl) rfl rfl (by (try simp only [List.map_toArray, List.map_cons, List.map_nil]); first | done | rfl | (simp only [List.length_drop, List.length_take]; rfl)) ?_
                  with_reducible refine (enc_Text.calls kj33 a1_1 t568 _ A55.out).mono ?_
                  rintro e w76 ⟨rfl, hb⟩
                  refine ⟨_, rfl, ?_⟩
                  replace HO563 := Aside0.mk (Kd.R_below (br_ HO563.out) hb)
                  replace HO566 := Aside0.mk (Kd.R_below (br_ HO566.out) hb)
                  replace BK546 := Aside0.mk (bk_ BK546.out hb)
                  replace BK547 := Aside0.mk (bk_ BK547.out hb)
                  replace HB := Aside0.mk (below_step (bh_ HB.out) hb)
                  (try clear hb)
                  (try clear hb2)
                  (try clear hk)
                  (try clear hi)
                  refine hK.out _ _ ⟨(blk_cell BK547.out 0).trans rfl, (blk_cell BK547.out 1).trans rfl, (blk_cell BK547.out 2).trans rfl, (blk_cell BK547.out 3).trans rfl, (blk_cell BK547.out 4).trans rfl, (blk_cell BK547.out 5).trans rfl, (blk_cell BK547.out 6).trans rfl⟩ (fun hHeld => ?_)
                  clear hK K
                  refine norm_ (a' := ?_) ?_ ?_
                  rotate_left
                  ·show Act.put _ (some 110) _ = _
                   simp only [Act.put, q1_, q2_, q3_, i64_w, i32_w]
                   rfl
                  refine pure_ (i := 7) (N := some 111) (v := ?_) (a' := ?_) #[Y_, Y_, Y_, Y_, Y_, Y_, Y_, Y_, Y_, Y_, N_, N_, Y_, Y_, Y_, N_, N_, Y_, N_, N_] rfl rfl (any_of HT_.out (by kernel_rfl)) (fun _ _ _ h => h) (Or.inl ⟨by rfl, ?_⟩) ?_ ?_
                  rotate_left; (intro w'; go_simp; with_reducible rfl); rotate_left; (simp only [Act.put, q1_, q2_, q3_, i64_w, i32_w]; rfl)
                  refine one_ (i := 10) (N := some 114) #[Y_, Y_, Y_, Y_, Y_, Y_, Y_, Y_, Y_, Y_, Y_, N_, Y_, Y_, Y_, N_, N_, Y_, N_, N_] rfl rfl (one_of HT_.out (by kernel_rfl)) (by decide) (fun K hK => ?_)
                  refine goes_ Try.func45 (by kernel_rfl) rfl #[.int .u64 a1_2] (by rfl) rfl rfl (by (try simp only [List.map_toArray, List.map_cons, List.map_nil]); first | done | rfl | (simp only [List.length_drop, List.length_take]; rfl)) ?_
                  with_reducible refine (enc_Uint.calls kj33 a1_2 t569 _ A57.out).mono ?_
                  rintro e w77 ⟨rfl, hb⟩
                  refine ⟨_, rfl, ?_⟩
                  replace HO563 := Aside0.mk (Kd.R_below (br_ HO563.out) hb)
                  replace HO566 := Aside0.mk (Kd.R_below (br_ HO566.out) hb)
                  replace BK546 := Aside0.mk (bk_ BK546.out hb)
                  replace BK547 := Aside0.mk (bk_ BK547.out hb)
                  replace HB := Aside0.mk (below_step (bh_ HB.out) hb)
                  (try clear hb)
                  (try clear hb2)
                  (try clear hk)
                  (try clear hi)
                  refine hK.out _ _ ⟨(blk_cell BK547.out 0).trans rfl, (blk_cell BK547.out 1).trans rfl, (blk_cell BK547.out 2).trans rfl, (blk_cell BK547.out 3).trans rfl, (blk_cell BK547.out 4).trans rfl, (blk_cell BK547.out 5).trans rfl, (blk_cell BK547.out 6).trans rfl⟩ (fun hHeld => ?_)
                  clear hK K
                  refine norm_ (a' := ?_) ?_ ?_
                  rotate_left
                  ·show Act.put _ (some 114) _ = _
                   simp only [Act.put, q1_, q2_, q3_, i64_w, i32_w]
                   rfl
                  refine pure_ (i := 11) (N := some 115) (v := ?_) (a' := ?_) #[Y_, Y_, Y_, Y_, Y_, Y_, Y_, Y_, Y_, Y_, Y_, Y_, Y_, Y_, Y_, N_, N_, Y_, N_, N_] rfl rfl (any_of HT_.out (by kernel_rfl)) (fun _ _ _ h => h) (Or.inl ⟨by rfl, ?_⟩) ?_ ?_
                  rotate_left; (intro w'; go_simp; with_reducible rfl); rotate_left; (simp only [Act.put, q1_, q2_, q3_, i64_w, i32_w]; rfl)
                  refine one_ (i := 15) (N := some 119) #[Y_, Y_, Y_, Y_, Y_, Y_, Y_, Y_, Y_, Y_, Y_, Y_, Y_, Y_, Y_, Y_, N_, Y_, N_, N_] rfl rfl (one_of HT_.out (by kernel_rfl)) (by decide) (fun K hK => ?_)
                  refine goes_ Try.func45 (by kernel_rfl) rfl #[.int .u64 (IntKind.u64.wrap (a1_4))] (by rfl) rfl rfl (by (try simp only [List.map_toArray, List.map_cons, List.map_nil]); first | done | rfl | (simp only [List.length_drop, List.length_take]; rfl)) ?_
                  with_reducible refine (enc_Uint.calls kj33 (IntKind.u64.wrap (a1_4)) t570 _ A59.out).mono ?_
                  rintro e w78 ⟨rfl, hb⟩
                  refine ⟨_, rfl, ?_⟩
                  replace HO563 := Aside0.mk (Kd.R_below (br_ HO563.out) hb)
                  replace HO566 := Aside0.mk (Kd.R_below (br_ HO566.out) hb)
                  replace BK546 := Aside0.mk (bk_ BK546.out hb)
                  replace BK547 := Aside0.mk (bk_ BK547.out hb)
                  replace HB := Aside0.mk (below_step (bh_ HB.out) hb)
                  (try clear hb)
                  (try clear hb2)
                  (try clear hk)
                  (try clear hi)
                  refine hK.out _ _ ⟨(blk_cell BK547.out 0).trans rfl, (blk_cell BK547.out 1).trans rfl, (blk_cell BK547.out 2).trans rfl, (blk_cell BK547.out 3).trans rfl, (blk_cell BK547.out 4).trans rfl, (blk_cell BK547.out 5).trans rfl, (blk_cell BK547.out 6).trans rfl⟩ (fun hHeld => ?_)
                  clear hK K
                  refine norm_ (a' := ?_) ?_ ?_
                  rotate_left
                  ·show Act.put _ (some 119) _ = _
                   simp only [Act.put, q1_, q2_, q3_, i64_w, i32_w]
                   rfl
                  refine pure_ (i := 16) (N := some 120) (v := ?_) (a' := ?_) #[Y_, Y_, Y_, Y_, Y_, Y_, Y_, Y_, Y_, Y_, Y_, Y_, Y_, Y_, Y_, Y_, Y_, Y_, N_, N_] rfl rfl (any_of HT_.out (by kernel_rfl)) (fun _ _ _ h => h) (Or.inl ⟨by rfl, ?_⟩) ?_ ?_
                  rotate_left; (intro w'; go_simp; with_reducible rfl); rotate_left; (simp only [Act.put, q1_, q2_, q3_, i64_w, i32_w]; rfl)
                  refine pure_ (i := 18) (N := some 122) (v := ?_) (a' := ?_) #[Y_, Y_, Y_, Y_, Y_, Y_, Y_, Y_, Y_, Y_, Y_, Y_, Y_, Y_, Y_, Y_, Y_, Y_, Y_, N_] rfl rfl (any_of HT_.out (by kernel_rfl)) (fun _ _ _ h => h) (Or.inl ⟨by rfl, ?_⟩) ?_ ?_
                  rotate_left; (intro w'; go_simp; with_reducible rfl); rotate_left; (simp only [Act.put, q1_, q2_, q3_, i64_w, i32_w]; rfl)
                  refine pure_ (i := 19) (N := some 14) (v := ?_) (a' := ?_) #[Y_, Y_, Y_, Y_, Y_, Y_, Y_, Y_, Y_, Y_, Y_, Y_, Y_, Y_, Y_, Y_, Y_, Y_, Y_, Y_] rfl rfl (any_of HT_.out (by kernel_rfl)) (fun _ _ _ h => h) (Or.inl ⟨by rfl, ?_⟩) ?_ ?_
                  rotate_left; (intro w'; go_simp; with_reducible rfl); rotate_left; (simp only [Act.put, q1_, q2_, q3_, i64_w, i32_w]; rfl)
                  refine done_ (done_of HT_.out (by kernel_rfl)) ?_
                  try go_wp2_with (first | ((with_reducible refine gate_callee (f := 44) rfl ?_); refine gl_ (some 124) Try.func44 #[.string ((((((⟨#[2]⟩ : ByteArray) ++ t567) ++ t568) ++ t569) ++ t570) ++ t559)] ?_; (with_reducible refine (Dig.hash_Sum.calls ((((((⟨#[2]⟩ : ByteArray) ++ t567) ++ t568) ++ t569) ++ t570) ++ t559) t571 _ A62.out).mono ?_); rintro e w79 ⟨rfl, hb⟩; refine ⟨_, rfl, ?_⟩; replace HO563 := Aside0.mk (Kd.R_below (br_ HO563.out) hb); replace HO566 := Aside0.mk (Kd.R_below (br_ HO566.out) hb); replace BK546 := Aside0.mk (bk_ BK546.out hb); replace BK547 := Aside0.mk (bk_ BK547.out hb); replace HB := Aside0.mk (below_step (bh_ HB.out) hb); (try clear hb)) | ((with_reducible refine gate_dst (N := 129) rfl ?_); (try (refine gate_guard (by rfl) ?_; dsimp only)); refine Kd.R_lit Kd.string _ 9 ?hg (N := 129) ?hd (xs := ([(((((⟨#[2]⟩ : ByteArray) ++ t567) ++ t568) ++ t569) ++ t570) ++ t559, (⟨#[0]⟩ : ByteArray) ++ t571] : List ByteArray)) (inner := [.string ((((((⟨#[2]⟩ : ByteArray) ++ t567) ++ t568) ++ t569) ++ t570) ++ t559), .string ((⟨#[0]⟩ : ByteArray) ++ t571)]) (ok := fun _ => True) (okp := fun _ => True) ?hr ?hp (fun _ hk => hk) trivial (Below.refl _ _) (Nat.le_refl _) (by simp) ?_; (case hd => rfl); (case hg => rfl); (case hr => first | (go_simp; done) | (go_simp; rfl)); (case hp => exact (Reps.one (show Kd.M Kd.string _ _ _ ((((((⟨#[2]⟩ : ByteArray) ++ t567) ++ t568) ++ t569) ++ t570) ++ t559) [.string ((((((⟨#[2]⟩ : ByteArray) ++ t567) ++ t568) ++ t569) ++ t570) ++ t559)] from rfl) (Reps.one (show Kd.M Kd.string _ _ _ ((⟨#[0]⟩ : ByteArray) ++ t571) [.string ((⟨#[0]⟩ : ByteArray) ++ t571)] from rfl) (Reps.none _ _)))); intro v573 w80 ho81 hb hg_ hnew_; clear hg_ hnew_; (first | rw [← Ny572.out] at ho81 | (simp only [Int.reduceToNat] at ho81; rw [← Ny572.out] at ho81)); have n0_ := Aside0.mk (Kd.R_elder' (br_ HO563.out) (Kd.R_base ho81) hb); have n1_ := Aside0.mk (Kd.R_elder' (br_ HO566.out) (Kd.R_base ho81) hb); have n2_ := Aside0.mk (Kd.R_lower (Kd.R_new' (Kd.R_new' ho81 (Kd.R_lt (br_ HO563.out))) (Kd.R_lt (br_ HO566.out))) (below_size (bh_ HB.out))); have n3_ := Aside0.mk (bk_ BK546.out hb); have n4_ := Aside0.mk (bk_ BK547.out hb); have n5_ := Aside0.mk (below_step (bh_ HB.out) hb); clear HO563; clear HO566; clear BK546; clear BK547; clear HB; have HO563 := n0_; have HO566 := n1_; have HO574 := n2_; have BK546 := n3_; have BK547 := n4_; have HB := n5_; clear n0_ n1_ n2_ n3_ n4_ n5_; clear hb ho81; obtain ⟨Ao83, co83, eo83⟩ := Kd.R_slice HO574.out; subst eo83) | ((with_reducible refine gate_builtin (b := .append) (xs := #[.tmp 125, .tmp 129]) rfl ?_); (try (refine gate_guard (by rfl) ?_; dsimp only)); at_builtin; refine Kd.R_append_rows Kd.string (w0 := w) w.heap.size rfl (.tmp 125) (.tmp 129) 51 9 (.string ⟨#[]⟩) 16 rfl Try.underlying51 info9 rfl (by decide) (by omega) v565 y564 y572 _ _ _ (fun k_ => some k_ ≠ (.slice Ao73 t560.length co73 : Value).ownBlock ∧ some k_ ≠ (.slice Ao83 y572.length co83 : Value).ownBlock) (fun _ => False) rfl rfl ?aO ?aR (fun _ _ h => h) (fun _ h => h.elim) ?aF ?aB ?aS ?aL ?_; (case aR => repeat (first | exact (Kd.R_reads' HO574.out).2.2 | (with_reducible refine Kd.C_alloc ?_ _) | (with_reducible refine Kd.C_drewN ?_ _) | (with_reducible refine Kd.C_drew ?_))); (case aB => exact (bh_ HB.out)); (case aF => exact (fun k_ hk => ⟨Kd.fresh' (Kd.R_lt (br_ HO563.out)) k_ hk, Kd.fresh' (Kd.R_lt (br_ HO574.out)) k_ hk⟩)); (case aO => exact (br_ HO566.out)); (case aS => exact (below_size (bh_ HB.out))); (case aL => have := LMc64.out; omega); intro v576 w82 ho hb hg hat; rw [← Ny575.out] at ho; have n0_ := Aside0.mk (blk_grown (g := gb546) (o := .cells #[.int .i64 a0_0, .string a0_1, .string a0_2, .int .u64 a0_3, .int .u64 a0_4, .string a0_5, .string a0_6, .bool a0_7] 47 (0, 0)) (bz_ BK546.out) hg (Kd.R_ne HO566.out BK546.out (by decide))); have n1_ := Aside0.mk (blk_grown (g := gb547) (o := .cells #[.int .u64 a1_0, .string a1_1, .int .u64 a1_2, .int .i64 a1_3, .int .i64 a1_4, .slice A1_5 l1_5.length c1_5, .slice A1_6 l1_6.length c1_6] 53 (0, 0)) (bz_ BK547.out) hg (Kd.R_ne HO566.out BK547.out (by decide))); have n2_ := Aside0.mk (Kd.R_after (ok := (fun k_ => some k_ ≠ (.slice Ao83 y572.length co83 : Value).ownBlock)) (by (with_reducible repeat (first | apply Kd.R_alloc | apply Kd.R_drewN | apply Kd.R_drew)); exact Kd.R_mono HO563.out (fun _ hk => ⟨hk.2, hk.1.2⟩)) hg hat); have n3_ := Aside0.mk (Kd.R_after (ok := (fun k_ => some k_ ≠ (.slice Ao73 t560.length co73 : Value).ownBlock)) (by (with_reducible repeat (first | apply Kd.R_alloc | apply Kd.R_drewN | apply Kd.R_drew)); exact Kd.R_mono HO574.out (fun _ hk => ⟨hk.1.2, hk.2⟩)) hg hat); have n4_ := Aside0.mk (hb); have n5_ := Aside0.mk (ho); clear BK546; clear BK547; clear HO563; clear HO574; clear HB; clear HO566; have BK546 := n0_; have BK547 := n1_; have HO563 := n2_; have HO574 := n3_; have HB := n4_; have HO577 := n5_; clear n0_ n1_ n2_ n3_ n4_ n5_; clear ho hb hg hat))
                  replace HO563 := Aside0.mk (Kd.R_drew HO563.out)
                  replace HO574 := Aside0.mk (Kd.R_drew HO574.out)
                  replace HO577 := Aside0.mk (Kd.R_drew HO577.out)
                  replace BK546 := Aside0.mk (blk_drew BK546.out)
                  replace BK547 := Aside0.mk (blk_drew BK547.out)
                  replace HB := Aside0.mk (below_drew1 HB.out)
                  refine start_ (n := 17) (S := fun w' => w'.cell? ⟨gb547, 0, none⟩ = some (.int .u64 a1_0) ∧ w'.cell? ⟨gb547, 1, none⟩ = some (.string a1_1) ∧ w'.cell? ⟨gb547, 2, none⟩ = some (.int .u64 a1_2) ∧ w'.cell? ⟨gb547, 3, none⟩ = some (.int .i64 a1_3) ∧ w'.cell? ⟨gb547, 4, none⟩ = some (.int .i64 a1_4) ∧ w'.cell? ⟨gb547, 5, none⟩ = some (.slice A1_5 l1_5.length c1_5) ∧ w'.cell? ⟨gb547, 6, none⟩ = some (.slice A1_6 l1_6.length c1_6)) (ds := []) #[N_, N_, N_, N_, N_, N_, N_, N_, N_, N_, N_, N_, N_, N_, N_, N_, N_] (by kernel_rfl) rfl rfl ⟨(blk_cell BK547.out 0).trans rfl, (blk_cell BK547.out 1).trans rfl, (blk_cell BK547.out 2).trans rfl, (blk_cell BK547.out 3).trans rfl, (blk_cell BK547.out 4).trans rfl, (blk_cell BK547.out 5).trans rfl, (blk_cell BK547.out 6).trans rfl⟩ (fun hHeld => ?_); refine with_tabW proof_steps.tab15 proof_steps.bits15 (fun HT_ HW_ => ?_)
                  generalize w82.drew = w84 at HO563 HO574 HO577 BK546 BK547 HB hHeld ⊢
                  refine pure_ (i := 0) (N := some 132) (v := ?_) (a' := ?_) #[Y_, N_, N_, N_, N_, N_, N_, N_, N_, N_, N_, N_, N_, N_, N_, N_, N_] rfl rfl (any_of HT_.out (by kernel_rfl)) (fun _ _ _ h => h) (Or.inl ⟨by rfl, ?_⟩) ?_ ?_
                  rotate_left; (intro w'; go_simp; with_reducible rfl); rotate_left; (simp only [Act.put, q1_, q2_, q3_, i64_w, i32_w]; rfl)
                  refine pure_ (i := 2) (N := some 134) (v := ?_) (a' := ?_) #[Y_, N_, Y_, N_, N_, N_, N_, N_, N_, N_, N_, N_, N_, N_, N_, N_, N_] rfl rfl (any_of HT_.out (by kernel_rfl)) (fun _ _ _ h => h) (Or.inl ⟨by rfl, ?_⟩) ?_ ?_
                  rotate_left; (intro w'; go_simp; with_reducible rfl); rotate_left; (simp only [Act.put, q1_, q2_, q3_, i64_w, i32_w]; rfl)
                  refine pure_ (i := 5) (N := some 137) (v := ?_) (a' := ?_) #[Y_, N_, Y_, N_, N_, Y_, N_, N_, N_, N_, N_, N_, N_, N_, N_, N_, N_] rfl rfl (any_of HT_.out (by kernel_rfl)) (fun _ _ _ h => h) (Or.inl ⟨by rfl, ?_⟩) ?_ ?_
                  rotate_left; (intro w'; go_simp; with_reducible rfl); rotate_left; (simp only [Act.put, q1_, q2_, q3_, i64_w, i32_w]; rfl)
                  refine pure_ (i := 6) (N := some 138) (v := ?_) (a' := ?_) #[Y_, N_, Y_, N_, N_, Y_, Y_, N_, N_, N_, N_, N_, N_, N_, N_, N_, N_] rfl rfl (any_of HT_.out (by kernel_rfl)) (fun _ _ _ h => h) (Or.inl ⟨by rfl, ?_⟩) ?_ ?_
                  rotate_left; (intro w'; go_simp; with_reducible rfl); rotate_left; (simp only [Act.put, q1_, q2_, q3_, i64_w, i32_w]; rfl)
                  refine pure_ (i := 7) (N := some 139) (v := ?_) (a' := ?_) #[Y_, N_, Y_, N_, N_, Y_, Y_, Y_, N_, N_, N_, N_, N_, N_, N_, N_, N_] rfl rfl (any_of HT_.out (by kernel_rfl)) (fun _ _ _ h => h) (Or.inl ⟨by rfl, ?_⟩) ?_ ?_
                  rotate_left; (intro w'; go_simp; with_reducible rfl); rotate_left; (simp only [Act.put, q1_, q2_, q3_, i64_w, i32_w]; rfl)
                  refine take_ (i := 3) (N := some 135) (v := ?_) (a' := ?_) #[Y_, N_, Y_, Y_, N_, Y_, Y_, Y_, N_, N_, N_, N_, N_, N_, N_, N_, N_] rfl rfl (take_ofW HT_.out HW_.out (by kernel_rfl)) (fun _ _ _ h => h) (Or.inl ⟨by rfl, ?_⟩) hHeld ?_ ?_
                  rotate_left; (rintro w' ⟨s0, s1, s2, s3, s4, s5, s6⟩; go_simp; with_reducible rfl); rotate_left; (simp only [Act.put, q1_, q2_, q3_, i64_w, i32_w]; rfl)
                  refine pure_ (i := 4) (N := some 136) (v := ?_) (a' := ?_) #[Y_, N_, Y_, Y_, Y_, Y_, Y_, Y_, N_, N_, N_, N_, N_, N_, N_, N_, N_] rfl rfl (any_of HT_.out (by kernel_rfl)) (fun _ _ _ h => h) (Or.inl ⟨by rfl, ?_⟩) ?_ ?_
                  rotate_left; (intro w'; go_simp; with_reducible rfl); rotate_left; (simp only [Act.put, q1_, q2_, q3_, i64_w, i32_w]; rfl)
                  refine take_ (i := 8) (N := some 140) (v := ?_) (a' := ?_) #[Y_, N_, Y_, Y_, Y_, Y_, Y_, Y_, Y_, N_, N_, N_, N_, N_, N_, N_, N_] rfl rfl (take_ofW HT_.out HW_.out (by kernel_rfl)) (fun _ _ _ h => h) (Or.inl ⟨by rfl, ?_⟩) hHeld ?_ ?_
                  rotate_left; (rintro w' ⟨s0, s1, s2, s3, s4, s5, s6⟩; go_simp; with_reducible rfl); rotate_left; (simp only [Act.put, q1_, q2_, q3_, i64_w, i32_w]; rfl)
                  refine one_ (i := 1) (N := some 133) #[Y_, Y_, Y_, Y_, Y_, Y_, Y_, Y_, Y_, N_, N_, N_, N_, N_, N_, N_, N_] rfl rfl (one_of HT_.out (by kernel_rfl)) (by decide) (fun K hK => ?_)
                  refine goes_ Try.func20 (by kernel_rfl) rfl #[.string t571] (by rfl) rfl rfl (by (try simp only [List.map_toArray, List.map_cons, List.map_nil]); first | done | rfl | (simp only [List.length_drop, List.length_take]; rfl)) ?_
                  with_reducible refine (hash_Leaf.calls t571 t578 _ A65.out).mono ?_
                  rintro e w85 ⟨rfl, hb⟩
                  refine ⟨_, rfl, ?_⟩
                  replace HO563 := Aside0.mk (Kd.R_below (br_ HO563.out) hb)
                  replace HO574 := Aside0.mk (Kd.R_below (br_ HO574.out) hb)
                  replace HO577 := Aside0.mk (Kd.R_below (br_ HO577.out) hb)
                  replace BK546 := Aside0.mk (bk_ BK546.out hb)
                  replace BK547 := Aside0.mk (bk_ BK547.out hb)
                  replace HB := Aside0.mk (below_step (bh_ HB.out) hb)
                  (try clear hb)
                  (try clear hb2)
                  (try clear hk)
                  (try clear hi)
                  refine hK.out _ _ ⟨(blk_cell BK547.out 0).trans rfl, (blk_cell BK547.out 1).trans rfl, (blk_cell BK547.out 2).trans rfl, (blk_cell BK547.out 3).trans rfl, (blk_cell BK547.out 4).trans rfl, (blk_cell BK547.out 5).trans rfl, (blk_cell BK547.out 6).trans rfl⟩ (fun hHeld => ?_)
                  clear hK K
                  refine norm_ (a' := ?_) ?_ ?_
                  rotate_left
                  ·show Act.put _ (some 133) _ = _
                   simp only [Act.put, q1_, q2_, q3_, i64_w, i32_w]
                   rfl
                  refine one_ (i := 9) (N := some 141) #[Y_, Y_, Y_, Y_, Y_, Y_, Y_, Y_, Y_, Y_, N_, N_, N_, N_, N_, N_, N_] rfl rfl (one_of HT_.out (by kernel_rfl)) (by decide) (fun K hK => ?_)
                  refine goes_ Try.func84 (by kernel_rfl) rfl #[.string t578, .int .i64 (wrap64 (a1_0)), .int .i64 (wrap64 (a2)), .slice A1_6 l1_6.length c1_6] (by rfl) rfl rfl (by (try simp only [List.map_toArray, List.map_cons, List.map_nil]); first | done | rfl | (simp only [List.length_drop, List.length_take]; rfl)) ?_
                  with_reducible refine (proof_climb.calls kj33 t578 (wrap64 (a1_0)) (wrap64 (a2)) _ _ l1_6 t579 t580 t581 _ ?side1 ?side2 A66.out).mono ?_
                  (case side1 => repeat (first | exact (Kd.C_below HR1_6.out HB.out) | (with_reducible refine Kd.C_alloc ?_ _) | (with_reducible refine Kd.C_drewN ?_ _) | (with_reducible refine Kd.C_drew ?_)))
                  (case side2 => exact HC1_6.out)
                  rintro e w86 ⟨v582, rfl, ho0, hb⟩
                  refine ⟨_, rfl, ?_⟩
                  have n0_ := Aside0.mk (Kd.R_elder' (br_ HO563.out) (Kd.R_base ho0) hb)
                  have n1_ := Aside0.mk (Kd.R_elder' (br_ HO574.out) (Kd.R_base ho0) hb)
                  have n2_ := Aside0.mk (Kd.R_elder' (br_ HO577.out) (Kd.R_base ho0) hb)
                  have n3_ := Aside0.mk (Kd.R_lower (Kd.R_new' (Kd.R_new' (Kd.R_new' ho0 (Kd.R_lt (br_ HO563.out))) (Kd.R_lt (br_ HO574.out))) (Kd.R_lt (br_ HO577.out))) (below_size (bh_ HB.out)))
                  have n4_ := Aside0.mk (bk_ BK546.out hb)
                  have n5_ := Aside0.mk (bk_ BK547.out hb)
                  have n6_ := Aside0.mk (below_step (bh_ HB.out) hb)
                  clear HO563
                  clear HO574
                  clear HO577
                  clear BK546
                  clear BK547
                  clear HB
                  have HO563 := n0_
                  have HO574 := n1_
                  have HO577 := n2_
                  have HO583 := n3_
                  have BK546 := n4_
                  have BK547 := n5_
                  have HB := n6_
                  clear n0_ n1_ n2_ n3_ n4_ n5_ n6_
                  (try clear hb)
                  (try clear hb2)
                  (try clear hk)
                  (try clear hi)
                  (try clear ho0)
                  refine hK.out _ _ ⟨(blk_cell BK547.out 0).trans rfl, (blk_cell BK547.out 1).trans rfl, (blk_cell BK547.out 2).trans rfl, (blk_cell BK547.out 3).trans rfl, (blk_cell BK547.out 4).trans rfl, (blk_cell BK547.out 5).trans rfl, (blk_cell BK547.out 6).trans rfl⟩ (fun hHeld => ?_)
                  clear hK K
                  refine norm_ (a' := ?_) ?_ ?_
                  rotate_left
                  ·show Act.put _ (some 141) _ = _
                   simp only [Act.put, q1_, q2_, q3_, i64_w, i32_w]
                   rfl
                  refine pure_ (i := 10) (N := some 131) (v := ?_) (a' := ?_) #[Y_, Y_, Y_, Y_, Y_, Y_, Y_, Y_, Y_, Y_, Y_, N_, N_, N_, N_, N_, N_] rfl rfl (any_of HT_.out (by kernel_rfl)) (fun _ _ _ h => h) (Or.inl ⟨by rfl, ?_⟩) ?_ ?_
                  rotate_left; (intro w'; go_simp; with_reducible rfl); rotate_left; (simp only [Act.put, q1_, q2_, q3_, i64_w, i32_w]; rfl)
                  refine pure_ (i := 11) (N := some 142) (v := ?_) (a' := ?_) #[Y_, Y_, Y_, Y_, Y_, Y_, Y_, Y_, Y_, Y_, Y_, Y_, N_, N_, N_, N_, N_] rfl rfl (any_of HT_.out (by kernel_rfl)) (fun _ _ _ h => h) (Or.inl ⟨by rfl, ?_⟩) ?_ ?_
                  rotate_left; (intro w'; go_simp; with_reducible rfl); rotate_left; (simp only [Act.put, q1_, q2_, q3_, i64_w, i32_w]; rfl)
                  refine pure_ (i := 12) (N := some 143) (v := ?_) (a' := ?_) #[Y_, Y_, Y_, Y_, Y_, Y_, Y_, Y_, Y_, Y_, Y_, Y_, Y_, N_, N_, N_, N_] rfl rfl (any_of HT_.out (by kernel_rfl)) (fun _ _ _ h => h) (Or.inl ⟨by rfl, ?_⟩) ?_ ?_
                  rotate_left; (intro w'; go_simp; with_reducible rfl); rotate_left; (simp only [Act.put, q1_, q2_, q3_, i64_w, i32_w]; rfl)
                  refine pure_ (i := 13) (N := some 144) (v := ?_) (a' := ?_) #[Y_, Y_, Y_, Y_, Y_, Y_, Y_, Y_, Y_, Y_, Y_, Y_, Y_, Y_, N_, N_, N_] rfl rfl (any_of HT_.out (by kernel_rfl)) (fun _ _ _ h => h) (Or.inl ⟨by rfl, ?_⟩) ?_ ?_
                  rotate_left; (intro w'; go_simp; with_reducible rfl); rotate_left; (simp only [Act.put, q1_, q2_, q3_, i64_w, i32_w]; rfl)
                  refine pure_ (i := 14) (N := some 16) (v := ?_) (a' := ?_) #[Y_, Y_, Y_, Y_, Y_, Y_, Y_, Y_, Y_, Y_, Y_, Y_, Y_, Y_, Y_, N_, N_] rfl rfl (any_of HT_.out (by kernel_rfl)) (fun _ _ _ h => h) (Or.inl ⟨by rfl, ?_⟩) ?_ ?_
                  rotate_left; (intro w'; go_simp; with_reducible rfl); rotate_left; (simp only [Act.put, q1_, q2_, q3_, i64_w, i32_w]; rfl)
                  refine pure_ (i := 15) (N := some 12) (v := ?_) (a' := ?_) #[Y_, Y_, Y_, Y_, Y_, Y_, Y_, Y_, Y_, Y_, Y_, Y_, Y_, Y_, Y_, Y_, N_] rfl rfl (any_of HT_.out (by kernel_rfl)) (fun _ _ _ h => h) (Or.inl ⟨by rfl, ?_⟩) ?_ ?_
                  rotate_left; (intro w'; go_simp; with_reducible rfl); rotate_left; (simp only [Act.put, q1_, q2_, q3_, i64_w, i32_w]; rfl)
                  refine pure_ (i := 16) (N := some 13) (v := ?_) (a' := ?_) #[Y_, Y_, Y_, Y_, Y_, Y_, Y_, Y_, Y_, Y_, Y_, Y_, Y_, Y_, Y_, Y_, Y_] rfl rfl (any_of HT_.out (by kernel_rfl)) (fun _ _ _ h => h) (Or.inl ⟨by rfl, ?_⟩) ?_ ?_
                  rotate_left; (intro w'; go_simp; with_reducible rfl); rotate_left; (simp only [Act.put, q1_, q2_, q3_, i64_w, i32_w]; rfl)
                  refine done_ (done_of HT_.out (by kernel_rfl)) ?_
                  obtain ⟨Ao88, co88, eo88⟩ := Kd.R_slice HO583.out
                  subst eo88
                  try go_wp2_with (first | ((with_reducible refine gate_builtin (b := .append) (xs := #[.tmp 146, .tmp 147]) rfl ?_); (try (refine gate_guard (by rfl) ?_; dsimp only)); at_builtin; refine Kd.R_append_rows Kd.string (w0 := w) w.heap.size rfl (.tmp 146) (.tmp 147) 51 9 (.string ⟨#[]⟩) 16 rfl Try.underlying51 info9 rfl (by decide) (by omega) v576 y575 t580 _ _ _ (fun k_ => some k_ ≠ (.slice Ao73 t560.length co73 : Value).ownBlock ∧ some k_ ≠ (.slice Ao83 y572.length co83 : Value).ownBlock ∧ some k_ ≠ (.slice Ao88 t580.length co88 : Value).ownBlock) (fun _ => False) rfl rfl ?aO ?aR (fun _ _ h => h) (fun _ h => h.elim) ?aF ?aB ?aS ?aL ?_; (case aR => repeat (first | exact (Kd.R_reads' HO583.out).2.2 | (with_reducible refine Kd.C_alloc ?_ _) | (with_reducible refine Kd.C_drewN ?_ _) | (with_reducible refine Kd.C_drew ?_))); (case aB => exact (bh_ HB.out)); (case aF => exact (fun k_ hk => ⟨Kd.fresh' (Kd.R_lt (br_ HO563.out)) k_ hk, Kd.fresh' (Kd.R_lt (br_ HO574.out)) k_ hk, Kd.fresh' (Kd.R_lt (br_ HO583.out)) k_ hk⟩)); (case aO => exact (by (with_reducible repeat (first | apply Kd.R_alloc | apply Kd.R_drewN | apply Kd.R_drew)); exact Kd.R_mono HO577.out (fun _ hk => ⟨hk.1.1, ⟨hk.1.2, hk.2⟩⟩))); (case aS => exact (below_size (bh_ HB.out))); (case aL => have := LMc67.out; omega); intro v585 w87 ho hb hg hat; rw [← Ny584.out] at ho; have n0_ := Aside0.mk (blk_grown (g := gb546) (o := .cells #[.int .i64 a0_0, .string a0_1, .string a0_2, .int .u64 a0_3, .int .u64 a0_4, .string a0_5, .string a0_6, .bool a0_7] 47 (0, 0)) (bz_ BK546.out) hg (Kd.R_ne HO577.out BK546.out (by decide))); have n1_ := Aside0.mk (blk_grown (g := gb547) (o := .cells #[.int .u64 a1_0, .string a1_1, .int .u64 a1_2, .int .i64 a1_3, .int .i64 a1_4, .slice A1_5 l1_5.length c1_5, .slice A1_6 l1_6.length c1_6] 53 (0, 0)) (bz_ BK547.out) hg (Kd.R_ne HO577.out BK547.out (by decide))); have n2_ := Aside0.mk (Kd.R_after (ok := (fun k_ => some k_ ≠ (.slice Ao83 y572.length co83 : Value).ownBlock ∧ some k_ ≠ (.slice Ao88 t580.length co88 : Value).ownBlock)) (by (with_reducible repeat (first | apply Kd.R_alloc | apply Kd.R_drewN | apply Kd.R_drew)); exact Kd.R_mono HO563.out (fun _ hk => ⟨⟨hk.1.1, hk.2⟩, hk.1.2⟩)) hg hat); have n3_ := Aside0.mk (Kd.R_after (ok := (fun k_ => some k_ ≠ (.slice Ao73 t560.length co73 : Value).ownBlock ∧ some k_ ≠ (.slice Ao88 t580.length co88 : Value).ownBlock)) (by (with_reducible repeat (first | apply Kd.R_alloc | apply Kd.R_drewN | apply Kd.R_drew)); exact Kd.R_mono HO574.out (fun _ hk => ⟨⟨hk.1.1, hk.2⟩, hk.1.2⟩)) hg hat); have n4_ := Aside0.mk (Kd.R_after (ok := (fun k_ => some k_ ≠ (.slice Ao73 t560.length co73 : Value).ownBlock ∧ some k_ ≠ (.slice Ao83 y572.length co83 : Value).ownBlock)) (by (with_reducible repeat (first | apply Kd.R_alloc | apply Kd.R_drewN | apply Kd.R_drew)); exact Kd.R_mono HO583.out (fun _ hk => ⟨⟨hk.1.1.2, hk.1.2⟩, hk.2⟩)) hg hat); have n5_ := Aside0.mk (hb); have n6_ := Aside0.mk (ho); clear BK546; clear BK547; clear HO563; clear HO574; clear HO583; clear HB; clear HO577; have BK546 := n0_; have BK547 := n1_; have HO563 := n2_; have HO574 := n3_; have HO583 := n4_; have HB := n5_; have HO586 := n6_; clear n0_ n1_ n2_ n3_ n4_ n5_ n6_; clear ho hb hg hat))
                  go_ret3
                  exact ⟨_, by first | rfl | (simp [errW_none, errW_some] <;> rfl) | (simp [*, errW_none, errW_some] <;> rfl), by (with_reducible repeat (first | apply Kd.R_alloc | apply Kd.R_drewN | apply Kd.R_drew)); exact Kd.R_mono HO586.out (fun _ hk => trivial), by repeat (first | (with_reducible first | exact HB.out | apply below_alloc | apply pw_below_drewN | apply below_drew1 | refine below_set ?_ GE546.out | refine below_set ?_ GE547.out) | exact HB.out)⟩
                 ·rw [if_neg c67] at H
                  exact absurd H (by simp)
                ·rw [if_neg c64] at H
                 exact absurd H (by simp)
               ·rw [if_neg c63] at H
                exact absurd H (by simp)
              ·rw [if_neg c61] at H
               exact absurd H (by simp)
             ·rw [if_neg c60] at H
              exact absurd H (by simp)
            ·rw [if_neg c58] at H
             exact absurd H (by simp)
           ·rw [if_neg c56] at H
            exact absurd H (by simp)
          ·rw [if_neg c54] at H
           exact absurd H (by simp)
         ·rw [if_neg c52] at H
          exact absurd H (by simp)
        ·replace c51 := Bool.eq_false_iff.mpr c51
         subst c51
         have H1 : (some ((⟨#[]⟩ : ByteArray), ([] : List ByteArray), false)) = some (r1, r2, r3) := by rw [if_neg (show ¬ (false = true) by decide)] at H; exact H
         clear H
         have H := H1
         clear H1
         simp only [Option.some.injEq, Prod.mk.injEq] at H
         obtain ⟨rfl, rfl, rfl⟩ := H
         try go_wp2_with (first | ((with_reducible refine gate_builtin (b := .append) (xs := #[.tmp 81, .tmp 84]) rfl ?_); (try (refine gate_guard (by rfl) ?_; dsimp only)); at_builtin; refine Kd.R_append Kd.string (w0 := w) w.heap.size rfl (.tmp 81) (.tmp 84) 51 9 (.string ⟨#[]⟩) 16 rfl Try.underlying51 info9 rfl (by decide) (by omega) u10 x10_33 ((⟨#[0]⟩ : ByteArray) ++ t548) [.string ((⟨#[0]⟩ : ByteArray) ++ t548)] (fun _ => True) (fun _ => False) rfl rfl ?aP (fun _ hk => hk.elim) ?aF ?aO ?aB ?aS ?aL ?_; (case aP => exact rfl); (case aB => exact (bh_ HB.out)); (case aF => exact (fun _ _ => trivial)); (case aO => exact (br_ HO_10.out)); (case aS => exact (below_size (bh_ HB.out))); (case aL => have := LMc48.out; omega); intro v556 w89 ho hb hg hat; rw [← Ny555.out] at ho; have n0_ := Aside0.mk (blk_grown (g := gb546) (o := .cells #[.int .i64 a0_0, .string a0_1, .string a0_2, .int .u64 a0_3, .int .u64 a0_4, .string a0_5, .string a0_6, .bool a0_7] 47 (0, 0)) (bz_ BK546.out) hg (Kd.R_ne HO_10.out BK546.out (by decide))); have n1_ := Aside0.mk (blk_grown (g := gb547) (o := .cells #[.int .u64 a1_0, .string a1_1, .int .u64 a1_2, .int .i64 a1_3, .int .i64 a1_4, .slice A1_5 l1_5.length c1_5, .slice A1_6 l1_6.length c1_6] 53 (0, 0)) (bz_ BK547.out) hg (Kd.R_ne HO_10.out BK547.out (by decide))); have n2_ := Aside0.mk (hb); have n3_ := Aside0.mk (ho); clear BK546; clear BK547; clear HB; clear HO_10; have BK546 := n0_; have BK547 := n1_; have HB := n2_; have HO557 := n3_; clear n0_ n1_ n2_ n3_; clear ho hb hg hat))
         replace HO557 := Aside0.mk (Kd.R_drew HO557.out)
         replace BK546 := Aside0.mk (blk_drew BK546.out)
         replace BK547 := Aside0.mk (blk_drew BK547.out)
         replace HB := Aside0.mk (below_drew1 HB.out)
         refine start_ (n := 16) (S := fun w' => w'.cell? ⟨gb547, 0, none⟩ = some (.int .u64 a1_0) ∧ w'.cell? ⟨gb547, 1, none⟩ = some (.string a1_1) ∧ w'.cell? ⟨gb547, 2, none⟩ = some (.int .u64 a1_2) ∧ w'.cell? ⟨gb547, 3, none⟩ = some (.int .i64 a1_3) ∧ w'.cell? ⟨gb547, 4, none⟩ = some (.int .i64 a1_4) ∧ w'.cell? ⟨gb547, 5, none⟩ = some (.slice A1_5 l1_5.length c1_5) ∧ w'.cell? ⟨gb547, 6, none⟩ = some (.slice A1_6 l1_6.length c1_6)) (ds := []) #[N_, N_, N_, N_, N_, N_, N_, N_, N_, N_, N_, N_, N_, N_, N_, N_] (by kernel_rfl) rfl rfl ⟨(blk_cell BK547.out 0).trans rfl, (blk_cell BK547.out 1).trans rfl, (blk_cell BK547.out 2).trans rfl, (blk_cell BK547.out 3).trans rfl, (blk_cell BK547.out 4).trans rfl, (blk_cell BK547.out 5).trans rfl, (blk_cell BK547.out 6).trans rfl⟩ (fun hHeld => ?_); refine with_tabW proof_steps.tab8 proof_steps.bits8 (fun HT_ HW_ => ?_)
         generalize w89.drew = w90 at HO557 BK546 BK547 HB hHeld ⊢
         refine pure_ (i := 0) (N := some 87) (v := ?_) (a' := ?_) #[Y_, N_, N_, N_, N_, N_, N_, N_, N_, N_, N_, N_, N_, N_, N_, N_] rfl rfl (any_of HT_.out (by kernel_rfl)) (fun _ _ _ h => h) (Or.inl ⟨by rfl, ?_⟩) ?_ ?_
         rotate_left; (intro w'; go_simp; with_reducible rfl); rotate_left; (simp only [Act.put, q1_, q2_, q3_, i64_w, i32_w]; rfl)
         refine pure_ (i := 2) (N := some 89) (v := ?_) (a' := ?_) #[Y_, N_, Y_, N_, N_, N_, N_, N_, N_, N_, N_, N_, N_, N_, N_, N_] rfl rfl (any_of HT_.out (by kernel_rfl)) (fun _ _ _ h => h) (Or.inl ⟨by rfl, ?_⟩) ?_ ?_
         rotate_left; (intro w'; go_simp; with_reducible rfl); rotate_left; (simp only [Act.put, q1_, q2_, q3_, i64_w, i32_w]; rfl)
         refine pure_ (i := 4) (N := some 91) (v := ?_) (a' := ?_) #[Y_, N_, Y_, N_, Y_, N_, N_, N_, N_, N_, N_, N_, N_, N_, N_, N_] rfl rfl (any_of HT_.out (by kernel_rfl)) (fun _ _ _ h => h) (Or.inl ⟨by rfl, ?_⟩) ?_ ?_
         rotate_left; (intro w'; go_simp; with_reducible rfl); rotate_left; (simp only [Act.put, q1_, q2_, q3_, i64_w, i32_w]; rfl)
         refine pure_ (i := 6) (N := some 93) (v := ?_) (a' := ?_) #[Y_, N_, Y_, N_, Y_, N_, Y_, N_, N_, N_, N_, N_, N_, N_, N_, N_] rfl rfl (any_of HT_.out (by kernel_rfl)) (fun _ _ _ h => h) (Or.inl ⟨by rfl, ?_⟩) ?_ ?_
         rotate_left; (intro w'; go_simp; with_reducible rfl); rotate_left; (simp only [Act.put, q1_, q2_, q3_, i64_w, i32_w]; rfl)
         refine take_ (i := 3) (N := some 90) (v := ?_) (a' := ?_) #[Y_, N_, Y_, Y_, Y_, N_, Y_, N_, N_, N_, N_, N_, N_, N_, N_, N_] rfl rfl (take_ofW HT_.out HW_.out (by kernel_rfl)) (fun _ _ _ h => h) (Or.inl ⟨by rfl, ?_⟩) hHeld ?_ ?_
         rotate_left; (rintro w' ⟨s0, s1, s2, s3, s4, s5, s6⟩; go_simp; with_reducible rfl); rotate_left; (simp only [Act.put, q1_, q2_, q3_, i64_w, i32_w]; rfl)
         refine take_ (i := 5) (N := some 92) (v := ?_) (a' := ?_) #[Y_, N_, Y_, Y_, Y_, Y_, Y_, N_, N_, N_, N_, N_, N_, N_, N_, N_] rfl rfl (take_ofW HT_.out HW_.out (by kernel_rfl)) (fun _ _ _ h => h) (Or.inl ⟨by rfl, ?_⟩) hHeld ?_ ?_
         rotate_left; (rintro w' ⟨s0, s1, s2, s3, s4, s5, s6⟩; go_simp; with_reducible rfl); rotate_left; (simp only [Act.put, q1_, q2_, q3_, i64_w, i32_w]; rfl)
         refine take_ (i := 7) (N := some 94) (v := ?_) (a' := ?_) #[Y_, N_, Y_, Y_, Y_, Y_, Y_, Y_, N_, N_, N_, N_, N_, N_, N_, N_] rfl rfl (take_ofW HT_.out HW_.out (by kernel_rfl)) (fun _ _ _ h => h) (Or.inl ⟨by rfl, ?_⟩) hHeld ?_ ?_
         rotate_left; (rintro w' ⟨s0, s1, s2, s3, s4, s5, s6⟩; go_simp; with_reducible rfl); rotate_left; (simp only [Act.put, q1_, q2_, q3_, i64_w, i32_w]; rfl)
         refine one_ (i := 1) (N := some 88) #[Y_, Y_, Y_, Y_, Y_, Y_, Y_, Y_, N_, N_, N_, N_, N_, N_, N_, N_] rfl rfl (one_of HT_.out (by kernel_rfl)) (by decide) (fun K hK => ?_)
         refine goes_ Try.func20 (by kernel_rfl) rfl #[.string t548] (by rfl) rfl rfl (by (try simp only [List.map_toArray, List.map_cons, List.map_nil]); first | done | rfl | (simp only [List.length_drop, List.length_take]; rfl)) ?_
         with_reducible refine (hash_Leaf.calls t548 t558 _ A49.out).mono ?_
         rintro e w91 ⟨rfl, hb⟩
         refine ⟨_, rfl, ?_⟩
         replace HO557 := Aside0.mk (Kd.R_below (br_ HO557.out) hb)
         replace BK546 := Aside0.mk (bk_ BK546.out hb)
         replace BK547 := Aside0.mk (bk_ BK547.out hb)
         replace HB := Aside0.mk (below_step (bh_ HB.out) hb)
         (try clear hb)
         (try clear hb2)
         (try clear hk)
         (try clear hi)
         refine hK.out _ _ ⟨(blk_cell BK547.out 0).trans rfl, (blk_cell BK547.out 1).trans rfl, (blk_cell BK547.out 2).trans rfl, (blk_cell BK547.out 3).trans rfl, (blk_cell BK547.out 4).trans rfl, (blk_cell BK547.out 5).trans rfl, (blk_cell BK547.out 6).trans rfl⟩ (fun hHeld => ?_)
         clear hK K
         refine norm_ (a' := ?_) ?_ ?_
         rotate_left
         ·show Act.put _ (some 88) _ = _
          simp only [Act.put, q1_, q2_, q3_, i64_w, i32_w]
          rfl
         refine one_ (i := 8) (N := some 95) #[Y_, Y_, Y_, Y_, Y_, Y_, Y_, Y_, Y_, N_, N_, N_, N_, N_, N_, N_] rfl rfl (one_of HT_.out (by kernel_rfl)) (by decide) (fun K hK => ?_)
         refine goes_ Try.func84 (by kernel_rfl) rfl #[.string t558, .int .i64 a1_3, .int .i64 a1_4, .slice A1_5 l1_5.length c1_5] (by rfl) rfl rfl (by (try simp only [List.map_toArray, List.map_cons, List.map_nil]); first | done | rfl | (simp only [List.length_drop, List.length_take]; rfl)) ?_
         with_reducible refine (proof_climb.calls kj33 t558 a1_3 a1_4 _ _ l1_5 t559 t560 false _ ?side1 ?side2 A50.out).mono ?_
         (case side1 => repeat (first | exact (Kd.C_below HR1_5.out HB.out) | (with_reducible refine Kd.C_alloc ?_ _) | (with_reducible refine Kd.C_drewN ?_ _) | (with_reducible refine Kd.C_drew ?_)))
         (case side2 => exact HC1_5.out)
         rintro e w92 ⟨v562, rfl, ho0, hb⟩
         refine ⟨_, rfl, ?_⟩
         have n0_ := Aside0.mk (Kd.R_elder' (br_ HO557.out) (Kd.R_base ho0) hb)
         have n1_ := Aside0.mk (Kd.R_lower (Kd.R_new' ho0 (Kd.R_lt (br_ HO557.out))) (below_size (bh_ HB.out)))
         have n2_ := Aside0.mk (bk_ BK546.out hb)
         have n3_ := Aside0.mk (bk_ BK547.out hb)
         have n4_ := Aside0.mk (below_step (bh_ HB.out) hb)
         clear HO557
         clear BK546
         clear BK547
         clear HB
         have HO557 := n0_
         have HO563 := n1_
         have BK546 := n2_
         have BK547 := n3_
         have HB := n4_
         clear n0_ n1_ n2_ n3_ n4_
         (try clear hb)
         (try clear hb2)
         (try clear hk)
         (try clear hi)
         (try clear ho0)
         refine hK.out _ _ ⟨(blk_cell BK547.out 0).trans rfl, (blk_cell BK547.out 1).trans rfl, (blk_cell BK547.out 2).trans rfl, (blk_cell BK547.out 3).trans rfl, (blk_cell BK547.out 4).trans rfl, (blk_cell BK547.out 5).trans rfl, (blk_cell BK547.out 6).trans rfl⟩ (fun hHeld => ?_)
         clear hK K
         refine norm_ (a' := ?_) ?_ ?_
         rotate_left
         ·show Act.put _ (some 95) _ = _
          simp only [Act.put, q1_, q2_, q3_, i64_w, i32_w]
          rfl
         refine pure_ (i := 9) (N := some 86) (v := ?_) (a' := ?_) #[Y_, Y_, Y_, Y_, Y_, Y_, Y_, Y_, Y_, Y_, N_, N_, N_, N_, N_, N_] rfl rfl (any_of HT_.out (by kernel_rfl)) (fun _ _ _ h => h) (Or.inl ⟨by rfl, ?_⟩) ?_ ?_
         rotate_left; (intro w'; go_simp; with_reducible rfl); rotate_left; (simp only [Act.put, q1_, q2_, q3_, i64_w, i32_w]; rfl)
         refine pure_ (i := 10) (N := some 96) (v := ?_) (a' := ?_) #[Y_, Y_, Y_, Y_, Y_, Y_, Y_, Y_, Y_, Y_, Y_, N_, N_, N_, N_, N_] rfl rfl (any_of HT_.out (by kernel_rfl)) (fun _ _ _ h => h) (Or.inl ⟨by rfl, ?_⟩) ?_ ?_
         rotate_left; (intro w'; go_simp; with_reducible rfl); rotate_left; (simp only [Act.put, q1_, q2_, q3_, i64_w, i32_w]; rfl)
         refine pure_ (i := 11) (N := some 97) (v := ?_) (a' := ?_) #[Y_, Y_, Y_, Y_, Y_, Y_, Y_, Y_, Y_, Y_, Y_, Y_, N_, N_, N_, N_] rfl rfl (any_of HT_.out (by kernel_rfl)) (fun _ _ _ h => h) (Or.inl ⟨by rfl, ?_⟩) ?_ ?_
         rotate_left; (intro w'; go_simp; with_reducible rfl); rotate_left; (simp only [Act.put, q1_, q2_, q3_, i64_w, i32_w]; rfl)
         refine pure_ (i := 12) (N := some 98) (v := ?_) (a' := ?_) #[Y_, Y_, Y_, Y_, Y_, Y_, Y_, Y_, Y_, Y_, Y_, Y_, Y_, N_, N_, N_] rfl rfl (any_of HT_.out (by kernel_rfl)) (fun _ _ _ h => h) (Or.inl ⟨by rfl, ?_⟩) ?_ ?_
         rotate_left; (intro w'; go_simp; with_reducible rfl); rotate_left; (simp only [Act.put, q1_, q2_, q3_, i64_w, i32_w]; rfl)
         refine pure_ (i := 13) (N := some 11) (v := ?_) (a' := ?_) #[Y_, Y_, Y_, Y_, Y_, Y_, Y_, Y_, Y_, Y_, Y_, Y_, Y_, Y_, N_, N_] rfl rfl (any_of HT_.out (by kernel_rfl)) (fun _ _ _ h => h) (Or.inl ⟨by rfl, ?_⟩) ?_ ?_
         rotate_left; (intro w'; go_simp; with_reducible rfl); rotate_left; (simp only [Act.put, q1_, q2_, q3_, i64_w, i32_w]; rfl)
         refine pure_ (i := 14) (N := some 12) (v := ?_) (a' := ?_) #[Y_, Y_, Y_, Y_, Y_, Y_, Y_, Y_, Y_, Y_, Y_, Y_, Y_, Y_, Y_, N_] rfl rfl (any_of HT_.out (by kernel_rfl)) (fun _ _ _ h => h) (Or.inl ⟨by rfl, ?_⟩) ?_ ?_
         rotate_left; (intro w'; go_simp; with_reducible rfl); rotate_left; (simp only [Act.put, q1_, q2_, q3_, i64_w, i32_w]; rfl)
         refine pure_ (i := 15) (N := some 13) (v := ?_) (a' := ?_) #[Y_, Y_, Y_, Y_, Y_, Y_, Y_, Y_, Y_, Y_, Y_, Y_, Y_, Y_, Y_, Y_] rfl rfl (any_of HT_.out (by kernel_rfl)) (fun _ _ _ h => h) (Or.inl ⟨by rfl, ?_⟩) ?_ ?_
         rotate_left; (intro w'; go_simp; with_reducible rfl); rotate_left; (simp only [Act.put, q1_, q2_, q3_, i64_w, i32_w]; rfl)
         refine done_ (done_of HT_.out (by kernel_rfl)) ?_
         try go_wp2
         go_ret3
         exact ⟨_, by first | rfl | (simp [errW_none, errW_some] <;> rfl) | (simp [*, errW_none, errW_some] <;> rfl), by first | exact Kd.R_nil _ _ _ _ _ | exact Kd.N_nil _ _ _ _ _ | exact Kd.V_nil _ _ _ _ _ | exact Kd.Q_nil _ _ _ _ _ | exact Kd.S_nil _ _ _ _ _, by repeat (first | (with_reducible first | exact HB.out | apply below_alloc | apply pw_below_drewN | apply below_drew1 | refine below_set ?_ GE546.out | refine below_set ?_ GE547.out) | exact HB.out)⟩
       ·rw [if_neg c48] at H
        exact absurd H (by simp)
      ·rw [if_neg c47] at H
       exact absurd H (by simp)
end Go.Proofs.Ytdcbacbilncnnaa.PMk
end
