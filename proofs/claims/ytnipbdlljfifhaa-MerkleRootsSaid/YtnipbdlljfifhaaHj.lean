/- The reference's Sum. -/
/- The two digests, in the printed form. -/
import Derived.Test.YtnipbdlljfifhaaHh
import Derived.Great.BuildSlice
set_option linter.unusedVariables false
set_option linter.unusedSimpArgs false
namespace Go.Proofs.Ytnipbdlljfifhaa.H
open Go.RowKit Go.Proofs.Ytnipbdlljfifhaa.Sha Go.Proofs.YtnipbdlljfifhaaW.PrintWords Go.Proofs.YtnipbdlljfifhaaW.PrintLast

/-- How many noughts stand behind. -/
def nz (n : Nat) : Nat := (119 - n % 64) % 64
theorem nz_le (n : Nat) : nz n < 64 := Nat.mod_lt _ (by decide)
theorem nz_is (n j : Nat) (h : j ≤ nz n) : (n + 1 + j) % 64 = 56 ↔ j = nz n := by
  unfold nz at *
  omega
theorem nz_pad (n : Nat) : pad n = 128 :: (List.replicate (nz n) 0 ++ bits8 n) := rfl
def footL (n i : Nat) : List UInt8 := ((List.range i).map fun k => UInt8.ofNat (n * 8 / 2 ^ (8 * k))).reverse
theorem footL_8 (n : Nat) : footL n 8 = bits8 n := rfl

theorem footL_len (n i : Nat) : (footL n i).length = i := by simp [footL]
theorem footL_succ (n i : Nat) : footL n (i + 1) = UInt8.ofNat (n * 8 / 2 ^ (8 * i)) :: footL n i := by
  unfold footL
  rw [List.range_succ, List.map_append, List.reverse_append]
  rfl
theorem be_at (x : UInt32) : be x = [UInt8.ofNat (x.toNat / 2 ^ 24), UInt8.ofNat (x.toNat / 2 ^ 16), UInt8.ofNat (x.toNat / 2 ^ 8), UInt8.ofNat (x.toNat / 2 ^ 0)] := by
  apply (List.map_inj_right fun a b hab => UInt8.toNat_inj.1 hab).1
  rw [be_nat]
  simp only [List.map_cons, List.map_nil, UInt8.toNat_ofNat']
  rw [Nat.pow_zero, Nat.div_one]
  rfl
def outF (x : St) (i : Nat) : UInt8 := UInt8.ofNat ((at_ x.l (i / 4)).toNat / 2 ^ (24 - i % 4 * 8))
theorem out_map (x : St) : out x = (List.range 32).map (outF x) := by
  unfold out
  simp only [St.l, List.flatMap_cons, List.flatMap_nil, be_at]
  rfl
theorem out_take (x : St) (i : Nat) (h : i < 32) : (out x).take (i + 1) = (out x).take i ++ [outF x i] := by
  have hl : (out x).length = 32 := by rw [out_map]; simp
  rw [List.take_succ_eq_append_getElem (by omega)]
  congr 2
  simp only [out_map, List.getElem_map, List.getElem_range]
theorem us_size8 (x : St) : (us x.l).size = 8 := rfl
theorem one_byte (w : World) (b : Int) : (convert 61 9 (.slice (some ⟨w.heap.size, 0, none⟩) 1 1)).run Try.prog (w.alloc (.cells #[.int .u8 b] 5)) = .ok (.string (strOfNums [b])) (w.alloc (.cells #[.int .u8 b] 5)) :=
  own_string (P := Try.prog) (src := 61) (dst := 9) (base := w.heap.size) (e' := 5) (n := 1) (xs := [b]) Try.underlying61 Try.underlying5 Try.underlying9 ⟨rfl, .inr ⟨w.heap.size, 1, #[.int .u8 b], rfl, Nat.le_refl _, heap_alloc_last w _, Nat.le_refl _, by decide, rfl, rfl⟩⟩
theorem one_str (q : Nat) : strOfNums [(q : Int) % 256] = ⟨#[UInt8.ofNat q]⟩ := by
  have h := strOf_byts [UInt8.ofNat q]
  have e : byts [UInt8.ofNat q] = [(q : Int) % 256] := by
    show [((UInt8.ofNat q).toNat : Int)] = _
    rw [UInt8.toNat_ofNat']
    rfl
  rw [e] at h
  exact h
theorem one_byteq (w : World) (q : Nat) : (convert 61 9 (.slice (some ⟨w.heap.size, 0, none⟩) 1 1)).run Try.prog (w.alloc (.cells #[.int .u8 ((q : Int) % 256)] 5)) = .ok (.string ⟨#[UInt8.ofNat q]⟩) (w.alloc (.cells #[.int .u8 ((q : Int) % 256)] 5)) := by rw [one_byte, one_str]
set_option maxHeartbeats 4000000 in
set_option maxRecDepth 100000 in
theorem refSum_any (s : ByteArray) (w : World) (hs : s.size < 1152921504606846976) : Calls Try.prog 32 #[.string s] w fun e w' => e = .returned (.string ⟨(sum s.toList).toArray⟩) ∧ Below w.heap.size w w' := by
  have HS := Lib.hid hs
  have h1 : (9223372036854775807 < s.size + 1) = False := eq_false (by omega)
  clear hs
  go_enter Try.func32, Try.ntmps32
  go_wp2_with fail
  have e8 : IntKind.u64.wrap (IntKind.u64.wrap (s.size : Int) * 8) = ((s.size * 8 : Nat) : Int) := by
    have := HS.out
    simp [IntKind.wrap, IntKind.bits, IntKind.signed]
    omega
  rw [e8]
  clear e8 h1
  obtain ⟨n, hn⟩ : ∃ n, s.size = n := ⟨_, rfl⟩
  have HSN := Lib.hid hn
  have HN : Hid (n < 1152921504606846976) := Lib.hid (by rw [← hn]; exact HS.out)
  have hX0 : (s ++ (⟨#[128]⟩ : ByteArray)).toList = s.toList ++ 128 :: List.replicate 0 0 := by
    rw [ByteArray.toList_eq, ByteArray.data_append, Array.toList_append, ← ByteArray.toList_eq]
    rfl
  rw [hn]
  clear hn
  generalize hX : (s ++ (⟨#[128]⟩ : ByteArray)) = X0 at hX0 ⊢
  clear hX
  go_loopw [0] (fun v wr => ∃ (j : Nat) (X : ByteArray), v = .string X ∧ Hid (j ≤ nz n) ∧ Hid (X.toList = s.toList ++ 128 :: List.replicate j 0) ∧ wr = w) (fun v _ => match v with | .string b => nz n + n + 1 - b.size | _ => 0)
  case atStart => exact ⟨0, X0, rfl, Lib.hid (Nat.zero_le _), Lib.hid hX0, rfl⟩
  case round =>
    clear hX0
    obtain ⟨j, X, rfl, hj, hX, rfl⟩ := hrel
    obtain ⟨w, hw⟩ : ∃ w, w = wr := ⟨_, rfl⟩
    subst hw
    have hsz : X.size = n + 1 + j := by
      have h := congrArg List.length hX.out
      rw [size_toList, List.length_append, size_toList, List.length_cons, List.length_replicate] at h
      have := HSN.out
      omega
    by_cases hlt : j = nz n
    · have t0 : ((X.size : Int) % 64 != 56) = false := by
        have h := (nz_is n j hj.out).2 hlt
        have e : ((X.size : Int) % 64) = 56 := by rw [hsz]; omega
        rw [e]; rfl
      have HZ := Lib.hid hsz
      have HL := Lib.hid hlt
      clear hsz hlt
      go_wp2_with fail
      go_loopw [3, 4, 5] (fun a3 a4 a5 w2 => ∃ (i : Nat), i ≤ 8 ∧ a3 = .int .u64 ((n * 8 / 2 ^ (8 * i) : Nat) : Int) ∧ a4 = .string ⟨(footL n i).toArray⟩ ∧ a5 = .int .i64 i ∧ Below w.heap.size w w2) (fun _ _ a5 _ => (8 - intOf a5).toNat)
      case atStart => exact ⟨0, by omega, by simp, rfl, rfl, Below.refl _ _⟩
      case round =>
        obtain ⟨i, hi, rfl, rfl, rfl, hb⟩ := hrel
        have HB := Lib.hid hb
        clear hb
        by_cases hlt : i < 8
        · have b0 : decide ((i : Int) < 8) = true := decide_eq_true (by omega)
          obtain ⟨q, hq⟩ : ∃ q, n * 8 / 2 ^ (8 * i) = q := ⟨_, rfl⟩
          have HQ : Hid (q < 18446744073709551616) := Lib.hid (by rw [← hq]; have h := Nat.div_le_self (n * 8) (2 ^ (8 * i)); have := HN.out; omega)
          have hf := footL_succ n i
          have hq2 : n * 8 / 2 ^ (8 * (i + 1)) = q / 256 := by rw [← hq, Nat.div_div_eq_div_mul]; congr 1; rw [show 8 * (i + 1) = 8 * i + 8 by omega, Nat.pow_add]
          rw [hq] at hf ⊢
          have HF := Lib.hid hf
          have HQ2 := Lib.hid hq2
          have hsz := congrArg List.length hf
          rw [footL_len, List.length_cons, footL_len] at hsz
          have hbig : (9223372036854775807 < 1 + (footL n i).length) = False := eq_false (by rw [footL_len]; omega)
          clear hf hq2 hq hsz
          have ho := one_byteq wr q
          go_wp2_with fail
          go_roundw
          case rel =>
            have eq2 : IntKind.u64.wrap ((q : Int) / 256) = ((q / 256 : Nat) : Int) := by have := HQ.out; simp [IntKind.wrap, IntKind.bits, IntKind.signed]; omega
            refine ⟨i + 1, by omega, by rw [HQ2.out, eq2], ?_, by go_num, below_alloc HB.out _⟩
            rw [HF.out]
            rfl
          case measure => simp [intOf]; omega
        · obtain rfl : i = 8 := by omega
          have b0 : decide ((8 : Int) < 8) = false := by decide
          rw [show ((8 : Nat) : Int) = (8 : Int) from rfl]
          clear hlt hi
          rw [footL_8]
          generalize ((n * 8 / 2 ^ (8 * 8) : Nat) : Int) = z3
          have hXl : (X ++ (⟨(bits8 n).toArray⟩ : ByteArray)).toList = s.toList ++ pad n := by
            rw [ByteArray.toList_eq, ByteArray.data_append, Array.toList_append, ← ByteArray.toList_eq, hX.out, nz_pad, HL.out]
            simp
          have hXs : (X ++ (⟨(bits8 n).toArray⟩ : ByteArray)).size = 64 * ((n + 72) / 64) := by
            have h := congrArg List.length hXl
            have h2 := pad_length s.toList
            rw [size_toList s, HSN.out] at h2
            rw [h2] at h
            rw [← h, size_toList]
          have hbig : (9223372036854775807 < X.size + (bits8 n).length) = False := eq_false (by have := HN.out; have := HZ.out; have := nz_le n; have := HL.out; have e : (bits8 n).length = 8 := rfl; omega)
          have HXL := Lib.hid hXl
          have HXS := Lib.hid hXs
          clear hXl hXs
          go_wp2_with fail
          refine (refStart_any _).mono ?_
          rintro e w1 ⟨rfl, hb1⟩
          have hb1 := below_then HB.out HB.out.size hb1
          have hg0 : (w1.alloc (.cells (us Sha.start.l) 63)).heap[w1.heap.size]? = some (.cells (us Sha.start.l) 63 (0, 0)) := heap_alloc_last _ _
          have hB : Below w.heap.size w (w1.alloc (.cells (us Sha.start.l) 63)) := below_alloc hb1 _
          have hge : w.heap.size ≤ w1.heap.size := hb1.size
          generalize (X ++ (⟨(bits8 n).toArray⟩ : ByteArray)) = L at HXL HXS ⊢
          go_wp2_with (first | (refine wpList_alloc_arr rfl 63 rfl z8 zero32 ?_) | (refine wpList_store_row rfl 63 _ _ rfl w1.heap.size (us Sha.start.l) rfl rfl 63 z8 (heap_alloc_last w1 _) (size32 _ rfl) (by rw [us_size]; rfl) (us_one _) ?_; rw [World.setRow_alloc_new]))
          generalize w1.alloc (.cells (us Sha.start.l) 63) = W at hg0 hB ⊢
          have HGE := Lib.hid hge
          clear hge hb1
          generalize w1.heap.size = g at hg0 HGE ⊢
          go_loopw [7] (fun v w2 => ∃ i k : Nat, v = .int .i64 k ∧ Hid (k = 64 * i) ∧ k ≤ L.size ∧ w2.heap[g]? = some (.cells (us (blocks i Sha.start L.toList).l) 63 (0, 0)) ∧ Below w.heap.size w w2) (fun v _ => (L.size - intOf v).toNat)
          case atStart => exact ⟨0, 0, rfl, Lib.hid rfl, by omega, hg0, hB⟩
          case round =>
            clear hg0 hB W HB
            obtain ⟨i, k, rfl, hk, hkm, hg, hb⟩ := hrel
            by_cases hlt : k < L.size
            · have b0 : decide (k < L.size) = true := decide_eq_true hlt
              have b1 : decide ((k : Int) < (L.size : Int)) = true := decide_eq_true (by omega)
              have h64 : k + 64 ≤ L.size := by have := hk.out; have := HXS.out; omega
              have e64 : IntKind.i64.wrap ((k : Int) + 64) = (k : Int) + 64 := IntWalk.i64_in _ (by have := HN.out; have := HXS.out; omega)
              have hsl := slice_s L k (k + 64) (k : Int) ((k : Int) + 64) rfl (by omega) (by omega) h64
              have HG := Lib.hid hg
              have HB := Lib.hid hb
              clear hg hb
              go_wp2
              refine wp_region_still_tail 6 (by kernel_rfl) (by kernel_rfl) ?_
              simp only [List.take_succ_cons, List.take_zero, List.drop_succ_cons, List.drop_zero]
              refine still_load rfl 63 _ rfl g rfl 63 (us (blocks i Sha.start L.toList).l) (0, 0) _ HG.out Try.underlying63 rfl (size32 _ rfl) ?_
              simp only [Act.put, List.setIfInBounds_toArray, List.set_cons_zero, List.set_cons_succ]
              repeat still_step
              try refine wpStill_nil ?_
              change wpList _ _ _ _ _ wr.drew
              have HG : Hid (wr.drew.heap[g]? = _) := HG
              have HB : Hid (Below w.heap.size w wr.drew) := Lib.hid (below_drew HB.out)
              clear hsl
              generalize wr.drew = w2 at HG HB ⊢
              go_wp2_with fail
              refine (refMix_any _ _ _ (by rw [ByteArray.size_extract]; omega)).mono ?_
              rintro e w3 ⟨rfl, hb3⟩
              have HG3 : Hid (w3.heap[g]? = _) := Lib.hid (blk_below HG.out hb3)
              have HB3 : Hid (Below w.heap.size w w3) := Lib.hid (below_then HB.out HB.out.size hb3)
              clear hb3 HG HB
              go_wp2_with (refine wpList_store_row rfl 63 _ _ rfl g (us (mix (blocks i Sha.start L.toList) (L.extract k (k + 64)).toList).l) rfl rfl 63 (us (blocks i Sha.start L.toList).l) HG3.out (size32 _ rfl) ((us_size8 _).trans (us_size8 _).symm) (us_one _) ?_)
              go_roundw
              case rel =>
                have hmx : mix (blocks i Sha.start L.toList) (L.extract k (k + 64)).toList = blocks (i + 1) Sha.start L.toList := by
                  rw [drop_extract, blocks_snoc, ← hk.out, show k + 64 - k = 64 by omega]
                refine ⟨i + 1, k + 64, by go_num, Lib.hid (by have := hk.out; omega), by omega, ?_, below_setRow HB3.out HGE.out _⟩
                rw [← hmx]
                exact setRow_heap w3 g _ _ _ _ HG3.out
              case measure => simp [intOf]; omega
            · obtain rfl : k = L.size := by omega
              have b0 : decide (L.size < L.size) = false := decide_eq_false (by omega)
              have b1 : decide ((L.size : Int) < (L.size : Int)) = false := decide_eq_false (by omega)
              have hin : i = (n + 72) / 64 := by have := hk.out; have := HXS.out; omega
              obtain ⟨H, hH⟩ : ∃ H, blocks i Sha.start L.toList = H := ⟨_, rfl⟩
              have hsum : sum s.toList = out H := by
                rw [← hH, HXL.out, hin]
                unfold sum
                rw [size_toList, HSN.out]
              rw [hH] at hg
              have HSUM := Lib.hid hsum
              clear hsum hH hin hk hkm hlt
              have HG := Lib.hid hg
              have HB := Lib.hid hb
              clear hg hb
              go_wp2_with fail
              go_loopw [8, 9] (fun a8 a9 w2 => ∃ i : Nat, i ≤ 32 ∧ a9 = .int .i64 i ∧ a8 = .string ⟨((out H).take i).toArray⟩ ∧ w2.heap[g]? = some (.cells (us H.l) 63 (0, 0)) ∧ Below w.heap.size w w2) (fun _ a9 _ => (32 - intOf a9).toNat)
              case atStart => exact ⟨0, by omega, rfl, rfl, HG.out, HB.out⟩
              case round =>
                clear HG HB
                obtain ⟨i, hi, rfl, rfl, hg, hb⟩ := hrel
                by_cases hlt : i < 32
                · have b2 : decide ((i : Int) < 32) = true := decide_eq_true (by omega)
                  have ew : IntKind.i64.wrap ((i : Int) / 4) = (i : Int) / 4 := IntWalk.i64_in _ (by omega)
                  have y := at32 g (i / 4) ((i : Int) / 4) (by omega) (by omega)
                  have hcell := us_cell hg (i / 4) (by show i / 4 < 8; omega)
                  obtain ⟨x, hx⟩ : ∃ x, at_ H.l (i / 4) = x := ⟨_, rfl⟩
                  rw [hx] at hcell
                  have HX := Lib.hid hx
                  have HG := Lib.hid hg
                  have HB := Lib.hid hb
                  clear hg hb hx
                  have ho := one_byteq wr (x.toNat / 2 ^ (24 - i % 4 * 8))
                  rw [Int.natCast_ediv, Int.natCast_pow, show ((2 : Nat) : Int) = 2 from rfl] at ho
                  have HO := Lib.hid (out_take H i hlt)
                  have hlen : ((out H).take i).length = i := by rw [List.length_take, out_map]; simp; omega
                  have hbig : (9223372036854775807 < ((out H).take i).length + 1) = False := eq_false (by omega)
                  have hbig' : (9223372036854775807 < min i (out H).length + 1) = False := eq_false (by omega)
                  clear hlen
                  go_wp2_with fail
                  go_roundw
                  case rel =>
                    refine ⟨i + 1, by omega, by go_num, ?_, blk_alloc HG.out _, below_alloc HB.out _⟩
                    rw [HO.out, ← HX.out]
                    show Value.string _ = Value.string _
                    congr 1
                  case measure => simp [intOf]; omega
                · obtain rfl : i = 32 := by omega
                  have b2 : decide ((32 : Int) < 32) = false := by decide
                  rw [show ((32 : Nat) : Int) = (32 : Int) from rfl]
                  have HB := Lib.hid hb
                  have ht : (out H).take 32 = out H := List.take_of_length_le (by rw [out_map]; simp)
                  rw [ht]
                  clear hb hg hlt hi ht
                  go_wp2_with fail
                  go_ret
                  exact ⟨by rw [HSUM.out]; rfl, HB.out⟩
    · have t0 : ((X.size : Int) % 64 != 56) = true := by
        have h := fun h => hlt ((nz_is n j hj.out).1 h)
        rw [bne_iff_ne]
        intro e
        exact h (by rw [hsz] at e; omega)
      have hbig : (9223372036854775807 < X.size + 1) = False := eq_false (by have := HN.out; have := hj.out; have := nz_le n; omega)
      have HZ := Lib.hid hsz
      have HL := Lib.hid hlt
      clear hsz hlt
      go_wp2_with fail
      go_roundw
      case rel =>
        refine ⟨j + 1, X ++ ⟨#[0]⟩, rfl, Lib.hid (by have := hj.out; have := HL.out; omega), Lib.hid ?_, trivial⟩
        rw [ByteArray.toList_eq, ByteArray.data_append, Array.toList_append, ← ByteArray.toList_eq, hX.out, List.replicate_succ']
        simp
      case measure =>
        show nz n + n + 1 - (X ++ (⟨#[0]⟩ : ByteArray)).size < nz n + n + 1 - X.size
        rw [ByteArray.size_append, HZ.out]
        have := HL.out
        have := hj.out
        show nz n + n + 1 - (n + 1 + j + 1) < _
        omega
end Go.Proofs.Ytnipbdlljfifhaa.H
namespace Go.Proofs.Ytnipbdlljfifhaa.Dig
open Go.RowKit Go.Proofs.Ytnipbdlljfifhaa.Sha Go.Proofs.Ytnipbdlljfifhaa.H
/-- The digest as bytes. -/
def dig (s : ByteArray) : ByteArray := ⟨(sum s.toList).toArray⟩
theorem dig_size (s : ByteArray) : (dig s).size = 32 := sum_length s.toList
def hash_Sum.f (a0 : ByteArray) : Option ByteArray := if a0.size < 1152921504606846976 then some (dig a0) else none
theorem hash_Sum.calls (a0 : ByteArray) (r : ByteArray) (w : World) (h : hash_Sum.f a0 = some r) :
    Calls Try.prog 33 #[.string a0] w fun e w' => e = .returned (.string r) ∧ Below w.heap.size w w' := by
  unfold hash_Sum.f at h
  split at h
  · next hs => obtain rfl := Option.some.inj h; exact sum_calls a0 w hs
  · exact absurd h (by simp)
def parchmentref01_Sum.f (a0 : ByteArray) : Option ByteArray := if a0.size < 1152921504606846976 then some (dig a0) else none
theorem parchmentref01_Sum.calls (a0 : ByteArray) (r : ByteArray) (w : World) (h : parchmentref01_Sum.f a0 = some r) :
    Calls Try.prog 32 #[.string a0] w fun e w' => e = .returned (.string r) ∧ Below w.heap.size w w' := by
  unfold parchmentref01_Sum.f at h
  split at h
  · next hs => obtain rfl := Option.some.inj h; exact refSum_any a0 w hs
  · exact absurd h (by simp)
end Go.Proofs.Ytnipbdlljfifhaa.Dig
