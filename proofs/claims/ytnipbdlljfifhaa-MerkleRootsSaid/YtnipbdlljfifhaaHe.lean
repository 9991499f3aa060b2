import Derived.Test.YtnipbdlljfifhaaHd
import Derived.Test.YtnipbdlljfifhaaPHashx1
import Derived.Test.YtnipbdlljfifhaaSha
import Derived.StillTailTactics
import Derived.OwnWalk
set_option linter.unusedVariables false
set_option linter.unusedSimpArgs false
namespace Go.Proofs.Ytnipbdlljfifhaa.H
open Go.RowKit Go.Proofs.Ytnipbdlljfifhaa.Sha Go.Proofs.YtnipbdlljfifhaaW.PrintWords Go.Proofs.YtnipbdlljfifhaaW.PrintLast

/-- The words behind a block; as they were, if it has another length. -/
def mixB (h : St) (l : List UInt8) : St := if l.length = 64 then mix h l else h
theorem size_toList (s : ByteArray) : s.toList.length = s.size := by rw [ByteArray.toList_eq, Array.length_toList]; rfl

set_option maxHeartbeats 1000000 in
theorem mix_short (h : St) (s : ByteArray) (w : World) (hs : s.size ≠ 64) : Calls Try.prog 43 #[.agg (us h.l), .string s] w fun e w' => e = .returned (.agg (us h.l)) ∧ Below w.heap.size w w' := by
  have hq : ((s.size : Int) != 64) = true := by rw [bne_iff_ne]; omega
  clear hs
  rw [us_st h]
  go_enter Try.func43, Try.ntmps43
  go_wp2
  rw [← us_st h]
  have hg1 : ((w.alloc (.cells (us h.l) 66)).alloc (.cells (us h.l) 66)).heap[w.heap.size + 1]? = some (.cells (us h.l) 66 (0, 0)) := by
    have h := heap_alloc_last (w.alloc (.cells (us h.l) 66)) (.cells (us h.l) 66)
    rw [World.size_alloc] at h
    exact h
  refine bodyPost_ret (results_cell_row rfl _ _ (w.heap.size + 1) 66 (us h.l) (0, 0) _ rfl hg1 Try.underlying66 rfl (size33 _ rfl)) rfl ⟨rfl, ?_⟩
  exact ((Below.refl _ _).alloc (Nat.le_refl _) _).alloc (by simp) _

theorem mix_all (h : St) (s : ByteArray) (w : World) : Calls Try.prog 43 #[.agg (us h.l), .string s] w fun e w' => e = .returned (.agg (us (mixB h s.toList).l)) ∧ Below w.heap.size w w' := by
  unfold mixB
  rw [size_toList]
  by_cases hs : s.size = 64
  · rw [if_pos hs]; exact mix_any h s w hs
  · rw [if_neg hs]; exact mix_short h s w hs

theorem still_load {P : Program} {ops : Array Oper} {w : World} {Q : Act → Prop} {o : Oper} {rest : List Oper} {a : Act} (hgd : o.guard = none) (ty : TypeId) (x : Operand) (ho : o.op = .load ty x) (g : Nat) (hx : a.eval x = .pointer (some ⟨g, 0, none⟩)) (t : TypeId) (cs : Array Value) (fr : Nat × Nat) (d : TypeDesc)
    (hg : w.heap[g]? = some (.cells cs t fr)) (hu : P.underlying ty = some d) (hd : (match d with | .struct _ | .array _ _ => true | _ => false) = true) (hi : (P.info? ty).map (·.size) = some cs.size)
    (h : wpStill P ops w Q rest (a.put o.dst (.agg cs))) : wpStill P ops w Q (o :: rest) a := by
  refine wpStill_step (fun K hK => ?_)
  rw [if_pos (by simp [Region.wanted, hgd])]
  unfold Oper.still
  rw [exec_load a.eval w ty x ho g hx t cs fr d hg hu hd hi]
  exact ⟨rfl, hK _ h⟩
theorem info5 : (Try.prog.info? 5).map (fun i => (i.zero, i.size, i.bytes)) = some (some (.int .u8 0), 1, 1) := by kernel_rfl
def byts (l : List UInt8) : List Int := l.map fun b => (b.toNat : Int)
theorem index_us (l : List UInt32) (hl : l.length = 8) (i : Nat) (x : Int) (hx : x = (i : Int)) (hi : i < 8) (w : World) : (Instr.index 66 (.agg (us l)) (.int .i64 x)).run Try.prog w = .ok (.int .u32 ((at_ l i).toNat : Int)) w := by
  subst hx
  have h3 : 0 ≤ (i : Int) := by omega
  have hg := us_get l i (by omega)
  unfold Instr.index
  simp [go_sem, run_underlying Try.underlying66, asIntOf, h3, hg, part]
  intro h
  omega
theorem new_cells (w : World) (t : TypeId) (l : List Value) : ∀ j u, l[j]? = some u → (w.alloc (.cells l.toArray t)).cell? ((⟨w.heap.size, 0, none⟩ : Addr).add j) = some u := by
  intro j u hj
  rw [add_plain, World.cell?_alloc_new]
  simpa using hj
theorem four_one (a b c d : Int) : ∀ u ∈ [Value.int .u8 a, .int .u8 b, .int .u8 c, .int .u8 d], u.oneCell' = true := by
  intro u hu
  simp at hu
  rcases hu with rfl | rfl | rfl | rfl <;> rfl
theorem strOf_byts (l : List UInt8) : strOfNums (byts l) = ⟨l.toArray⟩ := by
  unfold strOfNums byts
  rw [List.map_map]
  congr 2
  rw [List.map_congr_left (g := id) (fun b _ => by simp)]
  simp
theorem be_vals (x : UInt32) : [Value.int .u8 ((x.toNat : Int) / 16777216 % 256), .int .u8 ((x.toNat : Int) / 65536 % 256), .int .u8 ((x.toNat : Int) / 256 % 256), .int .u8 ((x.toNat : Int) % 256)] = nums .u8 (byts (be x)) := by
  have h := be_nat x
  have e : byts (be x) = ((be x).map UInt8.toNat).map fun (n : Nat) => (n : Int) := by simp [byts]
  rw [e, h]
  simp [Ev.be, nums]
  refine ⟨?_, ?_, ?_, ?_⟩
  all_goals rfl
theorem byts_append (a b : List UInt8) : byts (a ++ b) = byts a ++ byts b := by simp [byts]
theorem be_step (l : List UInt32) (n : Nat) (h : n < l.length) : (l.take (n + 1)).flatMap be = (l.take n).flatMap be ++ be (at_ l n) := by
  rw [take_snoc_at l n h]
  simp
theorem slice_s (s : ByteArray) (a b : Nat) (x y : Int) (hx : x = (a : Int)) (hy : y = (b : Int)) (h1 : a ≤ b) (h2 : b ≤ s.size) (w : World) :
    (Instr.slice 9 (.string s) (some (.int .i64 x)) (some (.int .i64 y)) none).run Try.prog w = .ok (.string (s.extract a b)) w := by
  subst hx hy
  simp [go_sem, Try.underlying9, h1, h2]
theorem slice_to (s : ByteArray) (b : Nat) (y : Int) (hy : y = (b : Int)) (h2 : b ≤ s.size) (w : World) :
    (Instr.slice 9 (.string s) none (some (.int .i64 y)) none).run Try.prog w = .ok (.string (s.extract 0 b)) w := by
  subst hy
  simp [go_sem, Try.underlying9, h2]
theorem slice_from (s : ByteArray) (a : Nat) (x : Int) (hx : x = (a : Int)) (h2 : a ≤ s.size) (w : World) :
    (Instr.slice 9 (.string s) (some (.int .i64 x)) none none).run Try.prog w = .ok (.string (s.extract a s.size)) w := by
  subst hx
  simp [go_sem, Try.underlying9, h2]
theorem pad_len (n : Nat) : (pad n).length = 9 + (119 - n % 64) % 64 := by simp [pad, bits8]; omega
theorem drop_extract (s : ByteArray) (a b : Nat) : (s.extract a b).toList = (s.toList.drop a).take (b - a) := by
  rw [ByteArray.toList_eq, ByteArray.toList_eq, ByteArray.data_extract]
  simp

set_option maxHeartbeats 4000000 in
theorem sum_any (s : ByteArray) (w : World) (hs : s.size < 1152921504606846976) (kt : Nat) (hT : PHash.hash_tail.f kt (s.size : Int) = some ⟨(pad s.size).toArray⟩) : Calls Try.prog 33 #[.string s] w fun e w' => e = .returned (.string ⟨(sum s.toList).toArray⟩) ∧ Below w.heap.size w w' := by
  have HT := Lib.hid hT
  clear hT
  go_enter Try.func33, Try.ntmps33
  go_wp2_with fail
  refine (start_any _).mono ?_
  rintro e w1 ⟨rfl, hb1⟩
  go_wp2_with (first | (refine wpList_alloc_arr rfl 66 rfl z8 zero33 ?_) | (refine wpList_store_row rfl 66 _ _ rfl w1.heap.size (us Sha.start.l) rfl rfl 66 z8 (heap_alloc_last w1 _) (size33 _ rfl) (by rw [us_size]; rfl) (us_one _) ?_; rw [World.setRow_alloc_new]))
  have hB : Below w.heap.size w (w1.alloc (.cells (us Sha.start.l) 66)) := below_alloc hb1 _
  have hg0 : (w1.alloc (.cells (us Sha.start.l) 66)).heap[w1.heap.size]? = some (.cells (us (blocks 0 Sha.start s.toList).l) 66 (0, 0)) := heap_alloc_last _ _
  have hge : w.heap.size ≤ w1.heap.size := hb1.size
  rw [show ((s.size : Int) / 64 * 64) = ((64 * (s.size / 64) : Nat) : Int) from by omega]
  obtain ⟨m, hm⟩ : ∃ m, 64 * (s.size / 64) = m := ⟨_, rfl⟩
  have hms : m ≤ s.size := by omega
  rw [hm]
  have HM := Lib.hid hm
  clear hm
  generalize w1.alloc (.cells (us Sha.start.l) 66) = W at hg0 hB ⊢
  generalize hG : w1.heap.size = g at hg0 hge ⊢
  clear hG hb1 w1
  have HGE := Lib.hid hge
  clear hge
  go_loopw [5] (fun v wr => ∃ i k : Nat, v = .int .i64 k ∧ Hid (k = 64 * i) ∧ k ≤ m ∧ wr.heap[g]? = some (.cells (us (blocks i Sha.start s.toList).l) 66 (0, 0)) ∧ Below w.heap.size w wr) (fun v _ => (m - intOf v).toNat)
  case atStart => exact ⟨0, 0, rfl, Lib.hid rfl, by omega, hg0, hB⟩
  case round =>
    clear hg0 hB W
    obtain ⟨i, k, rfl, hk, hkm, hg, hb⟩ := hrel
    by_cases hlt : k < m
    · have b0 : decide (k < m) = true := decide_eq_true hlt
      have b1 : decide ((k : Int) < (m : Int)) = true := decide_eq_true (by omega)
      have h64 : k + 64 ≤ m := by have := hk.out; have := HM.out; omega
      have z1 : k + 64 ≤ s.size := by omega
      have e64 : IntKind.i64.wrap ((k : Int) + 64) = (k : Int) + 64 := IntWalk.i64_in _ (by omega)
      have hsl := slice_s s k (k + 64) (k : Int) ((k : Int) + 64) rfl (by omega) (by omega) z1
      have HG := Lib.hid hg
      have HB := Lib.hid hb
      clear hg hb
      go_wp2
      refine wp_region_still_tail 6 (by kernel_rfl) (by kernel_rfl) ?_
      simp only [List.take_succ_cons, List.take_zero, List.drop_succ_cons, List.drop_zero]
      refine still_load rfl 66 _ rfl g rfl 66 (us (blocks i Sha.start s.toList).l) (0, 0) _ HG.out Try.underlying66 rfl (size33 _ rfl) ?_
      simp only [Act.put, List.setIfInBounds_toArray, List.set_cons_zero, List.set_cons_succ]
      repeat still_step
      try refine wpStill_nil ?_
      change wpList _ _ _ _ _ wr.drew
      have HG : Hid (wr.drew.heap[g]? = _) := HG
      have HB : Hid (Below w.heap.size w wr.drew) := Lib.hid (below_drew HB.out)
      clear hsl
      generalize wr.drew = w2 at HG HB ⊢
      go_wp2_with fail
      refine (mix_all _ _ _).mono ?_
      rintro e w3 ⟨rfl, hb3⟩
      have HG3 : Hid (w3.heap[g]? = _) := Lib.hid (blk_below HG.out hb3)
      have HB3 : Hid (Below w.heap.size w w3) := Lib.hid (below_then HB.out HB.out.size hb3)
      clear hb3 HG HB
      go_wp2_with (refine wpList_store_row rfl 66 _ _ rfl g (us (mixB (blocks i Sha.start s.toList) (s.extract k (k + 64)).toList).l) rfl rfl 66 (us (blocks i Sha.start s.toList).l) HG3.out (size33 _ rfl) rfl (us_one _) ?_)
      go_roundw
      case rel =>
        have hmx : mixB (blocks i Sha.start s.toList) (s.extract k (k + 64)).toList = blocks (i + 1) Sha.start s.toList := by
          rw [drop_extract, blocks_snoc, ← hk.out, show k + 64 - k = 64 by omega]
          unfold mixB
          rw [if_pos (by rw [List.length_take, List.length_drop, size_toList]; omega)]
        refine ⟨i + 1, k + 64, by go_num, Lib.hid (by have := hk.out; omega), by omega, ?_, below_setRow HB3.out HGE.out _⟩
        rw [← hmx]
        exact setRow_heap w3 g _ _ _ _ HG3.out
      case measure => simp [intOf]; omega
    · obtain rfl : k = m := by omega
      have b0 : decide (k < k) = false := decide_eq_false (by omega)
      have b1 : decide ((k : Int) < (k : Int)) = false := decide_eq_false (by omega)
      have hin : i = s.size / 64 := by have := hk.out; have := HM.out; omega
      rw [hin] at hg
      have HG := Lib.hid hg
      have HB := Lib.hid hb
      have HK := hk
      clear hg hb hin hk
      go_wp2
      have hsl := slice_from s k (k : Int) rfl (by omega)
      have HG : Hid (wr.drew.heap[g]? = _) := HG
      have HB : Hid (Below w.heap.size w wr.drew) := Lib.hid (below_drew HB.out)
      have hsz : (9223372036854775807 < s.size - k + (pad s.size).length) = False := eq_false (by rw [pad_len]; omega)
      refine start_ (n := 8) (S := fun w' => True) (ds := []) #[false, false, false, false, false, false, false, false] (by kernel_rfl) rfl rfl trivial (fun hHeld => ?_)
      refine pure_ (i := 0) (N := some 27) (v := ?_) (a' := ?_) #[true, false, false, false, false, false, false, false] rfl rfl (by kernel_rfl) (fun _ _ _ h => h) (Or.inl ⟨by rfl, ?_⟩) ?_ ?_
      rotate_left
      · intro w'
        go_simp
        with_reducible rfl
      rotate_left
      · simp only [Act.put, List.setIfInBounds_toArray, List.set_cons_zero, List.set_cons_succ, i64_w, i32_w]
        rfl
      refine pure_ (i := 1) (N := some 28) (v := ?_) (a' := ?_) #[true, true, false, false, false, false, false, false] rfl rfl (by kernel_rfl) (fun _ _ _ h => h) (Or.inl ⟨by rfl, ?_⟩) ?_ ?_
      rotate_left
      · intro w'
        go_simp
        with_reducible rfl
      rotate_left
      · simp only [Act.put, List.setIfInBounds_toArray, List.set_cons_zero, List.set_cons_succ, i64_w, i32_w]
        rfl
      refine pure_ (i := 2) (N := some 29) (v := ?_) (a' := ?_) #[true, true, true, false, false, false, false, false] rfl rfl (by kernel_rfl) (fun _ _ _ h => h) (Or.inl ⟨by rfl, ?_⟩) ?_ ?_
      rotate_left
      · intro w'
        go_simp
        with_reducible rfl
      rotate_left
      · simp only [Act.put, List.setIfInBounds_toArray, List.set_cons_zero, List.set_cons_succ, i64_w, i32_w]
        rfl
      refine pure_ (i := 3) (N := some 30) (v := ?_) (a' := ?_) #[true, true, true, true, false, false, false, false] rfl rfl (by kernel_rfl) (fun _ _ _ h => h) (Or.inl ⟨by rfl, ?_⟩) ?_ ?_
      rotate_left
      · intro w'
        go_simp
        with_reducible rfl
      rotate_left
      · simp only [Act.put, List.setIfInBounds_toArray, List.set_cons_zero, List.set_cons_succ, i64_w, i32_w]
        rfl
      refine pure_ (i := 4) (N := some 31) (v := ?_) (a' := ?_) #[true, true, true, true, true, false, false, false] rfl rfl (by kernel_rfl) (fun _ _ _ h => h) (Or.inl ⟨by rfl, ?_⟩) ?_ ?_
      rotate_left
      · intro w'
        go_simp
        with_reducible rfl
      rotate_left
      · simp only [Act.put, List.setIfInBounds_toArray, List.set_cons_zero, List.set_cons_succ, i64_w, i32_w]
        rfl
      refine one_ (i := 5) (N := some 32) #[true, true, true, true, true, true, false, false] rfl rfl (by kernel_rfl) (by decide) (fun K hK => ?_)
      refine goes_ Try.func44 (by kernel_rfl) rfl #[.int .i64 s.size] (by rfl) rfl rfl (by simp only [List.map_toArray, List.map_cons, List.map_nil]; rfl) ?_
      with_reducible refine (PHash.hash_tail.calls kt _ _ _ HT.out).mono ?_
      rintro e w3 ⟨rfl, hb3⟩
      refine ⟨_, rfl, ?_⟩
      have HG3 : Hid (w3.heap[g]? = _) := Lib.hid (blk_below HG.out hb3)
      have HB3 : Hid (Below w.heap.size w w3) := Lib.hid (below_then HB.out HB.out.size hb3)
      clear hb3 HG HB
      refine hK.out _ _ trivial (fun hHeld => ?_)
      clear hK K
      refine norm_ (a' := ?_) ?_ ?_
      rotate_left
      · show Act.put _ (some 32) _ = _
        simp only [Act.put, List.setIfInBounds_toArray, List.set_cons_zero, List.set_cons_succ, i64_w, i32_w]
        rfl
      refine pure_ (i := 6) (N := some 33) (v := ?_) (a' := ?_) #[true, true, true, true, true, true, true, false] rfl rfl (by kernel_rfl) (fun _ _ _ h => h) (Or.inl ⟨by rfl, ?_⟩) ?_ ?_
      rotate_left
      · intro w'
        go_simp
        with_reducible rfl
      rotate_left
      · simp only [Act.put, List.setIfInBounds_toArray, List.set_cons_zero, List.set_cons_succ, i64_w, i32_w]
        rfl
      refine pure_ (i := 7) (N := some 6) (v := ?_) (a' := ?_) #[true, true, true, true, true, true, true, true] rfl rfl (by kernel_rfl) (fun _ _ _ h => h) (Or.inl ⟨by rfl, ?_⟩) ?_ ?_
      rotate_left
      · intro w'
        go_simp
        with_reducible rfl
      rotate_left
      · simp only [Act.put, List.setIfInBounds_toArray, List.set_cons_zero, List.set_cons_succ, i64_w, i32_w]
        rfl
      refine done_ (by kernel_rfl) ?_

      have HR : Hid ((s.extract k s.size ++ ⟨(pad s.size).toArray⟩ : ByteArray).toList = s.toList.drop (64 * (s.size / 64)) ++ pad s.size) := Lib.hid (by
        rw [ByteArray.toList_eq, ByteArray.data_append, Array.toList_append, ← ByteArray.toList_eq, drop_extract, HM.out, List.take_of_length_le (by rw [List.length_drop, size_toList]; omega)])
      generalize (s.extract k s.size ++ ⟨(pad s.size).toArray⟩ : ByteArray) = X at HR ⊢
      clear hsz hsl
      go_wp2
      have HXs : Hid (X.size = 64 * ((s.size + 72) / 64 - s.size / 64)) := Lib.hid (by
        rw [← size_toList, HR.out, List.length_append, List.length_drop, size_toList, pad_len]; omega)
      obtain ⟨h0, hh0⟩ : ∃ h0, blocks (s.size / 64) Sha.start s.toList = h0 := ⟨_, rfl⟩
      rw [hh0] at HG3
      have HH0 := Lib.hid hh0
      clear hh0
      go_loopw [6] (fun v wr => ∃ (j : Nat) (Y : ByteArray), v = .string Y ∧ Hid (Y.toList = X.toList.drop (64 * j)) ∧ Hid (Y.size + 64 * j = X.size) ∧ wr.heap[g]? = some (.cells (us (blocks j h0 X.toList).l) 66 (0, 0)) ∧ Below w.heap.size w wr) (fun v _ => match v with | .string b => b.size | _ => 0)
      case atStart => exact ⟨0, X, rfl, Lib.hid rfl, Lib.hid rfl, HG3.out, HB3.out⟩
      case round =>
        clear HG3 HB3
        obtain ⟨j, Y, rfl, hY, hYs, hg, hb⟩ := hrel
        by_cases hne : Y.size = 0
        · have hYe : Y = ⟨#[]⟩ := by
            have h := hne
            rw [← size_toList] at h
            have h2 := List.eq_nil_of_length_eq_zero h
            apply ByteArray.ext
            rw [ByteArray.toList_eq] at h2
            simpa using h2
          have hjm : j = (s.size + 72) / 64 - s.size / 64 := by have := HXs.out; have := hYs.out; omega
          subst hYe
          clear hne
          have hsum : sum s.toList = out (blocks j h0 X.toList) := by
            rw [sum_parts, size_toList, HH0.out, HR.out, hjm]
          obtain ⟨hh, hhh⟩ : ∃ hh, blocks j h0 X.toList = hh := ⟨_, rfl⟩
          rw [hhh] at hg hsum
          have HSUM := Lib.hid hsum
          have HG := Lib.hid hg
          have HB := Lib.hid hb
          have hszo := hb.size
          clear hg hb hsum hjm hhh hY hYs
          obtain ⟨i5, hi5, hz5, hs5, hb5⟩ := info_parts info5
          go_wp2_with (first | (refine wpList_make_own _ rfl _ _ 61 rfl w.heap.size 5 i5 (.int .u8 0) 1 Try.underlying61 hi5 hz5 hs5 _ _ 32 32 rfl rfl rfl (by rw [hb5]; decide) (by decide) HB.out.size ?_; intro w4 hown4 hgrow4; have HG4 : Hid (w4.heap[g]? = _) := Lib.hid (blk_grown HG.out hgrow4 (by simp)); have HB4 := Lib.hid (HB.out.grown hgrow4 HB.out.size (fun _ h => by cases h)); clear HG HB hgrow4) | (refine wpList_load_row rfl 66 _ rfl g rfl 66 (us hh.l) (0, 0) _ (by assumption : Hid (_ = _)).out Try.underlying66 rfl (size33 _ rfl) ?_))
          have HOB : Hid (w.heap.size ≤ wr.heap.size) := Lib.hid (by have := HB4.out.size; first | exact hszo | omega)
          generalize wr.heap.size = o at hown4 HOB ⊢
          clear HG4
          have HOWN4 := Lib.hid hown4
          clear hown4
          go_loopw [7, 44] (fun v ix wr' => ∃ n : Nat, n ≤ 8 ∧ ix = .int .i64 n ∧ v = .slice (some ⟨o, 0, none⟩) (4 * n) 32 ∧ wr'.ownsRow w.heap.size 5 1 (.slice (some ⟨o, 0, none⟩) (4 * n) 32) (4 * n) (nums .u8 (byts ((hh.l.take n).flatMap be))) ∧ Below w.heap.size w wr') (fun _ ix _ => (8 - intOf ix).toNat)
          case atStart => exact ⟨0, by omega, rfl, rfl, HOWN4.out, HB4.out⟩
          case round =>
            clear HOWN4 HB4
            obtain ⟨n, hn, rfl, rfl, hown, hbl⟩ := hrel
            by_cases hlt : n < 8
            · have c1 : decide ((n : Int) < 8) = true := decide_eq_true (by omega)
              have ix := index_us hh.l rfl n (n : Int) rfl hlt
              obtain ⟨x, hx⟩ : ∃ x, at_ hh.l n = x := ⟨_, rfl⟩
              rw [hx] at ix
              have HX := Lib.hid hx
              have HO := Lib.hid hown
              have HB := Lib.hid hbl
              clear hx hown hbl
              go_wp2_with (at_builtin; refine wpList_append_fits _ rfl _ _ 61 rfl w.heap.size 5 i5 1 Try.underlying61 hi5 hs5 o (4 * n) 32 (nums .u8 (byts ((hh.l.take n).flatMap be))) rfl (HO.out.alloc _) ⟨wr.heap.size, 0, none⟩ 4 4 [.int .u8 ((x.toNat : Int) / 16777216 % 256), .int .u8 ((x.toNat : Int) / 65536 % 256), .int .u8 ((x.toNat : Int) / 256 % 256), .int .u8 ((x.toNat : Int) % 256)] rfl rfl (new_cells _ _ _) (four_one _ _ _ _) (by omega) ?_; intro w5 hown5 hgrow5)
              go_roundw
              case rel =>
                refine ⟨n + 1, by omega, by go_num, rfl, ?_, (below_alloc HB.out _).grown hgrow5 (Nat.le_trans HB.out.size (by simp)) (fun k hk => by cases hk; exact HOB.out)⟩
                rw [be_step _ _ (by simp [St.l]; omega), byts_append, nums_append, HX.out, ← be_vals]
                exact hown5
              case measure => simp [intOf]; omega
            · obtain rfl : n = 8 := by omega
              have c1 : decide ((8 : Int) < 8) = false := by decide
              rw [show ((8 : Nat) : Int) = (8 : Int) from rfl]
              have hconv := own_string (P := Try.prog) (src := 61) (dst := 9) Try.underlying61 Try.underlying5 Try.underlying9 hown
              have e8 : hh.l.take 8 = hh.l := rfl
              rw [e8, show hh.l.flatMap be = out hh from rfl] at hconv
              rw [strOf_byts, ← HSUM.out] at hconv
              have HB := Lib.hid hbl
              clear hown hbl e8 hlt hn
              obtain ⟨R, hR⟩ : ∃ R, (⟨(sum s.toList).toArray⟩ : ByteArray) = R := ⟨_, rfl⟩
              rw [hR] at hconv
              have HR2 := Lib.hid hR
              clear hR
              go_wp2
              go_ret
              exact ⟨by rw [HR2.out]; rfl, HB.out⟩
        · have z1 : 64 ≤ Y.size := by have := HXs.out; have := hYs.out; omega
          have hnl : ¬ Y.toList = [] := fun e => hne (by rw [← size_toList, e]; rfl)
          have t1 : Y.toList.isEmpty = false := by cases h : Y.toList with
            | nil => exact absurd h hnl
            | cons _ _ => rfl
          have t2 : (!Y.toList.isEmpty) = true := by rw [t1]; rfl
          have t3 : (Y.toList == []) = false := by simpa using hnl
          have HG := Lib.hid hg
          have HB := Lib.hid hb
          have HNE := Lib.hid hne
          clear hg hb hnl hne
          have hsl := slice_to Y 64 64 rfl z1
          have hsf := slice_from Y 64 64 rfl z1
          go_wp2
          refine wp_region_still_tail 3 (by kernel_rfl) (by kernel_rfl) ?_
          simp only [List.take_succ_cons, List.take_zero, List.drop_succ_cons, List.drop_zero]
          refine still_load rfl 66 _ rfl g rfl 66 (us (blocks j h0 X.toList).l) (0, 0) _ HG.out Try.underlying66 rfl (size33 _ rfl) ?_
          simp only [Act.put, List.setIfInBounds_toArray, List.set_cons_zero, List.set_cons_succ]
          repeat still_step
          refine wpStill_nil ?_
          change wpList _ _ _ _ _ wr.drew
          have HG : Hid (wr.drew.heap[g]? = _) := HG
          have HB : Hid (Below w.heap.size w wr.drew) := Lib.hid (below_drew HB.out)
          generalize wr.drew = w2 at HG HB ⊢
          go_wp2_with fail
          refine (mix_all _ _ _).mono ?_
          rintro e w3 ⟨rfl, hb3⟩
          have HG3 : Hid (w3.heap[g]? = _) := Lib.hid (blk_below HG.out hb3)
          have HB3 : Hid (Below w.heap.size w w3) := Lib.hid (below_then HB.out HB.out.size hb3)
          clear hb3 HG HB
          go_wp2_with (refine wpList_store_row rfl 66 _ _ rfl g (us (mixB (blocks j h0 X.toList) (Y.extract 0 64).toList).l) rfl rfl 66 (us (blocks j h0 X.toList).l) HG3.out (size33 _ rfl) rfl (us_one _) ?_)
          go_roundw
          case rel =>
            have hmx : mixB (blocks j h0 X.toList) (Y.extract 0 64).toList = blocks (j + 1) h0 X.toList := by
              rw [drop_extract, hY.out, blocks_snoc, List.drop_zero]
              unfold mixB
              rw [if_pos (by rw [← hY.out, List.length_take, size_toList]; omega)]
            refine ⟨j + 1, Y.extract 64 Y.size, rfl, Lib.hid ?_, Lib.hid ?_, ?_, below_setRow HB3.out HGE.out _⟩
            · rw [drop_extract, hY.out, List.drop_drop, List.take_of_length_le (by rw [List.length_drop, size_toList]; have := hYs.out; omega)]
              congr 1
            · have := hYs.out
              rw [ByteArray.size_extract]
              omega
            · rw [← hmx]
              exact setRow_heap w3 g _ _ _ _ HG3.out
          case measure =>
            show (Y.extract 64 Y.size).size < Y.size
            rw [ByteArray.size_extract]
            omega
end Go.Proofs.Ytnipbdlljfifhaa.H
