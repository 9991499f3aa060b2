import Derived.Test.YtfnijaiaodplgaaHb
import Derived.StillTailTactics

set_option linter.unusedVariables false
namespace Go.Proofs.Ytfnijaiaodplgaa.H
open Go.RowKit Go.Proofs.Ytfnijaiaodplgaa.Sha Go.Proofs.YtfnijaiaodplgaaW.PrintWords Go.Proofs.YtfnijaiaodplgaaW.PrintLast

set_option maxHeartbeats 400000 in
/-- hash.spread: the 64 words of a block. -/
theorem spread_any (s : ByteArray) (w : World) (hs : s.size = 64) : Calls Try.prog 56 #[.string s] w fun e w' => e = .returned (.agg (us (spread s.toList))) ∧ Below w.heap.size w w' := by
  have HS := Lib.hid hs
  clear hs
  go_enter Try.func56, Try.ntmps56
  apply wp_seq_k
  intro K1 hK1
  apply wp_region_lit
  refine wpList_alloc_arr rfl 78 rfl z64 zero78 ?_
  apply wpList_nil
  refine hK1 _ _ ?_
  clear hK1 K1
  apply wp_seq_k
  intro K1 hK1
  apply wp_region_lit
  refine wpList_alloc_arr rfl 78 rfl z64 zero78 ?_
  apply wpList_nil
  refine hK1 _ _ ?_
  clear hK1 K1
  simp only [Act.put, List.setIfInBounds_toArray, List.set_cons_zero, List.set_cons_succ]
  have hg0 : ((w.alloc (.cells z64 78)).alloc (.cells z64 78)).heap[w.heap.size]? = some (.cells z64 78 (0, 0)) := blk_alloc (heap_alloc_last w _) _
  have hg1 : ((w.alloc (.cells z64 78)).alloc (.cells z64 78)).heap[w.heap.size + 1]? = some (.cells z64 78 (0, 0)) := by
    have h := heap_alloc_last (w.alloc (.cells z64 78)) (.cells z64 78)
    rw [World.size_alloc] at h
    exact h
  have hB : Below w.heap.size w ((w.alloc (.cells z64 78)).alloc (.cells z64 78)) := ((Below.refl _ _).alloc (Nat.le_refl _) _).alloc (by simp) _
  have e1 : (w.alloc (Obj.cells z64 78)).heap.size = w.heap.size + 1 := by simp
  rw [e1]
  generalize (w.alloc (.cells z64 78)).alloc (.cells z64 78) = W at hg0 hg1 hB
  generalize hgn : w.heap.size = g at hg0 hg1 hB
  have G := Lib.hid hgn
  clear hgn e1
  go_wp2
  go_loopw [8] (fun v wr => ∃ i : Nat, i ≤ 16 ∧ v = .int .i64 i ∧ wr.heap[g]? = some (.cells z64 78 (0, 0)) ∧ wr.heap[g + 1]? = some (.cells (us (part1 s.toList i)) 78 (0, 0)) ∧ Below g w wr) (fun v _ => (16 - intOf v).toNat)
  case atStart => exact ⟨0, by omega, rfl, hg0, by simpa [part1, z64] using hg1, hB⟩
  case round =>
    obtain ⟨i, hi, rfl, h0, h1, hb⟩ := hrel
    by_cases hlt : i < 16
    · have b0 : decide ((i : Int) < 16) = true := decide_eq_true (by omega)
      have z := HS.out
      have x0 := index_s s (4 * i) (4 * (i : Int)) (by omega) (by omega)
      have x1 := index_s s (4 * i + 1) (4 * (i : Int) + 1) (by omega) (by omega)
      have x2 := index_s s (4 * i + 2) (4 * (i : Int) + 2) (by omega) (by omega)
      have x3 := index_s s (4 * i + 3) (4 * (i : Int) + 3) (by omega) (by omega)
      have e0 : IntKind.i64.wrap (4 * (i : Int)) = 4 * (i : Int) := IntWalk.i64_in _ (by omega)
      have e1 : IntKind.i64.wrap (4 * (i : Int) + 1) = 4 * (i : Int) + 1 := IntWalk.i64_in _ (by omega)
      have e2 : IntKind.i64.wrap (4 * (i : Int) + 2) = 4 * (i : Int) + 2 := IntWalk.i64_in _ (by omega)
      have e3 : IntKind.i64.wrap (4 * (i : Int) + 3) = 4 * (i : Int) + 3 := IntWalk.i64_in _ (by omega)
      clear z
      have y := at78 (g + 1) i (i : Int) rfl (by omega)
      have hcell := us_cell h1 i (by rw [part1_length _ _ (by omega)]; omega)
      have hfroz := blk_frozen h1 i
      have hwd := Lib.hid (word_int s.toList i)
      go_wp2
      go_still_tail 31, (by kernel_rfl)
      change wpList _ _ _ _ _ wr.drew
      have hcell2 : wr.drew.cell? ⟨g + 1, i, none⟩ = _ := hcell
      have hfroz2 : wr.drew.frozen? ⟨g + 1, i, none⟩ = _ := hfroz
      have h1' : wr.drew.heap[g + 1]? = _ := h1
      have h0' : wr.drew.heap[g]? = _ := h0
      have hb' : Below g w wr.drew := below_drew hb
      clear hcell hfroz h1 h0 hb
      generalize wr.drew = w2 at hcell2 hfroz2 h1' h0' hb' ⊢
      have H1 := Lib.hid h1'
      have H0 := Lib.hid h0'
      have HB := Lib.hid hb'
      clear h1' h0' hb'
      go_wp2
      go_roundw
      case rel =>
        rw [hwd.out]
        refine ⟨i + 1, by omega, by go_num, (blk_far H0.out (by simp) _), ?_, HB.out.setCell (by simp) _⟩
        have hp := us_put H1.out i (word s.toList i)
        rw [part1_set _ _ (by omega)] at hp
        exact hp
      case measure => simp [intOf]; omega
    · obtain rfl : i = 16 := by omega
      have b0 : decide ((16 : Int) < 16) = false := by decide
      rw [show ((16 : Nat) : Int) = (16 : Int) from rfl]
      clear hlt hi
      have H1 := Lib.hid h1
      have H0 := Lib.hid h0
      have HB := Lib.hid hb
      clear h1 h0 hb
      go_wp2
      refine Code.wp_mono (fun _ _ _ h => h) ?_
      go_loopw [5] (fun v wr => ∃ n : Nat, n ≤ 48 ∧ v = .int .i64 ((n : Int) + 16) ∧ wr.heap[g]? = some (.cells z64 78 (0, 0)) ∧ wr.heap[g + 1]? = some (.cells (us (part2 s.toList n)) 78 (0, 0)) ∧ Below g w wr) (fun v _ => (64 - intOf v).toNat)
      case atStart => exact ⟨0, by omega, rfl, H0.out, by rw [part2_0]; exact H1.out, HB.out⟩
      case round =>
        obtain ⟨n, hn, rfl, h0, h1, hb⟩ := hrel
        by_cases hlt : n < 48
        · have b0 : decide ((n : Int) + 16 < 64) = true := decide_eq_true (by omega)
          have e15 : IntKind.i64.wrap ((n : Int) + 16 - 15) = (n : Int) + 1 := by rw [IntWalk.i64_in _ (by omega)]; omega
          have e2 : IntKind.i64.wrap ((n : Int) + 16 - 2) = (n : Int) + 14 := by rw [IntWalk.i64_in _ (by omega)]; omega
          have e16 : IntKind.i64.wrap ((n : Int) + 16 - 16) = (n : Int) := by rw [IntWalk.i64_in _ (by omega)]; omega
          have e16' : IntKind.i64.wrap (n : Int) = (n : Int) := IntWalk.i64_in _ (by omega)
          have e7 : IntKind.i64.wrap ((n : Int) + 16 - 7) = (n : Int) + 9 := by rw [IntWalk.i64_in _ (by omega)]; omega
          have hlen := part2_length s.toList n (by omega)
          have y15 := at78 (g + 1) (n + 1) ((n : Int) + 1) (by omega) (by omega)
          have y2 := at78 (g + 1) (n + 14) ((n : Int) + 14) (by omega) (by omega)
          have y16 := at78 (g + 1) n (n : Int) (by omega) (by omega)
          have y7 := at78 (g + 1) (n + 9) ((n : Int) + 9) (by omega) (by omega)
          have y0 := at78 (g + 1) (16 + n) ((n : Int) + 16) (by omega) (by omega)
          have c15 := us_cell h1 (n + 1) (by omega)
          have c2 := us_cell h1 (n + 14) (by omega)
          have c16 := us_cell h1 n (by omega)
          have c7 := us_cell h1 (n + 9) (by omega)
          have c0 := us_cell h1 (16 + n) (by omega)
          have hfroz := blk_frozen h1 (16 + n)
          obtain ⟨x15, hx15⟩ : ∃ x, at_ (part2 s.toList n) (n + 1) = x := ⟨_, rfl⟩
          obtain ⟨x2, hx2⟩ : ∃ x, at_ (part2 s.toList n) (n + 14) = x := ⟨_, rfl⟩
          obtain ⟨x16, hx16⟩ : ∃ x, at_ (part2 s.toList n) n = x := ⟨_, rfl⟩
          obtain ⟨x7, hx7⟩ : ∃ x, at_ (part2 s.toList n) (n + 9) = x := ⟨_, rfl⟩
          rw [hx15] at c15
          rw [hx2] at c2
          rw [hx16] at c16
          rw [hx7] at c7
          have hnext : next (part2 s.toList n) (16 + n) = x16 + (rotr x15 7 25 ^^^ rotr x15 18 14 ^^^ x15 >>> 3) + x7 + (rotr x2 17 15 ^^^ rotr x2 19 13 ^^^ x2 >>> 10) := by
            unfold next
            rw [show 16 + n - 16 = n by omega, show 16 + n - 15 = n + 1 by omega, show 16 + n - 7 = n + 9 by omega, show 16 + n - 2 = n + 14 by omega, hx15, hx2, hx16, hx7]
          have HN := Lib.hid hnext
          have H1 := Lib.hid h1
          have H0 := Lib.hid h0
          have HB := Lib.hid hb
          clear h1 h0 hb hlen hx15 hx2 hx16 hx7 hnext
          go_wp2
          go_quiet (fail)
          go_wp2
          have H1 : Hid ((wr.drewN nq).heap[g + 1]? = _) := H1
          have H0 : Hid ((wr.drewN nq).heap[g]? = _) := H0
          have HB : Hid (Below g w (wr.drewN nq)) := Lib.hid (pw_below_drewN HB.out nq)
          have c16 : (wr.drewN nq).cell? _ = _ := c16
          have c7 : (wr.drewN nq).cell? _ = _ := c7
          have c0 : (wr.drewN nq).cell? _ = _ := c0
          have hfroz : (wr.drewN nq).frozen? _ = _ := hfroz
          clear c15 c2 y15 y2 e15 e2
          generalize wr.drewN nq = w3 at H1 H0 HB c16 c7 c0 hfroz ⊢
          refine wp_region_still_tail 29 (by kernel_rfl) (by kernel_rfl) ?_
          simp only [List.take_succ_cons, List.take_zero, List.drop_succ_cons, List.drop_zero]
          repeat still_step
          still_call (rot7 x15 _)
          repeat still_step
          still_call (rot18 x15 _)
          repeat still_step
          still_call (rot17 x2 _)
          repeat still_step
          still_call (rot19 x2 _)
          repeat still_step
          refine wpStill_nil ?_
          change wpList _ _ _ _ _ w3.drew
          go_wp2
          go_roundw
          case rel =>
            refine ⟨n + 1, by omega, congrArg (Value.int .i64) (by omega), blk_far (w := w3) H0.out (by simp) _, ?_, below_drew (HB.out.setCell (by simp) _)⟩
            rw [u_shr3, u_shr10, u_xor, u_xor, u_xor, u_xor, u_add4, ← HN.out]
            have hp := us_put H1.out (16 + n) (next (part2 s.toList n) (16 + n))
            rw [part2_set _ _ hlt] at hp
            exact hp
          case measure => simp [intOf]; omega
        · obtain rfl : n = 48 := by omega
          have b0 : decide (((48 : Nat) : Int) + 16 < 64) = false := by decide
          rw [part2_48] at h1
          have hl := spread_length s.toList
          have H1 := Lib.hid h1
          have H0 := Lib.hid h0
          have HB := Lib.hid hb
          have HL := Lib.hid hl
          clear h1 h0 hb hlt hl hn
          go_wp2_with (first | (refine wpList_load_row rfl 78 _ rfl (g + 1) rfl 78 (us (spread s.toList)) (0, 0) _ H1.out Try.underlying78 rfl (size78 _ HL.out) ?_) | (refine wpList_store_row rfl 78 _ _ rfl g (us (spread s.toList)) rfl rfl 78 z64 H0.out (size78 _ HL.out) (by rw [us_size, HL.out]; rfl) (us_one _) ?_))
          refine bodyPost_ret (results_cell_row rfl _ _ g 78 (us (spread s.toList)) (0, 0) _ rfl (setRow_heap wr g z64 _ 78 _ H0.out) Try.underlying78 rfl (size78 _ HL.out)) rfl ⟨rfl, below_setRow HB.out (Nat.le_refl _) _⟩
end Go.Proofs.Ytfnijaiaodplgaa.H
