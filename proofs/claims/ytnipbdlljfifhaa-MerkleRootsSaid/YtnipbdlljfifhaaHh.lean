/- The reference's Mix. -/
import Derived.Test.YtnipbdlljfifhaaHg
import Derived.Great.BuildSlice
set_option linter.unusedVariables false
set_option linter.unusedSimpArgs false
namespace Go.Proofs.Ytnipbdlljfifhaa.H
open Go.RowKit Go.Proofs.Ytnipbdlljfifhaa.Sha Go.Proofs.YtnipbdlljfifhaaW.PrintWords Go.Proofs.YtnipbdlljfifhaaW.PrintLast

theorem u_cpl (x : UInt32) : IntKind.u32.wrap (4294967295 - (x.toNat : Int)) = ((4294967295 - x : UInt32).toNat : Int) := by
  rw [u32_not, UInt32.toNat_not, wrap_u32]
  have := x.toNat_lt
  show _ = ((2 ^ 32 - 1 - x.toNat : Nat) : Int)
  omega
theorem rTref_int (x : St) (k w : UInt32) : IntKind.u32.wrap (IntKind.u32.wrap (IntKind.u32.wrap (IntKind.u32.wrap ((x.h.toNat : Int) + Go.bits .xor .u32 (Go.bits .xor .u32 ((rotr x.e 6 26).toNat : Int) ((rotr x.e 11 21).toNat : Int)) ((rotr x.e 25 7).toNat : Int)) +
    Go.bits .or .u32 (Go.bits .and .u32 (x.e.toNat : Int) (x.f.toNat : Int)) (Go.bits .and .u32 (IntKind.u32.wrap (4294967295 - (x.e.toNat : Int))) (x.g.toNat : Int))) + (k.toNat : Int)) + (w.toNat : Int)) = ((rT x k w).toNat : Int) := by
  rw [u_xor, u_xor, u_and, u_cpl, u_and, u_or, u_add, u_add, u_add, u_add, ref_ch]
  rfl
theorem rUref_int (x : St) : IntKind.u32.wrap (Go.bits .xor .u32 (Go.bits .xor .u32 ((rotr x.a 2 30).toNat : Int) ((rotr x.a 13 19).toNat : Int)) ((rotr x.a 22 10).toNat : Int) +
    Go.bits .or .u32 (Go.bits .or .u32 (Go.bits .and .u32 (x.a.toNat : Int) (x.b.toNat : Int)) (Go.bits .and .u32 (x.a.toNat : Int) (x.c.toNat : Int))) (Go.bits .and .u32 (x.b.toNat : Int) (x.c.toNat : Int))) = ((rU x).toNat : Int) := by
  rw [u_xor, u_xor, u_and, u_and, u_and, u_or, u_or, u_add, ref_maj]
  rfl
theorem u_arc (a b c : UInt32) : a + b + c = a + c + b := by rw [UInt32.add_assoc, UInt32.add_comm b c, ← UInt32.add_assoc]
theorem u_acc (x : UInt32) (b : UInt8) : ((x.toNat : Int) * 256 + (b.toNat : Int)) % 4294967296 = ((x * 256 + b.toUInt32).toNat : Int) := by
  rw [UInt32.toNat_add, UInt32.toNat_mul, UInt8.toNat_toUInt32, show (256 : UInt32).toNat = 256 from rfl]
  omega
set_option maxHeartbeats 4000000 in
set_option maxRecDepth 100000 in
theorem refMix_any (h : St) (s : ByteArray) (w : World) (hs : s.size = 64) : Calls Try.prog 41 #[.agg (us h.l), .string s] w fun e w' => e = .returned (.agg (us (mix h s.toList).l)) ∧ Below w.heap.size w w' := by
  have HS := Lib.hid hs
  clear hs
  rw [us_st h]
  go_enter Try.func41, Try.ntmps41
  apply wp_seq_k
  intro K1 hK1
  have HK1 := Lib.hid hK1
  clear hK1
  apply wp_region_lit
  go_wp2_with fail
  rw [← us_st h]
  have hg0 : ((w.alloc (.cells (us h.l) 63)).alloc (.cells z8 63)).heap[w.heap.size]? = some (.cells (us h.l) 63 (0, 0)) := blk_alloc (heap_alloc_last w _) _
  have hg1 : ((w.alloc (.cells (us h.l) 63)).alloc (.cells z8 63)).heap[w.heap.size + 1]? = some (.cells z8 63 (0, 0)) := by
    have h := heap_alloc_last (w.alloc (.cells (us h.l) 63)) (.cells z8 63)
    rw [World.size_alloc] at h
    exact h
  have hB : Below w.heap.size w ((w.alloc (.cells (us h.l) 63)).alloc (.cells z8 63)) := ((Below.refl _ _).alloc (Nat.le_refl _) _).alloc (by simp) _
  have hz : ((w.alloc (.cells (us h.l) 63)).alloc (.cells z8 63)).heap.size = w.heap.size + 2 := by simp
  rw [show #[Value.int IntKind.u32 0, Value.int IntKind.u32 0, Value.int IntKind.u32 0, Value.int IntKind.u32 0, Value.int IntKind.u32 0, Value.int IntKind.u32 0, Value.int IntKind.u32 0, Value.int IntKind.u32 0] = z8 from rfl]
  generalize (w.alloc (.cells (us h.l) 63)).alloc (.cells z8 63) = W at hg0 hg1 hB hz ⊢
  generalize hG : w.heap.size = g at hg0 hg1 hB hz ⊢
  have HG := Lib.hid hG
  clear hG
  refine HK1.out _ _ ?_
  clear HK1 K1
  apply wp_seq_k
  intro K1 hK1
  have HK1 := Lib.hid hK1
  clear hK1
  apply wp_region_lit
  refine wpList_buildTo rfl 72 _ rfl (some 22) rfl z64 (by kernel_rfl) ?_
  go_wp2_with fail
  refine (salts_any _).mono ?_
  rintro e w1 ⟨rfl, hb1⟩
  have c0 := blk_below hg0 hb1
  have c1 := blk_below hg1 hb1
  have hB1 : Below g w w1 := below_then hB (by omega) hb1
  have hz1 : g + 2 ≤ w1.heap.size := by rw [← hz]; exact hb1.size
  clear hg0 hg1 hB hz hb1 W
  dsimp only
  rename_i K hK
  refine hK _ _ ?_
  clear hK K
  refine wpList_alloc_arr rfl 72 rfl z64 zero78 ?_
  refine wpList_alloc_arr rfl 72 rfl z64 zero78 ?_
  have p5 : ((w1.alloc (.cells z64 72)).alloc (.cells z64 72)).heap[w1.heap.size]? = some (.cells z64 72 (0, 0)) := blk_alloc (heap_alloc_last w1 _) _
  have p6 : ((w1.alloc (.cells z64 72)).alloc (.cells z64 72)).heap[w1.heap.size + 1]? = some (.cells z64 72 (0, 0)) := by
    have h := heap_alloc_last (w1.alloc (.cells z64 72)) (.cells z64 72)
    rw [World.size_alloc] at h
    exact h
  have hB2 : Below w1.heap.size w1 ((w1.alloc (.cells z64 72)).alloc (.cells z64 72)) := ((Below.refl _ _).alloc (Nat.le_refl _) _).alloc (by simp) _
  replace c0 := blk_below c0 hB2
  replace c1 := blk_below c1 hB2
  have hB : Below g w ((w1.alloc (.cells z64 72)).alloc (.cells z64 72)) := below_then hB1 (by omega) hB2
  have e1 : (w1.alloc (Obj.cells z64 72)).heap.size = w1.heap.size + 1 := by simp
  rw [e1]
  clear hB2 hB1
  generalize (w1.alloc (.cells z64 72)).alloc (.cells z64 72) = W at c0 c1 p5 p6 hB ⊢
  generalize w1.heap.size = p at *
  clear e1 w1
  refine wpList_store_rowTo rfl 72 _ _ rfl rfl p z64 rfl rfl 72 z64 p5 (size78 _ (by simp)) rfl (us_one _) ?_
  replace p5 := setRow_heap W p _ z64 _ _ p5
  replace p6 := blk_setRow p6 (show p + 1 ≠ p by omega) z64
  replace c0 := blk_setRow c0 (show g ≠ p by omega) z64
  replace c1 := blk_setRow c1 (show g + 1 ≠ p by omega) z64
  replace hB := below_setRow hB (show g ≤ p by omega) z64
  generalize W.setRow p z64 = W2 at c0 c1 p5 p6 hB ⊢
  refine wpList_store_rowTo rfl 72 _ _ rfl rfl (p + 1) (us keys) rfl rfl 72 z64 p6 (size78 _ (by rfl)) (by rw [us_size]; rfl) (us_one _) ?_
  replace p6 := setRow_heap W2 (p + 1) _ (us keys) _ _ p6
  replace p5 := blk_setRow p5 (show p ≠ p + 1 by omega) (us keys)
  replace c0 := blk_setRow c0 (show g ≠ p + 1 by omega) (us keys)
  replace c1 := blk_setRow c1 (show g + 1 ≠ p + 1 by omega) (us keys)
  replace hB := below_setRow hB (show g ≤ p + 1 by omega) (us keys)
  generalize W2.setRow (p + 1) (us keys) = W3 at c0 c1 p5 p6 hB ⊢
  clear W W2
  have n05 := Lib.hid (show g ≠ p by omega)
  have n15 := Lib.hid (show g + 1 ≠ p by omega)
  have n65 := Lib.hid (show p + 1 ≠ p by omega)
  have n5 : Hid (g ≤ p) := Lib.hid (by omega)
  clear hz1
  apply wpList_nil
  refine HK1.out _ _ ?_
  clear HK1 K1
  simp only [Act.put, List.setIfInBounds_toArray, List.set_cons_zero, List.set_cons_succ]
  rw [show z64 = us (accs s.toList 0) from rfl] at p5
  go_wp2_with fail
  go_loopw [7] (fun v wr => ∃ i : Nat, i ≤ 64 ∧ v = .int .i64 i ∧ wr.heap[p]? = some (.cells (us (accs s.toList i)) 72 (0, 0)) ∧ wr.heap[p + 1]? = some (.cells (us keys) 72 (0, 0)) ∧ wr.heap[g]? = some (.cells (us h.l) 63 (0, 0)) ∧ wr.heap[g + 1]? = some (.cells z8 63 (0, 0)) ∧ Below g w wr) (fun v _ => (64 - intOf v).toNat)
  case atStart => exact ⟨0, by omega, rfl, p5, p6, c0, c1, hB⟩
  case round =>
    clear p5 p6 c0 c1 hB
    obtain ⟨i, hi, rfl, p5, p6, c0, c1, hB⟩ := hrel
    by_cases hlt : i < 64
    · have b0 : decide ((i : Int) < 64) = true := decide_eq_true (by omega)
      have z := HS.out
      have x0 := index_s s i (i : Int) rfl (by omega)
      have y := at78 p (i / 4) ((i : Int) / 4) (by omega) (by omega)
      have ew : IntKind.i64.wrap ((i : Int) / 4) = (i : Int) / 4 := IntWalk.i64_in _ (by omega)
      have hcell := us_cell p5 (i / 4) (by rw [accs_length]; omega)
      have hfroz := blk_frozen p5 (i / 4)
      obtain ⟨x, hx⟩ : ∃ x, at_ (accs s.toList i) (i / 4) = x := ⟨_, rfl⟩
      obtain ⟨b, hb⟩ : ∃ b, s.toList.getD i 0 = b := ⟨_, rfl⟩
      rw [hx] at hcell
      rw [hb] at x0
      have HA : Hid (accs s.toList (i + 1) = (accs s.toList i).set (i / 4) (x * 256 + b.toUInt32)) := Lib.hid (by rw [← hx, ← hb]; rfl)
      have P5 := Lib.hid p5
      have P6 := Lib.hid p6
      have C0 := Lib.hid c0
      have C1 := Lib.hid c1
      have HB := Lib.hid hB
      clear p5 p6 c0 c1 hB hx hb z
      go_wp2
      go_still_tail 13, (by kernel_rfl)
      change wpList _ _ _ _ _ wr.drew
      have hcell : wr.drew.cell? _ = _ := hcell
      have hfroz : wr.drew.frozen? _ = _ := hfroz
      have P5 : Hid (wr.drew.heap[p]? = _) := P5
      have P6 : Hid (wr.drew.heap[p + 1]? = _) := P6
      have C0 : Hid (wr.drew.heap[g]? = _) := C0
      have C1 : Hid (wr.drew.heap[g + 1]? = _) := C1
      have HB : Hid (Below g w wr.drew) := Lib.hid (below_drew HB.out)
      generalize wr.drew = w2 at hcell hfroz P5 P6 C0 C1 HB ⊢
      go_wp2
      go_roundw
      case rel =>
        rw [u_acc]
        refine ⟨i + 1, by omega, by go_num, ?_, blk_far P6.out n65.out _, blk_far C0.out n05.out _, blk_far C1.out n15.out _, HB.out.setCell n5.out _⟩
        rw [HA.out]
        exact us_put P5.out (i / 4) (x * 256 + b.toUInt32)
      case measure => simp [intOf]; omega
    · obtain rfl : i = 64 := by omega
      have b0 : decide ((64 : Int) < 64) = false := by decide
      rw [show ((64 : Nat) : Int) = (64 : Int) from rfl]
      have ea := accs_part s.toList 16 (by omega)
      rw [show accs s.toList 64 = part1 s.toList 16 from ea] at p5
      clear ea hlt hi
      have P5 := Lib.hid p5
      have P6 := Lib.hid p6
      have C0 := Lib.hid c0
      have C1 := Lib.hid c1
      have HB := Lib.hid hB
      clear p5 p6 c0 c1 hB
      go_wp2_with fail
      rw [← part2_0] at P5
      go_loopw [8] (fun v wr => ∃ n : Nat, n ≤ 48 ∧ v = .int .i64 ((n : Int) + 16) ∧ wr.heap[p]? = some (.cells (us (part2 s.toList n)) 72 (0, 0)) ∧ wr.heap[p + 1]? = some (.cells (us keys) 72 (0, 0)) ∧ wr.heap[g]? = some (.cells (us h.l) 63 (0, 0)) ∧ wr.heap[g + 1]? = some (.cells z8 63 (0, 0)) ∧ Below g w wr) (fun v _ => (64 - intOf v).toNat)
      case atStart => exact ⟨0, by omega, rfl, P5.out, P6.out, C0.out, C1.out, HB.out⟩
      case round =>
        clear P5 P6 C0 C1 HB
        obtain ⟨n, hn, rfl, p5, p6, c0, c1, hb⟩ := hrel
        by_cases hlt : n < 48
        · have b0 : decide ((n : Int) + 16 < 64) = true := decide_eq_true (by omega)
          have e15 : IntKind.i64.wrap ((n : Int) + 16 - 15) = (n : Int) + 1 := by rw [IntWalk.i64_in _ (by omega)]; omega
          have e2 : IntKind.i64.wrap ((n : Int) + 16 - 2) = (n : Int) + 14 := by rw [IntWalk.i64_in _ (by omega)]; omega
          have e16 : IntKind.i64.wrap ((n : Int) + 16 - 16) = (n : Int) := by rw [IntWalk.i64_in _ (by omega)]; omega
          have e16' : IntKind.i64.wrap (n : Int) = (n : Int) := IntWalk.i64_in _ (by omega)
          have e7 : IntKind.i64.wrap ((n : Int) + 16 - 7) = (n : Int) + 9 := by rw [IntWalk.i64_in _ (by omega)]; omega
          have hlen := part2_length s.toList n (by omega)
          have y15 := at78 p (n + 1) ((n : Int) + 1) (by omega) (by omega)
          have y2 := at78 p (n + 14) ((n : Int) + 14) (by omega) (by omega)
          have y16 := at78 p n (n : Int) (by omega) (by omega)
          have y7 := at78 p (n + 9) ((n : Int) + 9) (by omega) (by omega)
          have y0 := at78 p (16 + n) ((n : Int) + 16) (by omega) (by omega)
          have c15 := us_cell p5 (n + 1) (by omega)
          have c2 := us_cell p5 (n + 14) (by omega)
          have c16 := us_cell p5 n (by omega)
          have c7 := us_cell p5 (n + 9) (by omega)
          have ce := us_cell p5 (16 + n) (by omega)
          have hfroz := blk_frozen p5 (16 + n)
          obtain ⟨x15, hx15⟩ : ∃ x, at_ (part2 s.toList n) (n + 1) = x := ⟨_, rfl⟩
          obtain ⟨x2, hx2⟩ : ∃ x, at_ (part2 s.toList n) (n + 14) = x := ⟨_, rfl⟩
          obtain ⟨x16, hx16⟩ : ∃ x, at_ (part2 s.toList n) n = x := ⟨_, rfl⟩
          obtain ⟨x7, hx7⟩ : ∃ x, at_ (part2 s.toList n) (n + 9) = x := ⟨_, rfl⟩
          rw [hx15] at c15
          rw [hx2] at c2
          rw [hx16] at c16
          rw [hx7] at c7
          have hnext : next (part2 s.toList n) (16 + n) = x16 + x7 + (rotr x15 7 25 ^^^ rotr x15 18 14 ^^^ x15 >>> 3) + (rotr x2 17 15 ^^^ rotr x2 19 13 ^^^ x2 >>> 10) := by
            unfold next
            rw [show 16 + n - 16 = n by omega, show 16 + n - 15 = n + 1 by omega, show 16 + n - 7 = n + 9 by omega, show 16 + n - 2 = n + 14 by omega, hx15, hx2, hx16, hx7, u_arc x16]
          have HN := Lib.hid hnext
          have P5 := Lib.hid p5
          have P6 := Lib.hid p6
          have C0 := Lib.hid c0
          have C1 := Lib.hid c1
          have HB := Lib.hid hb
          clear p5 p6 c0 c1 hb hlen hx15 hx2 hx16 hx7 hnext
          go_wp2
          go_quiet (fail)
          go_wp2
          have P5 : Hid ((wr.drewN nq).heap[p]? = _) := P5
          have P6 : Hid ((wr.drewN nq).heap[p + 1]? = _) := P6
          have C0 : Hid ((wr.drewN nq).heap[g]? = _) := C0
          have C1 : Hid ((wr.drewN nq).heap[g + 1]? = _) := C1
          have HB : Hid (Below g w (wr.drewN nq)) := Lib.hid (pw_below_drewN HB.out nq)
          have c16 : (wr.drewN nq).cell? _ = _ := c16
          have c7 : (wr.drewN nq).cell? _ = _ := c7
          have ce : (wr.drewN nq).cell? _ = _ := ce
          have hfroz : (wr.drewN nq).frozen? _ = _ := hfroz
          clear c15 c2 y15 y2 e15 e2
          generalize wr.drewN nq = w3 at P5 P6 C0 C1 HB c16 c7 ce hfroz ⊢
          refine wp_region_still_tail 29 (by kernel_rfl) (by kernel_rfl) ?_
          simp only [List.take_succ_cons, List.take_zero, List.drop_succ_cons, List.drop_zero]
          repeat still_step
          still_call (turn7 x15 _)
          repeat still_step
          still_call (turn18 x15 _)
          repeat still_step
          still_call (turn17 x2 _)
          repeat still_step
          still_call (turn19 x2 _)
          repeat still_step
          refine wpStill_nil ?_
          change wpList _ _ _ _ _ w3.drew
          go_wp2
          go_roundw
          case rel =>
            refine ⟨n + 1, by omega, congrArg (Value.int .i64) (by omega), ?_, blk_far (w := w3) P6.out n65.out _, blk_far (w := w3) C0.out n05.out _, blk_far (w := w3) C1.out n15.out _, below_drew (HB.out.setCell n5.out _)⟩
            rw [u_shr3, u_shr10, u_xor, u_xor, u_xor, u_xor, u_add4, ← HN.out]
            have hp := us_put P5.out (16 + n) (next (part2 s.toList n) (16 + n))
            rw [part2_set _ _ hlt] at hp
            exact hp
          case measure => simp [intOf]; omega
        · obtain rfl : n = 48 := by omega
          have b0 : decide ((64 : Int) < 64) = false := by decide
          rw [show ((48 : Nat) : Int) + 16 = (64 : Int) from rfl]
          rw [part2_48] at p5
          have d0 := us_cell c0 0 (by simp [St.l])
          have d1 := us_cell c0 1 (by simp [St.l])
          have d2 := us_cell c0 2 (by simp [St.l])
          have d3 := us_cell c0 3 (by simp [St.l])
          have d4 := us_cell c0 4 (by simp [St.l])
          have d5 := us_cell c0 5 (by simp [St.l])
          have d6 := us_cell c0 6 (by simp [St.l])
          have d7 := us_cell c0 7 (by simp [St.l])
          simp only [at_, St.l, List.getD_cons_zero, List.getD_cons_succ] at d0 d1 d2 d3 d4 d5 d6 d7
          have P5 := Lib.hid p5
          have P6 := Lib.hid p6
          have C0 := Lib.hid c0
          have C1 := Lib.hid c1
          have HB := Lib.hid hb
          clear p5 p6 c0 c1 hb hlt hn
          go_wp2
          go_quiet (fail)
          go_wp2
          have P5 : Hid ((wr.drewN nq).heap[p]? = _) := P5
          have P6 : Hid ((wr.drewN nq).heap[p + 1]? = _) := P6
          have C0 : Hid ((wr.drewN nq).heap[g]? = _) := C0
          have C1 : Hid ((wr.drewN nq).heap[g + 1]? = _) := C1
          have HB : Hid (Below g w (wr.drewN nq)) := Lib.hid (pw_below_drewN HB.out nq)
          clear d0 d1 d2 d3 d4 d5 d6 d7
          generalize wr.drewN nq = w3 at P5 P6 C0 C1 HB ⊢
          go_loopw [11, 12, 13, 14, 15, 16, 17, 18, 19] (fun va vb vc vd ve vf vg vz v wr => ∃ (i : Nat) (x : St), i ≤ 64 ∧ v = .int .i64 i ∧ va = .int .u32 x.a.toNat ∧ vb = .int .u32 x.b.toNat ∧ vc = .int .u32 x.c.toNat ∧ vd = .int .u32 x.d.toNat ∧ ve = .int .u32 x.e.toNat ∧ vf = .int .u32 x.f.toNat ∧ vg = .int .u32 x.g.toNat ∧ vz = .int .u32 x.h.toNat ∧ Hid (rnds (spread s.toList) h i = x) ∧ wr.heap[p]? = some (.cells (us (spread s.toList)) 72 (0, 0)) ∧ wr.heap[p + 1]? = some (.cells (us keys) 72 (0, 0)) ∧ wr.heap[g]? = some (.cells (us h.l) 63 (0, 0)) ∧ wr.heap[g + 1]? = some (.cells z8 63 (0, 0)) ∧ Below g w wr) (fun _ _ _ _ _ _ _ _ v _ => (64 - intOf v).toNat)
          case atStart => exact ⟨0, h, by omega, rfl, rfl, rfl, rfl, rfl, rfl, rfl, rfl, rfl, Lib.hid rfl, P5.out, P6.out, C0.out, C1.out, HB.out⟩
          case round =>
            clear P5 P6 C0 C1 HB
            obtain ⟨i, x, hi, rfl, rfl, rfl, rfl, rfl, rfl, rfl, rfl, rfl, HX, p5, p6, c0, c1, hb⟩ := hrel
            by_cases hlt : i < 64
            · have b0 : decide ((i : Int) < 64) = true := decide_eq_true (by omega)
              obtain ⟨kk, hkk⟩ : ∃ y, at_ keys i = y := ⟨_, rfl⟩
              obtain ⟨ww, hww⟩ : ∃ y, at_ (spread s.toList) i = y := ⟨_, rfl⟩
              have HN : Hid (rnds (spread s.toList) h (i + 1) = rnd x kk ww) := Lib.hid (by rw [← HX.out, ← hkk, ← hww]; rfl)
              have dw := us_cell p5 i (by rw [spread_length]; exact hlt)
              have dk := us_cell p6 i (by rw [keys_length]; exact hlt)
              rw [hww] at dw
              rw [hkk] at dk
              have y5 := at78 p i (i : Int) rfl hlt
              have y6 := at78 (p + 1) i (i : Int) rfl hlt
              have P5 := Lib.hid p5
              have P6 := Lib.hid p6
              have C0 := Lib.hid c0
              have C1 := Lib.hid c1
              have HB := Lib.hid hb
              clear p5 p6 c0 c1 hb hkk hww HX
              go_wp2_with fail
              refine wp_region_still_lit (by kernel_rfl) (by kernel_rfl) ?_
              repeat still_step
              still_call (turn6 x.e _)
              repeat still_step
              still_call (turn11 x.e _)
              repeat still_step
              still_call (turn25 x.e _)
              repeat still_step
              refine wpStill_nil ?_
              rw [rTref_int]
              change Exit.then _ _ Exit.normal _ wr.drew
              have P5 : Hid (wr.drew.heap[p]? = _) := P5
              have P6 : Hid (wr.drew.heap[p + 1]? = _) := P6
              have C0 : Hid (wr.drew.heap[g]? = _) := C0
              have C1 : Hid (wr.drew.heap[g + 1]? = _) := C1
              have HB : Hid (Below g w wr.drew) := Lib.hid (below_drew HB.out)
              clear dw dk y5 y6
              generalize wr.drew = w2 at P5 P6 C0 C1 HB ⊢
              go_wp2_with fail
              refine (turn2 x.a _).mono ?_
              rintro _ _ ⟨rfl, rfl⟩
              go_wp2_with fail
              refine (turn13 x.a _).mono ?_
              rintro _ _ ⟨rfl, rfl⟩
              go_wp2_with fail
              refine (turn22 x.a _).mono ?_
              rintro _ _ ⟨rfl, rfl⟩
              go_wp2_with fail
              go_roundw
              case rel =>
                have eu := rUref_int x
                rw [wrap_u32] at eu
                rw [eu, u_add', u_add']
                exact ⟨i + 1, rnd x kk ww, by omega, by go_num, rfl, rfl, rfl, rfl, rfl, rfl, rfl, rfl, HN, P5.out, P6.out, C0.out, C1.out, HB.out⟩
              case measure => simp [intOf]; omega
            · obtain rfl : i = 64 := by omega
              have b0 : decide ((64 : Int) < 64) = false := by decide
              rw [show ((64 : Nat) : Int) = (64 : Int) from rfl]
              have HM : Hid (mix h s.toList = addSt x h) := Lib.hid (by rw [← HX.out]; rfl)
              have d0 := us_cell c0 0 (by simp [St.l])
              have d1 := us_cell c0 1 (by simp [St.l])
              have d2 := us_cell c0 2 (by simp [St.l])
              have d3 := us_cell c0 3 (by simp [St.l])
              have d4 := us_cell c0 4 (by simp [St.l])
              have d5 := us_cell c0 5 (by simp [St.l])
              have d6 := us_cell c0 6 (by simp [St.l])
              have d7 := us_cell c0 7 (by simp [St.l])
              simp only [at_, St.l, List.getD_cons_zero, List.getD_cons_succ] at d0 d1 d2 d3 d4 d5 d6 d7
              have C1 := Lib.hid c1
              have HB := Lib.hid hb
              clear p5 p6 c0 c1 hb hlt hi HX
              have ec : #[Value.int .u32 (((h.a.toNat : Int) + (x.a.toNat : Int)) % 4294967296), .int .u32 (((h.b.toNat : Int) + (x.b.toNat : Int)) % 4294967296), .int .u32 (((h.c.toNat : Int) + (x.c.toNat : Int)) % 4294967296), .int .u32 (((h.d.toNat : Int) + (x.d.toNat : Int)) % 4294967296), .int .u32 (((h.e.toNat : Int) + (x.e.toNat : Int)) % 4294967296), .int .u32 (((h.f.toNat : Int) + (x.f.toNat : Int)) % 4294967296), .int .u32 (((h.g.toNat : Int) + (x.g.toNat : Int)) % 4294967296), .int .u32 (((h.h.toNat : Int) + (x.h.toNat : Int)) % 4294967296)] = us (addSt x h).l := by
                rw [u_add', u_add', u_add', u_add', u_add', u_add', u_add', u_add', UInt32.add_comm h.a, UInt32.add_comm h.b, UInt32.add_comm h.c, UInt32.add_comm h.d, UInt32.add_comm h.e, UInt32.add_comm h.f, UInt32.add_comm h.g, UInt32.add_comm h.h]
                rfl
              have EC := Lib.hid ec
              clear ec
              go_wp2_with (refine wpList_store_row rfl 63 _ _ rfl (g + 1) (us (addSt x h).l) rfl (congrArg Value.agg EC.out) 63 z8 C1.out (size32 _ rfl) rfl (us_one _) ?_)
              refine bodyPost_ret (results_cell_row rfl _ _ (g + 1) 63 (us (addSt x h).l) (0, 0) _ rfl (setRow_heap wr (g + 1) z8 _ 63 _ C1.out) Try.underlying63 rfl (size32 _ rfl)) rfl ⟨by rw [HM.out], ?_⟩
              rw [HG.out]
              exact below_setRow HB.out (by omega) _
end Go.Proofs.Ytnipbdlljfifhaa.H
