/- Part 6 of what the proof of BlockReads stands on. -/
import Derived.Deep.RegionHeld3
import Derived.Deep.AppendLies
import Derived.Deep.DrawnRows
import Derived.Lib.Hide
import Derived.RangeFuncBox
import Derived.RangeFuncLeaves
import Derived.Shelf.Abstract
import Derived.WalkKit
import Derived.OwnWalkIn
import Derived.TacticsInMore
import Derived.LoopNIn
import Derived.LoopIn
import Derived.Test.YtdcbacbilncnnaaProg
import Derived.RangeFuncCalls
import Derived.RangeFuncBound
import Derived.RangeFuncNested
import Derived.Test.YtdcbacbilncnnaaBrd5
section
namespace Go.Proofs.Ytdcbacbilncnnaa.PMk
open Go.RowKit Go.Proofs.YtdcbacbilncnnaaW.PrintWords Go.Proofs.YtdcbacbilncnnaaW.PrintLast Go.Proofs.YtdcbacbilncnnaaW.PrintMore
attribute [local go_sem] max2_int min2_int max_two min_two max_three min_three max_four min_four   -- for this text's walks alone
set_option linter.unusedVariables false
set_option linter.unusedSimpArgs false
/-! ### parchmentref02_Cursor_Uint: function 68 -/
mutual
def parchmentref02_Cursor_Uint.l0 : Nat → Int → Int → Int → ByteArray → Int → Int → Option (ByteArray × Int × Int × Int)
 | 0, _, _, _, _, _, _ => none
 | k + 1, x4, x5, x6, x364000, x364001, x364002 => if x6 < 11 then (if (wrap64 (x364001 + x6)) ≥ (x364000.size : Int) then ((parchmentref02_Cursor_with.f x364000 x364001 x364002 4).bind fun bt368 => (some (bt368.1, bt368.2.1, bt368.2.2, 0))) else (if 0 ≤ (wrap64 (x364001 + x6)) then (if (wrap64 (x364001 + x6)) < (x364000.size : Int) then (if x6 = 9 then (if (IntKind.u64.wrap (bt x364000 (wrap64 (x364001 + x6)))) > 1 then (parchmentref02_Cursor_Uint.j1 k x4 x5 x6 (IntKind.u64.wrap (bt x364000 (wrap64 (x364001 + x6)))) true x364000 x364001 x364002) else (if x6 > 0 then (parchmentref02_Cursor_Uint.j1 k x4 x5 x6 (IntKind.u64.wrap (bt x364000 (wrap64 (x364001 + x6)))) ((IntKind.u64.wrap (bt x364000 (wrap64 (x364001 + x6)))) == 0) x364000 x364001 x364002) else (parchmentref02_Cursor_Uint.j1 k x4 x5 x6 (IntKind.u64.wrap (bt x364000 (wrap64 (x364001 + x6)))) false x364000 x364001 x364002))) else (if x6 > 0 then (parchmentref02_Cursor_Uint.j1 k x4 x5 x6 (IntKind.u64.wrap (bt x364000 (wrap64 (x364001 + x6)))) ((IntKind.u64.wrap (bt x364000 (wrap64 (x364001 + x6)))) == 0) x364000 x364001 x364002) else (parchmentref02_Cursor_Uint.j1 k x4 x5 x6 (IntKind.u64.wrap (bt x364000 (wrap64 (x364001 + x6)))) false x364000 x364001 x364002))) else (none)) else (none))) else ((parchmentref02_Cursor_with.f x364000 x364001 x364002 6).bind fun bt365 => (some (bt365.1, bt365.2.1, bt365.2.2, 0)))
def parchmentref02_Cursor_Uint.j1 : Nat → Int → Int → Int → Int → Bool → ByteArray → Int → Int → Option (ByteArray × Int × Int × Int)
 | 0, _, _, _, _, _, _, _, _ => none
 | k + 1, x4, x5, x6, x7, x47, x364000, x364001, x364002 => if x47 = true then ((parchmentref02_Cursor_with.f x364000 x364001 x364002 6).bind fun bt371 => (some (bt371.1, bt371.2.1, bt371.2.2, 0))) else (if x7 < 128 then (some (x364000, wrap64 ((wrap64 (x364001 + x6)) + 1), 0, IntKind.u64.wrap (x4 + (IntKind.u64.wrap ((Int.tmod x7 128) * x5))))) else (parchmentref02_Cursor_Uint.l0 k (IntKind.u64.wrap (x4 + (IntKind.u64.wrap ((Int.tmod x7 128) * x5)))) (IntKind.u64.wrap (x5 * 128)) (wrap64 (x6 + 1)) x364000 x364001 x364002))
end
def parchmentref02_Cursor_Uint.f (k : Nat) (a0_0 : ByteArray) (a0_1 : Int) (a0_2 : Int) : Option (ByteArray × Int × Int × Int) := if a0_2 = 0 then (parchmentref02_Cursor_Uint.l0 k 0 1 0 a0_0 a0_1 a0_2) else (some (a0_0, a0_1, a0_2, 0))
set_option maxHeartbeats 8000000 in
set_option maxRecDepth 100000 in
theorem parchmentref02_Cursor_Uint.calls (k : Nat) (a0_0 : ByteArray) (a0_1 : Int) (a0_2 : Int) (r1 : ByteArray) (r2 : Int) (r3 : Int) (r4 : Int) (w : World) (h : parchmentref02_Cursor_Uint.f k a0_0 a0_1 a0_2 = some (r1, r2, r3, r4)) :
  Calls Try.prog 68 #[.agg #[.string a0_0, .int .i64 a0_1, .int .i64 a0_2]] w fun e w' => e = .returned (.tuple #[.agg #[.string r1, .int .i64 r2, .int .i64 r3], .int .u64 r4]) ∧ Below w.heap.size w w' := by
 have hu112 := Try.underlying112
 have HB := Aside0.mk (Below.refl w.heap.size w)
 have H : (if a0_2 = 0 then (parchmentref02_Cursor_Uint.l0 k 0 1 0 a0_0 a0_1 a0_2) else (some (a0_0, a0_1, a0_2, 0))) = some (r1, r2, r3, r4) := h
 clear h
 by_cases c2 : a0_2 = 0
 ·rw [if_pos c2] at H
  have c2b0 : (a0_2 == 0) = true := beq_iff_eq.mpr c2
  have c2b1 : (a0_2 != 0) = false := bne_eq_false_iff_eq.mpr c2
  clear c2
  have H' := Aside0.mk H
  clear H
  go_enter Try.func68, Try.ntmps68
  go_wp2_with (first | ((with_reducible refine gate_dst (N := 1) rfl ?_); refine box_event ?hg (N := 1) ?hd (cs := #[.string a0_0, .int .i64 a0_1, .int .i64 a0_2]) (t := 112) ?hr ?_; (case hd => rfl); (case hg => rfl); (case hr => first | (go_simp; done) | (go_simp; rfl)); intro gb363 hg w3 hbox hb; have n0_ := Aside0.mk (below_step (bh_ HB.out) hb); have n1_ := Aside0.mk (hbox); have n2_ := Aside0.mk ((by rw [hg]; exact (below_size (bh_ HB.out)) : w.heap.size ≤ gb363)); have n3_ := Aside0.mk ((by rw [hg]; exact (below_size (bh_ HB.out)) : w.heap.size ≤ gb363)); clear HB; have HB := n0_; have BK363 := n1_; have GW363 := n2_; have GE363 := n3_; clear n0_ n1_ n2_ n3_; clear hb hbox hg) | ((with_reducible refine gate_dst (N := 2) rfl ?_); refine box_event ?hg (N := 2) ?hd (cs := #[.string (⟨#[]⟩ : ByteArray), .int .i64 0, .int .i64 0]) (t := 112) ?hr ?_; (case hd => rfl); (case hg => rfl); (case hr => first | (go_simp; done) | (go_simp; rfl)); intro gb364 hg w4 hbox hb; have n0_ := Aside0.mk (bk_ BK363.out hb); have n1_ := Aside0.mk (below_step (bh_ HB.out) hb); have n2_ := Aside0.mk (hbox); have n3_ := Aside0.mk ((by rw [hg]; exact (below_size (bh_ HB.out)) : w.heap.size ≤ gb364)); have n4_ := Aside0.mk ((by rw [hg]; exact (below_size (bh_ HB.out)) : w.heap.size ≤ gb364)); have n5_ := Aside0.mk ((by rw [hg]; exact Nat.ne_of_lt (blk_lt (g := gb363) (o := .cells #[.string a0_0, .int .i64 a0_1, .int .i64 a0_2] 112 (0, 0)) (bz_ BK363.out)) : gb363 ≠ gb364)); have n6_ := Aside0.mk ((by rw [hg]; exact Nat.ne_of_gt (blk_lt (g := gb363) (o := .cells #[.string a0_0, .int .i64 a0_1, .int .i64 a0_2] 112 (0, 0)) (bz_ BK363.out)) : gb364 ≠ gb363)); clear BK363; clear HB; have BK363 := n0_; have HB := n1_; have BK364 := n2_; have GW364 := n3_; have GE364 := n4_; have NB363_364 := n5_; have NB364_363 := n6_; clear n0_ n1_ n2_ n3_ n4_ n5_ n6_; clear hb hbox hg; have hnb5 := NB363_364.out; have hnc5 := NB364_363.out; obtain ⟨z6_0, z6_1, z6_2, f6_0, f6_1, f6_2⟩ := bc3_ BK363.out))
  go_loopg [4, 5, 6] k (fun kq v4 v5 v6 w' => ∃ (x4_1 : Int) (x5_1 : Int) (x6_1 : Int) (x365000_1 : ByteArray) (x365001_1 : Int) (x365002_1 : Int), v4 = .int .u64 x4_1 ∧ v5 = .int .u64 x5_1 ∧ v6 = .int .i64 x6_1 ∧ Aside0 (parchmentref02_Cursor_Uint.l0 kq x4_1 x5_1 x6_1 a0_0 a0_1 a0_2 = some (r1, r2, r3, r4)) ∧ Aside0 (kq ≤ k) ∧ Aside0 (w'.heap[gb363]? = some (.cells #[.string a0_0, .int .i64 a0_1, .int .i64 a0_2] 112 (0, 0))) ∧ Aside0 (w'.heap[gb364]? = some (.cells #[.string x365000_1, .int .i64 x365001_1, .int .i64 x365002_1] 112 (0, 0))) ∧ Aside0 (Below w.heap.size w w'))
  case atStart => exact ⟨(0), (1), (0), ((⟨#[]⟩ : ByteArray)), (0), (0), (by first | rfl | (simp; done) | (simp [*]; done)), (by first | rfl | (simp; done) | (simp [*]; done)), (by first | rfl | (simp; done) | (simp [*]; done)), H', ⟨Nat.le_refl _⟩, ⟨bz_ BK363.out⟩, ⟨bz_ BK364.out⟩, ⟨bh_ HB.out⟩⟩
  case round =>
   clear H'
   try clear c2
   try clear c2b0
   try clear c2b1
   try clear p2
   try clear c5
   try clear c6
   try clear z6_0 z6_1 z6_2 f6_0 f6_1 f6_2
   obtain ⟨x4_1, x5_1, x6_1, x365000_1, x365001_1, x365002_1, rfl, rfl, rfl, HA, HK1, BK363, BK364, HB⟩ := hrel
   cases gk with
   | zero => exact absurd HA.out (by simp [parchmentref02_Cursor_Uint.l0])
   | succ k1 =>
    have H := HA.out
    clear HA
    simp only [parchmentref02_Cursor_Uint.l0] at H
    by_cases c7 : x6_1 < 11
    ·rw [if_pos c7] at H
     have c7b0 : decide (x6_1 < 11) = true := decide_eq_true c7
     clear c7
     by_cases c8 : (wrap64 (a0_1 + x6_1)) ≥ (a0_0.size : Int)
     ·rw [if_pos c8] at H
      have c8b0 : decide ((a0_0.size : Int) ≤ (wrap64 (a0_1 + x6_1))) = true := decide_eq_true c8
      clear c8
      replace H := Option.bind_eq_some_iff.mp H
      obtain ⟨⟨t368, t369, t370⟩, A90, H⟩ := H
      replace H : (some (t368, t369, t370, 0)) = some (r1, r2, r3, r4) := H
      have A9 := Aside0.mk A90
      clear A90
      simp only [Option.some.injEq, Prod.mk.injEq] at H
      obtain ⟨rfl, rfl, rfl, rfl⟩ := H
      have hnb10 := NB363_364.out
      have hnc10 := NB364_363.out
      obtain ⟨z11_0, z11_1, z11_2, f11_0, f11_1, f11_2⟩ := bc3_ BK363.out
      go_wp2_with (first | ((with_reducible refine gate_callee (f := 90) rfl ?_); refine gl_ (some 25) Try.func90 #[.agg #[.string a0_0, .int .i64 a0_1, .int .i64 a0_2], .int .i64 4] ?_; (with_reducible refine (parchmentref02_Cursor_with.calls a0_0 a0_1 a0_2 4 t368 t369 t370 _ A9.out).mono ?_); rintro e w12 ⟨rfl, hb⟩; refine ⟨_, rfl, ?_⟩; replace BK363 := Aside0.mk (bk_ BK363.out hb); replace BK364 := Aside0.mk (bk_ BK364.out hb); replace HB := Aside0.mk (below_step (bh_ HB.out) hb); (try clear hb); obtain ⟨z13_0, z13_1, z13_2, f13_0, f13_1, f13_2⟩ := bc3_ BK364.out))
      refine bodyPost_ret (results_ct rfl _ _ gb364 112 #[.string t368, .int .i64 t369, .int .i64 t370] (0, 0) _ rfl (bz_ BK364.out) Try.underlying112 rfl (by kernel_rfl)) rfl ?_
      exact ⟨by first | rfl | (simp [errW_none, errW_some] <;> rfl) | (simp [*, errW_none, errW_some] <;> rfl), by repeat (first | (with_reducible first | exact HB.out | apply below_alloc | apply pw_below_drewN | apply below_drew1 | refine below_set ?_ GE363.out | refine below_set ?_ GE364.out) | exact HB.out)⟩
     ·rw [if_neg c8] at H
      have c8b0 : decide ((a0_0.size : Int) ≤ (wrap64 (a0_1 + x6_1))) = false := decide_eq_false c8
      clear c8
      obtain ⟨ji14, hji14⟩ : ∃ j_ : Int, (wrap64 (a0_1 + x6_1)) = j_ := ⟨_, rfl⟩
      replace H : (if 0 ≤ (ji14) then (if (ji14) < (a0_0.size : Int) then (if x6_1 = 9 then (if (IntKind.u64.wrap (bt a0_0 (ji14))) > 1 then (parchmentref02_Cursor_Uint.j1 k1 x4_1 x5_1 x6_1 (IntKind.u64.wrap (bt a0_0 (ji14))) true a0_0 a0_1 a0_2) else (if x6_1 > 0 then (parchmentref02_Cursor_Uint.j1 k1 x4_1 x5_1 x6_1 (IntKind.u64.wrap (bt a0_0 (ji14))) ((IntKind.u64.wrap (bt a0_0 (ji14))) == 0) a0_0 a0_1 a0_2) else (parchmentref02_Cursor_Uint.j1 k1 x4_1 x5_1 x6_1 (IntKind.u64.wrap (bt a0_0 (ji14))) false a0_0 a0_1 a0_2))) else (if x6_1 > 0 then (parchmentref02_Cursor_Uint.j1 k1 x4_1 x5_1 x6_1 (IntKind.u64.wrap (bt a0_0 (ji14))) ((IntKind.u64.wrap (bt a0_0 (ji14))) == 0) a0_0 a0_1 a0_2) else (parchmentref02_Cursor_Uint.j1 k1 x4_1 x5_1 x6_1 (IntKind.u64.wrap (bt a0_0 (ji14))) false a0_0 a0_1 a0_2))) else (none)) else (none)) = some (r1, r2, r3, r4) := by first | (rw [hji14] at H; exact H) | (simp only [hji14] at H ⊢; exact H)
      (try rw [hji14] at c8b0)
      have hji14w : (IntKind.i64.wrap (a0_1 + x6_1)) = ji14 := (i64_w _).trans hji14
      by_cases c15 : 0 ≤ (ji14)
      ·rw [if_pos c15] at H
       have c15b0 : decide (0 ≤ (ji14)) = true := decide_eq_true c15
       clear c15
       by_cases c16 : (ji14) < (a0_0.size : Int)
       ·rw [if_pos c16] at H
        have c16b0 : decide ((ji14) < (a0_0.size : Int)) = true := decide_eq_true c16
        clear c16
        have HC18 := Aside0.mk H
        clear H
        have hnb19 := NB363_364.out
        have hnc19 := NB364_363.out
        obtain ⟨z20_0, z20_1, z20_2, f20_0, f20_1, f20_2⟩ := bc3_ BK363.out
        have p17 : 0 ≤ ((ji14) : Int) := of_decide_eq_true (by first | (with_reducible assumption) | assumption)
        have q17 : (ji14) < (a0_0.size : Int) := of_decide_eq_true (by first | (with_reducible assumption) | assumption)
        have hx17 := bt_at a0_0 (ji14)
        replace p17 := eq_true p17
        replace q17 := eq_true q17
        go_upto_region 10 with (fail)
        go_cut [47] (fun v47 wc => ∃ (kq : Nat) (x47_17 : Bool), v47 = .bool x47_17 ∧ Aside0 (parchmentref02_Cursor_Uint.j1 kq x4_1 x5_1 x6_1 (IntKind.u64.wrap (bt a0_0 (ji14))) x47_17 a0_0 a0_1 a0_2 = some (r1, r2, r3, r4)) ∧ Aside0 (kq ≤ k1) ∧ Aside0 (wc.heap[gb363]? = some (.cells #[.string a0_0, .int .i64 a0_1, .int .i64 a0_2] 112 (0, 0))) ∧ Aside0 (wc.heap[gb364]? = some (.cells #[.string x365000_1, .int .i64 x365001_1, .int .i64 x365002_1] 112 (0, 0))) ∧ Aside0 (Below w.heap.size w wc))
        case first =>
         have H := HC18.out
         clear HC18
         by_cases c21 : x6_1 = 9
         ·rw [if_pos c21] at H
          have c21b0 : (x6_1 == 9) = true := beq_iff_eq.mpr c21
          have c21b1 : (x6_1 != 9) = false := bne_eq_false_iff_eq.mpr c21
          clear c21
          (first | rw [c21b0] | (simp only [i64_w, i32_w]; rw [c21b0]) | skip)
          by_cases c22 : (IntKind.u64.wrap (bt a0_0 (ji14))) > 1
          ·rw [if_pos c22] at H
           have c22b0 : decide (1 < (IntKind.u64.wrap (bt a0_0 (ji14)))) = true := decide_eq_true c22
           clear c22
           have H' := Aside0.mk H
           clear H
           go_wp2
           go_meet
           case rel => exact ⟨_, (true), (by first | rfl | (simp; done) | (simp [*]; done)), H', ⟨by have := HK1.out; first | omega | exact Nat.le_refl _⟩, ⟨bz_ BK363.out⟩, ⟨bz_ BK364.out⟩, ⟨bh_ HB.out⟩⟩
          ·rw [if_neg c22] at H
           have c22b0 : decide (1 < (IntKind.u64.wrap (bt a0_0 (ji14)))) = false := decide_eq_false c22
           clear c22
           by_cases c23 : x6_1 > 0
           ·rw [if_pos c23] at H
            have c23b0 : decide (0 < x6_1) = true := decide_eq_true c23
            clear c23
            have H' := Aside0.mk H
            clear H
            go_wp2
            go_meet
            case rel => exact ⟨_, (((IntKind.u64.wrap (bt a0_0 (ji14))) == 0)), (by first | rfl | (simp; done) | (simp only [← hji14] <;> (first | rfl | simp)) | (simp [*]; done)), (by first | exact H' | (subst hji14; exact H') | (subst hji14; exact H')), ⟨by have := HK1.out; first | omega | exact Nat.le_refl _⟩, ⟨bz_ BK363.out⟩, ⟨bz_ BK364.out⟩, ⟨bh_ HB.out⟩⟩
           ·rw [if_neg c23] at H
            have c23b0 : decide (0 < x6_1) = false := decide_eq_false c23
            clear c23
            have H' := Aside0.mk H
            clear H
            go_wp2
            go_meet
            case rel => exact ⟨_, (false), (by first | rfl | (simp; done) | (simp [*]; done)), H', ⟨by have := HK1.out; first | omega | exact Nat.le_refl _⟩, ⟨bz_ BK363.out⟩, ⟨bz_ BK364.out⟩, ⟨bh_ HB.out⟩⟩
         ·rw [if_neg c21] at H
          have c21b0 : (x6_1 == 9) = false := beq_eq_false_iff_ne.mpr c21
          have c21b1 : (x6_1 != 9) = true := bne_iff_ne.mpr c21
          (first | rw [c21b0] | (simp only [i64_w, i32_w]; rw [c21b0]) | skip)
          by_cases c24 : x6_1 > 0
          ·rw [if_pos c24] at H
           have c24b0 : decide (0 < x6_1) = true := decide_eq_true c24
           clear c24
           have H' := Aside0.mk H
           clear H
           go_wp2
           go_meet
           case rel => exact ⟨_, (((IntKind.u64.wrap (bt a0_0 (ji14))) == 0)), (by first | rfl | (simp; done) | (simp only [← hji14] <;> (first | rfl | simp)) | (simp [*]; done)), (by first | exact H' | (subst hji14; exact H') | (subst hji14; exact H')), ⟨by have := HK1.out; first | omega | exact Nat.le_refl _⟩, ⟨bz_ BK363.out⟩, ⟨bz_ BK364.out⟩, ⟨bh_ HB.out⟩⟩
          ·rw [if_neg c24] at H
           have c24b0 : decide (0 < x6_1) = false := decide_eq_false c24
           clear c24
           have H' := Aside0.mk H
           clear H
           go_wp2
           go_meet
           case rel => exact ⟨_, (false), (by first | rfl | (simp; done) | (simp [*]; done)), H', ⟨by have := HK1.out; first | omega | exact Nat.le_refl _⟩, ⟨bz_ BK363.out⟩, ⟨bz_ BK364.out⟩, ⟨bh_ HB.out⟩⟩
        case rest =>
         clear HC18
         try clear c1
         try clear p1
         try clear q1
         try clear hx1
         try clear c2
         try clear c2b0
         try clear c2b1
         try clear p2
         try clear c5
         try clear c6
         try clear p6
         try clear c7
         try clear c7b0
         try clear c8
         try clear c8b0
         try clear c9
         try clear c10
         try clear c15
         try clear c15b0
         try clear c16
         try clear c16b0
         try clear p17
         try clear q17
         try clear hx17
         try clear c19
         try clear c21
         try clear c21b0
         try clear c21b1
         try clear c22
         try clear c22b0
         try clear c23
         try clear c23b0
         try clear c24
         try clear c24b0
         try clear z11_0 z11_1 z11_2
         try clear z13_0 z13_1 z13_2
         try clear z20_0 z20_1 z20_2
         try clear z6_0 z6_1 z6_2
         try clear f11_0 f11_1 f11_2
         try clear f13_0 f13_1 f13_2
         try clear f20_0 f20_1 f20_2
         try clear f6_0 f6_1 f6_2
         try clear p17
         try clear p2
         try clear q17
         obtain ⟨kq, x47_17, rfl, HA, HJ17, BK363, BK364, HB⟩ := hcut
         cases kq with
         | zero => exact absurd HA.out (by simp [parchmentref02_Cursor_Uint.j1])
         | succ kj17 =>
          have H := HA.out
          clear HA
          simp only [parchmentref02_Cursor_Uint.j1] at H
          by_cases c25 : x47_17 = true
          ·subst c25
           have H1 : ((parchmentref02_Cursor_with.f a0_0 a0_1 a0_2 6).bind fun bt371 => (some (bt371.1, bt371.2.1, bt371.2.2, 0))) = some (r1, r2, r3, r4) := by rw [if_pos rfl] at H; exact H
           clear H
           have H := H1
           clear H1
           replace H := Option.bind_eq_some_iff.mp H
           obtain ⟨⟨t371, t372, t373⟩, A260, H⟩ := H
           replace H : (some (t371, t372, t373, 0)) = some (r1, r2, r3, r4) := H
           have A26 := Aside0.mk A260
           clear A260
           simp only [Option.some.injEq, Prod.mk.injEq] at H
           obtain ⟨rfl, rfl, rfl, rfl⟩ := H
           have hnb27 := NB363_364.out
           have hnc27 := NB364_363.out
           obtain ⟨z28_0, z28_1, z28_2, f28_0, f28_1, f28_2⟩ := bc3_ BK363.out
           go_wp2_with (first | ((with_reducible refine gate_callee (f := 90) rfl ?_); refine gl_ (some 49) Try.func90 #[.agg #[.string a0_0, .int .i64 a0_1, .int .i64 a0_2], .int .i64 6] ?_; (with_reducible refine (parchmentref02_Cursor_with.calls a0_0 a0_1 a0_2 6 t371 t372 t373 _ A26.out).mono ?_); rintro e w29 ⟨rfl, hb⟩; refine ⟨_, rfl, ?_⟩; replace BK363 := Aside0.mk (bk_ BK363.out hb); replace BK364 := Aside0.mk (bk_ BK364.out hb); replace HB := Aside0.mk (below_step (bh_ HB.out) hb); (try clear hb); obtain ⟨z30_0, z30_1, z30_2, f30_0, f30_1, f30_2⟩ := bc3_ BK364.out))
           refine bodyPost_ret (results_ct rfl _ _ gb364 112 #[.string t371, .int .i64 t372, .int .i64 t373] (0, 0) _ rfl (bz_ BK364.out) Try.underlying112 rfl (by kernel_rfl)) rfl ?_
           exact ⟨by first | rfl | (simp [errW_none, errW_some] <;> rfl) | (simp only [← hji14]; first | rfl | (simp [errW_none, errW_some] <;> rfl)) | (simp [*, errW_none, errW_some] <;> rfl), by repeat (first | (with_reducible first | exact HB.out | apply below_alloc | apply pw_below_drewN | apply below_drew1 | refine below_set ?_ GE363.out | refine below_set ?_ GE364.out) | exact HB.out)⟩
          ·replace c25 := Bool.eq_false_iff.mpr c25
           subst c25
           have H1 : (if (IntKind.u64.wrap (bt a0_0 (ji14))) < 128 then (some (a0_0, wrap64 ((wrap64 (a0_1 + x6_1)) + 1), 0, IntKind.u64.wrap (x4_1 + (IntKind.u64.wrap ((Int.tmod (IntKind.u64.wrap (bt a0_0 (ji14))) 128) * x5_1))))) else (parchmentref02_Cursor_Uint.l0 kj17 (IntKind.u64.wrap (x4_1 + (IntKind.u64.wrap ((Int.tmod (IntKind.u64.wrap (bt a0_0 (ji14))) 128) * x5_1)))) (IntKind.u64.wrap (x5_1 * 128)) (wrap64 (x6_1 + 1)) a0_0 a0_1 a0_2)) = some (r1, r2, r3, r4) := by rw [if_neg (show ¬ (false = true) by decide)] at H; exact H
           clear H
           have H := H1
           clear H1
           by_cases c31 : (IntKind.u64.wrap (bt a0_0 (ji14))) < 128
           ·rw [if_pos c31] at H
            have c31b0 : decide ((IntKind.u64.wrap (bt a0_0 (ji14))) < 128) = true := decide_eq_true c31
            clear c31
            simp only [Option.some.injEq, Prod.mk.injEq] at H
            obtain ⟨rfl, rfl, rfl, rfl⟩ := H
            have hnb32 := NB363_364.out
            have hnc32 := NB364_363.out
            obtain ⟨z33_0, z33_1, z33_2, f33_0, f33_1, f33_2⟩ := bc3_ BK363.out
            obtain ⟨z34_0, z34_1, z34_2, f34_0, f34_1, f34_2⟩ := bc3_ BK364.out
            go_wp2
            (try subst hji14)
            refine bodyPost_ret (results_ct rfl _ _ gb364 112 #[.string a0_0, .int .i64 (wrap64 ((wrap64 (a0_1 + x6_1)) + 1)), .int .i64 0] (0, 0) _ rfl (bz_ BK364.out) Try.underlying112 rfl (by kernel_rfl)) rfl ?_
            exact ⟨by first | rfl | (simp [errW_none, errW_some] <;> rfl) | (simp only [← hji14]; first | rfl | (simp [errW_none, errW_some] <;> rfl)) | (simp [*, errW_none, errW_some] <;> rfl), by repeat (first | (with_reducible first | exact HB.out | apply below_alloc | apply pw_below_drewN | apply below_drew1 | refine below_set ?_ GE363.out | refine below_set ?_ GE364.out) | exact HB.out)⟩
           ·rw [if_neg c31] at H
            have c31b0 : decide ((IntKind.u64.wrap (bt a0_0 (ji14))) < 128) = false := decide_eq_false c31
            clear c31
            have H' := Aside0.mk H
            clear H
            go_wp2
            go_roundg kj17
            case measure => have := HK1.out; have := HJ17.out; omega
            case rel => exact ⟨(IntKind.u64.wrap (x4_1 + (IntKind.u64.wrap ((Int.tmod (IntKind.u64.wrap (bt a0_0 (ji14))) 128) * x5_1)))), (IntKind.u64.wrap (x5_1 * 128)), (wrap64 (x6_1 + 1)), (x365000_1), (x365001_1), (x365002_1), (by first | rfl | (simp; done) | (simp only [← hji14] <;> (first | rfl | simp)) | (simp [*]; done)), (by first | rfl | (simp; done) | (simp [*]; done)), (by first | rfl | (simp; done) | (simp [*]; done)), (by first | exact H' | (subst hji14; exact H') | (subst hji14; exact H')), ⟨by have := HK1.out; have := HJ17.out; omega⟩, ⟨bz_ BK363.out⟩, ⟨bz_ BK364.out⟩, ⟨bh_ HB.out⟩⟩
       ·rw [if_neg c16] at H
        exact absurd H (by simp)
      ·rw [if_neg c15] at H
       exact absurd H (by simp)
    ·rw [if_neg c7] at H
     have c7b0 : decide (x6_1 < 11) = false := decide_eq_false c7
     clear c7
     replace H := Option.bind_eq_some_iff.mp H
     obtain ⟨⟨t365, t366, t367⟩, A350, H⟩ := H
     replace H : (some (t365, t366, t367, 0)) = some (r1, r2, r3, r4) := H
     have A35 := Aside0.mk A350
     clear A350
     simp only [Option.some.injEq, Prod.mk.injEq] at H
     obtain ⟨rfl, rfl, rfl, rfl⟩ := H
     have hnb36 := NB363_364.out
     have hnc36 := NB364_363.out
     obtain ⟨z37_0, z37_1, z37_2, f37_0, f37_1, f37_2⟩ := bc3_ BK363.out
     go_wp2_with (first | ((with_reducible refine gate_callee (f := 90) rfl ?_); refine gl_ (some 70) Try.func90 #[.agg #[.string a0_0, .int .i64 a0_1, .int .i64 a0_2], .int .i64 6] ?_; (with_reducible refine (parchmentref02_Cursor_with.calls a0_0 a0_1 a0_2 6 t365 t366 t367 _ A35.out).mono ?_); rintro e w38 ⟨rfl, hb⟩; refine ⟨_, rfl, ?_⟩; replace BK363 := Aside0.mk (bk_ BK363.out hb); replace BK364 := Aside0.mk (bk_ BK364.out hb); replace HB := Aside0.mk (below_step (bh_ HB.out) hb); (try clear hb); obtain ⟨z39_0, z39_1, z39_2, f39_0, f39_1, f39_2⟩ := bc3_ BK364.out))
     refine bodyPost_ret (results_ct rfl _ _ gb364 112 #[.string t365, .int .i64 t366, .int .i64 t367] (0, 0) _ rfl (bz_ BK364.out) Try.underlying112 rfl (by kernel_rfl)) rfl ?_
     exact ⟨by first | rfl | (simp [errW_none, errW_some] <;> rfl) | (simp [*, errW_none, errW_some] <;> rfl), by repeat (first | (with_reducible first | exact HB.out | apply below_alloc | apply pw_below_drewN | apply below_drew1 | refine below_set ?_ GE363.out | refine below_set ?_ GE364.out) | exact HB.out)⟩
 ·rw [if_neg c2] at H
  have c2b0 : (a0_2 == 0) = false := beq_eq_false_iff_ne.mpr c2
  have c2b1 : (a0_2 != 0) = true := bne_iff_ne.mpr c2
  simp only [Option.some.injEq, Prod.mk.injEq] at H
  obtain ⟨rfl, rfl, rfl, rfl⟩ := H
  go_enter Try.func68, Try.ntmps68
  go_wp2_with (first | ((with_reducible refine gate_dst (N := 1) rfl ?_); refine box_event ?hg (N := 1) ?hd (cs := #[.string a0_0, .int .i64 a0_1, .int .i64 a0_2]) (t := 112) ?hr ?_; (case hd => rfl); (case hg => rfl); (case hr => first | (go_simp; done) | (go_simp; rfl)); intro gb363 hg w40 hbox hb; have n0_ := Aside0.mk (below_step (bh_ HB.out) hb); have n1_ := Aside0.mk (hbox); have n2_ := Aside0.mk ((by rw [hg]; exact (below_size (bh_ HB.out)) : w.heap.size ≤ gb363)); have n3_ := Aside0.mk ((by rw [hg]; exact (below_size (bh_ HB.out)) : w.heap.size ≤ gb363)); clear HB; have HB := n0_; have BK363 := n1_; have GW363 := n2_; have GE363 := n3_; clear n0_ n1_ n2_ n3_; clear hb hbox hg) | ((with_reducible refine gate_dst (N := 2) rfl ?_); refine box_event ?hg (N := 2) ?hd (cs := #[.string (⟨#[]⟩ : ByteArray), .int .i64 0, .int .i64 0]) (t := 112) ?hr ?_; (case hd => rfl); (case hg => rfl); (case hr => first | (go_simp; done) | (go_simp; rfl)); intro gb364 hg w41 hbox hb; have n0_ := Aside0.mk (bk_ BK363.out hb); have n1_ := Aside0.mk (below_step (bh_ HB.out) hb); have n2_ := Aside0.mk (hbox); have n3_ := Aside0.mk ((by rw [hg]; exact (below_size (bh_ HB.out)) : w.heap.size ≤ gb364)); have n4_ := Aside0.mk ((by rw [hg]; exact (below_size (bh_ HB.out)) : w.heap.size ≤ gb364)); have n5_ := Aside0.mk ((by rw [hg]; exact Nat.ne_of_lt (blk_lt (g := gb363) (o := .cells #[.string a0_0, .int .i64 a0_1, .int .i64 a0_2] 112 (0, 0)) (bz_ BK363.out)) : gb363 ≠ gb364)); have n6_ := Aside0.mk ((by rw [hg]; exact Nat.ne_of_gt (blk_lt (g := gb363) (o := .cells #[.string a0_0, .int .i64 a0_1, .int .i64 a0_2] 112 (0, 0)) (bz_ BK363.out)) : gb364 ≠ gb363)); clear BK363; clear HB; have BK363 := n0_; have HB := n1_; have BK364 := n2_; have GW364 := n3_; have GE364 := n4_; have NB363_364 := n5_; have NB364_363 := n6_; clear n0_ n1_ n2_ n3_ n4_ n5_ n6_; clear hb hbox hg; have hnb42 := NB363_364.out; have hnc42 := NB364_363.out; obtain ⟨z43_0, z43_1, z43_2, f43_0, f43_1, f43_2⟩ := bc3_ BK363.out; obtain ⟨z44_0, z44_1, z44_2, f44_0, f44_1, f44_2⟩ := bc3_ BK364.out))
  refine bodyPost_ret (results_ct rfl _ _ gb364 112 #[.string a0_0, .int .i64 a0_1, .int .i64 a0_2] (0, 0) _ rfl (bz_ BK364.out) Try.underlying112 rfl (by kernel_rfl)) rfl ?_
  exact ⟨by first | rfl | (simp [errW_none, errW_some] <;> rfl) | (simp [*, errW_none, errW_some] <;> rfl), by repeat (first | (with_reducible first | exact HB.out | apply below_alloc | apply pw_below_drewN | apply below_drew1 | refine below_set ?_ GE363.out | refine below_set ?_ GE364.out) | exact HB.out)⟩
/-! ### parchmentref02_Cursor_Count: function 70 -/
def parchmentref02_Cursor_Count.f (k : Nat) (a0_0 : ByteArray) (a0_1 : Int) (a0_2 : Int) (a1 : Int) : Option (ByteArray × Int × Int × Int) := (parchmentref02_Cursor_Uint.f k a0_0 a0_1 a0_2).bind fun bt376 => (if bt376.2.2.1 = 0 then (if a1 < 0 then ((parchmentref02_Cursor_with.f a0_0 a0_1 a0_2 3).bind fun bt381 => (some (bt381.1, bt381.2.1, bt381.2.2, 0))) else (if bt376.2.2.2 > (IntKind.u64.wrap (a1)) then ((parchmentref02_Cursor_with.f a0_0 a0_1 a0_2 3).bind fun bt384 => (some (bt384.1, bt384.2.1, bt384.2.2, 0))) else (some (bt376.1, bt376.2.1, bt376.2.2.1, wrap64 (bt376.2.2.2))))) else (some (bt376.1, bt376.2.1, bt376.2.2.1, wrap64 (bt376.2.2.2))))
set_option maxHeartbeats 8000000 in
set_option maxRecDepth 100000 in
theorem parchmentref02_Cursor_Count.calls (k : Nat) (a0_0 : ByteArray) (a0_1 : Int) (a0_2 : Int) (a1 : Int) (r1 : ByteArray) (r2 : Int) (r3 : Int) (r4 : Int) (w : World) (h : parchmentref02_Cursor_Count.f k a0_0 a0_1 a0_2 a1 = some (r1, r2, r3, r4)) :
  Calls Try.prog 70 #[.agg #[.string a0_0, .int .i64 a0_1, .int .i64 a0_2], .int .i64 a1] w fun e w' => e = .returned (.tuple #[.agg #[.string r1, .int .i64 r2, .int .i64 r3], .int .i64 r4]) ∧ Below w.heap.size w w' := by
 have hu112 := Try.underlying112
 have HB := Aside0.mk (Below.refl w.heap.size w)
 have H : ((parchmentref02_Cursor_Uint.f k a0_0 a0_1 a0_2).bind fun bt376 => (if bt376.2.2.1 = 0 then (if a1 < 0 then ((parchmentref02_Cursor_with.f a0_0 a0_1 a0_2 3).bind fun bt381 => (some (bt381.1, bt381.2.1, bt381.2.2, 0))) else (if bt376.2.2.2 > (IntKind.u64.wrap (a1)) then ((parchmentref02_Cursor_with.f a0_0 a0_1 a0_2 3).bind fun bt384 => (some (bt384.1, bt384.2.1, bt384.2.2, 0))) else (some (bt376.1, bt376.2.1, bt376.2.2.1, wrap64 (bt376.2.2.2))))) else (some (bt376.1, bt376.2.1, bt376.2.2.1, wrap64 (bt376.2.2.2))))) = some (r1, r2, r3, r4) := h
 clear h
 replace H := Option.bind_eq_some_iff.mp H
 obtain ⟨⟨t376, t377, t378, t379⟩, A30, H⟩ := H
 replace H : (if t378 = 0 then (if a1 < 0 then ((parchmentref02_Cursor_with.f a0_0 a0_1 a0_2 3).bind fun bt381 => (some (bt381.1, bt381.2.1, bt381.2.2, 0))) else (if t379 > (IntKind.u64.wrap (a1)) then ((parchmentref02_Cursor_with.f a0_0 a0_1 a0_2 3).bind fun bt384 => (some (bt384.1, bt384.2.1, bt384.2.2, 0))) else (some (t376, t377, t378, wrap64 (t379))))) else (some (t376, t377, t378, wrap64 (t379)))) = some (r1, r2, r3, r4) := H
 have A3 := Aside0.mk A30
 clear A30
 by_cases c4 : t378 = 0
 ·rw [if_pos c4] at H
  have c4b0 : (t378 == 0) = true := beq_iff_eq.mpr c4
  have c4b1 : (t378 != 0) = false := bne_eq_false_iff_eq.mpr c4
  clear c4
  by_cases c5 : a1 < 0
  ·rw [if_pos c5] at H
   have c5b0 : decide (a1 < 0) = true := decide_eq_true c5
   clear c5
   replace H := Option.bind_eq_some_iff.mp H
   obtain ⟨⟨t381, t382, t383⟩, A60, H⟩ := H
   replace H : (some (t381, t382, t383, 0)) = some (r1, r2, r3, r4) := H
   have A6 := Aside0.mk A60
   clear A60
   simp only [Option.some.injEq, Prod.mk.injEq] at H
   obtain ⟨rfl, rfl, rfl, rfl⟩ := H
   go_enter Try.func70, Try.ntmps70
   go_wp2_with (first | ((with_reducible refine gate_dst (N := 2) rfl ?_); refine box_event ?hg (N := 2) ?hd (cs := #[.string a0_0, .int .i64 a0_1, .int .i64 a0_2]) (t := 112) ?hr ?_; (case hd => rfl); (case hg => rfl); (case hr => first | (go_simp; done) | (go_simp; rfl)); intro gb374 hg w7 hbox hb; have n0_ := Aside0.mk (below_step (bh_ HB.out) hb); have n1_ := Aside0.mk (hbox); have n2_ := Aside0.mk ((by rw [hg]; exact (below_size (bh_ HB.out)) : w.heap.size ≤ gb374)); have n3_ := Aside0.mk ((by rw [hg]; exact (below_size (bh_ HB.out)) : w.heap.size ≤ gb374)); clear HB; have HB := n0_; have BK374 := n1_; have GW374 := n2_; have GE374 := n3_; clear n0_ n1_ n2_ n3_; clear hb hbox hg) | ((with_reducible refine gate_dst (N := 4) rfl ?_); refine box_event ?hg (N := 4) ?hd (cs := #[.string (⟨#[]⟩ : ByteArray), .int .i64 0, .int .i64 0]) (t := 112) ?hr ?_; (case hd => rfl); (case hg => rfl); (case hr => first | (go_simp; done) | (go_simp; rfl)); intro gb375 hg w8 hbox hb; have n0_ := Aside0.mk (bk_ BK374.out hb); have n1_ := Aside0.mk (below_step (bh_ HB.out) hb); have n2_ := Aside0.mk (hbox); have n3_ := Aside0.mk ((by rw [hg]; exact (below_size (bh_ HB.out)) : w.heap.size ≤ gb375)); have n4_ := Aside0.mk ((by rw [hg]; exact (below_size (bh_ HB.out)) : w.heap.size ≤ gb375)); have n5_ := Aside0.mk ((by rw [hg]; exact Nat.ne_of_lt (blk_lt (g := gb374) (o := .cells #[.string a0_0, .int .i64 a0_1, .int .i64 a0_2] 112 (0, 0)) (bz_ BK374.out)) : gb374 ≠ gb375)); have n6_ := Aside0.mk ((by rw [hg]; exact Nat.ne_of_gt (blk_lt (g := gb374) (o := .cells #[.string a0_0, .int .i64 a0_1, .int .i64 a0_2] 112 (0, 0)) (bz_ BK374.out)) : gb375 ≠ gb374)); clear BK374; clear HB; have BK374 := n0_; have HB := n1_; have BK375 := n2_; have GW375 := n3_; have GE375 := n4_; have NB374_375 := n5_; have NB375_374 := n6_; clear n0_ n1_ n2_ n3_ n4_ n5_ n6_; clear hb hbox hg; have hnb9 := NB374_375.out; have hnc9 := NB375_374.out; obtain ⟨z10_0, z10_1, z10_2, f10_0, f10_1, f10_2⟩ := bc3_ BK374.out) | ((with_reducible refine gate_callee (f := 68) rfl ?_); refine gl_ (some 10) Try.func68 #[.agg #[.string a0_0, .int .i64 a0_1, .int .i64 a0_2]] ?_; (with_reducible refine (parchmentref02_Cursor_Uint.calls k a0_0 a0_1 a0_2 t376 t377 t378 t379 _ A3.out).mono ?_); rintro e w11 ⟨rfl, hb⟩; refine ⟨_, rfl, ?_⟩; replace BK374 := Aside0.mk (bk_ BK374.out hb); replace BK375 := Aside0.mk (bk_ BK375.out hb); replace HB := Aside0.mk (below_step (bh_ HB.out) hb); (try clear hb)) | ((with_reducible refine gate_dst (N := 6) rfl ?_); refine box_event ?hg (N := 6) ?hd (cs := #[.string (⟨#[]⟩ : ByteArray), .int .i64 0, .int .i64 0]) (t := 112) ?hr ?_; (case hd => rfl); (case hg => rfl); (case hr => first | (go_simp; done) | (go_simp; rfl)); intro gb380 hg w12 hbox hb; have n0_ := Aside0.mk (bk_ BK374.out hb); have n1_ := Aside0.mk (bk_ BK375.out hb); have n2_ := Aside0.mk (below_step (bh_ HB.out) hb); have n3_ := Aside0.mk (hbox); have n4_ := Aside0.mk ((by rw [hg]; exact (below_size (bh_ HB.out)) : w.heap.size ≤ gb380)); have n5_ := Aside0.mk ((by rw [hg]; exact (below_size (bh_ HB.out)) : w.heap.size ≤ gb380)); have n6_ := Aside0.mk ((by rw [hg]; exact Nat.ne_of_lt (blk_lt (g := gb374) (o := .cells #[.string a0_0, .int .i64 a0_1, .int .i64 a0_2] 112 (0, 0)) (bz_ BK374.out)) : gb374 ≠ gb380)); have n7_ := Aside0.mk ((by rw [hg]; exact Nat.ne_of_gt (blk_lt (g := gb374) (o := .cells #[.string a0_0, .int .i64 a0_1, .int .i64 a0_2] 112 (0, 0)) (bz_ BK374.out)) : gb380 ≠ gb374)); have n8_ := Aside0.mk ((by rw [hg]; exact Nat.ne_of_lt (blk_lt (g := gb375) (o := .cells #[.string (⟨#[]⟩ : ByteArray), .int .i64 0, .int .i64 0] 112 (0, 0)) (bz_ BK375.out)) : gb375 ≠ gb380)); have n9_ := Aside0.mk ((by rw [hg]; exact Nat.ne_of_gt (blk_lt (g := gb375) (o := .cells #[.string (⟨#[]⟩ : ByteArray), .int .i64 0, .int .i64 0] 112 (0, 0)) (bz_ BK375.out)) : gb380 ≠ gb375)); clear BK374; clear BK375; clear HB; have BK374 := n0_; have BK375 := n1_; have HB := n2_; have BK380 := n3_; have GW380 := n4_; have GE380 := n5_; have NB374_380 := n6_; have NB380_374 := n7_; have NB375_380 := n8_; have NB380_375 := n9_; clear n0_ n1_ n2_ n3_ n4_ n5_ n6_ n7_ n8_ n9_; clear hb hbox hg; have hnb13 := NB380_374.out; have hnc13 := NB374_380.out; have hnb14 := NB380_375.out; have hnc14 := NB375_380.out; obtain ⟨z15_0, z15_1, z15_2, f15_0, f15_1, f15_2⟩ := bc3_ BK380.out; obtain ⟨z16_0, z16_1, z16_2, f16_0, f16_1, f16_2⟩ := bc3_ BK374.out) | ((with_reducible refine gate_callee (f := 90) rfl ?_); refine gl_ (some 27) Try.func90 #[.agg #[.string a0_0, .int .i64 a0_1, .int .i64 a0_2], .int .i64 3] ?_; (with_reducible refine (parchmentref02_Cursor_with.calls a0_0 a0_1 a0_2 3 t381 t382 t383 _ A6.out).mono ?_); rintro e w17 ⟨rfl, hb⟩; refine ⟨_, rfl, ?_⟩; replace BK374 := Aside0.mk (bf_ BK374.out hb); replace BK375 := Aside0.mk (bf_ BK375.out hb); replace BK380 := Aside0.mk (bp_ (o' := .cells #[.string t376, .int .i64 t377, .int .i64 t378] 112 (0, 0)) BK380.out hb); replace HB := Aside0.mk (below_step (bh_ HB.out) hb); (try clear hb); obtain ⟨z18_0, z18_1, z18_2, f18_0, f18_1, f18_2⟩ := bc3_ BK375.out))
   refine bodyPost_ret (results_ct rfl _ _ gb375 112 #[.string t381, .int .i64 t382, .int .i64 t383] (0, 0) _ rfl (bz_ BK375.out) Try.underlying112 rfl (by kernel_rfl)) rfl ?_
   exact ⟨by first | rfl | (simp [errW_none, errW_some] <;> rfl) | (simp [*, errW_none, errW_some] <;> rfl), by repeat (first | (with_reducible first | exact HB.out | apply below_alloc | apply pw_below_drewN | apply below_drew1 | refine below_set ?_ GE374.out | refine below_set ?_ GE375.out | refine below_set ?_ GE380.out) | exact HB.out)⟩
  ·rw [if_neg c5] at H
   have c5b0 : decide (a1 < 0) = false := decide_eq_false c5
   clear c5
   by_cases c19 : t379 > (IntKind.u64.wrap (a1))
   ·rw [if_pos c19] at H
    have c19b0 : decide ((IntKind.u64.wrap (a1)) < t379) = true := decide_eq_true c19
    clear c19
    replace H := Option.bind_eq_some_iff.mp H
    obtain ⟨⟨t384, t385, t386⟩, A200, H⟩ := H
    replace H : (some (t384, t385, t386, 0)) = some (r1, r2, r3, r4) := H
    have A20 := Aside0.mk A200
    clear A200
    simp only [Option.some.injEq, Prod.mk.injEq] at H
    obtain ⟨rfl, rfl, rfl, rfl⟩ := H
    go_enter Try.func70, Try.ntmps70
    go_wp2_with (first | ((with_reducible refine gate_dst (N := 2) rfl ?_); refine box_event ?hg (N := 2) ?hd (cs := #[.string a0_0, .int .i64 a0_1, .int .i64 a0_2]) (t := 112) ?hr ?_; (case hd => rfl); (case hg => rfl); (case hr => first | (go_simp; done) | (go_simp; rfl)); intro gb374 hg w21 hbox hb; have n0_ := Aside0.mk (below_step (bh_ HB.out) hb); have n1_ := Aside0.mk (hbox); have n2_ := Aside0.mk ((by rw [hg]; exact (below_size (bh_ HB.out)) : w.heap.size ≤ gb374)); have n3_ := Aside0.mk ((by rw [hg]; exact (below_size (bh_ HB.out)) : w.heap.size ≤ gb374)); clear HB; have HB := n0_; have BK374 := n1_; have GW374 := n2_; have GE374 := n3_; clear n0_ n1_ n2_ n3_; clear hb hbox hg) | ((with_reducible refine gate_dst (N := 4) rfl ?_); refine box_event ?hg (N := 4) ?hd (cs := #[.string (⟨#[]⟩ : ByteArray), .int .i64 0, .int .i64 0]) (t := 112) ?hr ?_; (case hd => rfl); (case hg => rfl); (case hr => first | (go_simp; done) | (go_simp; rfl)); intro gb375 hg w22 hbox hb; have n0_ := Aside0.mk (bk_ BK374.out hb); have n1_ := Aside0.mk (below_step (bh_ HB.out) hb); have n2_ := Aside0.mk (hbox); have n3_ := Aside0.mk ((by rw [hg]; exact (below_size (bh_ HB.out)) : w.heap.size ≤ gb375)); have n4_ := Aside0.mk ((by rw [hg]; exact (below_size (bh_ HB.out)) : w.heap.size ≤ gb375)); have n5_ := Aside0.mk ((by rw [hg]; exact Nat.ne_of_lt (blk_lt (g := gb374) (o := .cells #[.string a0_0, .int .i64 a0_1, .int .i64 a0_2] 112 (0, 0)) (bz_ BK374.out)) : gb374 ≠ gb375)); have n6_ := Aside0.mk ((by rw [hg]; exact Nat.ne_of_gt (blk_lt (g := gb374) (o := .cells #[.string a0_0, .int .i64 a0_1, .int .i64 a0_2] 112 (0, 0)) (bz_ BK374.out)) : gb375 ≠ gb374)); clear BK374; clear HB; have BK374 := n0_; have HB := n1_; have BK375 := n2_; have GW375 := n3_; have GE375 := n4_; have NB374_375 := n5_; have NB375_374 := n6_; clear n0_ n1_ n2_ n3_ n4_ n5_ n6_; clear hb hbox hg; have hnb23 := NB374_375.out; have hnc23 := NB375_374.out; obtain ⟨z24_0, z24_1, z24_2, f24_0, f24_1, f24_2⟩ := bc3_ BK374.out) | ((with_reducible refine gate_callee (f := 68) rfl ?_); refine gl_ (some 10) Try.func68 #[.agg #[.string a0_0, .int .i64 a0_1, .int .i64 a0_2]] ?_; (with_reducible refine (parchmentref02_Cursor_Uint.calls k a0_0 a0_1 a0_2 t376 t377 t378 t379 _ A3.out).mono ?_); rintro e w25 ⟨rfl, hb⟩; refine ⟨_, rfl, ?_⟩; replace BK374 := Aside0.mk (bk_ BK374.out hb); replace BK375 := Aside0.mk (bk_ BK375.out hb); replace HB := Aside0.mk (below_step (bh_ HB.out) hb); (try clear hb)) | ((with_reducible refine gate_dst (N := 6) rfl ?_); refine box_event ?hg (N := 6) ?hd (cs := #[.string (⟨#[]⟩ : ByteArray), .int .i64 0, .int .i64 0]) (t := 112) ?hr ?_; (case hd => rfl); (case hg => rfl); (case hr => first | (go_simp; done) | (go_simp; rfl)); intro gb380 hg w26 hbox hb; have n0_ := Aside0.mk (bk_ BK374.out hb); have n1_ := Aside0.mk (bk_ BK375.out hb); have n2_ := Aside0.mk (below_step (bh_ HB.out) hb); have n3_ := Aside0.mk (hbox); have n4_ := Aside0.mk ((by rw [hg]; exact (below_size (bh_ HB.out)) : w.heap.size ≤ gb380)); have n5_ := Aside0.mk ((by rw [hg]; exact (below_size (bh_ HB.out)) : w.heap.size ≤ gb380)); have n6_ := Aside0.mk ((by rw [hg]; exact Nat.ne_of_lt (blk_lt (g := gb374) (o := .cells #[.string a0_0, .int .i64 a0_1, .int .i64 a0_2] 112 (0, 0)) (bz_ BK374.out)) : gb374 ≠ gb380)); have n7_ := Aside0.mk ((by rw [hg]; exact Nat.ne_of_gt (blk_lt (g := gb374) (o := .cells #[.string a0_0, .int .i64 a0_1, .int .i64 a0_2] 112 (0, 0)) (bz_ BK374.out)) : gb380 ≠ gb374)); have n8_ := Aside0.mk ((by rw [hg]; exact Nat.ne_of_lt (blk_lt (g := gb375) (o := .cells #[.string (⟨#[]⟩ : ByteArray), .int .i64 0, .int .i64 0] 112 (0, 0)) (bz_ BK375.out)) : gb375 ≠ gb380)); have n9_ := Aside0.mk ((by rw [hg]; exact Nat.ne_of_gt (blk_lt (g := gb375) (o := .cells #[.string (⟨#[]⟩ : ByteArray), .int .i64 0, .int .i64 0] 112 (0, 0)) (bz_ BK375.out)) : gb380 ≠ gb375)); clear BK374; clear BK375; clear HB; have BK374 := n0_; have BK375 := n1_; have HB := n2_; have BK380 := n3_; have GW380 := n4_; have GE380 := n5_; have NB374_380 := n6_; have NB380_374 := n7_; have NB375_380 := n8_; have NB380_375 := n9_; clear n0_ n1_ n2_ n3_ n4_ n5_ n6_ n7_ n8_ n9_; clear hb hbox hg; have hnb27 := NB380_374.out; have hnc27 := NB374_380.out; have hnb28 := NB380_375.out; have hnc28 := NB375_380.out; obtain ⟨z29_0, z29_1, z29_2, f29_0, f29_1, f29_2⟩ := bc3_ BK380.out; obtain ⟨z30_0, z30_1, z30_2, f30_0, f30_1, f30_2⟩ := bc3_ BK374.out) | ((with_reducible refine gate_callee (f := 90) rfl ?_); refine gl_ (some 27) Try.func90 #[.agg #[.string a0_0, .int .i64 a0_1, .int .i64 a0_2], .int .i64 3] ?_; (with_reducible refine (parchmentref02_Cursor_with.calls a0_0 a0_1 a0_2 3 t384 t385 t386 _ A20.out).mono ?_); rintro e w31 ⟨rfl, hb⟩; refine ⟨_, rfl, ?_⟩; replace BK374 := Aside0.mk (bf_ BK374.out hb); replace BK375 := Aside0.mk (bf_ BK375.out hb); replace BK380 := Aside0.mk (bp_ (o' := .cells #[.string t376, .int .i64 t377, .int .i64 t378] 112 (0, 0)) BK380.out hb); replace HB := Aside0.mk (below_step (bh_ HB.out) hb); (try clear hb); obtain ⟨z32_0, z32_1, z32_2, f32_0, f32_1, f32_2⟩ := bc3_ BK375.out))
    refine bodyPost_ret (results_ct rfl _ _ gb375 112 #[.string t384, .int .i64 t385, .int .i64 t386] (0, 0) _ rfl (bz_ BK375.out) Try.underlying112 rfl (by kernel_rfl)) rfl ?_
    exact ⟨by first | rfl | (simp [errW_none, errW_some] <;> rfl) | (simp [*, errW_none, errW_some] <;> rfl), by repeat (first | (with_reducible first | exact HB.out | apply below_alloc | apply pw_below_drewN | apply below_drew1 | refine below_set ?_ GE374.out | refine below_set ?_ GE375.out | refine below_set ?_ GE380.out) | exact HB.out)⟩
   ·rw [if_neg c19] at H
    have c19b0 : decide ((IntKind.u64.wrap (a1)) < t379) = false := decide_eq_false c19
    clear c19
    simp only [Option.some.injEq, Prod.mk.injEq] at H
    obtain ⟨rfl, rfl, rfl, rfl⟩ := H
    go_enter Try.func70, Try.ntmps70
    go_wp2_with (first | ((with_reducible refine gate_dst (N := 2) rfl ?_); refine box_event ?hg (N := 2) ?hd (cs := #[.string a0_0, .int .i64 a0_1, .int .i64 a0_2]) (t := 112) ?hr ?_; (case hd => rfl); (case hg => rfl); (case hr => first | (go_simp; done) | (go_simp; rfl)); intro gb374 hg w33 hbox hb; have n0_ := Aside0.mk (below_step (bh_ HB.out) hb); have n1_ := Aside0.mk (hbox); have n2_ := Aside0.mk ((by rw [hg]; exact (below_size (bh_ HB.out)) : w.heap.size ≤ gb374)); have n3_ := Aside0.mk ((by rw [hg]; exact (below_size (bh_ HB.out)) : w.heap.size ≤ gb374)); clear HB; have HB := n0_; have BK374 := n1_; have GW374 := n2_; have GE374 := n3_; clear n0_ n1_ n2_ n3_; clear hb hbox hg) | ((with_reducible refine gate_dst (N := 4) rfl ?_); refine box_event ?hg (N := 4) ?hd (cs := #[.string (⟨#[]⟩ : ByteArray), .int .i64 0, .int .i64 0]) (t := 112) ?hr ?_; (case hd => rfl); (case hg => rfl); (case hr => first | (go_simp; done) | (go_simp; rfl)); intro gb375 hg w34 hbox hb; have n0_ := Aside0.mk (bk_ BK374.out hb); have n1_ := Aside0.mk (below_step (bh_ HB.out) hb); have n2_ := Aside0.mk (hbox); have n3_ := Aside0.mk ((by rw [hg]; exact (below_size (bh_ HB.out)) : w.heap.size ≤ gb375)); have n4_ := Aside0.mk ((by rw [hg]; exact (below_size (bh_ HB.out)) : w.heap.size ≤ gb375)); have n5_ := Aside0.mk ((by rw [hg]; exact Nat.ne_of_lt (blk_lt (g := gb374) (o := .cells #[.string a0_0, .int .i64 a0_1, .int .i64 a0_2] 112 (0, 0)) (bz_ BK374.out)) : gb374 ≠ gb375)); have n6_ := Aside0.mk ((by rw [hg]; exact Nat.ne_of_gt (blk_lt (g := gb374) (o := .cells #[.string a0_0, .int .i64 a0_1, .int .i64 a0_2] 112 (0, 0)) (bz_ BK374.out)) : gb375 ≠ gb374)); clear BK374; clear HB; have BK374 := n0_; have HB := n1_; have BK375 := n2_; have GW375 := n3_; have GE375 := n4_; have NB374_375 := n5_; have NB375_374 := n6_; clear n0_ n1_ n2_ n3_ n4_ n5_ n6_; clear hb hbox hg; have hnb35 := NB374_375.out; have hnc35 := NB375_374.out; obtain ⟨z36_0, z36_1, z36_2, f36_0, f36_1, f36_2⟩ := bc3_ BK374.out) | ((with_reducible refine gate_callee (f := 68) rfl ?_); refine gl_ (some 10) Try.func68 #[.agg #[.string a0_0, .int .i64 a0_1, .int .i64 a0_2]] ?_; (with_reducible refine (parchmentref02_Cursor_Uint.calls k a0_0 a0_1 a0_2 t376 t377 t378 t379 _ A3.out).mono ?_); rintro e w37 ⟨rfl, hb⟩; refine ⟨_, rfl, ?_⟩; replace BK374 := Aside0.mk (bk_ BK374.out hb); replace BK375 := Aside0.mk (bk_ BK375.out hb); replace HB := Aside0.mk (below_step (bh_ HB.out) hb); (try clear hb)) | ((with_reducible refine gate_dst (N := 6) rfl ?_); refine box_event ?hg (N := 6) ?hd (cs := #[.string (⟨#[]⟩ : ByteArray), .int .i64 0, .int .i64 0]) (t := 112) ?hr ?_; (case hd => rfl); (case hg => rfl); (case hr => first | (go_simp; done) | (go_simp; rfl)); intro gb380 hg w38 hbox hb; have n0_ := Aside0.mk (bk_ BK374.out hb); have n1_ := Aside0.mk (bk_ BK375.out hb); have n2_ := Aside0.mk (below_step (bh_ HB.out) hb); have n3_ := Aside0.mk (hbox); have n4_ := Aside0.mk ((by rw [hg]; exact (below_size (bh_ HB.out)) : w.heap.size ≤ gb380)); have n5_ := Aside0.mk ((by rw [hg]; exact (below_size (bh_ HB.out)) : w.heap.size ≤ gb380)); have n6_ := Aside0.mk ((by rw [hg]; exact Nat.ne_of_lt (blk_lt (g := gb374) (o := .cells #[.string a0_0, .int .i64 a0_1, .int .i64 a0_2] 112 (0, 0)) (bz_ BK374.out)) : gb374 ≠ gb380)); have n7_ := Aside0.mk ((by rw [hg]; exact Nat.ne_of_gt (blk_lt (g := gb374) (o := .cells #[.string a0_0, .int .i64 a0_1, .int .i64 a0_2] 112 (0, 0)) (bz_ BK374.out)) : gb380 ≠ gb374)); have n8_ := Aside0.mk ((by rw [hg]; exact Nat.ne_of_lt (blk_lt (g := gb375) (o := .cells #[.string (⟨#[]⟩ : ByteArray), .int .i64 0, .int .i64 0] 112 (0, 0)) (bz_ BK375.out)) : gb375 ≠ gb380)); have n9_ := Aside0.mk ((by rw [hg]; exact Nat.ne_of_gt (blk_lt (g := gb375) (o := .cells #[.string (⟨#[]⟩ : ByteArray), .int .i64 0, .int .i64 0] 112 (0, 0)) (bz_ BK375.out)) : gb380 ≠ gb375)); clear BK374; clear BK375; clear HB; have BK374 := n0_; have BK375 := n1_; have HB := n2_; have BK380 := n3_; have GW380 := n4_; have GE380 := n5_; have NB374_380 := n6_; have NB380_374 := n7_; have NB375_380 := n8_; have NB380_375 := n9_; clear n0_ n1_ n2_ n3_ n4_ n5_ n6_ n7_ n8_ n9_; clear hb hbox hg; have hnb39 := NB380_374.out; have hnc39 := NB374_380.out; have hnb40 := NB380_375.out; have hnc40 := NB375_380.out; obtain ⟨z41_0, z41_1, z41_2, f41_0, f41_1, f41_2⟩ := bc3_ BK380.out; obtain ⟨z42_0, z42_1, z42_2, f42_0, f42_1, f42_2⟩ := bc3_ BK375.out))
    refine bodyPost_ret (results_ct rfl _ _ gb375 112 #[.string t376, .int .i64 t377, .int .i64 t378] (0, 0) _ rfl (bz_ BK375.out) Try.underlying112 rfl (by kernel_rfl)) rfl ?_
    exact ⟨by first | rfl | (simp [errW_none, errW_some] <;> rfl) | (simp [*, errW_none, errW_some] <;> rfl), by repeat (first | (with_reducible first | exact HB.out | apply below_alloc | apply pw_below_drewN | apply below_drew1 | refine below_set ?_ GE374.out | refine below_set ?_ GE375.out | refine below_set ?_ GE380.out) | exact HB.out)⟩
 ·rw [if_neg c4] at H
  have c4b0 : (t378 == 0) = false := beq_eq_false_iff_ne.mpr c4
  have c4b1 : (t378 != 0) = true := bne_iff_ne.mpr c4
  simp only [Option.some.injEq, Prod.mk.injEq] at H
  obtain ⟨rfl, rfl, rfl, rfl⟩ := H
  go_enter Try.func70, Try.ntmps70
  go_wp2_with (first | ((with_reducible refine gate_dst (N := 2) rfl ?_); refine box_event ?hg (N := 2) ?hd (cs := #[.string a0_0, .int .i64 a0_1, .int .i64 a0_2]) (t := 112) ?hr ?_; (case hd => rfl); (case hg => rfl); (case hr => first | (go_simp; done) | (go_simp; rfl)); intro gb374 hg w43 hbox hb; have n0_ := Aside0.mk (below_step (bh_ HB.out) hb); have n1_ := Aside0.mk (hbox); have n2_ := Aside0.mk ((by rw [hg]; exact (below_size (bh_ HB.out)) : w.heap.size ≤ gb374)); have n3_ := Aside0.mk ((by rw [hg]; exact (below_size (bh_ HB.out)) : w.heap.size ≤ gb374)); clear HB; have HB := n0_; have BK374 := n1_; have GW374 := n2_; have GE374 := n3_; clear n0_ n1_ n2_ n3_; clear hb hbox hg) | ((with_reducible refine gate_dst (N := 4) rfl ?_); refine box_event ?hg (N := 4) ?hd (cs := #[.string (⟨#[]⟩ : ByteArray), .int .i64 0, .int .i64 0]) (t := 112) ?hr ?_; (case hd => rfl); (case hg => rfl); (case hr => first | (go_simp; done) | (go_simp; rfl)); intro gb375 hg w44 hbox hb; have n0_ := Aside0.mk (bk_ BK374.out hb); have n1_ := Aside0.mk (below_step (bh_ HB.out) hb); have n2_ := Aside0.mk (hbox); have n3_ := Aside0.mk ((by rw [hg]; exact (below_size (bh_ HB.out)) : w.heap.size ≤ gb375)); have n4_ := Aside0.mk ((by rw [hg]; exact (below_size (bh_ HB.out)) : w.heap.size ≤ gb375)); have n5_ := Aside0.mk ((by rw [hg]; exact Nat.ne_of_lt (blk_lt (g := gb374) (o := .cells #[.string a0_0, .int .i64 a0_1, .int .i64 a0_2] 112 (0, 0)) (bz_ BK374.out)) : gb374 ≠ gb375)); have n6_ := Aside0.mk ((by rw [hg]; exact Nat.ne_of_gt (blk_lt (g := gb374) (o := .cells #[.string a0_0, .int .i64 a0_1, .int .i64 a0_2] 112 (0, 0)) (bz_ BK374.out)) : gb375 ≠ gb374)); clear BK374; clear HB; have BK374 := n0_; have HB := n1_; have BK375 := n2_; have GW375 := n3_; have GE375 := n4_; have NB374_375 := n5_; have NB375_374 := n6_; clear n0_ n1_ n2_ n3_ n4_ n5_ n6_; clear hb hbox hg; have hnb45 := NB374_375.out; have hnc45 := NB375_374.out; obtain ⟨z46_0, z46_1, z46_2, f46_0, f46_1, f46_2⟩ := bc3_ BK374.out) | ((with_reducible refine gate_callee (f := 68) rfl ?_); refine gl_ (some 10) Try.func68 #[.agg #[.string a0_0, .int .i64 a0_1, .int .i64 a0_2]] ?_; (with_reducible refine (parchmentref02_Cursor_Uint.calls k a0_0 a0_1 a0_2 t376 t377 t378 t379 _ A3.out).mono ?_); rintro e w47 ⟨rfl, hb⟩; refine ⟨_, rfl, ?_⟩; replace BK374 := Aside0.mk (bk_ BK374.out hb); replace BK375 := Aside0.mk (bk_ BK375.out hb); replace HB := Aside0.mk (below_step (bh_ HB.out) hb); (try clear hb)) | ((with_reducible refine gate_dst (N := 6) rfl ?_); refine box_event ?hg (N := 6) ?hd (cs := #[.string (⟨#[]⟩ : ByteArray), .int .i64 0, .int .i64 0]) (t := 112) ?hr ?_; (case hd => rfl); (case hg => rfl); (case hr => first | (go_simp; done) | (go_simp; rfl)); intro gb380 hg w48 hbox hb; have n0_ := Aside0.mk (bk_ BK374.out hb); have n1_ := Aside0.mk (bk_ BK375.out hb); have n2_ := Aside0.mk (below_step (bh_ HB.out) hb); have n3_ := Aside0.mk (hbox); have n4_ := Aside0.mk ((by rw [hg]; exact (below_size (bh_ HB.out)) : w.heap.size ≤ gb380)); have n5_ := Aside0.mk ((by rw [hg]; exact (below_size (bh_ HB.out)) : w.heap.size ≤ gb380)); have n6_ := Aside0.mk ((by rw [hg]; exact Nat.ne_of_lt (blk_lt (g := gb374) (o := .cells #[.string a0_0, .int .i64 a0_1, .int .i64 a0_2] 112 (0, 0)) (bz_ BK374.out)) : gb374 ≠ gb380)); have n7_ := Aside0.mk ((by rw [hg]; exact Nat.ne_of_gt (blk_lt (g := gb374) (o := .cells #[.string a0_0, .int .i64 a0_1, .int .i64 a0_2] 112 (0, 0)) (bz_ BK374.out)) : gb380 ≠ gb374)); have n8_ := Aside0.mk ((by rw [hg]; exact Nat.ne_of_lt (blk_lt (g := gb375) (o := .cells #[.string (⟨#[]⟩ : ByteArray), .int .i64 0, .int .i64 0] 112 (0, 0)) (bz_ BK375.out)) : gb375 ≠ gb380)); have n9_ := Aside0.mk ((by rw [hg]; exact Nat.ne_of_gt (blk_lt (g := gb375) (o := .cells #[.string (⟨#[]⟩ : ByteArray), .int .i64 0, .int .i64 0] 112 (0, 0)) (bz_ BK375.out)) : gb380 ≠ gb375)); clear BK374; clear BK375; clear HB; have BK374 := n0_; have BK375 := n1_; have HB := n2_; have BK380 := n3_; have GW380 := n4_; have GE380 := n5_; have NB374_380 := n6_; have NB380_374 := n7_; have NB375_380 := n8_; have NB380_375 := n9_; clear n0_ n1_ n2_ n3_ n4_ n5_ n6_ n7_ n8_ n9_; clear hb hbox hg; have hnb49 := NB380_374.out; have hnc49 := NB374_380.out; have hnb50 := NB380_375.out; have hnc50 := NB375_380.out; obtain ⟨z51_0, z51_1, z51_2, f51_0, f51_1, f51_2⟩ := bc3_ BK380.out; obtain ⟨z52_0, z52_1, z52_2, f52_0, f52_1, f52_2⟩ := bc3_ BK375.out))
  refine bodyPost_ret (results_ct rfl _ _ gb375 112 #[.string t376, .int .i64 t377, .int .i64 t378] (0, 0) _ rfl (bz_ BK375.out) Try.underlying112 rfl (by kernel_rfl)) rfl ?_
  exact ⟨by first | rfl | (simp [errW_none, errW_some] <;> rfl) | (simp [*, errW_none, errW_some] <;> rfl), by repeat (first | (with_reducible first | exact HB.out | apply below_alloc | apply pw_below_drewN | apply below_drew1 | refine below_set ?_ GE374.out | refine below_set ?_ GE375.out | refine below_set ?_ GE380.out) | exact HB.out)⟩
/-! ### parchmentref02_Cursor_Bytes: function 71 -/
def parchmentref02_Cursor_Bytes.f (a0_0 : ByteArray) (a0_1 : Int) (a0_2 : Int) (a1 : Int) : Option (ByteArray × Int × Int × ByteArray) := if a0_2 = 0 then (if a1 < 0 then ((parchmentref02_Cursor_with.f a0_0 a0_1 a0_2 1).bind fun bt389 => (some (bt389.1, bt389.2.1, bt389.2.2, (⟨#[]⟩ : ByteArray)))) else (if a1 > (wrap64 ((a0_0.size : Int) - a0_1)) then ((parchmentref02_Cursor_with.f a0_0 a0_1 a0_2 4).bind fun bt392 => (some (bt392.1, bt392.2.1, bt392.2.2, (⟨#[]⟩ : ByteArray)))) else (if 0 ≤ a0_1 then (if a0_1 ≤ (wrap64 (a0_1 + a1)) then (if (wrap64 (a0_1 + a1)) ≤ (a0_0.size : Int) then (some (a0_0, wrap64 (a0_1 + a1), 0, a0_0.extract (a0_1 : Int).toNat ((wrap64 (a0_1 + a1)) : Int).toNat)) else (none)) else (none)) else (none)))) else (some (a0_0, a0_1, a0_2, (⟨#[]⟩ : ByteArray)))
def parchmentref02_Cursor_Bytes.T7 : Bool × List (List Nat × List Nat) := (true, [([], []), ([0], [0]), ([], []), ([2], [2]), ([], []), ([3, 4], [3, 4]), ([1, 5], [1, 5]), ([], []), ([7], [7]), ([], []), ([9], [9]), ([], []), ([11], [11]), ([], []), ([12, 13], [12, 13]), ([8, 10, 14], [8, 10, 14]), ([6, 0, 1, 2, 3, 4, 5, 6], [6]), ([15, 16, 0, 1, 2, 3, 4, 5, 6, 7, 8, 9, 10, 11, 12, 13, 14, 15, 16], [15])])
def parchmentref02_Cursor_Bytes.B7 : List Nat := [0, 1, 0, 4, 0, 28, 63, 0, 128, 0, 512, 0, 2048, 0, 14336, 32640, 127, 131071]
theorem parchmentref02_Cursor_Bytes.tab7 : rtab .any (opsOf Try.f71 7) = parchmentref02_Cursor_Bytes.T7 := by kernel_rfl
theorem parchmentref02_Cursor_Bytes.bits7 : waitsOk parchmentref02_Cursor_Bytes.T7.2 parchmentref02_Cursor_Bytes.B7 = true := by kernel_rfl
set_option maxHeartbeats 8000000 in
set_option maxRecDepth 100000 in
theorem parchmentref02_Cursor_Bytes.calls (a0_0 : ByteArray) (a0_1 : Int) (a0_2 : Int) (a1 : Int) (r1 : ByteArray) (r2 : Int) (r3 : Int) (r4 : ByteArray) (w : World) (h : parchmentref02_Cursor_Bytes.f a0_0 a0_1 a0_2 a1 = some (r1, r2, r3, r4)) :
  Calls Try.prog 71 #[.agg #[.string a0_0, .int .i64 a0_1, .int .i64 a0_2], .int .i64 a1] w fun e w' => e = .returned (.tuple #[.agg #[.string r1, .int .i64 r2, .int .i64 r3], .string r4]) ∧ Below w.heap.size w w' := by
 have hu112 := Try.underlying112
 have HB := Aside0.mk (Below.refl w.heap.size w)
 have H : (if a0_2 = 0 then (if a1 < 0 then ((parchmentref02_Cursor_with.f a0_0 a0_1 a0_2 1).bind fun bt389 => (some (bt389.1, bt389.2.1, bt389.2.2, (⟨#[]⟩ : ByteArray)))) else (if a1 > (wrap64 ((a0_0.size : Int) - a0_1)) then ((parchmentref02_Cursor_with.f a0_0 a0_1 a0_2 4).bind fun bt392 => (some (bt392.1, bt392.2.1, bt392.2.2, (⟨#[]⟩ : ByteArray)))) else (if 0 ≤ a0_1 then (if a0_1 ≤ (wrap64 (a0_1 + a1)) then (if (wrap64 (a0_1 + a1)) ≤ (a0_0.size : Int) then (some (a0_0, wrap64 (a0_1 + a1), 0, a0_0.extract (a0_1 : Int).toNat ((wrap64 (a0_1 + a1)) : Int).toNat)) else (none)) else (none)) else (none)))) else (some (a0_0, a0_1, a0_2, (⟨#[]⟩ : ByteArray)))) = some (r1, r2, r3, r4) := h
 clear h
 by_cases c3 : a0_2 = 0
 ·rw [if_pos c3] at H
  have c3b0 : (a0_2 == 0) = true := beq_iff_eq.mpr c3
  have c3b1 : (a0_2 != 0) = false := bne_eq_false_iff_eq.mpr c3
  clear c3
  by_cases c4 : a1 < 0
  ·rw [if_pos c4] at H
   have c4b0 : decide (a1 < 0) = true := decide_eq_true c4
   clear c4
   replace H := Option.bind_eq_some_iff.mp H
   obtain ⟨⟨t389, t390, t391⟩, A50, H⟩ := H
   replace H : (some (t389, t390, t391, (⟨#[]⟩ : ByteArray))) = some (r1, r2, r3, r4) := H
   have A5 := Aside0.mk A50
   clear A50
   simp only [Option.some.injEq, Prod.mk.injEq] at H
   obtain ⟨rfl, rfl, rfl, rfl⟩ := H
   go_enter Try.func71, Try.ntmps71
   go_wp2_with (first | ((with_reducible refine gate_dst (N := 2) rfl ?_); refine box_event ?hg (N := 2) ?hd (cs := #[.string a0_0, .int .i64 a0_1, .int .i64 a0_2]) (t := 112) ?hr ?_; (case hd => rfl); (case hg => rfl); (case hr => first | (go_simp; done) | (go_simp; rfl)); intro gb387 hg w6 hbox hb; have n0_ := Aside0.mk (below_step (bh_ HB.out) hb); have n1_ := Aside0.mk (hbox); have n2_ := Aside0.mk ((by rw [hg]; exact (below_size (bh_ HB.out)) : w.heap.size ≤ gb387)); have n3_ := Aside0.mk ((by rw [hg]; exact (below_size (bh_ HB.out)) : w.heap.size ≤ gb387)); clear HB; have HB := n0_; have BK387 := n1_; have GW387 := n2_; have GE387 := n3_; clear n0_ n1_ n2_ n3_; clear hb hbox hg) | ((with_reducible refine gate_dst (N := 4) rfl ?_); refine box_event ?hg (N := 4) ?hd (cs := #[.string (⟨#[]⟩ : ByteArray), .int .i64 0, .int .i64 0]) (t := 112) ?hr ?_; (case hd => rfl); (case hg => rfl); (case hr => first | (go_simp; done) | (go_simp; rfl)); intro gb388 hg w7 hbox hb; have n0_ := Aside0.mk (bk_ BK387.out hb); have n1_ := Aside0.mk (below_step (bh_ HB.out) hb); have n2_ := Aside0.mk (hbox); have n3_ := Aside0.mk ((by rw [hg]; exact (below_size (bh_ HB.out)) : w.heap.size ≤ gb388)); have n4_ := Aside0.mk ((by rw [hg]; exact (below_size (bh_ HB.out)) : w.heap.size ≤ gb388)); have n5_ := Aside0.mk ((by rw [hg]; exact Nat.ne_of_lt (blk_lt (g := gb387) (o := .cells #[.string a0_0, .int .i64 a0_1, .int .i64 a0_2] 112 (0, 0)) (bz_ BK387.out)) : gb387 ≠ gb388)); have n6_ := Aside0.mk ((by rw [hg]; exact Nat.ne_of_gt (blk_lt (g := gb387) (o := .cells #[.string a0_0, .int .i64 a0_1, .int .i64 a0_2] 112 (0, 0)) (bz_ BK387.out)) : gb388 ≠ gb387)); clear BK387; clear HB; have BK387 := n0_; have HB := n1_; have BK388 := n2_; have GW388 := n3_; have GE388 := n4_; have NB387_388 := n5_; have NB388_387 := n6_; clear n0_ n1_ n2_ n3_ n4_ n5_ n6_; clear hb hbox hg; have hnb8 := NB387_388.out; have hnc8 := NB388_387.out; obtain ⟨z9_0, z9_1, z9_2, f9_0, f9_1, f9_2⟩ := bc3_ BK387.out) | ((with_reducible refine gate_callee (f := 90) rfl ?_); refine gl_ (some 15) Try.func90 #[.agg #[.string a0_0, .int .i64 a0_1, .int .i64 a0_2], .int .i64 1] ?_; (with_reducible refine (parchmentref02_Cursor_with.calls a0_0 a0_1 a0_2 1 t389 t390 t391 _ A5.out).mono ?_); rintro e w10 ⟨rfl, hb⟩; refine ⟨_, rfl, ?_⟩; replace BK387 := Aside0.mk (bk_ BK387.out hb); replace BK388 := Aside0.mk (bk_ BK388.out hb); replace HB := Aside0.mk (below_step (bh_ HB.out) hb); (try clear hb); obtain ⟨z11_0, z11_1, z11_2, f11_0, f11_1, f11_2⟩ := bc3_ BK388.out))
   refine bodyPost_ret (results_ct rfl _ _ gb388 112 #[.string t389, .int .i64 t390, .int .i64 t391] (0, 0) _ rfl (bz_ BK388.out) Try.underlying112 rfl (by kernel_rfl)) rfl ?_
   exact ⟨by first | rfl | (simp [errW_none, errW_some] <;> rfl) | (simp [*, errW_none, errW_some] <;> rfl), by repeat (first | (with_reducible first | exact HB.out | apply below_alloc | apply pw_below_drewN | apply below_drew1 | refine below_set ?_ GE387.out | refine below_set ?_ GE388.out) | exact HB.out)⟩
  ·rw [if_neg c4] at H
   have c4b0 : decide (a1 < 0) = false := decide_eq_false c4
   clear c4
   by_cases c12 : a1 > (wrap64 ((a0_0.size : Int) - a0_1))
   ·rw [if_pos c12] at H
    have c12b0 : decide ((wrap64 ((a0_0.size : Int) - a0_1)) < a1) = true := decide_eq_true c12
    clear c12
    replace H := Option.bind_eq_some_iff.mp H
    obtain ⟨⟨t392, t393, t394⟩, A130, H⟩ := H
    replace H : (some (t392, t393, t394, (⟨#[]⟩ : ByteArray))) = some (r1, r2, r3, r4) := H
    have A13 := Aside0.mk A130
    clear A130
    simp only [Option.some.injEq, Prod.mk.injEq] at H
    obtain ⟨rfl, rfl, rfl, rfl⟩ := H
    go_enter Try.func71, Try.ntmps71
    go_wp2_with (first | ((with_reducible refine gate_dst (N := 2) rfl ?_); refine box_event ?hg (N := 2) ?hd (cs := #[.string a0_0, .int .i64 a0_1, .int .i64 a0_2]) (t := 112) ?hr ?_; (case hd => rfl); (case hg => rfl); (case hr => first | (go_simp; done) | (go_simp; rfl)); intro gb387 hg w14 hbox hb; have n0_ := Aside0.mk (below_step (bh_ HB.out) hb); have n1_ := Aside0.mk (hbox); have n2_ := Aside0.mk ((by rw [hg]; exact (below_size (bh_ HB.out)) : w.heap.size ≤ gb387)); have n3_ := Aside0.mk ((by rw [hg]; exact (below_size (bh_ HB.out)) : w.heap.size ≤ gb387)); clear HB; have HB := n0_; have BK387 := n1_; have GW387 := n2_; have GE387 := n3_; clear n0_ n1_ n2_ n3_; clear hb hbox hg) | ((with_reducible refine gate_dst (N := 4) rfl ?_); refine box_event ?hg (N := 4) ?hd (cs := #[.string (⟨#[]⟩ : ByteArray), .int .i64 0, .int .i64 0]) (t := 112) ?hr ?_; (case hd => rfl); (case hg => rfl); (case hr => first | (go_simp; done) | (go_simp; rfl)); intro gb388 hg w15 hbox hb; have n0_ := Aside0.mk (bk_ BK387.out hb); have n1_ := Aside0.mk (below_step (bh_ HB.out) hb); have n2_ := Aside0.mk (hbox); have n3_ := Aside0.mk ((by rw [hg]; exact (below_size (bh_ HB.out)) : w.heap.size ≤ gb388)); have n4_ := Aside0.mk ((by rw [hg]; exact (below_size (bh_ HB.out)) : w.heap.size ≤ gb388)); have n5_ := Aside0.mk ((by rw [hg]; exact Nat.ne_of_lt (blk_lt (g := gb387) (o := .cells #[.string a0_0, .int .i64 a0_1, .int .i64 a0_2] 112 (0, 0)) (bz_ BK387.out)) : gb387 ≠ gb388)); have n6_ := Aside0.mk ((by rw [hg]; exact Nat.ne_of_gt (blk_lt (g := gb387) (o := .cells #[.string a0_0, .int .i64 a0_1, .int .i64 a0_2] 112 (0, 0)) (bz_ BK387.out)) : gb388 ≠ gb387)); clear BK387; clear HB; have BK387 := n0_; have HB := n1_; have BK388 := n2_; have GW388 := n3_; have GE388 := n4_; have NB387_388 := n5_; have NB388_387 := n6_; clear n0_ n1_ n2_ n3_ n4_ n5_ n6_; clear hb hbox hg; have hnb16 := NB387_388.out; have hnc16 := NB388_387.out; obtain ⟨z17_0, z17_1, z17_2, f17_0, f17_1, f17_2⟩ := bc3_ BK387.out) | ((with_reducible refine gate_callee (f := 90) rfl ?_); refine gl_ (some 26) Try.func90 #[.agg #[.string a0_0, .int .i64 a0_1, .int .i64 a0_2], .int .i64 4] ?_; (with_reducible refine (parchmentref02_Cursor_with.calls a0_0 a0_1 a0_2 4 t392 t393 t394 _ A13.out).mono ?_); rintro e w18 ⟨rfl, hb⟩; refine ⟨_, rfl, ?_⟩; replace BK387 := Aside0.mk (bk_ BK387.out hb); replace BK388 := Aside0.mk (bk_ BK388.out hb); replace HB := Aside0.mk (below_step (bh_ HB.out) hb); (try clear hb); obtain ⟨z19_0, z19_1, z19_2, f19_0, f19_1, f19_2⟩ := bc3_ BK388.out))
    refine bodyPost_ret (results_ct rfl _ _ gb388 112 #[.string t392, .int .i64 t393, .int .i64 t394] (0, 0) _ rfl (bz_ BK388.out) Try.underlying112 rfl (by kernel_rfl)) rfl ?_
    exact ⟨by first | rfl | (simp [errW_none, errW_some] <;> rfl) | (simp [*, errW_none, errW_some] <;> rfl), by repeat (first | (with_reducible first | exact HB.out | apply below_alloc | apply pw_below_drewN | apply below_drew1 | refine below_set ?_ GE387.out | refine below_set ?_ GE388.out) | exact HB.out)⟩
   ·rw [if_neg c12] at H
    have c12b0 : decide ((wrap64 ((a0_0.size : Int) - a0_1)) < a1) = false := decide_eq_false c12
    clear c12
    by_cases c20 : 0 ≤ a0_1
    ·rw [if_pos c20] at H
     have c20b0 := eq_true c20
     have c20b1 : decide (0 ≤ a0_1) = true := decide_eq_true c20
     clear c20
     by_cases c21 : a0_1 ≤ (wrap64 (a0_1 + a1))
     ·rw [if_pos c21] at H
      have c21b0 := eq_true c21
      have c21b1 : decide (a0_1 ≤ (wrap64 (a0_1 + a1))) = true := decide_eq_true c21
      by_cases c22 : (wrap64 (a0_1 + a1)) ≤ (a0_0.size : Int)
      ·rw [if_pos c22] at H
       have c22b0 := eq_true c22
       have c22b1 : decide ((wrap64 (a0_1 + a1)) ≤ (a0_0.size : Int)) = true := decide_eq_true c22
       simp only [Option.some.injEq, Prod.mk.injEq] at H
       obtain ⟨rfl, rfl, rfl, rfl⟩ := H
       go_enter Try.func71, Try.ntmps71
       try go_wp2_with (first | ((with_reducible refine gate_dst (N := 2) rfl ?_); refine box_event ?hg (N := 2) ?hd (cs := #[.string a0_0, .int .i64 a0_1, .int .i64 a0_2]) (t := 112) ?hr ?_; (case hd => rfl); (case hg => rfl); (case hr => first | (go_simp; done) | (go_simp; rfl)); intro gb387 hg w23 hbox hb; have n0_ := Aside0.mk (below_step (bh_ HB.out) hb); have n1_ := Aside0.mk (hbox); have n2_ := Aside0.mk ((by rw [hg]; exact (below_size (bh_ HB.out)) : w.heap.size ≤ gb387)); have n3_ := Aside0.mk ((by rw [hg]; exact (below_size (bh_ HB.out)) : w.heap.size ≤ gb387)); clear HB; have HB := n0_; have BK387 := n1_; have GW387 := n2_; have GE387 := n3_; clear n0_ n1_ n2_ n3_; clear hb hbox hg) | ((with_reducible refine gate_dst (N := 4) rfl ?_); refine box_event ?hg (N := 4) ?hd (cs := #[.string (⟨#[]⟩ : ByteArray), .int .i64 0, .int .i64 0]) (t := 112) ?hr ?_; (case hd => rfl); (case hg => rfl); (case hr => first | (go_simp; done) | (go_simp; rfl)); intro gb388 hg w24 hbox hb; have n0_ := Aside0.mk (bk_ BK387.out hb); have n1_ := Aside0.mk (below_step (bh_ HB.out) hb); have n2_ := Aside0.mk (hbox); have n3_ := Aside0.mk ((by rw [hg]; exact (below_size (bh_ HB.out)) : w.heap.size ≤ gb388)); have n4_ := Aside0.mk ((by rw [hg]; exact (below_size (bh_ HB.out)) : w.heap.size ≤ gb388)); have n5_ := Aside0.mk ((by rw [hg]; exact Nat.ne_of_lt (blk_lt (g := gb387) (o := .cells #[.string a0_0, .int .i64 a0_1, .int .i64 a0_2] 112 (0, 0)) (bz_ BK387.out)) : gb387 ≠ gb388)); have n6_ := Aside0.mk ((by rw [hg]; exact Nat.ne_of_gt (blk_lt (g := gb387) (o := .cells #[.string a0_0, .int .i64 a0_1, .int .i64 a0_2] 112 (0, 0)) (bz_ BK387.out)) : gb388 ≠ gb387)); clear BK387; clear HB; have BK387 := n0_; have HB := n1_; have BK388 := n2_; have GW388 := n3_; have GE388 := n4_; have NB387_388 := n5_; have NB388_387 := n6_; clear n0_ n1_ n2_ n3_ n4_ n5_ n6_; clear hb hbox hg; have hnb25 := NB387_388.out; have hnc25 := NB388_387.out; obtain ⟨z26_0, z26_1, z26_2, f26_0, f26_1, f26_2⟩ := bc3_ BK387.out))
       replace BK387 := Aside0.mk (blk_drew BK387.out)
       replace BK388 := Aside0.mk (blk_drew BK388.out)
       replace HB := Aside0.mk (below_drew1 HB.out)
       refine start_ (n := 18) (S := fun w' => w'.cell? ⟨gb387, 0, none⟩ = some (.string a0_0) ∧ w'.cell? ⟨gb387, 1, none⟩ = some (.int .i64 a0_1) ∧ w'.cell? ⟨gb387, 2, none⟩ = some (.int .i64 a0_2)) (ds := []) #[N_, N_, N_, N_, N_, N_, N_, N_, N_, N_, N_, N_, N_, N_, N_, N_, N_, N_] (by kernel_rfl) rfl rfl ⟨(blk_cell BK387.out 0).trans rfl, (blk_cell BK387.out 1).trans rfl, (blk_cell BK387.out 2).trans rfl⟩ (fun hHeld => ?_); refine with_tabW parchmentref02_Cursor_Bytes.tab7 parchmentref02_Cursor_Bytes.bits7 (fun HT_ HW_ => ?_)
       generalize w24.drew = w27 at BK387 BK388 HB hHeld ⊢
       refine pure_ (i := 0) (N := some 27) (v := ?_) (a' := ?_) #[Y_, N_, N_, N_, N_, N_, N_, N_, N_, N_, N_, N_, N_, N_, N_, N_, N_, N_] rfl rfl (any_of HT_.out (by kernel_rfl)) (fun _ _ _ h => h) (Or.inl ⟨by rfl, ?_⟩) ?_ ?_
       rotate_left; (intro w'; go_simp; with_reducible rfl); rotate_left; (simp only [Act.put, q1_, q2_, q3_, i64_w, i32_w]; rfl)
       refine pure_ (i := 2) (N := some 29) (v := ?_) (a' := ?_) #[Y_, N_, Y_, N_, N_, N_, N_, N_, N_, N_, N_, N_, N_, N_, N_, N_, N_, N_] rfl rfl (any_of HT_.out (by kernel_rfl)) (fun _ _ _ h => h) (Or.inl ⟨by rfl, ?_⟩) ?_ ?_
       rotate_left; (intro w'; go_simp; with_reducible rfl); rotate_left; (simp only [Act.put, q1_, q2_, q3_, i64_w, i32_w]; rfl)
       refine pure_ (i := 4) (N := some 31) (v := ?_) (a' := ?_) #[Y_, N_, Y_, N_, Y_, N_, N_, N_, N_, N_, N_, N_, N_, N_, N_, N_, N_, N_] rfl rfl (any_of HT_.out (by kernel_rfl)) (fun _ _ _ h => h) (Or.inl ⟨by rfl, ?_⟩) ?_ ?_
       rotate_left; (intro w'; go_simp; with_reducible rfl); rotate_left; (simp only [Act.put, q1_, q2_, q3_, i64_w, i32_w]; rfl)
       refine pure_ (i := 7) (N := some 34) (v := ?_) (a' := ?_) #[Y_, N_, Y_, N_, Y_, N_, N_, Y_, N_, N_, N_, N_, N_, N_, N_, N_, N_, N_] rfl rfl (any_of HT_.out (by kernel_rfl)) (fun _ _ _ h => h) (Or.inl ⟨by rfl, ?_⟩) ?_ ?_
       rotate_left; (intro w'; go_simp; with_reducible rfl); rotate_left; (simp only [Act.put, q1_, q2_, q3_, i64_w, i32_w]; rfl)
       refine pure_ (i := 9) (N := some 36) (v := ?_) (a' := ?_) #[Y_, N_, Y_, N_, Y_, N_, N_, Y_, N_, Y_, N_, N_, N_, N_, N_, N_, N_, N_] rfl rfl (any_of HT_.out (by kernel_rfl)) (fun _ _ _ h => h) (Or.inl ⟨by rfl, ?_⟩) ?_ ?_
       rotate_left; (intro w'; go_simp; with_reducible rfl); rotate_left; (simp only [Act.put, q1_, q2_, q3_, i64_w, i32_w]; rfl)
       refine pure_ (i := 11) (N := some 38) (v := ?_) (a' := ?_) #[Y_, N_, Y_, N_, Y_, N_, N_, Y_, N_, Y_, N_, Y_, N_, N_, N_, N_, N_, N_] rfl rfl (any_of HT_.out (by kernel_rfl)) (fun _ _ _ h => h) (Or.inl ⟨by rfl, ?_⟩) ?_ ?_
       rotate_left; (intro w'; go_simp; with_reducible rfl); rotate_left; (simp only [Act.put, q1_, q2_, q3_, i64_w, i32_w]; rfl)
       refine pure_ (i := 13) (N := some 40) (v := ?_) (a' := ?_) #[Y_, N_, Y_, N_, Y_, N_, N_, Y_, N_, Y_, N_, Y_, N_, Y_, N_, N_, N_, N_] rfl rfl (any_of HT_.out (by kernel_rfl)) (fun _ _ _ h => h) (Or.inl ⟨by rfl, ?_⟩) ?_ ?_
       rotate_left; (intro w'; go_simp; with_reducible rfl); rotate_left; (simp only [Act.put, q1_, q2_, q3_, i64_w, i32_w]; rfl)
       refine take_ (i := 1) (N := some 28) (v := ?_) (a' := ?_) #[Y_, Y_, Y_, N_, Y_, N_, N_, Y_, N_, Y_, N_, Y_, N_, Y_, N_, N_, N_, N_] rfl rfl (take_ofW HT_.out HW_.out (by kernel_rfl)) (fun _ _ _ h => h) (Or.inl ⟨by rfl, ?_⟩) hHeld ?_ ?_
       rotate_left; (rintro w' ⟨s0, s1, s2⟩; go_simp; with_reducible rfl); rotate_left; (simp only [Act.put, q1_, q2_, q3_, i64_w, i32_w]; rfl)
       refine take_ (i := 3) (N := some 30) (v := ?_) (a' := ?_) #[Y_, Y_, Y_, Y_, Y_, N_, N_, Y_, N_, Y_, N_, Y_, N_, Y_, N_, N_, N_, N_] rfl rfl (take_ofW HT_.out HW_.out (by kernel_rfl)) (fun _ _ _ h => h) (Or.inl ⟨by rfl, ?_⟩) hHeld ?_ ?_
       rotate_left; (rintro w' ⟨s0, s1, s2⟩; go_simp; with_reducible rfl); rotate_left; (simp only [Act.put, q1_, q2_, q3_, i64_w, i32_w]; rfl)
       refine pure_ (i := 5) (N := some 32) (v := ?_) (a' := ?_) #[Y_, Y_, Y_, Y_, Y_, Y_, N_, Y_, N_, Y_, N_, Y_, N_, Y_, N_, N_, N_, N_] rfl rfl (any_of HT_.out (by kernel_rfl)) (fun _ _ _ h => h) (Or.inl ⟨by rfl, ?_⟩) ?_ ?_
       rotate_left; (intro w'; go_simp; with_reducible rfl); rotate_left; (simp only [Act.put, q1_, q2_, q3_, i64_w, i32_w]; rfl)
       refine pure_ (i := 6) (N := some 33) (v := ?_) (a' := ?_) #[Y_, Y_, Y_, Y_, Y_, Y_, Y_, Y_, N_, Y_, N_, Y_, N_, Y_, N_, N_, N_, N_] rfl rfl (any_of HT_.out (by kernel_rfl)) (fun _ _ _ h => h) (Or.inl ⟨by rfl, ?_⟩) ?_ ?_
       rotate_left; (intro w'; go_simp; with_reducible rfl); rotate_left; (simp only [Act.put, q1_, q2_, q3_, i64_w, i32_w]; rfl)
       refine take_ (i := 8) (N := some 35) (v := ?_) (a' := ?_) #[Y_, Y_, Y_, Y_, Y_, Y_, Y_, Y_, Y_, Y_, N_, Y_, N_, Y_, N_, N_, N_, N_] rfl rfl (take_ofW HT_.out HW_.out (by kernel_rfl)) (fun _ _ _ h => h) (Or.inl ⟨by rfl, ?_⟩) hHeld ?_ ?_
       rotate_left; (rintro w' ⟨s0, s1, s2⟩; go_simp; with_reducible rfl); rotate_left; (simp only [Act.put, q1_, q2_, q3_, i64_w, i32_w]; rfl)
       refine take_ (i := 10) (N := some 37) (v := ?_) (a' := ?_) #[Y_, Y_, Y_, Y_, Y_, Y_, Y_, Y_, Y_, Y_, Y_, Y_, N_, Y_, N_, N_, N_, N_] rfl rfl (take_ofW HT_.out HW_.out (by kernel_rfl)) (fun _ _ _ h => h) (Or.inl ⟨by rfl, ?_⟩) hHeld ?_ ?_
       rotate_left; (rintro w' ⟨s0, s1, s2⟩; go_simp; with_reducible rfl); rotate_left; (simp only [Act.put, q1_, q2_, q3_, i64_w, i32_w]; rfl)
       refine take_ (i := 12) (N := some 39) (v := ?_) (a' := ?_) #[Y_, Y_, Y_, Y_, Y_, Y_, Y_, Y_, Y_, Y_, Y_, Y_, Y_, Y_, N_, N_, N_, N_] rfl rfl (take_ofW HT_.out HW_.out (by kernel_rfl)) (fun _ _ _ h => h) (Or.inl ⟨by rfl, ?_⟩) hHeld ?_ ?_
       rotate_left; (rintro w' ⟨s0, s1, s2⟩; go_simp; with_reducible rfl); rotate_left; (simp only [Act.put, q1_, q2_, q3_, i64_w, i32_w]; rfl)
       refine pure_ (i := 14) (N := some 41) (v := ?_) (a' := ?_) #[Y_, Y_, Y_, Y_, Y_, Y_, Y_, Y_, Y_, Y_, Y_, Y_, Y_, Y_, Y_, N_, N_, N_] rfl rfl (any_of HT_.out (by kernel_rfl)) (fun _ _ _ h => h) (Or.inl ⟨by rfl, ?_⟩) ?_ ?_
       rotate_left; (intro w'; go_simp; with_reducible rfl); rotate_left; (simp only [Act.put, q1_, q2_, q3_, i64_w, i32_w]; rfl)
       refine pure_ (i := 15) (N := some 42) (v := ?_) (a' := ?_) #[Y_, Y_, Y_, Y_, Y_, Y_, Y_, Y_, Y_, Y_, Y_, Y_, Y_, Y_, Y_, Y_, N_, N_] rfl rfl (any_of HT_.out (by kernel_rfl)) (fun _ _ _ h => h) (Or.inl ⟨by rfl, ?_⟩) ?_ ?_
       rotate_left; (intro w'; go_simp; with_reducible rfl); rotate_left; (simp only [Act.put, q1_, q2_, q3_, i64_w, i32_w]; rfl)
       refine one_ (i := 16) (N := none) #[Y_, Y_, Y_, Y_, Y_, Y_, Y_, Y_, Y_, Y_, Y_, Y_, Y_, Y_, Y_, Y_, Y_, N_] rfl rfl (one_of HT_.out (by kernel_rfl)) (by decide) (fun K hK => ?_)
       have hs28 : w27.cell? ⟨gb388, 0, none⟩ = some (.string (⟨#[]⟩ : ByteArray)) := (blk_cell BK388.out 0).trans rfl
       have hfs28 := blk_frozen BK388.out 0
       have hns28_0 := NB387_388.out
       have hms28_0 := NB388_387.out
       have hs29 : w27.cell? ⟨gb388, 1, none⟩ = some (.int .i64 0) := (blk_cell BK388.out 1).trans rfl
       have hfs29 := blk_frozen BK388.out 1
       have hns29_0 := NB387_388.out
       have hms29_0 := NB388_387.out
       have hs30 : w27.cell? ⟨gb388, 2, none⟩ = some (.int .i64 0) := (blk_cell BK388.out 2).trans rfl
       have hfs30 := blk_frozen BK388.out 2
       have hns30_0 := NB387_388.out
       have hms30_0 := NB388_387.out
       refine skip_ (w1 := ?_) (by rfl) rfl ?_ ?_
       rotate_left
       ·go_simp
        rfl
       refine hK.out _ _ ⟨((cell_far (p := ⟨gb388, _, none⟩) NB387_388.out _).trans (((cell_far (p := ⟨gb388, _, none⟩) NB387_388.out _).trans (((cell_far (p := ⟨gb388, _, none⟩) NB387_388.out _).trans (hHeld.1)))))), ((cell_far (p := ⟨gb388, _, none⟩) NB387_388.out _).trans (((cell_far (p := ⟨gb388, _, none⟩) NB387_388.out _).trans (((cell_far (p := ⟨gb388, _, none⟩) NB387_388.out _).trans (hHeld.2.1)))))), ((cell_far (p := ⟨gb388, _, none⟩) NB387_388.out _).trans (((cell_far (p := ⟨gb388, _, none⟩) NB387_388.out _).trans (((cell_far (p := ⟨gb388, _, none⟩) NB387_388.out _).trans (hHeld.2.2))))))⟩ (fun hHeld => ?_)
       clear hK K
       refine pure_ (i := 17) (N := some 5) (v := ?_) (a' := ?_) #[Y_, Y_, Y_, Y_, Y_, Y_, Y_, Y_, Y_, Y_, Y_, Y_, Y_, Y_, Y_, Y_, Y_, Y_] rfl rfl (any_of HT_.out (by kernel_rfl)) (fun _ _ _ h => h) (Or.inl ⟨by rfl, ?_⟩) ?_ ?_
       rotate_left; (intro w'; go_simp; with_reducible rfl); rotate_left; (simp only [Act.put, q1_, q2_, q3_, i64_w, i32_w]; rfl)
       refine done_ (done_of HT_.out (by kernel_rfl)) ?_
       try go_wp2
       refine bodyPost_ret (results_ct rfl _ _ gb388 112 #[.string a0_0, .int .i64 (wrap64 (a0_1 + a1)), .int .i64 0] (0, 0) _ rfl (bz_ BK388.out) Try.underlying112 rfl (by kernel_rfl)) rfl ?_
       exact ⟨by first | rfl | (simp [errW_none, errW_some] <;> rfl) | (simp [*, errW_none, errW_some] <;> rfl), by repeat (first | (with_reducible first | exact HB.out | apply below_alloc | apply pw_below_drewN | apply below_drew1 | refine below_set ?_ GE387.out | refine below_set ?_ GE388.out) | exact HB.out)⟩
      ·rw [if_neg c22] at H
       exact absurd H (by simp)
     ·rw [if_neg c21] at H
      exact absurd H (by simp)
    ·rw [if_neg c20] at H
     exact absurd H (by simp)
 ·rw [if_neg c3] at H
  have c3b0 : (a0_2 == 0) = false := beq_eq_false_iff_ne.mpr c3
  have c3b1 : (a0_2 != 0) = true := bne_iff_ne.mpr c3
  simp only [Option.some.injEq, Prod.mk.injEq] at H
  obtain ⟨rfl, rfl, rfl, rfl⟩ := H
  go_enter Try.func71, Try.ntmps71
  go_wp2_with (first | ((with_reducible refine gate_dst (N := 2) rfl ?_); refine box_event ?hg (N := 2) ?hd (cs := #[.string a0_0, .int .i64 a0_1, .int .i64 a0_2]) (t := 112) ?hr ?_; (case hd => rfl); (case hg => rfl); (case hr => first | (go_simp; done) | (go_simp; rfl)); intro gb387 hg w31 hbox hb; have n0_ := Aside0.mk (below_step (bh_ HB.out) hb); have n1_ := Aside0.mk (hbox); have n2_ := Aside0.mk ((by rw [hg]; exact (below_size (bh_ HB.out)) : w.heap.size ≤ gb387)); have n3_ := Aside0.mk ((by rw [hg]; exact (below_size (bh_ HB.out)) : w.heap.size ≤ gb387)); clear HB; have HB := n0_; have BK387 := n1_; have GW387 := n2_; have GE387 := n3_; clear n0_ n1_ n2_ n3_; clear hb hbox hg) | ((with_reducible refine gate_dst (N := 4) rfl ?_); refine box_event ?hg (N := 4) ?hd (cs := #[.string (⟨#[]⟩ : ByteArray), .int .i64 0, .int .i64 0]) (t := 112) ?hr ?_; (case hd => rfl); (case hg => rfl); (case hr => first | (go_simp; done) | (go_simp; rfl)); intro gb388 hg w32 hbox hb; have n0_ := Aside0.mk (bk_ BK387.out hb); have n1_ := Aside0.mk (below_step (bh_ HB.out) hb); have n2_ := Aside0.mk (hbox); have n3_ := Aside0.mk ((by rw [hg]; exact (below_size (bh_ HB.out)) : w.heap.size ≤ gb388)); have n4_ := Aside0.mk ((by rw [hg]; exact (below_size (bh_ HB.out)) : w.heap.size ≤ gb388)); have n5_ := Aside0.mk ((by rw [hg]; exact Nat.ne_of_lt (blk_lt (g := gb387) (o := .cells #[.string a0_0, .int .i64 a0_1, .int .i64 a0_2] 112 (0, 0)) (bz_ BK387.out)) : gb387 ≠ gb388)); have n6_ := Aside0.mk ((by rw [hg]; exact Nat.ne_of_gt (blk_lt (g := gb387) (o := .cells #[.string a0_0, .int .i64 a0_1, .int .i64 a0_2] 112 (0, 0)) (bz_ BK387.out)) : gb388 ≠ gb387)); clear BK387; clear HB; have BK387 := n0_; have HB := n1_; have BK388 := n2_; have GW388 := n3_; have GE388 := n4_; have NB387_388 := n5_; have NB388_387 := n6_; clear n0_ n1_ n2_ n3_ n4_ n5_ n6_; clear hb hbox hg; have hnb33 := NB387_388.out; have hnc33 := NB388_387.out; obtain ⟨z34_0, z34_1, z34_2, f34_0, f34_1, f34_2⟩ := bc3_ BK387.out; obtain ⟨z35_0, z35_1, z35_2, f35_0, f35_1, f35_2⟩ := bc3_ BK388.out))
  refine bodyPost_ret (results_ct rfl _ _ gb388 112 #[.string a0_0, .int .i64 a0_1, .int .i64 a0_2] (0, 0) _ rfl (bz_ BK388.out) Try.underlying112 rfl (by kernel_rfl)) rfl ?_
  exact ⟨by first | rfl | (simp [errW_none, errW_some] <;> rfl) | (simp [*, errW_none, errW_some] <;> rfl), by repeat (first | (with_reducible first | exact HB.out | apply below_alloc | apply pw_below_drewN | apply below_drew1 | refine below_set ?_ GE387.out | refine below_set ?_ GE388.out) | exact HB.out)⟩
/-! ### parchmentref02_Cursor_Text: function 69 -/
def parchmentref02_Cursor_Text.j0 : Nat → Int → ByteArray → Int → Int → Option (ByteArray × Int × Int × ByteArray)
 | 0, _, _, _, _ => none
 | k + 1, x1, x396000, x396001, x396002 => (parchmentref02_Cursor_Count.f k x396000 x396001 x396002 x1).bind fun bt397 => ((parchmentref02_Cursor_Bytes.f bt397.1 bt397.2.1 bt397.2.2.1 bt397.2.2.2).bind fun bt402 => (if bt402.2.2.1 = 0 then (some (bt402.1, bt402.2.1, bt402.2.2.1, bt402.2.2.2)) else (if x396002 = 0 then ((parchmentref02_Cursor_with.f x396000 x396001 x396002 bt402.2.2.1).bind fun bt407 => (some (bt407.1, bt407.2.1, bt407.2.2, (⟨#[]⟩ : ByteArray)))) else (some (bt402.1, bt402.2.1, bt402.2.2.1, bt402.2.2.2)))))
def parchmentref02_Cursor_Text.f (k : Nat) (a0_0 : ByteArray) (a0_1 : Int) (a0_2 : Int) (a1 : Int) : Option (ByteArray × Int × Int × ByteArray) := if a1 > 1048576 then (parchmentref02_Cursor_Text.j0 k 1048576 a0_0 a0_1 a0_2) else (parchmentref02_Cursor_Text.j0 k a1 a0_0 a0_1 a0_2)
set_option maxHeartbeats 8000000 in
set_option maxRecDepth 100000 in
theorem parchmentref02_Cursor_Text.calls (k : Nat) (a0_0 : ByteArray) (a0_1 : Int) (a0_2 : Int) (a1 : Int) (r1 : ByteArray) (r2 : Int) (r3 : Int) (r4 : ByteArray) (w : World) (h : parchmentref02_Cursor_Text.f k a0_0 a0_1 a0_2 a1 = some (r1, r2, r3, r4)) :
  Calls Try.prog 69 #[.agg #[.string a0_0, .int .i64 a0_1, .int .i64 a0_2], .int .i64 a1] w fun e w' => e = .returned (.tuple #[.agg #[.string r1, .int .i64 r2, .int .i64 r3], .string r4]) ∧ Below w.heap.size w w' := by
 have hu112 := Try.underlying112
 have HB := Aside0.mk (Below.refl w.heap.size w)
 have H : (if a1 > 1048576 then (parchmentref02_Cursor_Text.j0 k 1048576 a0_0 a0_1 a0_2) else (parchmentref02_Cursor_Text.j0 k a1 a0_0 a0_1 a0_2)) = some (r1, r2, r3, r4) := h
 clear h
 have HC3 := Aside0.mk H
 clear H
 go_enter Try.func69, Try.ntmps69
 go_upto_if 11 with (first | ((with_reducible refine gate_dst (N := 2) rfl ?_); refine box_event ?hg (N := 2) ?hd (cs := #[.string a0_0, .int .i64 a0_1, .int .i64 a0_2]) (t := 112) ?hr ?_; (case hd => rfl); (case hg => rfl); (case hr => first | (go_simp; done) | (go_simp; rfl)); intro gb395 hg w4 hbox hb; have n0_ := Aside0.mk (below_step (bh_ HB.out) hb); have n1_ := Aside0.mk (hbox); have n2_ := Aside0.mk ((by rw [hg]; exact (below_size (bh_ HB.out)) : w.heap.size ≤ gb395)); have n3_ := Aside0.mk ((by rw [hg]; exact (below_size (bh_ HB.out)) : w.heap.size ≤ gb395)); clear HB; have HB := n0_; have BK395 := n1_; have GW395 := n2_; have GE395 := n3_; clear n0_ n1_ n2_ n3_; clear hb hbox hg) | ((with_reducible refine gate_dst (N := 4) rfl ?_); refine box_event ?hg (N := 4) ?hd (cs := #[.string (⟨#[]⟩ : ByteArray), .int .i64 0, .int .i64 0]) (t := 112) ?hr ?_; (case hd => rfl); (case hg => rfl); (case hr => first | (go_simp; done) | (go_simp; rfl)); intro gb396 hg w5 hbox hb; have n0_ := Aside0.mk (bk_ BK395.out hb); have n1_ := Aside0.mk (below_step (bh_ HB.out) hb); have n2_ := Aside0.mk (hbox); have n3_ := Aside0.mk ((by rw [hg]; exact (below_size (bh_ HB.out)) : w.heap.size ≤ gb396)); have n4_ := Aside0.mk ((by rw [hg]; exact (below_size (bh_ HB.out)) : w.heap.size ≤ gb396)); have n5_ := Aside0.mk ((by rw [hg]; exact Nat.ne_of_lt (blk_lt (g := gb395) (o := .cells #[.string a0_0, .int .i64 a0_1, .int .i64 a0_2] 112 (0, 0)) (bz_ BK395.out)) : gb395 ≠ gb396)); have n6_ := Aside0.mk ((by rw [hg]; exact Nat.ne_of_gt (blk_lt (g := gb395) (o := .cells #[.string a0_0, .int .i64 a0_1, .int .i64 a0_2] 112 (0, 0)) (bz_ BK395.out)) : gb396 ≠ gb395)); clear BK395; clear HB; have BK395 := n0_; have HB := n1_; have BK396 := n2_; have GW396 := n3_; have GE396 := n4_; have NB395_396 := n5_; have NB396_395 := n6_; clear n0_ n1_ n2_ n3_ n4_ n5_ n6_; clear hb hbox hg))
 (try simp only [Act.put, q1_, q2_, q3_])
 go_cut [1] (fun v1 wc => ∃ (kq : Nat) (x1_2 : Int), v1 = .int .i64 x1_2 ∧ Aside0 (parchmentref02_Cursor_Text.j0 kq x1_2 a0_0 a0_1 a0_2 = some (r1, r2, r3, r4)) ∧ Aside0 (kq ≤ k) ∧ Aside0 (wc.heap[gb395]? = some (.cells #[.string a0_0, .int .i64 a0_1, .int .i64 a0_2] 112 (0, 0))) ∧ Aside0 (wc.heap[gb396]? = some (.cells #[.string (⟨#[]⟩ : ByteArray), .int .i64 0, .int .i64 0] 112 (0, 0))) ∧ Aside0 (Below w.heap.size w wc))
 case first =>
  have H := HC3.out
  clear HC3
  by_cases c6 : a1 > 1048576
  ·rw [if_pos c6] at H
   have c6b0 : decide (1048576 < a1) = true := decide_eq_true c6
   clear c6
   (first | rw [c6b0] | (simp only [i64_w, i32_w]; rw [c6b0]) | skip)
   have H' := Aside0.mk H
   clear H
   go_wp2
   go_meet
   case rel => exact ⟨_, (1048576), (by first | rfl | (simp; done) | (simp [*]; done)), H', ⟨by first | omega | exact Nat.le_refl _⟩, ⟨bz_ BK395.out⟩, ⟨bz_ BK396.out⟩, ⟨bh_ HB.out⟩⟩
  ·rw [if_neg c6] at H
   have c6b0 : decide (1048576 < a1) = false := decide_eq_false c6
   clear c6
   (first | rw [c6b0] | (simp only [i64_w, i32_w]; rw [c6b0]) | skip)
   have H' := Aside0.mk H
   clear H
   go_wp2
   go_meet
   case rel => exact ⟨_, (a1), (by first | rfl | (simp; done) | (simp [*]; done)), H', ⟨by first | omega | exact Nat.le_refl _⟩, ⟨bz_ BK395.out⟩, ⟨bz_ BK396.out⟩, ⟨bh_ HB.out⟩⟩
 case rest =>
  clear HC3
  try clear p2
  try clear c6
  try clear c6b0
  obtain ⟨kq, x1_2, rfl, HA, HJ2, BK395, BK396, HB⟩ := hcut
  cases kq with
  | zero => exact absurd HA.out (by simp [parchmentref02_Cursor_Text.j0])
  | succ kj2 =>
   have H := HA.out
   clear HA
   simp only [parchmentref02_Cursor_Text.j0] at H
   replace H := Option.bind_eq_some_iff.mp H
   obtain ⟨⟨t397, t398, t399, t400⟩, A70, H⟩ := H
   replace H : ((parchmentref02_Cursor_Bytes.f t397 t398 t399 t400).bind fun bt402 => (if bt402.2.2.1 = 0 then (some (bt402.1, bt402.2.1, bt402.2.2.1, bt402.2.2.2)) else (if a0_2 = 0 then ((parchmentref02_Cursor_with.f a0_0 a0_1 a0_2 bt402.2.2.1).bind fun bt407 => (some (bt407.1, bt407.2.1, bt407.2.2, (⟨#[]⟩ : ByteArray)))) else (some (bt402.1, bt402.2.1, bt402.2.2.1, bt402.2.2.2))))) = some (r1, r2, r3, r4) := H
   have A7 := Aside0.mk A70
   clear A70
   replace H := Option.bind_eq_some_iff.mp H
   obtain ⟨⟨t402, t403, t404, t405⟩, A80, H⟩ := H
   replace H : (if t404 = 0 then (some (t402, t403, t404, t405)) else (if a0_2 = 0 then ((parchmentref02_Cursor_with.f a0_0 a0_1 a0_2 t404).bind fun bt407 => (some (bt407.1, bt407.2.1, bt407.2.2, (⟨#[]⟩ : ByteArray)))) else (some (t402, t403, t404, t405)))) = some (r1, r2, r3, r4) := H
   have A8 := Aside0.mk A80
   clear A80
   by_cases c9 : t404 = 0
   ·rw [if_pos c9] at H
    have c9b0 : (t404 == 0) = true := beq_iff_eq.mpr c9
    have c9b1 : (t404 != 0) = false := bne_eq_false_iff_eq.mpr c9
    clear c9
    simp only [Option.some.injEq, Prod.mk.injEq] at H
    obtain ⟨rfl, rfl, rfl, rfl⟩ := H
    have hnb10 := NB395_396.out
    have hnc10 := NB396_395.out
    obtain ⟨z11_0, z11_1, z11_2, f11_0, f11_1, f11_2⟩ := bc3_ BK395.out
    go_wp2_with (first | ((with_reducible refine gate_callee (f := 70) rfl ?_); refine gl_ (some 15) Try.func70 #[.agg #[.string a0_0, .int .i64 a0_1, .int .i64 a0_2], .int .i64 x1_2] ?_; (with_reducible refine (parchmentref02_Cursor_Count.calls kj2 a0_0 a0_1 a0_2 x1_2 t397 t398 t399 t400 _ A7.out).mono ?_); rintro e w12 ⟨rfl, hb⟩; refine ⟨_, rfl, ?_⟩; replace BK395 := Aside0.mk (bk_ BK395.out hb); replace BK396 := Aside0.mk (bk_ BK396.out hb); replace HB := Aside0.mk (below_step (bh_ HB.out) hb); (try clear hb)) | ((with_reducible refine gate_dst (N := 6) rfl ?_); refine box_event ?hg (N := 6) ?hd (cs := #[.string (⟨#[]⟩ : ByteArray), .int .i64 0, .int .i64 0]) (t := 112) ?hr ?_; (case hd => rfl); (case hg => rfl); (case hr => first | (go_simp; done) | (go_simp; rfl)); intro gb401 hg w13 hbox hb; have n0_ := Aside0.mk (bk_ BK395.out hb); have n1_ := Aside0.mk (bk_ BK396.out hb); have n2_ := Aside0.mk (below_step (bh_ HB.out) hb); have n3_ := Aside0.mk (hbox); have n4_ := Aside0.mk ((by rw [hg]; exact (below_size (bh_ HB.out)) : w.heap.size ≤ gb401)); have n5_ := Aside0.mk ((by rw [hg]; exact (below_size (bh_ HB.out)) : w.heap.size ≤ gb401)); have n6_ := Aside0.mk ((by rw [hg]; exact Nat.ne_of_lt (blk_lt (g := gb395) (o := .cells #[.string a0_0, .int .i64 a0_1, .int .i64 a0_2] 112 (0, 0)) (bz_ BK395.out)) : gb395 ≠ gb401)); have n7_ := Aside0.mk ((by rw [hg]; exact Nat.ne_of_gt (blk_lt (g := gb395) (o := .cells #[.string a0_0, .int .i64 a0_1, .int .i64 a0_2] 112 (0, 0)) (bz_ BK395.out)) : gb401 ≠ gb395)); have n8_ := Aside0.mk ((by rw [hg]; exact Nat.ne_of_lt (blk_lt (g := gb396) (o := .cells #[.string (⟨#[]⟩ : ByteArray), .int .i64 0, .int .i64 0] 112 (0, 0)) (bz_ BK396.out)) : gb396 ≠ gb401)); have n9_ := Aside0.mk ((by rw [hg]; exact Nat.ne_of_gt (blk_lt (g := gb396) (o := .cells #[.string (⟨#[]⟩ : ByteArray), .int .i64 0, .int .i64 0] 112 (0, 0)) (bz_ BK396.out)) : gb401 ≠ gb396)); clear BK395; clear BK396; clear HB; have BK395 := n0_; have BK396 := n1_; have HB := n2_; have BK401 := n3_; have GW401 := n4_; have GE401 := n5_; have NB395_401 := n6_; have NB401_395 := n7_; have NB396_401 := n8_; have NB401_396 := n9_; clear n0_ n1_ n2_ n3_ n4_ n5_ n6_ n7_ n8_ n9_; clear hb hbox hg; have hnb14 := NB401_395.out; have hnc14 := NB395_401.out; have hnb15 := NB401_396.out; have hnc15 := NB396_401.out; obtain ⟨z16_0, z16_1, z16_2, f16_0, f16_1, f16_2⟩ := bc3_ BK401.out) | ((with_reducible refine gate_callee (f := 71) rfl ?_); refine gl_ (some 21) Try.func71 #[.agg #[.string t397, .int .i64 t398, .int .i64 t399], .int .i64 t400] ?_; (with_reducible refine (parchmentref02_Cursor_Bytes.calls t397 t398 t399 t400 t402 t403 t404 t405 _ A8.out).mono ?_); rintro e w17 ⟨rfl, hb⟩; refine ⟨_, rfl, ?_⟩; replace BK395 := Aside0.mk (bf_ BK395.out hb); replace BK396 := Aside0.mk (bf_ BK396.out hb); replace BK401 := Aside0.mk (bp_ (o' := .cells #[.string t397, .int .i64 t398, .int .i64 t399] 112 (0, 0)) BK401.out hb); replace HB := Aside0.mk (below_step (bh_ HB.out) hb); (try clear hb)) | ((with_reducible refine gate_dst (N := 8) rfl ?_); refine box_event ?hg (N := 8) ?hd (cs := #[.string (⟨#[]⟩ : ByteArray), .int .i64 0, .int .i64 0]) (t := 112) ?hr ?_; (case hd => rfl); (case hg => rfl); (case hr => first | (go_simp; done) | (go_simp; rfl)); intro gb406 hg w18 hbox hb; have n0_ := Aside0.mk (bk_ BK395.out hb); have n1_ := Aside0.mk (bk_ BK396.out hb); have n2_ := Aside0.mk (bk_ BK401.out hb); have n3_ := Aside0.mk (below_step (bh_ HB.out) hb); have n4_ := Aside0.mk (hbox); have n5_ := Aside0.mk ((by rw [hg]; exact (below_size (bh_ HB.out)) : w.heap.size ≤ gb406)); have n6_ := Aside0.mk ((by rw [hg]; exact (below_size (bh_ HB.out)) : w.heap.size ≤ gb406)); have n7_ := Aside0.mk ((by rw [hg]; exact Nat.ne_of_lt (blk_lt (g := gb395) (o := .cells #[.string a0_0, .int .i64 a0_1, .int .i64 a0_2] 112 (0, 0)) (bz_ BK395.out)) : gb395 ≠ gb406)); have n8_ := Aside0.mk ((by rw [hg]; exact Nat.ne_of_gt (blk_lt (g := gb395) (o := .cells #[.string a0_0, .int .i64 a0_1, .int .i64 a0_2] 112 (0, 0)) (bz_ BK395.out)) : gb406 ≠ gb395)); have n9_ := Aside0.mk ((by rw [hg]; exact Nat.ne_of_lt (blk_lt (g := gb396) (o := .cells #[.string (⟨#[]⟩ : ByteArray), .int .i64 0, .int .i64 0] 112 (0, 0)) (bz_ BK396.out)) : gb396 ≠ gb406)); have n10_ := Aside0.mk ((by rw [hg]; exact Nat.ne_of_gt (blk_lt (g := gb396) (o := .cells #[.string (⟨#[]⟩ : ByteArray), .int .i64 0, .int .i64 0] 112 (0, 0)) (bz_ BK396.out)) : gb406 ≠ gb396)); have n11_ := Aside0.mk ((by rw [hg]; exact Nat.ne_of_lt (blk_lt (g := gb401) (o := .cells #[.string t397, .int .i64 t398, .int .i64 t399] 112 (0, 0)) (bz_ BK401.out)) : gb401 ≠ gb406)); have n12_ := Aside0.mk ((by rw [hg]; exact Nat.ne_of_gt (blk_lt (g := gb401) (o := .cells #[.string t397, .int .i64 t398, .int .i64 t399] 112 (0, 0)) (bz_ BK401.out)) : gb406 ≠ gb401)); clear BK395; clear BK396; clear BK401; clear HB; have BK395 := n0_; have BK396 := n1_; have BK401 := n2_; have HB := n3_; have BK406 := n4_; have GW406 := n5_; have GE406 := n6_; have NB395_406 := n7_; have NB406_395 := n8_; have NB396_406 := n9_; have NB406_396 := n10_; have NB401_406 := n11_; have NB406_401 := n12_; clear n0_ n1_ n2_ n3_ n4_ n5_ n6_ n7_ n8_ n9_ n10_ n11_ n12_; clear hb hbox hg; have hnb19 := NB406_395.out; have hnc19 := NB395_406.out; have hnb20 := NB406_396.out; have hnc20 := NB396_406.out; have hnb21 := NB406_401.out; have hnc21 := NB401_406.out; obtain ⟨z22_0, z22_1, z22_2, f22_0, f22_1, f22_2⟩ := bc3_ BK406.out; obtain ⟨z23_0, z23_1, z23_2, f23_0, f23_1, f23_2⟩ := bc3_ BK396.out))
    refine bodyPost_ret (results_ct rfl _ _ gb396 112 #[.string t402, .int .i64 t403, .int .i64 t404] (0, 0) _ rfl (bz_ BK396.out) Try.underlying112 rfl (by kernel_rfl)) rfl ?_
    exact ⟨by first | rfl | (simp [errW_none, errW_some] <;> rfl) | (simp [*, errW_none, errW_some] <;> rfl), by repeat (first | (with_reducible first | exact HB.out | apply below_alloc | apply pw_below_drewN | apply below_drew1 | refine below_set ?_ GE395.out | refine below_set ?_ GE396.out | refine below_set ?_ GE401.out | refine below_set ?_ GE406.out) | exact HB.out)⟩
   ·rw [if_neg c9] at H
    have c9b0 : (t404 == 0) = false := beq_eq_false_iff_ne.mpr c9
    have c9b1 : (t404 != 0) = true := bne_iff_ne.mpr c9
    by_cases c24 : a0_2 = 0
    ·rw [if_pos c24] at H
     have c24b0 : (a0_2 == 0) = true := beq_iff_eq.mpr c24
     have c24b1 : (a0_2 != 0) = false := bne_eq_false_iff_eq.mpr c24
     clear c24
     replace H := Option.bind_eq_some_iff.mp H
     obtain ⟨⟨t407, t408, t409⟩, A250, H⟩ := H
     replace H : (some (t407, t408, t409, (⟨#[]⟩ : ByteArray))) = some (r1, r2, r3, r4) := H
     have A25 := Aside0.mk A250
     clear A250
     simp only [Option.some.injEq, Prod.mk.injEq] at H
     obtain ⟨rfl, rfl, rfl, rfl⟩ := H
     have hnb26 := NB395_396.out
     have hnc26 := NB396_395.out
     obtain ⟨z27_0, z27_1, z27_2, f27_0, f27_1, f27_2⟩ := bc3_ BK395.out
     go_wp2_with (first | ((with_reducible refine gate_callee (f := 70) rfl ?_); refine gl_ (some 15) Try.func70 #[.agg #[.string a0_0, .int .i64 a0_1, .int .i64 a0_2], .int .i64 x1_2] ?_; (with_reducible refine (parchmentref02_Cursor_Count.calls kj2 a0_0 a0_1 a0_2 x1_2 t397 t398 t399 t400 _ A7.out).mono ?_); rintro e w28 ⟨rfl, hb⟩; refine ⟨_, rfl, ?_⟩; replace BK395 := Aside0.mk (bk_ BK395.out hb); replace BK396 := Aside0.mk (bk_ BK396.out hb); replace HB := Aside0.mk (below_step (bh_ HB.out) hb); (try clear hb)) | ((with_reducible refine gate_dst (N := 6) rfl ?_); refine box_event ?hg (N := 6) ?hd (cs := #[.string (⟨#[]⟩ : ByteArray), .int .i64 0, .int .i64 0]) (t := 112) ?hr ?_; (case hd => rfl); (case hg => rfl); (case hr => first | (go_simp; done) | (go_simp; rfl)); intro gb401 hg w29 hbox hb; have n0_ := Aside0.mk (bk_ BK395.out hb); have n1_ := Aside0.mk (bk_ BK396.out hb); have n2_ := Aside0.mk (below_step (bh_ HB.out) hb); have n3_ := Aside0.mk (hbox); have n4_ := Aside0.mk ((by rw [hg]; exact (below_size (bh_ HB.out)) : w.heap.size ≤ gb401)); have n5_ := Aside0.mk ((by rw [hg]; exact (below_size (bh_ HB.out)) : w.heap.size ≤ gb401)); have n6_ := Aside0.mk ((by rw [hg]; exact Nat.ne_of_lt (blk_lt (g := gb395) (o := .cells #[.string a0_0, .int .i64 a0_1, .int .i64 a0_2] 112 (0, 0)) (bz_ BK395.out)) : gb395 ≠ gb401)); have n7_ := Aside0.mk ((by rw [hg]; exact Nat.ne_of_gt (blk_lt (g := gb395) (o := .cells #[.string a0_0, .int .i64 a0_1, .int .i64 a0_2] 112 (0, 0)) (bz_ BK395.out)) : gb401 ≠ gb395)); have n8_ := Aside0.mk ((by rw [hg]; exact Nat.ne_of_lt (blk_lt (g := gb396) (o := .cells #[.string (⟨#[]⟩ : ByteArray), .int .i64 0, .int .i64 0] 112 (0, 0)) (bz_ BK396.out)) : gb396 ≠ gb401)); have n9_ := Aside0.mk ((by rw [hg]; exact Nat.ne_of_gt (blk_lt (g := gb396) (o := .cells #[.string (⟨#[]⟩ : ByteArray), .int .i64 0, .int .i64 0] 112 (0, 0)) (bz_ BK396.out)) : gb401 ≠ gb396)); clear BK395; clear BK396; clear HB; have BK395 := n0_; have BK396 := n1_; have HB := n2_; have BK401 := n3_; have GW401 := n4_; have GE401 := n5_; have NB395_401 := n6_; have NB401_395 := n7_; have NB396_401 := n8_; have NB401_396 := n9_; clear n0_ n1_ n2_ n3_ n4_ n5_ n6_ n7_ n8_ n9_; clear hb hbox hg; have hnb30 := NB401_395.out; have hnc30 := NB395_401.out; have hnb31 := NB401_396.out; have hnc31 := NB396_401.out; obtain ⟨z32_0, z32_1, z32_2, f32_0, f32_1, f32_2⟩ := bc3_ BK401.out) | ((with_reducible refine gate_callee (f := 71) rfl ?_); refine gl_ (some 21) Try.func71 #[.agg #[.string t397, .int .i64 t398, .int .i64 t399], .int .i64 t400] ?_; (with_reducible refine (parchmentref02_Cursor_Bytes.calls t397 t398 t399 t400 t402 t403 t404 t405 _ A8.out).mono ?_); rintro e w33 ⟨rfl, hb⟩; refine ⟨_, rfl, ?_⟩; replace BK395 := Aside0.mk (bf_ BK395.out hb); replace BK396 := Aside0.mk (bf_ BK396.out hb); replace BK401 := Aside0.mk (bp_ (o' := .cells #[.string t397, .int .i64 t398, .int .i64 t399] 112 (0, 0)) BK401.out hb); replace HB := Aside0.mk (below_step (bh_ HB.out) hb); (try clear hb)) | ((with_reducible refine gate_dst (N := 8) rfl ?_); refine box_event ?hg (N := 8) ?hd (cs := #[.string (⟨#[]⟩ : ByteArray), .int .i64 0, .int .i64 0]) (t := 112) ?hr ?_; (case hd => rfl); (case hg => rfl); (case hr => first | (go_simp; done) | (go_simp; rfl)); intro gb406 hg w34 hbox hb; have n0_ := Aside0.mk (bk_ BK395.out hb); have n1_ := Aside0.mk (bk_ BK396.out hb); have n2_ := Aside0.mk (bk_ BK401.out hb); have n3_ := Aside0.mk (below_step (bh_ HB.out) hb); have n4_ := Aside0.mk (hbox); have n5_ := Aside0.mk ((by rw [hg]; exact (below_size (bh_ HB.out)) : w.heap.size ≤ gb406)); have n6_ := Aside0.mk ((by rw [hg]; exact (below_size (bh_ HB.out)) : w.heap.size ≤ gb406)); have n7_ := Aside0.mk ((by rw [hg]; exact Nat.ne_of_lt (blk_lt (g := gb395) (o := .cells #[.string a0_0, .int .i64 a0_1, .int .i64 a0_2] 112 (0, 0)) (bz_ BK395.out)) : gb395 ≠ gb406)); have n8_ := Aside0.mk ((by rw [hg]; exact Nat.ne_of_gt (blk_lt (g := gb395) (o := .cells #[.string a0_0, .int .i64 a0_1, .int .i64 a0_2] 112 (0, 0)) (bz_ BK395.out)) : gb406 ≠ gb395)); have n9_ := Aside0.mk ((by rw [hg]; exact Nat.ne_of_lt (blk_lt (g := gb396) (o := .cells #[.string (⟨#[]⟩ : ByteArray), .int .i64 0, .int .i64 0] 112 (0, 0)) (bz_ BK396.out)) : gb396 ≠ gb406)); have n10_ := Aside0.mk ((by rw [hg]; exact Nat.ne_of_gt (blk_lt (g := gb396) (o := .cells #[.string (⟨#[]⟩ : ByteArray), .int .i64 0, .int .i64 0] 112 (0, 0)) (bz_ BK396.out)) : gb406 ≠ gb396)); have n11_ := Aside0.mk ((by rw [hg]; exact Nat.ne_of_lt (blk_lt (g := gb401) (o := .cells #[.string t397, .int .i64 t398, .int .i64 t399] 112 (0, 0)) (bz_ BK401.out)) : gb401 ≠ gb406)); have n12_ := Aside0.mk ((by rw [hg]; exact Nat.ne_of_gt (blk_lt (g := gb401) (o := .cells #[.string t397, .int .i64 t398, .int .i64 t399] 112 (0, 0)) (bz_ BK401.out)) : gb406 ≠ gb401)); clear BK395; clear BK396; clear BK401; clear HB; have BK395 := n0_; have BK396 := n1_; have BK401 := n2_; have HB := n3_; have BK406 := n4_; have GW406 := n5_; have GE406 := n6_; have NB395_406 := n7_; have NB406_395 := n8_; have NB396_406 := n9_; have NB406_396 := n10_; have NB401_406 := n11_; have NB406_401 := n12_; clear n0_ n1_ n2_ n3_ n4_ n5_ n6_ n7_ n8_ n9_ n10_ n11_ n12_; clear hb hbox hg; have hnb35 := NB406_395.out; have hnc35 := NB395_406.out; have hnb36 := NB406_396.out; have hnc36 := NB396_406.out; have hnb37 := NB406_401.out; have hnc37 := NB401_406.out; obtain ⟨z38_0, z38_1, z38_2, f38_0, f38_1, f38_2⟩ := bc3_ BK406.out; obtain ⟨z39_0, z39_1, z39_2, f39_0, f39_1, f39_2⟩ := bc3_ BK395.out) | ((with_reducible refine gate_callee (f := 90) rfl ?_); refine gl_ (some 35) Try.func90 #[.agg #[.string a0_0, .int .i64 a0_1, .int .i64 a0_2], .int .i64 t404] ?_; (with_reducible refine (parchmentref02_Cursor_with.calls a0_0 a0_1 a0_2 t404 t407 t408 t409 _ A25.out).mono ?_); rintro e w40 ⟨rfl, hb⟩; refine ⟨_, rfl, ?_⟩; replace BK395 := Aside0.mk (bf_ BK395.out hb); replace BK396 := Aside0.mk (bf_ BK396.out hb); replace BK401 := Aside0.mk (bf_ BK401.out hb); replace BK406 := Aside0.mk (bp_ (o' := .cells #[.string t402, .int .i64 t403, .int .i64 t404] 112 (0, 0)) BK406.out hb); replace HB := Aside0.mk (below_step (bh_ HB.out) hb); (try clear hb); obtain ⟨z41_0, z41_1, z41_2, f41_0, f41_1, f41_2⟩ := bc3_ BK396.out))
     refine bodyPost_ret (results_ct rfl _ _ gb396 112 #[.string t407, .int .i64 t408, .int .i64 t409] (0, 0) _ rfl (bz_ BK396.out) Try.underlying112 rfl (by kernel_rfl)) rfl ?_
     exact ⟨by first | rfl | (simp [errW_none, errW_some] <;> rfl) | (simp [*, errW_none, errW_some] <;> rfl), by repeat (first | (with_reducible first | exact HB.out | apply below_alloc | apply pw_below_drewN | apply below_drew1 | refine below_set ?_ GE395.out | refine below_set ?_ GE396.out | refine below_set ?_ GE401.out | refine below_set ?_ GE406.out) | exact HB.out)⟩
    ·rw [if_neg c24] at H
     have c24b0 : (a0_2 == 0) = false := beq_eq_false_iff_ne.mpr c24
     have c24b1 : (a0_2 != 0) = true := bne_iff_ne.mpr c24
     simp only [Option.some.injEq, Prod.mk.injEq] at H
     obtain ⟨rfl, rfl, rfl, rfl⟩ := H
     have hnb42 := NB395_396.out
     have hnc42 := NB396_395.out
     obtain ⟨z43_0, z43_1, z43_2, f43_0, f43_1, f43_2⟩ := bc3_ BK395.out
     go_wp2_with (first | ((with_reducible refine gate_callee (f := 70) rfl ?_); refine gl_ (some 15) Try.func70 #[.agg #[.string a0_0, .int .i64 a0_1, .int .i64 a0_2], .int .i64 x1_2] ?_; (with_reducible refine (parchmentref02_Cursor_Count.calls kj2 a0_0 a0_1 a0_2 x1_2 t397 t398 t399 t400 _ A7.out).mono ?_); rintro e w44 ⟨rfl, hb⟩; refine ⟨_, rfl, ?_⟩; replace BK395 := Aside0.mk (bk_ BK395.out hb); replace BK396 := Aside0.mk (bk_ BK396.out hb); replace HB := Aside0.mk (below_step (bh_ HB.out) hb); (try clear hb)) | ((with_reducible refine gate_dst (N := 6) rfl ?_); refine box_event ?hg (N := 6) ?hd (cs := #[.string (⟨#[]⟩ : ByteArray), .int .i64 0, .int .i64 0]) (t := 112) ?hr ?_; (case hd => rfl); (case hg => rfl); (case hr => first | (go_simp; done) | (go_simp; rfl)); intro gb401 hg w45 hbox hb; have n0_ := Aside0.mk (bk_ BK395.out hb); have n1_ := Aside0.mk (bk_ BK396.out hb); have n2_ := Aside0.mk (below_step (bh_ HB.out) hb); have n3_ := Aside0.mk (hbox); have n4_ := Aside0.mk ((by rw [hg]; exact (below_size (bh_ HB.out)) : w.heap.size ≤ gb401)); have n5_ := Aside0.mk ((by rw [hg]; exact (below_size (bh_ HB.out)) : w.heap.size ≤ gb401)); have n6_ := Aside0.mk ((by rw [hg]; exact Nat.ne_of_lt (blk_lt (g := gb395) (o := .cells #[.string a0_0, .int .i64 a0_1, .int .i64 a0_2] 112 (0, 0)) (bz_ BK395.out)) : gb395 ≠ gb401)); have n7_ := Aside0.mk ((by rw [hg]; exact Nat.ne_of_gt (blk_lt (g := gb395) (o := .cells #[.string a0_0, .int .i64 a0_1, .int .i64 a0_2] 112 (0, 0)) (bz_ BK395.out)) : gb401 ≠ gb395)); have n8_ := Aside0.mk ((by rw [hg]; exact Nat.ne_of_lt (blk_lt (g := gb396) (o := .cells #[.string (⟨#[]⟩ : ByteArray), .int .i64 0, .int .i64 0] 112 (0, 0)) (bz_ BK396.out)) : gb396 ≠ gb401)); have n9_ := Aside0.mk ((by rw [hg]; exact Nat.ne_of_gt (blk_lt (g := gb396) (o := .cells #[.string (⟨#[]⟩ : ByteArray), .int .i64 0, .int .i64 0] 112 (0, 0)) (bz_ BK396.out)) : gb401 ≠ gb396)); clear BK395; clear BK396; clear HB; have BK395 := n0_; have BK396 := n1_; have HB := n2_; have BK401 := n3_; have GW401 := n4_; have GE401 := n5_; have NB395_401 := n6_; have NB401_395 := n7_; have NB396_401 := n8_; have NB401_396 := n9_; clear n0_ n1_ n2_ n3_ n4_ n5_ n6_ n7_ n8_ n9_; clear hb hbox hg; have hnb46 := NB401_395.out; have hnc46 := NB395_401.out; have hnb47 := NB401_396.out; have hnc47 := NB396_401.out; obtain ⟨z48_0, z48_1, z48_2, f48_0, f48_1, f48_2⟩ := bc3_ BK401.out) | ((with_reducible refine gate_callee (f := 71) rfl ?_); refine gl_ (some 21) Try.func71 #[.agg #[.string t397, .int .i64 t398, .int .i64 t399], .int .i64 t400] ?_; (with_reducible refine (parchmentref02_Cursor_Bytes.calls t397 t398 t399 t400 t402 t403 t404 t405 _ A8.out).mono ?_); rintro e w49 ⟨rfl, hb⟩; refine ⟨_, rfl, ?_⟩; replace BK395 := Aside0.mk (bf_ BK395.out hb); replace BK396 := Aside0.mk (bf_ BK396.out hb); replace BK401 := Aside0.mk (bp_ (o' := .cells #[.string t397, .int .i64 t398, .int .i64 t399] 112 (0, 0)) BK401.out hb); replace HB := Aside0.mk (below_step (bh_ HB.out) hb); (try clear hb)) | ((with_reducible refine gate_dst (N := 8) rfl ?_); refine box_event ?hg (N := 8) ?hd (cs := #[.string (⟨#[]⟩ : ByteArray), .int .i64 0, .int .i64 0]) (t := 112) ?hr ?_; (case hd => rfl); (case hg => rfl); (case hr => first | (go_simp; done) | (go_simp; rfl)); intro gb406 hg w50 hbox hb; have n0_ := Aside0.mk (bk_ BK395.out hb); have n1_ := Aside0.mk (bk_ BK396.out hb); have n2_ := Aside0.mk (bk_ BK401.out hb); have n3_ := Aside0.mk (below_step (bh_ HB.out) hb); have n4_ := Aside0.mk (hbox); have n5_ := Aside0.mk ((by rw [hg]; exact (below_size (bh_ HB.out)) : w.heap.size ≤ gb406)); have n6_ := Aside0.mk ((by rw [hg]; exact (below_size (bh_ HB.out)) : w.heap.size ≤ gb406)); have n7_ := Aside0.mk ((by rw [hg]; exact Nat.ne_of_lt (blk_lt (g := gb395) (o := .cells #[.string a0_0, .int .i64 a0_1, .int .i64 a0_2] 112 (0, 0)) (bz_ BK395.out)) : gb395 ≠ gb406)); have n8_ := Aside0.mk ((by rw [hg]; exact Nat.ne_of_gt (blk_lt (g := gb395) (o := .cells #[.string a0_0, .int .i64 a0_1, .int .i64 a0_2] 112 (0, 0)) (bz_ BK395.out)) : gb406 ≠ gb395)); have n9_ := Aside0.mk ((by rw [hg]; exact Nat.ne_of_lt (blk_lt (g := gb396) (o := .cells #[.string (⟨#[]⟩ : ByteArray), .int .i64 0, .int .i64 0] 112 (0, 0)) (bz_ BK396.out)) : gb396 ≠ gb406)); have n10_ := Aside0.mk ((by rw [hg]; exact Nat.ne_of_gt (blk_lt (g := gb396) (o := .cells #[.string (⟨#[]⟩ : ByteArray), .int .i64 0, .int .i64 0] 112 (0, 0)) (bz_ BK396.out)) : gb406 ≠ gb396)); have n11_ := Aside0.mk ((by rw [hg]; exact Nat.ne_of_lt (blk_lt (g := gb401) (o := .cells #[.string t397, .int .i64 t398, .int .i64 t399] 112 (0, 0)) (bz_ BK401.out)) : gb401 ≠ gb406)); have n12_ := Aside0.mk ((by rw [hg]; exact Nat.ne_of_gt (blk_lt (g := gb401) (o := .cells #[.string t397, .int .i64 t398, .int .i64 t399] 112 (0, 0)) (bz_ BK401.out)) : gb406 ≠ gb401)); clear BK395; clear BK396; clear BK401; clear HB; have BK395 := n0_; have BK396 := n1_; have BK401 := n2_; have HB := n3_; have BK406 := n4_; have GW406 := n5_; have GE406 := n6_; have NB395_406 := n7_; have NB406_395 := n8_; have NB396_406 := n9_; have NB406_396 := n10_; have NB401_406 := n11_; have NB406_401 := n12_; clear n0_ n1_ n2_ n3_ n4_ n5_ n6_ n7_ n8_ n9_ n10_ n11_ n12_; clear hb hbox hg; have hnb51 := NB406_395.out; have hnc51 := NB395_406.out; have hnb52 := NB406_396.out; have hnc52 := NB396_406.out; have hnb53 := NB406_401.out; have hnc53 := NB401_406.out; obtain ⟨z54_0, z54_1, z54_2, f54_0, f54_1, f54_2⟩ := bc3_ BK406.out; obtain ⟨z55_0, z55_1, z55_2, f55_0, f55_1, f55_2⟩ := bc3_ BK395.out; obtain ⟨z56_0, z56_1, z56_2, f56_0, f56_1, f56_2⟩ := bc3_ BK396.out))
     refine bodyPost_ret (results_ct rfl _ _ gb396 112 #[.string t402, .int .i64 t403, .int .i64 t404] (0, 0) _ rfl (bz_ BK396.out) Try.underlying112 rfl (by kernel_rfl)) rfl ?_
     exact ⟨by first | rfl | (simp [errW_none, errW_some] <;> rfl) | (simp [*, errW_none, errW_some] <;> rfl), by repeat (first | (with_reducible first | exact HB.out | apply below_alloc | apply pw_below_drewN | apply below_drew1 | refine below_set ?_ GE395.out | refine below_set ?_ GE396.out | refine below_set ?_ GE401.out | refine below_set ?_ GE406.out) | exact HB.out)⟩
end Go.Proofs.Ytdcbacbilncnnaa.PMk
end
section
namespace Go.Proofs.Ytdcbacbilncnnaa.PMk
open Go.RowKit Go.Proofs.YtdcbacbilncnnaaW.PrintWords Go.Proofs.YtdcbacbilncnnaaW.PrintLast Go.Proofs.YtdcbacbilncnnaaW.PrintMore
attribute [local go_sem] max2_int min2_int max_two min_two max_three min_three max_four min_four   -- for this text's walks alone
set_option linter.unusedVariables false
set_option linter.unusedSimpArgs false
/-! ### parchmentref02_Cursor_End: function 72 -/
def parchmentref02_Cursor_End.f (a0_0 : ByteArray) (a0_1 : Int) (a0_2 : Int) : Option (ByteArray × Int × Int) := if a0_2 = 0 then (if a0_1 < (a0_0.size : Int) then ((parchmentref02_Cursor_with.f a0_0 a0_1 a0_2 5).bind fun bt412 => (some (bt412.1, bt412.2.1, bt412.2.2))) else (some (a0_0, a0_1, a0_2))) else (some (a0_0, a0_1, a0_2))
set_option maxHeartbeats 8000000 in
set_option maxRecDepth 100000 in
theorem parchmentref02_Cursor_End.calls (a0_0 : ByteArray) (a0_1 : Int) (a0_2 : Int) (r1 : ByteArray) (r2 : Int) (r3 : Int) (w : World) (h : parchmentref02_Cursor_End.f a0_0 a0_1 a0_2 = some (r1, r2, r3)) :
  Calls Try.prog 72 #[.agg #[.string a0_0, .int .i64 a0_1, .int .i64 a0_2]] w fun e w' => e = .returned (.agg #[.string r1, .int .i64 r2, .int .i64 r3]) ∧ Below w.heap.size w w' := by
 have hu112 := Try.underlying112
 have HB := Aside0.mk (Below.refl w.heap.size w)
 have H : (if a0_2 = 0 then (if a0_1 < (a0_0.size : Int) then ((parchmentref02_Cursor_with.f a0_0 a0_1 a0_2 5).bind fun bt412 => (some (bt412.1, bt412.2.1, bt412.2.2))) else (some (a0_0, a0_1, a0_2))) else (some (a0_0, a0_1, a0_2))) = some (r1, r2, r3) := h
 clear h
 by_cases c2 : a0_2 = 0
 ·rw [if_pos c2] at H
  have c2b0 : (a0_2 == 0) = true := beq_iff_eq.mpr c2
  have c2b1 : (a0_2 != 0) = false := bne_eq_false_iff_eq.mpr c2
  clear c2
  by_cases c3 : a0_1 < (a0_0.size : Int)
  ·rw [if_pos c3] at H
   have c3b0 : decide (a0_1 < (a0_0.size : Int)) = true := decide_eq_true c3
   clear c3
   replace H := Option.bind_eq_some_iff.mp H
   obtain ⟨⟨t412, t413, t414⟩, A40, H⟩ := H
   replace H : (some (t412, t413, t414)) = some (r1, r2, r3) := H
   have A4 := Aside0.mk A40
   clear A40
   simp only [Option.some.injEq, Prod.mk.injEq] at H
   obtain ⟨rfl, rfl, rfl⟩ := H
   go_enter Try.func72, Try.ntmps72
   go_wp2_with (first | ((with_reducible refine gate_dst (N := 1) rfl ?_); (try (refine gate_guard (by rfl) ?_; dsimp only)); refine box_event ?hg (N := 1) ?hd (cs := #[.string a0_0, .int .i64 a0_1, .int .i64 a0_2]) (t := 112) ?hr ?_; (case hd => rfl); (case hg => rfl); (case hr => first | (go_simp; done) | (go_simp; rfl)); intro gb410 hg w5 hbox hb; have n0_ := Aside0.mk (below_step (bh_ HB.out) hb); have n1_ := Aside0.mk (hbox); have n2_ := Aside0.mk ((by rw [hg]; exact (below_size (bh_ HB.out)) : w.heap.size ≤ gb410)); have n3_ := Aside0.mk ((by rw [hg]; exact (below_size (bh_ HB.out)) : w.heap.size ≤ gb410)); clear HB; have HB := n0_; have BK410 := n1_; have GW410 := n2_; have GE410 := n3_; clear n0_ n1_ n2_ n3_; clear hb hbox hg) | ((with_reducible refine gate_dst (N := 2) rfl ?_); (try (refine gate_guard (by rfl) ?_; dsimp only)); refine box_event ?hg (N := 2) ?hd (cs := #[.string (⟨#[]⟩ : ByteArray), .int .i64 0, .int .i64 0]) (t := 112) ?hr ?_; (case hd => rfl); (case hg => rfl); (case hr => first | (go_simp; done) | (go_simp; rfl)); intro gb411 hg w6 hbox hb; have n0_ := Aside0.mk (bk_ BK410.out hb); have n1_ := Aside0.mk (below_step (bh_ HB.out) hb); have n2_ := Aside0.mk (hbox); have n3_ := Aside0.mk ((by rw [hg]; exact (below_size (bh_ HB.out)) : w.heap.size ≤ gb411)); have n4_ := Aside0.mk ((by rw [hg]; exact (below_size (bh_ HB.out)) : w.heap.size ≤ gb411)); have n5_ := Aside0.mk ((by rw [hg]; exact Nat.ne_of_lt (blk_lt (g := gb410) (o := .cells #[.string a0_0, .int .i64 a0_1, .int .i64 a0_2] 112 (0, 0)) (bz_ BK410.out)) : gb410 ≠ gb411)); have n6_ := Aside0.mk ((by rw [hg]; exact Nat.ne_of_gt (blk_lt (g := gb410) (o := .cells #[.string a0_0, .int .i64 a0_1, .int .i64 a0_2] 112 (0, 0)) (bz_ BK410.out)) : gb411 ≠ gb410)); clear BK410; clear HB; have BK410 := n0_; have HB := n1_; have BK411 := n2_; have GW411 := n3_; have GE411 := n4_; have NB410_411 := n5_; have NB411_410 := n6_; clear n0_ n1_ n2_ n3_ n4_ n5_ n6_; clear hb hbox hg; have hnb7 := NB410_411.out; have hnc7 := NB411_410.out; obtain ⟨z8_0, z8_1, z8_2, f8_0, f8_1, f8_2⟩ := bc3_ BK410.out) | ((with_reducible refine gate_callee (f := 90) rfl ?_); refine gl_ (some 15) Try.func90 #[.agg #[.string a0_0, .int .i64 a0_1, .int .i64 a0_2], .int .i64 5] ?_; (with_reducible refine (parchmentref02_Cursor_with.calls a0_0 a0_1 a0_2 5 t412 t413 t414 _ A4.out).mono ?_); rintro e w9 ⟨rfl, hb⟩; refine ⟨_, rfl, ?_⟩; replace BK410 := Aside0.mk (bk_ BK410.out hb); replace BK411 := Aside0.mk (bk_ BK411.out hb); replace HB := Aside0.mk (below_step (bh_ HB.out) hb); (try clear hb); obtain ⟨z10_0, z10_1, z10_2, f10_0, f10_1, f10_2⟩ := bc3_ BK411.out))
   refine bodyPost_ret (results_cell_row rfl _ _ gb411 112 #[.string t412, .int .i64 t413, .int .i64 t414] (0, 0) _ rfl (bz_ BK411.out) Try.underlying112 rfl (by kernel_rfl)) rfl ?_
   exact ⟨by first | rfl | (simp [errW_none, errW_some] <;> rfl) | (simp [*, errW_none, errW_some] <;> rfl), by repeat (first | (with_reducible first | exact HB.out | apply below_alloc | apply pw_below_drewN | apply below_drew1 | refine below_set ?_ GE410.out | refine below_set ?_ GE411.out) | exact HB.out)⟩
  ·rw [if_neg c3] at H
   have c3b0 : decide (a0_1 < (a0_0.size : Int)) = false := decide_eq_false c3
   clear c3
   simp only [Option.some.injEq, Prod.mk.injEq] at H
   obtain ⟨rfl, rfl, rfl⟩ := H
   go_enter Try.func72, Try.ntmps72
   go_wp2_with (first | ((with_reducible refine gate_dst (N := 1) rfl ?_); (try (refine gate_guard (by rfl) ?_; dsimp only)); refine box_event ?hg (N := 1) ?hd (cs := #[.string a0_0, .int .i64 a0_1, .int .i64 a0_2]) (t := 112) ?hr ?_; (case hd => rfl); (case hg => rfl); (case hr => first | (go_simp; done) | (go_simp; rfl)); intro gb410 hg w11 hbox hb; have n0_ := Aside0.mk (below_step (bh_ HB.out) hb); have n1_ := Aside0.mk (hbox); have n2_ := Aside0.mk ((by rw [hg]; exact (below_size (bh_ HB.out)) : w.heap.size ≤ gb410)); have n3_ := Aside0.mk ((by rw [hg]; exact (below_size (bh_ HB.out)) : w.heap.size ≤ gb410)); clear HB; have HB := n0_; have BK410 := n1_; have GW410 := n2_; have GE410 := n3_; clear n0_ n1_ n2_ n3_; clear hb hbox hg) | ((with_reducible refine gate_dst (N := 2) rfl ?_); (try (refine gate_guard (by rfl) ?_; dsimp only)); refine box_event ?hg (N := 2) ?hd (cs := #[.string (⟨#[]⟩ : ByteArray), .int .i64 0, .int .i64 0]) (t := 112) ?hr ?_; (case hd => rfl); (case hg => rfl); (case hr => first | (go_simp; done) | (go_simp; rfl)); intro gb411 hg w12 hbox hb; have n0_ := Aside0.mk (bk_ BK410.out hb); have n1_ := Aside0.mk (below_step (bh_ HB.out) hb); have n2_ := Aside0.mk (hbox); have n3_ := Aside0.mk ((by rw [hg]; exact (below_size (bh_ HB.out)) : w.heap.size ≤ gb411)); have n4_ := Aside0.mk ((by rw [hg]; exact (below_size (bh_ HB.out)) : w.heap.size ≤ gb411)); have n5_ := Aside0.mk ((by rw [hg]; exact Nat.ne_of_lt (blk_lt (g := gb410) (o := .cells #[.string a0_0, .int .i64 a0_1, .int .i64 a0_2] 112 (0, 0)) (bz_ BK410.out)) : gb410 ≠ gb411)); have n6_ := Aside0.mk ((by rw [hg]; exact Nat.ne_of_gt (blk_lt (g := gb410) (o := .cells #[.string a0_0, .int .i64 a0_1, .int .i64 a0_2] 112 (0, 0)) (bz_ BK410.out)) : gb411 ≠ gb410)); clear BK410; clear HB; have BK410 := n0_; have HB := n1_; have BK411 := n2_; have GW411 := n3_; have GE411 := n4_; have NB410_411 := n5_; have NB411_410 := n6_; clear n0_ n1_ n2_ n3_ n4_ n5_ n6_; clear hb hbox hg; have hnb13 := NB410_411.out; have hnc13 := NB411_410.out; obtain ⟨z14_0, z14_1, z14_2, f14_0, f14_1, f14_2⟩ := bc3_ BK410.out; obtain ⟨z15_0, z15_1, z15_2, f15_0, f15_1, f15_2⟩ := bc3_ BK411.out))
   refine bodyPost_ret (results_cell_row rfl _ _ gb411 112 #[.string a0_0, .int .i64 a0_1, .int .i64 a0_2] (0, 0) _ rfl (bz_ BK411.out) Try.underlying112 rfl (by kernel_rfl)) rfl ?_
   exact ⟨by first | rfl | (simp [errW_none, errW_some] <;> rfl) | (simp [*, errW_none, errW_some] <;> rfl), by repeat (first | (with_reducible first | exact HB.out | apply below_alloc | apply pw_below_drewN | apply below_drew1 | refine below_set ?_ GE410.out | refine below_set ?_ GE411.out) | exact HB.out)⟩
 ·rw [if_neg c2] at H
  have c2b0 : (a0_2 == 0) = false := beq_eq_false_iff_ne.mpr c2
  have c2b1 : (a0_2 != 0) = true := bne_iff_ne.mpr c2
  simp only [Option.some.injEq, Prod.mk.injEq] at H
  obtain ⟨rfl, rfl, rfl⟩ := H
  go_enter Try.func72, Try.ntmps72
  go_wp2_with (first | ((with_reducible refine gate_dst (N := 1) rfl ?_); (try (refine gate_guard (by rfl) ?_; dsimp only)); refine box_event ?hg (N := 1) ?hd (cs := #[.string a0_0, .int .i64 a0_1, .int .i64 a0_2]) (t := 112) ?hr ?_; (case hd => rfl); (case hg => rfl); (case hr => first | (go_simp; done) | (go_simp; rfl)); intro gb410 hg w16 hbox hb; have n0_ := Aside0.mk (below_step (bh_ HB.out) hb); have n1_ := Aside0.mk (hbox); have n2_ := Aside0.mk ((by rw [hg]; exact (below_size (bh_ HB.out)) : w.heap.size ≤ gb410)); have n3_ := Aside0.mk ((by rw [hg]; exact (below_size (bh_ HB.out)) : w.heap.size ≤ gb410)); clear HB; have HB := n0_; have BK410 := n1_; have GW410 := n2_; have GE410 := n3_; clear n0_ n1_ n2_ n3_; clear hb hbox hg) | ((with_reducible refine gate_dst (N := 2) rfl ?_); (try (refine gate_guard (by rfl) ?_; dsimp only)); refine box_event ?hg (N := 2) ?hd (cs := #[.string (⟨#[]⟩ : ByteArray), .int .i64 0, .int .i64 0]) (t := 112) ?hr ?_; (case hd => rfl); (case hg => rfl); (case hr => first | (go_simp; done) | (go_simp; rfl)); intro gb411 hg w17 hbox hb; have n0_ := Aside0.mk (bk_ BK410.out hb); have n1_ := Aside0.mk (below_step (bh_ HB.out) hb); have n2_ := Aside0.mk (hbox); have n3_ := Aside0.mk ((by rw [hg]; exact (below_size (bh_ HB.out)) : w.heap.size ≤ gb411)); have n4_ := Aside0.mk ((by rw [hg]; exact (below_size (bh_ HB.out)) : w.heap.size ≤ gb411)); have n5_ := Aside0.mk ((by rw [hg]; exact Nat.ne_of_lt (blk_lt (g := gb410) (o := .cells #[.string a0_0, .int .i64 a0_1, .int .i64 a0_2] 112 (0, 0)) (bz_ BK410.out)) : gb410 ≠ gb411)); have n6_ := Aside0.mk ((by rw [hg]; exact Nat.ne_of_gt (blk_lt (g := gb410) (o := .cells #[.string a0_0, .int .i64 a0_1, .int .i64 a0_2] 112 (0, 0)) (bz_ BK410.out)) : gb411 ≠ gb410)); clear BK410; clear HB; have BK410 := n0_; have HB := n1_; have BK411 := n2_; have GW411 := n3_; have GE411 := n4_; have NB410_411 := n5_; have NB411_410 := n6_; clear n0_ n1_ n2_ n3_ n4_ n5_ n6_; clear hb hbox hg; have hnb18 := NB410_411.out; have hnc18 := NB411_410.out; obtain ⟨z19_0, z19_1, z19_2, f19_0, f19_1, f19_2⟩ := bc3_ BK410.out; obtain ⟨z20_0, z20_1, z20_2, f20_0, f20_1, f20_2⟩ := bc3_ BK411.out))
  refine bodyPost_ret (results_cell_row rfl _ _ gb411 112 #[.string a0_0, .int .i64 a0_1, .int .i64 a0_2] (0, 0) _ rfl (bz_ BK411.out) Try.underlying112 rfl (by kernel_rfl)) rfl ?_
  exact ⟨by first | rfl | (simp [errW_none, errW_some] <;> rfl) | (simp [*, errW_none, errW_some] <;> rfl), by repeat (first | (with_reducible first | exact HB.out | apply below_alloc | apply pw_below_drewN | apply below_drew1 | refine below_set ?_ GE410.out | refine below_set ?_ GE411.out) | exact HB.out)⟩
end Go.Proofs.Ytdcbacbilncnnaa.PMk
end
section
/- Cursors: what is taken of bytes, by the program and by the reference. -/
namespace Go.Proofs.Ytdcbacbilncnnaa.EncL
set_option linter.unusedVariables false
set_option linter.unusedSimpArgs false
open Go.RowKit Go.Proofs.Ytdcbacbilncnnaa.PMk Go.Proofs.Ytdcbacbilncnnaa.EncS Go.Proofs.YtdcbacbilncnnaaW.PrintWords Go.Proofs.YtdcbacbilncnnaaW.PrintLast Go.Proofs.YtdcbacbilncnnaaW.PrintMore
theorem andNot128 (b : UInt8) : Go.bits .andNot .u8 (b.toNat : Int) 128 = ((b.toNat % 128 : Nat) : Int) := by
  have h : ∀ n : Fin 256, Go.bits .andNot .u8 (n.val : Int) 128 = ((n.val % 128 : Nat) : Int) := by decide +kernel
  exact h ⟨b.toNat, b.toNat_lt⟩
theorem bits_or_comm (k : IntKind) (x y : Int) : Go.bits .or k x y = Go.bits .or k y x := by
  unfold Go.bits
  simp only [BitVec.or_comm]
theorem wraps_u64 (n : Int) (h₀ : 0 ≤ n) (h₁ : n < 2 ^ 64) : IntKind.u64.wrap n = n := u64_in n h₀ (by simpa using h₁)
theorem cast_lt (n : Nat) (h : n < 18446744073709551616) : (n : Int) < 2 ^ 64 := by
  have e : (2 : Int) ^ 64 = 18446744073709551616 := by decide
  omega
theorem pow128 (i : Nat) : (128 : Nat) ^ i = 2 ^ (7 * i) := by rw [Nat.pow_mul]
/-- The number so far, with one byte more. -/
theorem joined (b : UInt8) (i acc : Nat) (hi : i ≤ 9) (hb : i = 9 → b.toNat ≤ 1) (ha : acc < 128 ^ i) :
    Go.bits .or .u64 (acc : Int) (shl .u64 (IntKind.u64.wrap (Go.bits .andNot .u8 (b.toNat : Int) 128)) (wrap64 (7 * (i : Int)))) = ((acc + b.toNat % 128 * 128 ^ i : Nat) : Int) ∧ acc + b.toNat % 128 * 128 ^ i < 18446744073709551616 := by
  have hm : b.toNat % 128 * 128 ^ i + 128 ^ i ≤ 18446744073709551616 := by
    by_cases h9 : i = 9
    · have := hb h9; subst h9
      have : b.toNat % 128 ≤ 1 := by omega
      rw [pow9]; omega
    · have hp : (128 : Nat) ^ i ≤ 128 ^ 8 := Nat.pow_le_pow_right (by decide) (by omega)
      have h8 : (128 : Nat) ^ 8 = 72057594037927936 := by decide
      have hq : b.toNat % 128 * 128 ^ i ≤ 127 * 128 ^ i := Nat.mul_le_mul_right _ (by omega)
      omega
  have hpos : 0 < (128 : Nat) ^ i := Nat.pow_pos (by decide)
  have e7 : (wrap64 (7 * (i : Int))).toNat = 7 * i := by rw [wrap64_in _ (by omega) (by omega)]; omega
  have es : shl .u64 (IntKind.u64.wrap (Go.bits .andNot .u8 (b.toNat : Int) 128)) (wrap64 (7 * (i : Int))) = ((b.toNat % 128 * 128 ^ i : Nat) : Int) := by
    unfold shl
    rw [andNot128, e7, Nat.min_eq_left (show 7 * i ≤ IntKind.u64.bits by simp [IntKind.bits]; omega), u64_in ((b.toNat % 128 : Nat) : Int) (by omega) (by omega)]
    have ec : ((b.toNat % 128 : Nat) : Int) * 2 ^ (7 * i) = ((b.toNat % 128 * 128 ^ i : Nat) : Int) := by
      rw [pow128]; simp
    rw [ec, u64_in ((b.toNat % 128 * 128 ^ i : Nat) : Int) (by omega) (by omega)]
  refine ⟨?_, by omega⟩
  rw [es, bits_or_comm]
  have hd : ((b.toNat % 128 * 128 ^ i : Nat) : Int) % 2 ^ (7 * i) = 0 := by
    have : (b.toNat % 128 * 128 ^ i) % 2 ^ (7 * i) = 0 := by rw [pow128]; exact Nat.mul_mod_left _ _
    exact_mod_cast this
  have hlt : (acc : Int) < 2 ^ (7 * i) := by rw [pow128] at ha; exact_mod_cast ha
  rw [bits_join .u64 64 (by decide) wraps_u64 (7 * i) _ _ (by omega) hd (cast_lt _ (by omega)) (by omega) hlt (cast_lt _ (by omega))]
  omega
theorem bt_at_drop (s : ByteArray) (j : Nat) (b : UInt8) (l : List UInt8) (h : s.toList.drop j = b :: l) : bt s (j : Int) = (b.toNat : Int) ∧ j < s.size ∧ s.toList.drop (j + 1) = l := by
  have hl : s.toList.length = s.size := by rw [ByteArray.toList_eq, Array.length_toList]; rfl
  have hj : j < s.toList.length := by
    by_cases h1 : j < s.toList.length
    · exact h1
    · rw [List.drop_eq_nil_of_le (by omega)] at h; simp at h
  have h2 := List.drop_eq_getElem_cons hj
  rw [h2] at h
  simp only [List.cons.injEq] at h
  refine ⟨?_, by omega, h.2⟩
  rw [← h.1]
  have hjs : j < s.size := by omega
  unfold bt
  rw [Int.toNat_natCast, dif_pos hjs]
  congr 2
  have e := ByteArray.toList_eq s
  simp only [e]
  rfl
theorem size_of_drop_nil (s : ByteArray) (j : Nat) (h : s.toList.drop j = []) : s.size ≤ j := by
  have hl : s.toList.length = s.size := by rw [ByteArray.toList_eq, Array.length_toList]; rfl
  have := List.drop_eq_nil_iff.1 h
  omega
/-- What a cursor is behind a number's taking. -/
def outU (s : ByteArray) (p : Nat) (r : Nat × Nat × Nat) : Int × ByteArray × Int × Int :=
  if r.1 = 0 then ((r.2.2 : Int), s, ((p + r.2.1 : Nat) : Int), 0) else (0, s, (p : Int), (r.1 : Int))
theorem stop_0 (s : ByteArray) (a e : Int) : enc_Cursor_stop.f s a 0 e = some (s, a, e) := by unfold enc_Cursor_stop.f; rw [if_pos rfl]
theorem stop_n (s : ByteArray) (a c e : Int) (h : ¬ c = 0) : enc_Cursor_stop.f s a c e = some (s, a, c) := by unfold enc_Cursor_stop.f; rw [if_neg h]
theorem cur_l0 (s : ByteArray) (p : Nat) (hs : s.size < 4611686018427387904) : ∀ (l : List UInt8) (i acc : Nat), s.toList.drop (p + i) = l → p + i ≤ s.size → i ≤ 9 → acc < 128 ^ i →
    Ev (fun k => enc_Cursor_Uint.l0 k (acc : Int) (i : Int) s (p : Int) 0) (outU s p (decU l i acc)) := by
  intro l
  induction l with
  | nil =>
    intro i acc hl hp hi ha
    have hsz := size_of_drop_nil s (p + i) hl
    refine Ev.step (f := fun _ => some (outU s p (4, 0, 0))) (fun k => ?_) (Ev.now _)
    simp only [enc_Cursor_Uint.l0]
    rw [if_pos (by rw [wrap64_in _ (by omega) (by omega)]; omega), stop_0]
    rfl
  | cons b l ih =>
    intro i acc hl hp hi ha
    obtain ⟨hb, hlt, hd⟩ := bt_at_drop s (p + i) b l hl
    have ew : wrap64 ((p : Int) + (i : Int)) = ((p + i : Nat) : Int) := by rw [wrap64_in _ (by omega) (by omega)]; omega
    have hj : ∀ k, enc_Cursor_Uint.l0 (k + 1) (acc : Int) (i : Int) s (p : Int) 0 = enc_Cursor_Uint.j1 k (acc : Int) (i : Int) (b.toNat : Int) (decide ((i = 9 ∧ 1 < b.toNat) ∨ (0 < i ∧ b.toNat = 0))) s (p : Int) 0 := by
      intro k
      simp only [enc_Cursor_Uint.l0]
      rw [if_neg (by rw [ew]; omega), if_pos (by rw [ew]; omega), if_pos (by rw [ew]; omega), ew, hb]
      by_cases h9 : i = 9
      · subst h9
        by_cases h1 : 1 < b.toNat
        · rw [if_pos (by omega), if_pos (by omega), decide_eq_true (.inl ⟨rfl, h1⟩)]
        · rw [if_pos (by omega), if_neg (by omega), if_pos (by omega)]
          congr 1
          by_cases h0 : b.toNat = 0 <;> simp [h0, h1]
      · by_cases h0 : 0 < i
        · rw [if_neg (by omega), if_pos (by omega)]
          congr 1
          by_cases h0' : b.toNat = 0 <;> simp [h0, h0', h9]
        · rw [if_neg (by omega), if_neg (by omega)]
          congr 1
          simp [h0, h9]
    simp only [decU]
    by_cases hc : (i = 9 ∧ 1 < b.toNat) ∨ (0 < i ∧ b.toNat = 0)
    · rw [if_pos hc]
      refine Ev.step hj (Ev.step (f := fun _ => some (outU s p (6, 0, 0))) (fun k => ?_) (Ev.now _))
      simp only [enc_Cursor_Uint.j1]
      rw [if_pos (decide_eq_true hc), stop_0]
      rfl
    · rw [if_neg hc]
      have hj2 := joined b i acc hi (fun h => by omega) ha
      have e7 : 0 ≤ wrap64 (7 * (i : Int)) := by rw [wrap64_in _ (by omega) (by omega)]; omega
      by_cases h128 : b.toNat < 128
      · rw [if_pos h128]
        refine Ev.step hj (Ev.step (f := fun _ => some (outU s p (0, i + 1, acc + b.toNat * 128 ^ i))) (fun k => ?_) (Ev.now _))
        simp only [enc_Cursor_Uint.j1]
        rw [if_neg (by rw [decide_eq_false hc]; decide), if_pos e7, if_pos (by omega), hj2.1, Nat.mod_eq_of_lt h128]
        have e1 : wrap64 ((p : Int) + wrap64 ((i : Int) + 1)) = ((p + (i + 1) : Nat) : Int) := by rw [wrap64_in ((i : Int) + 1) (by omega) (by omega), wrap64_in _ (by omega) (by omega)]; omega
        rw [e1]
        rfl
      · rw [if_neg h128]
        have hb256 := b.toNat_lt
        have hm : b.toNat % 128 = b.toNat - 128 := by omega
        have h8 : i ≤ 8 := by omega
        have hnew : acc + (b.toNat - 128) * 128 ^ i < 128 ^ (i + 1) := by
          have : (b.toNat - 128) * 128 ^ i ≤ 127 * 128 ^ i := Nat.mul_le_mul_right _ (by omega)
          rw [pow_succ']; omega
        have h1 := ih (i + 1) (acc + (b.toNat - 128) * 128 ^ i) (by rw [← hd]; congr 1) (by omega) (by omega) hnew
        refine Ev.step hj (Ev.step (fun k => ?_) h1)
        simp only [enc_Cursor_Uint.j1]
        rw [if_neg (by rw [decide_eq_false hc]; decide), if_pos e7, if_neg (by omega), hj2.1, hm, wrap64_in ((i : Int) + 1) (by omega) (by omega)]
        rfl
theorem cur_uint (s : ByteArray) (p : Nat) (hs : s.size < 4611686018427387904) (hp : p ≤ s.size) :
    Ev (fun k => enc_Cursor_Uint.f k s (p : Int) 0) (outU s p (decU (s.toList.drop p) 0 0)) := by
  have h := cur_l0 s p hs (s.toList.drop p) 0 0 rfl hp (by decide) (by decide)
  refine Ev.congr (fun k => ?_) h
  unfold enc_Cursor_Uint.f
  rw [if_pos rfl]
  rfl
theorem cur_uint_err (s : ByteArray) (p e : Int) (he : ¬ e = 0) (k : Nat) : enc_Cursor_Uint.f k s p e = some (0, s, p, e) := by
  unfold enc_Cursor_Uint.f; rw [if_neg he]
/-- What the reference's cursor is behind a number's taking. -/
def outR (s : ByteArray) (p : Nat) (r : Nat × Nat × Nat) : ByteArray × Int × Int × Int :=
  if r.1 = 0 then (s, ((p + r.2.1 : Nat) : Int), 0, (r.2.2 : Int)) else (s, (p : Int), (r.1 : Int), 0)
theorem with_f (s : ByteArray) (a c e : Int) : parchmentref02_Cursor_with.f s a c e = some (s, a, e) := rfl
theorem pow128_lt (i : Nat) (h : i ≤ 9) : (128 : Nat) ^ i ≤ 9223372036854775808 := by
  have : (128 : Nat) ^ i ≤ 128 ^ 9 := Nat.pow_le_pow_right (by decide) h
  rw [pow9] at this
  exact this
theorem ref_l0 (s : ByteArray) (p : Nat) (hs : s.size < 4611686018427387904) : ∀ (l : List UInt8) (i acc : Nat), s.toList.drop (p + i) = l → p + i ≤ s.size → i ≤ 9 → acc < 128 ^ i →
    Ev (fun k => parchmentref02_Cursor_Uint.l0 k (acc : Int) ((128 ^ i : Nat) : Int) (i : Int) s (p : Int) 0) (outR s p (decU l i acc)) := by
  intro l
  induction l with
  | nil =>
    intro i acc hl hp hi ha
    have hsz := size_of_drop_nil s (p + i) hl
    refine Ev.step (f := fun _ => some (outR s p (4, 0, 0))) (fun k => ?_) (Ev.now _)
    simp only [parchmentref02_Cursor_Uint.l0]
    rw [if_pos (by omega), if_pos (by rw [wrap64_in _ (by omega) (by omega)]; omega), with_f]
    rfl
  | cons b l ih =>
    intro i acc hl hp hi ha
    obtain ⟨hb, hlt, hd⟩ := bt_at_drop s (p + i) b l hl
    have hb256 := b.toNat_lt
    have hw := pow128_lt i hi
    have hpos : 0 < (128 : Nat) ^ i := Nat.pow_pos (by decide)
    have ew : wrap64 ((p : Int) + (i : Int)) = ((p + i : Nat) : Int) := by rw [wrap64_in _ (by omega) (by omega)]; omega
    have eb : IntKind.u64.wrap ((b.toNat : Int)) = (b.toNat : Int) := u64_in _ (by omega) (by omega)
    have hj : ∀ k, parchmentref02_Cursor_Uint.l0 (k + 1) (acc : Int) ((128 ^ i : Nat) : Int) (i : Int) s (p : Int) 0 = parchmentref02_Cursor_Uint.j1 k (acc : Int) ((128 ^ i : Nat) : Int) (i : Int) (b.toNat : Int) (decide ((i = 9 ∧ 1 < b.toNat) ∨ (0 < i ∧ b.toNat = 0))) s (p : Int) 0 := by
      intro k
      simp only [parchmentref02_Cursor_Uint.l0]
      rw [if_pos (by omega), if_neg (by rw [ew]; omega), if_pos (by rw [ew]; omega), if_pos (by rw [ew]; omega), ew, hb, eb]
      by_cases h9 : i = 9
      · subst h9
        by_cases h1 : 1 < b.toNat
        · rw [if_pos (by omega), if_pos (by omega), decide_eq_true (.inl ⟨rfl, h1⟩)]
        · rw [if_pos (by omega), if_neg (by omega), if_pos (by omega)]
          congr 1
          by_cases h0 : b.toNat = 0 <;> simp [h0, h1]
      · by_cases h0 : 0 < i
        · rw [if_neg (by omega), if_pos (by omega)]
          congr 1
          by_cases h0' : b.toNat = 0 <;> simp [h0, h0', h9]
        · rw [if_neg (by omega), if_neg (by omega)]
          congr 1
          simp [h0, h9]
    simp only [decU]
    by_cases hc : (i = 9 ∧ 1 < b.toNat) ∨ (0 < i ∧ b.toNat = 0)
    · rw [if_pos hc]
      refine Ev.step hj (Ev.step (f := fun _ => some (outR s p (6, 0, 0))) (fun k => ?_) (Ev.now _))
      simp only [parchmentref02_Cursor_Uint.j1]
      rw [if_pos (decide_eq_true hc), with_f]
      rfl
    · rw [if_neg hc]
      have hj2 := joined b i acc hi (fun h => by omega) ha
      have et : Int.tmod (b.toNat : Int) 128 = ((b.toNat % 128 : Nat) : Int) := by rw [Int.tmod_eq_emod_of_nonneg (by omega)]; omega
      have em : ((b.toNat % 128 : Nat) : Int) * ((128 ^ i : Nat) : Int) = ((b.toNat % 128 * 128 ^ i : Nat) : Int) := by rw [Int.natCast_mul]
      have e1 : IntKind.u64.wrap ((acc : Int) + IntKind.u64.wrap ((Int.tmod (b.toNat : Int) 128) * ((128 ^ i : Nat) : Int))) = ((acc + b.toNat % 128 * 128 ^ i : Nat) : Int) := by
        rw [et, em, u64_in ((b.toNat % 128 * 128 ^ i : Nat) : Int) (by omega) (by omega), u64_in _ (by omega) (by omega)]; omega
      by_cases h128 : b.toNat < 128
      · rw [if_pos h128]
        refine Ev.step hj (Ev.step (f := fun _ => some (outR s p (0, i + 1, acc + b.toNat * 128 ^ i))) (fun k => ?_) (Ev.now _))
        simp only [parchmentref02_Cursor_Uint.j1]
        rw [if_neg (by rw [decide_eq_false hc]; decide), if_pos (by omega), e1, Nat.mod_eq_of_lt h128]
        have e2 : wrap64 (wrap64 ((p : Int) + (i : Int)) + 1) = ((p + (i + 1) : Nat) : Int) := by rw [ew, wrap64_in _ (by omega) (by omega)]; omega
        rw [e2]
        rfl
      · rw [if_neg h128]
        have hm : b.toNat % 128 = b.toNat - 128 := by omega
        have h8 : i ≤ 8 := by omega
        have hp8 : (128 : Nat) ^ i ≤ 72057594037927936 := by
          have : (128 : Nat) ^ i ≤ 128 ^ 8 := Nat.pow_le_pow_right (by decide) h8
          have e8 : (128 : Nat) ^ 8 = 72057594037927936 := by decide
          omega
        have hnew : acc + (b.toNat - 128) * 128 ^ i < 128 ^ (i + 1) := by
          have : (b.toNat - 128) * 128 ^ i ≤ 127 * 128 ^ i := Nat.mul_le_mul_right _ (by omega)
          rw [pow_succ']; omega
        have h1 := ih (i + 1) (acc + (b.toNat - 128) * 128 ^ i) (by rw [← hd]; congr 1) (by omega) (by omega) hnew
        refine Ev.step hj (Ev.step (fun k => ?_) h1)
        simp only [parchmentref02_Cursor_Uint.j1]
        have e3 : IntKind.u64.wrap (((128 ^ i : Nat) : Int) * 128) = ((128 ^ (i + 1) : Nat) : Int) := by
          rw [u64_in _ (by omega) (by omega), pow_succ', Int.natCast_mul]; rfl
        rw [if_neg (by rw [decide_eq_false hc]; decide), if_neg (by omega), e1, e3, hm, wrap64_in ((i : Int) + 1) (by omega) (by omega)]
        rfl
theorem ref_uint (s : ByteArray) (p : Nat) (hs : s.size < 4611686018427387904) (hp : p ≤ s.size) :
    Ev (fun k => parchmentref02_Cursor_Uint.f k s (p : Int) 0) (outR s p (decU (s.toList.drop p) 0 0)) := by
  have h := ref_l0 s p hs (s.toList.drop p) 0 0 rfl hp (by decide) (by decide)
  refine Ev.congr (fun k => ?_) h
  unfold parchmentref02_Cursor_Uint.f
  rw [if_pos rfl]
  rfl
/-! What each call takes: the value, the place behind it, the error. -/
def uintS (s : ByteArray) (p : Nat) (e : Int) : Nat × Nat × Int :=
  if e = 0 then (if (decU (s.toList.drop p) 0 0).1 = 0 then ((decU (s.toList.drop p) 0 0).2.2, p + (decU (s.toList.drop p) 0 0).2.1, 0) else (0, p, ((decU (s.toList.drop p) 0 0).1 : Int))) else (0, p, e)
theorem toList_length (s : ByteArray) : s.toList.length = s.size := by rw [ByteArray.toList_eq, Array.length_toList]; rfl
/-- What a number's taking keeps. -/
theorem uintS_ok (s : ByteArray) (p : Nat) (e : Int) (hp : p ≤ s.size) : (uintS s p e).2.1 ≤ s.size ∧ (uintS s p e).1 < 18446744073709551616 ∧ p ≤ (uintS s p e).2.1 ∧ ((uintS s p e).2.2 ≠ 0 → (uintS s p e).1 = 0 ∧ (uintS s p e).2.1 = p) := by
  unfold uintS
  by_cases he : e = 0
  · rw [if_pos he]
    generalize hr : decU (s.toList.drop p) 0 0 = r
    obtain ⟨e1, c, v⟩ := r
    by_cases h1 : e1 = 0
    · subst h1
      obtain ⟨_, _, hc, hv⟩ := taken _ _ _ hr
      rw [List.length_drop, toList_length] at hc
      rw [if_pos rfl]
      exact ⟨by show p + c ≤ s.size; omega, hv, by show p ≤ p + c; omega, fun h => absurd rfl h⟩
    · rw [if_neg h1]
      exact ⟨hp, (by decide : 0 < 18446744073709551616), Nat.le_refl _, fun _ => ⟨rfl, rfl⟩⟩
  · rw [if_neg he]
    exact ⟨hp, (by decide : 0 < 18446744073709551616), Nat.le_refl _, fun _ => ⟨rfl, rfl⟩⟩
def outC (s : ByteArray) {α : Type} (r : α × Nat × Int) : α × ByteArray × Int × Int := (r.1, s, (r.2.1 : Int), r.2.2)
def outD (s : ByteArray) {α : Type} (r : α × Nat × Int) : ByteArray × Int × Int × α := (s, (r.2.1 : Int), r.2.2, r.1)
theorem p_uint (s : ByteArray) (p : Nat) (e : Int) (hs : s.size < 4611686018427387904) (hp : p ≤ s.size) :
    Ev (fun k => enc_Cursor_Uint.f k s (p : Int) e) (((uintS s p e).1 : Int), s, ((uintS s p e).2.1 : Int), (uintS s p e).2.2) := by
  by_cases he : e = 0
  · subst he
    have h := cur_uint s p hs hp
    have e1 : outU s p (decU (s.toList.drop p) 0 0) = (((uintS s p 0).1 : Int), s, ((uintS s p 0).2.1 : Int), (uintS s p 0).2.2) := by
      unfold outU uintS
      rw [if_pos rfl]
      split <;> rfl
    rw [e1] at h
    exact h
  · have e1 : uintS s p e = (0, p, e) := by unfold uintS; rw [if_neg he]
    rw [e1]
    refine Ev.congr (fun k => ?_) (Ev.now _)
    exact cur_uint_err s p e he k
theorem r_uint (s : ByteArray) (p : Nat) (e : Int) (hs : s.size < 4611686018427387904) (hp : p ≤ s.size) :
    Ev (fun k => parchmentref02_Cursor_Uint.f k s (p : Int) e) (s, ((uintS s p e).2.1 : Int), (uintS s p e).2.2, ((uintS s p e).1 : Int)) := by
  by_cases he : e = 0
  · subst he
    have h := ref_uint s p hs hp
    have e1 : outR s p (decU (s.toList.drop p) 0 0) = (s, ((uintS s p 0).2.1 : Int), (uintS s p 0).2.2, ((uintS s p 0).1 : Int)) := by
      unfold outR uintS
      rw [if_pos rfl]
      split <;> rfl
    rw [e1] at h
    exact h
  · have e1 : uintS s p e = (0, p, e) := by unfold uintS; rw [if_neg he]
    rw [e1]
    refine Ev.congr (fun k => ?_) (Ev.now _)
    unfold parchmentref02_Cursor_Uint.f; rw [if_neg he]
    rfl
def countS (s : ByteArray) (p : Nat) (e most : Int) : Int × Nat × Int :=
  if e = 0 then (if (uintS s p 0).2.2 = 0 then (if most < 0 ∨ ((uintS s p 0).1 : Int) > most then (0, p, 3) else (((uintS s p 0).1 : Int), (uintS s p 0).2.1, 0)) else (0, p, (uintS s p 0).2.2)) else (0, p, e)
def bytesS (s : ByteArray) (p : Nat) (e n : Int) : ByteArray × Nat × Int :=
  if e = 0 then (if n < 0 then (⟨#[]⟩, p, 1) else if n > (s.size : Int) - p then (⟨#[]⟩, p, 4) else (s.extract p (p + n.toNat), p + n.toNat, 0)) else (⟨#[]⟩, p, e)
def textS (s : ByteArray) (p : Nat) (e most : Int) : ByteArray × Nat × Int :=
  if (bytesS s (countS s p e (mn most 1048576)).2.1 (countS s p e (mn most 1048576)).2.2 (countS s p e (mn most 1048576)).1).2.2 = 0
  then bytesS s (countS s p e (mn most 1048576)).2.1 (countS s p e (mn most 1048576)).2.2 (countS s p e (mn most 1048576)).1
  else (⟨#[]⟩, p, (bytesS s (countS s p e (mn most 1048576)).2.1 (countS s p e (mn most 1048576)).2.2 (countS s p e (mn most 1048576)).1).2.2)
theorem p_count (s : ByteArray) (p : Nat) (e most : Int) (hs : s.size < 4611686018427387904) (hp : p ≤ s.size) (hm : most < 9223372036854775808) :
    Ev (fun k => enc_Cursor_Count.f k s (p : Int) e most) (outC s (countS s p e most)) := by
  unfold enc_Cursor_Count.f
  by_cases he : e = 0
  · subst he
    simp only [↓reduceIte]
    refine Ev.bind (p_uint s p 0 hs hp) ?_
    obtain ⟨_, hv, _, hz⟩ := uintS_ok s p 0 hp
    unfold countS
    rw [if_pos rfl]
    generalize uintS s p 0 = r at hv hz ⊢
    obtain ⟨v, p', e'⟩ := r
    simp only at hv hz ⊢
    by_cases h1 : e' = 0
    · subst h1
      simp only [↓reduceIte]
      by_cases h2 : most < 0
      · simp only [if_pos h2, h2, true_or, ↓reduceIte]
        refine Ev.step (f := fun _ => some (outC s ((0 : Int), p, 3))) (fun k => ?_) (Ev.now _)
        simp only [enc_Cursor_Count.j0, ↓reduceIte, stop_0, Option.bind_some]
        rfl
      · simp only [if_neg h2, h2, false_or]
        have hw : IntKind.u64.wrap most = most := u64_in most (by omega) (by omega)
        rw [hw]
        by_cases h3 : (v : Int) > most
        · rw [if_pos h3, decide_eq_true h3]
          refine Ev.step (f := fun _ => some (outC s ((0 : Int), p, 3))) (fun k => ?_) (Ev.now _)
          simp only [enc_Cursor_Count.j0, ↓reduceIte, stop_0, Option.bind_some]
          rfl
        · rw [if_neg h3, decide_eq_false h3]
          refine Ev.step (f := fun _ => some (outC s ((v : Int), p', 0))) (fun k => ?_) (Ev.now _)
          simp only [enc_Cursor_Count.j0, ↓reduceIte, Bool.false_eq_true, wrap64_in (v : Int) (by omega) (by omega)]
          rfl
    · simp only [if_neg h1]
      obtain ⟨rfl, rfl⟩ := hz h1
      refine Ev.step (f := fun _ => some (outC s ((0 : Int), p', e'))) (fun k => ?_) (Ev.now _)
      simp only [enc_Cursor_Count.j0]
      rw [if_neg (by decide), if_neg h1]
      rfl
  · simp only [if_neg he]
    unfold countS
    rw [if_neg he]
    exact Ev.now _
theorem r_count (s : ByteArray) (p : Nat) (e most : Int) (hs : s.size < 4611686018427387904) (hp : p ≤ s.size) (hm : most < 9223372036854775808) :
    Ev (fun k => parchmentref02_Cursor_Count.f k s (p : Int) e most) (outD s (countS s p e most)) := by
  unfold parchmentref02_Cursor_Count.f
  refine Ev.bind (r_uint s p e hs hp) ?_
  by_cases he : e = 0
  · subst he
    obtain ⟨_, hv, _, hz⟩ := uintS_ok s p 0 hp
    unfold countS
    rw [if_pos rfl]
    generalize uintS s p 0 = r at hv hz ⊢
    obtain ⟨v, p', e'⟩ := r
    simp only at hv hz ⊢
    by_cases h1 : e' = 0
    · subst h1
      simp only [↓reduceIte]
      by_cases h2 : most < 0
      · simp only [if_pos h2, h2, true_or, ↓reduceIte, with_f, Option.bind_some]
        exact Ev.now _
      · simp only [if_neg h2, h2, false_or]
        have hw : IntKind.u64.wrap most = most := u64_in most (by omega) (by omega)
        rw [hw]
        by_cases h3 : (v : Int) > most
        · simp only [if_pos h3, with_f, Option.bind_some]
          exact Ev.now _
        · simp only [if_neg h3, wrap64_in (v : Int) (by omega) (by omega)]
          exact Ev.now _
    · simp only [if_neg h1]
      obtain ⟨rfl, rfl⟩ := hz h1
      have z0 : wrap64 ((0 : Nat) : Int) = 0 := wrap64_in _ (by decide) (by decide)
      rw [z0]
      exact Ev.now _
  · have e1 : uintS s p e = (0, p, e) := by unfold uintS; rw [if_neg he]
    have e2 : countS s p e most = (0, p, e) := by unfold countS; rw [if_neg he]
    rw [e1, e2]
    have z0 : wrap64 ((0 : Nat) : Int) = 0 := wrap64_in _ (by decide) (by decide)
    simp only [if_neg he, z0]
    exact Ev.now _
theorem countS_ok (s : ByteArray) (p : Nat) (e most : Int) (hp : p ≤ s.size) : (countS s p e most).2.1 ≤ s.size ∧ p ≤ (countS s p e most).2.1 ∧ 0 ≤ (countS s p e most).1 ∧ ((countS s p e most).1 ≤ most ∨ (countS s p e most).1 = 0) ∧ ((countS s p e most).2.2 ≠ 0 → (countS s p e most).2.1 = p ∧ (countS s p e most).1 = 0) := by
  obtain ⟨h1, _, h2, _⟩ := uintS_ok s p 0 hp
  unfold countS
  by_cases he : e = 0
  · rw [if_pos he]
    by_cases h3 : (uintS s p 0).2.2 = 0
    · rw [if_pos h3]
      by_cases h4 : most < 0 ∨ ((uintS s p 0).1 : Int) > most
      · rw [if_pos h4]; exact ⟨hp, Nat.le_refl _, Int.le_refl _, .inr rfl, fun _ => ⟨rfl, rfl⟩⟩
      · rw [if_neg h4]; exact ⟨h1, h2, Int.natCast_nonneg _, .inl (by show ((uintS s p 0).1 : Int) ≤ most; omega), fun h => absurd rfl h⟩
    · rw [if_neg h3]; exact ⟨hp, Nat.le_refl _, Int.le_refl _, .inr rfl, fun _ => ⟨rfl, rfl⟩⟩
  · rw [if_neg he]; exact ⟨hp, Nat.le_refl _, Int.le_refl _, .inr rfl, fun _ => ⟨rfl, rfl⟩⟩
theorem p_bytes (s : ByteArray) (p : Nat) (e n : Int) (hs : s.size < 4611686018427387904) (hp : p ≤ s.size) :
    enc_Cursor_Bytes.f s (p : Int) e n = some (outC s (bytesS s p e n)) := by
  unfold enc_Cursor_Bytes.f bytesS
  by_cases he : e = 0
  · subst he
    rw [if_pos rfl, if_pos rfl]
    by_cases h1 : n < 0
    · rw [if_pos h1, if_pos h1, stop_0]; rfl
    · have ew : wrap64 ((s.size : Int) - p) = (s.size : Int) - p := wrap64_in _ (by omega) (by omega)
      rw [if_neg h1, if_neg h1, ew]
      by_cases h2 : n > (s.size : Int) - p
      · rw [if_pos h2, if_pos h2, stop_0]; rfl
      · have e1 : wrap64 ((p : Int) + n) = (p : Int) + n := wrap64_in _ (by omega) (by omega)
        have e2 : wrap64 ((p : Int) + n - n) = (p : Int) := by rw [wrap64_in _ (by omega) (by omega)]; omega
        rw [if_neg h2, if_neg h2, e1, e2, if_pos (by omega), if_pos (by omega), if_pos (by omega)]
        have e3 : ((p : Int) + n).toNat = p + n.toNat := by omega
        have e4 : (p : Int) + n = ((p + n.toNat : Nat) : Int) := by omega
        rw [e3, e4, Int.toNat_natCast]
        rfl
  · rw [if_neg he, if_neg he]; rfl
theorem r_bytes (s : ByteArray) (p : Nat) (e n : Int) (hs : s.size < 4611686018427387904) (hp : p ≤ s.size) :
    parchmentref02_Cursor_Bytes.f s (p : Int) e n = some (outD s (bytesS s p e n)) := by
  unfold parchmentref02_Cursor_Bytes.f bytesS
  by_cases he : e = 0
  · subst he
    rw [if_pos rfl, if_pos rfl]
    by_cases h1 : n < 0
    · rw [if_pos h1, if_pos h1, with_f]; rfl
    · have ew : wrap64 ((s.size : Int) - p) = (s.size : Int) - p := wrap64_in _ (by omega) (by omega)
      rw [if_neg h1, if_neg h1, ew]
      by_cases h2 : n > (s.size : Int) - p
      · rw [if_pos h2, if_pos h2, with_f]; rfl
      · have e1 : wrap64 ((p : Int) + n) = (p : Int) + n := wrap64_in _ (by omega) (by omega)
        rw [if_neg h2, if_neg h2, e1, if_pos (by omega), if_pos (by omega), if_pos (by omega)]
        have e3 : ((p : Int) + n).toNat = p + n.toNat := by omega
        have e4 : (p : Int) + n = ((p + n.toNat : Nat) : Int) := by omega
        rw [e3, e4, Int.toNat_natCast]
        rfl
  · rw [if_neg he, if_neg he]; rfl
theorem bytesS_ok (s : ByteArray) (p : Nat) (e n : Int) (hp : p ≤ s.size) : (bytesS s p e n).2.1 ≤ s.size ∧ p ≤ (bytesS s p e n).2.1 ∧ ((bytesS s p e n).2.2 ≠ 0 → (bytesS s p e n).1 = ⟨#[]⟩ ∧ (bytesS s p e n).2.1 = p) ∧ ((bytesS s p e n).2.2 = 0 → e = 0 ∧ 0 ≤ n ∧ (bytesS s p e n).1.size = n.toNat) := by
  unfold bytesS
  by_cases he : e = 0
  · rw [if_pos he]
    by_cases h1 : n < 0
    · rw [if_pos h1]; exact ⟨hp, Nat.le_refl _, fun _ => ⟨rfl, rfl⟩, fun h => absurd (show (1 : Int) = 0 from h) (by decide)⟩
    · rw [if_neg h1]
      by_cases h2 : n > (s.size : Int) - p
      · rw [if_pos h2]; exact ⟨hp, Nat.le_refl _, fun _ => ⟨rfl, rfl⟩, fun h => absurd (show (4 : Int) = 0 from h) (by decide)⟩
      · rw [if_neg h2]
        refine ⟨by show p + n.toNat ≤ s.size; omega, by show p ≤ p + n.toNat; omega, fun h => absurd rfl h, fun _ => ⟨he, by omega, ?_⟩⟩
        show (s.extract p (p + n.toNat)).size = n.toNat
        rw [ByteArray.size_extract]; omega
  · rw [if_neg he]; exact ⟨hp, Nat.le_refl _, fun _ => ⟨rfl, rfl⟩, fun h => absurd h he⟩
theorem mn_le (a b : Int) : mn a b ≤ b ∧ mn a b ≤ a := by unfold mn; split <;> omega
theorem p_text (s : ByteArray) (p : Nat) (e most : Int) (hs : s.size < 4611686018427387904) (hp : p ≤ s.size) (hm : most < 9223372036854775808) :
    Ev (fun k => enc_Cursor_Text.f k s (p : Int) e most) (outC s (textS s p e most)) := by
  unfold enc_Cursor_Text.f
  have hmn := mn_le most 1048576
  refine Ev.bind (p_count s p e (mn most 1048576) hs hp (by omega)) ?_
  obtain ⟨hc1, _, _, _, _⟩ := countS_ok s p e (mn most 1048576) hp
  simp only [outC]
  rw [p_bytes s _ _ _ hs hc1, Option.bind_some]
  unfold textS
  have hb := bytesS_ok s (countS s p e (mn most 1048576)).2.1 (countS s p e (mn most 1048576)).2.2 (countS s p e (mn most 1048576)).1 hc1
  generalize bytesS s (countS s p e (mn most 1048576)).2.1 (countS s p e (mn most 1048576)).2.2 (countS s p e (mn most 1048576)).1 = r at hb ⊢
  obtain ⟨x, p2, e2⟩ := r
  simp only [outC] at hb ⊢
  by_cases h : e2 = 0
  · subst h
    simp only [↓reduceIte]
    exact Ev.now _
  · obtain ⟨rfl, _⟩ := hb.2.2.1 h
    simp only [h, ↓reduceIte]
    exact Ev.now _
theorem r_text (s : ByteArray) (p : Nat) (e most : Int) (hs : s.size < 4611686018427387904) (hp : p ≤ s.size) (hm : most < 9223372036854775808) :
    Ev (fun k => parchmentref02_Cursor_Text.f k s (p : Int) e most) (outD s (textS s p e most)) := by
  have hj : Ev (fun k => parchmentref02_Cursor_Text.j0 k (mn most 1048576) s (p : Int) e) (outD s (textS s p e most)) := by
    have hmn := mn_le most 1048576
    refine Ev.step (fun k => rfl) ?_
    refine Ev.bind (r_count s p e (mn most 1048576) hs hp (by omega)) ?_
    obtain ⟨hc1, _, _, _, hc2⟩ := countS_ok s p e (mn most 1048576) hp
    simp only [outD]
    rw [r_bytes s _ _ _ hs hc1, Option.bind_some]
    unfold textS
    have hb := bytesS_ok s (countS s p e (mn most 1048576)).2.1 (countS s p e (mn most 1048576)).2.2 (countS s p e (mn most 1048576)).1 hc1
    have he : e ≠ 0 → countS s p e (mn most 1048576) = (0, p, e) := fun h => by unfold countS; rw [if_neg h]
    have hbe : e ≠ 0 → bytesS s p e 0 = (⟨#[]⟩, p, e) := fun h => by unfold bytesS; rw [if_neg h]
    generalize hr : bytesS s (countS s p e (mn most 1048576)).2.1 (countS s p e (mn most 1048576)).2.2 (countS s p e (mn most 1048576)).1 = r at hb ⊢
    obtain ⟨x, p2, e2⟩ := r
    simp only [outD, with_f, Option.bind_some] at hb ⊢
    by_cases h : e2 = 0
    · subst h
      simp only [↓reduceIte]
      exact Ev.now _
    · by_cases h0 : e = 0
      · simp only [h, h0, ↓reduceIte]; exact Ev.now _
      · have h1 := he h0
        rw [h1] at hr
        simp only at hr
        rw [hbe h0] at hr
        simp only [Prod.mk.injEq] at hr
        obtain ⟨rfl, rfl, rfl⟩ := hr
        simp only [h0, ↓reduceIte]; exact Ev.now _
  unfold parchmentref02_Cursor_Text.f
  by_cases h : most > 1048576
  · have e1 : mn most 1048576 = 1048576 := by unfold mn; rw [if_pos (by omega)]
    rw [e1] at hj
    simp only [if_pos h]
    exact hj
  · have e1 : mn most 1048576 = most := by unfold mn; rw [if_neg (by omega)]
    rw [e1] at hj
    simp only [if_neg h]
    exact hj
theorem p_end (s : ByteArray) (p : Nat) (e : Int) : enc_Cursor_End.f s (p : Int) e = some (if e = 0 ∧ p < s.size then 5 else e, s, (p : Int), if e = 0 ∧ p < s.size then 5 else e) := by
  unfold enc_Cursor_End.f
  by_cases h : p < s.size
  · rw [if_pos (by omega)]
    by_cases he : e = 0
    · subst he; rw [stop_0, if_pos ⟨rfl, h⟩]; rfl
    · rw [stop_n s p e 5 he, if_neg (fun hh => he hh.1)]; rfl
  · rw [if_neg (by omega), if_neg (fun hh => h hh.2)]
theorem r_end (s : ByteArray) (p : Nat) (e : Int) : parchmentref02_Cursor_End.f s (p : Int) e = some (s, (p : Int), if e = 0 ∧ p < s.size then 5 else e) := by
  unfold parchmentref02_Cursor_End.f
  by_cases he : e = 0
  · subst he
    rw [if_pos rfl]
    by_cases h : p < s.size
    · rw [if_pos (by omega), with_f, if_pos ⟨rfl, h⟩]; rfl
    · rw [if_neg (by omega), if_neg (fun hh => h hh.2)]
  · rw [if_neg he, if_neg (fun hh => he hh.1)]
end Go.Proofs.Ytdcbacbilncnnaa.EncL
end
section
/- The tree of RFC 6962 in plain Lean: halves, roots, ways. No program in sight but the printed functions. -/
set_option linter.unusedVariables false
set_option linter.unusedSimpArgs false
namespace Go.Proofs.Ytdcbacbilncnnaa.M
open Go.RowKit Go.Proofs.Ytdcbacbilncnnaa.PMk Go.Proofs.YtdcbacbilncnnaaW.PrintWords Go.Proofs.YtdcbacbilncnnaaW.PrintLast
def node (a b : ByteArray) : ByteArray := Dig.dig (((⟨#[1]⟩ : ByteArray) ++ a) ++ b)
theorem node_size (a b : ByteArray) : (node a b).size = 32 := Dig.dig_size _
theorem node_len (a b : ByteArray) : (((⟨#[1]⟩ : ByteArray) ++ a) ++ b).size = 1 + a.size + b.size ∧ ((⟨#[1]⟩ : ByteArray) ++ a).size = 1 + a.size := by
  have s1 : ((⟨#[1]⟩ : ByteArray) ++ a).size = 1 + a.size := by rw [ByteArray.size_append]; rfl
  exact ⟨by rw [ByteArray.size_append, s1], s1⟩
theorem node_f (a b : ByteArray) (ha : a.size ≤ 32) (hb : b.size ≤ 32) : hash_Node.f a b = some (node a b) := by
  obtain ⟨h1, h2⟩ := node_len a b
  unfold hash_Node.f Dig.hash_Sum.f
  rw [if_pos (by omega), if_pos (by omega), if_pos (by omega)]
  rfl
/-! ### halves -/
def sp (n : Nat) : Nat := 2 ^ (n - 1).log2
theorem sp_pos (n : Nat) : 1 ≤ sp n := Nat.one_le_two_pow
theorem sp_lt {n : Nat} (h : 2 ≤ n) : sp n < n := by
  have := Nat.log2_self_le (n := n - 1) (by omega)
  unfold sp
  omega
theorem sp_eq {n j : Nat} (h1 : 2 ^ j < n) (h2 : n ≤ 2 ^ (j + 1)) : sp n = 2 ^ j := by
  have h0 : n - 1 ≠ 0 := by have := Nat.one_le_two_pow (n := j); omega
  have : (n - 1).log2 = j := (Nat.log2_eq_iff h0).2 ⟨by omega, by omega⟩
  rw [sp, this]
end Go.Proofs.Ytdcbacbilncnnaa.M
end
section
/- Ways up: what the program climbs is what the reference says. -/
set_option linter.unusedVariables false
set_option linter.unusedSimpArgs false
namespace Go.Proofs.Ytdcbacbilncnnaa.M
open Go.RowKit Go.Proofs.Ytdcbacbilncnnaa.PMk Go.Proofs.YtdcbacbilncnnaaW.PrintWords Go.Proofs.YtdcbacbilncnnaaW.PrintLast
def W32 (l : List ByteArray) : Prop := ∀ x ∈ l, x.size = 32
theorem W32.app {a b : List ByteArray} : W32 (a ++ b) ↔ W32 a ∧ W32 b := by
  constructor
  · intro h; exact ⟨fun x hx => h x (by simp [hx]), fun x hx => h x (by simp [hx])⟩
  · rintro ⟨h1, h2⟩ x hx
    rcases List.mem_append.1 hx with h | h
    · exact h1 x h
    · exact h2 x h
theorem W32.one {x : ByteArray} : W32 [x] ↔ x.size = 32 := by simp [W32]
theorem W32.cons {x : ByteArray} {l : List ByteArray} : W32 (x :: l) ↔ x.size = 32 ∧ W32 l := by simp [W32]
def step (t : Bool) (w h : ByteArray) : ByteArray := if t then node w h else node h w
end Go.Proofs.Ytdcbacbilncnnaa.M
end
section
/- Roots, and what shows a leaf: the program's are the reference's; and what shows a leaf shows it. -/
set_option linter.unusedVariables false
set_option linter.unusedSimpArgs false
namespace Go.Proofs.Ytdcbacbilncnnaa.M
open Go.RowKit Go.Proofs.Ytdcbacbilncnnaa.PMk Go.Proofs.YtdcbacbilncnnaaW.PrintWords Go.Proofs.YtdcbacbilncnnaaW.PrintLast
def mroot (l : List ByteArray) : ByteArray :=
  if h : l.length ≤ 1 then (if l.length = 0 then Dig.dig ⟨#[]⟩ else l.getD 0 ByteArray.empty)
  else node (mroot (l.take (sp l.length))) (mroot (l.drop (sp l.length)))
termination_by l.length
decreasing_by
  · have := sp_lt (n := l.length) (by omega); simp; omega
  · have := sp_pos l.length; have := sp_lt (n := l.length) (by omega); simp; omega
theorem W32.take {l : List ByteArray} (h : W32 l) (n : Nat) : W32 (l.take n) := fun x hx => h x (List.mem_of_mem_take hx)
theorem W32.drop {l : List ByteArray} (h : W32 l) (n : Nat) : W32 (l.drop n) := fun x hx => h x (List.mem_of_mem_drop hx)
theorem W32.getD {l : List ByteArray} (h : W32 l) {i : Nat} (hi : i < l.length) : (l.getD i ByteArray.empty).size = 32 := by
  rw [List.getD_eq_getElem?_getD, List.getElem?_eq_getElem hi]
  exact h _ (List.getElem_mem _)
theorem mroot_size {l : List ByteArray} (h : W32 l) : (mroot l).size = 32 := by
  rw [mroot]
  split
  · split
    · exact Dig.dig_size _
    · exact h.getD (by omega)
  · exact node_size _ _
theorem mroot_two {l : List ByteArray} (h : 2 ≤ l.length) : mroot l = node (mroot (l.take (sp l.length))) (mroot (l.drop (sp l.length))) := by
  rw [mroot]; rw [dif_neg (by omega)]
theorem mroot_one {l : List ByteArray} (h : l.length = 1) : mroot l = l.getD 0 ByteArray.empty := by
  rw [mroot]; rw [dif_pos (by omega), if_neg (by omega)]
theorem mroot_nil : mroot [] = Dig.dig ⟨#[]⟩ := by rw [mroot]; rfl
/-! ### what shows a leaf -/
end Go.Proofs.Ytdcbacbilncnnaa.M
end
section
/- The tree of digests: Add. -/
set_option linter.unusedVariables false
set_option linter.unusedSimpArgs false
namespace Go.Proofs.Ytdcbacbilncnnaa.T
open Go.RowKit Go.Proofs.Ytdcbacbilncnnaa.PMk Go.Proofs.YtdcbacbilncnnaaW.PrintWords Go.Proofs.YtdcbacbilncnnaaW.PrintLast
theorem info9 : (Try.prog.info? 9).map (fun i => (i.zero, i.size, i.bytes)) = some (some (.string ⟨#[]⟩), 1, 16) := by kernel_rfl
/-- The tree at g, and where its rows lie. -/
structure At (w : World) (base g : Nat) (vl vp : Value) (L P : List ByteArray) : Prop where
  blk : w.heap[g]? = some (.cells #[vl, vp] 121 (0, 0))
  lo : base ≤ g
  rl : w.ownsRow base 9 1 vl L.length (pw_strs L)
  rp : w.ownsRow base 9 1 vp P.length (pw_strs P)
  ap : ∀ k, vl.ownBlock = some k → vp.ownBlock ≠ some k
theorem At.below {w w1 : World} {base g : Nat} {vl vp : Value} {L P : List ByteArray} (h : At w base g vl vp L P) (hb : Below w.heap.size w w1) : At w1 base g vl vp L P :=
  ⟨(hb.block g (Array.getElem?_eq_some_iff.1 h.blk).1).trans h.blk, h.lo, pw_own_below h.rl hb, pw_own_below h.rp hb, h.ap⟩
theorem At.c0 {w : World} {base g : Nat} {vl vp : Value} {L P : List ByteArray} (h : At w base g vl vp L P) : w.cell? ⟨g, 0, none⟩ = some vl := by
  rw [cell_of_row w g 0 _ 121 (0, 0) h.blk]; rfl
theorem At.c1 {w : World} {base g : Nat} {vl vp : Value} {L P : List ByteArray} (h : At w base g vl vp L P) : w.cell? ⟨g, 1, none⟩ = some vp := by
  rw [cell_of_row w g 1 _ 121 (0, 0) h.blk]; rfl
theorem At.base {w : World} {base g : Nat} {vl vp : Value} {L P : List ByteArray} (h : At w base g vl vp L P) : base ≤ w.heap.size :=
  Nat.le_trans h.lo (Nat.le_of_lt (Array.getElem?_eq_some_iff.1 h.blk).1)
theorem At.f0 {w : World} {base g : Nat} {vl vp : Value} {L P : List ByteArray} (h : At w base g vl vp L P) (i : Nat) : w.frozen? ⟨g, i, none⟩ = false := by
  simp [World.frozen?, h.blk]
theorem At.gl {w : World} {base g : Nat} {vl vp : Value} {L P : List ByteArray} (h : At w base g vl vp L P) : some g ≠ vl.ownBlock := own_ne h.rl h.blk (by decide)
theorem At.gp {w : World} {base g : Nat} {vl vp : Value} {L P : List ByteArray} (h : At w base g vl vp L P) : some g ≠ vp.ownBlock := own_ne h.rp h.blk (by decide)
theorem strs_app (L : List ByteArray) (h : ByteArray) : pw_strs L ++ [.string h] = pw_strs (L ++ [h]) := by simp [pw_strs]
/-- What an act on the tree at g leaves of the world, and where the rows lie behind it. -/
structure Step (w w' : World) (g : Nat) (vl vp vl' vp' : Value) : Prop where
  os : w'.os = w.os
  tape : w'.tape = w.tape
  output : w'.output = w.output
  size : w.heap.size ≤ w'.heap.size
  block : ∀ k, k < w.heap.size → k ≠ g → vl.ownBlock ≠ some k → vp.ownBlock ≠ some k → w'.heap[k]? = w.heap[k]?
  nl : ∀ k, vl'.ownBlock = some k → vl.ownBlock = some k ∨ w.heap.size ≤ k
  np : ∀ k, vp'.ownBlock = some k → vp.ownBlock = some k ∨ w.heap.size ≤ k
theorem Step.refl (w : World) (g : Nat) (vl vp : Value) : Step w w g vl vp vl vp := ⟨rfl, rfl, rfl, Nat.le_refl _, fun _ _ _ _ _ => rfl, fun _ h => .inl h, fun _ h => .inl h⟩
theorem Step.trans {w w1 w2 : World} {g : Nat} {vl vp vl1 vp1 vl2 vp2 : Value} (h : Step w w1 g vl vp vl1 vp1) (k : Step w1 w2 g vl1 vp1 vl2 vp2) : Step w w2 g vl vp vl2 vp2 := by
  refine ⟨k.os.trans h.os, k.tape.trans h.tape, k.output.trans h.output, Nat.le_trans h.size k.size, fun i hi hg hl hp => ?_, fun i hi => ?_, fun i hi => ?_⟩
  · refine (k.block i (Nat.lt_of_lt_of_le hi h.size) hg (fun e => ?_) (fun e => ?_)).trans (h.block i hi hg hl hp)
    · rcases h.nl i e with e | e
      · exact hl e
      · omega
    · rcases h.np i e with e | e
      · exact hp e
      · omega
  · rcases k.nl i hi with e | e
    · exact h.nl i e
    · exact .inr (Nat.le_trans h.size e)
  · rcases k.np i hi with e | e
    · exact h.np i e
    · exact .inr (Nat.le_trans h.size e)
theorem Step.of_below {w w1 : World} {g : Nat} {vl vp : Value} (h : Below w.heap.size w w1) : Step w w1 g vl vp vl vp := ⟨h.os, h.tape, h.output, h.size, fun k hk _ _ _ => h.block k hk, fun _ h => .inl h, fun _ h => .inl h⟩
/-- Another leaf behind the leaves. -/
theorem At.leaf {w w2 : World} {base g g1 cap1 : Nat} {vl vp : Value} {L P : List ByteArray} {h : ByteArray} {o : Obj} (hA : At w base g vl vp L P)
    (ho : w2.ownsRow base 9 1 (.slice (some ⟨g1, 0, none⟩) (L.length + 1) cap1) (L.length + 1) (pw_strs L ++ [.string h])) (hg : (w.alloc o).grownBy w2 vl.ownBlock) (ha : vl.ownBlock = some g1 ∨ g1 = w.heap.size + 1) :
    At (w2.setCell ⟨g, 0, none⟩ (.slice (some ⟨g1, 0, none⟩) (L.length + 1) cap1)) base g (.slice (some ⟨g1, 0, none⟩) (L.length + 1) cap1) vp (L ++ [h]) P := by
  have hlt := (Array.getElem?_eq_some_iff.1 hA.blk).1
  have hb2 : w2.heap[g]? = some (.cells #[vl, vp] 121 (0, 0)) := (hg.block g (by simp; omega) hA.gl).trans ((heap_alloc_old w o hlt).trans hA.blk)
  have hne : g ≠ g1 := by
    rcases ha with ha | ha
    · intro e; exact hA.gl (by rw [ha, e])
    · omega
  have hrp : w2.ownsRow base 9 1 vp P.length (pw_strs P) := (hA.rp.alloc o).kept hg (by
    by_cases hv : vp.ownBlock = none
    · exact .inl hv
    · right; intro e
      obtain ⟨k, hk⟩ := Option.ne_none_iff_exists'.1 hv
      exact hA.ap k (e ▸ hk) hk)
  refine ⟨?_, hA.lo, ?_, own_setCell hrp (by simpa using hA.gp) _, ?_⟩
  · exact (blk_set hb2 0 _).trans rfl
  · rw [List.length_append, List.length_singleton, ← strs_app]
    exact own_setCell ho (by simpa [Value.ownBlock] using hne) _
  · intro k hk
    simp only [Value.ownBlock, Option.some.injEq] at hk
    subst hk
    rcases ha with ha | ha
    · exact hA.ap _ ha
    · intro e; have := own_lt hA.rp _ e; omega
theorem At.leaf_step {w w2 : World} {base g g1 cap1 : Nat} {vl vp : Value} {L P : List ByteArray} {o : Obj} (u : Value) (hA : At w base g vl vp L P)
    (hg : (w.alloc o).grownBy w2 vl.ownBlock) (ha : vl.ownBlock = some g1 ∨ g1 = w.heap.size + 1) :
    Step w (w2.setCell ⟨g, 0, none⟩ u) g vl vp (.slice (some ⟨g1, 0, none⟩) (L.length + 1) cap1) vp := by
  have hs := hg.size
  simp at hs
  refine ⟨hg.os, hg.tape, hg.output, by simp; omega, fun k hk hkg hl _ => ?_, fun k hk => ?_, fun _ h => .inl h⟩
  · exact (Below.heap_setCell w2 ⟨g, 0, none⟩ u k hkg).trans ((hg.block k (by simp; omega) (fun e => hl e.symm)).trans (heap_alloc_old w o hk))
  · simp only [Value.ownBlock, Option.some.injEq] at hk
    subst hk
    rcases ha with ha | ha
    · exact .inl ha
    · right; omega
/-- Other peaks. -/
theorem At.peak {w w2 : World} {base g g1 cap1 n : Nat} {vl vp : Value} {L P Q : List ByteArray} {o : Obj} (hA : At w base g vl vp L P) (hn : Q.length = n)
    (ho : w2.ownsRow base 9 1 (.slice (some ⟨g1, 0, none⟩) n cap1) n (pw_strs Q)) (hg : (w.alloc o).grownBy w2 vp.ownBlock) (ha : vp.ownBlock = some g1 ∨ g1 = w.heap.size + 1) :
    At (w2.setCell ⟨g, 1, none⟩ (.slice (some ⟨g1, 0, none⟩) n cap1)) base g vl (.slice (some ⟨g1, 0, none⟩) n cap1) L Q := by
  subst hn
  have hlt := (Array.getElem?_eq_some_iff.1 hA.blk).1
  have hb2 : w2.heap[g]? = some (.cells #[vl, vp] 121 (0, 0)) := (hg.block g (by simp; omega) hA.gp).trans ((heap_alloc_old w o hlt).trans hA.blk)
  have hne : g ≠ g1 := by
    rcases ha with ha | ha
    · intro e; exact hA.gp (by rw [ha, e])
    · omega
  have hrl : w2.ownsRow base 9 1 vl L.length (pw_strs L) := (hA.rl.alloc o).kept hg (by
    by_cases hv : vl.ownBlock = none
    · exact .inl hv
    · right; intro e
      obtain ⟨k, hk⟩ := Option.ne_none_iff_exists'.1 hv
      exact hA.ap k hk (e ▸ hk))
  refine ⟨(blk_set hb2 1 _).trans rfl, hA.lo, own_setCell hrl (by simpa using hA.gl) _, own_setCell ho (by simpa [Value.ownBlock] using hne) _, ?_⟩
  intro k hk
  simp only [Value.ownBlock]
  intro e
  obtain rfl := Option.some.inj e
  rcases ha with ha | ha
  · exact hA.ap _ hk ha
  · have := own_lt hA.rl _ hk; omega
theorem At.peak_step {w w2 : World} {base g g1 cap1 n : Nat} {vl vp : Value} {L P : List ByteArray} {o : Obj} (u : Value) (hA : At w base g vl vp L P)
    (hg : (w.alloc o).grownBy w2 vp.ownBlock) (ha : vp.ownBlock = some g1 ∨ g1 = w.heap.size + 1) :
    Step w (w2.setCell ⟨g, 1, none⟩ u) g vl vp vl (.slice (some ⟨g1, 0, none⟩) n cap1) := by
  have hs := hg.size
  simp at hs
  refine ⟨hg.os, hg.tape, hg.output, by simp; omega, fun k hk hkg _ hl => ?_, fun _ h => .inl h, fun k hk => ?_⟩
  · exact (Below.heap_setCell w2 ⟨g, 1, none⟩ u k hkg).trans ((hg.block k (by simp; omega) (fun e => hl e.symm)).trans (heap_alloc_old w o hk))
  · simp only [Value.ownBlock, Option.some.injEq] at hk
    subst hk
    rcases ha with ha | ha
    · exact .inl ha
    · right; omega
theorem At.far {w w2 : World} {base g : Nat} {vl vp : Value} {L P : List ByteArray} {o : Obj} (hA : At w base g vl vp L P) (hg : (w.alloc o).grownBy w2 vl.ownBlock ∨ (w.alloc o).grownBy w2 vp.ownBlock) :
    w2.heap[g]? = some (.cells #[vl, vp] 121 (0, 0)) := by
  have hlt := (Array.getElem?_eq_some_iff.1 hA.blk).1
  rcases hg with hg | hg
  · exact (hg.block g (by simp; omega) hA.gl).trans ((heap_alloc_old w o hlt).trans hA.blk)
  · exact (hg.block g (by simp; omega) hA.gp).trans ((heap_alloc_old w o hlt).trans hA.blk)
theorem cell53 {w : World} {g : Nat} {vl vp : Value} (h : w.heap[g]? = some (.cells #[vl, vp] 121 (0, 0))) : w.cell? ⟨g, 0, none⟩ = some vl ∧ w.cell? ⟨g, 1, none⟩ = some vp ∧ w.frozen? ⟨g, 0, none⟩ = false ∧ w.frozen? ⟨g, 1, none⟩ = false := by
  refine ⟨?_, ?_, ?_, ?_⟩
  · rw [cell_of_row w g 0 _ 121 (0, 0) h]; rfl
  · rw [cell_of_row w g 1 _ 121 (0, 0) h]; rfl
  · simp [World.frozen?, h]
  · simp [World.frozen?, h]
theorem own_str {w : World} {base n q gp cap : Nat} {P : List ByteArray} (h : w.ownsRow base 9 1 (.slice (some ⟨gp, 0, none⟩) n cap) n (pw_strs P)) (hq : q < P.length) : w.cell? ⟨gp, q, none⟩ = some (.string (P.getD q ByteArray.empty)) := by
  have e := h.cells (g := gp) rfl q (.string (P.getD q ByteArray.empty)) (by simp [pw_strs, List.getElem?_map, hq])
  have hadd : (⟨gp, 0, none⟩ : Addr).add q = ⟨gp, q, none⟩ := by unfold Addr.add; split <;> simp_all
  rwa [hadd] at e
theorem own_str' {w : World} {base n q gp cap : Nat} {P : List ByteArray} (h : w.ownsRow base 9 1 (.slice (some ⟨gp, 0, none⟩) n cap) P.length (pw_strs P)) (hn : P.length = n) (hq : q < n) : w.cell? ⟨gp, q, none⟩ = some (.string (P.getD q ByteArray.empty)) := by
  subst hn
  exact own_str h hq
theorem own_take {w : World} {base n q gp cap : Nat} {P : List ByteArray} (h : w.ownsRow base 9 1 (.slice (some ⟨gp, 0, none⟩) n cap) P.length (pw_strs P)) (hn : P.length = n) (hq : q ≤ n) : w.ownsRow base 9 1 (.slice (some ⟨gp, 0, none⟩) q cap) q (pw_strs (P.take q)) := by
  subst hn
  obtain ⟨h1, h2⟩ := h
  refine ⟨by simp [pw_strs]; omega, ?_⟩
  rcases h2 with ⟨h3, _⟩ | ⟨g', cap', cur, hv, hb, hg, hc, hm, hs, ht⟩
  · simp at h3
  · simp only [Value.slice.injEq, Option.some.injEq, Addr.mk.injEq] at hv
    obtain ⟨⟨rfl, _, _⟩, _, rfl⟩ := hv
    refine .inr ⟨gp, cap, cur, rfl, hb, hg, by omega, hm, hs, ?_⟩
    rw [Nat.mul_one] at ht ⊢
    rw [show pw_strs (P.take q) = (pw_strs P).take q by simp [pw_strs, List.map_take], ← ht, List.take_take]
    congr 1
    omega
theorem own_cap {w : World} {base n gp cap : Nat} {P : List ByteArray} (h : w.ownsRow base 9 1 (.slice (some ⟨gp, 0, none⟩) n cap) P.length (pw_strs P)) (hn : P.length = n) : n ≤ cap := by
  subst hn
  rcases h.2 with ⟨h3, _⟩ | ⟨g', cap', cur, hv, hb, hg, hc, hm, hs, ht⟩
  · simp at h3
  · simp only [Value.slice.injEq, Option.some.injEq, Addr.mk.injEq] at hv
    omega
theorem below_drew {w w1 : World} (h : Below w.drew.heap.size w.drew w1) : Below w.heap.size w w1 := ⟨h.os, h.tape, h.output, h.size, h.block⟩
/-- What the loop makes of the peaks: as long as the number is even, the last two become one. -/
def car : Nat → List ByteArray → Nat → Option (List ByteArray)
  | 0, _, _ => none
  | k + 1, P, n => if n % 2 = 0 then (if 2 ≤ P.length then ((hash_Node.f (P.getD (P.length - 2) ByteArray.empty) (P.getD (P.length - 1) ByteArray.empty)).bind fun t => car k (P.take (P.length - 2) ++ [t]) (n / 2)) else none) else some P
end Go.Proofs.Ytdcbacbilncnnaa.T
end
section
/- The tree of digests: Add. -/
set_option linter.unusedVariables false
set_option linter.unusedSimpArgs false
namespace Go.Proofs.Ytdcbacbilncnnaa.T
open Go.RowKit Go.Proofs.Ytdcbacbilncnnaa.PMk Go.Proofs.YtdcbacbilncnnaaW.PrintWords Go.Proofs.YtdcbacbilncnnaaW.PrintLast
theorem and1 (n : Int) : Go.bits .and .i64 n 1 = n % 2 := by
  have h127 : (BitVec.ofInt 64 1).toNat = 2 ^ 1 - 1 := by decide
  have key : (BitVec.ofInt 64 n &&& BitVec.ofInt 64 1).toNat = (n % ((2 ^ 64 : Nat) : Int)).toNat % 2 ^ 1 := by
    rw [BitVec.toNat_and, BitVec.toNat_ofInt, h127, Nat.and_two_pow_sub_one_eq_mod]
  show IntKind.i64.wrap ((BitVec.ofInt 64 n &&& BitVec.ofInt 64 1).toNat : Nat) = n % 2
  rw [key, IntKind.wrap_i64]
  omega
theorem car_even {kk m : Nat} {P Q : List ByteArray} (h : car kk P m = some Q) (hev : m % 2 = 0) :
    ∃ k q t, kk = k + 1 ∧ P.length = q + 2 ∧ hash_Node.f (P.getD q ByteArray.empty) (P.getD (q + 1) ByteArray.empty) = some t ∧ car k (P.take q ++ [t]) (m / 2) = some Q := by
  cases kk with
  | zero => simp [car] at h
  | succ k =>
    rw [car, if_pos hev] at h
    split at h
    · next h2 =>
      obtain ⟨t, ht, hc⟩ := Option.bind_eq_some_iff.mp h
      refine ⟨k, P.length - 2, t, rfl, by omega, ht ▸ ?_, hc⟩
      congr 2; omega
    · exact absurd h (by simp)
theorem car_odd {kk m : Nat} {P Q : List ByteArray} (h : car kk P m = some Q) (hev : ¬ m % 2 = 0) : P = Q := by
  cases kk with
  | zero => simp [car] at h
  | succ k =>
    rw [car, if_neg hev] at h
    exact Option.some.inj h
theorem w64 (q : Nat) (h : q < 1000002) : wrap64 (q : Int) = (q : Int) ∧ wrap64 ((q : Int) + 2 - 1) = (q : Int) + 1 := ⟨by unfold wrap64; omega, by unfold wrap64; omega⟩
set_option maxRecDepth 100000 in
theorem add_raw (s h : ByteArray) (hleaf : hash_Leaf.f s = some h) (w : World) (base g : Nat) (vl vp : Value) (L P Q : List ByteArray) (hA : At w base g vl vp L P) (hn : L.length + 1 < 1000000) (hp : P.length < 1000000)
    (kc : Nat) (hc : car kc (P ++ [h]) (L.length + 1) = some Q) :
    Calls Try.prog 56 #[.pointer (some ⟨g, 0, none⟩), .string s] w fun e w' => e = .returned (.string h) ∧ ∃ vl' vp', At w' base g vl' vp' (L ++ [h]) Q ∧ Step w w' g vl vp vl' vp' := by
  have HA := Lib.hid hA
  have HL := Lib.hid hleaf
  have HC := Lib.hid hc
  obtain ⟨i0, hi, hz0, hz1, hz2⟩ := info_parts info9
  clear hA hleaf hc
  go_enter Try.func56, Try.ntmps56
  go_wp2_with (first
    | (go_at_call 20; refine (hash_Leaf.calls s h _ HL.out).mono ?_; rintro e w1 ⟨rfl, hb1⟩; have HA1 := Lib.hid (HA.out.below hb1); have HS1 := Lib.hid (Step.of_below (g := g) (vl := vl) (vp := vp) hb1); clear hb1; have c0 := HA1.out.c0; have hbs := HA1.out.base)
    | (at_builtin; refine wpList_append_lies _ rfl (.tmp 16) (.tmp 18) 51 rfl base 9 i0 (.string ⟨#[]⟩) 1 16 Try.underlying51 hi hz0 hz1 hz2 rfl (by decide) vl _ _ (by rfl) (HA1.out.rl.alloc _) ⟨w1.heap.size, 0, none⟩ 1 1 [.string h] (by rfl) rfl (World.news_of_block (heap_alloc_new w1 _)) (by intro u hu; simp at hu; subst hu; rfl) (by decide) (by unfold maxLen; omega) (by omega) (by simp; omega) (w1.heap.size + 1) (by simp) ?_))
  intro g1 cap1 w2 hown1 hgrow1 hat1 hlt1
  have HA2 := Lib.hid (HA1.out.leaf hown1 hgrow1 hat1)
  have HS2 := Lib.hid (HS1.out.trans (HA1.out.leaf_step (.slice (some ⟨g1, 0, none⟩) (L.length + 1) cap1) (cap1 := cap1) hgrow1 hat1))
  have b2 := cell53 (HA1.out.far (.inl hgrow1))
  have b20 := b2.1
  have b2f := b2.2.2.1
  clear b2 hown1 hgrow1 hat1 hlt1 c0 hbs
  have c1 := HA2.out.c1
  have hbs := HA2.out.base
  go_wp2_with (at_builtin; refine wpList_append_lies _ rfl (.tmp 26) (.tmp 28) 51 rfl base 9 i0 (.string ⟨#[]⟩) 1 16 Try.underlying51 hi hz0 hz1 hz2 rfl (by decide) vp _ _ (by rfl) (HA2.out.rp.alloc _) ⟨w2.heap.size, 0, none⟩ 1 1 [.string h] (by rfl) rfl (World.news_of_block (w := (w2.setCell _ _).alloc _) (by simpa using heap_alloc_new (w2.setCell ⟨g, 0, none⟩ (.slice (some ⟨g1, 0, none⟩) (L.length + 1) cap1)) (.cells #[.string h] 9))) (by intro u hu; simp at hu; subst hu; rfl) (by decide) (by unfold maxLen; omega) (by omega) (by simp; simpa using Nat.le_succ_of_le hbs) (w2.heap.size + 1) (by simp) ?_)
  intro g2 cap2 w3 hown2 hgrow2 hat2 hlt2
  have HA3 := Lib.hid (HA2.out.peak (Q := P ++ [h]) (n := P.length + 1) (by simp) (by rw [← strs_app]; exact hown2) hgrow2 (hat2.imp id (fun e => by simpa using e)))
  have HS3 := Lib.hid (HS2.out.trans (HA2.out.peak_step (n := P.length + 1) (cap1 := cap2) (.slice (some ⟨g2, 0, none⟩) (P.length + 1) cap2) hgrow2 (hat2.imp id (fun e => by simpa using e))))
  have b2 := cell53 (HA2.out.far (.inr hgrow2))
  have b31 := b2.2.1
  have b3f := b2.2.2.2
  clear b2 hown2 hgrow2 hat2 hlt2 c1 hbs b20 b2f HA2 HS2 HA1 HS1
  have c0 := HA3.out.c0
  go_wp2_with fail
  go_loopw [6] (fun v wr => ∃ (m kk : Nat) (Pk : List ByteArray) (vq : Value), 1 ≤ m ∧ m ≤ 1000000 ∧ Pk.length ≤ 1000000 ∧ v = .int .i64 m ∧ Hid (car kk Pk m = some Q) ∧ Hid (At wr base g (.slice (some ⟨g1, 0, none⟩) (L.length + 1) cap1) vq (L ++ [h]) Pk) ∧ Hid (Step w wr g vl vp (.slice (some ⟨g1, 0, none⟩) (L.length + 1) cap1) vq)) (fun v _ => (intOf v).toNat)
  case atStart => exact ⟨L.length + 1, kc, P ++ [h], .slice (some ⟨g2, 0, none⟩) (P.length + 1) cap2, by omega, by omega, by simp; omega, rfl, HC, HA3, HS3⟩
  case round =>
    obtain ⟨m, kk, Pk, vq, hm1, hm2, hpk, rfl, HC1, HA4, HS4⟩ := hrel
    by_cases hev : m % 2 = 0
    · have e1 : Go.bits .and .i64 (m : Int) 1 = 0 := by rw [and1]; omega
      obtain ⟨k, q, t, rfl, hq, ht, hcar⟩ := car_even HC1.out hev
      obtain ⟨gp, cq, rfl, hgb, hgl⟩ := World.ownsRow.form HA4.out.rp (by omega)
      rw [hq] at HA4 HS4
      have c1 := HA4.out.c1
      have x0 : wr.cell? ⟨gp, q, none⟩ = _ := own_str (by have := HA4.out.rp; rw [hq] at this; exact this) (by omega)
      have x1 : wr.cell? ⟨gp, q + 1, none⟩ = _ := own_str (by have := HA4.out.rp; rw [hq] at this; exact this) (by omega)
      obtain ⟨x, hx⟩ : ∃ x, Pk.getD q ByteArray.empty = x := ⟨_, rfl⟩
      obtain ⟨y, hy⟩ : ∃ y, Pk.getD (q + 1) ByteArray.empty = y := ⟨_, rfl⟩
      rw [hx] at x0 ht
      rw [hy] at x1 ht
      have hx := Lib.hid hx
      have hy := Lib.hid hy
      have hcar := Lib.hid hcar
      have ht := Lib.hid ht
      clear HC1 HA HC HA3 HS3 b31 b3f c0
      go_wp2_with fail
      have hqc : q + 2 ≤ cq := own_cap HA4.out.rp hq
      have hq0 : (0 : Int) ≤ (q : Int) := by omega
      have hq1 : (q : Int) ≤ (cq : Int) := by omega
      have hq2 : (q : Int) < (q : Int) + 2 := by omega
      have hq3 : (0 : Int) ≤ (q : Int) + 1 := by omega
      have hq4 : (q : Int) + 1 < (q : Int) + 2 := by omega
      have tq1 : ((q : Int) + 1).toNat = q + 1 := by omega
      have hqs : q < 1000002 := by omega
      obtain ⟨wq, wq1⟩ := w64 q hqs
      refine start_ (n := 30) (S := fun w' => w'.cell? ⟨g, 1, none⟩ = some (.slice (some ⟨gp, 0, none⟩) (q + 2) cq) ∧ w'.cell? ⟨gp, q, none⟩ = some (.string x) ∧ w'.cell? ⟨gp, q + 1, none⟩ = some (.string y)) (ds := [26, 29]) #[false, false, false, false, false, false, false, false, false, false, false, false, false, false, false, false, false, false, false, false, false, false, false, false, false, false, false, false, false, false] (by kernel_rfl) rfl rfl ⟨c1, x0, x1⟩ (fun hHeld => ?_)
      refine pure_ (i := 0) (N := some 47) (v := ?_) (a' := ?_) #[true, false, false, false, false, false, false, false, false, false, false, false, false, false, false, false, false, false, false, false, false, false, false, false, false, false, false, false, false, false] rfl rfl (by kernel_rfl) (fun _ _ _ h => h) (Or.inl ⟨by rfl, ?_⟩) ?_ ?_
      rotate_left
      · intro w'
        go_simp
        with_reducible rfl
      rotate_left
      · simp only [Act.put, List.setIfInBounds_toArray, List.set_cons_zero, List.set_cons_succ, i64_w, i32_w]
        rfl
      refine pure_ (i := 1) (N := some 48) (v := ?_) (a' := ?_) #[true, true, false, false, false, false, false, false, false, false, false, false, false, false, false, false, false, false, false, false, false, false, false, false, false, false, false, false, false, false] rfl rfl (by kernel_rfl) (fun _ _ _ h => h) (Or.inl ⟨by rfl, ?_⟩) ?_ ?_
      rotate_left
      · intro w'
        go_simp
        with_reducible rfl
      rotate_left
      · simp only [Act.put, List.setIfInBounds_toArray, List.set_cons_zero, List.set_cons_succ, i64_w, i32_w]
        rfl
      refine pure_ (i := 2) (N := some 49) (v := ?_) (a' := ?_) #[true, true, true, false, false, false, false, false, false, false, false, false, false, false, false, false, false, false, false, false, false, false, false, false, false, false, false, false, false, false] rfl rfl (by kernel_rfl) (fun _ _ _ h => h) (Or.inl ⟨by rfl, ?_⟩) ?_ ?_
      rotate_left
      · intro w'
        go_simp
        with_reducible rfl
      rotate_left
      · simp only [Act.put, List.setIfInBounds_toArray, List.set_cons_zero, List.set_cons_succ, i64_w, i32_w]
        rfl
      refine pure_ (i := 3) (N := some 50) (v := ?_) (a' := ?_) #[true, true, true, true, false, false, false, false, false, false, false, false, false, false, false, false, false, false, false, false, false, false, false, false, false, false, false, false, false, false] rfl rfl (by kernel_rfl) (fun _ _ _ h => h) (Or.inl ⟨by rfl, ?_⟩) ?_ ?_
      rotate_left
      · intro w'
        go_simp
        with_reducible rfl
      rotate_left
      · simp only [Act.put, List.setIfInBounds_toArray, List.set_cons_zero, List.set_cons_succ, i64_w, i32_w]
        rfl
      refine pure_ (i := 5) (N := some 52) (v := ?_) (a' := ?_) #[true, true, true, true, false, true, false, false, false, false, false, false, false, false, false, false, false, false, false, false, false, false, false, false, false, false, false, false, false, false] rfl rfl (by kernel_rfl) (fun _ _ _ h => h) (Or.inl ⟨by rfl, ?_⟩) ?_ ?_
      rotate_left
      · intro w'
        go_simp
        with_reducible rfl
      rotate_left
      · simp only [Act.put, List.setIfInBounds_toArray, List.set_cons_zero, List.set_cons_succ, i64_w, i32_w]
        rfl
      refine pure_ (i := 6) (N := some 53) (v := ?_) (a' := ?_) #[true, true, true, true, false, true, true, false, false, false, false, false, false, false, false, false, false, false, false, false, false, false, false, false, false, false, false, false, false, false] rfl rfl (by kernel_rfl) (fun _ _ _ h => h) (Or.inl ⟨by rfl, ?_⟩) ?_ ?_
      rotate_left
      · intro w'
        go_simp
        with_reducible rfl
      rotate_left
      · simp only [Act.put, List.setIfInBounds_toArray, List.set_cons_zero, List.set_cons_succ, i64_w, i32_w]
        rfl
      refine pure_ (i := 8) (N := some 55) (v := ?_) (a' := ?_) #[true, true, true, true, false, true, true, false, true, false, false, false, false, false, false, false, false, false, false, false, false, false, false, false, false, false, false, false, false, false] rfl rfl (by kernel_rfl) (fun _ _ _ h => h) (Or.inl ⟨by rfl, ?_⟩) ?_ ?_
      rotate_left
      · intro w'
        go_simp
        with_reducible rfl
      rotate_left
      · simp only [Act.put, List.setIfInBounds_toArray, List.set_cons_zero, List.set_cons_succ, i64_w, i32_w]
        rfl
      refine pure_ (i := 9) (N := some 56) (v := ?_) (a' := ?_) #[true, true, true, true, false, true, true, false, true, true, false, false, false, false, false, false, false, false, false, false, false, false, false, false, false, false, false, false, false, false] rfl rfl (by kernel_rfl) (fun _ _ _ h => h) (Or.inl ⟨by rfl, ?_⟩) ?_ ?_
      rotate_left
      · intro w'
        go_simp
        with_reducible rfl
      rotate_left
      · simp only [Act.put, List.setIfInBounds_toArray, List.set_cons_zero, List.set_cons_succ, i64_w, i32_w]
        rfl
      refine pure_ (i := 10) (N := some 57) (v := ?_) (a' := ?_) #[true, true, true, true, false, true, true, false, true, true, true, false, false, false, false, false, false, false, false, false, false, false, false, false, false, false, false, false, false, false] rfl rfl (by kernel_rfl) (fun _ _ _ h => h) (Or.inl ⟨by rfl, ?_⟩) ?_ ?_
      rotate_left
      · intro w'
        go_simp
        with_reducible rfl
      rotate_left
      · simp only [Act.put, List.setIfInBounds_toArray, List.set_cons_zero, List.set_cons_succ, i64_w, i32_w]
        rfl
      refine pure_ (i := 12) (N := some 59) (v := ?_) (a' := ?_) #[true, true, true, true, false, true, true, false, true, true, true, false, true, false, false, false, false, false, false, false, false, false, false, false, false, false, false, false, false, false] rfl rfl (by kernel_rfl) (fun _ _ _ h => h) (Or.inl ⟨by rfl, ?_⟩) ?_ ?_
      rotate_left
      · intro w'
        go_simp
        with_reducible rfl
      rotate_left
      · simp only [Act.put, List.setIfInBounds_toArray, List.set_cons_zero, List.set_cons_succ, i64_w, i32_w]
        rfl
      refine pure_ (i := 13) (N := some 60) (v := ?_) (a' := ?_) #[true, true, true, true, false, true, true, false, true, true, true, false, true, true, false, false, false, false, false, false, false, false, false, false, false, false, false, false, false, false] rfl rfl (by kernel_rfl) (fun _ _ _ h => h) (Or.inl ⟨by rfl, ?_⟩) ?_ ?_
      rotate_left
      · intro w'
        go_simp
        with_reducible rfl
      rotate_left
      · simp only [Act.put, List.setIfInBounds_toArray, List.set_cons_zero, List.set_cons_succ, i64_w, i32_w]
        rfl
      refine pure_ (i := 16) (N := some 63) (v := ?_) (a' := ?_) #[true, true, true, true, false, true, true, false, true, true, true, false, true, true, false, false, true, false, false, false, false, false, false, false, false, false, false, false, false, false] rfl rfl (by kernel_rfl) (fun _ _ _ h => h) (Or.inl ⟨by rfl, ?_⟩) ?_ ?_
      rotate_left
      · intro w'
        go_simp
        with_reducible rfl
      rotate_left
      · simp only [Act.put, List.setIfInBounds_toArray, List.set_cons_zero, List.set_cons_succ, i64_w, i32_w]
        rfl
      refine pure_ (i := 17) (N := some 64) (v := ?_) (a' := ?_) #[true, true, true, true, false, true, true, false, true, true, true, false, true, true, false, false, true, true, false, false, false, false, false, false, false, false, false, false, false, false] rfl rfl (by kernel_rfl) (fun _ _ _ h => h) (Or.inl ⟨by rfl, ?_⟩) ?_ ?_
      rotate_left
      · intro w'
        go_simp
        with_reducible rfl
      rotate_left
      · simp only [Act.put, List.setIfInBounds_toArray, List.set_cons_zero, List.set_cons_succ, i64_w, i32_w]
        rfl
      refine pure_ (i := 18) (N := some 65) (v := ?_) (a' := ?_) #[true, true, true, true, false, true, true, false, true, true, true, false, true, true, false, false, true, true, true, false, false, false, false, false, false, false, false, false, false, false] rfl rfl (by kernel_rfl) (fun _ _ _ h => h) (Or.inl ⟨by rfl, ?_⟩) ?_ ?_
      rotate_left
      · intro w'
        go_simp
        with_reducible rfl
      rotate_left
      · simp only [Act.put, List.setIfInBounds_toArray, List.set_cons_zero, List.set_cons_succ, i64_w, i32_w]
        rfl
      refine pure_ (i := 20) (N := some 67) (v := ?_) (a' := ?_) #[true, true, true, true, false, true, true, false, true, true, true, false, true, true, false, false, true, true, true, false, true, false, false, false, false, false, false, false, false, false] rfl rfl (by kernel_rfl) (fun _ _ _ h => h) (Or.inl ⟨by rfl, ?_⟩) ?_ ?_
      rotate_left
      · intro w'
        go_simp
        with_reducible rfl
      rotate_left
      · simp only [Act.put, List.setIfInBounds_toArray, List.set_cons_zero, List.set_cons_succ, i64_w, i32_w]
        rfl
      refine pure_ (i := 21) (N := some 68) (v := ?_) (a' := ?_) #[true, true, true, true, false, true, true, false, true, true, true, false, true, true, false, false, true, true, true, false, true, true, false, false, false, false, false, false, false, false] rfl rfl (by kernel_rfl) (fun _ _ _ h => h) (Or.inl ⟨by rfl, ?_⟩) ?_ ?_
      rotate_left
      · intro w'
        go_simp
        with_reducible rfl
      rotate_left
      · simp only [Act.put, List.setIfInBounds_toArray, List.set_cons_zero, List.set_cons_succ, i64_w, i32_w]
        rfl
      refine take_ (i := 4) (N := some 51) (v := ?_) (a' := ?_) #[true, true, true, true, true, true, true, false, true, true, true, false, true, true, false, false, true, true, true, false, true, true, false, false, false, false, false, false, false, false] rfl rfl (by kernel_rfl) (fun _ _ _ h => h) (Or.inl ⟨by rfl, ?_⟩) hHeld ?_ ?_
      rotate_left
      · rintro w' ⟨s0, s1, s2⟩
        go_simp
        with_reducible rfl
      rotate_left
      · simp only [Act.put, List.setIfInBounds_toArray, List.set_cons_zero, List.set_cons_succ, i64_w, i32_w]
        rfl
      refine pure_ (i := 7) (N := some 54) (v := ?_) (a' := ?_) #[true, true, true, true, true, true, true, true, true, true, true, false, true, true, false, false, true, true, true, false, true, true, false, false, false, false, false, false, false, false] rfl rfl (by kernel_rfl) (fun _ _ _ h => h) (Or.inl ⟨by rfl, ?_⟩) ?_ ?_
      rotate_left
      · intro w'
        go_simp
        with_reducible rfl
      rotate_left
      · simp only [Act.put, List.setIfInBounds_toArray, List.set_cons_zero, List.set_cons_succ, i64_w, i32_w]
        rfl
      refine take_ (i := 11) (N := some 58) (v := ?_) (a' := ?_) #[true, true, true, true, true, true, true, true, true, true, true, true, true, true, false, false, true, true, true, false, true, true, false, false, false, false, false, false, false, false] rfl rfl (by kernel_rfl) (fun _ _ _ h => h) (Or.inl ⟨by rfl, ?_⟩) hHeld ?_ ?_
      rotate_left
      · rintro w' ⟨s0, s1, s2⟩
        go_simp
        with_reducible rfl
      rotate_left
      · simp only [Act.put, List.setIfInBounds_toArray, List.set_cons_zero, List.set_cons_succ, i64_w, i32_w]
        rfl
      refine pure_ (i := 14) (N := some 61) (v := ?_) (a' := ?_) #[true, true, true, true, true, true, true, true, true, true, true, true, true, true, true, false, true, true, true, false, true, true, false, false, false, false, false, false, false, false] rfl rfl (by kernel_rfl) (fun _ _ _ h => h) (Or.inl ⟨by rfl, ?_⟩) ?_ ?_
      rotate_left
      · intro w'
        go_simp
        with_reducible rfl
      rotate_left
      · simp only [Act.put, List.setIfInBounds_toArray, List.set_cons_zero, List.set_cons_succ, i64_w, i32_w]
        rfl
      refine take_ (i := 15) (N := some 62) (v := ?_) (a' := ?_) #[true, true, true, true, true, true, true, true, true, true, true, true, true, true, true, true, true, true, true, false, true, true, false, false, false, false, false, false, false, false] rfl rfl (by kernel_rfl) (fun _ _ _ h => h) (Or.inl ⟨by rfl, ?_⟩) hHeld ?_ ?_
      rotate_left
      · rintro w' ⟨s0, s1, s2⟩
        go_simp
        with_reducible rfl
      rotate_left
      · simp only [Act.put, List.setIfInBounds_toArray, List.set_cons_zero, List.set_cons_succ, i64_w, i32_w]
        rfl
      refine take_ (i := 19) (N := some 66) (v := ?_) (a' := ?_) #[true, true, true, true, true, true, true, true, true, true, true, true, true, true, true, true, true, true, true, true, true, true, false, false, false, false, false, false, false, false] rfl rfl (by kernel_rfl) (fun _ _ _ h => h) (Or.inl ⟨by rfl, ?_⟩) hHeld ?_ ?_
      rotate_left
      · rintro w' ⟨s0, s1, s2⟩
        go_simp
        with_reducible rfl
      rotate_left
      · simp only [Act.put, List.setIfInBounds_toArray, List.set_cons_zero, List.set_cons_succ, i64_w, i32_w]
        rfl
      refine pure_ (i := 22) (N := some 69) (v := ?_) (a' := ?_) #[true, true, true, true, true, true, true, true, true, true, true, true, true, true, true, true, true, true, true, true, true, true, true, false, false, false, false, false, false, false] rfl rfl (by kernel_rfl) (fun _ _ _ h => h) (Or.inl ⟨by rfl, ?_⟩) ?_ ?_
      rotate_left
      · intro w'
        go_simp
        with_reducible rfl
      rotate_left
      · simp only [Act.put, List.setIfInBounds_toArray, List.set_cons_zero, List.set_cons_succ, i64_w, i32_w]
        rfl
      refine take_ (i := 23) (N := some 70) (v := ?_) (a' := ?_) #[true, true, true, true, true, true, true, true, true, true, true, true, true, true, true, true, true, true, true, true, true, true, true, true, false, false, false, false, false, false] rfl rfl (by kernel_rfl) (fun _ _ _ h => h) (Or.inl ⟨by rfl, ?_⟩) hHeld ?_ ?_
      rotate_left
      · rintro w' ⟨s0, s1, s2⟩
        go_simp
        with_reducible rfl
      rotate_left
      · simp only [Act.put, List.setIfInBounds_toArray, List.set_cons_zero, List.set_cons_succ, i64_w, i32_w]
        rfl
      refine one_ (i := 24) (N := some 71) #[true, true, true, true, true, true, true, true, true, true, true, true, true, true, true, true, true, true, true, true, true, true, true, true, true, false, false, false, false, false] rfl rfl (by kernel_rfl) (by decide) (fun K hK => ?_)
      refine goes_ Try.func80 (by kernel_rfl) rfl #[.string x, .string y] (by rfl) rfl rfl (by simp only [List.map_toArray, List.map_cons, List.map_nil]; rfl) ?_
      with_reducible refine (hash_Node.calls _ _ t _ ht.out).mono ?_
      rintro e w4 ⟨rfl, hb4⟩
      refine ⟨_, rfl, ?_⟩
      clear wq wq1
      have HA5 := Lib.hid (HA4.out.below (below_drew hb4))
      have HS5 := Lib.hid (HS4.out.trans (Step.of_below (g := g) (vl := .slice (some ⟨g1, 0, none⟩) (L.length + 1) cap1) (vp := .slice (some ⟨gp, 0, none⟩) (q + 2) cq) (below_drew hb4)))
      clear hb4
      have hlen : w4.heap.size = w4.heap.size := rfl
      refine hK.out _ _ ⟨HA5.out.c1, hx.out ▸ own_str' HA5.out.rp hq (by omega), hy.out ▸ own_str' HA5.out.rp hq (by omega)⟩ (fun hHeld => ?_)
      clear hK K
      refine norm_ (a' := ?_) ?_ ?_
      rotate_left
      · show Act.put _ (some 71) _ = _
        simp only [Act.put, List.setIfInBounds_toArray, List.set_cons_zero, List.set_cons_succ, i64_w, i32_w]
        rfl
      refine one_ (i := 25) (N := some 72) #[true, true, true, true, true, true, true, true, true, true, true, true, true, true, true, true, true, true, true, true, true, true, true, true, true, true, false, false, false, false] rfl rfl (by kernel_rfl) (by decide) (fun K hK => ?_)
      refine value_ (w1 := ?_) (v := ?_) (by rfl) rfl ?_ ?_
      rotate_left 2
      · go_simp
        constructor
        · rfl
        · rfl
      have HA6 := Lib.hid (HA5.out.below ((Below.refl _ w4).alloc (Nat.le_refl _) (.cells #[.string t] 9)))
      refine hK.out _ _ ⟨HA6.out.c1, hx.out ▸ own_str' HA6.out.rp hq (by omega), hy.out ▸ own_str' HA6.out.rp hq (by omega)⟩ (fun hHeld => ?_)
      clear hK K
      refine norm_ (a' := ?_) ?_ ?_
      rotate_left
      · show Act.put _ (some 72) _ = _
        simp only [Act.put, List.setIfInBounds_toArray, List.set_cons_zero, List.set_cons_succ, i64_w, i32_w]
        rfl
      refine last_ (i := 26) (N := some 73) #[true, true, true, true, true, true, true, true, true, true, true, true, true, true, true, true, true, true, true, true, true, true, true, true, true, true, true, false, false, false] rfl rfl (by kernel_rfl) (by decide) (fun K hK => ?_)
      refine step_append_lies _ rfl (.tmp 54) (.tmp 72) 51 rfl base 9 i0 (.string ⟨#[]⟩) 1 16 Try.underlying51 hi hz0 hz1 hz2 rfl (by decide) (.slice (some ⟨gp, 0, none⟩) q cq) q (pw_strs (Pk.take q)) (by rfl) (own_take HA6.out.rp hq (by omega)) ⟨w4.heap.size, 0, none⟩ 1 1 [.string t] (by rfl) rfl (World.news_of_block (heap_alloc_new w4 _)) (by intro u hu; simp at hu; subst hu; rfl) (by decide) (by unfold maxLen; omega) (by omega) HA6.out.base (w4.heap.size + 1) (by simp) ?_
      intro g3 cap3 w5 hown3 hgrow3 hat3 hlt3
      have b2 := cell53 (HA5.out.far (.inr hgrow3))
      have b51 := b2.2.1
      have b5f := b2.2.2.2
      clear b2
      refine hK.out _ _ ?_
      clear hK K
      refine norm_ (a' := ?_) ?_ ?_
      rotate_left
      · show Act.put _ (some 73) _ = _
        simp only [Act.put, List.setIfInBounds_toArray, List.set_cons_zero, List.set_cons_succ, i64_w, i32_w]
        rfl
      refine pure_ (i := 27) (N := some 74) (v := ?_) (a' := ?_) #[true, true, true, true, true, true, true, true, true, true, true, true, true, true, true, true, true, true, true, true, true, true, true, true, true, true, true, true, false, false] rfl rfl (by kernel_rfl) (fun _ _ _ h => h) (Or.inl ⟨by rfl, ?_⟩) ?_ ?_
      rotate_left
      · intro w'
        go_simp
        with_reducible rfl
      rotate_left
      · simp only [Act.put, List.setIfInBounds_toArray, List.set_cons_zero, List.set_cons_succ, i64_w, i32_w]
        rfl
      refine pure_ (i := 28) (N := some 75) (v := ?_) (a' := ?_) #[true, true, true, true, true, true, true, true, true, true, true, true, true, true, true, true, true, true, true, true, true, true, true, true, true, true, true, true, true, false] rfl rfl (by kernel_rfl) (fun _ _ _ h => h) (Or.inl ⟨by rfl, ?_⟩) ?_ ?_
      rotate_left
      · intro w'
        go_simp
        with_reducible rfl
      rotate_left
      · simp only [Act.put, List.setIfInBounds_toArray, List.set_cons_zero, List.set_cons_succ, i64_w, i32_w]
        rfl
      refine last_ (i := 29) (N := none) #[true, true, true, true, true, true, true, true, true, true, true, true, true, true, true, true, true, true, true, true, true, true, true, true, true, true, true, true, true, true] rfl rfl (by kernel_rfl) (by decide) (fun K hK => ?_)
      refine skip_ (w1 := ?_) (by rfl) rfl ?_ ?_
      rotate_left
      · go_simp
        rfl
      refine hK.out _ _ ?_
      clear hK K
      refine done_ (by kernel_rfl) ?_
      have HA7 := Lib.hid (HA5.out.peak (Q := Pk.take q ++ [t]) (n := q + 1) (by simp; omega) (by rw [← strs_app]; exact hown3) hgrow3 hat3)
      have HS7 := Lib.hid (HS5.out.trans (HA5.out.peak_step (n := q + 1) (cap1 := cap3) (.slice (some ⟨g3, 0, none⟩) (q + 1) cap3) hgrow3 hat3))
      clear hown3 hgrow3 hat3 hlt3 HA6 HS5 HA5 hHeld HA4 HS4
      go_wp2_with fail
      go_roundw
      case rel => exact ⟨m / 2, k, Pk.take q ++ [t], _, by omega, by omega, by simp; omega, by go_num, hcar, HA7, HS7⟩
      case measure => simp [intOf]; omega
    · have HC2 := car_odd HC1.out hev
      have e1 : Go.bits .and .i64 (m : Int) 1 = 1 := by rw [and1]; omega
      go_wp2_with fail
      go_ret
      subst HC2
      exact ⟨rfl, _, _, HA4.out, HS4.out⟩
end Go.Proofs.Ytdcbacbilncnnaa.T
end
section
/- slices.Backward at a slice of strings: what its closure hands to the loop's body. After the kit's text on slices.All. -/
namespace Go.Proofs.Ytdcbacbilncnnaa.Bk
open Go.RowKit Go.Shelf
attribute [local go_sem] Oper.semAt_some
def upto {α : Type} (f : Nat → α) (k : Nat) : List α := (List.range k).map f
theorem upto_succ {α : Type} (f : Nat → α) (k : Nat) : upto f (k + 1) = upto f k ++ [f k] := by simp [upto, List.range_succ]
theorem upto_length {α : Type} (f : Nat → α) (k : Nat) : (upto f k).length = k := by simp [upto]
/-- f k is what the k-th round is handed: the k-th from the end. -/
def Hands {α : Type} (enc : α → Array Value) (f : Nat → α) (zs : List ByteArray) : Prop :=
  ∀ k, k < zs.length → enc (f k) = #[Value.int .i64 ((zs.length - 1 - k : Nat) : Int), Value.string (zs.getD (zs.length - 1 - k) ByteArray.empty)]
set_option maxRecDepth 100000 in
set_option maxHeartbeats 2000000 in
theorem back1_in {α : Type} (enc : α → Array Value) (f : Nat → α) (F : Fence) (n : Nat) (h8 : F.fn 95) (hro : F.round = none) (hn : 1 ≤ n) (l Bs n₀ b off cap : Nat) (zs : List ByteArray) (hf : Hands enc f zs) (hreach : zs.length < 1000000) (hb : b < n₀) (Kp : World → World → Prop) (hK1 : ∀ A B, Kp A B → Below n₀ A B) (hK2 : ∀ A B, Kp A B → B.cell? ⟨Bs, 0, none⟩ = A.cell? ⟨Bs, 0, none⟩) (J Jx : List α → World → Prop)
    (hY : ∀ pre x W, J pre W → pre.length < zs.length → YieldAt F (n - 1) Try.prog l (enc x) W fun e W' =>
      (e = .returned (.bool true) ∧ J (pre ++ [x]) W' ∧ Kp W W') ∨ (e = .returned (.bool false) ∧ Jx (pre ++ [x]) W'))
    (W : World) (hBs : W.cell? ⟨Bs, 0, none⟩ = some (.slice (some ⟨b, off, none⟩) zs.length cap)) (hc : ∀ j, j < zs.length → W.cell? ⟨b, off + j, none⟩ = some (.string (zs.getD j ByteArray.empty))) (h0 : J [] W) :
    CallsIn F n Try.prog 95 #[.func (.yield l) #[] #[], .pointer (some ⟨Bs, 0, none⟩)] W fun e W' => (∃ v, e = .returned v) ∧
      ((∃ ys, ys = upto f zs.length ∧ J ys W') ∨ (∃ pre, (∃ k, k ≤ zs.length ∧ pre = upto f k) ∧ Jx pre W')) := by
  obtain ⟨len, hlen⟩ : ∃ len, zs.length = len := ⟨_, rfl⟩
  rw [hlen] at hBs hreach
  refine callsIn_of_wp Try.func95 rfl h8 ?_ hro
  simp only [Try.ntmps95, List.size_toArray, List.length_cons, List.length_nil, Nat.reduceAdd, Nat.reduceSub, Array.replicate_succ, Array.replicate_zero, List.push_toArray, List.append_toArray, List.nil_append, List.cons_append]
  have hwl : IntKind.i64.wrap ((len : Int) - 1) = (len : Int) - 1 := by simp [IntKind.wrap, IntKind.bits, IntKind.signed]; omega
  gi_wp2
  gi_loopw [3] (fun i wr => ∃ k : Nat, k ≤ len ∧ i = .int .i64 ((len : Int) - 1 - k) ∧ J (upto f k) wr ∧ Below n₀ W wr ∧ wr.cell? ⟨Bs, 0, none⟩ = some (.slice (some ⟨b, off, none⟩) len cap))
    (fun i _ => (intOf i + 1).toNat)
  case atStart => exact ⟨0, Nat.zero_le _, by simp, h0, Below.refl _ _, hBs⟩
  case round =>
    obtain ⟨k, hk, rfl, hJs, hnx, hBs'⟩ := hrel
    by_cases hlt : k < len
    · obtain ⟨m, hm⟩ : ∃ m : Nat, (len : Int) - 1 - k = m := ⟨len - 1 - k, by omega⟩
      have hmk : m = len - 1 - k := by omega
      obtain ⟨x, hx⟩ : ∃ x, zs.getD m ByteArray.empty = x := ⟨_, rfl⟩
      have hcx : wr.cell? ⟨b, off + m, none⟩ = some (.string x) := (hnx.cell (p := ⟨b, off + m, none⟩) hb).trans (hx ▸ hc m (by omega))
      obtain ⟨fn, tmps, assign, body, hy, hR⟩ := hY _ (f k) wr hJs (by rw [upto_length]; omega)
      have he := hf k (by omega)
      rw [hlen, ← hmk, hx] at he
      rw [he] at hy
      clear he hf hY
      have hml : m < len := by omega
      rw [hm]
      have HM := Lib.hid hm
      have HK := Lib.hid hmk
      clear hm hmk
      gi_wp2
      refine hR.mono ?_
      rintro e W3 (⟨rfl, hJ3, hk3⟩ | ⟨rfl, hJx3⟩)
      · gi_wp2
        go_roundw
        case rel => exact ⟨k + 1, by omega, by have h1 := HM.out; go_num, by rw [upto_succ]; exact hJ3, hnx.trans (hK1 _ _ hk3), (hK2 _ _ hk3).trans hBs'⟩
        case measure => have h1 := HM.out; simp [intOf] <;> omega
      · gi_wp2
        refine bodyPost_ret (results_none rfl _ _ _) rfl ?_
        exact ⟨⟨_, rfl⟩, .inr ⟨_, ⟨k + 1, by omega, by rw [upto_succ]⟩, hJx3⟩⟩
    · obtain rfl : k = len := by omega
      have hneg : ((k : Int) - 1 - k) = -1 := by omega
      rw [hneg]
      gi_wp2
      go_end0
      exact ⟨⟨_, rfl⟩, .inl ⟨_, by rw [hlen], hJs⟩⟩
/-- The slice value sv holds the strings zs, in a block below n₀; or it is nil and there are none. -/
def Strs (n₀ : Nat) (W : World) (sv : Value) (zs : List ByteArray) : Prop :=
  (sv = .slice none 0 0 ∧ zs = []) ∨ ∃ b off cap, sv = .slice (some ⟨b, off, none⟩) zs.length cap ∧ b < n₀ ∧ ∀ j, j < zs.length → W.cell? ⟨b, off + j, none⟩ = some (.string (zs.getD j ByteArray.empty))
theorem Strs.below {n₀ : Nat} {A B : World} (h : Below n₀ A B) {sv : Value} {zs : List ByteArray} : Strs n₀ A sv zs → Strs n₀ B sv zs
  | .inl e => .inl e
  | .inr ⟨b, off, cap, e, hb, hc⟩ => .inr ⟨b, off, cap, e, hb, fun j hj => (h.cell (p := ⟨b, off + j, none⟩) hb).trans (hc j hj)⟩
set_option maxRecDepth 100000 in
set_option maxHeartbeats 1000000 in
theorem back1_nil_in {α : Type} (F : Fence) (n : Nat) (h8 : F.fn 95) (hro : F.round = none) (l Bs : Nat) (J : List α → World → Prop) (W : World) (hBs : W.cell? ⟨Bs, 0, none⟩ = some (.slice none 0 0)) (h0 : J [] W) :
    CallsIn F n Try.prog 95 #[.func (.yield l) #[] #[], .pointer (some ⟨Bs, 0, none⟩)] W fun e W' => (∃ v, e = .returned v) ∧ J [] W' := by
  refine callsIn_of_wp Try.func95 rfl h8 ?_ hro
  simp only [Try.ntmps95, List.size_toArray, List.length_cons, List.length_nil, Nat.reduceAdd, Nat.reduceSub, Array.replicate_succ, Array.replicate_zero, List.push_toArray, List.append_toArray, List.nil_append, List.cons_append]
  gi_wp2
  gi_loopw [3] (fun i wr => i = .int .i64 (-1) ∧ J [] wr) (fun _ _ => 0)
  case atStart => exact ⟨rfl, h0⟩
  case round =>
    obtain ⟨rfl, hJs⟩ := hrel
    gi_wp2
    go_end0
    exact ⟨⟨_, rfl⟩, hJs⟩
set_option maxHeartbeats 1000000 in
/-- slices.Backward(s): the slice value is boxed; the function value captures the box. -/
theorem backward_any (a : Option Addr) (len cap : Nat) (w : World) :
    Calls Try.prog 79 #[.slice a len cap] w fun e w' => e = .returned (.func (.func 95) #[] #[.pointer (some ⟨w.heap.size, 0, none⟩)]) ∧ w' = w.alloc (.cells #[.slice a len cap] 51) := by
  go_enter Try.func79, Try.ntmps79
  go_wp2
  go_ret
  exact ⟨rfl, rfl⟩
theorem back_stops {α : Type} (enc : α → Array Value) (f : Nat → α) (F : Fence) (n : Nat) (h8 : F.fn 95) (hro : F.round = none) (hn : 1 ≤ n) (Bs n₀ : Nat) (sv : Value) (zs : List ByteArray) (hf : Hands enc f zs) (hreach : zs.length < 1000000) (w : World) (hBs : Bs < w.heap.size) (hn₀ : n₀ ≤ w.heap.size) (Kp : World → World → Prop) (hK1 : ∀ A B, Kp A B → Below n₀ A B) (hK2 : ∀ A B, Kp A B → B.cell? ⟨Bs, 0, none⟩ = A.cell? ⟨Bs, 0, none⟩)
    (hc : w.cell? ⟨Bs, 0, none⟩ = some sv) (hI : Strs n₀ w sv zs) :
    SeqStopsK F n Try.prog 95 #[.pointer (some ⟨Bs, 0, none⟩)] enc Kp (fun ys => ys = upto f zs.length)
      (fun pre => ∃ k, k ≤ zs.length ∧ pre = upto f k) zs.length w := fun l J Jx W hW _ _ hY h0 => by
  have hc' := (hW.cell (p := ⟨Bs, 0, none⟩) hBs).trans hc
  rcases hI.below (hW.mono hn₀) with ⟨rfl, rfl⟩ | ⟨b, off, cap, rfl, hb, hcs⟩
  · exact (back1_nil_in F n h8 hro l Bs J W hc' h0).mono fun e W' ⟨he, hj⟩ => ⟨he, .inl ⟨_, rfl, hj⟩⟩
  · exact back1_in enc f F n h8 hro hn l Bs n₀ b off cap zs hf hreach hb Kp hK1 hK2 J Jx hY W hc' hcs h0
end Go.Proofs.Ytdcbacbilncnnaa.Bk
end
section
/- The tree of digests: Len, Root. -/
set_option linter.unusedVariables false
set_option linter.unusedSimpArgs false
namespace Go.Proofs.Ytdcbacbilncnnaa.T
open Go.RowKit Go.Shelf Go.Proofs.Ytdcbacbilncnnaa.PMk Go.Proofs.Ytdcbacbilncnnaa.Bk Go.Proofs.YtdcbacbilncnnaaW.PrintWords Go.Proofs.YtdcbacbilncnnaaW.PrintLast
theorem At.reads {w : World} {base g : Nat} {vl vp : Value} {L P : List ByteArray} (h : At w base g vl vp L P) : ∃ A c, vl = .slice A L.length c ∧ L.length ≤ c ∧ Kd.C Kd.string w A L.length L := by
  obtain ⟨A, c, hv, hr⟩ := own_reads_of (enc := Value.string) (d := ByteArray.empty) (by have := h.rl; exact this)
  refine ⟨A, c, hv, ?_, Kd.C_of_reads (h1 := fun _ => rfl) hr⟩
  rcases h.rl.2 with ⟨h1, h2⟩ | ⟨g', cap, cur, h1, _, _, h2, _⟩
  · omega
  · rw [hv] at h1
    simp only [Value.slice.injEq] at h1
    omega
theorem len_raw (w : World) (base g : Nat) (vl vp : Value) (L P : List ByteArray) (hA : At w base g vl vp L P) :
    Calls Try.prog 57 #[.pointer (some ⟨g, 0, none⟩)] w fun e w' => e = .returned (.int .i64 L.length) ∧ w' = w := by
  have c0 := hA.c0
  obtain ⟨A, c, hv, _, _⟩ := hA.reads
  subst hv
  clear hA
  go_enter Try.func57, Try.ntmps57
  go_wp2
  go_ret
  exact ⟨rfl, rfl⟩
/-- The peaks from the last but one down, each ahead of what has come. -/
abbrev D32 := { x : Nat × ByteArray // x.2.size = 32 }
def encD (x : D32) : Array Value := #[.int .i64 (x.1.1 : Int), .string x.1.2]
def climbUp : List D32 → ByteArray → Option ByteArray
  | [], h => some h
  | x :: xs, h => (hash_Node.f x.1.2 h).bind fun t => climbUp xs t
theorem climbUp_snoc (xs : List D32) (x : D32) (h : ByteArray) : climbUp (xs ++ [x]) h = (climbUp xs h).bind fun t => hash_Node.f x.1.2 t := by
  induction xs generalizing h with
  | nil =>
    simp only [List.nil_append, climbUp, Option.bind_some]
    cases hash_Node.f x.1.2 h <;> rfl
  | cons y ys ih =>
    simp only [List.cons_append, climbUp]
    cases hash_Node.f y.1.2 h with
    | none => rfl
    | some t => simp only [Option.bind_some]; exact ih t
theorem node_some {a b : ByteArray} (ha : a.size = 32) (hb : b.size = 32) : ∃ t, hash_Node.f a b = some t ∧ t.size = 32 := by
  unfold hash_Node.f
  have s1 : ((⟨#[1]⟩ : ByteArray) ++ a).size = 33 := by rw [ByteArray.size_append, ha]; rfl
  have s2 : (((⟨#[1]⟩ : ByteArray) ++ a) ++ b).size = 65 := by rw [ByteArray.size_append, s1, hb]
  rw [if_pos (by omega), if_pos (by omega)]
  unfold Dig.hash_Sum.f
  rw [if_pos (by omega)]
  exact ⟨_, rfl, Dig.dig_size _⟩
theorem climbUp_some (xs : List D32) {h : ByteArray} (hh : h.size = 32) : ∃ t, climbUp xs h = some t ∧ t.size = 32 := by
  induction xs generalizing h with
  | nil => exact ⟨h, rfl, hh⟩
  | cons x xs ih =>
    obtain ⟨t, ht, hs⟩ := node_some x.2 hh
    obtain ⟨u, hu, hs'⟩ := ih hs
    exact ⟨u, by rw [climbUp, ht]; exact hu, hs'⟩
theorem w64r (q : Nat) (h : q < 1000002) : wrap64 (q : Int) = (q : Int) ∧ wrap64 ((q : Int) + 1 - 1) = (q : Int) := ⟨by unfold wrap64; omega, by unfold wrap64; omega⟩
/-- Q, but nothing at a panic. -/
def sure (Q : Exit → Act → World → Prop) : Exit → Act → World → Prop
  | .panic _, _, _ => False
  | e, a, w => Q e a w
theorem wp_sure {P : Program} {c : Code} {Q : Exit → Act → World → Prop} {a : Act} {w : World} (h : c.wp P (sure Q) a w) : c.wp P Q a w := by
  refine Code.wp_mono (fun e a w h => ?_) h
  cases e <;> first | exact h | exact (h : False).elim
attribute [local go_sem] Oper.semAt_some
set_option maxRecDepth 100000 in
set_option maxHeartbeats 2000000 in
theorem root_raw (w : World) (base g : Nat) (vl vp : Value) (L P : List ByteArray) (hA : At w base g vl vp L P) (hL : L ≠ []) (q : Nat) (hq : P.length = q + 1) (hqs : q < 1000000) (h32 : ∀ x ∈ P, x.size = 32)
    (f : Nat → D32) (hf : Hands encD f (P.take q)) (r : ByteArray) (hr : climbUp (upto f q) (P.getD q ByteArray.empty) = some r) :
    Calls Try.prog 48 #[.pointer (some ⟨g, 0, none⟩)] w fun e w' => e = .returned (.string r) ∧ Below w.heap.size w w' := by
  obtain ⟨gp, cq, rfl, hgb, hgl⟩ := World.ownsRow.form hA.rp (by omega)
  rw [hq] at hA
  obtain ⟨last, hlast⟩ : ∃ x, P.getD q ByteArray.empty = x := ⟨_, rfl⟩
  have hl := Lib.hid hlast
  have HA := Lib.hid hA
  have c1 := hA.c1
  have x0 : w.cell? ⟨gp, q, none⟩ = some (.string last) := hlast ▸ own_str' hA.rp hq (by omega)
  have hqc : q + 1 ≤ cq := own_cap hA.rp hq
  have hne : ¬ (L.length : Int) = 0 := by
    intro e
    exact hL (List.eq_nil_of_length_eq_zero (by omega))
  have hq0 : (0 : Int) ≤ (q : Int) := by omega
  have hq1 : (q : Int) ≤ (cq : Int) := by omega
  have hq2 : (q : Int) < (q : Int) + 1 := by omega
  have HR := Lib.hid hr
  have HF := Lib.hid hf
  have H32 := Lib.hid h32
  clear hr hf h32 hlast hA hL
  obtain ⟨wq, wq1⟩ := w64r q (by omega)
  refine (callsIn_wide (n := 3)).1 ?_
  refine callsIn_of_wp_marks Try.func48 rfl trivial ?_ rfl
  simp only [Try.ntmps48, List.size_toArray, List.length_cons, List.length_nil, Nat.reduceAdd, Nat.reduceSub, Array.replicate_succ, Array.replicate_zero, List.push_toArray, List.append_toArray, List.nil_append, List.cons_append]
  refine wpIn_wide.2 ?_
  go_wp2_with (go_at_call 57; refine (len_raw _ _ _ _ _ _ _ HA.out).mono ?_; rintro e w' ⟨rfl, hw'⟩; obtain rfl : w = w' := hw'.symm)
  refine wp_sure ?_
  refine start_ (n := 14) (S := fun w' => w'.cell? ⟨g, 1, none⟩ = some (.slice (some ⟨gp, 0, none⟩) (q + 1) cq) ∧ w'.cell? ⟨gp, q, none⟩ = some (.string last)) (ds := [13]) #[false, false, false, false, false, false, false, false, false, false, false, false, false, false] (by kernel_rfl) rfl rfl ⟨c1, x0⟩ (fun hHeld => ?_)
  refine pure_ (i := 0) (N := some 10) (v := ?_) (a' := ?_) #[true, false, false, false, false, false, false, false, false, false, false, false, false, false] rfl rfl (by kernel_rfl) (fun _ _ _ h => h.elim) (Or.inl ⟨by rfl, ?_⟩) ?_ ?_
  rotate_left
  · intro w'
    go_simp
    with_reducible rfl
  rotate_left
  · simp only [Act.put, List.setIfInBounds_toArray, List.set_cons_zero, List.set_cons_succ, i64_w, i32_w]
    rfl
  refine pure_ (i := 1) (N := some 11) (v := ?_) (a' := ?_) #[true, true, false, false, false, false, false, false, false, false, false, false, false, false] rfl rfl (by kernel_rfl) (fun _ _ _ h => h.elim) (Or.inl ⟨by rfl, ?_⟩) ?_ ?_
  rotate_left
  · intro w'
    go_simp
    with_reducible rfl
  rotate_left
  · simp only [Act.put, List.setIfInBounds_toArray, List.set_cons_zero, List.set_cons_succ, i64_w, i32_w]
    rfl
  refine pure_ (i := 2) (N := some 12) (v := ?_) (a' := ?_) #[true, true, true, false, false, false, false, false, false, false, false, false, false, false] rfl rfl (by kernel_rfl) (fun _ _ _ h => h.elim) (Or.inl ⟨by rfl, ?_⟩) ?_ ?_
  rotate_left
  · intro w'
    go_simp
    with_reducible rfl
  rotate_left
  · simp only [Act.put, List.setIfInBounds_toArray, List.set_cons_zero, List.set_cons_succ, i64_w, i32_w]
    rfl
  refine pure_ (i := 4) (N := some 14) (v := ?_) (a' := ?_) #[true, true, true, false, true, false, false, false, false, false, false, false, false, false] rfl rfl (by kernel_rfl) (fun _ _ _ h => h.elim) (Or.inl ⟨by rfl, ?_⟩) ?_ ?_
  rotate_left
  · intro w'
    go_simp
    with_reducible rfl
  rotate_left
  · simp only [Act.put, List.setIfInBounds_toArray, List.set_cons_zero, List.set_cons_succ, i64_w, i32_w]
    rfl
  refine pure_ (i := 5) (N := some 15) (v := ?_) (a' := ?_) #[true, true, true, false, true, true, false, false, false, false, false, false, false, false] rfl rfl (by kernel_rfl) (fun _ _ _ h => h.elim) (Or.inl ⟨by rfl, ?_⟩) ?_ ?_
  rotate_left
  · intro w'
    go_simp
    with_reducible rfl
  rotate_left
  · simp only [Act.put, List.setIfInBounds_toArray, List.set_cons_zero, List.set_cons_succ, i64_w, i32_w]
    rfl
  refine pure_ (i := 6) (N := some 16) (v := ?_) (a' := ?_) #[true, true, true, false, true, true, true, false, false, false, false, false, false, false] rfl rfl (by kernel_rfl) (fun _ _ _ h => h.elim) (Or.inl ⟨by rfl, ?_⟩) ?_ ?_
  rotate_left
  · intro w'
    go_simp
    with_reducible rfl
  rotate_left
  · simp only [Act.put, List.setIfInBounds_toArray, List.set_cons_zero, List.set_cons_succ, i64_w, i32_w]
    rfl
  refine take_ (i := 3) (N := some 13) (v := ?_) (a' := ?_) #[true, true, true, true, true, true, true, false, false, false, false, false, false, false] rfl rfl (by kernel_rfl) (fun _ _ _ h => h.elim) (Or.inl ⟨by rfl, ?_⟩) hHeld ?_ ?_
  rotate_left
  · rintro w' ⟨s0, s1⟩
    go_simp
    with_reducible rfl
  rotate_left
  · simp only [Act.put, List.setIfInBounds_toArray, List.set_cons_zero, List.set_cons_succ, i64_w, i32_w]
    rfl
  refine take_ (i := 7) (N := some 17) (v := ?_) (a' := ?_) #[true, true, true, true, true, true, true, true, false, false, false, false, false, false] rfl rfl (by kernel_rfl) (fun _ _ _ h => h.elim) (Or.inl ⟨by rfl, ?_⟩) hHeld ?_ ?_
  rotate_left
  · rintro w' ⟨s0, s1⟩
    go_simp
    with_reducible rfl
  rotate_left
  · simp only [Act.put, List.setIfInBounds_toArray, List.set_cons_zero, List.set_cons_succ, i64_w, i32_w]
    rfl
  refine pure_ (i := 8) (N := some 18) (v := ?_) (a' := ?_) #[true, true, true, true, true, true, true, true, true, false, false, false, false, false] rfl rfl (by kernel_rfl) (fun _ _ _ h => h.elim) (Or.inl ⟨by rfl, ?_⟩) ?_ ?_
  rotate_left
  · intro w'
    go_simp
    with_reducible rfl
  rotate_left
  · simp only [Act.put, List.setIfInBounds_toArray, List.set_cons_zero, List.set_cons_succ, i64_w, i32_w]
    rfl
  refine pure_ (i := 9) (N := some 19) (v := ?_) (a' := ?_) #[true, true, true, true, true, true, true, true, true, true, false, false, false, false] rfl rfl (by kernel_rfl) (fun _ _ _ h => h.elim) (Or.inl ⟨by rfl, ?_⟩) ?_ ?_
  rotate_left
  · intro w'
    go_simp
    with_reducible rfl
  rotate_left
  · simp only [Act.put, List.setIfInBounds_toArray, List.set_cons_zero, List.set_cons_succ, i64_w, i32_w]
    rfl
  refine pure_ (i := 10) (N := some 20) (v := ?_) (a' := ?_) #[true, true, true, true, true, true, true, true, true, true, true, false, false, false] rfl rfl (by kernel_rfl) (fun _ _ _ h => h.elim) (Or.inl ⟨by rfl, ?_⟩) ?_ ?_
  rotate_left
  · intro w'
    go_simp
    with_reducible rfl
  rotate_left
  · simp only [Act.put, List.setIfInBounds_toArray, List.set_cons_zero, List.set_cons_succ, i64_w, i32_w]
    rfl
  refine take_ (i := 11) (N := some 21) (v := ?_) (a' := ?_) #[true, true, true, true, true, true, true, true, true, true, true, true, false, false] rfl rfl (by kernel_rfl) (fun _ _ _ h => h.elim) (Or.inl ⟨by rfl, ?_⟩) hHeld ?_ ?_
  rotate_left
  · rintro w' ⟨s0, s1⟩
    go_simp
    with_reducible rfl
  rotate_left
  · simp only [Act.put, List.setIfInBounds_toArray, List.set_cons_zero, List.set_cons_succ, i64_w, i32_w]
    rfl
  refine one_ (i := 12) (N := some 3) #[true, true, true, true, true, true, true, true, true, true, true, true, true, false] rfl rfl (by kernel_rfl) (by decide) (fun K hK => ?_)
  refine value_ (w1 := ?_) (v := ?_) (by rfl) rfl ?_ ?_
  rotate_left 2
  · go_simp
    constructor
    · rfl
    · rfl
  have HA1 := Lib.hid (HA.out.below (((Below.refl _ w).drew).alloc (Nat.le_refl _) (.cells #[.string ⟨#[]⟩] 9)))
  refine hK.out _ _ ⟨HA1.out.c1, hl.out ▸ own_str' HA1.out.rp hq (by omega)⟩ (fun hHeld => ?_)
  clear hK K
  refine norm_ (a' := ?_) ?_ ?_
  rotate_left
  · show Act.put _ (some 3) _ = _
    simp only [Act.put, List.setIfInBounds_toArray, List.set_cons_zero, List.set_cons_succ, i64_w, i32_w]
    rfl
  refine last_ (i := 13) (N := none) #[true, true, true, true, true, true, true, true, true, true, true, true, true, true] rfl rfl (by kernel_rfl) (by decide) (fun K hK => ?_)
  refine skip_ (w1 := ?_) (by rfl) rfl ?_ ?_
  rotate_left
  · go_simp
    rfl
  refine hK.out _ _ ?_
  clear hK K
  refine done_ (by kernel_rfl) ?_
  rename_i Q' h K hK hH0
  show K _ _
  refine hK _ _ ?_
  clear hK K hHeld hH0 c1 x0
  have HA2 : Hid (At (w.alloc (Obj.cells #[Value.string last] 9)).drew base g vl (.slice (some ⟨gp, 0, none⟩) (q + 1) cq) L P) := Lib.hid (HA.out.below (((Below.refl _ w).alloc (Nat.le_refl _) _).drew))
  have HX : Hid (Boxed (w.alloc (Obj.cells #[Value.string last] 9)).drew w.heap.size 9 (.string last)) := Lib.hid (Boxed.new w 9 (.string last))
  have HB : Hid (Below w.heap.size w (w.alloc (Obj.cells #[Value.string last] 9)).drew) := Lib.hid (((Below.refl _ w).alloc (Nat.le_refl _) _).drew)
  have HZ : Hid ((w.alloc (Obj.cells #[Value.string last] 9)).drew.heap.size = w.heap.size + 1) := Lib.hid (by simp)
  generalize (w.alloc (Obj.cells #[Value.string last] 9)).drew = w2 at HA2 HX HB HZ ⊢
  go_wp2_with fail
  refine wp_sure ?_
  refine start_ (n := 12) (S := fun w' => w'.cell? ⟨g, 1, none⟩ = some (.slice (some ⟨gp, 0, none⟩) (q + 1) cq)) (ds := [11]) #[false, false, false, false, false, false, false, false, false, false, false, false] (by kernel_rfl) rfl rfl (HA2.out.c1) (fun hHeld => ?_)
  refine pure_ (i := 0) (N := some 22) (v := ?_) (a' := ?_) #[true, false, false, false, false, false, false, false, false, false, false, false] rfl rfl (by kernel_rfl) (fun _ _ _ h => h.elim) (Or.inl ⟨by rfl, ?_⟩) ?_ ?_
  rotate_left
  · intro w'
    go_simp
    with_reducible rfl
  rotate_left
  · simp only [Act.put, List.setIfInBounds_toArray, List.set_cons_zero, List.set_cons_succ, i64_w, i32_w]
    rfl
  refine pure_ (i := 1) (N := some 23) (v := ?_) (a' := ?_) #[true, true, false, false, false, false, false, false, false, false, false, false] rfl rfl (by kernel_rfl) (fun _ _ _ h => h.elim) (Or.inl ⟨by rfl, ?_⟩) ?_ ?_
  rotate_left
  · intro w'
    go_simp
    with_reducible rfl
  rotate_left
  · simp only [Act.put, List.setIfInBounds_toArray, List.set_cons_zero, List.set_cons_succ, i64_w, i32_w]
    rfl
  refine pure_ (i := 2) (N := some 24) (v := ?_) (a' := ?_) #[true, true, true, false, false, false, false, false, false, false, false, false] rfl rfl (by kernel_rfl) (fun _ _ _ h => h.elim) (Or.inl ⟨by rfl, ?_⟩) ?_ ?_
  rotate_left
  · intro w'
    go_simp
    with_reducible rfl
  rotate_left
  · simp only [Act.put, List.setIfInBounds_toArray, List.set_cons_zero, List.set_cons_succ, i64_w, i32_w]
    rfl
  refine pure_ (i := 4) (N := some 26) (v := ?_) (a' := ?_) #[true, true, true, false, true, false, false, false, false, false, false, false] rfl rfl (by kernel_rfl) (fun _ _ _ h => h.elim) (Or.inl ⟨by rfl, ?_⟩) ?_ ?_
  rotate_left
  · intro w'
    go_simp
    with_reducible rfl
  rotate_left
  · simp only [Act.put, List.setIfInBounds_toArray, List.set_cons_zero, List.set_cons_succ, i64_w, i32_w]
    rfl
  refine pure_ (i := 5) (N := some 27) (v := ?_) (a' := ?_) #[true, true, true, false, true, true, false, false, false, false, false, false] rfl rfl (by kernel_rfl) (fun _ _ _ h => h.elim) (Or.inl ⟨by rfl, ?_⟩) ?_ ?_
  rotate_left
  · intro w'
    go_simp
    with_reducible rfl
  rotate_left
  · simp only [Act.put, List.setIfInBounds_toArray, List.set_cons_zero, List.set_cons_succ, i64_w, i32_w]
    rfl
  refine pure_ (i := 6) (N := some 28) (v := ?_) (a' := ?_) #[true, true, true, false, true, true, true, false, false, false, false, false] rfl rfl (by kernel_rfl) (fun _ _ _ h => h.elim) (Or.inl ⟨by rfl, ?_⟩) ?_ ?_
  rotate_left
  · intro w'
    go_simp
    with_reducible rfl
  rotate_left
  · simp only [Act.put, List.setIfInBounds_toArray, List.set_cons_zero, List.set_cons_succ, i64_w, i32_w]
    rfl
  refine take_ (i := 3) (N := some 25) (v := ?_) (a' := ?_) #[true, true, true, true, true, true, true, false, false, false, false, false] rfl rfl (by kernel_rfl) (fun _ _ _ h => h.elim) (Or.inl ⟨by rfl, ?_⟩) hHeld ?_ ?_
  rotate_left
  · intro w' s0
    go_simp
    with_reducible rfl
  rotate_left
  · simp only [Act.put, List.setIfInBounds_toArray, List.set_cons_zero, List.set_cons_succ, i64_w, i32_w]
    rfl
  refine take_ (i := 7) (N := some 29) (v := ?_) (a' := ?_) #[true, true, true, true, true, true, true, true, false, false, false, false] rfl rfl (by kernel_rfl) (fun _ _ _ h => h.elim) (Or.inl ⟨by rfl, ?_⟩) hHeld ?_ ?_
  rotate_left
  · intro w' s0
    go_simp
    with_reducible rfl
  rotate_left
  · simp only [Act.put, List.setIfInBounds_toArray, List.set_cons_zero, List.set_cons_succ, i64_w, i32_w]
    rfl
  refine pure_ (i := 8) (N := some 30) (v := ?_) (a' := ?_) #[true, true, true, true, true, true, true, true, true, false, false, false] rfl rfl (by kernel_rfl) (fun _ _ _ h => h.elim) (Or.inl ⟨by rfl, ?_⟩) ?_ ?_
  rotate_left
  · intro w'
    go_simp
    with_reducible rfl
  rotate_left
  · simp only [Act.put, List.setIfInBounds_toArray, List.set_cons_zero, List.set_cons_succ, i64_w, i32_w]
    rfl
  refine pure_ (i := 9) (N := some 31) (v := ?_) (a' := ?_) #[true, true, true, true, true, true, true, true, true, true, false, false] rfl rfl (by kernel_rfl) (fun _ _ _ h => h.elim) (Or.inl ⟨by rfl, ?_⟩) ?_ ?_
  rotate_left
  · intro w'
    go_simp
    with_reducible rfl
  rotate_left
  · simp only [Act.put, List.setIfInBounds_toArray, List.set_cons_zero, List.set_cons_succ, i64_w, i32_w]
    rfl
  refine pure_ (i := 10) (N := some 32) (v := ?_) (a' := ?_) #[true, true, true, true, true, true, true, true, true, true, true, false] rfl rfl (by kernel_rfl) (fun _ _ _ h => h.elim) (Or.inl ⟨by rfl, ?_⟩) ?_ ?_
  rotate_left
  · intro w'
    go_simp
    with_reducible rfl
  rotate_left
  · simp only [Act.put, List.setIfInBounds_toArray, List.set_cons_zero, List.set_cons_succ, i64_w, i32_w]
    rfl
  refine last_ (i := 11) (N := some 33) #[true, true, true, true, true, true, true, true, true, true, true, true] rfl rfl (by kernel_rfl) (by decide) (fun K hK => ?_)
  refine goes_ Try.func79 (by kernel_rfl) rfl #[.slice (some ⟨gp, 0, none⟩) q cq] (by rfl) rfl rfl (by simp only [List.map_toArray, List.map_cons, List.map_nil]; rfl) ?_
  with_reducible refine (backward_any _ _ _ _).mono ?_
  rintro e w4 ⟨rfl, rfl⟩
  refine ⟨_, rfl, ?_⟩
  refine hK.out _ _ ?_
  clear hK K
  refine norm_ (a' := ?_) ?_ ?_
  rotate_left
  · show Act.put _ (some 33) _ = _
    simp only [Act.put, List.setIfInBounds_toArray, List.set_cons_zero, List.set_cons_succ, i64_w, i32_w]
    rfl
  refine done_ (by kernel_rfl) ?_
  rename_i K7 hK7 K hK
  show K _ _
  refine hK _ _ ?_
  clear hK K hHeld
  rw [show w2.drew.heap.size = w.heap.size + 1 from HZ.out]
  have HX4 : Hid (Boxed (w2.drew.alloc (Obj.cells #[Value.slice (some { block := gp, off := 0 }) q cq] 51)) w.heap.size 9 (.string last)) := Lib.hid (Boxed.alloc (W := w2.drew) HX.out _)
  have HS4 : Hid (Boxed (w2.drew.alloc (Obj.cells #[Value.slice (some { block := gp, off := 0 }) q cq] 51)) (w.heap.size + 1) 51 (.slice (some ⟨gp, 0, none⟩) q cq)) := Lib.hid (HZ.out ▸ Boxed.new w2.drew 51 (.slice (some ⟨gp, 0, none⟩) q cq))
  have HB4 : Hid (Below w.heap.size w (w2.drew.alloc (Obj.cells #[Value.slice (some { block := gp, off := 0 }) q cq] 51))) := Lib.hid ((HB.out.drew).alloc (by have := HZ.out; simp; omega) _)
  have HZ4 : Hid ((w2.drew.alloc (Obj.cells #[Value.slice (some { block := gp, off := 0 }) q cq] 51)).heap.size = w.heap.size + 2) := Lib.hid (by have := HZ.out; simp; omega)
  have HA4 : Hid (At (w2.drew.alloc (Obj.cells #[Value.slice (some { block := gp, off := 0 }) q cq] 51)) base g vl (.slice (some ⟨gp, 0, none⟩) (q + 1) cq) L P) := Lib.hid (HA.out.below HB4.out)
  generalize w2.drew.alloc (Obj.cells #[Value.slice (some { block := gp, off := 0 }) q cq] 51) = w4 at HX4 HS4 HB4 HZ4 HA4 ⊢
  clear HA1 HA2 HX HB HZ w2
  go_wp2_with fail
  clear wq wq1 h hne hw'
  refine (wpIn_wide (n := 3)).1 ?_
  refine wpIn_rangeFunc_ownG rfl (by decide) (gf := 95) (lb := #[.pointer (some ⟨w.heap.size + 1, 0, none⟩)]) rfl trivial (enters_of Try.func95 (by kernel_rfl) rfl)
    (back_stops encD f Fence.wide _ trivial rfl (by decide) (w.heap.size + 1) w.heap.size (.slice (some ⟨gp, 0, none⟩) q cq) (P.take q) HF.out (by simp; omega) w4 (by have := HZ4.out; omega) HB4.out.size
      (fun A B => Below w.heap.size A B ∧ B.cell? ⟨w.heap.size + 1, 0, none⟩ = A.cell? ⟨w.heap.size + 1, 0, none⟩) (fun _ _ h => h.1) (fun _ _ h => h.2) HS4.out.cell ?strs)
    (fun h k => ⟨h.1.trans k.1, k.2.trans h.2⟩) (fun W l o o' hl hW ho hw => ⟨belowK_b (w := w4) HB4.out.size W l o o' hl hW ho hw, ?other⟩) (Below.refl _ _) (fun _ => rfl)
    (fun pre W => ((∃ hc, climbUp pre last = some hc ∧ Boxed W w.heap.size 9 (.string hc)) ∧ W.heap.size ≥ w.heap.size + 2) ∧ Below w.heap.size w W)
    (fun _ _ _ => False)
    ?own
    (fun _ _ _ _ _ hs _ _ => hs)
    ⟨⟨⟨last, rfl, HX4.out⟩, by have := HZ4.out; omega⟩, HB4.out⟩
    (fun x => { tmps := #[Value.pointer (some { block := g, off := 0 }), undef, Value.string { data := #[] }, Value.pointer (some { block := w.heap.size, off := 0 }), undef, .string x.1.2, Value.pointer (some { block := g, off := 0 }), Value.int IntKind.i64 (L.length : Int), Value.bool ((L.length : Int) == 0), undef, Value.pointer (some { block := g, off := 0 }), Value.pointer (some { block := g, off := 0 }), Value.pointer (some { block := g, off := 1 }), Value.slice (some { block := gp, off := 0 }) (q + 1) cq, Value.pointer (some { block := g, off := 0 }), Value.pointer (some { block := g, off := 0 }), Value.pointer (some { block := g, off := 1 }), Value.slice (some { block := gp, off := 0 }) (q + 1) cq, Value.int IntKind.i64 ((q : Int) + 1), Value.int IntKind.i64 (wrap64 (q : Int)), Value.pointer (some { block := gp, off := q }), Value.string last, Value.pointer (some { block := g, off := 0 }), Value.pointer (some { block := g, off := 0 }), Value.pointer (some { block := g, off := 1 }), Value.slice (some { block := gp, off := 0 }) (q + 1) cq, Value.pointer (some { block := g, off := 0 }), Value.pointer (some { block := g, off := 0 }), Value.pointer (some { block := g, off := 1 }), Value.slice (some { block := gp, off := 0 }) (q + 1) cq, Value.int IntKind.i64 ((q : Int) + 1), Value.int IntKind.i64 (wrap64 (q : Int)), Value.slice (some { block := gp, off := 0 }) q cq, Value.func (Fn.func 95) #[] #[Value.pointer (some { block := w.heap.size + 1, off := 0 })], .int .i64 (x.1.1 : Int), .string x.1.2, undef, undef, undef, undef], defers := [] }) ?assign ?body ?done ?stop
  case strs =>
    have e1 : (P.take q).length = q := by simp; omega
    refine .inr ⟨gp, 0, cq, by rw [e1], hgl, fun j hj => ?_⟩
    rw [e1] at hj
    have e2 : (P.take q).getD j ByteArray.empty = P.getD j ByteArray.empty := by simp [List.getElem?_take, hj]
    rw [e2, Nat.zero_add]
    exact own_str' HA4.out.rp hq (by omega)
  case other =>
    have h1 := HZ4.out
    have h2 := (Array.getElem?_eq_some_iff.1 hW).1
    exact World.cell?_of_block ((grownBy_putObj' W l o').block (w.heap.size + 1) (by omega) (by intro e; injection e with e; omega))
  case own =>
    have h1 := HZ4.out
    refine OwnFrom.and ?_ (ownFrom_below (Nat.le_refl _) (by omega))
    rintro pre A B row ⟨⟨hc, h2, h3⟩, h4⟩ hg hr
    exact ⟨⟨hc, h2, h3.kept hg (fun e => by have := (hr _ e.symm).1; omega)⟩, Nat.le_trans h4 hg.size⟩
  case assign =>
    intro l x W K hK
    dsimp only [encD]
    gi_wp2
    exact hK
  case body =>
    rintro l pre x W ⟨⟨⟨hc, hcl, hX⟩, hsz⟩, hB⟩ _
    have h32 : last.size = 32 := by
      rw [← hl.out]
      exact H32.out _ (by rw [List.getD_eq_getElem?_getD, List.getElem?_eq_getElem (by omega)]; exact List.getElem_mem _)
    obtain ⟨hc', hcl', hcs⟩ := climbUp_some pre h32
    obtain rfl : hc' = hc := Option.some.inj (hcl'.symm.trans hcl)
    obtain ⟨t, ht, _⟩ := node_some x.2 hcs
    have HT := Lib.hid ht
    have HXX := Lib.hid hX
    have HBB := Lib.hid hB
    have HSZ := Lib.hid hsz
    have HCL := Lib.hid hcl
    have hcell := hX.cell
    have hfr := hX.frozen
    clear ht hcl' hcl h32 hcs hX hB hsz
    gi_wp2_with (refine ⟨trivial, ?_⟩; gi_at_call 80; refine (CallsIn.inRound l (callsIn_wide.2 (hash_Node.calls x.1.2 hc' t _ HT.out))).mono ?_; rintro e w' ⟨rfl, hb'⟩; have HB' := Lib.hid hb'; have HX' : Hid (Boxed w' w.heap.size 9 (.string hc')) := Lib.hid ((hb'.block _ HXX.out.lt).trans HXX.out); have hcell' := HX'.out.cell; have hfr' := HX'.out.frozen; clear hb')
    have e3 := HSZ.out
    refine ⟨((KeepsOthers.of_grownBy (grown_of_below HB'.out none) (fun _ _ e => by cases e)).trans (KeepsOthers.setCell _ _ _)).from _, ⟨(show Below w.heap.size W w' from HB'.out.mono (by omega)).setCell (p := ⟨w.heap.size, 0, none⟩) (Nat.le_refl _) _, ?_⟩, ⟨⟨t, by rw [climbUp_snoc, HCL.out]; exact HT.out, HX'.out.set _⟩, ?_⟩, ?_⟩
    · refine World.cell?_of_block ?_
      exact (Below.heap_setCell _ _ _ _ (by simp)).trans (HB'.out.block _ (by show w.heap.size + 1 < W.heap.size; omega))
    · have := HB'.out.size; simp; omega
    · exact (HBB.out.trans (show Below w.heap.size W w' from HB'.out.mono (by omega))).setCell (p := ⟨w.heap.size, 0, none⟩) (Nat.le_refl _) _
  case done =>
    rintro D ys W hD rfl ⟨⟨⟨hc, hcl, hX⟩, hsz⟩, hB⟩ hK
    have e1 : (P.take q).length = q := by simp; omega
    rw [e1] at hcl
    have hr := HR.out
    rw [hl.out, hcl] at hr
    obtain rfl := Option.some.inj hr
    have hcell := hX.cell
    have HXX := Lib.hid hX
    have HBB := Lib.hid hB
    have h1 := HZ4.out
    clear hX hr hcl hB
    show K7 _ _
    refine hK7 _ _ ?_
    go_wp2
    refine ⟨by simp, .inl ⟨_, _, rfl, run_takeDeferred hK, ?_⟩⟩
    exact ⟨_, results_tmp rfl _ _ _, rfl, HBB.out.trans (belowK_b (w := w) (Nat.le_refl _) W D _ _ (by omega) hK rfl rfl)⟩
  case stop =>
    rintro D c pre W _ _ h _
    exact h.elim
end Go.Proofs.Ytdcbacbilncnnaa.T
end
section
/- The peaks of a growing tree. -/
set_option linter.unusedVariables false
set_option linter.unusedSimpArgs false
namespace Go.Proofs.Ytdcbacbilncnnaa.M
open Go.RowKit Go.Proofs.Ytdcbacbilncnnaa.PMk Go.Proofs.Ytdcbacbilncnnaa.T Go.Proofs.Ytdcbacbilncnnaa.Bk Go.Proofs.YtdcbacbilncnnaaW.PrintWords Go.Proofs.YtdcbacbilncnnaaW.PrintLast
def gp (n : Nat) : Nat := 2 ^ n.log2
theorem gp_le {n : Nat} (h : n ≠ 0) : gp n ≤ n := Nat.log2_self_le h
theorem gp_pos (n : Nat) : 1 ≤ gp n := Nat.one_le_two_pow
theorem gp_eq {n e : Nat} (h1 : 2 ^ e ≤ n) (h2 : n < 2 ^ (e + 1)) : gp n = 2 ^ e := by
  have h0 : n ≠ 0 := by have := Nat.one_le_two_pow (n := e); omega
  rw [gp, (Nat.log2_eq_iff h0).2 ⟨h1, h2⟩]
def pk (l : List ByteArray) : List ByteArray :=
  if h : l.length = 0 then [] else mroot (l.take (gp l.length)) :: pk (l.drop (gp l.length))
termination_by l.length
decreasing_by have := gp_pos l.length; simp; omega
theorem pk_nil : pk [] = [] := by rw [pk]; rfl
theorem pk_cons {l : List ByteArray} (h : l.length ≠ 0) : pk l = mroot (l.take (gp l.length)) :: pk (l.drop (gp l.length)) := by rw [pk]; rw [dif_neg h]
theorem pk_snoc (j : Nat) (C : List ByteArray) (hC : C.length = 2 ^ j) : ∀ (d a : Nat) (X : List ByteArray), X.length ≤ d → X.length = a * 2 ^ (j + 1) → pk (X ++ C) = pk X ++ [mroot C] := by
  have hp := Nat.one_le_two_pow (n := j)
  intro d
  induction d with
  | zero =>
    intro a X hd hX
    obtain rfl : X = [] := List.eq_nil_of_length_eq_zero (by omega)
    rw [List.nil_append, pk_nil, List.nil_append, pk_cons (by omega), gp_eq (e := j) (by omega) (by rw [hC, Nat.pow_succ]; omega), ← hC, List.take_length, List.drop_length, pk_nil]
  | succ d ih =>
    intro a X hd hX
    by_cases h0 : X.length = 0
    · obtain rfl : X = [] := List.eq_nil_of_length_eq_zero h0
      rw [List.nil_append, pk_nil, List.nil_append, pk_cons (by omega), gp_eq (e := j) (by omega) (by rw [hC, Nat.pow_succ]; omega), ← hC, List.take_length, List.drop_length, pk_nil]
    · have ha : 1 ≤ a := by
        rcases Nat.eq_zero_or_pos a with h | h
        · rw [h] at hX; omega
        · exact h
      obtain ⟨e, he⟩ : ∃ e, X.length.log2 = e := ⟨_, rfl⟩
      obtain ⟨g1, g2⟩ := (Nat.log2_eq_iff h0).1 he
      have hje : j + 1 ≤ e := by
        rcases Nat.lt_or_ge e (j + 1) with h | h
        · have h3 : 2 ^ (e + 1) ≤ 2 ^ (j + 1) := Nat.pow_le_pow_right (by omega) (by omega)
          have h4 : 1 * 2 ^ (j + 1) ≤ a * 2 ^ (j + 1) := Nat.mul_le_mul_right _ ha
          omega
        · exact h
      have hpe : 2 ^ e = 2 ^ (j + 1) * 2 ^ (e - (j + 1)) := by rw [← Nat.pow_add]; congr 1; omega
      have hpe1 : 2 ^ (e + 1) = 2 ^ (j + 1) * 2 ^ (e - j) := by rw [← Nat.pow_add]; congr 1; omega
      have hlt : a < 2 ^ (e - j) := by
        rw [hX, hpe1, Nat.mul_comm] at g2
        exact Nat.lt_of_mul_lt_mul_left g2
      have hle : (a + 1) * 2 ^ (j + 1) ≤ 2 ^ (e + 1) := by
        rw [hpe1, Nat.mul_comm]; exact Nat.mul_le_mul_left _ hlt
      rw [Nat.add_mul, Nat.one_mul, ← hX] at hle
      have hjj : 2 ^ (j + 1) = 2 ^ j * 2 := Nat.pow_succ ..
      have hgX : gp X.length = 2 ^ e := gp_eq g1 g2
      have hgXC : gp (X ++ C).length = 2 ^ e := gp_eq (by simp; omega) (by simp; omega)
      have hne : (X ++ C).length ≠ 0 := by rw [List.length_append]; omega
      rw [pk_cons (l := X ++ C) hne, pk_cons (l := X) h0, hgX, hgXC, List.take_append_of_le_length g1, List.drop_append_of_le_length g1, List.cons_append]
      congr 1
      have hp1 := Nat.one_le_two_pow (n := e)
      have hdl : (X.drop (2 ^ e)).length ≤ d := by rw [List.length_drop]; omega
      refine ih (a - 2 ^ (e - (j + 1))) (X.drop (2 ^ e)) hdl ?_
      rw [List.length_drop, hX, hpe, Nat.sub_mul, Nat.mul_comm (2 ^ (e - (j + 1)))]
theorem mroot_pow (j : Nat) (D C : List ByteArray) (hD : D.length = 2 ^ j) (hC : C.length = 2 ^ j) : mroot (D ++ C) = node (mroot D) (mroot C) := by
  have hp := Nat.one_le_two_pow (n := j)
  have hs : sp (D ++ C).length = 2 ^ j := sp_eq (by simp; omega) (by simp; rw [Nat.pow_succ]; omega)
  rw [mroot_two (by simp; omega), hs, ← hD, List.take_left, List.drop_left]
theorem pk_w32 : ∀ (d : Nat) (l : List ByteArray), l.length ≤ d → W32 l → W32 (pk l) ∧ (pk l).length ≤ l.length
  | 0, l, h, hw => by
    obtain rfl : l = [] := List.eq_nil_of_length_eq_zero (by omega)
    rw [pk_nil]; exact ⟨hw, Nat.le_refl _⟩
  | d + 1, l, h, hw => by
    by_cases h0 : l.length = 0
    · obtain rfl : l = [] := List.eq_nil_of_length_eq_zero h0
      rw [pk_nil]; exact ⟨hw, Nat.le_refl _⟩
    · have hg := gp_pos l.length
      obtain ⟨h1, h2⟩ := pk_w32 d (l.drop (gp l.length)) (by simp; omega) (hw.drop _)
      rw [pk_cons h0]
      exact ⟨W32.cons.2 ⟨mroot_size (hw.take _), h1⟩, by simp at h2 ⊢; omega⟩
/-- What the loop makes of the peaks and a new block: the peaks. -/
theorem car_pk : ∀ (m j : Nat) (X C : List ByteArray), 1 ≤ m → W32 X → W32 C → X.length = (m - 1) * 2 ^ j → C.length = 2 ^ j → ∃ k, car k (pk X ++ [mroot C]) m = some (pk (X ++ C)) := by
  intro m
  induction m using Nat.strongRecOn with
  | _ m ih =>
  intro j X C h1 hwX hwC hX hC
  have hp := Nat.one_le_two_pow (n := j)
  by_cases hev : m % 2 = 0
  · have hm : m - 1 = (m - 2) + 1 := by omega
    have hXl : X.length = (m - 2) * 2 ^ j + 2 ^ j := by rw [hX, hm, Nat.add_mul, Nat.one_mul]
    obtain ⟨X', D, hXD, hX', hD⟩ : ∃ X' D, X = X' ++ D ∧ X'.length = (m - 2) * 2 ^ j ∧ D.length = 2 ^ j :=
      ⟨X.take ((m - 2) * 2 ^ j), X.drop ((m - 2) * 2 ^ j), (List.take_append_drop _ _).symm, by simp; omega, by simp; omega⟩
    subst hXD
    have e2 : (m - 2) * 2 ^ j = (m / 2 - 1) * 2 ^ (j + 1) := by
      rw [Nat.pow_succ, ← Nat.mul_assoc, Nat.mul_right_comm]; congr 1; omega
    have hpk : pk (X' ++ D) = pk X' ++ [mroot D] := pk_snoc j D hD _ _ X' (Nat.le_refl _) (hX'.trans e2)
    obtain ⟨k, hk⟩ := ih (m / 2) (by omega) (j + 1) X' (D ++ C) (by omega) (W32.app.1 hwX).1 (W32.app.2 ⟨(W32.app.1 hwX).2, hwC⟩) (hX'.trans e2) (by rw [List.length_append, hD, hC, Nat.pow_succ]; omega)
    refine ⟨k + 1, ?_⟩
    rw [hpk, car, if_pos hev, if_pos (by simp)]
    have l1 : (pk X' ++ [mroot D] ++ [mroot C]).length - 2 = (pk X').length := by simp
    have l2 : (pk X' ++ [mroot D] ++ [mroot C]).length - 1 = (pk X').length + 1 := by simp
    rw [l1, l2]
    have g1 : (pk X' ++ [mroot D] ++ [mroot C]).getD (pk X').length ByteArray.empty = mroot D := by simp
    have g2 : (pk X' ++ [mroot D] ++ [mroot C]).getD ((pk X').length + 1) ByteArray.empty = mroot C := by
      rw [List.getD_eq_getElem?_getD, List.getElem?_append_right (by simp)]; simp
    have g3 : (pk X' ++ [mroot D] ++ [mroot C]).take (pk X').length = pk X' := by rw [List.append_assoc, List.take_left]
    rw [g1, g2, g3, node_f _ _ (by rw [mroot_size (W32.app.1 hwX).2]; omega) (by rw [mroot_size hwC]; omega), Option.bind_some, ← mroot_pow j D C hD hC, hk, List.append_assoc]
  · refine ⟨1, ?_⟩
    rw [car, if_neg hev, pk_snoc j C hC _ ((m - 1) / 2) X (Nat.le_refl _)]
    rw [hX, Nat.pow_succ, ← Nat.mul_assoc, Nat.mul_right_comm]; congr 1; omega
def foldUp : List ByteArray → ByteArray
  | [] => ByteArray.empty
  | [x] => x
  | x :: y :: t => node x (foldUp (y :: t))
theorem foldUp_cons (x : ByteArray) {l : List ByteArray} (h : l ≠ []) : foldUp (x :: l) = node x (foldUp l) := by
  cases l with
  | nil => exact absurd rfl h
  | cons y t => rfl
theorem foldUp_size {l : List ByteArray} (h : l ≠ []) (hw : W32 l) : (foldUp l).size = 32 := by
  match l, h with
  | [x], _ => exact W32.one.1 hw
  | x :: y :: t, _ => exact node_size _ _
theorem fold_pk : ∀ (d : Nat) (l : List ByteArray), l.length ≤ d → l ≠ [] → foldUp (pk l) = mroot l
  | 0, l, h, hne => absurd (List.eq_nil_of_length_eq_zero (by omega)) hne
  | d + 1, l, h, hne => by
    have h0 : l.length ≠ 0 := fun h => hne (List.eq_nil_of_length_eq_zero h)
    have hg := gp_pos l.length
    have hle := gp_le h0
    rw [pk_cons h0]
    by_cases he : gp l.length = l.length
    · rw [he, List.take_length, List.drop_length, pk_nil]
      rfl
    · have hd : (l.drop (gp l.length)).length ≠ 0 := by simp; omega
      have hdn : l.drop (gp l.length) ≠ [] := fun h => hd (by rw [h]; rfl)
      have hs : sp l.length = gp l.length := sp_eq (by show gp l.length < _; omega) (Nat.le_of_lt (Nat.lt_log2_self))
      have h2 : 2 ≤ l.length := by omega
      have hdl : (l.drop (gp l.length)).length ≤ d := by rw [List.length_drop]; omega
      rw [foldUp_cons _ (by rw [pk_cons hd]; simp), fold_pk d _ hdl hdn, mroot_two (l := l) h2, hs]
def fD (P : List ByteArray) (q k : Nat) : D32 :=
  if h : (P.getD (q - 1 - k) ByteArray.empty).size = 32 then ⟨(q - 1 - k, P.getD (q - 1 - k) ByteArray.empty), h⟩ else ⟨(0, Dig.dig ⟨#[]⟩), Dig.dig_size _⟩
theorem fD_eq {P : List ByteArray} {q : Nat} (hq : P.length = q + 1) (hw : W32 P) (k : Nat) : (fD P q k).1 = (q - 1 - k, P.getD (q - 1 - k) ByteArray.empty) := by
  unfold fD
  rw [dif_pos (hw.getD (by omega))]
theorem fD_hands {P : List ByteArray} {q : Nat} (hq : P.length = q + 1) (hw : W32 P) : Hands encD (fD P q) (P.take q) := by
  intro k hk
  have e1 : (P.take q).length = q := by simp; omega
  rw [e1] at hk ⊢
  unfold encD
  rw [fD_eq hq hw]
  have e2 : (P.take q).getD (q - 1 - k) ByteArray.empty = P.getD (q - 1 - k) ByteArray.empty := by simp [List.getElem?_take, show q - 1 - k < q by omega]
  rw [e2]
theorem climb_fold {P : List ByteArray} {q : Nat} (hq : P.length = q + 1) (hw : W32 P) : ∀ j, j ≤ q → climbUp (upto (fD P q) j) (P.getD q ByteArray.empty) = some (foldUp (P.drop (q - j)))
  | 0, _ => by
    have e : P.drop q = [P.getD q ByteArray.empty] := by
      rw [List.drop_eq_getElem_cons (by omega), List.drop_eq_nil_of_le (by omega), List.getD_eq_getElem?_getD, List.getElem?_eq_getElem (by omega)]; rfl
    rw [Nat.sub_zero, e]
    rfl
  | j + 1, hj => by
    have hd : P.drop (q - j) ≠ [] := fun h => by have := congrArg List.length h; simp at this; omega
    have e : P.drop (q - (j + 1)) = P.getD (q - 1 - j) ByteArray.empty :: P.drop (q - j) := by
      rw [List.drop_eq_getElem_cons (by omega), List.getD_eq_getElem?_getD, List.getElem?_eq_getElem (by omega)]
      have e7 : q - (j + 1) = q - 1 - j := by omega
      have e8 : q - 1 - j + 1 = q - j := by omega
      simp only [e7, e8, Option.getD_some]
    rw [upto_succ, climbUp_snoc, climb_fold hq hw j (by omega), Option.bind_some, fD_eq hq hw, e, foldUp_cons _ hd]
    exact node_f _ _ (by rw [hw.getD (by omega)]; omega) (by rw [foldUp_size hd (hw.drop _)]; omega)
end Go.Proofs.Ytdcbacbilncnnaa.M
namespace Go.Proofs.Ytdcbacbilncnnaa.T
open Go.RowKit Go.Proofs.Ytdcbacbilncnnaa.M
/-- The tree's root is that of its leaves. -/
theorem root_tree (w : World) (base g : Nat) (vl vp : Value) (L : List ByteArray) (hA : At w base g vl vp L (pk L)) (hL : L ≠ []) (hw : W32 L) (hn : L.length < 1000000) :
    Calls Try.prog 48 #[.pointer (some ⟨g, 0, none⟩)] w fun e w' => e = .returned (.string (mroot L)) ∧ Below w.heap.size w w' := by
  have h0 : L.length ≠ 0 := fun h => hL (List.eq_nil_of_length_eq_zero h)
  obtain ⟨p1, p2⟩ := pk_w32 _ L (Nat.le_refl _) hw
  have hne : (pk L).length ≠ 0 := by rw [pk_cons h0]; simp
  obtain ⟨q, hq⟩ : ∃ q, (pk L).length = q + 1 := ⟨(pk L).length - 1, by omega⟩
  have hc := climb_fold hq p1 q (Nat.le_refl _)
  rw [Nat.sub_self, List.drop_zero, fold_pk _ L (Nat.le_refl _) hL] at hc
  exact root_raw w base g vl vp L (pk L) hA hL q hq (by omega) p1 (fD (pk L) q) (fD_hands hq p1) _ hc
end Go.Proofs.Ytdcbacbilncnnaa.T
end
section
/- The tree of digests: RootAt, Path, Grown, New. -/
set_option linter.unusedVariables false
set_option linter.unusedSimpArgs false
namespace Go.Proofs.Ytdcbacbilncnnaa.T
open Go.RowKit Go.Proofs.Ytdcbacbilncnnaa.PMk Go.Proofs.YtdcbacbilncnnaaW.PrintWords Go.Proofs.YtdcbacbilncnnaaW.PrintLast
theorem new_raw (w : World) : Calls Try.prog 55 #[] w fun e w' => ∃ g, e = .returned (.pointer (some ⟨g, 0, none⟩)) ∧ At w' w.heap.size g (.slice none 0 0) (.slice none 0 0) [] [] ∧ Below w.heap.size w w' := by
  have hu121 := Try.underlying121
  go_enter Try.func55, Try.ntmps55
  go_wp2_with (first | ((with_reducible refine gate_dst (N := 2) rfl ?_); refine box_event ?hg (N := 2) ?hd (cs := #[.slice none 0 0, .slice none 0 0]) (t := 121) ?hr ?_; (case hd => rfl); (case hg => rfl); (case hr => first | (go_simp; done) | (go_simp; rfl)); intro gb117 hg w1 hbox hb; have HX := Lib.hid hbox; have HB := Lib.hid hb; have HG := Lib.hid hg; clear hbox hb hg))
  go_ret
  exact ⟨_, rfl, ⟨HX.out, Nat.le_of_eq HG.out.symm, World.ownsRow_nil _ _ _ _, World.ownsRow_nil _ _ _ _, by intro k hk; simp [Value.ownBlock] at hk⟩, HB.out⟩
end Go.Proofs.Ytdcbacbilncnnaa.T
end
section
/- Leaves, and one more leaf behind a tree. -/
set_option linter.unusedVariables false
set_option linter.unusedSimpArgs false
namespace Go.Proofs.Ytdcbacbilncnnaa.T
open Go.RowKit Go.Proofs.Ytdcbacbilncnnaa.PMk Go.Proofs.Ytdcbacbilncnnaa.M Go.Proofs.Ytdcbacbilncnnaa.Bk Go.Proofs.YtdcbacbilncnnaaW.PrintWords Go.Proofs.YtdcbacbilncnnaaW.PrintLast
theorem Step.to_below {w w1 : World} {base g : Nat} {vl vp vl' vp' : Value} {L P : List ByteArray} (h : Step w w1 g vl vp vl' vp') (hA : At w base g vl vp L P) : Below base w w1 :=
  ⟨h.os, h.tape, h.output, h.size, fun k hk => h.block k (Nat.lt_of_lt_of_le hk hA.base) (by have := hA.lo; omega)
    (fun e => by have := own_base hA.rl k e; omega) (fun e => by have := own_base hA.rp k e; omega)⟩
theorem add_any (s h : ByteArray) (hleaf : hash_Leaf.f s = some h) (w : World) (base g : Nat) (vl vp : Value) (L P Q : List ByteArray) (hA : At w base g vl vp L P) (hn : L.length + 1 < 1000000) (hp : P.length < 1000000)
    (kc : Nat) (hc : car kc (P ++ [h]) (L.length + 1) = some Q) :
    Calls Try.prog 56 #[.pointer (some ⟨g, 0, none⟩), .string s] w fun e w' => e = .returned (.string h) ∧ ∃ vl' vp', At w' base g vl' vp' (L ++ [h]) Q ∧ Step w w' g vl vp vl' vp' ∧ Below base w w' := by
  refine (add_raw s h hleaf w base g vl vp L P Q hA hn hp kc hc).mono ?_
  rintro e w' ⟨rfl, vl', vp', h1, h2⟩
  exact ⟨rfl, vl', vp', h1, h2, h2.to_below hA⟩
def leaf (s : ByteArray) : ByteArray := Dig.dig ((⟨#[0]⟩ : ByteArray) ++ s)
theorem leaf_size (s : ByteArray) : (leaf s).size = 32 := Dig.dig_size _
theorem leaf_f (s : ByteArray) (h : s.size < 1152921504606846000) : hash_Leaf.f s = some (leaf s) := by
  have s1 : ((⟨#[0]⟩ : ByteArray) ++ s).size = 1 + s.size := by rw [ByteArray.size_append]; rfl
  unfold hash_Leaf.f Dig.hash_Sum.f
  rw [if_pos (by omega), if_pos (by omega)]
  rfl
theorem rleaf_f (s : ByteArray) (h : s.size < 1152921504606846000) : parchmentref01_Leaf.f s = some (leaf s) := by
  have s1 : ((⟨#[0]⟩ : ByteArray) ++ s).size = 1 + s.size := by rw [ByteArray.size_append]; rfl
  unfold parchmentref01_Leaf.f Dig.parchmentref01_Sum.f
  rw [if_pos (by omega), if_pos (by omega)]
  rfl
theorem add_tree (s : ByteArray) (w : World) (base g : Nat) (vl vp : Value) (L : List ByteArray) (hA : At w base g vl vp L (pk L)) (hw : W32 L) (hs : s.size < 1152921504606846000) (hn : L.length < 1000) :
    Calls Try.prog 56 #[.pointer (some ⟨g, 0, none⟩), .string s] w fun e w' => e = .returned (.string (leaf s)) ∧ ∃ vl' vp', At w' base g vl' vp' (L ++ [leaf s]) (pk (L ++ [leaf s])) ∧ Step w w' g vl vp vl' vp' ∧ Below base w w' := by
  have hl : W32 [leaf s] := W32.one.2 (leaf_size s)
  obtain ⟨k, hk⟩ := car_pk (L.length + 1) 0 L [leaf s] (by omega) hw hl (by simp) rfl
  rw [mroot_one (by rfl)] at hk
  obtain ⟨p1, p2⟩ := pk_w32 _ L (Nat.le_refl _) hw
  exact add_any s (leaf s) (leaf_f s hs) w base g vl vp L (pk L) _ hA (by omega) (by omega) k hk
end Go.Proofs.Ytdcbacbilncnnaa.T
end
section
/- A block's tree: its revisions' metas' digests. -/
set_option linter.unusedVariables false
set_option linter.unusedSimpArgs false
namespace Go.Proofs.Ytdcbacbilncnnaa.T
open Go.RowKit Go.Proofs.Ytdcbacbilncnnaa.PMk Go.Proofs.Ytdcbacbilncnnaa.M Go.Proofs.YtdcbacbilncnnaaW.PrintWords Go.Proofs.YtdcbacbilncnnaaW.PrintLast
theorem At.less {w : World} {base b g : Nat} {vl vp : Value} {L P : List ByteArray} (h : At w base g vl vp L P) (hb : b ≤ base) : At w b g vl vp L P :=
  ⟨h.blk, Nat.le_trans hb h.lo, own_less h.rl hb, own_less h.rp hb, h.ap⟩
def metaOf (k : Nat) (x : S47) : Option ByteArray := block_meta.f k x.f0 x.f1 x.f2 x.f3 x.f4 x.f5 x.f6 x.f7
def metas (k : Nat) : List S47 → Option (List ByteArray)
  | [] => some []
  | x :: l => (metaOf k x).bind fun m => if m.size < 1152921504606846000 then (metas k l).bind fun M => some (m :: M) else none
theorem metas_len {k : Nat} : ∀ {l : List S47} {M : List ByteArray}, metas k l = some M → M.length = l.length
  | [], M, h => by simp [metas] at h; subst h; rfl
  | x :: l, M, h => by
    rw [metas] at h
    obtain ⟨m, _, h⟩ := Option.bind_eq_some_iff.mp h
    split at h
    · obtain ⟨M', h1, h2⟩ := Option.bind_eq_some_iff.mp h
      obtain rfl := Option.some.inj h2
      simp [metas_len h1]
    · cases h
theorem metas_at {k : Nat} : ∀ {l : List S47} {M : List ByteArray}, metas k l = some M → ∀ i, i < l.length → metaOf k (l.getD i z47) = some (M.getD i ByteArray.empty) ∧ (M.getD i ByteArray.empty).size < 1152921504606846000
  | [], M, h, i, hi => absurd hi (by simp)
  | x :: l, M, h, i, hi => by
    rw [metas] at h
    obtain ⟨m, hm, h⟩ := Option.bind_eq_some_iff.mp h
    split at h
    · next hs =>
      obtain ⟨M', h1, h2⟩ := Option.bind_eq_some_iff.mp h
      obtain rfl := Option.some.inj h2
      cases i with
      | zero => exact ⟨by simpa using hm, by simpa using hs⟩
      | succ i => simpa using metas_at h1 i (by simpa using hi)
    · cases h
def lv (M : List ByteArray) (i : Nat) : List ByteArray := (M.take i).map leaf
theorem lv_len {M : List ByteArray} {i : Nat} (h : i ≤ M.length) : (lv M i).length = i := by unfold lv; simp; omega
theorem lv_w32 (M : List ByteArray) (i : Nat) : W32 (lv M i) := by
  intro x hx
  obtain ⟨y, _, rfl⟩ := List.mem_map.1 hx
  exact leaf_size _
theorem lv_succ {M : List ByteArray} {i : Nat} (h : i < M.length) : lv M i ++ [leaf (M.getD i ByteArray.empty)] = lv M (i + 1) := by
  unfold lv
  rw [List.take_succ_eq_append_getElem h, List.map_append, List.getD_eq_getElem?_getD, List.getElem?_eq_getElem h]
  rfl
theorem meta_any (k : Nat) (x : S47) (m : ByteArray) (h : metaOf k x = some m) (w : World) :
    Calls Try.prog 73 #[.agg #[.int .i64 x.f0, .string x.f1, .string x.f2, .int .u64 x.f3, .int .u64 x.f4, .string x.f5, .string x.f6, .bool x.f7]] w fun e w' => e = .returned (.string m) ∧ Below w.heap.size w w' :=
  block_meta.calls k x.f0 x.f1 x.f2 x.f3 x.f4 x.f5 x.f6 x.f7 m w h
set_option maxRecDepth 100000 in
set_option maxHeartbeats 2000000 in
theorem tree_raw (k : Nat) (a0 : Int) (a1 : ByteArray) (a2 : Int) (A : Option Addr) (c : Nat) (l : List S47) (M : List ByteArray) (w : World) (hC : Kd.C k47 w A l.length l) (hM : metas k l = some M) (hn : l.length < 1000) :
    Calls Try.prog 47 #[.agg #[.int .u64 a0, .string a1, .int .u64 a2, .slice A l.length c]] w fun e w' => ∃ g vl vp, e = .returned (.pointer (some ⟨g, 0, none⟩)) ∧ At w' w.heap.size g vl vp (lv M M.length) (pk (lv M M.length)) ∧ Below w.heap.size w w' := by
  have hml := metas_len hM
  obtain ⟨len, hlen⟩ : ∃ n, l.length = n := ⟨_, rfl⟩
  have hma := metas_at hM
  rw [hlen] at hC hn hml hma ⊢
  have HC := Lib.hid hC
  have HL := Lib.hid hlen
  have HM := Lib.hid hma
  clear hC hlen hma hM
  go_enter Try.func47, Try.ntmps47
  go_wp2_with (go_at_call 55; refine (new_raw _).mono ?_; rintro e w1 ⟨g, rfl, hA, hb1⟩; have hb0 := (((Below.refl w.heap.size w).alloc (Nat.le_refl _) (.cells #[.int .u64 a0, .string a1, .int .u64 a2, .slice A len c] 25)).trans (hb1.mono (by simp))); have hcell : w1.cell? ⟨w.heap.size, 3, none⟩ = some (.slice A len c) := (blk_cell ((hb1.block w.heap.size (by simp)).trans (heap_alloc_new w _)) 3).trans rfl; have HA1 := Lib.hid hA; have HB1 := Lib.hid hb0; clear hA hb1 hb0)
  have HP0 : Hid (At w1 w.heap.size g (.slice none 0 0) (.slice none 0 0) (lv M 0) (pk (lv M 0))) := Lib.hid (by
    have h := HA1.out.less (b := w.heap.size) (by simp)
    simpa [lv, pk_nil] using h)
  clear HA1 hcell
  go_loopw [10] (fun vi wr => ∃ (i : Nat) (vl vp : Value), i ≤ len ∧ vi = .int .i64 i ∧ Hid (At wr w.heap.size g vl vp (lv M i) (pk (lv M i))) ∧ Hid (Below w.heap.size w wr)) (fun vi _ => (len - intOf vi).toNat)
  case atStart => exact ⟨0, _, _, Nat.zero_le _, rfl, HP0, HB1⟩
  case round =>
    obtain ⟨i, vl, vp, hi1, rfl, HP, HB⟩ := hrel
    clear HP0 HB1
    by_cases h1 : i < len
    · obtain ⟨ad, hA, hx0, hx1, hx2, hx3, hx4, hx5, hx6, hx7⟩ := at_T47 HC.out (i : Int) (by omega) (by omega)
      subst hA
      replace hx0 := (HB.out.cell (World.block_lt_of_cell? w _ hx0)).trans hx0
      replace hx1 := (HB.out.cell (World.block_lt_of_cell? w _ hx1)).trans hx1
      replace hx2 := (HB.out.cell (World.block_lt_of_cell? w _ hx2)).trans hx2
      replace hx3 := (HB.out.cell (World.block_lt_of_cell? w _ hx3)).trans hx3
      replace hx4 := (HB.out.cell (World.block_lt_of_cell? w _ hx4)).trans hx4
      replace hx5 := (HB.out.cell (World.block_lt_of_cell? w _ hx5)).trans hx5
      replace hx6 := (HB.out.cell (World.block_lt_of_cell? w _ hx6)).trans hx6
      replace hx7 := (HB.out.cell (World.block_lt_of_cell? w _ hx7)).trans hx7
      have hm := HM.out i h1
      rw [show l.getD i z47 = rd_T47 l (i : Int) from by simp [rd_T47]] at hm
      obtain ⟨m, hmm⟩ : ∃ m, M.getD i ByteArray.empty = m := ⟨_, rfl⟩
      rw [hmm] at hm
      have HSU : Hid (lv M i ++ [leaf m] = lv M (i + 1)) := Lib.hid (hmm ▸ lv_succ (by omega))
      have HMA := Lib.hid (fun w' => meta_any k _ m hm.1 w')
      have HAD := Lib.hid (fun w' hA => add_tree m w' w.heap.size g vl vp (lv M i) hA (lv_w32 _ _) hm.2 (by rw [lv_len (by omega)]; omega))
      clear hm hmm
      simp only [Int.toNat_natCast] at hx0 hx1 hx2 hx3 hx4 hx5 hx6 hx7
      generalize rd_T47 l (i : Int) = x at hx0 hx1 hx2 hx3 hx4 hx5 hx6 hx7 HMA
      go_wp2_with (first
        | (go_at_call 73; refine (HMA.out _).mono ?_; rintro e w2 ⟨rfl, hb1⟩; have HB2 := Lib.hid ((HB.out.alloc HB.out.size _).trans (hb1.mono (by have := HB.out.size; simp; omega))); have HP2 := Lib.hid (HP.out.below (((Below.refl _ wr).alloc (Nat.le_refl _) _).trans (hb1.mono (by simp)))); clear hb1)
        | (go_at_call 56; refine (HAD.out _ HP2.out).mono ?_; rintro e w3 ⟨rfl, vl3, vp3, hA, _, hb1⟩; have HB3 := Lib.hid (HB2.out.trans hb1); have HP3 := Lib.hid hA; clear hA hb1))
      rw [HSU.out] at HP3
      go_roundw
      case rel => exact ⟨i + 1, vl3, vp3, by omega, by go_num, HP3, HB3⟩
      case measure => simp [intOf]; omega
    · obtain rfl : i = len := by omega
      go_wp2_with fail
      go_ret
      exact ⟨g, vl, vp, rfl, hml ▸ HP.out, HB.out⟩
end Go.Proofs.Ytdcbacbilncnnaa.T
end
section
/- A revision's meta in plain bytes. -/
set_option linter.unusedVariables false
set_option linter.unusedSimpArgs false
namespace Go.Proofs.Ytdcbacbilncnnaa.T
open Go.RowKit Go.Proofs.Ytdcbacbilncnnaa.PMk Go.Proofs.Ytdcbacbilncnnaa.EncS Go.Proofs.Ytdcbacbilncnnaa.EncL Go.Proofs.YtdcbacbilncnnaaW.PrintWords Go.Proofs.YtdcbacbilncnnaaW.PrintLast
def txt (t : ByteArray) : List UInt8 := encU t.size ++ t.toList
def num (a : Int) : List UInt8 := encU a.toNat
def byt (a : Int) : UInt8 := UInt8.ofNat (a % 256).toNat
def mt (op : Int) (t f : ByteArray) (d v : Int) (h : ByteArray) : List UInt8 := byt op :: (txt t ++ (txt f ++ (num d ++ (num v ++ txt h))))
/-- A revision that a value can be. -/
structure Fits (d v : Int) (t f h : ByteArray) : Prop where
  d0 : 0 ≤ d
  d1 : d < 18446744073709551616
  v0 : 0 ≤ v
  v1 : v < 18446744073709551616
  t : t.size ≤ 1125899906842624
  f : f.size ≤ 1125899906842624
  h : h.size ≤ 1125899906842624
theorem byt_str (op : Int) : strOfNums [op % 256] = S [byt op] := by
  have h0 := Int.emod_nonneg op (show (256 : Int) ≠ 0 by decide)
  have h1 := Int.emod_lt_of_pos op (show (0 : Int) < 256 by decide)
  have e : [op % 256] = ints [byt op] := by
    simp only [ints, byt, List.map_cons, List.map_nil, List.cons.injEq, and_true]
    rw [UInt8.toNat_ofNat']
    omega
  rw [e, strOf_ints]
theorem num_ev (a : Int) (h0 : 0 ≤ a) (h1 : a < 18446744073709551616) : Ev (fun k => enc_Uint.f k a) (S (num a)) := by
  have := uint_f a.toNat (by omega)
  rw [Int.toNat_of_nonneg h0] at this
  exact this
theorem rnum_ev (a : Int) (h0 : 0 ≤ a) (h1 : a < 18446744073709551616) : Ev (fun k => parchmentref02_Uint.f k a) (S (num a)) := by
  have := ref_uint_f a.toNat a.toNat (Nat.le_refl _) (by omega)
  rw [Int.toNat_of_nonneg h0] at this
  exact this
theorem num_len (a : Int) (h0 : 0 ≤ a) (h1 : a < 18446744073709551616) : (num a).length ≤ 10 := encU_len _ (by omega)
theorem txt_len (t : ByteArray) (h : t.size ≤ 1125899906842624) : (txt t).length ≤ t.size + 10 := by
  unfold txt
  have := encU_len t.size (by omega)
  have hl : t.toList.length = t.size := by rw [ByteArray.toList_eq, Array.length_toList]; rfl
  rw [List.length_append, hl]; omega
theorem mt_len {op d v : Int} {t f h : ByteArray} (g : Fits d v t f h) : (mt op t f d v h).length ≤ 3377699720527973 := by
  have h1 := txt_len t g.t
  have h2 := txt_len f g.f
  have h3 := txt_len h g.h
  have h4 := num_len d g.d0 g.d1
  have h5 := num_len v g.v0 g.v1
  have := g.t
  have := g.f
  have := g.h
  unfold mt
  simp only [List.length_cons, List.length_append]
  omega
theorem meta_ev {op d v : Int} {t f h : ByteArray} (b : ByteArray) (q : Bool) (g : Fits d v t f h) : Ev (fun k => block_meta.f k op t f d v h b q) (S (mt op t f d v h)) := by
  have h1 := txt_len t g.t
  have h2 := txt_len f g.f
  have h3 := txt_len h g.h
  have h4 := num_len d g.d0 g.d1
  have h5 := num_len v g.v0 g.v1
  have := g.t
  have := g.f
  have := g.h
  unfold block_meta.f
  simp only [Option.bind_some, byt_str]
  refine Ev.bind (text_f t (by omega)) ?_
  refine Ev.congr (fun _ => if_pos (by rw [S_size, S_size]; unfold txt at h1; simp at *; omega)) ?_
  refine Ev.bind (text_f f (by omega)) ?_
  refine Ev.congr (fun _ => if_pos (by rw [S_append, S_size, S_size]; unfold txt at h1 h2; simp at *; omega)) ?_
  refine Ev.bind (num_ev d g.d0 g.d1) ?_
  refine Ev.congr (fun _ => if_pos (by rw [S_append, S_append, S_size, S_size]; unfold txt at h1 h2; simp at *; omega)) ?_
  refine Ev.bind (num_ev v g.v0 g.v1) ?_
  refine Ev.congr (fun _ => if_pos (by rw [S_append, S_append, S_append, S_size, S_size]; unfold txt at h1 h2; simp at *; omega)) ?_
  refine Ev.bind (text_f h (by omega)) ?_
  refine Ev.congr (fun _ => if_pos (by rw [S_append, S_append, S_append, S_append, S_size, S_size]; unfold txt at h1 h2 h3; simp at *; omega)) ?_
  rw [S_append, S_append, S_append, S_append, S_append]
  have e : mt op t f d v h = [byt op] ++ (encU t.size ++ t.toList) ++ (encU f.size ++ f.toList) ++ num d ++ num v ++ (encU h.size ++ h.toList) := by simp [mt, txt]
  rw [e]
  exact Ev.now _
theorem rmeta_ev {op d v : Int} {t f h : ByteArray} (b : ByteArray) (q : Bool) (g : Fits d v t f h) : Ev (fun k => parchmentref09_Meta.f k op t f d v h b q) (S (mt op t f d v h)) := by
  have h1 := txt_len t g.t
  have h2 := txt_len f g.f
  have h3 := txt_len h g.h
  have h4 := num_len d g.d0 g.d1
  have h5 := num_len v g.v0 g.v1
  have := g.t
  have := g.f
  have := g.h
  unfold parchmentref09_Meta.f
  simp only [Option.bind_some, byt_str]
  refine Ev.bind (ref_text_f t (by omega)) ?_
  refine Ev.congr (fun _ => if_pos (by rw [S_size, S_size]; unfold txt at h1; simp at *; omega)) ?_
  refine Ev.bind (ref_text_f f (by omega)) ?_
  refine Ev.congr (fun _ => if_pos (by rw [S_append, S_size, S_size]; unfold txt at h1 h2; simp at *; omega)) ?_
  refine Ev.bind (rnum_ev d g.d0 g.d1) ?_
  refine Ev.congr (fun _ => if_pos (by rw [S_append, S_append, S_size, S_size]; unfold txt at h1 h2; simp at *; omega)) ?_
  refine Ev.bind (rnum_ev v g.v0 g.v1) ?_
  refine Ev.congr (fun _ => if_pos (by rw [S_append, S_append, S_append, S_size, S_size]; unfold txt at h1 h2; simp at *; omega)) ?_
  refine Ev.bind (ref_text_f h (by omega)) ?_
  refine Ev.congr (fun _ => if_pos (by rw [S_append, S_append, S_append, S_append, S_size, S_size]; unfold txt at h1 h2 h3; simp at *; omega)) ?_
  rw [S_append, S_append, S_append, S_append, S_append]
  have e : mt op t f d v h = [byt op] ++ (encU t.size ++ t.toList) ++ (encU f.size ++ f.toList) ++ num d ++ num v ++ (encU h.size ++ h.toList) := by simp [mt, txt]
  rw [e]
  exact Ev.now _
end Go.Proofs.Ytdcbacbilncnnaa.T
end
section
/- Names and what a revision may be: the program's and the reference's answers are one plain function's. -/
set_option linter.unusedVariables false
set_option linter.unusedSimpArgs false
namespace Go.Proofs.Ytdcbacbilncnnaa.T
open Go.RowKit Go.Proofs.Ytdcbacbilncnnaa.PMk Go.Proofs.Ytdcbacbilncnnaa.EncS Go.Proofs.Ytdcbacbilncnnaa.EncL Go.Proofs.YtdcbacbilncnnaaW.PrintWords Go.Proofs.YtdcbacbilncnnaaW.PrintLast
def good (i : Nat) (c : Int) : Prop := (97 ≤ c ∧ c ≤ 122) ∨ (65 ≤ c ∧ c ≤ 90) ∨ c = 95 ∨ (i ≠ 0 ∧ 48 ≤ c ∧ c ≤ 57)
instance (i : Nat) (c : Int) : Decidable (good i c) := by unfold good; infer_instance
def nameAt (s : ByteArray) : Nat → Nat → Bool
  | 0, _ => decide (1 ≤ s.size) && decide (s.size ≤ 16)
  | m + 1, i => decide (good i (bt s i)) && nameAt s m (i + 1)
def nameS (s : ByteArray) : Bool := nameAt s s.size 0
theorem wr1 (i n : Nat) (h : i < n) (hn : n < 4611686018427387904) : wrap64 ((i : Int) + 1) = ((i + 1 : Nat) : Int) := by
  rw [wrap64_in _ (by omega) (by omega)]; omega
theorem name_l0 (s : ByteArray) (hs : s.size < 4611686018427387904) : ∀ (m i : Nat), i + m = s.size → Ev (fun k => value_Name.l0 k s (s.size : Int) (i : Int)) (nameAt s m i) := by
  intro m
  induction m with
  | zero =>
    intro i hi
    refine Ev.step (f := fun _ => some (nameAt s 0 i)) (fun k => ?_) (Ev.now _)
    simp only [value_Name.l0]
    rw [if_neg (by omega), nameAt]
    by_cases h : 1 ≤ s.size
    · rw [if_pos (by omega), decide_eq_true h, Bool.true_and]
      congr 1
      exact decide_eq_decide.2 (by omega)
    · rw [if_neg (by omega), decide_eq_false h]; rfl
  | succ m ih =>
    intro i hi
    have h1 := ih (i + 1) (by omega)
    rw [nameAt]
    by_cases g : good i (bt s i)
    · rw [decide_eq_true g, Bool.true_and]
      refine Ev.step (fun k => ?_) h1
      simp only [value_Name.l0]
      rw [if_pos (by omega), if_pos (by omega), if_pos (by omega), wr1 i s.size (by omega) hs]
      generalize value_Name.l0 k s (s.size : Int) ((i + 1 : Nat) : Int) = R
      unfold good at g
      repeat' split
      all_goals first | rfl | (exfalso; omega)
    · rw [decide_eq_false g, Bool.false_and]
      refine Ev.step (f := fun _ => some false) (fun k => ?_) (Ev.now _)
      simp only [value_Name.l0]
      rw [if_pos (by omega), if_pos (by omega), if_pos (by omega)]
      generalize value_Name.l0 k s (s.size : Int) (wrap64 (↑i + 1)) = R
      unfold good at g
      repeat' split
      all_goals first | rfl | (exfalso; omega)
theorem p_name (s : ByteArray) (hs : s.size < 4611686018427387904) : Ev (fun k => value_Name.f k s) (nameS s) := name_l0 s hs s.size 0 (by omega)
theorem rname_l0 (s : ByteArray) (hs : s.size < 4611686018427387904) : ∀ (m i : Nat), i + m = s.size → Ev (fun k => parchmentref03_Name.l0 k s (i : Int)) (nameAt s m i) := by
  intro m
  induction m with
  | zero =>
    intro i hi
    refine Ev.step (f := fun _ => some (nameAt s 0 i)) (fun k => ?_) (Ev.now _)
    simp only [parchmentref03_Name.l0]
    rw [if_neg (by omega), nameAt]
    by_cases h : 1 ≤ s.size
    · rw [if_pos (by omega), decide_eq_true h, Bool.true_and]
      congr 1
      exact decide_eq_decide.2 (by omega)
    · rw [if_neg (by omega), decide_eq_false h]; rfl
  | succ m ih =>
    intro i hi
    have h1 := ih (i + 1) (by omega)
    rw [nameAt]
    by_cases g : good i (bt s i)
    · rw [decide_eq_true g, Bool.true_and]
      refine Ev.step (fun k => ?_) h1
      simp only [parchmentref03_Name.l0]
      rw [if_pos (by omega), if_pos (by omega), wr1 i s.size (by omega) hs]
      generalize parchmentref03_Name.l0 k s ((i + 1 : Nat) : Int) = R
      unfold good at g
      repeat' split
      all_goals first | rfl | (exfalso; omega)
    · rw [decide_eq_false g, Bool.false_and]
      refine Ev.step (f := fun _ => some false) (fun k => ?_) (Ev.now _)
      simp only [parchmentref03_Name.l0]
      rw [if_pos (by omega), if_pos (by omega)]
      generalize parchmentref03_Name.l0 k s (wrap64 (↑i + 1)) = R
      unfold good at g
      repeat' split
      all_goals first | rfl | (exfalso; omega)
theorem r_name (s : ByteArray) (hs : s.size < 4611686018427387904) : Ev (fun k => parchmentref03_Name.f k s) (nameS s) := rname_l0 s hs s.size 0 (by omega)
/-- What a revision may be. -/
def numsOk (x : S47) : Prop := if x.f0 < 3 then x.f3 = 0 ∧ x.f4 = 0 else 1 ≤ x.f3 ∧ (x.f0 = 3 ↔ x.f4 = 0)
def bytesOk (x : S47) : Prop :=
  if x.f0 = 3 ∨ x.f0 = 4 then (if x.f7 = true then x.f5.size = 32 ∧ x.f6.toList = [] else x.f5.toList = (leaf x.f6).toList ∧ x.f6.size ≤ 1024)
  else x.f5.toList = [] ∧ x.f6.toList = [] ∧ x.f7 = false
instance (x : S47) : Decidable (numsOk x) := by unfold numsOk; infer_instance
instance (x : S47) : Decidable (bytesOk x) := by unfold bytesOk; infer_instance
abbrev okRev (x : S47) : Prop := 1 ≤ x.f0 ∧ x.f0 ≤ 5 ∧ nameS x.f1 = true ∧ (if x.f0 = 2 then nameS x.f2 = true else x.f2.toList = []) ∧ numsOk x ∧ bytesOk x
def chk (x : S47) : Int := if okRev x then 0 else 6
structure Small (x : S47) : Prop where
  s1 : x.f1.size < 4611686018427387904
  s2 : x.f2.size < 4611686018427387904
  s6 : x.f6.size < 1152921504606846000
  n4 : 0 ≤ x.f4
theorem evc {g : Nat → Option Int} {P : Prop} [Decidable P] (h : (P ∧ Ev g 0) ∨ (¬ P ∧ Ev g 6)) : Ev g (if P then 0 else 6) := by
  rcases h with ⟨h, e⟩ | ⟨h, e⟩
  · rw [if_pos h]; exact e
  · rw [if_neg h]; exact e
theorem p_bytesOk (x : S47) (hs : Small x) : ∃ b, block_bytes.f x.f0 x.f1 x.f2 x.f3 x.f4 x.f5 x.f6 x.f7 = some b ∧ (b = true ↔ bytesOk x) := by
  unfold block_bytes.f block_bodied.f
  by_cases h34 : x.f0 = 3 ∨ x.f0 = 4
  · have hB : (if x.f0 = 3 then some true else some (x.f0 == 4)) = some true := by rcases h34 with h | h <;> simp [h]
    rw [hB, Option.bind_some, if_pos rfl]
    by_cases h7 : x.f7 = true
    · rw [if_pos h7]
      by_cases h5 : x.f5.size = 32
      · rw [if_pos (by omega)]; exact ⟨_, rfl, by simp [bytesOk, h34, h7, h5]⟩
      · rw [if_neg (by omega)]; exact ⟨_, rfl, by simp [bytesOk, h34, h7, h5]⟩
    · rw [if_neg h7, leaf_f _ hs.s6, Option.bind_some]
      by_cases h5 : x.f5.toList = (leaf x.f6).toList
      · rw [if_pos h5]; refine ⟨_, rfl, ?_⟩; simp only [bytesOk, if_pos h34, if_neg h7, h5, true_and, decide_eq_true_eq]; omega
      · rw [if_neg h5]; exact ⟨_, rfl, by simp [bytesOk, h34, h7, h5]⟩
  · have hB : (if x.f0 = 3 then some true else some (x.f0 == 4)) = some false := by rw [if_neg (fun h => h34 (.inl h))]; rw [beq_eq_false_iff_ne.2 (fun h => h34 (.inr h))]
    rw [hB, Option.bind_some, if_neg (by decide)]
    by_cases h5 : x.f5.toList = []
    · rw [if_pos h5]
      by_cases h6 : x.f6.toList = []
      · rw [if_pos h6]; exact ⟨_, rfl, by simp [bytesOk, h34, h5, h6]⟩
      · rw [if_neg h6]; exact ⟨_, rfl, by simp [bytesOk, h34, h5, h6]⟩
    · rw [if_neg h5]; exact ⟨_, rfl, by simp [bytesOk, h34, h5]⟩
theorem p_numsOk (x : S47) : ∃ b, block_numbers.f x.f0 x.f1 x.f2 x.f3 x.f4 x.f5 x.f6 x.f7 = some b ∧ (b = true ↔ numsOk x) := by
  unfold block_numbers.f
  by_cases h3 : x.f0 < 3
  · rw [if_pos h3]
    by_cases h : x.f3 = 0
    · rw [if_pos h]; exact ⟨_, rfl, by simp [numsOk, h3, h]⟩
    · rw [if_neg h]; exact ⟨_, rfl, by simp [numsOk, h3, h]⟩
  · rw [if_neg h3]
    by_cases h : x.f3 ≥ 1
    · rw [if_pos h]; refine ⟨_, rfl, ?_⟩
      unfold numsOk
      rw [if_neg h3]
      by_cases ha : x.f0 = 3 <;> by_cases hb : x.f4 = 0 <;> simp only [ha, hb, h, beq_self_eq_true, beq_eq_false_iff_ne.2, ne_eq, not_false_eq_true, beq_iff_eq, decide_true, iff_self, true_and, and_true, and_self, true_iff, iff_true, iff_false, false_iff, not_true_eq_false, not_and] <;> simp [ha, hb, h] <;> omega
    · rw [if_neg h]; exact ⟨_, rfl, by simp [numsOk, h3]; omega⟩
theorem p_check_j0 (x : S47) (hs : Small x) (b : Bool) : Ev (fun k => block_Check.j0 k b x.f0 x.f1 x.f2 x.f3 x.f4 x.f5 x.f6 x.f7) (if 1 ≤ x.f0 ∧ x.f0 ≤ 5 ∧ nameS x.f1 = true ∧ b = true ∧ numsOk x ∧ bytesOk x then 0 else 6) := by
  refine Ev.step (f := fun k => _) (fun k => by rw [block_Check.j0]) ?_
  by_cases h1 : x.f0 < 1
  · simp only [if_pos h1]; rw [if_neg (by omega)]; exact Ev.now _
  · simp only [if_neg h1]
    by_cases h2 : x.f0 > 5
    · simp only [if_pos h2]; rw [if_neg (by omega)]; exact Ev.now _
    · simp only [if_neg h2]
      refine Ev.bind (p_name _ hs.s1) ?_
      by_cases hn : nameS x.f1 = true
      · simp only [if_pos hn]
        by_cases hb : b = true
        · obtain ⟨c1, e1, h1'⟩ := p_numsOk x
          obtain ⟨c2, e2, h2'⟩ := p_bytesOk x hs
          simp only [if_pos hb, e1, Option.bind_some, e2]
          by_cases h3 : c1 = true
          · simp only [if_pos h3]
            by_cases h4 : c2 = true
            · simp only [if_pos h4]; exact evc (.inl ⟨⟨by omega, by omega, hn, hb, h1'.1 h3, h2'.1 h4⟩, Ev.now _⟩)
            · simp only [if_neg h4]; exact evc (.inr ⟨fun h => h4 (h2'.2 h.2.2.2.2.2), Ev.now _⟩)
          · simp only [if_neg h3]; exact evc (.inr ⟨fun h => h3 (h1'.2 h.2.2.2.2.1), Ev.now _⟩)
        · simp only [if_neg hb]; exact evc (.inr ⟨fun h => hb h.2.2.2.1, Ev.now _⟩)
      · simp only [if_neg hn]; exact evc (.inr ⟨fun h => hn h.2.2.1, Ev.now _⟩)
theorem p_check (x : S47) (hs : Small x) : Ev (fun k => block_Check.f k x.f0 x.f1 x.f2 x.f3 x.f4 x.f5 x.f6 x.f7) (chk x) := by
  unfold block_Check.f chk okRev
  by_cases h2 : x.f0 = 2
  · simp only [if_pos h2]
    exact Ev.bind (p_name _ hs.s2) (p_check_j0 x hs _)
  · simp only [if_neg h2]
    have h := p_check_j0 x hs (x.f2.toList == ([] : List UInt8))
    simp only [beq_iff_eq] at h
    exact h
theorem r_check_j3 (x : S47) (hs : Small x) (b c : Bool) (hc : c = !(decide (x.f0 = 3 ∨ x.f0 = 4))) : Ev (fun k => parchmentref09_Check.j3 k b c x.f0 x.f1 x.f2 x.f3 x.f4 x.f5 x.f6 x.f7) (if b = true ∧ bytesOk x then 0 else 6) := by
  subst hc
  refine Ev.step (f := fun k => _) (fun k => by rw [parchmentref09_Check.j3]) ?_
  by_cases h34 : x.f0 = 3 ∨ x.f0 = 4
  · rw [decide_eq_true h34]
    simp only [Bool.not_true, Bool.false_eq_true, if_false]
    by_cases h7 : x.f7 = true
    · simp only [if_pos h7]
      by_cases hb : b = true
      · simp only [if_pos hb]
        by_cases h5 : x.f5.size = 32
        · simp only [if_pos (show (x.f5.size : Int) = 32 by omega)]
          by_cases h6 : x.f6.toList = []
          · simp only [if_pos h6]; exact evc (.inl ⟨by simp [bytesOk, *], Ev.now _⟩)
          · simp only [if_neg h6]; exact evc (.inr ⟨by simp [bytesOk, *], Ev.now _⟩)
        · simp only [if_neg (show ¬ (x.f5.size : Int) = 32 by omega)]; exact evc (.inr ⟨by simp [bytesOk, *], Ev.now _⟩)
      · simp only [if_neg hb]; exact evc (.inr ⟨by simp [bytesOk, *], Ev.now _⟩)
    · simp only [if_neg h7]
      by_cases hb : b = true
      · simp only [if_pos hb]
        by_cases h6 : (x.f6.size : Int) ≤ 1024
        · simp only [if_pos h6, rleaf_f _ hs.s6, Option.bind_some]
          by_cases h5 : x.f5.toList = (leaf x.f6).toList
          · simp only [if_pos h5]; exact evc (.inl ⟨⟨hb, by unfold bytesOk; rw [if_pos h34, if_neg h7]; exact ⟨h5, by omega⟩⟩, Ev.now _⟩)
          · simp only [if_neg h5]; exact evc (.inr ⟨by simp [bytesOk, *], Ev.now _⟩)
        · simp only [if_neg h6]; exact evc (.inr ⟨fun h => h6 (by have h' := h.2; unfold bytesOk at h'; rw [if_pos h34, if_neg h7] at h'; omega), Ev.now _⟩)
      · simp only [if_neg hb]; exact evc (.inr ⟨by simp [bytesOk, *], Ev.now _⟩)
  · rw [decide_eq_false h34]
    simp only [Bool.not_false, if_true]
    by_cases hb : b = true
    · simp only [if_pos hb]
      by_cases h5 : x.f5.toList = []
      · simp only [if_pos h5]
        by_cases h6 : x.f6.toList = []
        · simp only [if_pos h6]
          cases h7 : x.f7
          · exact evc (.inl ⟨by simp [bytesOk, *], Ev.now _⟩)
          · exact evc (.inr ⟨by simp [bytesOk, *], Ev.now _⟩)
        · simp only [if_neg h6]; exact evc (.inr ⟨by simp [bytesOk, *], Ev.now _⟩)
      · simp only [if_neg h5]; exact evc (.inr ⟨by simp [bytesOk, *], Ev.now _⟩)
    · simp only [if_neg hb]; exact evc (.inr ⟨by simp [bytesOk, *], Ev.now _⟩)
theorem r_check_j2 (x : S47) (hs : Small x) (b : Bool) : Ev (fun k => parchmentref09_Check.j2 k b x.f0 x.f1 x.f2 x.f3 x.f4 x.f5 x.f6 x.f7) (if b = true ∧ bytesOk x then 0 else 6) := by
  refine Ev.step (f := fun k => _) (fun k => by rw [parchmentref09_Check.j2]) ?_
  by_cases h3 : x.f0 = 3
  · simp only [if_pos h3]; exact r_check_j3 x hs b false (by rw [decide_eq_true (.inl h3)]; rfl)
  · simp only [if_neg h3]
    refine r_check_j3 x hs b _ ?_
    by_cases h4 : x.f0 = 4
    · rw [decide_eq_true (.inr h4), h4]; rfl
    · rw [decide_eq_false (fun h => h.elim h3 h4)]; simp [h4]
theorem r_check_j1 (x : S47) (hs : Small x) (b : Bool) : Ev (fun k => parchmentref09_Check.j1 k b x.f0 x.f1 x.f2 x.f3 x.f4 x.f5 x.f6 x.f7) (if b = true ∧ numsOk x ∧ bytesOk x then 0 else 6) := by
  refine Ev.step (f := fun k => _) (fun k => by rw [parchmentref09_Check.j1]) ?_
  have n4 := hs.n4
  have key : ∀ q : Bool, (q = true ↔ b = true ∧ numsOk x) → Ev (fun k => parchmentref09_Check.j2 k q x.f0 x.f1 x.f2 x.f3 x.f4 x.f5 x.f6 x.f7) (if b = true ∧ numsOk x ∧ bytesOk x then 0 else 6) := by
    intro q hq
    have h := r_check_j2 x hs q
    simp only [hq, and_assoc] at h
    exact h
  unfold numsOk at key ⊢
  by_cases h3 : x.f0 < 3
  · simp only [if_pos h3] at key ⊢
    by_cases hb : b = true
    · simp only [if_pos hb]
      by_cases hd : x.f3 = 0
      · simp only [if_pos hd]; exact key _ (by simp [hb, hd])
      · simp only [if_neg hd]; exact key _ (by simp [hb, hd])
    · simp only [if_neg hb]; exact key _ (by simp [hb])
  · simp only [if_neg h3] at key ⊢
    by_cases h0 : x.f0 = 3
    · simp only [if_pos h0]
      by_cases hb : b = true
      · simp only [if_pos hb]
        by_cases hd : x.f3 > 0
        · simp only [if_pos hd]; exact key _ (by simp [hb, h0]; omega)
        · simp only [if_neg hd]; exact key _ (by simp [hb, h0]; omega)
      · simp only [if_neg hb]; exact key _ (by simp [hb])
    · simp only [if_neg h0]
      by_cases hb : b = true
      · simp only [if_pos hb]
        by_cases hd : x.f3 > 0
        · simp only [if_pos hd]; exact key _ (by simp [hb, h0]; omega)
        · simp only [if_neg hd]; exact key _ (by simp [hb, h0]; omega)
      · simp only [if_neg hb]; exact key _ (by simp [hb])
theorem r_check_j0 (x : S47) (hs : Small x) (b : Bool) : Ev (fun k => parchmentref09_Check.j0 k b x.f0 x.f1 x.f2 x.f3 x.f4 x.f5 x.f6 x.f7) (if b = true ∧ (if x.f0 = 2 then nameS x.f2 = true else x.f2.toList = []) ∧ numsOk x ∧ bytesOk x then 0 else 6) := by
  refine Ev.step (f := fun k => _) (fun k => by rw [parchmentref09_Check.j0]) ?_
  by_cases h2 : x.f0 = 2
  · simp only [if_pos h2]
    by_cases hb : b = true
    · simp only [if_pos hb, hb, true_and]
      exact Ev.bind (r_name _ hs.s2) (r_check_j1 x hs _)
    · simp only [if_neg hb]
      have h := r_check_j1 x hs false
      simp only [Bool.false_eq_true, false_and, if_false] at h
      rw [if_neg (fun h => hb h.1)]; exact h
  · simp only [if_neg h2]
    by_cases hb : b = true
    · simp only [if_pos hb, hb, true_and]
      have h := r_check_j1 x hs (x.f2.toList == ([] : List UInt8))
      simp only [beq_iff_eq] at h
      exact h
    · simp only [if_neg hb]
      have h := r_check_j1 x hs false
      simp only [Bool.false_eq_true, false_and, if_false] at h
      rw [if_neg (fun h => hb h.1)]; exact h
theorem r_check (x : S47) (hs : Small x) : Ev (fun k => parchmentref09_Check.f k x.f0 x.f1 x.f2 x.f3 x.f4 x.f5 x.f6 x.f7) (chk x) := by
  unfold parchmentref09_Check.f chk okRev
  have hf := r_check_j0 x hs false
  simp only [Bool.false_eq_true, false_and, if_false] at hf
  by_cases h1 : x.f0 ≥ 1
  · simp only [if_pos h1]
    by_cases h5 : x.f0 ≤ 5
    · simp only [if_pos h5]
      refine Ev.bind (r_name _ hs.s1) ?_
      have h := r_check_j0 x hs (nameS x.f1)
      have e : (1 ≤ x.f0 ∧ x.f0 ≤ 5 ∧ nameS x.f1 = true ∧ (if x.f0 = 2 then nameS x.f2 = true else x.f2.toList = []) ∧ numsOk x ∧ bytesOk x) ↔ (nameS x.f1 = true ∧ (if x.f0 = 2 then nameS x.f2 = true else x.f2.toList = []) ∧ numsOk x ∧ bytesOk x) := ⟨fun h => h.2.2, fun h => ⟨h1, h5, h⟩⟩
      simp only [e]
      exact h
    · simp only [if_neg h5]; rw [if_neg (fun h => h5 h.2.1)]; exact hf
  · simp only [if_neg h1]; rw [if_neg (fun h => h1 h.1)]; exact hf
end Go.Proofs.Ytdcbacbilncnnaa.T
end
