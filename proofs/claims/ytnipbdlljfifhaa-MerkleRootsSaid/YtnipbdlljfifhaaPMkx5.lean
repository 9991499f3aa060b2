-- WRITTEN BY wip/xprint.py, a program of this session over the kit's printer; Lean checks it
import Derived.Test.YtnipbdlljfifhaaPMkx0
import Derived.Test.YtnipbdlljfifhaaPMkx2
namespace Go.Proofs.Ytnipbdlljfifhaa.PMk
open Go.RowKit Go.Proofs.YtnipbdlljfifhaaW.PrintWords Go.Proofs.YtnipbdlljfifhaaW.PrintLast Go.Proofs.YtnipbdlljfifhaaW.PrintMore
attribute [local go_sem] max2_int min2_int max_two min_two max_three min_three max_four min_four   -- for this text's walks alone
set_option linter.unusedVariables false
set_option linter.unusedSimpArgs false

/-! ### parchmentref08_Consistent: function 24 -/
mutual
def parchmentref08_Consistent.j0 : Nat → ByteArray → ByteArray → Int → Int → List ByteArray → Bool → Option (Int)
  | 0, _, _, _, _, _, _ => none
  | k + 1, x0, x1, x2, x3, x4, x39 => if x39 = true then (some 1) else (if (x4.length : Int) > 64 then (some 80) else (parchmentref08_Consistent.l0 k x0 x1 x2 x3 x4 (([] : List Bool))))
def parchmentref08_Consistent.l0 : Nat → ByteArray → ByteArray → Int → Int → List ByteArray → List Bool → Option (Int)
  | 0, _, _, _, _, _, _ => none
  | k + 1, x0, x1, x2, x3, x4, x11 => if x2 < x3 then ((parchmentref08_half.f k x3).bind fun t193 => (if x2 ≤ t193 then (if x11.length < 140737488355328 then (parchmentref08_Consistent.l0 k x0 x1 x2 t193 x4 (x11 ++ [false])) else (none)) else (if x11.length < 140737488355328 then (parchmentref08_Consistent.l0 k x0 x1 (wrap64 (x2 - t193)) (wrap64 (x3 - t193)) x4 (x11 ++ [true])) else (none)))) else (parchmentref08_Consistent.l1 k x0 x1 x4 x11 false 0)
def parchmentref08_Consistent.l1 : Nat → ByteArray → ByteArray → List ByteArray → List Bool → Bool → Int → Option (Int)
  | 0, _, _, _, _, _, _ => none
  | k + 1, x0, x1, x4, x11, x13, x14 => if x14 < (x11.length : Int) then (if x13 = true then (parchmentref08_Consistent.l1 k x0 x1 x4 x11 true (wrap64 (x14 + 1))) else (if 0 ≤ x14 then (parchmentref08_Consistent.l1 k x0 x1 x4 x11 (rdOf false x11 x14) (wrap64 (x14 + 1))) else (none))) else (if x13 = true then (if (x4.length : Int) = 0 then (some 80) else (if 0 < (x4.length : Int) then (if ((rdOf ByteArray.empty x4 0).size : Int) = 32 then (if 1 ≤ (x4.length : Int) then (parchmentref08_Consistent.j3 k x0 x1 x11 (rdOf ByteArray.empty x4 0) (x4.drop 1)) else (none)) else (some 80)) else (none))) else (parchmentref08_Consistent.j3 k x0 x1 x11 x0 x4))
def parchmentref08_Consistent.j3 : Nat → ByteArray → ByteArray → List Bool → ByteArray → List ByteArray → Option (Int)
  | 0, _, _, _, _, _ => none
  | k + 1, x0, x1, x11, x15, x16 => if (x16.length : Int) = (x11.length : Int) then (parchmentref08_Consistent.l2 k x0 x1 x11 x15 x16 x15 0) else (some 80)
def parchmentref08_Consistent.l2 : Nat → ByteArray → ByteArray → List Bool → ByteArray → List ByteArray → ByteArray → Int → Option (Int)
  | 0, _, _, _, _, _, _, _ => none
  | k + 1, x0, x1, x11, x15, x16, x17, x18 => if x18 < (x16.length : Int) then (if 0 ≤ x18 then (if ((rdOf ByteArray.empty x16 x18).size : Int) = 32 then (if 0 ≤ (wrap64 ((wrap64 ((x11.length : Int) - 1)) - x18)) then (if (wrap64 ((wrap64 ((x11.length : Int) - 1)) - x18)) < (x11.length : Int) then (if rdOf false x11 (wrap64 ((wrap64 ((x11.length : Int) - 1)) - x18)) = true then ((parchmentref01_Node.f (rdOf ByteArray.empty x16 x18) x15).bind fun t211 => ((parchmentref01_Node.f (rdOf ByteArray.empty x16 x18) x17).bind fun t213 => (parchmentref08_Consistent.l2 k x0 x1 x11 t211 x16 t213 (wrap64 (x18 + 1))))) else ((parchmentref01_Node.f x17 (rdOf ByteArray.empty x16 x18)).bind fun t215 => (parchmentref08_Consistent.l2 k x0 x1 x11 x15 x16 t215 (wrap64 (x18 + 1))))) else (none)) else (none)) else (some 80)) else (none)) else (if x15.toList = x0.toList then (if x17.toList = x1.toList then (some 0) else (some 80)) else (some 80))
end
def parchmentref08_Consistent.f (k : Nat) (a0 : ByteArray) (a1 : ByteArray) (a2 : Int) (a3 : Int) (l4 : List ByteArray) : Option (Int) := if a2 < 1 then (parchmentref08_Consistent.j0 k a0 a1 a2 a3 l4 true) else (if a3 < a2 then (parchmentref08_Consistent.j0 k a0 a1 a2 a3 l4 true) else (if a3 > 2147483648 then (parchmentref08_Consistent.j0 k a0 a1 a2 a3 l4 true) else (if (a0.size : Int) = 32 then (parchmentref08_Consistent.j0 k a0 a1 a2 a3 l4 ((a1.size : Int) != 32)) else (parchmentref08_Consistent.j0 k a0 a1 a2 a3 l4 true))))
theorem parchmentref08_Consistent.mono_l : ∀ k, (∀ y0 y1 y2 y3 y4 y5, LeO (parchmentref08_Consistent.j0 k y0 y1 y2 y3 y4 y5) (parchmentref08_Consistent.j0 (k + 1) y0 y1 y2 y3 y4 y5)) ∧ (∀ y0 y1 y2 y3 y4 y5, LeO (parchmentref08_Consistent.l0 k y0 y1 y2 y3 y4 y5) (parchmentref08_Consistent.l0 (k + 1) y0 y1 y2 y3 y4 y5)) ∧ (∀ y0 y1 y2 y3 y4 y5, LeO (parchmentref08_Consistent.l1 k y0 y1 y2 y3 y4 y5) (parchmentref08_Consistent.l1 (k + 1) y0 y1 y2 y3 y4 y5)) ∧ (∀ y0 y1 y2 y3 y4, LeO (parchmentref08_Consistent.j3 k y0 y1 y2 y3 y4) (parchmentref08_Consistent.j3 (k + 1) y0 y1 y2 y3 y4)) ∧ (∀ y0 y1 y2 y3 y4 y5 y6, LeO (parchmentref08_Consistent.l2 k y0 y1 y2 y3 y4 y5 y6) (parchmentref08_Consistent.l2 (k + 1) y0 y1 y2 y3 y4 y5 y6))
  | 0 => ⟨fun _ _ _ _ _ _ r h => by simp [parchmentref08_Consistent.j0] at h, fun _ _ _ _ _ _ r h => by simp [parchmentref08_Consistent.l0] at h, fun _ _ _ _ _ _ r h => by simp [parchmentref08_Consistent.l1] at h, fun _ _ _ _ _ r h => by simp [parchmentref08_Consistent.j3] at h, fun _ _ _ _ _ _ _ r h => by simp [parchmentref08_Consistent.l2] at h⟩
  | k + 1 => by
    obtain ⟨ih0, ih1, ih2, ih3, ih4⟩ := parchmentref08_Consistent.mono_l k
    refine ⟨?_, ?_, ?_, ?_, ?_⟩
    · intro y0 y1 y2 y3 y4 y5
      unfold parchmentref08_Consistent.j0
      repeat' first
      | (with_reducible exact ih0 _ _ _ _ _ _)
      | (with_reducible exact ih1 _ _ _ _ _ _)
      | (with_reducible exact ih2 _ _ _ _ _ _)
      | (with_reducible exact ih3 _ _ _ _ _)
      | (with_reducible exact ih4 _ _ _ _ _ _ _)
      | (with_reducible exact parchmentref08_half.mono _ _)
      | (with_reducible exact LeO.refl _)
      | (with_reducible exact LeO.none _)
      | (with_reducible refine LeO.ite ?_ ?_)
      | (with_reducible refine LeO.bind ?_ (fun _ => ?_))
      | exact ih0 _ _ _ _ _ _
      | exact ih1 _ _ _ _ _ _
      | exact ih2 _ _ _ _ _ _
      | exact ih3 _ _ _ _ _
      | exact ih4 _ _ _ _ _ _ _
      | exact parchmentref08_half.mono _ _
      | exact LeO.none _
      | refine LeO.ite ?_ ?_
      | refine LeO.bind ?_ (fun _ => ?_)
    · intro y0 y1 y2 y3 y4 y5
      unfold parchmentref08_Consistent.l0
      repeat' first
      | (with_reducible exact ih0 _ _ _ _ _ _)
      | (with_reducible exact ih1 _ _ _ _ _ _)
      | (with_reducible exact ih2 _ _ _ _ _ _)
      | (with_reducible exact ih3 _ _ _ _ _)
      | (with_reducible exact ih4 _ _ _ _ _ _ _)
      | (with_reducible exact parchmentref08_half.mono _ _)
      | (with_reducible exact LeO.refl _)
      | (with_reducible exact LeO.none _)
      | (with_reducible refine LeO.ite ?_ ?_)
      | (with_reducible refine LeO.bind ?_ (fun _ => ?_))
      | exact ih0 _ _ _ _ _ _
      | exact ih1 _ _ _ _ _ _
      | exact ih2 _ _ _ _ _ _
      | exact ih3 _ _ _ _ _
      | exact ih4 _ _ _ _ _ _ _
      | exact parchmentref08_half.mono _ _
      | exact LeO.none _
      | refine LeO.ite ?_ ?_
      | refine LeO.bind ?_ (fun _ => ?_)
    · intro y0 y1 y2 y3 y4 y5
      unfold parchmentref08_Consistent.l1
      repeat' first
      | (with_reducible exact ih0 _ _ _ _ _ _)
      | (with_reducible exact ih1 _ _ _ _ _ _)
      | (with_reducible exact ih2 _ _ _ _ _ _)
      | (with_reducible exact ih3 _ _ _ _ _)
      | (with_reducible exact ih4 _ _ _ _ _ _ _)
      | (with_reducible exact parchmentref08_half.mono _ _)
      | (with_reducible exact LeO.refl _)
      | (with_reducible exact LeO.none _)
      | (with_reducible refine LeO.ite ?_ ?_)
      | (with_reducible refine LeO.bind ?_ (fun _ => ?_))
      | exact ih0 _ _ _ _ _ _
      | exact ih1 _ _ _ _ _ _
      | exact ih2 _ _ _ _ _ _
      | exact ih3 _ _ _ _ _
      | exact ih4 _ _ _ _ _ _ _
      | exact parchmentref08_half.mono _ _
      | exact LeO.none _
      | refine LeO.ite ?_ ?_
      | refine LeO.bind ?_ (fun _ => ?_)
    · intro y0 y1 y2 y3 y4
      unfold parchmentref08_Consistent.j3
      repeat' first
      | (with_reducible exact ih0 _ _ _ _ _ _)
      | (with_reducible exact ih1 _ _ _ _ _ _)
      | (with_reducible exact ih2 _ _ _ _ _ _)
      | (with_reducible exact ih3 _ _ _ _ _)
      | (with_reducible exact ih4 _ _ _ _ _ _ _)
      | (with_reducible exact parchmentref08_half.mono _ _)
      | (with_reducible exact LeO.refl _)
      | (with_reducible exact LeO.none _)
      | (with_reducible refine LeO.ite ?_ ?_)
      | (with_reducible refine LeO.bind ?_ (fun _ => ?_))
      | exact ih0 _ _ _ _ _ _
      | exact ih1 _ _ _ _ _ _
      | exact ih2 _ _ _ _ _ _
      | exact ih3 _ _ _ _ _
      | exact ih4 _ _ _ _ _ _ _
      | exact parchmentref08_half.mono _ _
      | exact LeO.none _
      | refine LeO.ite ?_ ?_
      | refine LeO.bind ?_ (fun _ => ?_)
    · intro y0 y1 y2 y3 y4 y5 y6
      unfold parchmentref08_Consistent.l2
      repeat' first
      | (with_reducible exact ih0 _ _ _ _ _ _)
      | (with_reducible exact ih1 _ _ _ _ _ _)
      | (with_reducible exact ih2 _ _ _ _ _ _)
      | (with_reducible exact ih3 _ _ _ _ _)
      | (with_reducible exact ih4 _ _ _ _ _ _ _)
      | (with_reducible exact parchmentref08_half.mono _ _)
      | (with_reducible exact LeO.refl _)
      | (with_reducible exact LeO.none _)
      | (with_reducible refine LeO.ite ?_ ?_)
      | (with_reducible refine LeO.bind ?_ (fun _ => ?_))
      | exact ih0 _ _ _ _ _ _
      | exact ih1 _ _ _ _ _ _
      | exact ih2 _ _ _ _ _ _
      | exact ih3 _ _ _ _ _
      | exact ih4 _ _ _ _ _ _ _
      | exact parchmentref08_half.mono _ _
      | exact LeO.none _
      | refine LeO.ite ?_ ?_
      | refine LeO.bind ?_ (fun _ => ?_)
theorem parchmentref08_Consistent.mono : ∀ a0 a1 a2 a3 a4 k, LeO (parchmentref08_Consistent.f k a0 a1 a2 a3 a4) (parchmentref08_Consistent.f (k + 1) a0 a1 a2 a3 a4) := by
  intro a0 a1 a2 a3 a4 k
  obtain ⟨ih0, ih1, ih2, ih3, ih4⟩ := parchmentref08_Consistent.mono_l k
  unfold parchmentref08_Consistent.f
  repeat' first
      | (with_reducible exact ih0 _ _ _ _ _ _)
      | (with_reducible exact ih1 _ _ _ _ _ _)
      | (with_reducible exact ih2 _ _ _ _ _ _)
      | (with_reducible exact ih3 _ _ _ _ _)
      | (with_reducible exact ih4 _ _ _ _ _ _ _)
      | (with_reducible exact parchmentref08_half.mono _ _)
      | (with_reducible exact LeO.refl _)
      | (with_reducible exact LeO.none _)
      | (with_reducible refine LeO.ite ?_ ?_)
      | (with_reducible refine LeO.bind ?_ (fun _ => ?_))
      | exact ih0 _ _ _ _ _ _
      | exact ih1 _ _ _ _ _ _
      | exact ih2 _ _ _ _ _ _
      | exact ih3 _ _ _ _ _
      | exact ih4 _ _ _ _ _ _ _
      | exact parchmentref08_half.mono _ _
      | exact LeO.none _
      | refine LeO.ite ?_ ?_
      | refine LeO.bind ?_ (fun _ => ?_)
def parchmentref08_Consistent.T30 : Bool × List (List Nat × List Nat) := (true, [([], []), ([], []), ([0, 1], [0, 1]), ([2], [2]), ([], []), ([3, 4], [3, 4]), ([], []), ([], []), ([6, 7], [6, 7]), ([8], [8]), ([], []), ([9, 10, 5], [9, 10]), ([5, 11, 0, 1, 2, 3, 4, 5], [4, 5]), ([11, 12, 0, 1, 2, 3, 4, 5, 6, 7, 8, 9, 10, 11, 12], [10, 11])])
def parchmentref08_Consistent.B30 : List Nat := [0, 0, 3, 7, 0, 31, 0, 0, 192, 448, 0, 2047, 4095, 8191]
theorem parchmentref08_Consistent.tab30 : rtab .any (opsOf Try.f24 30) = parchmentref08_Consistent.T30 := by kernel_rfl
theorem parchmentref08_Consistent.bits30 : waitsOk parchmentref08_Consistent.T30.2 parchmentref08_Consistent.B30 = true := by kernel_rfl
set_option maxHeartbeats 8000000 in
set_option maxRecDepth 100000 in
theorem parchmentref08_Consistent.calls (k : Nat) (a0 : ByteArray) (a1 : ByteArray) (a2 : Int) (a3 : Int) (P4_ : Nat → Prop) (A4 : Option Addr) (c4 : Nat) (l4 : List ByteArray) (r : Int) (w : World) (hs4 : Kd.V Kd.string 9 w w.heap.size (fun k_ => P4_ k_) (.slice A4 l4.length c4) l4) (h : parchmentref08_Consistent.f k a0 a1 a2 a3 l4 = some r) :
    Calls Try.prog 24 #[.string a0, .string a1, .int .i64 a2, .int .i64 a3, .slice A4 l4.length c4] w fun e w' => e = .returned (.int .i64 r) ∧ Below w.heap.size w w' := by
  have HO4 := Aside0.mk (show Kd.V Kd.string 9 w w.heap.size (fun k_ => (P4_ k_ ∨ w.heap.size ≤ k_)) (.slice A4 l4.length c4) l4 from Kd.V_mono hs4 (fun k_ hk => .inl hk))
  have HB := Aside0.mk (Below.refl w.heap.size w)
  have H : (if a2 < 1 then (parchmentref08_Consistent.j0 k a0 a1 a2 a3 l4 true) else (if a3 < a2 then (parchmentref08_Consistent.j0 k a0 a1 a2 a3 l4 true) else (if a3 > 2147483648 then (parchmentref08_Consistent.j0 k a0 a1 a2 a3 l4 true) else (if (a0.size : Int) = 32 then (parchmentref08_Consistent.j0 k a0 a1 a2 a3 l4 ((a1.size : Int) != 32)) else (parchmentref08_Consistent.j0 k a0 a1 a2 a3 l4 true))))) = some r := h
  clear h
  have HC6 := Aside0.mk H
  clear H
  go_enter Try.func24, Try.ntmps24
  go_upto_region 1 with (fail)
  go_cut [39] (fun v39 wc => ∃ (kq : Nat) (x39_5 : Bool), v39 = .bool x39_5 ∧ Aside0 (parchmentref08_Consistent.j0 kq a0 a1 a2 a3 l4 x39_5 = some r) ∧ Aside0 (kq ≤ k) ∧ Aside0 (Kd.V Kd.string 9 wc w.heap.size (fun k_ => (P4_ k_ ∨ w.heap.size ≤ k_)) (.slice A4 l4.length c4) l4) ∧ Aside0 (Below w.heap.size w wc))
  case first =>
    have H := HC6.out
    clear HC6
    by_cases c7 : a2 < 1
    · rw [if_pos c7] at H
      have c7b0 : decide (a2 < 1) = true := decide_eq_true c7
      clear c7
      (first | rw [c7b0] | (simp only [i64_w, i32_w]; rw [c7b0]) | skip)
      have H' := Aside0.mk H
      clear H
      go_wp2
      go_meet
      case rel => exact ⟨_, (true), (by first | rfl | (simp; done) | (simp [*]; done)), H', ⟨by first | omega | exact Nat.le_refl _⟩, ⟨by (with_reducible repeat (first | apply Kd.V_alloc | apply Kd.V_drewN | apply Kd.V_drew)); exact HO4.out⟩, ⟨by repeat (first | (with_reducible first | exact HB.out | apply below_alloc | apply pw_below_drewN | apply below_drew1) | exact HB.out)⟩⟩
    · rw [if_neg c7] at H
      have c7b0 : decide (a2 < 1) = false := decide_eq_false c7
      clear c7
      (first | rw [c7b0] | (simp only [i64_w, i32_w]; rw [c7b0]) | skip)
      by_cases c8 : a3 < a2
      · rw [if_pos c8] at H
        have c8b0 : decide (a3 < a2) = true := decide_eq_true c8
        clear c8
        have H' := Aside0.mk H
        clear H
        go_wp2
        go_meet
        case rel => exact ⟨_, (true), (by first | rfl | (simp; done) | (simp [*]; done)), H', ⟨by first | omega | exact Nat.le_refl _⟩, ⟨by (with_reducible repeat (first | apply Kd.V_alloc | apply Kd.V_drewN | apply Kd.V_drew)); exact HO4.out⟩, ⟨by repeat (first | (with_reducible first | exact HB.out | apply below_alloc | apply pw_below_drewN | apply below_drew1) | exact HB.out)⟩⟩
      · rw [if_neg c8] at H
        have c8b0 : decide (a3 < a2) = false := decide_eq_false c8
        clear c8
        by_cases c9 : a3 > 2147483648
        · rw [if_pos c9] at H
          have c9b0 : decide (2147483648 < a3) = true := decide_eq_true c9
          clear c9
          have H' := Aside0.mk H
          clear H
          go_wp2
          go_meet
          case rel => exact ⟨_, (true), (by first | rfl | (simp; done) | (simp [*]; done)), H', ⟨by first | omega | exact Nat.le_refl _⟩, ⟨by (with_reducible repeat (first | apply Kd.V_alloc | apply Kd.V_drewN | apply Kd.V_drew)); exact HO4.out⟩, ⟨by repeat (first | (with_reducible first | exact HB.out | apply below_alloc | apply pw_below_drewN | apply below_drew1) | exact HB.out)⟩⟩
        · rw [if_neg c9] at H
          have c9b0 : decide (2147483648 < a3) = false := decide_eq_false c9
          clear c9
          by_cases c10 : (a0.size : Int) = 32
          · rw [if_pos c10] at H
            have c10b0 : ((a0.size : Int) == 32) = true := beq_iff_eq.mpr c10
            have c10b1 : ((a0.size : Int) != 32) = false := bne_eq_false_iff_eq.mpr c10
            clear c10
            have H' := Aside0.mk H
            clear H
            go_wp2
            go_meet
            case rel => exact ⟨_, (((a1.size : Int) != 32)), (by first | rfl | (simp; done) | (simp [*]; done)), H', ⟨by first | omega | exact Nat.le_refl _⟩, ⟨by (with_reducible repeat (first | apply Kd.V_alloc | apply Kd.V_drewN | apply Kd.V_drew)); exact HO4.out⟩, ⟨by repeat (first | (with_reducible first | exact HB.out | apply below_alloc | apply pw_below_drewN | apply below_drew1) | exact HB.out)⟩⟩
          · rw [if_neg c10] at H
            have c10b0 : ((a0.size : Int) == 32) = false := beq_eq_false_iff_ne.mpr c10
            have c10b1 : ((a0.size : Int) != 32) = true := bne_iff_ne.mpr c10
            have H' := Aside0.mk H
            clear H
            go_wp2
            go_meet
            case rel => exact ⟨_, (true), (by first | rfl | (simp; done) | (simp [*]; done)), H', ⟨by first | omega | exact Nat.le_refl _⟩, ⟨by (with_reducible repeat (first | apply Kd.V_alloc | apply Kd.V_drewN | apply Kd.V_drew)); exact HO4.out⟩, ⟨by repeat (first | (with_reducible first | exact HB.out | apply below_alloc | apply pw_below_drewN | apply below_drew1) | exact HB.out)⟩⟩
  case rest =>
    clear HC6
    try clear c1
    try clear c2
    try clear p2
    try clear c4
    try clear c7
    try clear c7b0
    try clear c8
    try clear c8b0
    try clear c9
    try clear c9b0
    try clear c10
    try clear c10b0
    try clear c10b1
    obtain ⟨kq, x39_5, rfl, HA, HJ5, HO_4, HB⟩ := hcut
    cases kq with
    | zero => exact absurd HA.out (by simp [parchmentref08_Consistent.j0])
    | succ kj5 =>
      have H := HA.out
      clear HA
      simp only [parchmentref08_Consistent.j0] at H
      by_cases c11 : x39_5 = true
      · subst c11
        have H1 : (some 1) = some r := by rw [if_pos rfl] at H; exact H
        clear H
        have H := H1
        clear H1
        obtain rfl := Option.some.inj H
        go_wp2
        go_ret
        exact ⟨by first | rfl | (simp [errW_none, errW_some] <;> rfl) | (simp [*, errW_none, errW_some] <;> rfl), by repeat (first | (with_reducible first | exact HB.out | apply below_alloc | apply pw_below_drewN | apply below_drew1) | exact HB.out)⟩
      · replace c11 := Bool.eq_false_iff.mpr c11
        subst c11
        have H1 : (if (l4.length : Int) > 64 then (some 80) else (parchmentref08_Consistent.l0 kj5 a0 a1 a2 a3 l4 (([] : List Bool)))) = some r := by rw [if_neg (show ¬ (false = true) by decide)] at H; exact H
        clear H
        have H := H1
        clear H1
        by_cases c12 : (l4.length : Int) > 64
        · rw [if_pos c12] at H
          have c12b0 : decide (64 < (l4.length : Int)) = true := decide_eq_true c12
          have c12b1 : decide (64 < l4.length) = true := decide_eq_true (by omega)
          clear c12
          obtain rfl := Option.some.inj H
          go_wp2
          go_ret
          exact ⟨by first | rfl | (simp [errW_none, errW_some] <;> rfl) | (simp [*, errW_none, errW_some] <;> rfl), by repeat (first | (with_reducible first | exact HB.out | apply below_alloc | apply pw_below_drewN | apply below_drew1) | exact HB.out)⟩
        · rw [if_neg c12] at H
          have c12b0 : decide (64 < (l4.length : Int)) = false := decide_eq_false c12
          have c12b1 : decide (64 < l4.length) = false := decide_eq_false (by omega)
          clear c12
          obtain ⟨y190, hy190⟩ : ∃ y_ : List Bool, y_ = (([] : List Bool)) := ⟨_, rfl⟩
          replace H : (parchmentref08_Consistent.l0 kj5 a0 a1 a2 a3 l4 y190) = some r := by first | (rw [hy190]; with_reducible exact H) | (have H2_ := (Option.bind_some _ _).symm.trans H; rw [hy190]; with_reducible exact H2_) | (have H2_ := (Option.bind_some _ _).symm.trans H; with_reducible exact H2_) | with_reducible exact H | (rw [hy190]; exact H) | exact H
          have Ny190 := Aside0.mk hy190
          clear hy190
          have H' := Aside0.mk H
          clear H
          go_wp2_with (first | ((with_reducible refine gate_dst (N := 43) rfl ?_); (try (refine gate_guard (by rfl) ?_; dsimp only)); refine Kd.R_lit Kd.bool _ 4 ?hg (N := 43) ?hd (xs := ([] : List Bool)) (inner := []) (ok := fun _ => True) (okp := fun _ => True) ?hr ?hp (fun _ hk => hk) trivial (Below.refl _ _) (Nat.le_refl _) (by simp) ?_; (case hd => rfl); (case hg => rfl); (case hr => first | (go_simp; done) | (go_simp; rfl)); (case hp => exact (Reps.none _ _)); intro v191 w13 ho14 hb hg_ hnew_; clear hg_ hnew_; (first | rw [← Ny190.out] at ho14 | (simp only [Int.reduceToNat] at ho14; rw [← Ny190.out] at ho14)); have n0_ := Aside0.mk (Kd.V_elder' (by (with_reducible repeat (first | apply Kd.V_alloc | apply Kd.V_drewN | apply Kd.V_drew)); exact HO_4.out) (Kd.R_base ho14) hb); have n1_ := Aside0.mk (Kd.R_lower (Kd.R_newM (M := fun k_ => (w.heap.size ≤ k_)) ho14 (below_size (by repeat (first | (with_reducible first | exact HB.out | apply below_alloc | apply pw_below_drewN | apply below_drew1) | exact HB.out))) (fun k_ h_ => h_)) (below_size (by repeat (first | (with_reducible first | exact HB.out | apply below_alloc | apply pw_below_drewN | apply below_drew1) | exact HB.out)))); have n2_ := Aside0.mk (below_step (by repeat (first | (with_reducible first | exact HB.out | apply below_alloc | apply pw_below_drewN | apply below_drew1) | exact HB.out)) hb); clear HO_4; clear HB; have HO_4 := n0_; have HO192 := n1_; have HB := n2_; clear n0_ n1_ n2_; clear hb ho14))
          go_loopg [2, 3, 11] kj5 (fun kq v2 v3 v11 w' => ∃ (x2_2 : Int) (x3_2 : Int) (x11_2 : List Bool), v2 = .int .i64 x2_2 ∧ v3 = .int .i64 x3_2 ∧ Aside0 (parchmentref08_Consistent.l0 kq a0 a1 x2_2 x3_2 l4 x11_2 = some r) ∧ Aside0 (kq ≤ kj5) ∧ Aside0 (Kd.V Kd.string 9 w' w.heap.size (fun k_ => (P4_ k_ ∨ w.heap.size ≤ k_) ∧ some k_ ≠ (v11 : Value).ownBlock) (.slice A4 l4.length c4) l4) ∧ Aside0 (Kd.R Kd.bool 4 w' w.heap.size (fun k_ => (w.heap.size ≤ k_)) v11 x11_2) ∧ Aside0 (Below w.heap.size w w'))
          case atStart => exact ⟨(a2), (a3), (y190), (by first | rfl | (simp; done) | (simp [*]; done)), (by first | rfl | (simp; done) | (simp [*]; done)), H', ⟨Nat.le_refl _⟩, ⟨by (with_reducible repeat (first | apply Kd.V_alloc | apply Kd.V_drewN | apply Kd.V_drew)); exact HO_4.out⟩, ⟨by (with_reducible repeat (first | apply Kd.R_alloc | apply Kd.R_drewN | apply Kd.R_drew)); exact Kd.R_mono HO192.out (fun _ hk => hk.1)⟩, ⟨by repeat (first | (with_reducible first | exact HB.out | apply below_alloc | apply pw_below_drewN | apply below_drew1) | exact HB.out)⟩⟩
          case round =>
            clear H'
            try clear c1
            try clear c2
            try clear p2
            try clear c4
            try clear c7
            try clear c7b0
            try clear c8
            try clear c8b0
            try clear c9
            try clear c9b0
            try clear c10
            try clear c10b0
            try clear c10b1
            try clear c11
            try clear c12
            try clear c12b0
            try clear c12b1
            try clear p2
            obtain ⟨x2_2, x3_2, x11_2, rfl, rfl, HA, HK2, HO_4, HO_11, HB⟩ := hrel
            cases gk with
            | zero => exact absurd HA.out (by simp [parchmentref08_Consistent.l0])
            | succ k2 =>
              have H := HA.out
              clear HA
              simp only [parchmentref08_Consistent.l0] at H
              by_cases c15 : x2_2 < x3_2
              · rw [if_pos c15] at H
                have c15b0 : decide (x2_2 < x3_2) = true := decide_eq_true c15
                clear c15
                replace H := Option.bind_eq_some_iff.mp H
                obtain ⟨t193, A160, H⟩ := H
                replace H : (if x2_2 ≤ t193 then (if x11_2.length < 140737488355328 then (parchmentref08_Consistent.l0 k2 a0 a1 x2_2 t193 l4 (x11_2 ++ [false])) else (none)) else (if x11_2.length < 140737488355328 then (parchmentref08_Consistent.l0 k2 a0 a1 (wrap64 (x2_2 - t193)) (wrap64 (x3_2 - t193)) l4 (x11_2 ++ [true])) else (none))) = some r := H
                have A16 := Aside0.mk A160
                clear A160
                by_cases c17 : x2_2 ≤ t193
                · rw [if_pos c17] at H
                  have c17b0 : decide (x2_2 ≤ t193) = true := decide_eq_true c17
                  clear c17
                  by_cases c18 : x11_2.length < 140737488355328
                  · rw [if_pos c18] at H
                    have LMc18 := Aside0.mk c18
                    clear c18
                    obtain ⟨y194, hy194⟩ : ∃ y_ : List Bool, y_ = (x11_2 ++ [false]) := ⟨_, rfl⟩
                    replace H : (parchmentref08_Consistent.l0 k2 a0 a1 x2_2 t193 l4 y194) = some r := by first | (rw [hy194]; with_reducible exact H) | (have H2_ := (Option.bind_some _ _).symm.trans H; rw [hy194]; with_reducible exact H2_) | (have H2_ := (Option.bind_some _ _).symm.trans H; with_reducible exact H2_) | with_reducible exact H | (rw [hy194]; exact H) | exact H
                    have Ny194 := Aside0.mk hy194
                    clear hy194
                    have H' := Aside0.mk H
                    clear H
                    go_wp2_with (first | ((with_reducible refine gate_callee (f := 28) rfl ?_); refine goesL_ (some 48) rfl rfl Try.func28 (by kernel_rfl) rfl #[.int .i64 x3_2] rfl (by (try simp only [List.map_toArray, List.map_cons, List.map_nil]); first | done | rfl | (simp only [List.length_drop, List.length_take]; rfl)) ?_; (with_reducible refine (parchmentref08_half.calls k2 x3_2 t193 _ A16.out).mono ?_); rintro e w' ⟨rfl, ⟨nd, rfl⟩⟩; refine ⟨_, rfl, ?_⟩) | ((with_reducible refine gate_builtin (b := .append) (xs := #[.tmp 52, .tmp 53]) rfl ?_); (try (refine gate_guard (by rfl) ?_; dsimp only)); at_builtin; refine Kd.R_append Kd.bool (w0 := w) w.heap.size rfl (.tmp 52) (.tmp 53) 49 4 (.bool false) 1 rfl Try.underlying49 info4 rfl (by decide) (by omega) u11 x11_2 false [.bool false] (fun k_ => (w.heap.size ≤ k_)) (fun _ => False) rfl rfl ?aP (fun _ hk => hk.elim) ?aF ?aO ?aB ?aS ?aL ?_; (case aP => exact rfl); (case aB => exact (by repeat (first | (with_reducible first | exact HB.out | apply below_alloc | apply pw_below_drewN | apply below_drew1) | exact HB.out))); (case aF => exact (fun k_ hk => (Nat.le_trans (below_size (by repeat (first | (with_reducible first | exact HB.out | apply below_alloc | apply pw_below_drewN | apply below_drew1) | exact HB.out))) hk))); (case aO => exact (by (with_reducible repeat (first | apply Kd.R_alloc | apply Kd.R_drewN | apply Kd.R_drew)); exact HO_11.out)); (case aS => exact (below_size (by repeat (first | (with_reducible first | exact HB.out | apply below_alloc | apply pw_below_drewN | apply below_drew1) | exact HB.out)))); (case aL => have := LMc18.out; omega); intro v195 w19 ho hb hg hat; rw [← Ny194.out] at ho; have n0_ := Aside0.mk (Kd.V_afterv (ok := (fun k_ => (P4_ k_ ∨ w.heap.size ≤ k_))) (by (with_reducible repeat (first | apply Kd.V_alloc | apply Kd.V_drewN | apply Kd.V_drew)); exact HO_4.out) hg hat); have n1_ := Aside0.mk (hb); have n2_ := Aside0.mk (ho); clear HO_4; clear HB; clear HO_11; have HO_4 := n0_; have HB := n1_; have HO196 := n2_; clear n0_ n1_ n2_; clear ho hb hg hat))
                    go_roundg k2
                    case measure => have := HJ5.out; have := HK2.out; omega
                    case rel => exact ⟨(x2_2), (t193), (y194), (by first | rfl | (simp; done) | (simp [*]; done)), (by first | rfl | (simp; done) | (simp [*]; done)), H', ⟨by have := HJ5.out; have := HK2.out; omega⟩, ⟨by (with_reducible repeat (first | apply Kd.V_alloc | apply Kd.V_drewN | apply Kd.V_drew)); exact HO_4.out⟩, ⟨by (with_reducible repeat (first | apply Kd.R_alloc | apply Kd.R_drewN | apply Kd.R_drew)); exact HO196.out⟩, ⟨by repeat (first | (with_reducible first | exact HB.out | apply below_alloc | apply pw_below_drewN | apply below_drew1) | exact HB.out)⟩⟩
                  · rw [if_neg c18] at H
                    exact absurd H (by simp)
                · rw [if_neg c17] at H
                  have c17b0 : decide (x2_2 ≤ t193) = false := decide_eq_false c17
                  clear c17
                  by_cases c20 : x11_2.length < 140737488355328
                  · rw [if_pos c20] at H
                    have LMc20 := Aside0.mk c20
                    clear c20
                    obtain ⟨y197, hy197⟩ : ∃ y_ : List Bool, y_ = (x11_2 ++ [true]) := ⟨_, rfl⟩
                    replace H : (parchmentref08_Consistent.l0 k2 a0 a1 (wrap64 (x2_2 - t193)) (wrap64 (x3_2 - t193)) l4 y197) = some r := by first | (rw [hy197]; with_reducible exact H) | (have H2_ := (Option.bind_some _ _).symm.trans H; rw [hy197]; with_reducible exact H2_) | (have H2_ := (Option.bind_some _ _).symm.trans H; with_reducible exact H2_) | with_reducible exact H | (rw [hy197]; exact H) | exact H
                    have Ny197 := Aside0.mk hy197
                    clear hy197
                    have H' := Aside0.mk H
                    clear H
                    go_wp2_with (first | ((with_reducible refine gate_callee (f := 28) rfl ?_); refine goesL_ (some 48) rfl rfl Try.func28 (by kernel_rfl) rfl #[.int .i64 x3_2] rfl (by (try simp only [List.map_toArray, List.map_cons, List.map_nil]); first | done | rfl | (simp only [List.length_drop, List.length_take]; rfl)) ?_; (with_reducible refine (parchmentref08_half.calls k2 x3_2 t193 _ A16.out).mono ?_); rintro e w' ⟨rfl, ⟨nd, rfl⟩⟩; refine ⟨_, rfl, ?_⟩) | ((with_reducible refine gate_builtin (b := .append) (xs := #[.tmp 56, .tmp 57]) rfl ?_); (try (refine gate_guard (by rfl) ?_; dsimp only)); at_builtin; refine Kd.R_append Kd.bool (w0 := w) w.heap.size rfl (.tmp 56) (.tmp 57) 49 4 (.bool false) 1 rfl Try.underlying49 info4 rfl (by decide) (by omega) u11 x11_2 true [.bool true] (fun k_ => (w.heap.size ≤ k_)) (fun _ => False) rfl rfl ?aP (fun _ hk => hk.elim) ?aF ?aO ?aB ?aS ?aL ?_; (case aP => exact rfl); (case aB => exact (by repeat (first | (with_reducible first | exact HB.out | apply below_alloc | apply pw_below_drewN | apply below_drew1) | exact HB.out))); (case aF => exact (fun k_ hk => (Nat.le_trans (below_size (by repeat (first | (with_reducible first | exact HB.out | apply below_alloc | apply pw_below_drewN | apply below_drew1) | exact HB.out))) hk))); (case aO => exact (by (with_reducible repeat (first | apply Kd.R_alloc | apply Kd.R_drewN | apply Kd.R_drew)); exact HO_11.out)); (case aS => exact (below_size (by repeat (first | (with_reducible first | exact HB.out | apply below_alloc | apply pw_below_drewN | apply below_drew1) | exact HB.out)))); (case aL => have := LMc20.out; omega); intro v198 w21 ho hb hg hat; rw [← Ny197.out] at ho; have n0_ := Aside0.mk (Kd.V_afterv (ok := (fun k_ => (P4_ k_ ∨ w.heap.size ≤ k_))) (by (with_reducible repeat (first | apply Kd.V_alloc | apply Kd.V_drewN | apply Kd.V_drew)); exact HO_4.out) hg hat); have n1_ := Aside0.mk (hb); have n2_ := Aside0.mk (ho); clear HO_4; clear HB; clear HO_11; have HO_4 := n0_; have HB := n1_; have HO199 := n2_; clear n0_ n1_ n2_; clear ho hb hg hat))
                    go_roundg k2
                    case measure => have := HJ5.out; have := HK2.out; omega
                    case rel => exact ⟨(wrap64 (x2_2 - t193)), (wrap64 (x3_2 - t193)), (y197), (by first | rfl | (simp; done) | (simp [*]; done)), (by first | rfl | (simp; done) | (simp [*]; done)), H', ⟨by have := HJ5.out; have := HK2.out; omega⟩, ⟨by (with_reducible repeat (first | apply Kd.V_alloc | apply Kd.V_drewN | apply Kd.V_drew)); exact HO_4.out⟩, ⟨by (with_reducible repeat (first | apply Kd.R_alloc | apply Kd.R_drewN | apply Kd.R_drew)); exact HO199.out⟩, ⟨by repeat (first | (with_reducible first | exact HB.out | apply below_alloc | apply pw_below_drewN | apply below_drew1) | exact HB.out)⟩⟩
                  · rw [if_neg c20] at H
                    exact absurd H (by simp)
              · rw [if_neg c15] at H
                have c15b0 : decide (x2_2 < x3_2) = false := decide_eq_false c15
                clear c15
                have H' := Aside0.mk H
                clear H
                go_wp2
                go_loopg [13, 14] k2 (fun kq v13 v14 w' => ∃ (x13_3 : Bool) (x14_3 : Int), v13 = .bool x13_3 ∧ v14 = .int .i64 x14_3 ∧ Aside0 (parchmentref08_Consistent.l1 kq a0 a1 l4 x11_2 x13_3 x14_3 = some r) ∧ Aside0 (kq ≤ k2) ∧ Aside0 (Kd.V Kd.string 9 w' w.heap.size (fun k_ => (P4_ k_ ∨ w.heap.size ≤ k_) ∧ some k_ ≠ (u11 : Value).ownBlock) (.slice A4 l4.length c4) l4) ∧ Aside0 (Kd.R Kd.bool 4 w' w.heap.size (fun k_ => (w.heap.size ≤ k_)) u11 x11_2) ∧ Aside0 (Below w.heap.size w w'))
                case atStart => exact ⟨(false), (0), (by first | rfl | (simp; done) | (simp [*]; done)), (by first | rfl | (simp; done) | (simp [*]; done)), H', ⟨Nat.le_refl _⟩, ⟨by (with_reducible repeat (first | apply Kd.V_alloc | apply Kd.V_drewN | apply Kd.V_drew)); exact HO_4.out⟩, ⟨by (with_reducible repeat (first | apply Kd.R_alloc | apply Kd.R_drewN | apply Kd.R_drew)); exact HO_11.out⟩, ⟨by repeat (first | (with_reducible first | exact HB.out | apply below_alloc | apply pw_below_drewN | apply below_drew1) | exact HB.out)⟩⟩
                case round =>
                  clear H'
                  try clear c1
                  try clear c2
                  try clear p2
                  try clear c4
                  try clear p6
                  try clear c7
                  try clear c7b0
                  try clear c8
                  try clear c8b0
                  try clear c9
                  try clear c9b0
                  try clear c10
                  try clear c10b0
                  try clear c10b1
                  try clear c11
                  try clear c12
                  try clear c12b0
                  try clear c12b1
                  try clear c15
                  try clear c15b0
                  try clear c17
                  try clear c17b0
                  try clear c18
                  try clear c20
                  try clear p2
                  obtain ⟨x13_3, x14_3, rfl, rfl, HA, HK3, HO_4, HO_11, HB⟩ := hrel
                  cases gk with
                  | zero => exact absurd HA.out (by simp [parchmentref08_Consistent.l1])
                  | succ k3 =>
                    have H := HA.out
                    clear HA
                    simp only [parchmentref08_Consistent.l1] at H
                    by_cases c22 : x14_3 < (x11_2.length : Int)
                    · rw [if_pos c22] at H
                      have c22b0 : decide (x14_3 < (x11_2.length : Int)) = true := decide_eq_true c22
                      clear c22
                      by_cases c23 : x13_3 = true
                      · subst c23
                        have H1 : (parchmentref08_Consistent.l1 k3 a0 a1 l4 x11_2 true (wrap64 (x14_3 + 1))) = some r := by rw [if_pos rfl] at H; exact H
                        clear H
                        have H := H1
                        clear H1
                        have H' := Aside0.mk H
                        clear H
                        obtain ⟨Ao24, co24, eo24⟩ := Kd.R_slice HO_11.out
                        subst eo24
                        go_wp2
                        go_roundg k3
                        case measure => have := HJ5.out; have := HK2.out; have := HK3.out; omega
                        case rel => exact ⟨(true), (wrap64 (x14_3 + 1)), (by first | rfl | (simp; done) | (simp [*]; done)), (by first | rfl | (simp; done) | (simp [*]; done)), H', ⟨by have := HJ5.out; have := HK2.out; have := HK3.out; omega⟩, ⟨by (with_reducible repeat (first | apply Kd.V_alloc | apply Kd.V_drewN | apply Kd.V_drew)); exact HO_4.out⟩, ⟨by (with_reducible repeat (first | apply Kd.R_alloc | apply Kd.R_drewN | apply Kd.R_drew)); exact HO_11.out⟩, ⟨by repeat (first | (with_reducible first | exact HB.out | apply below_alloc | apply pw_below_drewN | apply below_drew1) | exact HB.out)⟩⟩
                      · replace c23 := Bool.eq_false_iff.mpr c23
                        subst c23
                        have H1 : (if 0 ≤ x14_3 then (parchmentref08_Consistent.l1 k3 a0 a1 l4 x11_2 (rdOf false x11_2 x14_3) (wrap64 (x14_3 + 1))) else (none)) = some r := by rw [if_neg (show ¬ (false = true) by decide)] at H; exact H
                        clear H
                        have H := H1
                        clear H1
                        by_cases c25 : 0 ≤ x14_3
                        · rw [if_pos c25] at H
                          have c25b0 : decide (0 ≤ x14_3) = true := decide_eq_true c25
                          clear c25
                          have H' := Aside0.mk H
                          clear H
                          obtain ⟨Ao26, co26, eo26⟩ := Kd.R_slice HO_11.out
                          subst eo26
                          have p200 : 0 ≤ (x14_3 : Int) := of_decide_eq_true (by first | (with_reducible assumption) | assumption)
                          have q200 : x14_3 < (x11_2.length : Int) := of_decide_eq_true (by first | (with_reducible assumption) | assumption)
                          obtain ⟨ad200, e200, hx200_0⟩ := Kd.at_bool (Kd.R_reads' HO_11.out).2.2 x14_3 p200 q200
                          cases e200
                          replace p200 := eq_true p200
                          replace q200 := eq_true q200
                          go_wp2
                          go_roundg k3
                          case measure => have := HJ5.out; have := HK2.out; have := HK3.out; omega
                          case rel => exact ⟨(rdOf false x11_2 x14_3), (wrap64 (x14_3 + 1)), (by first | rfl | (simp; done) | (simp [*]; done)), (by first | rfl | (simp; done) | (simp [*]; done)), H', ⟨by have := HJ5.out; have := HK2.out; have := HK3.out; omega⟩, ⟨by (with_reducible repeat (first | apply Kd.V_alloc | apply Kd.V_drewN | apply Kd.V_drew)); exact HO_4.out⟩, ⟨by (with_reducible repeat (first | apply Kd.R_alloc | apply Kd.R_drewN | apply Kd.R_drew)); exact HO_11.out⟩, ⟨by repeat (first | (with_reducible first | exact HB.out | apply below_alloc | apply pw_below_drewN | apply below_drew1) | exact HB.out)⟩⟩
                        · rw [if_neg c25] at H
                          exact absurd H (by simp)
                    · rw [if_neg c22] at H
                      have c22b0 : decide (x14_3 < (x11_2.length : Int)) = false := decide_eq_false c22
                      clear c22
                      have HC27 := Aside0.mk H
                      clear H
                      obtain ⟨Ao28, co28, eo28⟩ := Kd.R_slice HO_11.out
                      subst eo28
                      go_upto_if 80 with (fail)
                      go_cut [15, 16] (fun v15 v16 wc => ∃ (kq : Nat) (x15_26 : ByteArray) (x16_26 : List ByteArray), v15 = .string x15_26 ∧ Aside0 (parchmentref08_Consistent.j3 kq a0 a1 x11_2 x15_26 x16_26 = some r) ∧ Aside0 (kq ≤ k3) ∧ Aside0 (Kd.R Kd.bool 4 wc w.heap.size (fun k_ => (w.heap.size ≤ k_)) (.slice Ao28 x11_2.length co28) x11_2) ∧ Aside0 (Kd.V Kd.string 9 wc w.heap.size (fun k_ => (P4_ k_ ∨ w.heap.size ≤ k_) ∧ some k_ ≠ ((.slice Ao28 x11_2.length co28) : Value).ownBlock) v16 x16_26) ∧ Aside0 (Below w.heap.size w wc))
                      case first =>
                        have H := HC27.out
                        clear HC27
                        by_cases c29 : x13_3 = true
                        · subst c29
                          have H1 : (if (l4.length : Int) = 0 then (some 80) else (if 0 < (l4.length : Int) then (if ((rdOf ByteArray.empty l4 0).size : Int) = 32 then (if 1 ≤ (l4.length : Int) then (parchmentref08_Consistent.j3 k3 a0 a1 x11_2 (rdOf ByteArray.empty l4 0) (l4.drop 1)) else (none)) else (some 80)) else (none))) = some r := by rw [if_pos rfl] at H; exact H
                          clear H
                          have H := H1
                          clear H1
                          by_cases c30 : (l4.length : Int) = 0
                          · rw [if_pos c30] at H
                            have c30b0 : ((l4.length : Int) == 0) = true := beq_iff_eq.mpr c30
                            have c30b1 : ((l4.length : Int) != 0) = false := bne_eq_false_iff_eq.mpr c30
                            clear c30
                            (first | rw [c30b0] | (simp only [i64_w, i32_w]; rw [c30b0]) | skip)
                            obtain rfl := Option.some.inj H
                            go_wp2
                            go_ret
                            exact ⟨by first | rfl | (simp [errW_none, errW_some] <;> rfl) | (simp [*, errW_none, errW_some] <;> rfl), by repeat (first | (with_reducible first | exact HB.out | apply below_alloc | apply pw_below_drewN | apply below_drew1) | exact HB.out)⟩
                          · rw [if_neg c30] at H
                            have c30b0 : ((l4.length : Int) == 0) = false := beq_eq_false_iff_ne.mpr c30
                            have c30b1 : ((l4.length : Int) != 0) = true := bne_iff_ne.mpr c30
                            have c30b2 : ¬ (l4 = []) := fun h_ => c30 (by rw [h_]; rfl)
                            (first | rw [c30b0] | (simp only [i64_w, i32_w]; rw [c30b0]) | skip)
                            by_cases c31 : 0 < (l4.length : Int)
                            · rw [if_pos c31] at H
                              have c31b0 : decide (0 < (l4.length : Int)) = true := decide_eq_true c31
                              have c31b1 : decide (0 < l4.length) = true := decide_eq_true (by omega)
                              clear c31
                              by_cases c32 : ((rdOf ByteArray.empty l4 0).size : Int) = 32
                              · rw [if_pos c32] at H
                                have c32b0 : (((rdOf ByteArray.empty l4 0).size : Int) == 32) = true := beq_iff_eq.mpr c32
                                have c32b1 : (((rdOf ByteArray.empty l4 0).size : Int) != 32) = false := bne_eq_false_iff_eq.mpr c32
                                clear c32
                                by_cases c33 : 1 ≤ (l4.length : Int)
                                · rw [if_pos c33] at H
                                  have c33b0 := eq_true c33
                                  have c33b1 : decide (1 ≤ (l4.length : Int)) = true := decide_eq_true c33
                                  clear c33
                                  obtain ⟨y203, hy203⟩ : ∃ y_ : List ByteArray, y_ = (l4.drop 1) := ⟨_, rfl⟩
                                  replace H : (parchmentref08_Consistent.j3 k3 a0 a1 x11_2 (rdOf ByteArray.empty l4 0) y203) = some r := by first | (rw [hy203]; with_reducible exact H) | (have H2_ := (Option.bind_some _ _).symm.trans H; rw [hy203]; with_reducible exact H2_) | (have H2_ := (Option.bind_some _ _).symm.trans H; with_reducible exact H2_) | with_reducible exact H | (rw [hy203]; exact H) | exact H
                                  have Ny203 := Aside0.mk hy203
                                  clear hy203
                                  have H' := Aside0.mk H
                                  clear H
                                  have p201 : 0 ≤ (0 : Int) := (by omega)
                                  have q201 : 0 < (l4.length : Int) := of_decide_eq_true (by first | (with_reducible assumption) | assumption)
                                  obtain ⟨ad201, e201, hx201_0⟩ := Kd.at_string (Kd.V_reads' HO_4.out).2.2 0 p201 q201
                                  cases e201
                                  have qi201 : (0 < l4.length) = True := eq_true (by omega)
                                  (try rw [show ((0 : Int)).toNat = 0 from rfl] at hx201_0)
                                  (try rw [Addr.add_zero'] at hx201_0)
                                  replace p201 := eq_true p201
                                  replace q201 := eq_true q201
                                  try go_wp2
                                  have n0_ := Aside0.mk (Kd.V_drew HO_4.out)
                                  have n1_ := Aside0.mk (Kd.R_drew HO_11.out)
                                  have n2_ := Aside0.mk (below_drew1 HB.out)
                                  clear HO_4
                                  clear HO_11
                                  clear HB
                                  have HO_4 := n0_
                                  have HO_11 := n1_
                                  have HB := n2_
                                  clear n0_ n1_ n2_
                                  have p202 : 0 ≤ (0 : Int) := (by omega)
                                  have q202 : 0 < (l4.length : Int) := of_decide_eq_true (by first | (with_reducible assumption) | assumption)
                                  obtain ⟨ad202, e202, hx202_0⟩ := Kd.at_string (Kd.V_reads' HO_4.out).2.2 0 p202 q202
                                  obtain rfl : ad201 = ad202 := (by injection e202)
                                  have qi202 : (0 < l4.length) = True := eq_true (by omega)
                                  (try rw [show ((0 : Int)).toNat = 0 from rfl] at hx202_0)
                                  (try rw [Addr.add_zero'] at hx202_0)
                                  replace p202 := eq_true p202
                                  replace q202 := eq_true q202
                                  have q35 : (1 : Int) ≤ ((l4.length : Int) : Int) := of_decide_eq_true (by first | (with_reducible assumption) | assumption)
                                  obtain ⟨i035, hi035, _, hsz35, _⟩ := info_parts info9
                                  have hroom35 : l4.length ≤ c4 := (Kd.V_reads' HO_4.out).2.1
                                  have hC35 : Kd.F Kd.string _ _ (some ad201) l4.length l4 := (Kd.V_at (base := w.heap.size) HO_4.out).2.2
                                  have hcut35 := cut_from (P := Try.prog) 22 9 .i64 Try.underlying22 hi035 1 hsz35 (some ad201) l4.length c4 1 (by omega) q35
                                  have hr35 := Kd.F_cut (m := (1 : Int).toNat) (c := c4) hC35 (by omega) hroom35
                                  obtain ⟨A35, hA35⟩ : ∃ A1, A1 = (if c4 = (1 : Int).toNat then (some ad201) else ((some ad201) : Option Addr).map (·.add ((1 : Int).toNat * 1))) := ⟨_, rfl⟩
                                  obtain ⟨c35, hc35⟩ : ∃ c1, c1 = c4 - (1 : Int).toNat := ⟨_, rfl⟩
                                  have hy35 : y203.length = l4.length - (1 : Int).toNat := (by rw [Ny203.out, List.length_drop] <;> omega)
                                  rw [show (l4).drop (1 : Int).toNat = y203 from Ny203.out.symm] at hr35
                                  replace hr35 : Kd.F Kd.string _ _ A35 y203.length y203 := (by rw [hA35]; exact hr35)
                                  rw [← hy35, ← hA35, ← hc35] at hcut35
                                  have HO207 := Aside0.mk (show Kd.V Kd.string 9 _ w.heap.size _ (.slice A35 y203.length c35) y203 from Kd.V_mk (by rw [hy35, hc35]; exact Nat.sub_le_sub_right hroom35 _) hr35)
                                  have HC207 := Aside0.mk (show y203.length ≤ c35 from by rw [hy35, hc35]; exact Nat.sub_le_sub_right hroom35 _)
                                  clear hr35 hC35 hroom35 hi035 hsz35 hc35
                                  have KY35 := Aside0.mk hy35
                                  have KA35 := Aside0.mk hA35
                                  clear hy35 hA35
                                  replace q35 := eq_true q35
                                  refine start_ (n := 7) (S := fun w' => w'.cell? ad201 = some (.string (rdOf ByteArray.empty l4 0))) (ds := []) #[false, false, false, false, false, false, false] (by kernel_rfl) rfl rfl (hx202_0) (fun hHeld => ?_)
                                  generalize wr.drew = w34 at HO_4 HO_11 HB HO207 hx202_0 hHeld ⊢
                                  refine pure_ (i := 0) (N := some 91) (v := ?_) (a' := ?_) #[true, false, false, false, false, false, false] rfl rfl (by kernel_rfl) (fun _ _ _ h => h) (Or.inl ⟨by rfl, ?_⟩) ?_ ?_
                                  rotate_left
                                  · intro w'
                                    go_simp
                                    with_reducible rfl
                                  rotate_left
                                  · simp only [Act.put, List.setIfInBounds_toArray, List.set_cons_zero, List.set_cons_succ, i64_w, i32_w]
                                    rfl
                                  refine pure_ (i := 1) (N := some 92) (v := ?_) (a' := ?_) #[true, true, false, false, false, false, false] rfl rfl (by kernel_rfl) (fun _ _ _ h => h) (Or.inl ⟨by rfl, ?_⟩) ?_ ?_
                                  rotate_left
                                  · intro w'
                                    go_simp
                                    with_reducible rfl
                                  rotate_left
                                  · simp only [Act.put, List.setIfInBounds_toArray, List.set_cons_zero, List.set_cons_succ, i64_w, i32_w]
                                    rfl
                                  refine pure_ (i := 3) (N := some 94) (v := ?_) (a' := ?_) #[true, true, false, true, false, false, false] rfl rfl (by kernel_rfl) (fun _ _ _ h => h) (Or.inl ⟨by rfl, ?_⟩) ?_ ?_
                                  rotate_left
                                  · intro w'
                                    go_simp
                                    with_reducible rfl
                                  rotate_left
                                  · simp only [Act.put, List.setIfInBounds_toArray, List.set_cons_zero, List.set_cons_succ, i64_w, i32_w]
                                    rfl
                                  refine pure_ (i := 4) (N := some 95) (v := ?_) (a' := ?_) #[true, true, false, true, true, false, false] rfl rfl (by kernel_rfl) (fun _ _ _ h => h) (Or.inl ⟨by rfl, ?_⟩) ?_ ?_
                                  rotate_left
                                  · intro w'
                                    go_simp
                                    with_reducible rfl
                                  rotate_left
                                  · simp only [Act.put, List.setIfInBounds_toArray, List.set_cons_zero, List.set_cons_succ, i64_w, i32_w]
                                    rfl
                                  refine take_ (i := 2) (N := some 93) (v := ?_) (a' := ?_) #[true, true, true, true, true, false, false] rfl rfl (by kernel_rfl) (fun _ _ _ h => h) (Or.inl ⟨by rfl, ?_⟩) hHeld ?_ ?_
                                  rotate_left
                                  · intro w' s0
                                    go_simp
                                    with_reducible rfl
                                  rotate_left
                                  · simp only [Act.put, List.setIfInBounds_toArray, List.set_cons_zero, List.set_cons_succ, i64_w, i32_w]
                                    rfl
                                  refine pure_ (i := 5) (N := some 15) (v := ?_) (a' := ?_) #[true, true, true, true, true, true, false] rfl rfl (by kernel_rfl) (fun _ _ _ h => h) (Or.inl ⟨by rfl, ?_⟩) ?_ ?_
                                  rotate_left
                                  · intro w'
                                    go_simp
                                    with_reducible rfl
                                  rotate_left
                                  · simp only [Act.put, List.setIfInBounds_toArray, List.set_cons_zero, List.set_cons_succ, i64_w, i32_w]
                                    rfl
                                  refine pure_ (i := 6) (N := some 16) (v := ?_) (a' := ?_) #[true, true, true, true, true, true, true] rfl rfl (by kernel_rfl) (fun _ _ _ h => h) (Or.inl ⟨by rfl, ?_⟩) ?_ ?_
                                  rotate_left
                                  · intro w'
                                    go_simp
                                    with_reducible rfl
                                  rotate_left
                                  · simp only [Act.put, List.setIfInBounds_toArray, List.set_cons_zero, List.set_cons_succ, i64_w, i32_w]
                                    rfl
                                  refine done_ (by kernel_rfl) ?_
                                  try go_wp2
                                  go_meet
                                  case rel => exact ⟨_, (rdOf ByteArray.empty l4 0), (y203), (by first | rfl | (simp; done) | (simp [*]; done)), H', ⟨by have := HJ5.out; have := HK2.out; have := HK3.out; first | omega | exact Nat.le_refl _⟩, ⟨by (with_reducible repeat (first | apply Kd.R_alloc | apply Kd.R_drewN | apply Kd.R_drew)); exact HO_11.out⟩, ⟨by (with_reducible repeat (first | apply Kd.V_alloc | apply Kd.V_drewN | apply Kd.V_drew)); exact HO207.out⟩, ⟨by repeat (first | (with_reducible first | exact HB.out | apply below_alloc | apply pw_below_drewN | apply below_drew1) | exact HB.out)⟩⟩
                                · rw [if_neg c33] at H
                                  exact absurd H (by simp)
                              · rw [if_neg c32] at H
                                have c32b0 : (((rdOf ByteArray.empty l4 0).size : Int) == 32) = false := beq_eq_false_iff_ne.mpr c32
                                have c32b1 : (((rdOf ByteArray.empty l4 0).size : Int) != 32) = true := bne_iff_ne.mpr c32
                                obtain rfl := Option.some.inj H
                                have p201 : 0 ≤ (0 : Int) := (by omega)
                                have q201 : 0 < (l4.length : Int) := of_decide_eq_true (by first | (with_reducible assumption) | assumption)
                                obtain ⟨ad201, e201, hx201_0⟩ := Kd.at_string (Kd.V_reads' HO_4.out).2.2 0 p201 q201
                                cases e201
                                have qi201 : (0 < l4.length) = True := eq_true (by omega)
                                (try rw [show ((0 : Int)).toNat = 0 from rfl] at hx201_0)
                                (try rw [Addr.add_zero'] at hx201_0)
                                replace p201 := eq_true p201
                                replace q201 := eq_true q201
                                go_wp2
                                go_ret
                                exact ⟨by first | rfl | (simp [errW_none, errW_some] <;> rfl) | (simp [*, errW_none, errW_some] <;> rfl), by repeat (first | (with_reducible first | exact HB.out | apply below_alloc | apply pw_below_drewN | apply below_drew1) | exact HB.out)⟩
                            · rw [if_neg c31] at H
                              exact absurd H (by simp)
                        · replace c29 := Bool.eq_false_iff.mpr c29
                          subst c29
                          have H1 : (parchmentref08_Consistent.j3 k3 a0 a1 x11_2 a0 l4) = some r := by rw [if_neg (show ¬ (false = true) by decide)] at H; exact H
                          clear H
                          have H := H1
                          clear H1
                          have H' := Aside0.mk H
                          clear H
                          go_wp2
                          go_meet
                          case rel => exact ⟨_, (a0), (l4), (by first | rfl | (simp; done) | (simp [*]; done)), H', ⟨by have := HJ5.out; have := HK2.out; have := HK3.out; first | omega | exact Nat.le_refl _⟩, ⟨by (with_reducible repeat (first | apply Kd.R_alloc | apply Kd.R_drewN | apply Kd.R_drew)); exact HO_11.out⟩, ⟨by (with_reducible repeat (first | apply Kd.V_alloc | apply Kd.V_drewN | apply Kd.V_drew)); exact HO_4.out⟩, ⟨by repeat (first | (with_reducible first | exact HB.out | apply below_alloc | apply pw_below_drewN | apply below_drew1) | exact HB.out)⟩⟩
                      case rest =>
                        clear HC27
                        try clear c1
                        try clear c2
                        try clear p2
                        try clear q2
                        try clear hx2
                        try clear qi2
                        try clear c3
                        try clear q3
                        try clear c4
                        try clear p6
                        try clear c7
                        try clear c7b0
                        try clear c8
                        try clear c8b0
                        try clear c9
                        try clear c9b0
                        try clear c10
                        try clear c10b0
                        try clear c10b1
                        try clear c11
                        try clear c12
                        try clear c12b0
                        try clear c12b1
                        try clear c15
                        try clear c15b0
                        try clear c17
                        try clear c17b0
                        try clear c18
                        try clear c20
                        try clear p20
                        try clear q20
                        try clear hx20
                        try clear qi20
                        try clear c22
                        try clear c22b0
                        try clear c23
                        try clear c24
                        try clear c25
                        try clear c25b0
                        try clear c28
                        try clear c29
                        try clear c30
                        try clear c30b0
                        try clear c30b1
                        try clear c30b2
                        try clear c31
                        try clear c31b0
                        try clear c31b1
                        try clear c32
                        try clear c32b0
                        try clear c32b1
                        try clear c33
                        try clear c33b0
                        try clear c33b1
                        try clear c35
                        try clear q35
                        try clear hx200_0
                        try clear hx201_0
                        try clear hx202_0
                        try clear p2
                        try clear p200
                        try clear p201
                        try clear p202
                        try clear p6
                        try clear q200
                        try clear q201
                        try clear q202
                        try clear q35
                        obtain ⟨kq, x15_26, x16_26, rfl, HA, HJ26, HO_11, HO_16, HB⟩ := hcut
                        cases kq with
                        | zero => exact absurd HA.out (by simp [parchmentref08_Consistent.j3])
                        | succ kj26 =>
                          have H := HA.out
                          clear HA
                          simp only [parchmentref08_Consistent.j3] at H
                          by_cases c36 : (x16_26.length : Int) = (x11_2.length : Int)
                          · rw [if_pos c36] at H
                            have c36b0 : ((x16_26.length : Int) == (x11_2.length : Int)) = true := beq_iff_eq.mpr c36
                            have c36b1 : ((x16_26.length : Int) != (x11_2.length : Int)) = false := bne_eq_false_iff_eq.mpr c36
                            have c36b2 : (x16_26.length == x11_2.length) = true := by first | simpa using c36 | (simp at c36 ⊢; omega)
                            clear c36
                            have H' := Aside0.mk H
                            clear H
                            obtain ⟨Ao37, co37, eo37⟩ := Kd.V_slice HO_16.out
                            subst eo37
                            go_wp2
                            go_loopg [15, 17, 18] kj26 (fun kq v15 v17 v18 w' => ∃ (x15_5 : ByteArray) (x17_5 : ByteArray) (x18_5 : Int), v15 = .string x15_5 ∧ v17 = .string x17_5 ∧ v18 = .int .i64 x18_5 ∧ Aside0 (parchmentref08_Consistent.l2 kq a0 a1 x11_2 x15_5 x16_26 x17_5 x18_5 = some r) ∧ Aside0 (kq ≤ kj26) ∧ Aside0 (Kd.R Kd.bool 4 w' w.heap.size (fun k_ => (w.heap.size ≤ k_)) (.slice Ao28 x11_2.length co28) x11_2) ∧ Aside0 (Kd.V Kd.string 9 w' w.heap.size (fun k_ => (P4_ k_ ∨ w.heap.size ≤ k_) ∧ some k_ ≠ ((.slice Ao28 x11_2.length co28) : Value).ownBlock) (.slice Ao37 x16_26.length co37) x16_26) ∧ Aside0 (Below w.heap.size w w'))
                            case atStart => exact ⟨(x15_26), (x15_26), (0), (by first | rfl | (simp; done) | (simp [*]; done)), (by first | rfl | (simp; done) | (simp [*]; done)), (by first | rfl | (simp; done) | (simp [*]; done)), H', ⟨Nat.le_refl _⟩, ⟨by (with_reducible repeat (first | apply Kd.R_alloc | apply Kd.R_drewN | apply Kd.R_drew)); exact HO_11.out⟩, ⟨by (with_reducible repeat (first | apply Kd.V_alloc | apply Kd.V_drewN | apply Kd.V_drew)); exact HO_16.out⟩, ⟨by repeat (first | (with_reducible first | exact HB.out | apply below_alloc | apply pw_below_drewN | apply below_drew1) | exact HB.out)⟩⟩
                            case round =>
                              clear H'
                              try clear c1
                              try clear c2
                              try clear p2
                              try clear q2
                              try clear hx2
                              try clear qi2
                              try clear c3
                              try clear q3
                              try clear c4
                              try clear p6
                              try clear c7
                              try clear c7b0
                              try clear c8
                              try clear c8b0
                              try clear c9
                              try clear c9b0
                              try clear c10
                              try clear c10b0
                              try clear c10b1
                              try clear c11
                              try clear c12
                              try clear c12b0
                              try clear c12b1
                              try clear c15
                              try clear c15b0
                              try clear c17
                              try clear c17b0
                              try clear c18
                              try clear c20
                              try clear p20
                              try clear q20
                              try clear hx20
                              try clear qi20
                              try clear c22
                              try clear c22b0
                              try clear c23
                              try clear c24
                              try clear c25
                              try clear c25b0
                              try clear c28
                              try clear c29
                              try clear c30
                              try clear c30b0
                              try clear c30b1
                              try clear c30b2
                              try clear c31
                              try clear c31b0
                              try clear c31b1
                              try clear c32
                              try clear c32b0
                              try clear c32b1
                              try clear c33
                              try clear c33b0
                              try clear c33b1
                              try clear c35
                              try clear q35
                              try clear c36
                              try clear c36b0
                              try clear c36b1
                              try clear c36b2
                              try clear hx200_0
                              try clear hx201_0
                              try clear hx202_0
                              try clear p2
                              try clear p20
                              try clear p200
                              try clear p201
                              try clear p202
                              try clear p6
                              try clear q2
                              try clear q20
                              try clear q200
                              try clear q201
                              try clear q202
                              try clear q3
                              try clear q35
                              obtain ⟨x15_5, x17_5, x18_5, rfl, rfl, rfl, HA, HK5, HO_11, HO_16, HB⟩ := hrel
                              cases gk with
                              | zero => exact absurd HA.out (by simp [parchmentref08_Consistent.l2])
                              | succ k5 =>
                                have H := HA.out
                                clear HA
                                simp only [parchmentref08_Consistent.l2] at H
                                by_cases c38 : x18_5 < (x16_26.length : Int)
                                · rw [if_pos c38] at H
                                  have c38b0 : decide (x18_5 < (x16_26.length : Int)) = true := decide_eq_true c38
                                  clear c38
                                  by_cases c39 : 0 ≤ x18_5
                                  · rw [if_pos c39] at H
                                    have c39b0 : decide (0 ≤ x18_5) = true := decide_eq_true c39
                                    clear c39
                                    by_cases c40 : ((rdOf ByteArray.empty x16_26 x18_5).size : Int) = 32
                                    · rw [if_pos c40] at H
                                      have c40b0 : (((rdOf ByteArray.empty x16_26 x18_5).size : Int) == 32) = true := beq_iff_eq.mpr c40
                                      have c40b1 : (((rdOf ByteArray.empty x16_26 x18_5).size : Int) != 32) = false := bne_eq_false_iff_eq.mpr c40
                                      clear c40
                                      obtain ⟨ji41, hji41⟩ : ∃ j_ : Int, (wrap64 ((wrap64 ((x11_2.length : Int) - 1)) - x18_5)) = j_ := ⟨_, rfl⟩
                                      replace H : (if 0 ≤ (ji41) then (if (ji41) < (x11_2.length : Int) then (if rdOf false x11_2 (ji41) = true then ((parchmentref01_Node.f (rdOf ByteArray.empty x16_26 x18_5) x15_5).bind fun t211 => ((parchmentref01_Node.f (rdOf ByteArray.empty x16_26 x18_5) x17_5).bind fun t213 => (parchmentref08_Consistent.l2 k5 a0 a1 x11_2 t211 x16_26 t213 (wrap64 (x18_5 + 1))))) else ((parchmentref01_Node.f x17_5 (rdOf ByteArray.empty x16_26 x18_5)).bind fun t215 => (parchmentref08_Consistent.l2 k5 a0 a1 x11_2 x15_5 x16_26 t215 (wrap64 (x18_5 + 1))))) else (none)) else (none)) = some r := by first | (rw [hji41] at H; exact H) | (simp only [hji41] at H ⊢; exact H)
                                      have hji41w : (IntKind.i64.wrap ((wrap64 ((x11_2.length : Int) - 1)) - x18_5)) = ji41 := (i64_w _).trans hji41
                                      by_cases c42 : 0 ≤ (ji41)
                                      · rw [if_pos c42] at H
                                        have c42b0 : decide (0 ≤ (ji41)) = true := decide_eq_true c42
                                        clear c42
                                        by_cases c43 : (ji41) < (x11_2.length : Int)
                                        · rw [if_pos c43] at H
                                          have c43b0 : decide ((ji41) < (x11_2.length : Int)) = true := decide_eq_true c43
                                          clear c43
                                          obtain ⟨bq44, hbq44⟩ : ∃ b_ : Bool, b_ = (rdOf false x11_2 (ji41)) := ⟨_, rfl⟩
                                          replace H : (if bq44 = true then ((parchmentref01_Node.f (rdOf ByteArray.empty x16_26 x18_5) x15_5).bind fun t211 => ((parchmentref01_Node.f (rdOf ByteArray.empty x16_26 x18_5) x17_5).bind fun t213 => (parchmentref08_Consistent.l2 k5 a0 a1 x11_2 t211 x16_26 t213 (wrap64 (x18_5 + 1))))) else ((parchmentref01_Node.f x17_5 (rdOf ByteArray.empty x16_26 x18_5)).bind fun t215 => (parchmentref08_Consistent.l2 k5 a0 a1 x11_2 x15_5 x16_26 t215 (wrap64 (x18_5 + 1))))) = some r := by rw [← hbq44] at H; exact H
                                          have Nbq44 := Aside0.mk hbq44
                                          clear hbq44
                                          by_cases c45 : bq44 = true
                                          · subst c45
                                            have H1 : ((parchmentref01_Node.f (rdOf ByteArray.empty x16_26 x18_5) x15_5).bind fun t211 => ((parchmentref01_Node.f (rdOf ByteArray.empty x16_26 x18_5) x17_5).bind fun t213 => (parchmentref08_Consistent.l2 k5 a0 a1 x11_2 t211 x16_26 t213 (wrap64 (x18_5 + 1))))) = some r := by rw [if_pos rfl] at H; exact H
                                            clear H
                                            have H := H1
                                            clear H1
                                            replace H := Option.bind_eq_some_iff.mp H
                                            obtain ⟨t211, A460, H⟩ := H
                                            replace H : ((parchmentref01_Node.f (rdOf ByteArray.empty x16_26 x18_5) x17_5).bind fun t213 => (parchmentref08_Consistent.l2 k5 a0 a1 x11_2 t211 x16_26 t213 (wrap64 (x18_5 + 1)))) = some r := H
                                            have A46 := Aside0.mk A460
                                            clear A460
                                            replace H := Option.bind_eq_some_iff.mp H
                                            obtain ⟨t213, A470, H⟩ := H
                                            replace H : (parchmentref08_Consistent.l2 k5 a0 a1 x11_2 t211 x16_26 t213 (wrap64 (x18_5 + 1))) = some r := H
                                            have A47 := Aside0.mk A470
                                            clear A470
                                            have H' := Aside0.mk H
                                            clear H
                                            have p208 : 0 ≤ (x18_5 : Int) := of_decide_eq_true (by first | (with_reducible assumption) | assumption)
                                            have q208 : x18_5 < (x16_26.length : Int) := of_decide_eq_true (by first | (with_reducible assumption) | assumption)
                                            obtain ⟨ad208, e208, hx208_0⟩ := Kd.at_string (Kd.V_reads' HO_16.out).2.2 x18_5 p208 q208
                                            cases e208
                                            replace p208 := eq_true p208
                                            replace q208 := eq_true q208
                                            have p209 : 0 ≤ ((ji41) : Int) := of_decide_eq_true (by first | (with_reducible assumption) | assumption)
                                            have q209 : (ji41) < (x11_2.length : Int) := of_decide_eq_true (by first | (with_reducible assumption) | assumption)
                                            obtain ⟨ad209, e209, hx209_0⟩ := Kd.at_bool (Kd.R_reads' HO_11.out).2.2 (ji41) p209 q209
                                            (try rw [← Nbq44.out] at hx209_0)
                                            cases e209
                                            replace p209 := eq_true p209
                                            replace q209 := eq_true q209
                                            try go_wp2
                                            have n0_ := Aside0.mk (Kd.R_drew HO_11.out)
                                            have n1_ := Aside0.mk (Kd.V_drew HO_16.out)
                                            have n2_ := Aside0.mk (below_drew1 HB.out)
                                            clear HO_11
                                            clear HO_16
                                            clear HB
                                            have HO_11 := n0_
                                            have HO_16 := n1_
                                            have HB := n2_
                                            clear n0_ n1_ n2_
                                            have p210 : 0 ≤ (x18_5 : Int) := of_decide_eq_true (by first | (with_reducible assumption) | assumption)
                                            have q210 : x18_5 < (x16_26.length : Int) := of_decide_eq_true (by first | (with_reducible assumption) | assumption)
                                            obtain ⟨ad210, e210, hx210_0⟩ := Kd.at_string (Kd.V_reads' HO_16.out).2.2 x18_5 p210 q210
                                            obtain rfl : ad208 = ad210 := (by injection e210)
                                            replace p210 := eq_true p210
                                            replace q210 := eq_true q210
                                            have p212 : 0 ≤ (x18_5 : Int) := of_decide_eq_true (by first | (with_reducible assumption) | assumption)
                                            have q212 : x18_5 < (x16_26.length : Int) := of_decide_eq_true (by first | (with_reducible assumption) | assumption)
                                            obtain ⟨ad212, e212, hx212_0⟩ := Kd.at_string (Kd.V_reads' HO_16.out).2.2 x18_5 p212 q212
                                            obtain rfl : ad208 = ad212 := (by injection e212)
                                            replace p212 := eq_true p212
                                            replace q212 := eq_true q212
                                            refine start_ (n := 14) (S := fun w' => w'.cell? (ad208.add (x18_5).toNat) = some (.string (rdOf ByteArray.empty x16_26 x18_5)) ∧ w'.cell? (ad208.add (x18_5).toNat) = some (.string (rdOf ByteArray.empty x16_26 x18_5))) (ds := []) #[false, false, false, false, false, false, false, false, false, false, false, false, false, false] (by kernel_rfl) rfl rfl ⟨hx210_0, hx212_0⟩ (fun hHeld => ?_); refine with_tabW parchmentref08_Consistent.tab30 parchmentref08_Consistent.bits30 (fun HT_ HW_ => ?_)
                                            generalize wr.drew = w48 at HO_11 HO_16 HB hx210_0 hx212_0 hHeld ⊢
                                            refine pure_ (i := 0) (N := some 122) (v := ?_) (a' := ?_) #[true, false, false, false, false, false, false, false, false, false, false, false, false, false] rfl rfl (any_of HT_.out (by kernel_rfl)) (fun _ _ _ h => h) (Or.inl ⟨by rfl, ?_⟩) ?_ ?_
                                            rotate_left
                                            · intro w'
                                              go_simp
                                              with_reducible rfl
                                            rotate_left
                                            · simp only [Act.put, List.setIfInBounds_toArray, List.set_cons_zero, List.set_cons_succ, i64_w, i32_w]
                                              rfl
                                            refine pure_ (i := 1) (N := some 123) (v := ?_) (a' := ?_) #[true, true, false, false, false, false, false, false, false, false, false, false, false, false] rfl rfl (any_of HT_.out (by kernel_rfl)) (fun _ _ _ h => h) (Or.inl ⟨by rfl, ?_⟩) ?_ ?_
                                            rotate_left
                                            · intro w'
                                              go_simp
                                              with_reducible rfl
                                            rotate_left
                                            · simp only [Act.put, List.setIfInBounds_toArray, List.set_cons_zero, List.set_cons_succ, i64_w, i32_w]
                                              rfl
                                            refine pure_ (i := 2) (N := some 124) (v := ?_) (a' := ?_) #[true, true, true, false, false, false, false, false, false, false, false, false, false, false] rfl rfl (any_of HT_.out (by kernel_rfl)) (fun _ _ _ h => h) (Or.inl ⟨by rfl, ?_⟩) ?_ ?_
                                            rotate_left
                                            · intro w'
                                              go_simp
                                              with_reducible rfl
                                            rotate_left
                                            · simp only [Act.put, List.setIfInBounds_toArray, List.set_cons_zero, List.set_cons_succ, i64_w, i32_w]
                                              rfl
                                            refine pure_ (i := 4) (N := some 126) (v := ?_) (a' := ?_) #[true, true, true, false, true, false, false, false, false, false, false, false, false, false] rfl rfl (any_of HT_.out (by kernel_rfl)) (fun _ _ _ h => h) (Or.inl ⟨by rfl, ?_⟩) ?_ ?_
                                            rotate_left
                                            · intro w'
                                              go_simp
                                              with_reducible rfl
                                            rotate_left
                                            · simp only [Act.put, List.setIfInBounds_toArray, List.set_cons_zero, List.set_cons_succ, i64_w, i32_w]
                                              rfl
                                            refine pure_ (i := 6) (N := some 128) (v := ?_) (a' := ?_) #[true, true, true, false, true, false, true, false, false, false, false, false, false, false] rfl rfl (any_of HT_.out (by kernel_rfl)) (fun _ _ _ h => h) (Or.inl ⟨by rfl, ?_⟩) ?_ ?_
                                            rotate_left
                                            · intro w'
                                              go_simp
                                              with_reducible rfl
                                            rotate_left
                                            · simp only [Act.put, List.setIfInBounds_toArray, List.set_cons_zero, List.set_cons_succ, i64_w, i32_w]
                                              rfl
                                            refine pure_ (i := 7) (N := some 129) (v := ?_) (a' := ?_) #[true, true, true, false, true, false, true, true, false, false, false, false, false, false] rfl rfl (any_of HT_.out (by kernel_rfl)) (fun _ _ _ h => h) (Or.inl ⟨by rfl, ?_⟩) ?_ ?_
                                            rotate_left
                                            · intro w'
                                              go_simp
                                              with_reducible rfl
                                            rotate_left
                                            · simp only [Act.put, List.setIfInBounds_toArray, List.set_cons_zero, List.set_cons_succ, i64_w, i32_w]
                                              rfl
                                            refine pure_ (i := 8) (N := some 130) (v := ?_) (a' := ?_) #[true, true, true, false, true, false, true, true, true, false, false, false, false, false] rfl rfl (any_of HT_.out (by kernel_rfl)) (fun _ _ _ h => h) (Or.inl ⟨by rfl, ?_⟩) ?_ ?_
                                            rotate_left
                                            · intro w'
                                              go_simp
                                              with_reducible rfl
                                            rotate_left
                                            · simp only [Act.put, List.setIfInBounds_toArray, List.set_cons_zero, List.set_cons_succ, i64_w, i32_w]
                                              rfl
                                            refine pure_ (i := 10) (N := some 132) (v := ?_) (a' := ?_) #[true, true, true, false, true, false, true, true, true, false, true, false, false, false] rfl rfl (any_of HT_.out (by kernel_rfl)) (fun _ _ _ h => h) (Or.inl ⟨by rfl, ?_⟩) ?_ ?_
                                            rotate_left
                                            · intro w'
                                              go_simp
                                              with_reducible rfl
                                            rotate_left
                                            · simp only [Act.put, List.setIfInBounds_toArray, List.set_cons_zero, List.set_cons_succ, i64_w, i32_w]
                                              rfl
                                            refine take_ (i := 3) (N := some 125) (v := ?_) (a' := ?_) #[true, true, true, true, true, false, true, true, true, false, true, false, false, false] rfl rfl (take_ofW HT_.out HW_.out (by kernel_rfl)) (fun _ _ _ h => h) (Or.inl ⟨by rfl, ?_⟩) hHeld ?_ ?_
                                            rotate_left
                                            · rintro w' ⟨s0, s1⟩
                                              go_simp
                                              with_reducible rfl
                                            rotate_left
                                            · simp only [Act.put, List.setIfInBounds_toArray, List.set_cons_zero, List.set_cons_succ, i64_w, i32_w]
                                              rfl
                                            refine take_ (i := 9) (N := some 131) (v := ?_) (a' := ?_) #[true, true, true, true, true, false, true, true, true, true, true, false, false, false] rfl rfl (take_ofW HT_.out HW_.out (by kernel_rfl)) (fun _ _ _ h => h) (Or.inl ⟨by rfl, ?_⟩) hHeld ?_ ?_
                                            rotate_left
                                            · rintro w' ⟨s0, s1⟩
                                              go_simp
                                              with_reducible rfl
                                            rotate_left
                                            · simp only [Act.put, List.setIfInBounds_toArray, List.set_cons_zero, List.set_cons_succ, i64_w, i32_w]
                                              rfl
                                            refine one_ (i := 5) (N := some 127) #[true, true, true, true, true, true, true, true, true, true, true, false, false, false] rfl rfl (one_of HT_.out (by kernel_rfl)) (by decide) (fun K hK => ?_)
                                            refine goes_ Try.func29 (by kernel_rfl) rfl #[.string (rdOf ByteArray.empty x16_26 x18_5), .string x15_5] (by rfl) rfl rfl (by (try simp only [List.map_toArray, List.map_cons, List.map_nil]); first | done | rfl | (simp only [List.length_drop, List.length_take]; rfl)) ?_
                                            with_reducible refine (parchmentref01_Node.calls (rdOf ByteArray.empty x16_26 x18_5) x15_5 t211 _ A46.out).mono ?_
                                            rintro e w49 ⟨rfl, hb⟩
                                            have HS0_ := (hb.cell (World.block_lt_of_cell? _ _ (hHeld.1))).trans (hHeld.1)
                                            have HS1_ := (hb.cell (World.block_lt_of_cell? _ _ (hHeld.2))).trans (hHeld.2)
                                            refine ⟨_, rfl, ?_⟩
                                            have n0_ := Aside0.mk (Kd.R_below (by (with_reducible repeat (first | apply Kd.R_alloc | apply Kd.R_drewN | apply Kd.R_drew)); exact HO_11.out) hb)
                                            have n1_ := Aside0.mk (Kd.V_below (by (with_reducible repeat (first | apply Kd.V_alloc | apply Kd.V_drewN | apply Kd.V_drew)); exact HO_16.out) hb)
                                            have n2_ := Aside0.mk (below_step (by repeat (first | (with_reducible first | exact HB.out | apply below_alloc | apply pw_below_drewN | apply below_drew1) | exact HB.out)) hb)
                                            clear HO_11
                                            clear HO_16
                                            clear HB
                                            have HO_11 := n0_
                                            have HO_16 := n1_
                                            have HB := n2_
                                            clear n0_ n1_ n2_
                                            (try clear hb)
                                            (try clear hb2)
                                            (try clear hk)
                                            (try clear hi)
                                            refine hK.out _ _ ⟨HS0_, HS1_⟩ (fun hHeld => ?_)
                                            clear hK K
                                            refine norm_ (a' := ?_) ?_ ?_
                                            rotate_left
                                            · show Act.put _ (some 127) _ = _
                                              simp only [Act.put, List.setIfInBounds_toArray, List.set_cons_zero, List.set_cons_succ, i64_w, i32_w]
                                              rfl
                                            refine one_ (i := 11) (N := some 133) #[true, true, true, true, true, true, true, true, true, true, true, true, false, false] rfl rfl (one_of HT_.out (by kernel_rfl)) (by decide) (fun K hK => ?_)
                                            refine goes_ Try.func29 (by kernel_rfl) rfl #[.string (rdOf ByteArray.empty x16_26 x18_5), .string x17_5] (by rfl) rfl rfl (by (try simp only [List.map_toArray, List.map_cons, List.map_nil]); first | done | rfl | (simp only [List.length_drop, List.length_take]; rfl)) ?_
                                            with_reducible refine (parchmentref01_Node.calls (rdOf ByteArray.empty x16_26 x18_5) x17_5 t213 _ A47.out).mono ?_
                                            rintro e w50 ⟨rfl, hb⟩
                                            have HS0_ := (hb.cell (World.block_lt_of_cell? _ _ (hHeld.1))).trans (hHeld.1)
                                            have HS1_ := (hb.cell (World.block_lt_of_cell? _ _ (hHeld.2))).trans (hHeld.2)
                                            refine ⟨_, rfl, ?_⟩
                                            have n0_ := Aside0.mk (Kd.R_below (by (with_reducible repeat (first | apply Kd.R_alloc | apply Kd.R_drewN | apply Kd.R_drew)); exact HO_11.out) hb)
                                            have n1_ := Aside0.mk (Kd.V_below (by (with_reducible repeat (first | apply Kd.V_alloc | apply Kd.V_drewN | apply Kd.V_drew)); exact HO_16.out) hb)
                                            have n2_ := Aside0.mk (below_step (by repeat (first | (with_reducible first | exact HB.out | apply below_alloc | apply pw_below_drewN | apply below_drew1) | exact HB.out)) hb)
                                            clear HO_11
                                            clear HO_16
                                            clear HB
                                            have HO_11 := n0_
                                            have HO_16 := n1_
                                            have HB := n2_
                                            clear n0_ n1_ n2_
                                            (try clear hb)
                                            (try clear hb2)
                                            (try clear hk)
                                            (try clear hi)
                                            refine hK.out _ _ ⟨HS0_, HS1_⟩ (fun hHeld => ?_)
                                            clear hK K
                                            refine norm_ (a' := ?_) ?_ ?_
                                            rotate_left
                                            · show Act.put _ (some 133) _ = _
                                              simp only [Act.put, List.setIfInBounds_toArray, List.set_cons_zero, List.set_cons_succ, i64_w, i32_w]
                                              rfl
                                            refine pure_ (i := 12) (N := some 15) (v := ?_) (a' := ?_) #[true, true, true, true, true, true, true, true, true, true, true, true, true, false] rfl rfl (any_of HT_.out (by kernel_rfl)) (fun _ _ _ h => h) (Or.inl ⟨by rfl, ?_⟩) ?_ ?_
                                            rotate_left
                                            · intro w'
                                              go_simp
                                              with_reducible rfl
                                            rotate_left
                                            · simp only [Act.put, List.setIfInBounds_toArray, List.set_cons_zero, List.set_cons_succ, i64_w, i32_w]
                                              rfl
                                            refine pure_ (i := 13) (N := some 17) (v := ?_) (a' := ?_) #[true, true, true, true, true, true, true, true, true, true, true, true, true, true] rfl rfl (any_of HT_.out (by kernel_rfl)) (fun _ _ _ h => h) (Or.inl ⟨by rfl, ?_⟩) ?_ ?_
                                            rotate_left
                                            · intro w'
                                              go_simp
                                              with_reducible rfl
                                            rotate_left
                                            · simp only [Act.put, List.setIfInBounds_toArray, List.set_cons_zero, List.set_cons_succ, i64_w, i32_w]
                                              rfl
                                            refine done_ (done_of HT_.out (by kernel_rfl)) ?_
                                            try go_wp2
                                            go_roundg k5
                                            case measure => have := HJ5.out; have := HK2.out; have := HK3.out; have := HJ26.out; have := HK5.out; omega
                                            case rel => exact ⟨(t211), (t213), (wrap64 (x18_5 + 1)), (by first | rfl | (simp; done) | (simp [*]; done)), (by first | rfl | (simp; done) | (simp [*]; done)), (by first | rfl | (simp; done) | (simp [*]; done)), H', ⟨by have := HJ5.out; have := HK2.out; have := HK3.out; have := HJ26.out; have := HK5.out; omega⟩, ⟨by (with_reducible repeat (first | apply Kd.R_alloc | apply Kd.R_drewN | apply Kd.R_drew)); exact HO_11.out⟩, ⟨by (with_reducible repeat (first | apply Kd.V_alloc | apply Kd.V_drewN | apply Kd.V_drew)); exact HO_16.out⟩, ⟨by repeat (first | (with_reducible first | exact HB.out | apply below_alloc | apply pw_below_drewN | apply below_drew1) | exact HB.out)⟩⟩
                                          · replace c45 := Bool.eq_false_iff.mpr c45
                                            subst c45
                                            have H1 : ((parchmentref01_Node.f x17_5 (rdOf ByteArray.empty x16_26 x18_5)).bind fun t215 => (parchmentref08_Consistent.l2 k5 a0 a1 x11_2 x15_5 x16_26 t215 (wrap64 (x18_5 + 1)))) = some r := by rw [if_neg (show ¬ (false = true) by decide)] at H; exact H
                                            clear H
                                            have H := H1
                                            clear H1
                                            replace H := Option.bind_eq_some_iff.mp H
                                            obtain ⟨t215, A510, H⟩ := H
                                            replace H : (parchmentref08_Consistent.l2 k5 a0 a1 x11_2 x15_5 x16_26 t215 (wrap64 (x18_5 + 1))) = some r := H
                                            have A51 := Aside0.mk A510
                                            clear A510
                                            have H' := Aside0.mk H
                                            clear H
                                            have p208 : 0 ≤ (x18_5 : Int) := of_decide_eq_true (by first | (with_reducible assumption) | assumption)
                                            have q208 : x18_5 < (x16_26.length : Int) := of_decide_eq_true (by first | (with_reducible assumption) | assumption)
                                            obtain ⟨ad208, e208, hx208_0⟩ := Kd.at_string (Kd.V_reads' HO_16.out).2.2 x18_5 p208 q208
                                            cases e208
                                            replace p208 := eq_true p208
                                            replace q208 := eq_true q208
                                            have p209 : 0 ≤ ((ji41) : Int) := of_decide_eq_true (by first | (with_reducible assumption) | assumption)
                                            have q209 : (ji41) < (x11_2.length : Int) := of_decide_eq_true (by first | (with_reducible assumption) | assumption)
                                            obtain ⟨ad209, e209, hx209_0⟩ := Kd.at_bool (Kd.R_reads' HO_11.out).2.2 (ji41) p209 q209
                                            (try rw [← Nbq44.out] at hx209_0)
                                            cases e209
                                            replace p209 := eq_true p209
                                            replace q209 := eq_true q209
                                            have p214 : 0 ≤ (x18_5 : Int) := of_decide_eq_true (by first | (with_reducible assumption) | assumption)
                                            have q214 : x18_5 < (x16_26.length : Int) := of_decide_eq_true (by first | (with_reducible assumption) | assumption)
                                            obtain ⟨ad214, e214, hx214_0⟩ := Kd.at_string (Kd.V_reads' HO_16.out).2.2 x18_5 p214 q214
                                            obtain rfl : ad208 = ad214 := (by injection e214)
                                            replace p214 := eq_true p214
                                            replace q214 := eq_true q214
                                            go_wp2_with (first | ((with_reducible refine gate_callee (f := 29) rfl ?_); refine goesL_ (some 139) rfl rfl Try.func29 (by kernel_rfl) rfl #[.string x17_5, .string (rdOf ByteArray.empty x16_26 x18_5)] rfl (by (try simp only [List.map_toArray, List.map_cons, List.map_nil]); first | done | rfl | (simp only [List.length_drop, List.length_take]; rfl)) ?_; (with_reducible refine (parchmentref01_Node.calls x17_5 (rdOf ByteArray.empty x16_26 x18_5) t215 _ A51.out).mono ?_); rintro e w52 ⟨rfl, hb⟩; refine ⟨_, rfl, ?_⟩; have n0_ := Aside0.mk (Kd.R_below (by (with_reducible repeat (first | apply Kd.R_alloc | apply Kd.R_drewN | apply Kd.R_drew)); exact HO_11.out) hb); have n1_ := Aside0.mk (Kd.V_below (by (with_reducible repeat (first | apply Kd.V_alloc | apply Kd.V_drewN | apply Kd.V_drew)); exact HO_16.out) hb); have n2_ := Aside0.mk (below_step (by repeat (first | (with_reducible first | exact HB.out | apply below_alloc | apply pw_below_drewN | apply below_drew1) | exact HB.out)) hb); clear HO_11; clear HO_16; clear HB; have HO_11 := n0_; have HO_16 := n1_; have HB := n2_; clear n0_ n1_ n2_; (try clear hb); (try clear hb2); (try clear hk); (try clear hi)))
                                            go_roundg k5
                                            case measure => have := HJ5.out; have := HK2.out; have := HK3.out; have := HJ26.out; have := HK5.out; omega
                                            case rel => exact ⟨(x15_5), (t215), (wrap64 (x18_5 + 1)), (by first | rfl | (simp; done) | (simp [*]; done)), (by first | rfl | (simp; done) | (simp [*]; done)), (by first | rfl | (simp; done) | (simp [*]; done)), H', ⟨by have := HJ5.out; have := HK2.out; have := HK3.out; have := HJ26.out; have := HK5.out; omega⟩, ⟨by (with_reducible repeat (first | apply Kd.R_alloc | apply Kd.R_drewN | apply Kd.R_drew)); exact HO_11.out⟩, ⟨by (with_reducible repeat (first | apply Kd.V_alloc | apply Kd.V_drewN | apply Kd.V_drew)); exact HO_16.out⟩, ⟨by repeat (first | (with_reducible first | exact HB.out | apply below_alloc | apply pw_below_drewN | apply below_drew1) | exact HB.out)⟩⟩
                                        · rw [if_neg c43] at H
                                          exact absurd H (by simp)
                                      · rw [if_neg c42] at H
                                        exact absurd H (by simp)
                                    · rw [if_neg c40] at H
                                      have c40b0 : (((rdOf ByteArray.empty x16_26 x18_5).size : Int) == 32) = false := beq_eq_false_iff_ne.mpr c40
                                      have c40b1 : (((rdOf ByteArray.empty x16_26 x18_5).size : Int) != 32) = true := bne_iff_ne.mpr c40
                                      obtain rfl := Option.some.inj H
                                      have p208 : 0 ≤ (x18_5 : Int) := of_decide_eq_true (by first | (with_reducible assumption) | assumption)
                                      have q208 : x18_5 < (x16_26.length : Int) := of_decide_eq_true (by first | (with_reducible assumption) | assumption)
                                      obtain ⟨ad208, e208, hx208_0⟩ := Kd.at_string (Kd.V_reads' HO_16.out).2.2 x18_5 p208 q208
                                      cases e208
                                      replace p208 := eq_true p208
                                      replace q208 := eq_true q208
                                      go_wp2
                                      go_ret
                                      exact ⟨by first | rfl | (simp [errW_none, errW_some] <;> rfl) | (simp [*, errW_none, errW_some] <;> rfl), by repeat (first | (with_reducible first | exact HB.out | apply below_alloc | apply pw_below_drewN | apply below_drew1) | exact HB.out)⟩
                                  · rw [if_neg c39] at H
                                    exact absurd H (by simp)
                                · rw [if_neg c38] at H
                                  have c38b0 : decide (x18_5 < (x16_26.length : Int)) = false := decide_eq_false c38
                                  clear c38
                                  by_cases c53 : x15_5.toList = a0.toList
                                  · rw [if_pos c53] at H
                                    have c53b0 : (x15_5.toList == a0.toList) = true := beq_iff_eq.mpr c53
                                    have c53b1 : (x15_5.toList != a0.toList) = false := bne_eq_false_iff_eq.mpr c53
                                    clear c53
                                    by_cases c54 : x17_5.toList = a1.toList
                                    · rw [if_pos c54] at H
                                      have c54b0 : (x17_5.toList == a1.toList) = true := beq_iff_eq.mpr c54
                                      have c54b1 : (x17_5.toList != a1.toList) = false := bne_eq_false_iff_eq.mpr c54
                                      clear c54
                                      obtain rfl := Option.some.inj H
                                      go_wp2
                                      go_ret
                                      exact ⟨by first | rfl | (simp [errW_none, errW_some] <;> rfl) | (simp [*, errW_none, errW_some] <;> rfl), by repeat (first | (with_reducible first | exact HB.out | apply below_alloc | apply pw_below_drewN | apply below_drew1) | exact HB.out)⟩
                                    · rw [if_neg c54] at H
                                      have c54b0 : (x17_5.toList == a1.toList) = false := beq_eq_false_iff_ne.mpr c54
                                      have c54b1 : (x17_5.toList != a1.toList) = true := bne_iff_ne.mpr c54
                                      obtain rfl := Option.some.inj H
                                      go_wp2
                                      go_ret
                                      exact ⟨by first | rfl | (simp [errW_none, errW_some] <;> rfl) | (simp [*, errW_none, errW_some] <;> rfl), by repeat (first | (with_reducible first | exact HB.out | apply below_alloc | apply pw_below_drewN | apply below_drew1) | exact HB.out)⟩
                                  · rw [if_neg c53] at H
                                    have c53b0 : (x15_5.toList == a0.toList) = false := beq_eq_false_iff_ne.mpr c53
                                    have c53b1 : (x15_5.toList != a0.toList) = true := bne_iff_ne.mpr c53
                                    obtain rfl := Option.some.inj H
                                    go_wp2
                                    go_ret
                                    exact ⟨by first | rfl | (simp [errW_none, errW_some] <;> rfl) | (simp [*, errW_none, errW_some] <;> rfl), by repeat (first | (with_reducible first | exact HB.out | apply below_alloc | apply pw_below_drewN | apply below_drew1) | exact HB.out)⟩
                          · rw [if_neg c36] at H
                            have c36b0 : ((x16_26.length : Int) == (x11_2.length : Int)) = false := beq_eq_false_iff_ne.mpr c36
                            have c36b1 : ((x16_26.length : Int) != (x11_2.length : Int)) = true := bne_iff_ne.mpr c36
                            have c36b2 : (x16_26.length == x11_2.length) = false := by first | simpa using c36 | (simp at c36 ⊢; omega)
                            obtain rfl := Option.some.inj H
                            obtain ⟨Ao55, co55, eo55⟩ := Kd.V_slice HO_16.out
                            subst eo55
                            go_wp2
                            go_ret
                            exact ⟨by first | rfl | (simp [errW_none, errW_some] <;> rfl) | (simp [*, errW_none, errW_some] <;> rfl), by repeat (first | (with_reducible first | exact HB.out | apply below_alloc | apply pw_below_drewN | apply below_drew1) | exact HB.out)⟩

end Go.Proofs.Ytnipbdlljfifhaa.PMk
