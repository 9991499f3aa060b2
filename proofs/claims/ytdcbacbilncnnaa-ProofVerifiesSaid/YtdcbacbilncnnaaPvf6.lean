/- Part 6 of what the proof of ProofVerifies stands on. -/
import Derived.Deep.RegionHeld3
import Derived.Deep.AppendLies
import Derived.Deep.DrawnRows
import Derived.Lib.Hide
import Derived.RangeFuncBox
import Derived.RangeFuncLeaves
import Derived.Shelf.Abstract
import Derived.WalkKit
import Derived.OwnWalkIn
import Derived.TacticsInMore
import Derived.LoopNIn
import Derived.LoopIn
import Derived.Test.YtdcbacbilncnnaaProg
import Derived.RangeFuncCalls
import Derived.RangeFuncBound
import Derived.RangeFuncNested
import Derived.Test.YtdcbacbilncnnaaPvf5
section
namespace Go.Proofs.Ytdcbacbilncnnaa.PMk
open Go.RowKit Go.Proofs.YtdcbacbilncnnaaW.PrintWords Go.Proofs.YtdcbacbilncnnaaW.PrintLast Go.Proofs.YtdcbacbilncnnaaW.PrintMore
attribute [local go_sem] max2_int min2_int max_two min_two max_three min_three max_four min_four   -- for this text's walks alone
set_option linter.unusedVariables false
set_option linter.unusedSimpArgs false
/-! ### merkle_path: function 87 -/
def merkle_path.f : Nat → Int → List ByteArray → Option (List ByteArray)
 | 0, _, _ => none
 | k + 1, a0, l1 => if (l1.length : Int) ≤ 1 then (some ([] : List ByteArray)) else ((merkle_split.f (l1.length : Int)).bind fun t617 => (if a0 < t617 then (if 0 ≤ t617 then (if t617 ≤ (l1.length : Int) then ((merkle_path.f k a0 (l1.take (t617 : Int).toNat)).bind fun t619 => ((merkle_root.f k (l1.drop (t617 : Int).toNat)).bind fun t623 => (if t619.length < 8796093022208 then (some (t619 ++ [t623])) else (none)))) else (none)) else (none)) else (if 0 ≤ t617 then (if t617 ≤ (l1.length : Int) then ((merkle_path.f k (wrap64 (a0 - t617)) (l1.drop (t617 : Int).toNat)).bind fun t628 => ((merkle_root.f k (l1.take (t617 : Int).toNat)).bind fun t632 => (if t628.length < 8796093022208 then (some (t628 ++ [t632])) else (none)))) else (none)) else (none))))
def merkle_path.T5 : Bool × List (List Nat × List Nat) := (true, [([], []), ([], []), ([], []), ([1, 2], [1, 2]), ([0, 3], [0, 3]), ([], []), ([], []), ([5, 6], [5, 6]), ([7, 4], [7]), ([8], [8]), ([4, 9, 8], [4, 9]), ([10, 10, 0, 1, 2, 3, 4, 5, 6, 7, 8, 9, 10], [10])])
def merkle_path.B5 : List Nat := [0, 0, 0, 6, 15, 0, 0, 96, 255, 511, 1023, 2047]
theorem merkle_path.tab5 : rtab .any (opsOf Try.f87 5) = merkle_path.T5 := by kernel_rfl
theorem merkle_path.bits5 : waitsOk merkle_path.T5.2 merkle_path.B5 = true := by kernel_rfl
def merkle_path.T6 : Bool × List (List Nat × List Nat) := (true, [([], []), ([], []), ([0, 1], [0, 1]), ([], []), ([], []), ([3, 4], [3, 4]), ([2, 5], [2, 5]), ([], []), ([], []), ([7, 8], [7, 8]), ([9, 6], [9]), ([10], [10]), ([6, 11, 10], [6, 11]), ([12, 12, 0, 1, 2, 3, 4, 5, 6, 7, 8, 9, 10, 11, 12], [12])])
def merkle_path.B6 : List Nat := [0, 0, 3, 0, 0, 24, 63, 0, 0, 384, 1023, 2047, 4095, 8191]
theorem merkle_path.tab6 : rtab .any (opsOf Try.f87 6) = merkle_path.T6 := by kernel_rfl
theorem merkle_path.bits6 : waitsOk merkle_path.T6.2 merkle_path.B6 = true := by kernel_rfl
set_option maxHeartbeats 8000000 in
set_option maxRecDepth 100000 in
theorem merkle_path.calls (k : Nat) : ∀ (a0 : Int) (A1 : Option Addr) (c1 : Nat) (l1 : List ByteArray) (r : List ByteArray) (w : World) (hr1 : Kd.C Kd.string w A1 l1.length l1) (hc1 : l1.length ≤ c1) (h : merkle_path.f k a0 l1 = some r),
  Calls Try.prog 87 #[.int .i64 a0, .slice A1 l1.length c1] w fun e w' => ∃ v0_ : Value, e = .returned (v0_) ∧ Kd.R Kd.string 9 w' w.heap.size (fun _ => True) v0_ r ∧ Below w.heap.size w w' := by
 induction k using Nat.strongRecOn with
 | _ k ih =>
 intro a0 A1 c1 l1 r w hr1 hc1 h
 cases k with
 | zero => exact absurd h (by simp [merkle_path.f])
 | succ k =>
 simp only [merkle_path.f] at h
 have HR1 := Aside0.mk hr1
 have HC1 := Aside0.mk hc1
 clear hr1 hc1
 have HB := Aside0.mk (Below.refl w.heap.size w)
 have H : (if (l1.length : Int) ≤ 1 then (some ([] : List ByteArray)) else ((merkle_split.f (l1.length : Int)).bind fun t617 => (if a0 < t617 then (if 0 ≤ t617 then (if t617 ≤ (l1.length : Int) then ((merkle_path.f k a0 (l1.take (t617 : Int).toNat)).bind fun t619 => ((merkle_root.f k (l1.drop (t617 : Int).toNat)).bind fun t623 => (if t619.length < 8796093022208 then (some (t619 ++ [t623])) else (none)))) else (none)) else (none)) else (if 0 ≤ t617 then (if t617 ≤ (l1.length : Int) then ((merkle_path.f k (wrap64 (a0 - t617)) (l1.drop (t617 : Int).toNat)).bind fun t628 => ((merkle_root.f k (l1.take (t617 : Int).toNat)).bind fun t632 => (if t628.length < 8796093022208 then (some (t628 ++ [t632])) else (none)))) else (none)) else (none))))) = some r := h
 clear h
 by_cases c3 : (l1.length : Int) ≤ 1
 ·rw [if_pos c3] at H
  have c3b0 : decide ((l1.length : Int) ≤ 1) = true := decide_eq_true c3
  have c3b1 : decide (l1.length ≤ 1) = true := decide_eq_true (by omega)
  clear c3
  obtain rfl := Option.some.inj H
  go_enter Try.func87, Try.ntmps87
  go_wp2
  go_ret
  exact ⟨_, by first | rfl | (simp [errW_none, errW_some] <;> rfl) | (simp [*, errW_none, errW_some] <;> rfl), by first | exact Kd.R_nil _ _ _ _ _ | exact Kd.N_nil _ _ _ _ _ | exact Kd.V_nil _ _ _ _ _ | exact Kd.Q_nil _ _ _ _ _ | exact Kd.S_nil _ _ _ _ _, by repeat (first | (with_reducible first | exact HB.out | apply below_alloc | apply pw_below_drewN | apply below_drew1) | exact HB.out)⟩
 ·rw [if_neg c3] at H
  have c3b0 : decide ((l1.length : Int) ≤ 1) = false := decide_eq_false c3
  have c3b1 : decide (l1.length ≤ 1) = false := decide_eq_false (by omega)
  clear c3
  replace H := Option.bind_eq_some_iff.mp H
  obtain ⟨t617, A40, H⟩ := H
  replace H : (if a0 < t617 then (if 0 ≤ t617 then (if t617 ≤ (l1.length : Int) then ((merkle_path.f k a0 (l1.take (t617 : Int).toNat)).bind fun t619 => ((merkle_root.f k (l1.drop (t617 : Int).toNat)).bind fun t623 => (if t619.length < 8796093022208 then (some (t619 ++ [t623])) else (none)))) else (none)) else (none)) else (if 0 ≤ t617 then (if t617 ≤ (l1.length : Int) then ((merkle_path.f k (wrap64 (a0 - t617)) (l1.drop (t617 : Int).toNat)).bind fun t628 => ((merkle_root.f k (l1.take (t617 : Int).toNat)).bind fun t632 => (if t628.length < 8796093022208 then (some (t628 ++ [t632])) else (none)))) else (none)) else (none))) = some r := H
  have A4 := Aside0.mk A40
  clear A40
  by_cases c5 : a0 < t617
  ·rw [if_pos c5] at H
   have c5b0 : decide (a0 < t617) = true := decide_eq_true c5
   clear c5
   by_cases c6 : 0 ≤ t617
   ·rw [if_pos c6] at H
    have c6b0 := eq_true c6
    have c6b1 : decide (0 ≤ t617) = true := decide_eq_true c6
    clear c6
    by_cases c7 : t617 ≤ (l1.length : Int)
    ·rw [if_pos c7] at H
     have c7b0 := eq_true c7
     have c7b1 : decide (t617 ≤ (l1.length : Int)) = true := decide_eq_true c7
     clear c7
     replace H := Option.bind_eq_some_iff.mp H
     obtain ⟨t619, A80, H⟩ := H
     replace H : ((merkle_root.f k (l1.drop (t617 : Int).toNat)).bind fun t623 => (if t619.length < 8796093022208 then (some (t619 ++ [t623])) else (none))) = some r := H
     have A8 := Aside0.mk A80
     clear A80
     have c9b0 := eq_true (of_decide_eq_true (by first | (with_reducible assumption) | assumption) : 0 ≤ t617)
     have c10b0 := eq_true (of_decide_eq_true (by first | (with_reducible assumption) | assumption) : t617 ≤ (l1.length : Int))
     replace H := Option.bind_eq_some_iff.mp H
     obtain ⟨t623, A110, H⟩ := H
     replace H : (if t619.length < 8796093022208 then (some (t619 ++ [t623])) else (none)) = some r := H
     have A11 := Aside0.mk A110
     clear A110
     by_cases c12 : t619.length < 8796093022208
     ·rw [if_pos c12] at H
      have LMc12 := Aside0.mk c12
      clear c12
      obtain ⟨y624, hy624⟩ : ∃ y_ : List ByteArray, y_ = (t619 ++ [t623]) := ⟨_, rfl⟩
      replace H : (some y624) = some r := by first | (rw [hy624]; with_reducible exact H) | (have H2_ := (Option.bind_some _ _).symm.trans H; rw [hy624]; with_reducible exact H2_) | (have H2_ := (Option.bind_some _ _).symm.trans H; with_reducible exact H2_) | with_reducible exact H | (rw [hy624]; exact H) | exact H
      have Ny624 := Aside0.mk hy624
      clear hy624
      obtain rfl := Option.some.inj H
      go_enter Try.func87, Try.ntmps87
      try go_wp2_with (first | ((with_reducible refine gate_callee (f := 91) rfl ?_); refine gl_ (some 11) Try.func91 #[.int .i64 (l1.length : Int)] ?_; (with_reducible refine (merkle_split.calls (l1.length : Int) t617 _ A4.out).mono ?_); rintro e w' ⟨rfl, ⟨nd, rfl⟩⟩; refine ⟨_, rfl, ?_⟩))
      replace HB := Aside0.mk (below_drew1 (pw_below_drewN HB.out nd))
      obtain ⟨i014, hi014, _, hsz14, _⟩ := info_parts info9
      obtain ⟨hcut14, hA14, hC14⟩ := print_take_of (P := Try.prog) Value.string (⟨#[]⟩ : ByteArray) 51 9 .i64 Try.underlying51 hi014 hsz14 A1 c1 l1 t617 (of_decide_eq_true (by first | (with_reducible assumption) | assumption)) (of_decide_eq_true (by first | (with_reducible assumption) | assumption)) HC1.out
      have HR618 := Aside0.mk (Kd.C_of_reads (h1 := fun _ => rfl) (hA14 _ (Kd.reads_of_C HR1.out)))
      have HC618 := Aside0.mk hC14
      clear hA14 hC14 hi014 hsz14
      obtain ⟨i015, hi015, _, hsz15, _⟩ := info_parts info9
      obtain ⟨A15, hcut15, hA15, hC15⟩ := print_drop_of (P := Try.prog) Value.string (⟨#[]⟩ : ByteArray) 51 9 .i64 Try.underlying51 hi015 hsz15 A1 c1 l1 t617 (of_decide_eq_true (by first | (with_reducible assumption) | assumption)) (of_decide_eq_true (by first | (with_reducible assumption) | assumption)) HC1.out
      have HR622 := Aside0.mk (Kd.C_of_reads (h1 := fun _ => rfl) (hA15 _ (Kd.reads_of_C HR1.out)))
      have HC622 := Aside0.mk hC15
      clear hA15 hC15 hi015 hsz15
      refine start_ (n := 12) (S := fun w' => True) (ds := []) #[N_, N_, N_, N_, N_, N_, N_, N_, N_, N_, N_, N_] (by kernel_rfl) rfl rfl trivial (fun hHeld => ?_); refine with_tabW merkle_path.tab5 merkle_path.bits5 (fun HT_ HW_ => ?_)
      generalize (w.drewN nd).drew = w13 at HB HR618 HR622 hHeld ⊢
      refine pure_ (i := 0) (N := some 15) (v := ?_) (a' := ?_) #[Y_, N_, N_, N_, N_, N_, N_, N_, N_, N_, N_, N_] rfl rfl (any_of HT_.out (by kernel_rfl)) (fun _ _ _ h => h) (Or.inl ⟨by rfl, ?_⟩) ?_ ?_
      rotate_left; (intro w'; go_simp; with_reducible rfl); rotate_left; (simp only [Act.put, q1_, q2_, q3_, i64_w, i32_w]; rfl)
      refine pure_ (i := 1) (N := some 16) (v := ?_) (a' := ?_) #[Y_, Y_, N_, N_, N_, N_, N_, N_, N_, N_, N_, N_] rfl rfl (any_of HT_.out (by kernel_rfl)) (fun _ _ _ h => h) (Or.inl ⟨by rfl, ?_⟩) ?_ ?_
      rotate_left; (intro w'; go_simp; with_reducible rfl); rotate_left; (simp only [Act.put, q1_, q2_, q3_, i64_w, i32_w]; rfl)
      refine pure_ (i := 2) (N := some 17) (v := ?_) (a' := ?_) #[Y_, Y_, Y_, N_, N_, N_, N_, N_, N_, N_, N_, N_] rfl rfl (any_of HT_.out (by kernel_rfl)) (fun _ _ _ h => h) (Or.inl ⟨by rfl, ?_⟩) ?_ ?_
      rotate_left; (intro w'; go_simp; with_reducible rfl); rotate_left; (simp only [Act.put, q1_, q2_, q3_, i64_w, i32_w]; rfl)
      refine pure_ (i := 3) (N := some 18) (v := ?_) (a' := ?_) #[Y_, Y_, Y_, Y_, N_, N_, N_, N_, N_, N_, N_, N_] rfl rfl (any_of HT_.out (by kernel_rfl)) (fun _ _ _ h => h) (Or.inl ⟨by rfl, ?_⟩) ?_ ?_
      rotate_left; (intro w'; go_simp; with_reducible rfl); rotate_left; (simp only [Act.put, q1_, q2_, q3_, i64_w, i32_w]; rfl)
      refine pure_ (i := 5) (N := some 20) (v := ?_) (a' := ?_) #[Y_, Y_, Y_, Y_, N_, Y_, N_, N_, N_, N_, N_, N_] rfl rfl (any_of HT_.out (by kernel_rfl)) (fun _ _ _ h => h) (Or.inl ⟨by rfl, ?_⟩) ?_ ?_
      rotate_left; (intro w'; go_simp; with_reducible rfl); rotate_left; (simp only [Act.put, q1_, q2_, q3_, i64_w, i32_w]; rfl)
      refine pure_ (i := 6) (N := some 21) (v := ?_) (a' := ?_) #[Y_, Y_, Y_, Y_, N_, Y_, Y_, N_, N_, N_, N_, N_] rfl rfl (any_of HT_.out (by kernel_rfl)) (fun _ _ _ h => h) (Or.inl ⟨by rfl, ?_⟩) ?_ ?_
      rotate_left; (intro w'; go_simp; with_reducible rfl); rotate_left; (simp only [Act.put, q1_, q2_, q3_, i64_w, i32_w]; rfl)
      refine pure_ (i := 7) (N := some 22) (v := ?_) (a' := ?_) #[Y_, Y_, Y_, Y_, N_, Y_, Y_, Y_, N_, N_, N_, N_] rfl rfl (any_of HT_.out (by kernel_rfl)) (fun _ _ _ h => h) (Or.inl ⟨by rfl, ?_⟩) ?_ ?_
      rotate_left; (intro w'; go_simp; with_reducible rfl); rotate_left; (simp only [Act.put, q1_, q2_, q3_, i64_w, i32_w]; rfl)
      refine one_ (i := 4) (N := some 19) #[Y_, Y_, Y_, Y_, Y_, Y_, Y_, Y_, N_, N_, N_, N_] rfl rfl (one_of HT_.out (by kernel_rfl)) (by decide) (fun K hK => ?_)
      refine goes_ Try.func87 (by kernel_rfl) rfl #[.int .i64 a0, .slice A1 (l1.take (t617 : Int).toNat).length c1] (by rfl) rfl rfl (by (try simp only [List.map_toArray, List.map_cons, List.map_nil]); first | done | (rw [show (l1.take (t617 : Int).toNat).length = t617.toNat from (by rw [List.length_take]; have h_ : (t617 : Int) ≤ (l1.length : Int) := of_decide_eq_true (by first | (with_reducible assumption) | assumption); omega)] <;> rfl) | rfl | (simp only [List.length_drop, List.length_take]; rfl)) ?_
      with_reducible refine (ih k (by omega) a0 _ _ (l1.take (t617 : Int).toNat) t619 _ ?side1 ?side2 A8.out).mono ?_
      (case side1 => repeat (first | exact (Kd.C_below HR618.out HB.out) | (with_reducible refine Kd.C_alloc ?_ _) | (with_reducible refine Kd.C_drewN ?_ _) | (with_reducible refine Kd.C_drew ?_)))
      (case side2 => exact HC618.out)
      rintro e w16 ⟨v620, rfl, ho0, hb⟩
      refine ⟨_, rfl, ?_⟩
      have HO621 := Aside0.mk (Kd.R_lower ho0 (below_size (bh_ HB.out)))
      replace HB := Aside0.mk (below_step (bh_ HB.out) hb)
      (try clear hb)
      (try clear hb2)
      (try clear hk)
      (try clear hi)
      (try clear ho0)
      refine hK.out _ _ trivial (fun hHeld => ?_)
      clear hK K
      refine norm_ (a' := ?_) ?_ ?_
      rotate_left
      ·show Act.put _ (some 19) _ = _
       simp only [Act.put, q1_, q2_, q3_, i64_w, i32_w]
       rfl
      refine one_ (i := 8) (N := some 23) #[Y_, Y_, Y_, Y_, Y_, Y_, Y_, Y_, Y_, N_, N_, N_] rfl rfl (one_of HT_.out (by kernel_rfl)) (by decide) (fun K hK => ?_)
      refine goes_ Try.func74 (by kernel_rfl) rfl #[.slice A15 (l1.drop (t617 : Int).toNat).length (c1 - t617.toNat)] (by rfl) rfl rfl (by (try simp only [List.map_toArray, List.map_cons, List.map_nil]); first | done | (rw [show (l1.drop (t617 : Int).toNat).length = (l1.length - t617.toNat) from List.length_drop] <;> rfl) | rfl | (simp only [List.length_drop, List.length_take]; rfl)) ?_
      with_reducible refine (merkle_root.calls k _ _ (l1.drop (t617 : Int).toNat) t623 _ ?side1 ?side2 A11.out).mono ?_
      (case side1 => repeat (first | exact (Kd.C_below HR622.out HB.out) | (with_reducible refine Kd.C_alloc ?_ _) | (with_reducible refine Kd.C_drewN ?_ _) | (with_reducible refine Kd.C_drew ?_)))
      (case side2 => exact HC622.out)
      rintro e w17 ⟨rfl, hb⟩
      refine ⟨_, rfl, ?_⟩
      replace HO621 := Aside0.mk (Kd.R_below (br_ HO621.out) hb)
      replace HB := Aside0.mk (below_step (bh_ HB.out) hb)
      (try clear hb)
      (try clear hb2)
      (try clear hk)
      (try clear hi)
      refine hK.out _ _ trivial (fun hHeld => ?_)
      clear hK K
      refine norm_ (a' := ?_) ?_ ?_
      rotate_left
      ·show Act.put _ (some 23) _ = _
       simp only [Act.put, q1_, q2_, q3_, i64_w, i32_w]
       rfl
      refine one_ (i := 9) (N := some 24) #[Y_, Y_, Y_, Y_, Y_, Y_, Y_, Y_, Y_, Y_, N_, N_] rfl rfl (one_of HT_.out (by kernel_rfl)) (by decide) (fun K hK => ?_)
      refine value_ (w1 := ?_) (v := ?_) (by rfl) rfl ?_ ?_
      rotate_left 2
      ·go_simp
       constructor
       ·rfl
       ·rfl
      refine hK.out _ _ trivial (fun hHeld => ?_)
      clear hK K
      refine norm_ (a' := ?_) ?_ ?_
      rotate_left
      ·show Act.put _ (some 24) _ = _
       simp only [Act.put, q1_, q2_, q3_, i64_w, i32_w]
       rfl
      refine one_ (i := 10) (N := some 25) #[Y_, Y_, Y_, Y_, Y_, Y_, Y_, Y_, Y_, Y_, Y_, N_] rfl rfl (one_of HT_.out (by kernel_rfl)) (by decide) (fun K hK => ?_)
      refine Kd.R_append_step Kd.string (w0 := w) w.heap.size (by rfl) (.tmp 19) (.tmp 24) 51 9 (.string ⟨#[]⟩) 16 rfl Try.underlying51 info9 rfl (by decide) (by omega) v620 t619 t623 [.string t623] (fun _ => True) (fun _ => False) rfl rfl ?aP (fun _ hk => hk.elim) ?aF ?aO ?aB ?aS ?aL ?_
      (case aP => exact rfl)
      (case aB => exact (bh_ HB.out))
      (case aF => exact (fun _ _ => trivial))
      (case aO => exact (br_ HO621.out))
      (case aS => exact (below_size (bh_ HB.out)))
      (case aL => have := LMc12.out; omega)
      intro v625 w18 ho hb hg hat
      rw [← Ny624.out] at ho
      have n0_ := Aside0.mk (hb)
      have n1_ := Aside0.mk (ho)
      clear HB
      clear HO621
      have HB := n0_
      have HO626 := n1_
      clear n0_ n1_
      clear ho hb hg hat
      refine hK.out _ _ trivial (fun hHeld => ?_)
      clear hK K
      refine norm_ (a' := ?_) ?_ ?_
      rotate_left
      ·show Act.put _ (some 25) _ = _
       simp only [Act.put, q1_, q2_, q3_, i64_w, i32_w]
       rfl
      refine pure_ (i := 11) (N := some 4) (v := ?_) (a' := ?_) #[Y_, Y_, Y_, Y_, Y_, Y_, Y_, Y_, Y_, Y_, Y_, Y_] rfl rfl (any_of HT_.out (by kernel_rfl)) (fun _ _ _ h => h) (Or.inl ⟨by rfl, ?_⟩) ?_ ?_
      rotate_left; (intro w'; go_simp; with_reducible rfl); rotate_left; (simp only [Act.put, q1_, q2_, q3_, i64_w, i32_w]; rfl)
      refine done_ (done_of HT_.out (by kernel_rfl)) ?_
      try go_wp2
      go_ret
      exact ⟨_, by first | rfl | (simp [errW_none, errW_some] <;> rfl) | (simp [*, errW_none, errW_some] <;> rfl), by (with_reducible repeat (first | apply Kd.R_alloc | apply Kd.R_drewN | apply Kd.R_drew)); exact HO626.out, by repeat (first | (with_reducible first | exact HB.out | apply below_alloc | apply pw_below_drewN | apply below_drew1) | exact HB.out)⟩
     ·rw [if_neg c12] at H
      exact absurd H (by simp)
    ·rw [if_neg c7] at H
     exact absurd H (by simp)
   ·rw [if_neg c6] at H
    exact absurd H (by simp)
  ·rw [if_neg c5] at H
   have c5b0 : decide (a0 < t617) = false := decide_eq_false c5
   clear c5
   by_cases c19 : 0 ≤ t617
   ·rw [if_pos c19] at H
    have c19b0 := eq_true c19
    have c19b1 : decide (0 ≤ t617) = true := decide_eq_true c19
    clear c19
    by_cases c20 : t617 ≤ (l1.length : Int)
    ·rw [if_pos c20] at H
     have c20b0 := eq_true c20
     have c20b1 : decide (t617 ≤ (l1.length : Int)) = true := decide_eq_true c20
     clear c20
     replace H := Option.bind_eq_some_iff.mp H
     obtain ⟨t628, A210, H⟩ := H
     replace H : ((merkle_root.f k (l1.take (t617 : Int).toNat)).bind fun t632 => (if t628.length < 8796093022208 then (some (t628 ++ [t632])) else (none))) = some r := H
     have A21 := Aside0.mk A210
     clear A210
     have c22b0 := eq_true (of_decide_eq_true (by first | (with_reducible assumption) | assumption) : 0 ≤ t617)
     have c23b0 := eq_true (of_decide_eq_true (by first | (with_reducible assumption) | assumption) : t617 ≤ (l1.length : Int))
     replace H := Option.bind_eq_some_iff.mp H
     obtain ⟨t632, A240, H⟩ := H
     replace H : (if t628.length < 8796093022208 then (some (t628 ++ [t632])) else (none)) = some r := H
     have A24 := Aside0.mk A240
     clear A240
     by_cases c25 : t628.length < 8796093022208
     ·rw [if_pos c25] at H
      have LMc25 := Aside0.mk c25
      clear c25
      obtain ⟨y633, hy633⟩ : ∃ y_ : List ByteArray, y_ = (t628 ++ [t632]) := ⟨_, rfl⟩
      replace H : (some y633) = some r := by first | (rw [hy633]; with_reducible exact H) | (have H2_ := (Option.bind_some _ _).symm.trans H; rw [hy633]; with_reducible exact H2_) | (have H2_ := (Option.bind_some _ _).symm.trans H; with_reducible exact H2_) | with_reducible exact H | (rw [hy633]; exact H) | exact H
      have Ny633 := Aside0.mk hy633
      clear hy633
      obtain rfl := Option.some.inj H
      go_enter Try.func87, Try.ntmps87
      try go_wp2_with (first | ((with_reducible refine gate_callee (f := 91) rfl ?_); refine gl_ (some 11) Try.func91 #[.int .i64 (l1.length : Int)] ?_; (with_reducible refine (merkle_split.calls (l1.length : Int) t617 _ A4.out).mono ?_); rintro e w' ⟨rfl, ⟨nd, rfl⟩⟩; refine ⟨_, rfl, ?_⟩))
      replace HB := Aside0.mk (below_drew1 (pw_below_drewN HB.out nd))
      obtain ⟨i027, hi027, _, hsz27, _⟩ := info_parts info9
      obtain ⟨A27, hcut27, hA27, hC27⟩ := print_drop_of (P := Try.prog) Value.string (⟨#[]⟩ : ByteArray) 51 9 .i64 Try.underlying51 hi027 hsz27 A1 c1 l1 t617 (of_decide_eq_true (by first | (with_reducible assumption) | assumption)) (of_decide_eq_true (by first | (with_reducible assumption) | assumption)) HC1.out
      have HR627 := Aside0.mk (Kd.C_of_reads (h1 := fun _ => rfl) (hA27 _ (Kd.reads_of_C HR1.out)))
      have HC627 := Aside0.mk hC27
      clear hA27 hC27 hi027 hsz27
      obtain ⟨i028, hi028, _, hsz28, _⟩ := info_parts info9
      obtain ⟨hcut28, hA28, hC28⟩ := print_take_of (P := Try.prog) Value.string (⟨#[]⟩ : ByteArray) 51 9 .i64 Try.underlying51 hi028 hsz28 A1 c1 l1 t617 (of_decide_eq_true (by first | (with_reducible assumption) | assumption)) (of_decide_eq_true (by first | (with_reducible assumption) | assumption)) HC1.out
      have HR631 := Aside0.mk (Kd.C_of_reads (h1 := fun _ => rfl) (hA28 _ (Kd.reads_of_C HR1.out)))
      have HC631 := Aside0.mk hC28
      clear hA28 hC28 hi028 hsz28
      refine start_ (n := 14) (S := fun w' => True) (ds := []) #[N_, N_, N_, N_, N_, N_, N_, N_, N_, N_, N_, N_, N_, N_] (by kernel_rfl) rfl rfl trivial (fun hHeld => ?_); refine with_tabW merkle_path.tab6 merkle_path.bits6 (fun HT_ HW_ => ?_)
      generalize (w.drewN nd).drew = w26 at HB HR627 HR631 hHeld ⊢
      refine pure_ (i := 0) (N := some 26) (v := ?_) (a' := ?_) #[Y_, N_, N_, N_, N_, N_, N_, N_, N_, N_, N_, N_, N_, N_] rfl rfl (any_of HT_.out (by kernel_rfl)) (fun _ _ _ h => h) (Or.inl ⟨by rfl, ?_⟩) ?_ ?_
      rotate_left; (intro w'; go_simp; with_reducible rfl); rotate_left; (simp only [Act.put, q1_, q2_, q3_, i64_w, i32_w]; rfl)
      refine pure_ (i := 1) (N := some 27) (v := ?_) (a' := ?_) #[Y_, Y_, N_, N_, N_, N_, N_, N_, N_, N_, N_, N_, N_, N_] rfl rfl (any_of HT_.out (by kernel_rfl)) (fun _ _ _ h => h) (Or.inl ⟨by rfl, ?_⟩) ?_ ?_
      rotate_left; (intro w'; go_simp; with_reducible rfl); rotate_left; (simp only [Act.put, q1_, q2_, q3_, i64_w, i32_w]; rfl)
      refine pure_ (i := 2) (N := some 28) (v := ?_) (a' := ?_) #[Y_, Y_, Y_, N_, N_, N_, N_, N_, N_, N_, N_, N_, N_, N_] rfl rfl (any_of HT_.out (by kernel_rfl)) (fun _ _ _ h => h) (Or.inl ⟨by rfl, ?_⟩) ?_ ?_
      rotate_left; (intro w'; go_simp; with_reducible rfl); rotate_left; (simp only [Act.put, q1_, q2_, q3_, i64_w, i32_w]; rfl)
      refine pure_ (i := 3) (N := some 29) (v := ?_) (a' := ?_) #[Y_, Y_, Y_, Y_, N_, N_, N_, N_, N_, N_, N_, N_, N_, N_] rfl rfl (any_of HT_.out (by kernel_rfl)) (fun _ _ _ h => h) (Or.inl ⟨by rfl, ?_⟩) ?_ ?_
      rotate_left; (intro w'; go_simp; with_reducible rfl); rotate_left; (simp only [Act.put, q1_, q2_, q3_, i64_w, i32_w]; rfl)
      refine pure_ (i := 4) (N := some 30) (v := ?_) (a' := ?_) #[Y_, Y_, Y_, Y_, Y_, N_, N_, N_, N_, N_, N_, N_, N_, N_] rfl rfl (any_of HT_.out (by kernel_rfl)) (fun _ _ _ h => h) (Or.inl ⟨by rfl, ?_⟩) ?_ ?_
      rotate_left; (intro w'; go_simp; with_reducible rfl); rotate_left; (simp only [Act.put, q1_, q2_, q3_, i64_w, i32_w]; rfl)
      refine pure_ (i := 5) (N := some 31) (v := ?_) (a' := ?_) #[Y_, Y_, Y_, Y_, Y_, Y_, N_, N_, N_, N_, N_, N_, N_, N_] rfl rfl (any_of HT_.out (by kernel_rfl)) (fun _ _ _ h => h) (Or.inl ⟨by rfl, ?_⟩) ?_ ?_
      rotate_left; (intro w'; go_simp; with_reducible rfl); rotate_left; (simp only [Act.put, q1_, q2_, q3_, i64_w, i32_w]; rfl)
      refine pure_ (i := 7) (N := some 33) (v := ?_) (a' := ?_) #[Y_, Y_, Y_, Y_, Y_, Y_, N_, Y_, N_, N_, N_, N_, N_, N_] rfl rfl (any_of HT_.out (by kernel_rfl)) (fun _ _ _ h => h) (Or.inl ⟨by rfl, ?_⟩) ?_ ?_
      rotate_left; (intro w'; go_simp; with_reducible rfl); rotate_left; (simp only [Act.put, q1_, q2_, q3_, i64_w, i32_w]; rfl)
      refine pure_ (i := 8) (N := some 34) (v := ?_) (a' := ?_) #[Y_, Y_, Y_, Y_, Y_, Y_, N_, Y_, Y_, N_, N_, N_, N_, N_] rfl rfl (any_of HT_.out (by kernel_rfl)) (fun _ _ _ h => h) (Or.inl ⟨by rfl, ?_⟩) ?_ ?_
      rotate_left; (intro w'; go_simp; with_reducible rfl); rotate_left; (simp only [Act.put, q1_, q2_, q3_, i64_w, i32_w]; rfl)
      refine pure_ (i := 9) (N := some 35) (v := ?_) (a' := ?_) #[Y_, Y_, Y_, Y_, Y_, Y_, N_, Y_, Y_, Y_, N_, N_, N_, N_] rfl rfl (any_of HT_.out (by kernel_rfl)) (fun _ _ _ h => h) (Or.inl ⟨by rfl, ?_⟩) ?_ ?_
      rotate_left; (intro w'; go_simp; with_reducible rfl); rotate_left; (simp only [Act.put, q1_, q2_, q3_, i64_w, i32_w]; rfl)
      refine one_ (i := 6) (N := some 32) #[Y_, Y_, Y_, Y_, Y_, Y_, Y_, Y_, Y_, Y_, N_, N_, N_, N_] rfl rfl (one_of HT_.out (by kernel_rfl)) (by decide) (fun K hK => ?_)
      refine goes_ Try.func87 (by kernel_rfl) rfl #[.int .i64 (wrap64 (a0 - t617)), .slice A27 (l1.drop (t617 : Int).toNat).length (c1 - t617.toNat)] (by rfl) rfl rfl (by (try simp only [List.map_toArray, List.map_cons, List.map_nil]); first | done | (rw [show (l1.drop (t617 : Int).toNat).length = (l1.length - t617.toNat) from List.length_drop] <;> rfl) | rfl | (simp only [List.length_drop, List.length_take]; rfl)) ?_
      with_reducible refine (ih k (by omega) (wrap64 (a0 - t617)) _ _ (l1.drop (t617 : Int).toNat) t628 _ ?side1 ?side2 A21.out).mono ?_
      (case side1 => repeat (first | exact (Kd.C_below HR627.out HB.out) | (with_reducible refine Kd.C_alloc ?_ _) | (with_reducible refine Kd.C_drewN ?_ _) | (with_reducible refine Kd.C_drew ?_)))
      (case side2 => exact HC627.out)
      rintro e w29 ⟨v629, rfl, ho0, hb⟩
      refine ⟨_, rfl, ?_⟩
      have HO630 := Aside0.mk (Kd.R_lower ho0 (below_size (bh_ HB.out)))
      replace HB := Aside0.mk (below_step (bh_ HB.out) hb)
      (try clear hb)
      (try clear hb2)
      (try clear hk)
      (try clear hi)
      (try clear ho0)
      refine hK.out _ _ trivial (fun hHeld => ?_)
      clear hK K
      refine norm_ (a' := ?_) ?_ ?_
      rotate_left
      ·show Act.put _ (some 32) _ = _
       simp only [Act.put, q1_, q2_, q3_, i64_w, i32_w]
       rfl
      refine one_ (i := 10) (N := some 36) #[Y_, Y_, Y_, Y_, Y_, Y_, Y_, Y_, Y_, Y_, Y_, N_, N_, N_] rfl rfl (one_of HT_.out (by kernel_rfl)) (by decide) (fun K hK => ?_)
      refine goes_ Try.func74 (by kernel_rfl) rfl #[.slice A1 (l1.take (t617 : Int).toNat).length c1] (by rfl) rfl rfl (by (try simp only [List.map_toArray, List.map_cons, List.map_nil]); first | done | (rw [show (l1.take (t617 : Int).toNat).length = t617.toNat from (by rw [List.length_take]; have h_ : (t617 : Int) ≤ (l1.length : Int) := of_decide_eq_true (by first | (with_reducible assumption) | assumption); omega)] <;> rfl) | rfl | (simp only [List.length_drop, List.length_take]; rfl)) ?_
      with_reducible refine (merkle_root.calls k _ _ (l1.take (t617 : Int).toNat) t632 _ ?side1 ?side2 A24.out).mono ?_
      (case side1 => repeat (first | exact (Kd.C_below HR631.out HB.out) | (with_reducible refine Kd.C_alloc ?_ _) | (with_reducible refine Kd.C_drewN ?_ _) | (with_reducible refine Kd.C_drew ?_)))
      (case side2 => exact HC631.out)
      rintro e w30 ⟨rfl, hb⟩
      refine ⟨_, rfl, ?_⟩
      replace HO630 := Aside0.mk (Kd.R_below (br_ HO630.out) hb)
      replace HB := Aside0.mk (below_step (bh_ HB.out) hb)
      (try clear hb)
      (try clear hb2)
      (try clear hk)
      (try clear hi)
      refine hK.out _ _ trivial (fun hHeld => ?_)
      clear hK K
      refine norm_ (a' := ?_) ?_ ?_
      rotate_left
      ·show Act.put _ (some 36) _ = _
       simp only [Act.put, q1_, q2_, q3_, i64_w, i32_w]
       rfl
      refine one_ (i := 11) (N := some 37) #[Y_, Y_, Y_, Y_, Y_, Y_, Y_, Y_, Y_, Y_, Y_, Y_, N_, N_] rfl rfl (one_of HT_.out (by kernel_rfl)) (by decide) (fun K hK => ?_)
      refine value_ (w1 := ?_) (v := ?_) (by rfl) rfl ?_ ?_
      rotate_left 2
      ·go_simp
       constructor
       ·rfl
       ·rfl
      refine hK.out _ _ trivial (fun hHeld => ?_)
      clear hK K
      refine norm_ (a' := ?_) ?_ ?_
      rotate_left
      ·show Act.put _ (some 37) _ = _
       simp only [Act.put, q1_, q2_, q3_, i64_w, i32_w]
       rfl
      refine one_ (i := 12) (N := some 38) #[Y_, Y_, Y_, Y_, Y_, Y_, Y_, Y_, Y_, Y_, Y_, Y_, Y_, N_] rfl rfl (one_of HT_.out (by kernel_rfl)) (by decide) (fun K hK => ?_)
      refine Kd.R_append_step Kd.string (w0 := w) w.heap.size (by rfl) (.tmp 32) (.tmp 37) 51 9 (.string ⟨#[]⟩) 16 rfl Try.underlying51 info9 rfl (by decide) (by omega) v629 t628 t632 [.string t632] (fun _ => True) (fun _ => False) rfl rfl ?aP (fun _ hk => hk.elim) ?aF ?aO ?aB ?aS ?aL ?_
      (case aP => exact rfl)
      (case aB => exact (bh_ HB.out))
      (case aF => exact (fun _ _ => trivial))
      (case aO => exact (br_ HO630.out))
      (case aS => exact (below_size (bh_ HB.out)))
      (case aL => have := LMc25.out; omega)
      intro v634 w31 ho hb hg hat
      rw [← Ny633.out] at ho
      have n0_ := Aside0.mk (hb)
      have n1_ := Aside0.mk (ho)
      clear HB
      clear HO630
      have HB := n0_
      have HO635 := n1_
      clear n0_ n1_
      clear ho hb hg hat
      refine hK.out _ _ trivial (fun hHeld => ?_)
      clear hK K
      refine norm_ (a' := ?_) ?_ ?_
      rotate_left
      ·show Act.put _ (some 38) _ = _
       simp only [Act.put, q1_, q2_, q3_, i64_w, i32_w]
       rfl
      refine pure_ (i := 13) (N := some 4) (v := ?_) (a' := ?_) #[Y_, Y_, Y_, Y_, Y_, Y_, Y_, Y_, Y_, Y_, Y_, Y_, Y_, Y_] rfl rfl (any_of HT_.out (by kernel_rfl)) (fun _ _ _ h => h) (Or.inl ⟨by rfl, ?_⟩) ?_ ?_
      rotate_left; (intro w'; go_simp; with_reducible rfl); rotate_left; (simp only [Act.put, q1_, q2_, q3_, i64_w, i32_w]; rfl)
      refine done_ (done_of HT_.out (by kernel_rfl)) ?_
      try go_wp2
      go_ret
      exact ⟨_, by first | rfl | (simp [errW_none, errW_some] <;> rfl) | (simp [*, errW_none, errW_some] <;> rfl), by (with_reducible repeat (first | apply Kd.R_alloc | apply Kd.R_drewN | apply Kd.R_drew)); exact HO635.out, by repeat (first | (with_reducible first | exact HB.out | apply below_alloc | apply pw_below_drewN | apply below_drew1) | exact HB.out)⟩
     ·rw [if_neg c25] at H
      exact absurd H (by simp)
    ·rw [if_neg c20] at H
     exact absurd H (by simp)
   ·rw [if_neg c19] at H
    exact absurd H (by simp)
/-! ### parchmentlaw22_climb: function 52 -/
mutual
def parchmentlaw22_climb.l0 : Nat → ByteArray → Int → Int → List ByteArray → List Bool → Option (ByteArray × Bool)
 | 0, _, _, _, _, _ => none
 | k + 1, x0, x1, x2, x3, x10 => if x2 > 1 then (parchmentlaw22_climb.l1 k x0 x1 x2 x3 x10 1) else (if (x10.length : Int) = (x3.length : Int) then (parchmentlaw22_climb.l2 k x0 x3 x10 0) else (some ((⟨#[]⟩ : ByteArray), false)))
def parchmentlaw22_climb.l1 : Nat → ByteArray → Int → Int → List ByteArray → List Bool → Int → Option (ByteArray × Bool)
 | 0, _, _, _, _, _, _ => none
 | k + 1, x0, x1, x2, x3, x10, x11 => if (wrap64 (x11 + x11)) < x2 then (parchmentlaw22_climb.l1 k x0 x1 x2 x3 x10 (wrap64 (x11 + x11))) else (if x1 < x11 then (if x10.length < 140737488355328 then (parchmentlaw22_climb.l0 k x0 x1 x11 x3 (x10 ++ [false])) else (none)) else (if x10.length < 140737488355328 then (parchmentlaw22_climb.l0 k x0 (wrap64 (x1 - x11)) (wrap64 (x2 - x11)) x3 (x10 ++ [true])) else (none)))
def parchmentlaw22_climb.l2 : Nat → ByteArray → List ByteArray → List Bool → Int → Option (ByteArray × Bool)
 | 0, _, _, _, _ => none
 | k + 1, x0, x3, x10, x12 => if x12 < (x3.length : Int) then (if 0 ≤ x12 then (if ((rdOf ByteArray.empty x3 x12).size : Int) = 32 then (if 0 ≤ (wrap64 ((wrap64 ((x10.length : Int) - 1)) - x12)) then (if (wrap64 ((wrap64 ((x10.length : Int) - 1)) - x12)) < (x10.length : Int) then (if rdOf false x10 (wrap64 ((wrap64 ((x10.length : Int) - 1)) - x12)) = true then ((parchmentref01_Node.f (rdOf ByteArray.empty x3 x12) x0).bind fun t655 => (parchmentlaw22_climb.l2 k t655 x3 x10 (wrap64 (x12 + 1)))) else ((parchmentref01_Node.f x0 (rdOf ByteArray.empty x3 x12)).bind fun t657 => (parchmentlaw22_climb.l2 k t657 x3 x10 (wrap64 (x12 + 1))))) else (none)) else (none)) else (some ((⟨#[]⟩ : ByteArray), false))) else (none)) else (some (x0, true))
end
def parchmentlaw22_climb.f (k : Nat) (a0 : ByteArray) (a1 : Int) (a2 : Int) (l3 : List ByteArray) : Option (ByteArray × Bool) := parchmentlaw22_climb.l0 k a0 a1 a2 l3 (([] : List Bool))
set_option maxHeartbeats 8000000 in
set_option maxRecDepth 100000 in
theorem parchmentlaw22_climb.calls (k : Nat) (a0 : ByteArray) (a1 : Int) (a2 : Int) (A3 : Option Addr) (c3 : Nat) (l3 : List ByteArray) (r1 : ByteArray) (r2 : Bool) (w : World) (hr3 : Kd.C Kd.string w A3 l3.length l3) (hc3 : l3.length ≤ c3) (h : parchmentlaw22_climb.f k a0 a1 a2 l3 = some (r1, r2)) :
  Calls Try.prog 52 #[.string a0, .int .i64 a1, .int .i64 a2, .slice A3 l3.length c3] w fun e w' => e = .returned (.tuple #[.string r1, .bool r2]) ∧ Below w.heap.size w w' := by
 have HR3 := Aside0.mk hr3
 have HC3 := Aside0.mk hc3
 clear hr3 hc3
 have HB := Aside0.mk (Below.refl w.heap.size w)
 have H : (parchmentlaw22_climb.l0 k a0 a1 a2 l3 (([] : List Bool))) = some (r1, r2) := h
 clear h
 obtain ⟨y643, hy643⟩ : ∃ y_ : List Bool, y_ = (([] : List Bool)) := ⟨_, rfl⟩
 replace H : (parchmentlaw22_climb.l0 k a0 a1 a2 l3 y643) = some (r1, r2) := by first | (rw [hy643]; with_reducible exact H) | (have H2_ := (Option.bind_some _ _).symm.trans H; rw [hy643]; with_reducible exact H2_) | (have H2_ := (Option.bind_some _ _).symm.trans H; with_reducible exact H2_) | with_reducible exact H | (rw [hy643]; exact H) | exact H
 have Ny643 := Aside0.mk hy643
 clear hy643
 have H' := Aside0.mk H
 clear H
 go_enter Try.func52, Try.ntmps52
 go_wp2_with (first | ((with_reducible refine gate_dst (N := 13) rfl ?_); refine Kd.R_lit Kd.bool _ 4 ?hg (N := 13) ?hd (xs := ([] : List Bool)) (inner := []) (ok := fun _ => True) (okp := fun _ => True) ?hr ?hp (fun _ hk => hk) trivial (Below.refl _ _) (Nat.le_refl _) (by simp) ?_; (case hd => rfl); (case hg => rfl); (case hr => first | (go_simp; done) | (go_simp; rfl)); (case hp => exact (Reps.none _ _)); intro v644 w5 ho6 hb hg_ hnew_; clear hg_ hnew_; (first | rw [← Ny643.out] at ho6 | (simp only [Int.reduceToNat] at ho6; rw [← Ny643.out] at ho6)); have HO645 := Aside0.mk (Kd.R_lower ho6 (below_size (bh_ HB.out))); replace HB := Aside0.mk (below_step (bh_ HB.out) hb); clear hb ho6))
 go_loopg [1, 2, 10] k (fun kq v1 v2 v10 w' => ∃ (x1_1 : Int) (x2_1 : Int) (x10_1 : List Bool), v1 = .int .i64 x1_1 ∧ v2 = .int .i64 x2_1 ∧ Aside0 (parchmentlaw22_climb.l0 kq a0 x1_1 x2_1 l3 x10_1 = some (r1, r2)) ∧ Aside0 (kq ≤ k) ∧ Aside0 (Kd.R Kd.bool 4 w' w.heap.size (fun _ => True) v10 x10_1) ∧ Aside0 (Below w.heap.size w w'))
 case atStart => exact ⟨(a1), (a2), (y643), (by first | rfl | (simp; done) | (simp [*]; done)), (by first | rfl | (simp; done) | (simp [*]; done)), H', ⟨Nat.le_refl _⟩, ⟨br_ HO645.out⟩, ⟨bh_ HB.out⟩⟩
 case round =>
  clear H'
  try clear p2
  try clear c3
  try clear c5
  obtain ⟨x1_1, x2_1, x10_1, rfl, rfl, HA, HK1, HO_10, HB⟩ := hrel
  cases gk with
  | zero => exact absurd HA.out (by simp [parchmentlaw22_climb.l0])
  | succ k1 =>
   have H := HA.out
   clear HA
   simp only [parchmentlaw22_climb.l0] at H
   by_cases c7 : x2_1 > 1
   ·rw [if_pos c7] at H
    have c7b0 : decide (1 < x2_1) = true := decide_eq_true c7
    clear c7
    have H' := Aside0.mk H
    clear H
    go_wp2
    go_loopg [11] k1 (fun kq v11 w' => ∃ (x11_2 : Int), v11 = .int .i64 x11_2 ∧ Aside0 (parchmentlaw22_climb.l1 kq a0 x1_1 x2_1 l3 x10_1 x11_2 = some (r1, r2)) ∧ Aside0 (kq ≤ k1) ∧ Aside0 (Kd.R Kd.bool 4 w' w.heap.size (fun _ => True) u10 x10_1) ∧ Aside0 (Below w.heap.size w w'))
    case atStart => exact ⟨(1), (by first | rfl | (simp; done) | (simp [*]; done)), H', ⟨Nat.le_refl _⟩, ⟨br_ HO_10.out⟩, ⟨bh_ HB.out⟩⟩
    case round =>
     clear H'
     try clear p2
     try clear c3
     try clear c5
     try clear c7
     try clear c7b0
     try clear p2
     obtain ⟨x11_2, rfl, HA, HK2, HO_10, HB⟩ := hrel
     cases gk with
     | zero => exact absurd HA.out (by simp [parchmentlaw22_climb.l1])
     | succ k2 =>
      have H := HA.out
      clear HA
      simp only [parchmentlaw22_climb.l1] at H
      by_cases c8 : (wrap64 (x11_2 + x11_2)) < x2_1
      ·rw [if_pos c8] at H
       have c8b0 : decide ((wrap64 (x11_2 + x11_2)) < x2_1) = true := decide_eq_true c8
       clear c8
       have H' := Aside0.mk H
       clear H
       go_wp2
       go_roundg k2
       case measure => have := HK1.out; have := HK2.out; omega
       case rel => exact ⟨(wrap64 (x11_2 + x11_2)), (by first | rfl | (simp; done) | (simp [*]; done)), H', ⟨by have := HK1.out; have := HK2.out; omega⟩, ⟨br_ HO_10.out⟩, ⟨bh_ HB.out⟩⟩
      ·rw [if_neg c8] at H
       have c8b0 : decide ((wrap64 (x11_2 + x11_2)) < x2_1) = false := decide_eq_false c8
       clear c8
       by_cases c9 : x1_1 < x11_2
       ·rw [if_pos c9] at H
        have c9b0 : decide (x1_1 < x11_2) = true := decide_eq_true c9
        clear c9
        by_cases c10 : x10_1.length < 140737488355328
        ·rw [if_pos c10] at H
         have LMc10 := Aside0.mk c10
         clear c10
         obtain ⟨y646, hy646⟩ : ∃ y_ : List Bool, y_ = (x10_1 ++ [false]) := ⟨_, rfl⟩
         replace H : (parchmentlaw22_climb.l0 k2 a0 x1_1 x11_2 l3 y646) = some (r1, r2) := by first | (rw [hy646]; with_reducible exact H) | (have H2_ := (Option.bind_some _ _).symm.trans H; rw [hy646]; with_reducible exact H2_) | (have H2_ := (Option.bind_some _ _).symm.trans H; with_reducible exact H2_) | with_reducible exact H | (rw [hy646]; exact H) | exact H
         have Ny646 := Aside0.mk hy646
         clear hy646
         have H' := Aside0.mk H
         clear H
         go_wp2_with (first | ((with_reducible refine gate_builtin (b := .append) (xs := #[.tmp 27, .tmp 28]) rfl ?_); at_builtin; refine Kd.R_append Kd.bool (w0 := w) w.heap.size rfl (.tmp 27) (.tmp 28) 133 4 (.bool false) 1 rfl Try.underlying133 info4 rfl (by decide) (by omega) u10 x10_1 false [.bool false] (fun _ => True) (fun _ => False) rfl rfl ?aP (fun _ hk => hk.elim) ?aF ?aO ?aB ?aS ?aL ?_; (case aP => exact rfl); (case aB => exact (bh_ HB.out)); (case aF => exact (fun _ _ => trivial)); (case aO => exact (br_ HO_10.out)); (case aS => exact (below_size (bh_ HB.out))); (case aL => have := LMc10.out; omega); intro v647 w11 ho hb hg hat; rw [← Ny646.out] at ho; have n0_ := Aside0.mk (hb); have n1_ := Aside0.mk (ho); clear HB; clear HO_10; have HB := n0_; have HO648 := n1_; clear n0_ n1_; clear ho hb hg hat))
         go_roundg k2
         case measure => have := HK1.out; have := HK2.out; omega
         case rel => exact ⟨(x1_1), (x11_2), (y646), (by first | rfl | (simp; done) | (simp [*]; done)), (by first | rfl | (simp; done) | (simp [*]; done)), H', ⟨by have := HK1.out; have := HK2.out; omega⟩, ⟨br_ HO648.out⟩, ⟨bh_ HB.out⟩⟩
        ·rw [if_neg c10] at H
         exact absurd H (by simp)
       ·rw [if_neg c9] at H
        have c9b0 : decide (x1_1 < x11_2) = false := decide_eq_false c9
        clear c9
        by_cases c12 : x10_1.length < 140737488355328
        ·rw [if_pos c12] at H
         have LMc12 := Aside0.mk c12
         clear c12
         obtain ⟨y649, hy649⟩ : ∃ y_ : List Bool, y_ = (x10_1 ++ [true]) := ⟨_, rfl⟩
         replace H : (parchmentlaw22_climb.l0 k2 a0 (wrap64 (x1_1 - x11_2)) (wrap64 (x2_1 - x11_2)) l3 y649) = some (r1, r2) := by first | (rw [hy649]; with_reducible exact H) | (have H2_ := (Option.bind_some _ _).symm.trans H; rw [hy649]; with_reducible exact H2_) | (have H2_ := (Option.bind_some _ _).symm.trans H; with_reducible exact H2_) | with_reducible exact H | (rw [hy649]; exact H) | exact H
         have Ny649 := Aside0.mk hy649
         clear hy649
         have H' := Aside0.mk H
         clear H
         go_wp2_with (first | ((with_reducible refine gate_builtin (b := .append) (xs := #[.tmp 31, .tmp 32]) rfl ?_); at_builtin; refine Kd.R_append Kd.bool (w0 := w) w.heap.size rfl (.tmp 31) (.tmp 32) 133 4 (.bool false) 1 rfl Try.underlying133 info4 rfl (by decide) (by omega) u10 x10_1 true [.bool true] (fun _ => True) (fun _ => False) rfl rfl ?aP (fun _ hk => hk.elim) ?aF ?aO ?aB ?aS ?aL ?_; (case aP => exact rfl); (case aB => exact (bh_ HB.out)); (case aF => exact (fun _ _ => trivial)); (case aO => exact (br_ HO_10.out)); (case aS => exact (below_size (bh_ HB.out))); (case aL => have := LMc12.out; omega); intro v650 w13 ho hb hg hat; rw [← Ny649.out] at ho; have n0_ := Aside0.mk (hb); have n1_ := Aside0.mk (ho); clear HB; clear HO_10; have HB := n0_; have HO651 := n1_; clear n0_ n1_; clear ho hb hg hat))
         go_roundg k2
         case measure => have := HK1.out; have := HK2.out; omega
         case rel => exact ⟨(wrap64 (x1_1 - x11_2)), (wrap64 (x2_1 - x11_2)), (y649), (by first | rfl | (simp; done) | (simp [*]; done)), (by first | rfl | (simp; done) | (simp [*]; done)), H', ⟨by have := HK1.out; have := HK2.out; omega⟩, ⟨br_ HO651.out⟩, ⟨bh_ HB.out⟩⟩
        ·rw [if_neg c12] at H
         exact absurd H (by simp)
   ·rw [if_neg c7] at H
    have c7b0 : decide (1 < x2_1) = false := decide_eq_false c7
    clear c7
    by_cases c14 : (x10_1.length : Int) = (l3.length : Int)
    ·rw [if_pos c14] at H
     have c14b0 : ((x10_1.length : Int) == (l3.length : Int)) = true := beq_iff_eq.mpr c14
     have c14b1 : ((x10_1.length : Int) != (l3.length : Int)) = false := bne_eq_false_iff_eq.mpr c14
     have c14b2 : (x10_1.length == l3.length) = true := by first | simpa using c14 | (simp at c14 ⊢; omega)
     clear c14
     have H' := Aside0.mk H
     clear H
     obtain ⟨Ao15, co15, eo15⟩ := Kd.R_slice HO_10.out
     subst eo15
     go_wp2
     go_loopg [0, 12] k1 (fun kq v0 v12 w' => ∃ (x0_2 : ByteArray) (x12_2 : Int), v0 = .string x0_2 ∧ v12 = .int .i64 x12_2 ∧ Aside0 (parchmentlaw22_climb.l2 kq x0_2 l3 x10_1 x12_2 = some (r1, r2)) ∧ Aside0 (kq ≤ k1) ∧ Aside0 (Kd.R Kd.bool 4 w' w.heap.size (fun _ => True) (.slice Ao15 x10_1.length co15) x10_1) ∧ Aside0 (Below w.heap.size w w'))
     case atStart => exact ⟨(a0), (0), (by first | rfl | (simp; done) | (simp [*]; done)), (by first | rfl | (simp; done) | (simp [*]; done)), H', ⟨Nat.le_refl _⟩, ⟨br_ HO_10.out⟩, ⟨bh_ HB.out⟩⟩
     case round =>
      clear H'
      try clear c1
      try clear p2
      try clear c3
      try clear c5
      try clear p6
      try clear c7
      try clear c7b0
      try clear c8
      try clear c8b0
      try clear c9
      try clear c9b0
      try clear c10
      try clear c12
      try clear c14
      try clear c14b0
      try clear c14b1
      try clear c14b2
      try clear p2
      obtain ⟨x0_2, x12_2, rfl, rfl, HA, HK2, HO_10, HB⟩ := hrel
      cases gk with
      | zero => exact absurd HA.out (by simp [parchmentlaw22_climb.l2])
      | succ k2 =>
       have H := HA.out
       clear HA
       simp only [parchmentlaw22_climb.l2] at H
       by_cases c16 : x12_2 < (l3.length : Int)
       ·rw [if_pos c16] at H
        have c16b0 : decide (x12_2 < (l3.length : Int)) = true := decide_eq_true c16
        clear c16
        by_cases c17 : 0 ≤ x12_2
        ·rw [if_pos c17] at H
         have c17b0 : decide (0 ≤ x12_2) = true := decide_eq_true c17
         clear c17
         by_cases c18 : ((rdOf ByteArray.empty l3 x12_2).size : Int) = 32
         ·rw [if_pos c18] at H
          have c18b0 : (((rdOf ByteArray.empty l3 x12_2).size : Int) == 32) = true := beq_iff_eq.mpr c18
          have c18b1 : (((rdOf ByteArray.empty l3 x12_2).size : Int) != 32) = false := bne_eq_false_iff_eq.mpr c18
          clear c18
          obtain ⟨ji19, hji19⟩ : ∃ j_ : Int, (wrap64 ((wrap64 ((x10_1.length : Int) - 1)) - x12_2)) = j_ := ⟨_, rfl⟩
          replace H : (if 0 ≤ (ji19) then (if (ji19) < (x10_1.length : Int) then (if rdOf false x10_1 (ji19) = true then ((parchmentref01_Node.f (rdOf ByteArray.empty l3 x12_2) x0_2).bind fun t655 => (parchmentlaw22_climb.l2 k2 t655 l3 x10_1 (wrap64 (x12_2 + 1)))) else ((parchmentref01_Node.f x0_2 (rdOf ByteArray.empty l3 x12_2)).bind fun t657 => (parchmentlaw22_climb.l2 k2 t657 l3 x10_1 (wrap64 (x12_2 + 1))))) else (none)) else (none)) = some (r1, r2) := by first | (rw [hji19] at H; exact H) | (simp only [hji19] at H ⊢; exact H)
          have hji19w : (IntKind.i64.wrap ((wrap64 ((x10_1.length : Int) - 1)) - x12_2)) = ji19 := (i64_w _).trans hji19
          by_cases c20 : 0 ≤ (ji19)
          ·rw [if_pos c20] at H
           have c20b0 : decide (0 ≤ (ji19)) = true := decide_eq_true c20
           clear c20
           by_cases c21 : (ji19) < (x10_1.length : Int)
           ·rw [if_pos c21] at H
            have c21b0 : decide ((ji19) < (x10_1.length : Int)) = true := decide_eq_true c21
            clear c21
            obtain ⟨bq22, hbq22⟩ : ∃ b_ : Bool, b_ = (rdOf false x10_1 (ji19)) := ⟨_, rfl⟩
            replace H : (if bq22 = true then ((parchmentref01_Node.f (rdOf ByteArray.empty l3 x12_2) x0_2).bind fun t655 => (parchmentlaw22_climb.l2 k2 t655 l3 x10_1 (wrap64 (x12_2 + 1)))) else ((parchmentref01_Node.f x0_2 (rdOf ByteArray.empty l3 x12_2)).bind fun t657 => (parchmentlaw22_climb.l2 k2 t657 l3 x10_1 (wrap64 (x12_2 + 1))))) = some (r1, r2) := by rw [← hbq22] at H; exact H
            have Nbq22 := Aside0.mk hbq22
            clear hbq22
            by_cases c23 : bq22 = true
            ·subst c23
             have H1 : ((parchmentref01_Node.f (rdOf ByteArray.empty l3 x12_2) x0_2).bind fun t655 => (parchmentlaw22_climb.l2 k2 t655 l3 x10_1 (wrap64 (x12_2 + 1)))) = some (r1, r2) := by rw [if_pos rfl] at H; exact H
             clear H
             have H := H1
             clear H1
             replace H := Option.bind_eq_some_iff.mp H
             obtain ⟨t655, A240, H⟩ := H
             replace H : (parchmentlaw22_climb.l2 k2 t655 l3 x10_1 (wrap64 (x12_2 + 1))) = some (r1, r2) := H
             have A24 := Aside0.mk A240
             clear A240
             have H' := Aside0.mk H
             clear H
             have p652 : 0 ≤ (x12_2 : Int) := of_decide_eq_true (by first | (with_reducible assumption) | assumption)
             have q652 : x12_2 < (l3.length : Int) := of_decide_eq_true (by first | (with_reducible assumption) | assumption)
             obtain ⟨ad652, e652, hx652_0⟩ := Kd.at_string HR3.out x12_2 p652 q652
             cases e652
             replace hx652_0 := (HB.out.cell (World.block_lt_of_cell? w _ hx652_0)).trans hx652_0
             replace p652 := eq_true p652
             replace q652 := eq_true q652
             have p653 : 0 ≤ ((ji19) : Int) := of_decide_eq_true (by first | (with_reducible assumption) | assumption)
             have q653 : (ji19) < (x10_1.length : Int) := of_decide_eq_true (by first | (with_reducible assumption) | assumption)
             obtain ⟨ad653, e653, hx653_0⟩ := Kd.at_bool (Kd.R_reads' HO_10.out).2.2 (ji19) p653 q653
             (try rw [← Nbq22.out] at hx653_0)
             cases e653
             replace p653 := eq_true p653
             replace q653 := eq_true q653
             have p654 : 0 ≤ (x12_2 : Int) := of_decide_eq_true (by first | (with_reducible assumption) | assumption)
             have q654 : x12_2 < (l3.length : Int) := of_decide_eq_true (by first | (with_reducible assumption) | assumption)
             obtain ⟨ad654, e654, hx654_0⟩ := Kd.at_string HR3.out x12_2 p654 q654
             obtain rfl : ad652 = ad654 := (by injection e654)
             replace hx654_0 := (HB.out.cell (World.block_lt_of_cell? w _ hx654_0)).trans hx654_0
             replace p654 := eq_true p654
             replace q654 := eq_true q654
             go_wp2_with (first | ((with_reducible refine gate_callee (f := 60) rfl ?_); refine gl_ (some 70) Try.func60 #[.string (rdOf ByteArray.empty l3 x12_2), .string x0_2] ?_; (with_reducible refine (parchmentref01_Node.calls (rdOf ByteArray.empty l3 x12_2) x0_2 t655 _ A24.out).mono ?_); rintro e w25 ⟨rfl, hb⟩; refine ⟨_, rfl, ?_⟩; replace HO_10 := Aside0.mk (Kd.R_below (br_ HO_10.out) hb); replace HB := Aside0.mk (below_step (bh_ HB.out) hb); (try clear hb)))
             go_roundg k2
             case measure => have := HK1.out; have := HK2.out; omega
             case rel => exact ⟨(t655), (wrap64 (x12_2 + 1)), (by first | rfl | (simp; done) | (simp [*]; done)), (by first | rfl | (simp; done) | (simp [*]; done)), H', ⟨by have := HK1.out; have := HK2.out; omega⟩, ⟨br_ HO_10.out⟩, ⟨bh_ HB.out⟩⟩
            ·replace c23 := Bool.eq_false_iff.mpr c23
             subst c23
             have H1 : ((parchmentref01_Node.f x0_2 (rdOf ByteArray.empty l3 x12_2)).bind fun t657 => (parchmentlaw22_climb.l2 k2 t657 l3 x10_1 (wrap64 (x12_2 + 1)))) = some (r1, r2) := by rw [if_neg (show ¬ (false = true) by decide)] at H; exact H
             clear H
             have H := H1
             clear H1
             replace H := Option.bind_eq_some_iff.mp H
             obtain ⟨t657, A260, H⟩ := H
             replace H : (parchmentlaw22_climb.l2 k2 t657 l3 x10_1 (wrap64 (x12_2 + 1))) = some (r1, r2) := H
             have A26 := Aside0.mk A260
             clear A260
             have H' := Aside0.mk H
             clear H
             have p652 : 0 ≤ (x12_2 : Int) := of_decide_eq_true (by first | (with_reducible assumption) | assumption)
             have q652 : x12_2 < (l3.length : Int) := of_decide_eq_true (by first | (with_reducible assumption) | assumption)
             obtain ⟨ad652, e652, hx652_0⟩ := Kd.at_string HR3.out x12_2 p652 q652
             cases e652
             replace hx652_0 := (HB.out.cell (World.block_lt_of_cell? w _ hx652_0)).trans hx652_0
             replace p652 := eq_true p652
             replace q652 := eq_true q652
             have p653 : 0 ≤ ((ji19) : Int) := of_decide_eq_true (by first | (with_reducible assumption) | assumption)
             have q653 : (ji19) < (x10_1.length : Int) := of_decide_eq_true (by first | (with_reducible assumption) | assumption)
             obtain ⟨ad653, e653, hx653_0⟩ := Kd.at_bool (Kd.R_reads' HO_10.out).2.2 (ji19) p653 q653
             (try rw [← Nbq22.out] at hx653_0)
             cases e653
             replace p653 := eq_true p653
             replace q653 := eq_true q653
             have p656 : 0 ≤ (x12_2 : Int) := of_decide_eq_true (by first | (with_reducible assumption) | assumption)
             have q656 : x12_2 < (l3.length : Int) := of_decide_eq_true (by first | (with_reducible assumption) | assumption)
             obtain ⟨ad656, e656, hx656_0⟩ := Kd.at_string HR3.out x12_2 p656 q656
             obtain rfl : ad652 = ad656 := (by injection e656)
             replace hx656_0 := (HB.out.cell (World.block_lt_of_cell? w _ hx656_0)).trans hx656_0
             replace p656 := eq_true p656
             replace q656 := eq_true q656
             go_wp2_with (first | ((with_reducible refine gate_callee (f := 60) rfl ?_); refine gl_ (some 76) Try.func60 #[.string x0_2, .string (rdOf ByteArray.empty l3 x12_2)] ?_; (with_reducible refine (parchmentref01_Node.calls x0_2 (rdOf ByteArray.empty l3 x12_2) t657 _ A26.out).mono ?_); rintro e w27 ⟨rfl, hb⟩; refine ⟨_, rfl, ?_⟩; replace HO_10 := Aside0.mk (Kd.R_below (br_ HO_10.out) hb); replace HB := Aside0.mk (below_step (bh_ HB.out) hb); (try clear hb)))
             go_roundg k2
             case measure => have := HK1.out; have := HK2.out; omega
             case rel => exact ⟨(t657), (wrap64 (x12_2 + 1)), (by first | rfl | (simp; done) | (simp [*]; done)), (by first | rfl | (simp; done) | (simp [*]; done)), H', ⟨by have := HK1.out; have := HK2.out; omega⟩, ⟨br_ HO_10.out⟩, ⟨bh_ HB.out⟩⟩
           ·rw [if_neg c21] at H
            exact absurd H (by simp)
          ·rw [if_neg c20] at H
           exact absurd H (by simp)
         ·rw [if_neg c18] at H
          have c18b0 : (((rdOf ByteArray.empty l3 x12_2).size : Int) == 32) = false := beq_eq_false_iff_ne.mpr c18
          have c18b1 : (((rdOf ByteArray.empty l3 x12_2).size : Int) != 32) = true := bne_iff_ne.mpr c18
          simp only [Option.some.injEq, Prod.mk.injEq] at H
          obtain ⟨rfl, rfl⟩ := H
          have p652 : 0 ≤ (x12_2 : Int) := of_decide_eq_true (by first | (with_reducible assumption) | assumption)
          have q652 : x12_2 < (l3.length : Int) := of_decide_eq_true (by first | (with_reducible assumption) | assumption)
          obtain ⟨ad652, e652, hx652_0⟩ := Kd.at_string HR3.out x12_2 p652 q652
          cases e652
          replace hx652_0 := (HB.out.cell (World.block_lt_of_cell? w _ hx652_0)).trans hx652_0
          replace p652 := eq_true p652
          replace q652 := eq_true q652
          go_wp2
          go_ret2
          exact ⟨by first | rfl | (simp [errW_none, errW_some] <;> rfl) | (simp [*, errW_none, errW_some] <;> rfl), by repeat (first | (with_reducible first | exact HB.out | apply below_alloc | apply pw_below_drewN | apply below_drew1) | exact HB.out)⟩
        ·rw [if_neg c17] at H
         exact absurd H (by simp)
       ·rw [if_neg c16] at H
        have c16b0 : decide (x12_2 < (l3.length : Int)) = false := decide_eq_false c16
        clear c16
        simp only [Option.some.injEq, Prod.mk.injEq] at H
        obtain ⟨rfl, rfl⟩ := H
        go_wp2
        go_ret2
        exact ⟨by first | rfl | (simp [errW_none, errW_some] <;> rfl) | (simp [*, errW_none, errW_some] <;> rfl), by repeat (first | (with_reducible first | exact HB.out | apply below_alloc | apply pw_below_drewN | apply below_drew1) | exact HB.out)⟩
    ·rw [if_neg c14] at H
     have c14b0 : ((x10_1.length : Int) == (l3.length : Int)) = false := beq_eq_false_iff_ne.mpr c14
     have c14b1 : ((x10_1.length : Int) != (l3.length : Int)) = true := bne_iff_ne.mpr c14
     have c14b2 : (x10_1.length == l3.length) = false := by first | simpa using c14 | (simp at c14 ⊢; omega)
     simp only [Option.some.injEq, Prod.mk.injEq] at H
     obtain ⟨rfl, rfl⟩ := H
     obtain ⟨Ao28, co28, eo28⟩ := Kd.R_slice HO_10.out
     subst eo28
     go_wp2
     go_ret2
     exact ⟨by first | rfl | (simp [errW_none, errW_some] <;> rfl) | (simp [*, errW_none, errW_some] <;> rfl), by repeat (first | (with_reducible first | exact HB.out | apply below_alloc | apply pw_below_drewN | apply below_drew1) | exact HB.out)⟩
end Go.Proofs.Ytdcbacbilncnnaa.PMk
end
section
/- The tree of RFC 6962 in plain Lean: halves, roots, ways. No program in sight but the printed functions. -/
set_option linter.unusedVariables false
set_option linter.unusedSimpArgs false
namespace Go.Proofs.Ytdcbacbilncnnaa.M
open Go.RowKit Go.Proofs.Ytdcbacbilncnnaa.PMk Go.Proofs.YtdcbacbilncnnaaW.PrintWords Go.Proofs.YtdcbacbilncnnaaW.PrintLast
def node (a b : ByteArray) : ByteArray := Dig.dig (((⟨#[1]⟩ : ByteArray) ++ a) ++ b)
theorem node_size (a b : ByteArray) : (node a b).size = 32 := Dig.dig_size _
theorem node_len (a b : ByteArray) : (((⟨#[1]⟩ : ByteArray) ++ a) ++ b).size = 1 + a.size + b.size ∧ ((⟨#[1]⟩ : ByteArray) ++ a).size = 1 + a.size := by
  have s1 : ((⟨#[1]⟩ : ByteArray) ++ a).size = 1 + a.size := by rw [ByteArray.size_append]; rfl
  exact ⟨by rw [ByteArray.size_append, s1], s1⟩
theorem node_f (a b : ByteArray) (ha : a.size ≤ 32) (hb : b.size ≤ 32) : hash_Node.f a b = some (node a b) := by
  obtain ⟨h1, h2⟩ := node_len a b
  unfold hash_Node.f Dig.hash_Sum.f
  rw [if_pos (by omega), if_pos (by omega), if_pos (by omega)]
  rfl
theorem rnode_f (a b : ByteArray) (ha : a.size ≤ 32) (hb : b.size ≤ 32) : parchmentref01_Node.f a b = some (node a b) := by
  obtain ⟨h1, h2⟩ := node_len a b
  unfold parchmentref01_Node.f Dig.parchmentref01_Sum.f
  rw [if_pos (by omega), if_pos (by omega), if_pos (by omega)]
  rfl
/-! ### halves -/
def sp (n : Nat) : Nat := 2 ^ (n - 1).log2
theorem sp_pos (n : Nat) : 1 ≤ sp n := Nat.one_le_two_pow
theorem sp_lt {n : Nat} (h : 2 ≤ n) : sp n < n := by
  have := Nat.log2_self_le (n := n - 1) (by omega)
  unfold sp
  omega
theorem le_sp {n : Nat} (h : 2 ≤ n) : n ≤ 2 * sp n := by
  have := Nat.lt_log2_self (n := n - 1)
  unfold sp
  rw [Nat.pow_succ] at this
  omega
theorem sp_eq {n j : Nat} (h1 : 2 ^ j < n) (h2 : n ≤ 2 ^ (j + 1)) : sp n = 2 ^ j := by
  have h0 : n - 1 ≠ 0 := by have := Nat.one_le_two_pow (n := j); omega
  have : (n - 1).log2 = j := (Nat.log2_eq_iff h0).2 ⟨by omega, by omega⟩
  rw [sp, this]
theorem bitLen_log (f : Nat) : ∀ x : Nat, x ≠ 0 → x < 2 ^ f → Lib.bitLenAux f x = x.log2 + 1 := by
  induction f with
  | zero => intro x h0 h1; simp at h1; omega
  | succ f ih =>
    intro x h0 h1
    rw [Lib.bitLenAux, if_neg h0, Nat.log2_def]
    by_cases h2 : 2 ≤ x
    · rw [if_pos h2, ih (x / 2) (by omega) (by rw [Nat.pow_succ] at h1; omega)]
      omega
    · rw [if_neg h2]
      have : x / 2 = 0 := by omega
      rw [this]
      cases f <;> simp [Lib.bitLenAux]
theorem split_f (n : Nat) (h2 : 2 ≤ n) (h : n ≤ 2147483648) : merkle_split.f (n : Int) = some (sp n : Int) := by
  have e1 : IntKind.u64.wrap (wrap64 ((n : Int) - 1)) = ((n - 1 : Nat) : Int) := by
    have : wrap64 ((n : Int) - 1) = ((n - 1 : Nat) : Int) := by unfold wrap64; omega
    rw [this]
    simp [IntKind.wrap, IntKind.bits, IntKind.signed]
    omega
  have hl : (n - 1).log2 ≤ 30 := by
    have := (Nat.log2_lt (n := n - 1) (k := 31) (by omega)).2 (by omega)
    omega
  have e2 : Lib.bitLen (n - 1) = (n - 1).log2 + 1 := bitLen_log 64 _ (by omega) (by omega)
  unfold merkle_split.f Dig.bits_Len.f
  rw [e1, if_pos (by omega), if_pos (by omega), Option.bind_some, Int.toNat_natCast, e2]
  have e3 : wrap64 ((((n - 1).log2 + 1 : Nat) : Int) - 1) = ((n - 1).log2 : Int) := by unfold wrap64; omega
  rw [e3, if_pos (by omega)]
  have hp : 2 ^ (n - 1).log2 ≤ 2 ^ 30 := Nat.pow_le_pow_right (by omega) hl
  congr 1
  have hm : min ((n - 1).log2 : Int).toNat IntKind.i64.bits = (n - 1).log2 := by
    rw [Int.toNat_natCast]
    exact Nat.min_eq_left (Nat.le_trans hl (by decide))
  unfold shl sp
  rw [hm, Int.one_mul]
  have hc : ((2 : Int) ^ (n - 1).log2) = ((2 ^ (n - 1).log2 : Nat) : Int) := by rw [Int.natCast_pow]; rfl
  rw [hc]
  generalize 2 ^ (n - 1).log2 = x at hp
  simp [IntKind.wrap, IntKind.bits, IntKind.signed]
  omega
end Go.Proofs.Ytdcbacbilncnnaa.M
end
section
/- Ways up: what the program climbs is what the reference says. -/
set_option linter.unusedVariables false
set_option linter.unusedSimpArgs false
namespace Go.Proofs.Ytdcbacbilncnnaa.M
open Go.RowKit Go.Proofs.Ytdcbacbilncnnaa.PMk Go.Proofs.YtdcbacbilncnnaaW.PrintWords Go.Proofs.YtdcbacbilncnnaaW.PrintLast
def W32 (l : List ByteArray) : Prop := ∀ x ∈ l, x.size = 32
theorem W32.app {a b : List ByteArray} : W32 (a ++ b) ↔ W32 a ∧ W32 b := by
  constructor
  · intro h; exact ⟨fun x hx => h x (by simp [hx]), fun x hx => h x (by simp [hx])⟩
  · rintro ⟨h1, h2⟩ x hx
    rcases List.mem_append.1 hx with h | h
    · exact h1 x h
    · exact h2 x h
theorem W32.one {x : ByteArray} : W32 [x] ↔ x.size = 32 := by simp [W32]
theorem W32.cons {x : ByteArray} {l : List ByteArray} : W32 (x :: l) ↔ x.size = 32 ∧ W32 l := by simp [W32]
/-- The halves in which the m-th of n stands, from the whole down: is it the right one? -/
def turns (m n : Nat) : List Bool :=
  if h : n ≤ 1 then [] else if m < sp n then false :: turns m (sp n) else true :: turns (m - sp n) (n - sp n)
termination_by n
decreasing_by
  · exact sp_lt (by omega)
  · have := sp_pos n; omega
def step (t : Bool) (w h : ByteArray) : ByteArray := if t then node w h else node h w
theorem step_size (t : Bool) (w h : ByteArray) : (step t w h).size = 32 := by unfold step; split <;> exact node_size _ _
/-- From below up. -/
def up : List Bool → List ByteArray → ByteArray → ByteArray
  | t :: ts, w :: ws, h => up ts ws (step t w h)
  | _, _, h => h
theorem up_snoc : ∀ (ts : List Bool) (ws : List ByteArray) (t : Bool) (w h : ByteArray), ts.length = ws.length → up (ts ++ [t]) (ws ++ [w]) h = step t w (up ts ws h)
  | [], [], _, _, _, _ => rfl
  | _ :: ts, _ :: ws, t, w, h, hl => by
    simp only [List.cons_append, up]
    exact up_snoc ts ws t w _ (by simpa using hl)
  | [], _ :: _, _, _, _, hl => by simp at hl
  | _ :: _, [], _, _, _, hl => by simp at hl
theorem turns_one (m n : Nat) (h : n ≤ 1) : turns m n = [] := by rw [turns]; simp [h]
theorem turns_lt {m n : Nat} (h : 2 ≤ n) (hm : m < sp n) : turns m n = false :: turns m (sp n) := by rw [turns]; simp [show ¬ n ≤ 1 by omega, hm]
theorem turns_ge {m n : Nat} (h : 2 ≤ n) (hm : ¬ m < sp n) : turns m n = true :: turns (m - sp n) (n - sp n) := by rw [turns]; simp [show ¬ n ≤ 1 by omega, hm]
theorem w64n (x : Int) (h0 : -9223372036854775808 ≤ x) (h1 : x < 9223372036854775808) : wrap64 x = x := by unfold wrap64; omega
theorem last_of (init : List ByteArray) (last : ByteArray) (hl : init.length < 2147483648) :
    wrap64 (((init ++ [last]).length : Int) - 1) = (init.length : Int) ∧ rdOf ByteArray.empty (init ++ [last]) (init.length : Int) = last ∧ (init ++ [last]).take ((init.length : Int)).toNat = init ∧ ((init.length : Int) < ((init ++ [last]).length : Int)) := by
  refine ⟨?_, ?_, ?_, ?_⟩
  · rw [w64n _ (by simp <;> omega) (by simp <;> omega)]; simp
  · simp [rdOf]
  · simp
  · simp; omega
theorem toList_eq_iff {a b : ByteArray} : a.toList = b.toList ↔ a = b := by
  constructor
  · intro h
    rw [ByteArray.toList_eq, ByteArray.toList_eq] at h
    have := Array.toList_inj.1 h
    cases a; cases b; simpa using this
  · rintro rfl; rfl
end Go.Proofs.Ytdcbacbilncnnaa.M
end
section
/- Roots, and what shows a leaf: the program's are the reference's; and what shows a leaf shows it. -/
set_option linter.unusedVariables false
set_option linter.unusedSimpArgs false
namespace Go.Proofs.Ytdcbacbilncnnaa.M
open Go.RowKit Go.Proofs.Ytdcbacbilncnnaa.PMk Go.Proofs.YtdcbacbilncnnaaW.PrintWords Go.Proofs.YtdcbacbilncnnaaW.PrintLast
def mroot (l : List ByteArray) : ByteArray :=
  if h : l.length ≤ 1 then (if l.length = 0 then Dig.dig ⟨#[]⟩ else l.getD 0 ByteArray.empty)
  else node (mroot (l.take (sp l.length))) (mroot (l.drop (sp l.length)))
termination_by l.length
decreasing_by
  · have := sp_lt (n := l.length) (by omega); simp; omega
  · have := sp_pos l.length; have := sp_lt (n := l.length) (by omega); simp; omega
theorem W32.take {l : List ByteArray} (h : W32 l) (n : Nat) : W32 (l.take n) := fun x hx => h x (List.mem_of_mem_take hx)
theorem W32.drop {l : List ByteArray} (h : W32 l) (n : Nat) : W32 (l.drop n) := fun x hx => h x (List.mem_of_mem_drop hx)
theorem W32.getD {l : List ByteArray} (h : W32 l) {i : Nat} (hi : i < l.length) : (l.getD i ByteArray.empty).size = 32 := by
  rw [List.getD_eq_getElem?_getD, List.getElem?_eq_getElem hi]
  exact h _ (List.getElem_mem _)
theorem mroot_size {l : List ByteArray} (h : W32 l) : (mroot l).size = 32 := by
  rw [mroot]
  split
  · split
    · exact Dig.dig_size _
    · exact h.getD (by omega)
  · exact node_size _ _
theorem mroot_two {l : List ByteArray} (h : 2 ≤ l.length) : mroot l = node (mroot (l.take (sp l.length))) (mroot (l.drop (sp l.length))) := by
  rw [mroot]; rw [dif_neg (by omega)]
theorem mroot_one {l : List ByteArray} (h : l.length = 1) : mroot l = l.getD 0 ByteArray.empty := by
  rw [mroot]; rw [dif_pos (by omega), if_neg (by omega)]
theorem mroot_nil : mroot [] = Dig.dig ⟨#[]⟩ := by rw [mroot]; rfl
theorem root_f : ∀ (k : Nat) (l : List ByteArray), W32 l → l.length ≤ 2147483648 → l.length < k → merkle_root.f k l = some (mroot l)
  | 0, l, _, _, h => by omega
  | k + 1, l, hw, hl, hk => by
    rw [merkle_root.f]
    by_cases h0 : l.length = 0
    · rw [if_pos (by omega), List.eq_nil_of_length_eq_zero h0, mroot_nil]
      unfold Dig.hash_Sum.f
      rw [if_pos (by decide)]
      rfl
    · rw [if_neg (by omega)]
      by_cases h1 : l.length = 1
      · rw [if_pos (by omega), if_pos (by omega), mroot_one h1]
        rfl
      · have h2 : 2 ≤ l.length := by omega
        have hlt := sp_lt h2
        have hpos := sp_pos l.length
        rw [if_neg (by omega), split_f _ h2 hl, Option.bind_some, if_pos (by omega), if_pos (by omega), Int.toNat_natCast,
          root_f k _ (hw.take _) (by simp; omega) (by simp; omega), Option.bind_some, root_f k _ (hw.drop _) (by simp; omega) (by simp; omega), Option.bind_some,
          node_f _ _ (by rw [mroot_size (hw.take _)]; omega) (by rw [mroot_size (hw.drop _)]; omega), Option.bind_some, mroot_two h2]
/-! ### what shows a leaf -/
def pathT (m : Nat) (l : List ByteArray) : List ByteArray :=
  if h : l.length ≤ 1 then [] else if m < sp l.length then pathT m (l.take (sp l.length)) ++ [mroot (l.drop (sp l.length))] else pathT (m - sp l.length) (l.drop (sp l.length)) ++ [mroot (l.take (sp l.length))]
termination_by l.length
decreasing_by
  · have := sp_lt (n := l.length) (by omega); simp; omega
  · have := sp_pos l.length; have := sp_lt (n := l.length) (by omega); simp; omega
theorem pathT_one {m : Nat} {l : List ByteArray} (h : l.length ≤ 1) : pathT m l = [] := by rw [pathT]; rw [dif_pos h]
theorem pathT_lt {m : Nat} {l : List ByteArray} (h : 2 ≤ l.length) (hm : m < sp l.length) : pathT m l = pathT m (l.take (sp l.length)) ++ [mroot (l.drop (sp l.length))] := by rw [pathT]; rw [dif_neg (by omega), if_pos hm]
theorem pathT_ge {m : Nat} {l : List ByteArray} (h : 2 ≤ l.length) (hm : ¬ m < sp l.length) : pathT m l = pathT (m - sp l.length) (l.drop (sp l.length)) ++ [mroot (l.take (sp l.length))] := by rw [pathT]; rw [dif_neg (by omega), if_neg hm]
theorem pathT_len : ∀ (d : Nat) (m : Nat) (l : List ByteArray), l.length ≤ d → (pathT m l).length ≤ l.length
  | 0, m, l, h => by rw [pathT_one (by omega)]; simp
  | d + 1, m, l, h => by
    by_cases h1 : l.length ≤ 1
    · rw [pathT_one h1]; simp
    · have h2 : 2 ≤ l.length := by omega
      have hlt := sp_lt h2
      have hpos := sp_pos l.length
      by_cases hm : m < sp l.length
      · rw [pathT_lt h2 hm]
        have := pathT_len d m (l.take (sp l.length)) (by simp; omega)
        simp at this ⊢; omega
      · rw [pathT_ge h2 hm]
        have := pathT_len d (m - sp l.length) (l.drop (sp l.length)) (by simp; omega)
        simp at this ⊢; omega
theorem path_f : ∀ (k m : Nat) (l : List ByteArray), W32 l → l.length ≤ 2147483648 → m < l.length → l.length < k → merkle_path.f k (m : Int) l = some (pathT m l)
  | 0, m, l, _, _, _, h => by omega
  | k + 1, m, l, hw, hl, hm, hk => by
    rw [merkle_path.f]
    by_cases h1 : l.length ≤ 1
    · rw [if_pos (by omega), pathT_one h1]
    · have h2 : 2 ≤ l.length := by omega
      have hlt := sp_lt h2
      have hpos := sp_pos l.length
      rw [if_neg (by omega), split_f _ h2 hl, Option.bind_some]
      by_cases hk2 : m < sp l.length
      · have hlen := pathT_len _ m (l.take (sp l.length)) (Nat.le_refl _)
        rw [if_pos (by omega), if_pos (by omega), if_pos (by omega), Int.toNat_natCast, path_f k m _ (hw.take _) (by simp; omega) (by simp; omega) (by simp; omega), Option.bind_some,
          root_f k _ (hw.drop _) (by simp; omega) (by simp; omega), Option.bind_some, if_pos (by simp at hlen; omega), pathT_lt h2 hk2]
      · have hlen := pathT_len _ (m - sp l.length) (l.drop (sp l.length)) (Nat.le_refl _)
        have e5 : wrap64 ((m : Int) - (sp l.length : Int)) = ((m - sp l.length : Nat) : Int) := by rw [w64n _ (by omega) (by omega)]; omega
        rw [if_neg (by omega), if_pos (by omega), if_pos (by omega), Int.toNat_natCast, e5, path_f k _ _ (hw.drop _) (by simp; omega) (by simp; omega) (by simp; omega), Option.bind_some,
          root_f k _ (hw.take _) (by simp; omega) (by simp; omega), Option.bind_some, if_pos (by simp at hlen; omega), pathT_ge h2 hk2]
theorem pathT_w32 : ∀ (d : Nat) (m : Nat) (l : List ByteArray), l.length ≤ d → W32 l → W32 (pathT m l)
  | 0, m, l, h, hw => by rw [pathT_one (by omega)]; simp [W32]
  | d + 1, m, l, h, hw => by
    by_cases h1 : l.length ≤ 1
    · rw [pathT_one h1]; simp [W32]
    · have h2 : 2 ≤ l.length := by omega
      have hlt := sp_lt h2
      have hpos := sp_pos l.length
      by_cases hm : m < sp l.length
      · rw [pathT_lt h2 hm]
        exact W32.app.2 ⟨pathT_w32 d m _ (by simp; omega) (hw.take _), W32.one.2 (mroot_size (hw.drop _))⟩
      · rw [pathT_ge h2 hm]
        exact W32.app.2 ⟨pathT_w32 d _ _ (by simp; omega) (hw.drop _), W32.one.2 (mroot_size (hw.take _))⟩
/-- What shows a leaf comes to the root. -/
theorem path_up : ∀ (d : Nat) (m : Nat) (l : List ByteArray), l.length ≤ d → m < l.length → (pathT m l).length = (turns m l.length).length ∧ up (turns m l.length).reverse (pathT m l) (l.getD m ByteArray.empty) = mroot l
  | 0, m, l, h, hm => by omega
  | d + 1, m, l, h, hm => by
    by_cases h1 : l.length ≤ 1
    · rw [pathT_one h1, turns_one _ _ h1]
      obtain rfl : m = 0 := by omega
      exact ⟨rfl, (mroot_one (by omega)).symm⟩
    · have h2 : 2 ≤ l.length := by omega
      have hlt := sp_lt h2
      have hpos := sp_pos l.length
      by_cases hk2 : m < sp l.length
      · have e : (l.take (sp l.length)).length = sp l.length := by simp; omega
        obtain ⟨a1, a2⟩ := path_up d m (l.take (sp l.length)) (by omega) (by omega)
        rw [e] at a1 a2
        rw [pathT_lt h2 hk2, turns_lt h2 hk2, List.reverse_cons]
        refine ⟨by simp [a1], ?_⟩
        rw [up_snoc _ _ _ _ _ (by simp [a1])]
        have e2 : (l.take (sp l.length)).getD m ByteArray.empty = l.getD m ByteArray.empty := by simp [List.getElem?_take, hk2]
        rw [e2] at a2
        rw [a2, mroot_two h2]
        rfl
      · have e : (l.drop (sp l.length)).length = l.length - sp l.length := by simp
        obtain ⟨a1, a2⟩ := path_up d (m - sp l.length) (l.drop (sp l.length)) (by omega) (by omega)
        rw [e] at a1 a2
        rw [pathT_ge h2 hk2, turns_ge h2 hk2, List.reverse_cons]
        refine ⟨by simp [a1], ?_⟩
        rw [up_snoc _ _ _ _ _ (by simp [a1])]
        have e2 : (l.drop (sp l.length)).getD (m - sp l.length) ByteArray.empty = l.getD m ByteArray.empty := by
          simp [List.getElem?_drop, show sp l.length + (m - sp l.length) = m by omega]
        rw [e2] at a2
        rw [a2, mroot_two h2]
        rfl
end Go.Proofs.Ytdcbacbilncnnaa.M
end
section
/- The tree of digests: Add. -/
set_option linter.unusedVariables false
set_option linter.unusedSimpArgs false
namespace Go.Proofs.Ytdcbacbilncnnaa.T
open Go.RowKit Go.Proofs.Ytdcbacbilncnnaa.PMk Go.Proofs.YtdcbacbilncnnaaW.PrintWords Go.Proofs.YtdcbacbilncnnaaW.PrintLast
theorem info9 : (Try.prog.info? 9).map (fun i => (i.zero, i.size, i.bytes)) = some (some (.string ⟨#[]⟩), 1, 16) := by kernel_rfl
/-- The tree at g, and where its rows lie. -/
structure At (w : World) (base g : Nat) (vl vp : Value) (L P : List ByteArray) : Prop where
  blk : w.heap[g]? = some (.cells #[vl, vp] 121 (0, 0))
  lo : base ≤ g
  rl : w.ownsRow base 9 1 vl L.length (pw_strs L)
  rp : w.ownsRow base 9 1 vp P.length (pw_strs P)
  ap : ∀ k, vl.ownBlock = some k → vp.ownBlock ≠ some k
theorem At.below {w w1 : World} {base g : Nat} {vl vp : Value} {L P : List ByteArray} (h : At w base g vl vp L P) (hb : Below w.heap.size w w1) : At w1 base g vl vp L P :=
  ⟨(hb.block g (Array.getElem?_eq_some_iff.1 h.blk).1).trans h.blk, h.lo, pw_own_below h.rl hb, pw_own_below h.rp hb, h.ap⟩
theorem At.c0 {w : World} {base g : Nat} {vl vp : Value} {L P : List ByteArray} (h : At w base g vl vp L P) : w.cell? ⟨g, 0, none⟩ = some vl := by
  rw [cell_of_row w g 0 _ 121 (0, 0) h.blk]; rfl
theorem At.c1 {w : World} {base g : Nat} {vl vp : Value} {L P : List ByteArray} (h : At w base g vl vp L P) : w.cell? ⟨g, 1, none⟩ = some vp := by
  rw [cell_of_row w g 1 _ 121 (0, 0) h.blk]; rfl
theorem At.base {w : World} {base g : Nat} {vl vp : Value} {L P : List ByteArray} (h : At w base g vl vp L P) : base ≤ w.heap.size :=
  Nat.le_trans h.lo (Nat.le_of_lt (Array.getElem?_eq_some_iff.1 h.blk).1)
theorem At.f0 {w : World} {base g : Nat} {vl vp : Value} {L P : List ByteArray} (h : At w base g vl vp L P) (i : Nat) : w.frozen? ⟨g, i, none⟩ = false := by
  simp [World.frozen?, h.blk]
theorem At.gl {w : World} {base g : Nat} {vl vp : Value} {L P : List ByteArray} (h : At w base g vl vp L P) : some g ≠ vl.ownBlock := own_ne h.rl h.blk (by decide)
theorem At.gp {w : World} {base g : Nat} {vl vp : Value} {L P : List ByteArray} (h : At w base g vl vp L P) : some g ≠ vp.ownBlock := own_ne h.rp h.blk (by decide)
theorem strs_app (L : List ByteArray) (h : ByteArray) : pw_strs L ++ [.string h] = pw_strs (L ++ [h]) := by simp [pw_strs]
/-- What an act on the tree at g leaves of the world, and where the rows lie behind it. -/
structure Step (w w' : World) (g : Nat) (vl vp vl' vp' : Value) : Prop where
  os : w'.os = w.os
  tape : w'.tape = w.tape
  output : w'.output = w.output
  size : w.heap.size ≤ w'.heap.size
  block : ∀ k, k < w.heap.size → k ≠ g → vl.ownBlock ≠ some k → vp.ownBlock ≠ some k → w'.heap[k]? = w.heap[k]?
  nl : ∀ k, vl'.ownBlock = some k → vl.ownBlock = some k ∨ w.heap.size ≤ k
  np : ∀ k, vp'.ownBlock = some k → vp.ownBlock = some k ∨ w.heap.size ≤ k
theorem Step.refl (w : World) (g : Nat) (vl vp : Value) : Step w w g vl vp vl vp := ⟨rfl, rfl, rfl, Nat.le_refl _, fun _ _ _ _ _ => rfl, fun _ h => .inl h, fun _ h => .inl h⟩
theorem Step.trans {w w1 w2 : World} {g : Nat} {vl vp vl1 vp1 vl2 vp2 : Value} (h : Step w w1 g vl vp vl1 vp1) (k : Step w1 w2 g vl1 vp1 vl2 vp2) : Step w w2 g vl vp vl2 vp2 := by
  refine ⟨k.os.trans h.os, k.tape.trans h.tape, k.output.trans h.output, Nat.le_trans h.size k.size, fun i hi hg hl hp => ?_, fun i hi => ?_, fun i hi => ?_⟩
  · refine (k.block i (Nat.lt_of_lt_of_le hi h.size) hg (fun e => ?_) (fun e => ?_)).trans (h.block i hi hg hl hp)
    · rcases h.nl i e with e | e
      · exact hl e
      · omega
    · rcases h.np i e with e | e
      · exact hp e
      · omega
  · rcases k.nl i hi with e | e
    · exact h.nl i e
    · exact .inr (Nat.le_trans h.size e)
  · rcases k.np i hi with e | e
    · exact h.np i e
    · exact .inr (Nat.le_trans h.size e)
theorem Step.of_below {w w1 : World} {g : Nat} {vl vp : Value} (h : Below w.heap.size w w1) : Step w w1 g vl vp vl vp := ⟨h.os, h.tape, h.output, h.size, fun k hk _ _ _ => h.block k hk, fun _ h => .inl h, fun _ h => .inl h⟩
/-- Another leaf behind the leaves. -/
theorem At.leaf {w w2 : World} {base g g1 cap1 : Nat} {vl vp : Value} {L P : List ByteArray} {h : ByteArray} {o : Obj} (hA : At w base g vl vp L P)
    (ho : w2.ownsRow base 9 1 (.slice (some ⟨g1, 0, none⟩) (L.length + 1) cap1) (L.length + 1) (pw_strs L ++ [.string h])) (hg : (w.alloc o).grownBy w2 vl.ownBlock) (ha : vl.ownBlock = some g1 ∨ g1 = w.heap.size + 1) :
    At (w2.setCell ⟨g, 0, none⟩ (.slice (some ⟨g1, 0, none⟩) (L.length + 1) cap1)) base g (.slice (some ⟨g1, 0, none⟩) (L.length + 1) cap1) vp (L ++ [h]) P := by
  have hlt := (Array.getElem?_eq_some_iff.1 hA.blk).1
  have hb2 : w2.heap[g]? = some (.cells #[vl, vp] 121 (0, 0)) := (hg.block g (by simp; omega) hA.gl).trans ((heap_alloc_old w o hlt).trans hA.blk)
  have hne : g ≠ g1 := by
    rcases ha with ha | ha
    · intro e; exact hA.gl (by rw [ha, e])
    · omega
  have hrp : w2.ownsRow base 9 1 vp P.length (pw_strs P) := (hA.rp.alloc o).kept hg (by
    by_cases hv : vp.ownBlock = none
    · exact .inl hv
    · right; intro e
      obtain ⟨k, hk⟩ := Option.ne_none_iff_exists'.1 hv
      exact hA.ap k (e ▸ hk) hk)
  refine ⟨?_, hA.lo, ?_, own_setCell hrp (by simpa using hA.gp) _, ?_⟩
  · exact (blk_set hb2 0 _).trans rfl
  · rw [List.length_append, List.length_singleton, ← strs_app]
    exact own_setCell ho (by simpa [Value.ownBlock] using hne) _
  · intro k hk
    simp only [Value.ownBlock, Option.some.injEq] at hk
    subst hk
    rcases ha with ha | ha
    · exact hA.ap _ ha
    · intro e; have := own_lt hA.rp _ e; omega
theorem At.leaf_step {w w2 : World} {base g g1 cap1 : Nat} {vl vp : Value} {L P : List ByteArray} {o : Obj} (u : Value) (hA : At w base g vl vp L P)
    (hg : (w.alloc o).grownBy w2 vl.ownBlock) (ha : vl.ownBlock = some g1 ∨ g1 = w.heap.size + 1) :
    Step w (w2.setCell ⟨g, 0, none⟩ u) g vl vp (.slice (some ⟨g1, 0, none⟩) (L.length + 1) cap1) vp := by
  have hs := hg.size
  simp at hs
  refine ⟨hg.os, hg.tape, hg.output, by simp; omega, fun k hk hkg hl _ => ?_, fun k hk => ?_, fun _ h => .inl h⟩
  · exact (Below.heap_setCell w2 ⟨g, 0, none⟩ u k hkg).trans ((hg.block k (by simp; omega) (fun e => hl e.symm)).trans (heap_alloc_old w o hk))
  · simp only [Value.ownBlock, Option.some.injEq] at hk
    subst hk
    rcases ha with ha | ha
    · exact .inl ha
    · right; omega
/-- Other peaks. -/
theorem At.peak {w w2 : World} {base g g1 cap1 n : Nat} {vl vp : Value} {L P Q : List ByteArray} {o : Obj} (hA : At w base g vl vp L P) (hn : Q.length = n)
    (ho : w2.ownsRow base 9 1 (.slice (some ⟨g1, 0, none⟩) n cap1) n (pw_strs Q)) (hg : (w.alloc o).grownBy w2 vp.ownBlock) (ha : vp.ownBlock = some g1 ∨ g1 = w.heap.size + 1) :
    At (w2.setCell ⟨g, 1, none⟩ (.slice (some ⟨g1, 0, none⟩) n cap1)) base g vl (.slice (some ⟨g1, 0, none⟩) n cap1) L Q := by
  subst hn
  have hlt := (Array.getElem?_eq_some_iff.1 hA.blk).1
  have hb2 : w2.heap[g]? = some (.cells #[vl, vp] 121 (0, 0)) := (hg.block g (by simp; omega) hA.gp).trans ((heap_alloc_old w o hlt).trans hA.blk)
  have hne : g ≠ g1 := by
    rcases ha with ha | ha
    · intro e; exact hA.gp (by rw [ha, e])
    · omega
  have hrl : w2.ownsRow base 9 1 vl L.length (pw_strs L) := (hA.rl.alloc o).kept hg (by
    by_cases hv : vl.ownBlock = none
    · exact .inl hv
    · right; intro e
      obtain ⟨k, hk⟩ := Option.ne_none_iff_exists'.1 hv
      exact hA.ap k hk (e ▸ hk))
  refine ⟨(blk_set hb2 1 _).trans rfl, hA.lo, own_setCell hrl (by simpa using hA.gl) _, own_setCell ho (by simpa [Value.ownBlock] using hne) _, ?_⟩
  intro k hk
  simp only [Value.ownBlock]
  intro e
  obtain rfl := Option.some.inj e
  rcases ha with ha | ha
  · exact hA.ap _ hk ha
  · have := own_lt hA.rl _ hk; omega
theorem At.peak_step {w w2 : World} {base g g1 cap1 n : Nat} {vl vp : Value} {L P : List ByteArray} {o : Obj} (u : Value) (hA : At w base g vl vp L P)
    (hg : (w.alloc o).grownBy w2 vp.ownBlock) (ha : vp.ownBlock = some g1 ∨ g1 = w.heap.size + 1) :
    Step w (w2.setCell ⟨g, 1, none⟩ u) g vl vp vl (.slice (some ⟨g1, 0, none⟩) n cap1) := by
  have hs := hg.size
  simp at hs
  refine ⟨hg.os, hg.tape, hg.output, by simp; omega, fun k hk hkg _ hl => ?_, fun _ h => .inl h, fun k hk => ?_⟩
  · exact (Below.heap_setCell w2 ⟨g, 1, none⟩ u k hkg).trans ((hg.block k (by simp; omega) (fun e => hl e.symm)).trans (heap_alloc_old w o hk))
  · simp only [Value.ownBlock, Option.some.injEq] at hk
    subst hk
    rcases ha with ha | ha
    · exact .inl ha
    · right; omega
theorem At.far {w w2 : World} {base g : Nat} {vl vp : Value} {L P : List ByteArray} {o : Obj} (hA : At w base g vl vp L P) (hg : (w.alloc o).grownBy w2 vl.ownBlock ∨ (w.alloc o).grownBy w2 vp.ownBlock) :
    w2.heap[g]? = some (.cells #[vl, vp] 121 (0, 0)) := by
  have hlt := (Array.getElem?_eq_some_iff.1 hA.blk).1
  rcases hg with hg | hg
  · exact (hg.block g (by simp; omega) hA.gl).trans ((heap_alloc_old w o hlt).trans hA.blk)
  · exact (hg.block g (by simp; omega) hA.gp).trans ((heap_alloc_old w o hlt).trans hA.blk)
theorem cell53 {w : World} {g : Nat} {vl vp : Value} (h : w.heap[g]? = some (.cells #[vl, vp] 121 (0, 0))) : w.cell? ⟨g, 0, none⟩ = some vl ∧ w.cell? ⟨g, 1, none⟩ = some vp ∧ w.frozen? ⟨g, 0, none⟩ = false ∧ w.frozen? ⟨g, 1, none⟩ = false := by
  refine ⟨?_, ?_, ?_, ?_⟩
  · rw [cell_of_row w g 0 _ 121 (0, 0) h]; rfl
  · rw [cell_of_row w g 1 _ 121 (0, 0) h]; rfl
  · simp [World.frozen?, h]
  · simp [World.frozen?, h]
theorem own_str {w : World} {base n q gp cap : Nat} {P : List ByteArray} (h : w.ownsRow base 9 1 (.slice (some ⟨gp, 0, none⟩) n cap) n (pw_strs P)) (hq : q < P.length) : w.cell? ⟨gp, q, none⟩ = some (.string (P.getD q ByteArray.empty)) := by
  have e := h.cells (g := gp) rfl q (.string (P.getD q ByteArray.empty)) (by simp [pw_strs, List.getElem?_map, hq])
  have hadd : (⟨gp, 0, none⟩ : Addr).add q = ⟨gp, q, none⟩ := by unfold Addr.add; split <;> simp_all
  rwa [hadd] at e
theorem own_str' {w : World} {base n q gp cap : Nat} {P : List ByteArray} (h : w.ownsRow base 9 1 (.slice (some ⟨gp, 0, none⟩) n cap) P.length (pw_strs P)) (hn : P.length = n) (hq : q < n) : w.cell? ⟨gp, q, none⟩ = some (.string (P.getD q ByteArray.empty)) := by
  subst hn
  exact own_str h hq
theorem own_take {w : World} {base n q gp cap : Nat} {P : List ByteArray} (h : w.ownsRow base 9 1 (.slice (some ⟨gp, 0, none⟩) n cap) P.length (pw_strs P)) (hn : P.length = n) (hq : q ≤ n) : w.ownsRow base 9 1 (.slice (some ⟨gp, 0, none⟩) q cap) q (pw_strs (P.take q)) := by
  subst hn
  obtain ⟨h1, h2⟩ := h
  refine ⟨by simp [pw_strs]; omega, ?_⟩
  rcases h2 with ⟨h3, _⟩ | ⟨g', cap', cur, hv, hb, hg, hc, hm, hs, ht⟩
  · simp at h3
  · simp only [Value.slice.injEq, Option.some.injEq, Addr.mk.injEq] at hv
    obtain ⟨⟨rfl, _, _⟩, _, rfl⟩ := hv
    refine .inr ⟨gp, cap, cur, rfl, hb, hg, by omega, hm, hs, ?_⟩
    rw [Nat.mul_one] at ht ⊢
    rw [show pw_strs (P.take q) = (pw_strs P).take q by simp [pw_strs, List.map_take], ← ht, List.take_take]
    congr 1
    omega
theorem own_cap {w : World} {base n gp cap : Nat} {P : List ByteArray} (h : w.ownsRow base 9 1 (.slice (some ⟨gp, 0, none⟩) n cap) P.length (pw_strs P)) (hn : P.length = n) : n ≤ cap := by
  subst hn
  rcases h.2 with ⟨h3, _⟩ | ⟨g', cap', cur, hv, hb, hg, hc, hm, hs, ht⟩
  · simp at h3
  · simp only [Value.slice.injEq, Option.some.injEq, Addr.mk.injEq] at hv
    omega
theorem below_drew {w w1 : World} (h : Below w.drew.heap.size w.drew w1) : Below w.heap.size w w1 := ⟨h.os, h.tape, h.output, h.size, h.block⟩
/-- What the loop makes of the peaks: as long as the number is even, the last two become one. -/
def car : Nat → List ByteArray → Nat → Option (List ByteArray)
  | 0, _, _ => none
  | k + 1, P, n => if n % 2 = 0 then (if 2 ≤ P.length then ((hash_Node.f (P.getD (P.length - 2) ByteArray.empty) (P.getD (P.length - 1) ByteArray.empty)).bind fun t => car k (P.take (P.length - 2) ++ [t]) (n / 2)) else none) else some P
end Go.Proofs.Ytdcbacbilncnnaa.T
end
section
/- The tree of digests: Add. -/
set_option linter.unusedVariables false
set_option linter.unusedSimpArgs false
namespace Go.Proofs.Ytdcbacbilncnnaa.T
open Go.RowKit Go.Proofs.Ytdcbacbilncnnaa.PMk Go.Proofs.YtdcbacbilncnnaaW.PrintWords Go.Proofs.YtdcbacbilncnnaaW.PrintLast
theorem and1 (n : Int) : Go.bits .and .i64 n 1 = n % 2 := by
  have h127 : (BitVec.ofInt 64 1).toNat = 2 ^ 1 - 1 := by decide
  have key : (BitVec.ofInt 64 n &&& BitVec.ofInt 64 1).toNat = (n % ((2 ^ 64 : Nat) : Int)).toNat % 2 ^ 1 := by
    rw [BitVec.toNat_and, BitVec.toNat_ofInt, h127, Nat.and_two_pow_sub_one_eq_mod]
  show IntKind.i64.wrap ((BitVec.ofInt 64 n &&& BitVec.ofInt 64 1).toNat : Nat) = n % 2
  rw [key, IntKind.wrap_i64]
  omega
theorem car_even {kk m : Nat} {P Q : List ByteArray} (h : car kk P m = some Q) (hev : m % 2 = 0) :
    ∃ k q t, kk = k + 1 ∧ P.length = q + 2 ∧ hash_Node.f (P.getD q ByteArray.empty) (P.getD (q + 1) ByteArray.empty) = some t ∧ car k (P.take q ++ [t]) (m / 2) = some Q := by
  cases kk with
  | zero => simp [car] at h
  | succ k =>
    rw [car, if_pos hev] at h
    split at h
    · next h2 =>
      obtain ⟨t, ht, hc⟩ := Option.bind_eq_some_iff.mp h
      refine ⟨k, P.length - 2, t, rfl, by omega, ht ▸ ?_, hc⟩
      congr 2; omega
    · exact absurd h (by simp)
theorem car_odd {kk m : Nat} {P Q : List ByteArray} (h : car kk P m = some Q) (hev : ¬ m % 2 = 0) : P = Q := by
  cases kk with
  | zero => simp [car] at h
  | succ k =>
    rw [car, if_neg hev] at h
    exact Option.some.inj h
theorem w64 (q : Nat) (h : q < 1000002) : wrap64 (q : Int) = (q : Int) ∧ wrap64 ((q : Int) + 2 - 1) = (q : Int) + 1 := ⟨by unfold wrap64; omega, by unfold wrap64; omega⟩
set_option maxRecDepth 100000 in
theorem add_raw (s h : ByteArray) (hleaf : hash_Leaf.f s = some h) (w : World) (base g : Nat) (vl vp : Value) (L P Q : List ByteArray) (hA : At w base g vl vp L P) (hn : L.length + 1 < 1000000) (hp : P.length < 1000000)
    (kc : Nat) (hc : car kc (P ++ [h]) (L.length + 1) = some Q) :
    Calls Try.prog 56 #[.pointer (some ⟨g, 0, none⟩), .string s] w fun e w' => e = .returned (.string h) ∧ ∃ vl' vp', At w' base g vl' vp' (L ++ [h]) Q ∧ Step w w' g vl vp vl' vp' := by
  have HA := Lib.hid hA
  have HL := Lib.hid hleaf
  have HC := Lib.hid hc
  obtain ⟨i0, hi, hz0, hz1, hz2⟩ := info_parts info9
  clear hA hleaf hc
  go_enter Try.func56, Try.ntmps56
  go_wp2_with (first
    | (go_at_call 20; refine (hash_Leaf.calls s h _ HL.out).mono ?_; rintro e w1 ⟨rfl, hb1⟩; have HA1 := Lib.hid (HA.out.below hb1); have HS1 := Lib.hid (Step.of_below (g := g) (vl := vl) (vp := vp) hb1); clear hb1; have c0 := HA1.out.c0; have hbs := HA1.out.base)
    | (at_builtin; refine wpList_append_lies _ rfl (.tmp 16) (.tmp 18) 51 rfl base 9 i0 (.string ⟨#[]⟩) 1 16 Try.underlying51 hi hz0 hz1 hz2 rfl (by decide) vl _ _ (by rfl) (HA1.out.rl.alloc _) ⟨w1.heap.size, 0, none⟩ 1 1 [.string h] (by rfl) rfl (World.news_of_block (heap_alloc_new w1 _)) (by intro u hu; simp at hu; subst hu; rfl) (by decide) (by unfold maxLen; omega) (by omega) (by simp; omega) (w1.heap.size + 1) (by simp) ?_))
  intro g1 cap1 w2 hown1 hgrow1 hat1 hlt1
  have HA2 := Lib.hid (HA1.out.leaf hown1 hgrow1 hat1)
  have HS2 := Lib.hid (HS1.out.trans (HA1.out.leaf_step (.slice (some ⟨g1, 0, none⟩) (L.length + 1) cap1) (cap1 := cap1) hgrow1 hat1))
  have b2 := cell53 (HA1.out.far (.inl hgrow1))
  have b20 := b2.1
  have b2f := b2.2.2.1
  clear b2 hown1 hgrow1 hat1 hlt1 c0 hbs
  have c1 := HA2.out.c1
  have hbs := HA2.out.base
  go_wp2_with (at_builtin; refine wpList_append_lies _ rfl (.tmp 26) (.tmp 28) 51 rfl base 9 i0 (.string ⟨#[]⟩) 1 16 Try.underlying51 hi hz0 hz1 hz2 rfl (by decide) vp _ _ (by rfl) (HA2.out.rp.alloc _) ⟨w2.heap.size, 0, none⟩ 1 1 [.string h] (by rfl) rfl (World.news_of_block (w := (w2.setCell _ _).alloc _) (by simpa using heap_alloc_new (w2.setCell ⟨g, 0, none⟩ (.slice (some ⟨g1, 0, none⟩) (L.length + 1) cap1)) (.cells #[.string h] 9))) (by intro u hu; simp at hu; subst hu; rfl) (by decide) (by unfold maxLen; omega) (by omega) (by simp; simpa using Nat.le_succ_of_le hbs) (w2.heap.size + 1) (by simp) ?_)
  intro g2 cap2 w3 hown2 hgrow2 hat2 hlt2
  have HA3 := Lib.hid (HA2.out.peak (Q := P ++ [h]) (n := P.length + 1) (by simp) (by rw [← strs_app]; exact hown2) hgrow2 (hat2.imp id (fun e => by simpa using e)))
  have HS3 := Lib.hid (HS2.out.trans (HA2.out.peak_step (n := P.length + 1) (cap1 := cap2) (.slice (some ⟨g2, 0, none⟩) (P.length + 1) cap2) hgrow2 (hat2.imp id (fun e => by simpa using e))))
  have b2 := cell53 (HA2.out.far (.inr hgrow2))
  have b31 := b2.2.1
  have b3f := b2.2.2.2
  clear b2 hown2 hgrow2 hat2 hlt2 c1 hbs b20 b2f HA2 HS2 HA1 HS1
  have c0 := HA3.out.c0
  go_wp2_with fail
  go_loopw [6] (fun v wr => ∃ (m kk : Nat) (Pk : List ByteArray) (vq : Value), 1 ≤ m ∧ m ≤ 1000000 ∧ Pk.length ≤ 1000000 ∧ v = .int .i64 m ∧ Hid (car kk Pk m = some Q) ∧ Hid (At wr base g (.slice (some ⟨g1, 0, none⟩) (L.length + 1) cap1) vq (L ++ [h]) Pk) ∧ Hid (Step w wr g vl vp (.slice (some ⟨g1, 0, none⟩) (L.length + 1) cap1) vq)) (fun v _ => (intOf v).toNat)
  case atStart => exact ⟨L.length + 1, kc, P ++ [h], .slice (some ⟨g2, 0, none⟩) (P.length + 1) cap2, by omega, by omega, by simp; omega, rfl, HC, HA3, HS3⟩
  case round =>
    obtain ⟨m, kk, Pk, vq, hm1, hm2, hpk, rfl, HC1, HA4, HS4⟩ := hrel
    by_cases hev : m % 2 = 0
    · have e1 : Go.bits .and .i64 (m : Int) 1 = 0 := by rw [and1]; omega
      obtain ⟨k, q, t, rfl, hq, ht, hcar⟩ := car_even HC1.out hev
      obtain ⟨gp, cq, rfl, hgb, hgl⟩ := World.ownsRow.form HA4.out.rp (by omega)
      rw [hq] at HA4 HS4
      have c1 := HA4.out.c1
      have x0 : wr.cell? ⟨gp, q, none⟩ = _ := own_str (by have := HA4.out.rp; rw [hq] at this; exact this) (by omega)
      have x1 : wr.cell? ⟨gp, q + 1, none⟩ = _ := own_str (by have := HA4.out.rp; rw [hq] at this; exact this) (by omega)
      obtain ⟨x, hx⟩ : ∃ x, Pk.getD q ByteArray.empty = x := ⟨_, rfl⟩
      obtain ⟨y, hy⟩ : ∃ y, Pk.getD (q + 1) ByteArray.empty = y := ⟨_, rfl⟩
      rw [hx] at x0 ht
      rw [hy] at x1 ht
      have hx := Lib.hid hx
      have hy := Lib.hid hy
      have hcar := Lib.hid hcar
      have ht := Lib.hid ht
      clear HC1 HA HC HA3 HS3 b31 b3f c0
      go_wp2_with fail
      have hqc : q + 2 ≤ cq := own_cap HA4.out.rp hq
      have hq0 : (0 : Int) ≤ (q : Int) := by omega
      have hq1 : (q : Int) ≤ (cq : Int) := by omega
      have hq2 : (q : Int) < (q : Int) + 2 := by omega
      have hq3 : (0 : Int) ≤ (q : Int) + 1 := by omega
      have hq4 : (q : Int) + 1 < (q : Int) + 2 := by omega
      have tq1 : ((q : Int) + 1).toNat = q + 1 := by omega
      have hqs : q < 1000002 := by omega
      obtain ⟨wq, wq1⟩ := w64 q hqs
      refine start_ (n := 30) (S := fun w' => w'.cell? ⟨g, 1, none⟩ = some (.slice (some ⟨gp, 0, none⟩) (q + 2) cq) ∧ w'.cell? ⟨gp, q, none⟩ = some (.string x) ∧ w'.cell? ⟨gp, q + 1, none⟩ = some (.string y)) (ds := [26, 29]) #[false, false, false, false, false, false, false, false, false, false, false, false, false, false, false, false, false, false, false, false, false, false, false, false, false, false, false, false, false, false] (by kernel_rfl) rfl rfl ⟨c1, x0, x1⟩ (fun hHeld => ?_)
      refine pure_ (i := 0) (N := some 47) (v := ?_) (a' := ?_) #[true, false, false, false, false, false, false, false, false, false, false, false, false, false, false, false, false, false, false, false, false, false, false, false, false, false, false, false, false, false] rfl rfl (by kernel_rfl) (fun _ _ _ h => h) (Or.inl ⟨by rfl, ?_⟩) ?_ ?_
      rotate_left
      · intro w'
        go_simp
        with_reducible rfl
      rotate_left
      · simp only [Act.put, List.setIfInBounds_toArray, List.set_cons_zero, List.set_cons_succ, i64_w, i32_w]
        rfl
      refine pure_ (i := 1) (N := some 48) (v := ?_) (a' := ?_) #[true, true, false, false, false, false, false, false, false, false, false, false, false, false, false, false, false, false, false, false, false, false, false, false, false, false, false, false, false, false] rfl rfl (by kernel_rfl) (fun _ _ _ h => h) (Or.inl ⟨by rfl, ?_⟩) ?_ ?_
      rotate_left
      · intro w'
        go_simp
        with_reducible rfl
      rotate_left
      · simp only [Act.put, List.setIfInBounds_toArray, List.set_cons_zero, List.set_cons_succ, i64_w, i32_w]
        rfl
      refine pure_ (i := 2) (N := some 49) (v := ?_) (a' := ?_) #[true, true, true, false, false, false, false, false, false, false, false, false, false, false, false, false, false, false, false, false, false, false, false, false, false, false, false, false, false, false] rfl rfl (by kernel_rfl) (fun _ _ _ h => h) (Or.inl ⟨by rfl, ?_⟩) ?_ ?_
      rotate_left
      · intro w'
        go_simp
        with_reducible rfl
      rotate_left
      · simp only [Act.put, List.setIfInBounds_toArray, List.set_cons_zero, List.set_cons_succ, i64_w, i32_w]
        rfl
      refine pure_ (i := 3) (N := some 50) (v := ?_) (a' := ?_) #[true, true, true, true, false, false, false, false, false, false, false, false, false, false, false, false, false, false, false, false, false, false, false, false, false, false, false, false, false, false] rfl rfl (by kernel_rfl) (fun _ _ _ h => h) (Or.inl ⟨by rfl, ?_⟩) ?_ ?_
      rotate_left
      · intro w'
        go_simp
        with_reducible rfl
      rotate_left
      · simp only [Act.put, List.setIfInBounds_toArray, List.set_cons_zero, List.set_cons_succ, i64_w, i32_w]
        rfl
      refine pure_ (i := 5) (N := some 52) (v := ?_) (a' := ?_) #[true, true, true, true, false, true, false, false, false, false, false, false, false, false, false, false, false, false, false, false, false, false, false, false, false, false, false, false, false, false] rfl rfl (by kernel_rfl) (fun _ _ _ h => h) (Or.inl ⟨by rfl, ?_⟩) ?_ ?_
      rotate_left
      · intro w'
        go_simp
        with_reducible rfl
      rotate_left
      · simp only [Act.put, List.setIfInBounds_toArray, List.set_cons_zero, List.set_cons_succ, i64_w, i32_w]
        rfl
      refine pure_ (i := 6) (N := some 53) (v := ?_) (a' := ?_) #[true, true, true, true, false, true, true, false, false, false, false, false, false, false, false, false, false, false, false, false, false, false, false, false, false, false, false, false, false, false] rfl rfl (by kernel_rfl) (fun _ _ _ h => h) (Or.inl ⟨by rfl, ?_⟩) ?_ ?_
      rotate_left
      · intro w'
        go_simp
        with_reducible rfl
      rotate_left
      · simp only [Act.put, List.setIfInBounds_toArray, List.set_cons_zero, List.set_cons_succ, i64_w, i32_w]
        rfl
      refine pure_ (i := 8) (N := some 55) (v := ?_) (a' := ?_) #[true, true, true, true, false, true, true, false, true, false, false, false, false, false, false, false, false, false, false, false, false, false, false, false, false, false, false, false, false, false] rfl rfl (by kernel_rfl) (fun _ _ _ h => h) (Or.inl ⟨by rfl, ?_⟩) ?_ ?_
      rotate_left
      · intro w'
        go_simp
        with_reducible rfl
      rotate_left
      · simp only [Act.put, List.setIfInBounds_toArray, List.set_cons_zero, List.set_cons_succ, i64_w, i32_w]
        rfl
      refine pure_ (i := 9) (N := some 56) (v := ?_) (a' := ?_) #[true, true, true, true, false, true, true, false, true, true, false, false, false, false, false, false, false, false, false, false, false, false, false, false, false, false, false, false, false, false] rfl rfl (by kernel_rfl) (fun _ _ _ h => h) (Or.inl ⟨by rfl, ?_⟩) ?_ ?_
      rotate_left
      · intro w'
        go_simp
        with_reducible rfl
      rotate_left
      · simp only [Act.put, List.setIfInBounds_toArray, List.set_cons_zero, List.set_cons_succ, i64_w, i32_w]
        rfl
      refine pure_ (i := 10) (N := some 57) (v := ?_) (a' := ?_) #[true, true, true, true, false, true, true, false, true, true, true, false, false, false, false, false, false, false, false, false, false, false, false, false, false, false, false, false, false, false] rfl rfl (by kernel_rfl) (fun _ _ _ h => h) (Or.inl ⟨by rfl, ?_⟩) ?_ ?_
      rotate_left
      · intro w'
        go_simp
        with_reducible rfl
      rotate_left
      · simp only [Act.put, List.setIfInBounds_toArray, List.set_cons_zero, List.set_cons_succ, i64_w, i32_w]
        rfl
      refine pure_ (i := 12) (N := some 59) (v := ?_) (a' := ?_) #[true, true, true, true, false, true, true, false, true, true, true, false, true, false, false, false, false, false, false, false, false, false, false, false, false, false, false, false, false, false] rfl rfl (by kernel_rfl) (fun _ _ _ h => h) (Or.inl ⟨by rfl, ?_⟩) ?_ ?_
      rotate_left
      · intro w'
        go_simp
        with_reducible rfl
      rotate_left
      · simp only [Act.put, List.setIfInBounds_toArray, List.set_cons_zero, List.set_cons_succ, i64_w, i32_w]
        rfl
      refine pure_ (i := 13) (N := some 60) (v := ?_) (a' := ?_) #[true, true, true, true, false, true, true, false, true, true, true, false, true, true, false, false, false, false, false, false, false, false, false, false, false, false, false, false, false, false] rfl rfl (by kernel_rfl) (fun _ _ _ h => h) (Or.inl ⟨by rfl, ?_⟩) ?_ ?_
      rotate_left
      · intro w'
        go_simp
        with_reducible rfl
      rotate_left
      · simp only [Act.put, List.setIfInBounds_toArray, List.set_cons_zero, List.set_cons_succ, i64_w, i32_w]
        rfl
      refine pure_ (i := 16) (N := some 63) (v := ?_) (a' := ?_) #[true, true, true, true, false, true, true, false, true, true, true, false, true, true, false, false, true, false, false, false, false, false, false, false, false, false, false, false, false, false] rfl rfl (by kernel_rfl) (fun _ _ _ h => h) (Or.inl ⟨by rfl, ?_⟩) ?_ ?_
      rotate_left
      · intro w'
        go_simp
        with_reducible rfl
      rotate_left
      · simp only [Act.put, List.setIfInBounds_toArray, List.set_cons_zero, List.set_cons_succ, i64_w, i32_w]
        rfl
      refine pure_ (i := 17) (N := some 64) (v := ?_) (a' := ?_) #[true, true, true, true, false, true, true, false, true, true, true, false, true, true, false, false, true, true, false, false, false, false, false, false, false, false, false, false, false, false] rfl rfl (by kernel_rfl) (fun _ _ _ h => h) (Or.inl ⟨by rfl, ?_⟩) ?_ ?_
      rotate_left
      · intro w'
        go_simp
        with_reducible rfl
      rotate_left
      · simp only [Act.put, List.setIfInBounds_toArray, List.set_cons_zero, List.set_cons_succ, i64_w, i32_w]
        rfl
      refine pure_ (i := 18) (N := some 65) (v := ?_) (a' := ?_) #[true, true, true, true, false, true, true, false, true, true, true, false, true, true, false, false, true, true, true, false, false, false, false, false, false, false, false, false, false, false] rfl rfl (by kernel_rfl) (fun _ _ _ h => h) (Or.inl ⟨by rfl, ?_⟩) ?_ ?_
      rotate_left
      · intro w'
        go_simp
        with_reducible rfl
      rotate_left
      · simp only [Act.put, List.setIfInBounds_toArray, List.set_cons_zero, List.set_cons_succ, i64_w, i32_w]
        rfl
      refine pure_ (i := 20) (N := some 67) (v := ?_) (a' := ?_) #[true, true, true, true, false, true, true, false, true, true, true, false, true, true, false, false, true, true, true, false, true, false, false, false, false, false, false, false, false, false] rfl rfl (by kernel_rfl) (fun _ _ _ h => h) (Or.inl ⟨by rfl, ?_⟩) ?_ ?_
      rotate_left
      · intro w'
        go_simp
        with_reducible rfl
      rotate_left
      · simp only [Act.put, List.setIfInBounds_toArray, List.set_cons_zero, List.set_cons_succ, i64_w, i32_w]
        rfl
      refine pure_ (i := 21) (N := some 68) (v := ?_) (a' := ?_) #[true, true, true, true, false, true, true, false, true, true, true, false, true, true, false, false, true, true, true, false, true, true, false, false, false, false, false, false, false, false] rfl rfl (by kernel_rfl) (fun _ _ _ h => h) (Or.inl ⟨by rfl, ?_⟩) ?_ ?_
      rotate_left
      · intro w'
        go_simp
        with_reducible rfl
      rotate_left
      · simp only [Act.put, List.setIfInBounds_toArray, List.set_cons_zero, List.set_cons_succ, i64_w, i32_w]
        rfl
      refine take_ (i := 4) (N := some 51) (v := ?_) (a' := ?_) #[true, true, true, true, true, true, true, false, true, true, true, false, true, true, false, false, true, true, true, false, true, true, false, false, false, false, false, false, false, false] rfl rfl (by kernel_rfl) (fun _ _ _ h => h) (Or.inl ⟨by rfl, ?_⟩) hHeld ?_ ?_
      rotate_left
      · rintro w' ⟨s0, s1, s2⟩
        go_simp
        with_reducible rfl
      rotate_left
      · simp only [Act.put, List.setIfInBounds_toArray, List.set_cons_zero, List.set_cons_succ, i64_w, i32_w]
        rfl
      refine pure_ (i := 7) (N := some 54) (v := ?_) (a' := ?_) #[true, true, true, true, true, true, true, true, true, true, true, false, true, true, false, false, true, true, true, false, true, true, false, false, false, false, false, false, false, false] rfl rfl (by kernel_rfl) (fun _ _ _ h => h) (Or.inl ⟨by rfl, ?_⟩) ?_ ?_
      rotate_left
      · intro w'
        go_simp
        with_reducible rfl
      rotate_left
      · simp only [Act.put, List.setIfInBounds_toArray, List.set_cons_zero, List.set_cons_succ, i64_w, i32_w]
        rfl
      refine take_ (i := 11) (N := some 58) (v := ?_) (a' := ?_) #[true, true, true, true, true, true, true, true, true, true, true, true, true, true, false, false, true, true, true, false, true, true, false, false, false, false, false, false, false, false] rfl rfl (by kernel_rfl) (fun _ _ _ h => h) (Or.inl ⟨by rfl, ?_⟩) hHeld ?_ ?_
      rotate_left
      · rintro w' ⟨s0, s1, s2⟩
        go_simp
        with_reducible rfl
      rotate_left
      · simp only [Act.put, List.setIfInBounds_toArray, List.set_cons_zero, List.set_cons_succ, i64_w, i32_w]
        rfl
      refine pure_ (i := 14) (N := some 61) (v := ?_) (a' := ?_) #[true, true, true, true, true, true, true, true, true, true, true, true, true, true, true, false, true, true, true, false, true, true, false, false, false, false, false, false, false, false] rfl rfl (by kernel_rfl) (fun _ _ _ h => h) (Or.inl ⟨by rfl, ?_⟩) ?_ ?_
      rotate_left
      · intro w'
        go_simp
        with_reducible rfl
      rotate_left
      · simp only [Act.put, List.setIfInBounds_toArray, List.set_cons_zero, List.set_cons_succ, i64_w, i32_w]
        rfl
      refine take_ (i := 15) (N := some 62) (v := ?_) (a' := ?_) #[true, true, true, true, true, true, true, true, true, true, true, true, true, true, true, true, true, true, true, false, true, true, false, false, false, false, false, false, false, false] rfl rfl (by kernel_rfl) (fun _ _ _ h => h) (Or.inl ⟨by rfl, ?_⟩) hHeld ?_ ?_
      rotate_left
      · rintro w' ⟨s0, s1, s2⟩
        go_simp
        with_reducible rfl
      rotate_left
      · simp only [Act.put, List.setIfInBounds_toArray, List.set_cons_zero, List.set_cons_succ, i64_w, i32_w]
        rfl
      refine take_ (i := 19) (N := some 66) (v := ?_) (a' := ?_) #[true, true, true, true, true, true, true, true, true, true, true, true, true, true, true, true, true, true, true, true, true, true, false, false, false, false, false, false, false, false] rfl rfl (by kernel_rfl) (fun _ _ _ h => h) (Or.inl ⟨by rfl, ?_⟩) hHeld ?_ ?_
      rotate_left
      · rintro w' ⟨s0, s1, s2⟩
        go_simp
        with_reducible rfl
      rotate_left
      · simp only [Act.put, List.setIfInBounds_toArray, List.set_cons_zero, List.set_cons_succ, i64_w, i32_w]
        rfl
      refine pure_ (i := 22) (N := some 69) (v := ?_) (a' := ?_) #[true, true, true, true, true, true, true, true, true, true, true, true, true, true, true, true, true, true, true, true, true, true, true, false, false, false, false, false, false, false] rfl rfl (by kernel_rfl) (fun _ _ _ h => h) (Or.inl ⟨by rfl, ?_⟩) ?_ ?_
      rotate_left
      · intro w'
        go_simp
        with_reducible rfl
      rotate_left
      · simp only [Act.put, List.setIfInBounds_toArray, List.set_cons_zero, List.set_cons_succ, i64_w, i32_w]
        rfl
      refine take_ (i := 23) (N := some 70) (v := ?_) (a' := ?_) #[true, true, true, true, true, true, true, true, true, true, true, true, true, true, true, true, true, true, true, true, true, true, true, true, false, false, false, false, false, false] rfl rfl (by kernel_rfl) (fun _ _ _ h => h) (Or.inl ⟨by rfl, ?_⟩) hHeld ?_ ?_
      rotate_left
      · rintro w' ⟨s0, s1, s2⟩
        go_simp
        with_reducible rfl
      rotate_left
      · simp only [Act.put, List.setIfInBounds_toArray, List.set_cons_zero, List.set_cons_succ, i64_w, i32_w]
        rfl
      refine one_ (i := 24) (N := some 71) #[true, true, true, true, true, true, true, true, true, true, true, true, true, true, true, true, true, true, true, true, true, true, true, true, true, false, false, false, false, false] rfl rfl (by kernel_rfl) (by decide) (fun K hK => ?_)
      refine goes_ Try.func80 (by kernel_rfl) rfl #[.string x, .string y] (by rfl) rfl rfl (by simp only [List.map_toArray, List.map_cons, List.map_nil]; rfl) ?_
      with_reducible refine (hash_Node.calls _ _ t _ ht.out).mono ?_
      rintro e w4 ⟨rfl, hb4⟩
      refine ⟨_, rfl, ?_⟩
      clear wq wq1
      have HA5 := Lib.hid (HA4.out.below (below_drew hb4))
      have HS5 := Lib.hid (HS4.out.trans (Step.of_below (g := g) (vl := .slice (some ⟨g1, 0, none⟩) (L.length + 1) cap1) (vp := .slice (some ⟨gp, 0, none⟩) (q + 2) cq) (below_drew hb4)))
      clear hb4
      have hlen : w4.heap.size = w4.heap.size := rfl
      refine hK.out _ _ ⟨HA5.out.c1, hx.out ▸ own_str' HA5.out.rp hq (by omega), hy.out ▸ own_str' HA5.out.rp hq (by omega)⟩ (fun hHeld => ?_)
      clear hK K
      refine norm_ (a' := ?_) ?_ ?_
      rotate_left
      · show Act.put _ (some 71) _ = _
        simp only [Act.put, List.setIfInBounds_toArray, List.set_cons_zero, List.set_cons_succ, i64_w, i32_w]
        rfl
      refine one_ (i := 25) (N := some 72) #[true, true, true, true, true, true, true, true, true, true, true, true, true, true, true, true, true, true, true, true, true, true, true, true, true, true, false, false, false, false] rfl rfl (by kernel_rfl) (by decide) (fun K hK => ?_)
      refine value_ (w1 := ?_) (v := ?_) (by rfl) rfl ?_ ?_
      rotate_left 2
      · go_simp
        constructor
        · rfl
        · rfl
      have HA6 := Lib.hid (HA5.out.below ((Below.refl _ w4).alloc (Nat.le_refl _) (.cells #[.string t] 9)))
      refine hK.out _ _ ⟨HA6.out.c1, hx.out ▸ own_str' HA6.out.rp hq (by omega), hy.out ▸ own_str' HA6.out.rp hq (by omega)⟩ (fun hHeld => ?_)
      clear hK K
      refine norm_ (a' := ?_) ?_ ?_
      rotate_left
      · show Act.put _ (some 72) _ = _
        simp only [Act.put, List.setIfInBounds_toArray, List.set_cons_zero, List.set_cons_succ, i64_w, i32_w]
        rfl
      refine last_ (i := 26) (N := some 73) #[true, true, true, true, true, true, true, true, true, true, true, true, true, true, true, true, true, true, true, true, true, true, true, true, true, true, true, false, false, false] rfl rfl (by kernel_rfl) (by decide) (fun K hK => ?_)
      refine step_append_lies _ rfl (.tmp 54) (.tmp 72) 51 rfl base 9 i0 (.string ⟨#[]⟩) 1 16 Try.underlying51 hi hz0 hz1 hz2 rfl (by decide) (.slice (some ⟨gp, 0, none⟩) q cq) q (pw_strs (Pk.take q)) (by rfl) (own_take HA6.out.rp hq (by omega)) ⟨w4.heap.size, 0, none⟩ 1 1 [.string t] (by rfl) rfl (World.news_of_block (heap_alloc_new w4 _)) (by intro u hu; simp at hu; subst hu; rfl) (by decide) (by unfold maxLen; omega) (by omega) HA6.out.base (w4.heap.size + 1) (by simp) ?_
      intro g3 cap3 w5 hown3 hgrow3 hat3 hlt3
      have b2 := cell53 (HA5.out.far (.inr hgrow3))
      have b51 := b2.2.1
      have b5f := b2.2.2.2
      clear b2
      refine hK.out _ _ ?_
      clear hK K
      refine norm_ (a' := ?_) ?_ ?_
      rotate_left
      · show Act.put _ (some 73) _ = _
        simp only [Act.put, List.setIfInBounds_toArray, List.set_cons_zero, List.set_cons_succ, i64_w, i32_w]
        rfl
      refine pure_ (i := 27) (N := some 74) (v := ?_) (a' := ?_) #[true, true, true, true, true, true, true, true, true, true, true, true, true, true, true, true, true, true, true, true, true, true, true, true, true, true, true, true, false, false] rfl rfl (by kernel_rfl) (fun _ _ _ h => h) (Or.inl ⟨by rfl, ?_⟩) ?_ ?_
      rotate_left
      · intro w'
        go_simp
        with_reducible rfl
      rotate_left
      · simp only [Act.put, List.setIfInBounds_toArray, List.set_cons_zero, List.set_cons_succ, i64_w, i32_w]
        rfl
      refine pure_ (i := 28) (N := some 75) (v := ?_) (a' := ?_) #[true, true, true, true, true, true, true, true, true, true, true, true, true, true, true, true, true, true, true, true, true, true, true, true, true, true, true, true, true, false] rfl rfl (by kernel_rfl) (fun _ _ _ h => h) (Or.inl ⟨by rfl, ?_⟩) ?_ ?_
      rotate_left
      · intro w'
        go_simp
        with_reducible rfl
      rotate_left
      · simp only [Act.put, List.setIfInBounds_toArray, List.set_cons_zero, List.set_cons_succ, i64_w, i32_w]
        rfl
      refine last_ (i := 29) (N := none) #[true, true, true, true, true, true, true, true, true, true, true, true, true, true, true, true, true, true, true, true, true, true, true, true, true, true, true, true, true, true] rfl rfl (by kernel_rfl) (by decide) (fun K hK => ?_)
      refine skip_ (w1 := ?_) (by rfl) rfl ?_ ?_
      rotate_left
      · go_simp
        rfl
      refine hK.out _ _ ?_
      clear hK K
      refine done_ (by kernel_rfl) ?_
      have HA7 := Lib.hid (HA5.out.peak (Q := Pk.take q ++ [t]) (n := q + 1) (by simp; omega) (by rw [← strs_app]; exact hown3) hgrow3 hat3)
      have HS7 := Lib.hid (HS5.out.trans (HA5.out.peak_step (n := q + 1) (cap1 := cap3) (.slice (some ⟨g3, 0, none⟩) (q + 1) cap3) hgrow3 hat3))
      clear hown3 hgrow3 hat3 hlt3 HA6 HS5 HA5 hHeld HA4 HS4
      go_wp2_with fail
      go_roundw
      case rel => exact ⟨m / 2, k, Pk.take q ++ [t], _, by omega, by omega, by simp; omega, by go_num, hcar, HA7, HS7⟩
      case measure => simp [intOf]; omega
    · have HC2 := car_odd HC1.out hev
      have e1 : Go.bits .and .i64 (m : Int) 1 = 1 := by rw [and1]; omega
      go_wp2_with fail
      go_ret
      subst HC2
      exact ⟨rfl, _, _, HA4.out, HS4.out⟩
end Go.Proofs.Ytdcbacbilncnnaa.T
end
section
/- slices.Backward at a slice of strings: what its closure hands to the loop's body. After the kit's text on slices.All. -/
namespace Go.Proofs.Ytdcbacbilncnnaa.Bk
open Go.RowKit Go.Shelf
attribute [local go_sem] Oper.semAt_some
def upto {α : Type} (f : Nat → α) (k : Nat) : List α := (List.range k).map f
theorem upto_succ {α : Type} (f : Nat → α) (k : Nat) : upto f (k + 1) = upto f k ++ [f k] := by simp [upto, List.range_succ]
theorem upto_length {α : Type} (f : Nat → α) (k : Nat) : (upto f k).length = k := by simp [upto]
/-- f k is what the k-th round is handed: the k-th from the end. -/
def Hands {α : Type} (enc : α → Array Value) (f : Nat → α) (zs : List ByteArray) : Prop :=
  ∀ k, k < zs.length → enc (f k) = #[Value.int .i64 ((zs.length - 1 - k : Nat) : Int), Value.string (zs.getD (zs.length - 1 - k) ByteArray.empty)]
set_option maxRecDepth 100000 in
set_option maxHeartbeats 2000000 in
theorem back1_in {α : Type} (enc : α → Array Value) (f : Nat → α) (F : Fence) (n : Nat) (h8 : F.fn 95) (hro : F.round = none) (hn : 1 ≤ n) (l Bs n₀ b off cap : Nat) (zs : List ByteArray) (hf : Hands enc f zs) (hreach : zs.length < 1000000) (hb : b < n₀) (Kp : World → World → Prop) (hK1 : ∀ A B, Kp A B → Below n₀ A B) (hK2 : ∀ A B, Kp A B → B.cell? ⟨Bs, 0, none⟩ = A.cell? ⟨Bs, 0, none⟩) (J Jx : List α → World → Prop)
    (hY : ∀ pre x W, J pre W → pre.length < zs.length → YieldAt F (n - 1) Try.prog l (enc x) W fun e W' =>
      (e = .returned (.bool true) ∧ J (pre ++ [x]) W' ∧ Kp W W') ∨ (e = .returned (.bool false) ∧ Jx (pre ++ [x]) W'))
    (W : World) (hBs : W.cell? ⟨Bs, 0, none⟩ = some (.slice (some ⟨b, off, none⟩) zs.length cap)) (hc : ∀ j, j < zs.length → W.cell? ⟨b, off + j, none⟩ = some (.string (zs.getD j ByteArray.empty))) (h0 : J [] W) :
    CallsIn F n Try.prog 95 #[.func (.yield l) #[] #[], .pointer (some ⟨Bs, 0, none⟩)] W fun e W' => (∃ v, e = .returned v) ∧
      ((∃ ys, ys = upto f zs.length ∧ J ys W') ∨ (∃ pre, (∃ k, k ≤ zs.length ∧ pre = upto f k) ∧ Jx pre W')) := by
  obtain ⟨len, hlen⟩ : ∃ len, zs.length = len := ⟨_, rfl⟩
  rw [hlen] at hBs hreach
  refine callsIn_of_wp Try.func95 rfl h8 ?_ hro
  simp only [Try.ntmps95, List.size_toArray, List.length_cons, List.length_nil, Nat.reduceAdd, Nat.reduceSub, Array.replicate_succ, Array.replicate_zero, List.push_toArray, List.append_toArray, List.nil_append, List.cons_append]
  have hwl : IntKind.i64.wrap ((len : Int) - 1) = (len : Int) - 1 := by simp [IntKind.wrap, IntKind.bits, IntKind.signed]; omega
  gi_wp2
  gi_loopw [3] (fun i wr => ∃ k : Nat, k ≤ len ∧ i = .int .i64 ((len : Int) - 1 - k) ∧ J (upto f k) wr ∧ Below n₀ W wr ∧ wr.cell? ⟨Bs, 0, none⟩ = some (.slice (some ⟨b, off, none⟩) len cap))
    (fun i _ => (intOf i + 1).toNat)
  case atStart => exact ⟨0, Nat.zero_le _, by simp, h0, Below.refl _ _, hBs⟩
  case round =>
    obtain ⟨k, hk, rfl, hJs, hnx, hBs'⟩ := hrel
    by_cases hlt : k < len
    · obtain ⟨m, hm⟩ : ∃ m : Nat, (len : Int) - 1 - k = m := ⟨len - 1 - k, by omega⟩
      have hmk : m = len - 1 - k := by omega
      obtain ⟨x, hx⟩ : ∃ x, zs.getD m ByteArray.empty = x := ⟨_, rfl⟩
      have hcx : wr.cell? ⟨b, off + m, none⟩ = some (.string x) := (hnx.cell (p := ⟨b, off + m, none⟩) hb).trans (hx ▸ hc m (by omega))
      obtain ⟨fn, tmps, assign, body, hy, hR⟩ := hY _ (f k) wr hJs (by rw [upto_length]; omega)
      have he := hf k (by omega)
      rw [hlen, ← hmk, hx] at he
      rw [he] at hy
      clear he hf hY
      have hml : m < len := by omega
      rw [hm]
      have HM := Lib.hid hm
      have HK := Lib.hid hmk
      clear hm hmk
      gi_wp2
      refine hR.mono ?_
      rintro e W3 (⟨rfl, hJ3, hk3⟩ | ⟨rfl, hJx3⟩)
      · gi_wp2
        go_roundw
        case rel => exact ⟨k + 1, by omega, by have h1 := HM.out; go_num, by rw [upto_succ]; exact hJ3, hnx.trans (hK1 _ _ hk3), (hK2 _ _ hk3).trans hBs'⟩
        case measure => have h1 := HM.out; simp [intOf] <;> omega
      · gi_wp2
        refine bodyPost_ret (results_none rfl _ _ _) rfl ?_
        exact ⟨⟨_, rfl⟩, .inr ⟨_, ⟨k + 1, by omega, by rw [upto_succ]⟩, hJx3⟩⟩
    · obtain rfl : k = len := by omega
      have hneg : ((k : Int) - 1 - k) = -1 := by omega
      rw [hneg]
      gi_wp2
      go_end0
      exact ⟨⟨_, rfl⟩, .inl ⟨_, by rw [hlen], hJs⟩⟩
/-- The slice value sv holds the strings zs, in a block below n₀; or it is nil and there are none. -/
def Strs (n₀ : Nat) (W : World) (sv : Value) (zs : List ByteArray) : Prop :=
  (sv = .slice none 0 0 ∧ zs = []) ∨ ∃ b off cap, sv = .slice (some ⟨b, off, none⟩) zs.length cap ∧ b < n₀ ∧ ∀ j, j < zs.length → W.cell? ⟨b, off + j, none⟩ = some (.string (zs.getD j ByteArray.empty))
theorem Strs.below {n₀ : Nat} {A B : World} (h : Below n₀ A B) {sv : Value} {zs : List ByteArray} : Strs n₀ A sv zs → Strs n₀ B sv zs
  | .inl e => .inl e
  | .inr ⟨b, off, cap, e, hb, hc⟩ => .inr ⟨b, off, cap, e, hb, fun j hj => (h.cell (p := ⟨b, off + j, none⟩) hb).trans (hc j hj)⟩
set_option maxRecDepth 100000 in
set_option maxHeartbeats 1000000 in
theorem back1_nil_in {α : Type} (F : Fence) (n : Nat) (h8 : F.fn 95) (hro : F.round = none) (l Bs : Nat) (J : List α → World → Prop) (W : World) (hBs : W.cell? ⟨Bs, 0, none⟩ = some (.slice none 0 0)) (h0 : J [] W) :
    CallsIn F n Try.prog 95 #[.func (.yield l) #[] #[], .pointer (some ⟨Bs, 0, none⟩)] W fun e W' => (∃ v, e = .returned v) ∧ J [] W' := by
  refine callsIn_of_wp Try.func95 rfl h8 ?_ hro
  simp only [Try.ntmps95, List.size_toArray, List.length_cons, List.length_nil, Nat.reduceAdd, Nat.reduceSub, Array.replicate_succ, Array.replicate_zero, List.push_toArray, List.append_toArray, List.nil_append, List.cons_append]
  gi_wp2
  gi_loopw [3] (fun i wr => i = .int .i64 (-1) ∧ J [] wr) (fun _ _ => 0)
  case atStart => exact ⟨rfl, h0⟩
  case round =>
    obtain ⟨rfl, hJs⟩ := hrel
    gi_wp2
    go_end0
    exact ⟨⟨_, rfl⟩, hJs⟩
set_option maxHeartbeats 1000000 in
/-- slices.Backward(s): the slice value is boxed; the function value captures the box. -/
theorem backward_any (a : Option Addr) (len cap : Nat) (w : World) :
    Calls Try.prog 79 #[.slice a len cap] w fun e w' => e = .returned (.func (.func 95) #[] #[.pointer (some ⟨w.heap.size, 0, none⟩)]) ∧ w' = w.alloc (.cells #[.slice a len cap] 51) := by
  go_enter Try.func79, Try.ntmps79
  go_wp2
  go_ret
  exact ⟨rfl, rfl⟩
theorem back_stops {α : Type} (enc : α → Array Value) (f : Nat → α) (F : Fence) (n : Nat) (h8 : F.fn 95) (hro : F.round = none) (hn : 1 ≤ n) (Bs n₀ : Nat) (sv : Value) (zs : List ByteArray) (hf : Hands enc f zs) (hreach : zs.length < 1000000) (w : World) (hBs : Bs < w.heap.size) (hn₀ : n₀ ≤ w.heap.size) (Kp : World → World → Prop) (hK1 : ∀ A B, Kp A B → Below n₀ A B) (hK2 : ∀ A B, Kp A B → B.cell? ⟨Bs, 0, none⟩ = A.cell? ⟨Bs, 0, none⟩)
    (hc : w.cell? ⟨Bs, 0, none⟩ = some sv) (hI : Strs n₀ w sv zs) :
    SeqStopsK F n Try.prog 95 #[.pointer (some ⟨Bs, 0, none⟩)] enc Kp (fun ys => ys = upto f zs.length)
      (fun pre => ∃ k, k ≤ zs.length ∧ pre = upto f k) zs.length w := fun l J Jx W hW _ _ hY h0 => by
  have hc' := (hW.cell (p := ⟨Bs, 0, none⟩) hBs).trans hc
  rcases hI.below (hW.mono hn₀) with ⟨rfl, rfl⟩ | ⟨b, off, cap, rfl, hb, hcs⟩
  · exact (back1_nil_in F n h8 hro l Bs J W hc' h0).mono fun e W' ⟨he, hj⟩ => ⟨he, .inl ⟨_, rfl, hj⟩⟩
  · exact back1_in enc f F n h8 hro hn l Bs n₀ b off cap zs hf hreach hb Kp hK1 hK2 J Jx hY W hc' hcs h0
end Go.Proofs.Ytdcbacbilncnnaa.Bk
end
section
/- The tree of digests: Len, Root. -/
set_option linter.unusedVariables false
set_option linter.unusedSimpArgs false
namespace Go.Proofs.Ytdcbacbilncnnaa.T
open Go.RowKit Go.Shelf Go.Proofs.Ytdcbacbilncnnaa.PMk Go.Proofs.Ytdcbacbilncnnaa.Bk Go.Proofs.YtdcbacbilncnnaaW.PrintWords Go.Proofs.YtdcbacbilncnnaaW.PrintLast
theorem At.reads {w : World} {base g : Nat} {vl vp : Value} {L P : List ByteArray} (h : At w base g vl vp L P) : ∃ A c, vl = .slice A L.length c ∧ L.length ≤ c ∧ Kd.C Kd.string w A L.length L := by
  obtain ⟨A, c, hv, hr⟩ := own_reads_of (enc := Value.string) (d := ByteArray.empty) (by have := h.rl; exact this)
  refine ⟨A, c, hv, ?_, Kd.C_of_reads (h1 := fun _ => rfl) hr⟩
  rcases h.rl.2 with ⟨h1, h2⟩ | ⟨g', cap, cur, h1, _, _, h2, _⟩
  · omega
  · rw [hv] at h1
    simp only [Value.slice.injEq] at h1
    omega
theorem len_raw (w : World) (base g : Nat) (vl vp : Value) (L P : List ByteArray) (hA : At w base g vl vp L P) :
    Calls Try.prog 57 #[.pointer (some ⟨g, 0, none⟩)] w fun e w' => e = .returned (.int .i64 L.length) ∧ w' = w := by
  have c0 := hA.c0
  obtain ⟨A, c, hv, _, _⟩ := hA.reads
  subst hv
  clear hA
  go_enter Try.func57, Try.ntmps57
  go_wp2
  go_ret
  exact ⟨rfl, rfl⟩
/-- The peaks from the last but one down, each ahead of what has come. -/
abbrev D32 := { x : Nat × ByteArray // x.2.size = 32 }
def encD (x : D32) : Array Value := #[.int .i64 (x.1.1 : Int), .string x.1.2]
def climbUp : List D32 → ByteArray → Option ByteArray
  | [], h => some h
  | x :: xs, h => (hash_Node.f x.1.2 h).bind fun t => climbUp xs t
theorem climbUp_snoc (xs : List D32) (x : D32) (h : ByteArray) : climbUp (xs ++ [x]) h = (climbUp xs h).bind fun t => hash_Node.f x.1.2 t := by
  induction xs generalizing h with
  | nil =>
    simp only [List.nil_append, climbUp, Option.bind_some]
    cases hash_Node.f x.1.2 h <;> rfl
  | cons y ys ih =>
    simp only [List.cons_append, climbUp]
    cases hash_Node.f y.1.2 h with
    | none => rfl
    | some t => simp only [Option.bind_some]; exact ih t
theorem node_some {a b : ByteArray} (ha : a.size = 32) (hb : b.size = 32) : ∃ t, hash_Node.f a b = some t ∧ t.size = 32 := by
  unfold hash_Node.f
  have s1 : ((⟨#[1]⟩ : ByteArray) ++ a).size = 33 := by rw [ByteArray.size_append, ha]; rfl
  have s2 : (((⟨#[1]⟩ : ByteArray) ++ a) ++ b).size = 65 := by rw [ByteArray.size_append, s1, hb]
  rw [if_pos (by omega), if_pos (by omega)]
  unfold Dig.hash_Sum.f
  rw [if_pos (by omega)]
  exact ⟨_, rfl, Dig.dig_size _⟩
theorem climbUp_some (xs : List D32) {h : ByteArray} (hh : h.size = 32) : ∃ t, climbUp xs h = some t ∧ t.size = 32 := by
  induction xs generalizing h with
  | nil => exact ⟨h, rfl, hh⟩
  | cons x xs ih =>
    obtain ⟨t, ht, hs⟩ := node_some x.2 hh
    obtain ⟨u, hu, hs'⟩ := ih hs
    exact ⟨u, by rw [climbUp, ht]; exact hu, hs'⟩
theorem w64r (q : Nat) (h : q < 1000002) : wrap64 (q : Int) = (q : Int) ∧ wrap64 ((q : Int) + 1 - 1) = (q : Int) := ⟨by unfold wrap64; omega, by unfold wrap64; omega⟩
/-- Q, but nothing at a panic. -/
def sure (Q : Exit → Act → World → Prop) : Exit → Act → World → Prop
  | .panic _, _, _ => False
  | e, a, w => Q e a w
theorem wp_sure {P : Program} {c : Code} {Q : Exit → Act → World → Prop} {a : Act} {w : World} (h : c.wp P (sure Q) a w) : c.wp P Q a w := by
  refine Code.wp_mono (fun e a w h => ?_) h
  cases e <;> first | exact h | exact (h : False).elim
attribute [local go_sem] Oper.semAt_some
set_option maxRecDepth 100000 in
set_option maxHeartbeats 2000000 in
theorem root_raw (w : World) (base g : Nat) (vl vp : Value) (L P : List ByteArray) (hA : At w base g vl vp L P) (hL : L ≠ []) (q : Nat) (hq : P.length = q + 1) (hqs : q < 1000000) (h32 : ∀ x ∈ P, x.size = 32)
    (f : Nat → D32) (hf : Hands encD f (P.take q)) (r : ByteArray) (hr : climbUp (upto f q) (P.getD q ByteArray.empty) = some r) :
    Calls Try.prog 48 #[.pointer (some ⟨g, 0, none⟩)] w fun e w' => e = .returned (.string r) ∧ Below w.heap.size w w' := by
  obtain ⟨gp, cq, rfl, hgb, hgl⟩ := World.ownsRow.form hA.rp (by omega)
  rw [hq] at hA
  obtain ⟨last, hlast⟩ : ∃ x, P.getD q ByteArray.empty = x := ⟨_, rfl⟩
  have hl := Lib.hid hlast
  have HA := Lib.hid hA
  have c1 := hA.c1
  have x0 : w.cell? ⟨gp, q, none⟩ = some (.string last) := hlast ▸ own_str' hA.rp hq (by omega)
  have hqc : q + 1 ≤ cq := own_cap hA.rp hq
  have hne : ¬ (L.length : Int) = 0 := by
    intro e
    exact hL (List.eq_nil_of_length_eq_zero (by omega))
  have hq0 : (0 : Int) ≤ (q : Int) := by omega
  have hq1 : (q : Int) ≤ (cq : Int) := by omega
  have hq2 : (q : Int) < (q : Int) + 1 := by omega
  have HR := Lib.hid hr
  have HF := Lib.hid hf
  have H32 := Lib.hid h32
  clear hr hf h32 hlast hA hL
  obtain ⟨wq, wq1⟩ := w64r q (by omega)
  refine (callsIn_wide (n := 3)).1 ?_
  refine callsIn_of_wp_marks Try.func48 rfl trivial ?_ rfl
  simp only [Try.ntmps48, List.size_toArray, List.length_cons, List.length_nil, Nat.reduceAdd, Nat.reduceSub, Array.replicate_succ, Array.replicate_zero, List.push_toArray, List.append_toArray, List.nil_append, List.cons_append]
  refine wpIn_wide.2 ?_
  go_wp2_with (go_at_call 57; refine (len_raw _ _ _ _ _ _ _ HA.out).mono ?_; rintro e w' ⟨rfl, hw'⟩; obtain rfl : w = w' := hw'.symm)
  refine wp_sure ?_
  refine start_ (n := 14) (S := fun w' => w'.cell? ⟨g, 1, none⟩ = some (.slice (some ⟨gp, 0, none⟩) (q + 1) cq) ∧ w'.cell? ⟨gp, q, none⟩ = some (.string last)) (ds := [13]) #[false, false, false, false, false, false, false, false, false, false, false, false, false, false] (by kernel_rfl) rfl rfl ⟨c1, x0⟩ (fun hHeld => ?_)
  refine pure_ (i := 0) (N := some 10) (v := ?_) (a' := ?_) #[true, false, false, false, false, false, false, false, false, false, false, false, false, false] rfl rfl (by kernel_rfl) (fun _ _ _ h => h.elim) (Or.inl ⟨by rfl, ?_⟩) ?_ ?_
  rotate_left
  · intro w'
    go_simp
    with_reducible rfl
  rotate_left
  · simp only [Act.put, List.setIfInBounds_toArray, List.set_cons_zero, List.set_cons_succ, i64_w, i32_w]
    rfl
  refine pure_ (i := 1) (N := some 11) (v := ?_) (a' := ?_) #[true, true, false, false, false, false, false, false, false, false, false, false, false, false] rfl rfl (by kernel_rfl) (fun _ _ _ h => h.elim) (Or.inl ⟨by rfl, ?_⟩) ?_ ?_
  rotate_left
  · intro w'
    go_simp
    with_reducible rfl
  rotate_left
  · simp only [Act.put, List.setIfInBounds_toArray, List.set_cons_zero, List.set_cons_succ, i64_w, i32_w]
    rfl
  refine pure_ (i := 2) (N := some 12) (v := ?_) (a' := ?_) #[true, true, true, false, false, false, false, false, false, false, false, false, false, false] rfl rfl (by kernel_rfl) (fun _ _ _ h => h.elim) (Or.inl ⟨by rfl, ?_⟩) ?_ ?_
  rotate_left
  · intro w'
    go_simp
    with_reducible rfl
  rotate_left
  · simp only [Act.put, List.setIfInBounds_toArray, List.set_cons_zero, List.set_cons_succ, i64_w, i32_w]
    rfl
  refine pure_ (i := 4) (N := some 14) (v := ?_) (a' := ?_) #[true, true, true, false, true, false, false, false, false, false, false, false, false, false] rfl rfl (by kernel_rfl) (fun _ _ _ h => h.elim) (Or.inl ⟨by rfl, ?_⟩) ?_ ?_
  rotate_left
  · intro w'
    go_simp
    with_reducible rfl
  rotate_left
  · simp only [Act.put, List.setIfInBounds_toArray, List.set_cons_zero, List.set_cons_succ, i64_w, i32_w]
    rfl
  refine pure_ (i := 5) (N := some 15) (v := ?_) (a' := ?_) #[true, true, true, false, true, true, false, false, false, false, false, false, false, false] rfl rfl (by kernel_rfl) (fun _ _ _ h => h.elim) (Or.inl ⟨by rfl, ?_⟩) ?_ ?_
  rotate_left
  · intro w'
    go_simp
    with_reducible rfl
  rotate_left
  · simp only [Act.put, List.setIfInBounds_toArray, List.set_cons_zero, List.set_cons_succ, i64_w, i32_w]
    rfl
  refine pure_ (i := 6) (N := some 16) (v := ?_) (a' := ?_) #[true, true, true, false, true, true, true, false, false, false, false, false, false, false] rfl rfl (by kernel_rfl) (fun _ _ _ h => h.elim) (Or.inl ⟨by rfl, ?_⟩) ?_ ?_
  rotate_left
  · intro w'
    go_simp
    with_reducible rfl
  rotate_left
  · simp only [Act.put, List.setIfInBounds_toArray, List.set_cons_zero, List.set_cons_succ, i64_w, i32_w]
    rfl
  refine take_ (i := 3) (N := some 13) (v := ?_) (a' := ?_) #[true, true, true, true, true, true, true, false, false, false, false, false, false, false] rfl rfl (by kernel_rfl) (fun _ _ _ h => h.elim) (Or.inl ⟨by rfl, ?_⟩) hHeld ?_ ?_
  rotate_left
  · rintro w' ⟨s0, s1⟩
    go_simp
    with_reducible rfl
  rotate_left
  · simp only [Act.put, List.setIfInBounds_toArray, List.set_cons_zero, List.set_cons_succ, i64_w, i32_w]
    rfl
  refine take_ (i := 7) (N := some 17) (v := ?_) (a' := ?_) #[true, true, true, true, true, true, true, true, false, false, false, false, false, false] rfl rfl (by kernel_rfl) (fun _ _ _ h => h.elim) (Or.inl ⟨by rfl, ?_⟩) hHeld ?_ ?_
  rotate_left
  · rintro w' ⟨s0, s1⟩
    go_simp
    with_reducible rfl
  rotate_left
  · simp only [Act.put, List.setIfInBounds_toArray, List.set_cons_zero, List.set_cons_succ, i64_w, i32_w]
    rfl
  refine pure_ (i := 8) (N := some 18) (v := ?_) (a' := ?_) #[true, true, true, true, true, true, true, true, true, false, false, false, false, false] rfl rfl (by kernel_rfl) (fun _ _ _ h => h.elim) (Or.inl ⟨by rfl, ?_⟩) ?_ ?_
  rotate_left
  · intro w'
    go_simp
    with_reducible rfl
  rotate_left
  · simp only [Act.put, List.setIfInBounds_toArray, List.set_cons_zero, List.set_cons_succ, i64_w, i32_w]
    rfl
  refine pure_ (i := 9) (N := some 19) (v := ?_) (a' := ?_) #[true, true, true, true, true, true, true, true, true, true, false, false, false, false] rfl rfl (by kernel_rfl) (fun _ _ _ h => h.elim) (Or.inl ⟨by rfl, ?_⟩) ?_ ?_
  rotate_left
  · intro w'
    go_simp
    with_reducible rfl
  rotate_left
  · simp only [Act.put, List.setIfInBounds_toArray, List.set_cons_zero, List.set_cons_succ, i64_w, i32_w]
    rfl
  refine pure_ (i := 10) (N := some 20) (v := ?_) (a' := ?_) #[true, true, true, true, true, true, true, true, true, true, true, false, false, false] rfl rfl (by kernel_rfl) (fun _ _ _ h => h.elim) (Or.inl ⟨by rfl, ?_⟩) ?_ ?_
  rotate_left
  · intro w'
    go_simp
    with_reducible rfl
  rotate_left
  · simp only [Act.put, List.setIfInBounds_toArray, List.set_cons_zero, List.set_cons_succ, i64_w, i32_w]
    rfl
  refine take_ (i := 11) (N := some 21) (v := ?_) (a' := ?_) #[true, true, true, true, true, true, true, true, true, true, true, true, false, false] rfl rfl (by kernel_rfl) (fun _ _ _ h => h.elim) (Or.inl ⟨by rfl, ?_⟩) hHeld ?_ ?_
  rotate_left
  · rintro w' ⟨s0, s1⟩
    go_simp
    with_reducible rfl
  rotate_left
  · simp only [Act.put, List.setIfInBounds_toArray, List.set_cons_zero, List.set_cons_succ, i64_w, i32_w]
    rfl
  refine one_ (i := 12) (N := some 3) #[true, true, true, true, true, true, true, true, true, true, true, true, true, false] rfl rfl (by kernel_rfl) (by decide) (fun K hK => ?_)
  refine value_ (w1 := ?_) (v := ?_) (by rfl) rfl ?_ ?_
  rotate_left 2
  · go_simp
    constructor
    · rfl
    · rfl
  have HA1 := Lib.hid (HA.out.below (((Below.refl _ w).drew).alloc (Nat.le_refl _) (.cells #[.string ⟨#[]⟩] 9)))
  refine hK.out _ _ ⟨HA1.out.c1, hl.out ▸ own_str' HA1.out.rp hq (by omega)⟩ (fun hHeld => ?_)
  clear hK K
  refine norm_ (a' := ?_) ?_ ?_
  rotate_left
  · show Act.put _ (some 3) _ = _
    simp only [Act.put, List.setIfInBounds_toArray, List.set_cons_zero, List.set_cons_succ, i64_w, i32_w]
    rfl
  refine last_ (i := 13) (N := none) #[true, true, true, true, true, true, true, true, true, true, true, true, true, true] rfl rfl (by kernel_rfl) (by decide) (fun K hK => ?_)
  refine skip_ (w1 := ?_) (by rfl) rfl ?_ ?_
  rotate_left
  · go_simp
    rfl
  refine hK.out _ _ ?_
  clear hK K
  refine done_ (by kernel_rfl) ?_
  rename_i Q' h K hK hH0
  show K _ _
  refine hK _ _ ?_
  clear hK K hHeld hH0 c1 x0
  have HA2 : Hid (At (w.alloc (Obj.cells #[Value.string last] 9)).drew base g vl (.slice (some ⟨gp, 0, none⟩) (q + 1) cq) L P) := Lib.hid (HA.out.below (((Below.refl _ w).alloc (Nat.le_refl _) _).drew))
  have HX : Hid (Boxed (w.alloc (Obj.cells #[Value.string last] 9)).drew w.heap.size 9 (.string last)) := Lib.hid (Boxed.new w 9 (.string last))
  have HB : Hid (Below w.heap.size w (w.alloc (Obj.cells #[Value.string last] 9)).drew) := Lib.hid (((Below.refl _ w).alloc (Nat.le_refl _) _).drew)
  have HZ : Hid ((w.alloc (Obj.cells #[Value.string last] 9)).drew.heap.size = w.heap.size + 1) := Lib.hid (by simp)
  generalize (w.alloc (Obj.cells #[Value.string last] 9)).drew = w2 at HA2 HX HB HZ ⊢
  go_wp2_with fail
  refine wp_sure ?_
  refine start_ (n := 12) (S := fun w' => w'.cell? ⟨g, 1, none⟩ = some (.slice (some ⟨gp, 0, none⟩) (q + 1) cq)) (ds := [11]) #[false, false, false, false, false, false, false, false, false, false, false, false] (by kernel_rfl) rfl rfl (HA2.out.c1) (fun hHeld => ?_)
  refine pure_ (i := 0) (N := some 22) (v := ?_) (a' := ?_) #[true, false, false, false, false, false, false, false, false, false, false, false] rfl rfl (by kernel_rfl) (fun _ _ _ h => h.elim) (Or.inl ⟨by rfl, ?_⟩) ?_ ?_
  rotate_left
  · intro w'
    go_simp
    with_reducible rfl
  rotate_left
  · simp only [Act.put, List.setIfInBounds_toArray, List.set_cons_zero, List.set_cons_succ, i64_w, i32_w]
    rfl
  refine pure_ (i := 1) (N := some 23) (v := ?_) (a' := ?_) #[true, true, false, false, false, false, false, false, false, false, false, false] rfl rfl (by kernel_rfl) (fun _ _ _ h => h.elim) (Or.inl ⟨by rfl, ?_⟩) ?_ ?_
  rotate_left
  · intro w'
    go_simp
    with_reducible rfl
  rotate_left
  · simp only [Act.put, List.setIfInBounds_toArray, List.set_cons_zero, List.set_cons_succ, i64_w, i32_w]
    rfl
  refine pure_ (i := 2) (N := some 24) (v := ?_) (a' := ?_) #[true, true, true, false, false, false, false, false, false, false, false, false] rfl rfl (by kernel_rfl) (fun _ _ _ h => h.elim) (Or.inl ⟨by rfl, ?_⟩) ?_ ?_
  rotate_left
  · intro w'
    go_simp
    with_reducible rfl
  rotate_left
  · simp only [Act.put, List.setIfInBounds_toArray, List.set_cons_zero, List.set_cons_succ, i64_w, i32_w]
    rfl
  refine pure_ (i := 4) (N := some 26) (v := ?_) (a' := ?_) #[true, true, true, false, true, false, false, false, false, false, false, false] rfl rfl (by kernel_rfl) (fun _ _ _ h => h.elim) (Or.inl ⟨by rfl, ?_⟩) ?_ ?_
  rotate_left
  · intro w'
    go_simp
    with_reducible rfl
  rotate_left
  · simp only [Act.put, List.setIfInBounds_toArray, List.set_cons_zero, List.set_cons_succ, i64_w, i32_w]
    rfl
  refine pure_ (i := 5) (N := some 27) (v := ?_) (a' := ?_) #[true, true, true, false, true, true, false, false, false, false, false, false] rfl rfl (by kernel_rfl) (fun _ _ _ h => h.elim) (Or.inl ⟨by rfl, ?_⟩) ?_ ?_
  rotate_left
  · intro w'
    go_simp
    with_reducible rfl
  rotate_left
  · simp only [Act.put, List.setIfInBounds_toArray, List.set_cons_zero, List.set_cons_succ, i64_w, i32_w]
    rfl
  refine pure_ (i := 6) (N := some 28) (v := ?_) (a' := ?_) #[true, true, true, false, true, true, true, false, false, false, false, false] rfl rfl (by kernel_rfl) (fun _ _ _ h => h.elim) (Or.inl ⟨by rfl, ?_⟩) ?_ ?_
  rotate_left
  · intro w'
    go_simp
    with_reducible rfl
  rotate_left
  · simp only [Act.put, List.setIfInBounds_toArray, List.set_cons_zero, List.set_cons_succ, i64_w, i32_w]
    rfl
  refine take_ (i := 3) (N := some 25) (v := ?_) (a' := ?_) #[true, true, true, true, true, true, true, false, false, false, false, false] rfl rfl (by kernel_rfl) (fun _ _ _ h => h.elim) (Or.inl ⟨by rfl, ?_⟩) hHeld ?_ ?_
  rotate_left
  · intro w' s0
    go_simp
    with_reducible rfl
  rotate_left
  · simp only [Act.put, List.setIfInBounds_toArray, List.set_cons_zero, List.set_cons_succ, i64_w, i32_w]
    rfl
  refine take_ (i := 7) (N := some 29) (v := ?_) (a' := ?_) #[true, true, true, true, true, true, true, true, false, false, false, false] rfl rfl (by kernel_rfl) (fun _ _ _ h => h.elim) (Or.inl ⟨by rfl, ?_⟩) hHeld ?_ ?_
  rotate_left
  · intro w' s0
    go_simp
    with_reducible rfl
  rotate_left
  · simp only [Act.put, List.setIfInBounds_toArray, List.set_cons_zero, List.set_cons_succ, i64_w, i32_w]
    rfl
  refine pure_ (i := 8) (N := some 30) (v := ?_) (a' := ?_) #[true, true, true, true, true, true, true, true, true, false, false, false] rfl rfl (by kernel_rfl) (fun _ _ _ h => h.elim) (Or.inl ⟨by rfl, ?_⟩) ?_ ?_
  rotate_left
  · intro w'
    go_simp
    with_reducible rfl
  rotate_left
  · simp only [Act.put, List.setIfInBounds_toArray, List.set_cons_zero, List.set_cons_succ, i64_w, i32_w]
    rfl
  refine pure_ (i := 9) (N := some 31) (v := ?_) (a' := ?_) #[true, true, true, true, true, true, true, true, true, true, false, false] rfl rfl (by kernel_rfl) (fun _ _ _ h => h.elim) (Or.inl ⟨by rfl, ?_⟩) ?_ ?_
  rotate_left
  · intro w'
    go_simp
    with_reducible rfl
  rotate_left
  · simp only [Act.put, List.setIfInBounds_toArray, List.set_cons_zero, List.set_cons_succ, i64_w, i32_w]
    rfl
  refine pure_ (i := 10) (N := some 32) (v := ?_) (a' := ?_) #[true, true, true, true, true, true, true, true, true, true, true, false] rfl rfl (by kernel_rfl) (fun _ _ _ h => h.elim) (Or.inl ⟨by rfl, ?_⟩) ?_ ?_
  rotate_left
  · intro w'
    go_simp
    with_reducible rfl
  rotate_left
  · simp only [Act.put, List.setIfInBounds_toArray, List.set_cons_zero, List.set_cons_succ, i64_w, i32_w]
    rfl
  refine last_ (i := 11) (N := some 33) #[true, true, true, true, true, true, true, true, true, true, true, true] rfl rfl (by kernel_rfl) (by decide) (fun K hK => ?_)
  refine goes_ Try.func79 (by kernel_rfl) rfl #[.slice (some ⟨gp, 0, none⟩) q cq] (by rfl) rfl rfl (by simp only [List.map_toArray, List.map_cons, List.map_nil]; rfl) ?_
  with_reducible refine (backward_any _ _ _ _).mono ?_
  rintro e w4 ⟨rfl, rfl⟩
  refine ⟨_, rfl, ?_⟩
  refine hK.out _ _ ?_
  clear hK K
  refine norm_ (a' := ?_) ?_ ?_
  rotate_left
  · show Act.put _ (some 33) _ = _
    simp only [Act.put, List.setIfInBounds_toArray, List.set_cons_zero, List.set_cons_succ, i64_w, i32_w]
    rfl
  refine done_ (by kernel_rfl) ?_
  rename_i K7 hK7 K hK
  show K _ _
  refine hK _ _ ?_
  clear hK K hHeld
  rw [show w2.drew.heap.size = w.heap.size + 1 from HZ.out]
  have HX4 : Hid (Boxed (w2.drew.alloc (Obj.cells #[Value.slice (some { block := gp, off := 0 }) q cq] 51)) w.heap.size 9 (.string last)) := Lib.hid (Boxed.alloc (W := w2.drew) HX.out _)
  have HS4 : Hid (Boxed (w2.drew.alloc (Obj.cells #[Value.slice (some { block := gp, off := 0 }) q cq] 51)) (w.heap.size + 1) 51 (.slice (some ⟨gp, 0, none⟩) q cq)) := Lib.hid (HZ.out ▸ Boxed.new w2.drew 51 (.slice (some ⟨gp, 0, none⟩) q cq))
  have HB4 : Hid (Below w.heap.size w (w2.drew.alloc (Obj.cells #[Value.slice (some { block := gp, off := 0 }) q cq] 51))) := Lib.hid ((HB.out.drew).alloc (by have := HZ.out; simp; omega) _)
  have HZ4 : Hid ((w2.drew.alloc (Obj.cells #[Value.slice (some { block := gp, off := 0 }) q cq] 51)).heap.size = w.heap.size + 2) := Lib.hid (by have := HZ.out; simp; omega)
  have HA4 : Hid (At (w2.drew.alloc (Obj.cells #[Value.slice (some { block := gp, off := 0 }) q cq] 51)) base g vl (.slice (some ⟨gp, 0, none⟩) (q + 1) cq) L P) := Lib.hid (HA.out.below HB4.out)
  generalize w2.drew.alloc (Obj.cells #[Value.slice (some { block := gp, off := 0 }) q cq] 51) = w4 at HX4 HS4 HB4 HZ4 HA4 ⊢
  clear HA1 HA2 HX HB HZ w2
  go_wp2_with fail
  clear wq wq1 h hne hw'
  refine (wpIn_wide (n := 3)).1 ?_
  refine wpIn_rangeFunc_ownG rfl (by decide) (gf := 95) (lb := #[.pointer (some ⟨w.heap.size + 1, 0, none⟩)]) rfl trivial (enters_of Try.func95 (by kernel_rfl) rfl)
    (back_stops encD f Fence.wide _ trivial rfl (by decide) (w.heap.size + 1) w.heap.size (.slice (some ⟨gp, 0, none⟩) q cq) (P.take q) HF.out (by simp; omega) w4 (by have := HZ4.out; omega) HB4.out.size
      (fun A B => Below w.heap.size A B ∧ B.cell? ⟨w.heap.size + 1, 0, none⟩ = A.cell? ⟨w.heap.size + 1, 0, none⟩) (fun _ _ h => h.1) (fun _ _ h => h.2) HS4.out.cell ?strs)
    (fun h k => ⟨h.1.trans k.1, k.2.trans h.2⟩) (fun W l o o' hl hW ho hw => ⟨belowK_b (w := w4) HB4.out.size W l o o' hl hW ho hw, ?other⟩) (Below.refl _ _) (fun _ => rfl)
    (fun pre W => ((∃ hc, climbUp pre last = some hc ∧ Boxed W w.heap.size 9 (.string hc)) ∧ W.heap.size ≥ w.heap.size + 2) ∧ Below w.heap.size w W)
    (fun _ _ _ => False)
    ?own
    (fun _ _ _ _ _ hs _ _ => hs)
    ⟨⟨⟨last, rfl, HX4.out⟩, by have := HZ4.out; omega⟩, HB4.out⟩
    (fun x => { tmps := #[Value.pointer (some { block := g, off := 0 }), undef, Value.string { data := #[] }, Value.pointer (some { block := w.heap.size, off := 0 }), undef, .string x.1.2, Value.pointer (some { block := g, off := 0 }), Value.int IntKind.i64 (L.length : Int), Value.bool ((L.length : Int) == 0), undef, Value.pointer (some { block := g, off := 0 }), Value.pointer (some { block := g, off := 0 }), Value.pointer (some { block := g, off := 1 }), Value.slice (some { block := gp, off := 0 }) (q + 1) cq, Value.pointer (some { block := g, off := 0 }), Value.pointer (some { block := g, off := 0 }), Value.pointer (some { block := g, off := 1 }), Value.slice (some { block := gp, off := 0 }) (q + 1) cq, Value.int IntKind.i64 ((q : Int) + 1), Value.int IntKind.i64 (wrap64 (q : Int)), Value.pointer (some { block := gp, off := q }), Value.string last, Value.pointer (some { block := g, off := 0 }), Value.pointer (some { block := g, off := 0 }), Value.pointer (some { block := g, off := 1 }), Value.slice (some { block := gp, off := 0 }) (q + 1) cq, Value.pointer (some { block := g, off := 0 }), Value.pointer (some { block := g, off := 0 }), Value.pointer (some { block := g, off := 1 }), Value.slice (some { block := gp, off := 0 }) (q + 1) cq, Value.int IntKind.i64 ((q : Int) + 1), Value.int IntKind.i64 (wrap64 (q : Int)), Value.slice (some { block := gp, off := 0 }) q cq, Value.func (Fn.func 95) #[] #[Value.pointer (some { block := w.heap.size + 1, off := 0 })], .int .i64 (x.1.1 : Int), .string x.1.2, undef, undef, undef, undef], defers := [] }) ?assign ?body ?done ?stop
  case strs =>
    have e1 : (P.take q).length = q := by simp; omega
    refine .inr ⟨gp, 0, cq, by rw [e1], hgl, fun j hj => ?_⟩
    rw [e1] at hj
    have e2 : (P.take q).getD j ByteArray.empty = P.getD j ByteArray.empty := by simp [List.getElem?_take, hj]
    rw [e2, Nat.zero_add]
    exact own_str' HA4.out.rp hq (by omega)
  case other =>
    have h1 := HZ4.out
    have h2 := (Array.getElem?_eq_some_iff.1 hW).1
    exact World.cell?_of_block ((grownBy_putObj' W l o').block (w.heap.size + 1) (by omega) (by intro e; injection e with e; omega))
  case own =>
    have h1 := HZ4.out
    refine OwnFrom.and ?_ (ownFrom_below (Nat.le_refl _) (by omega))
    rintro pre A B row ⟨⟨hc, h2, h3⟩, h4⟩ hg hr
    exact ⟨⟨hc, h2, h3.kept hg (fun e => by have := (hr _ e.symm).1; omega)⟩, Nat.le_trans h4 hg.size⟩
  case assign =>
    intro l x W K hK
    dsimp only [encD]
    gi_wp2
    exact hK
  case body =>
    rintro l pre x W ⟨⟨⟨hc, hcl, hX⟩, hsz⟩, hB⟩ _
    have h32 : last.size = 32 := by
      rw [← hl.out]
      exact H32.out _ (by rw [List.getD_eq_getElem?_getD, List.getElem?_eq_getElem (by omega)]; exact List.getElem_mem _)
    obtain ⟨hc', hcl', hcs⟩ := climbUp_some pre h32
    obtain rfl : hc' = hc := Option.some.inj (hcl'.symm.trans hcl)
    obtain ⟨t, ht, _⟩ := node_some x.2 hcs
    have HT := Lib.hid ht
    have HXX := Lib.hid hX
    have HBB := Lib.hid hB
    have HSZ := Lib.hid hsz
    have HCL := Lib.hid hcl
    have hcell := hX.cell
    have hfr := hX.frozen
    clear ht hcl' hcl h32 hcs hX hB hsz
    gi_wp2_with (refine ⟨trivial, ?_⟩; gi_at_call 80; refine (CallsIn.inRound l (callsIn_wide.2 (hash_Node.calls x.1.2 hc' t _ HT.out))).mono ?_; rintro e w' ⟨rfl, hb'⟩; have HB' := Lib.hid hb'; have HX' : Hid (Boxed w' w.heap.size 9 (.string hc')) := Lib.hid ((hb'.block _ HXX.out.lt).trans HXX.out); have hcell' := HX'.out.cell; have hfr' := HX'.out.frozen; clear hb')
    have e3 := HSZ.out
    refine ⟨((KeepsOthers.of_grownBy (grown_of_below HB'.out none) (fun _ _ e => by cases e)).trans (KeepsOthers.setCell _ _ _)).from _, ⟨(show Below w.heap.size W w' from HB'.out.mono (by omega)).setCell (p := ⟨w.heap.size, 0, none⟩) (Nat.le_refl _) _, ?_⟩, ⟨⟨t, by rw [climbUp_snoc, HCL.out]; exact HT.out, HX'.out.set _⟩, ?_⟩, ?_⟩
    · refine World.cell?_of_block ?_
      exact (Below.heap_setCell _ _ _ _ (by simp)).trans (HB'.out.block _ (by show w.heap.size + 1 < W.heap.size; omega))
    · have := HB'.out.size; simp; omega
    · exact (HBB.out.trans (show Below w.heap.size W w' from HB'.out.mono (by omega))).setCell (p := ⟨w.heap.size, 0, none⟩) (Nat.le_refl _) _
  case done =>
    rintro D ys W hD rfl ⟨⟨⟨hc, hcl, hX⟩, hsz⟩, hB⟩ hK
    have e1 : (P.take q).length = q := by simp; omega
    rw [e1] at hcl
    have hr := HR.out
    rw [hl.out, hcl] at hr
    obtain rfl := Option.some.inj hr
    have hcell := hX.cell
    have HXX := Lib.hid hX
    have HBB := Lib.hid hB
    have h1 := HZ4.out
    clear hX hr hcl hB
    show K7 _ _
    refine hK7 _ _ ?_
    go_wp2
    refine ⟨by simp, .inl ⟨_, _, rfl, run_takeDeferred hK, ?_⟩⟩
    exact ⟨_, results_tmp rfl _ _ _, rfl, HBB.out.trans (belowK_b (w := w) (Nat.le_refl _) W D _ _ (by omega) hK rfl rfl)⟩
  case stop =>
    rintro D c pre W _ _ h _
    exact h.elim
end Go.Proofs.Ytdcbacbilncnnaa.T
end
section
/- The peaks of a growing tree. -/
set_option linter.unusedVariables false
set_option linter.unusedSimpArgs false
namespace Go.Proofs.Ytdcbacbilncnnaa.M
open Go.RowKit Go.Proofs.Ytdcbacbilncnnaa.PMk Go.Proofs.Ytdcbacbilncnnaa.T Go.Proofs.Ytdcbacbilncnnaa.Bk Go.Proofs.YtdcbacbilncnnaaW.PrintWords Go.Proofs.YtdcbacbilncnnaaW.PrintLast
def gp (n : Nat) : Nat := 2 ^ n.log2
theorem gp_le {n : Nat} (h : n ≠ 0) : gp n ≤ n := Nat.log2_self_le h
theorem gp_pos (n : Nat) : 1 ≤ gp n := Nat.one_le_two_pow
theorem gp_eq {n e : Nat} (h1 : 2 ^ e ≤ n) (h2 : n < 2 ^ (e + 1)) : gp n = 2 ^ e := by
  have h0 : n ≠ 0 := by have := Nat.one_le_two_pow (n := e); omega
  rw [gp, (Nat.log2_eq_iff h0).2 ⟨h1, h2⟩]
def pk (l : List ByteArray) : List ByteArray :=
  if h : l.length = 0 then [] else mroot (l.take (gp l.length)) :: pk (l.drop (gp l.length))
termination_by l.length
decreasing_by have := gp_pos l.length; simp; omega
theorem pk_nil : pk [] = [] := by rw [pk]; rfl
theorem pk_cons {l : List ByteArray} (h : l.length ≠ 0) : pk l = mroot (l.take (gp l.length)) :: pk (l.drop (gp l.length)) := by rw [pk]; rw [dif_neg h]
theorem pk_snoc (j : Nat) (C : List ByteArray) (hC : C.length = 2 ^ j) : ∀ (d a : Nat) (X : List ByteArray), X.length ≤ d → X.length = a * 2 ^ (j + 1) → pk (X ++ C) = pk X ++ [mroot C] := by
  have hp := Nat.one_le_two_pow (n := j)
  intro d
  induction d with
  | zero =>
    intro a X hd hX
    obtain rfl : X = [] := List.eq_nil_of_length_eq_zero (by omega)
    rw [List.nil_append, pk_nil, List.nil_append, pk_cons (by omega), gp_eq (e := j) (by omega) (by rw [hC, Nat.pow_succ]; omega), ← hC, List.take_length, List.drop_length, pk_nil]
  | succ d ih =>
    intro a X hd hX
    by_cases h0 : X.length = 0
    · obtain rfl : X = [] := List.eq_nil_of_length_eq_zero h0
      rw [List.nil_append, pk_nil, List.nil_append, pk_cons (by omega), gp_eq (e := j) (by omega) (by rw [hC, Nat.pow_succ]; omega), ← hC, List.take_length, List.drop_length, pk_nil]
    · have ha : 1 ≤ a := by
        rcases Nat.eq_zero_or_pos a with h | h
        · rw [h] at hX; omega
        · exact h
      obtain ⟨e, he⟩ : ∃ e, X.length.log2 = e := ⟨_, rfl⟩
      obtain ⟨g1, g2⟩ := (Nat.log2_eq_iff h0).1 he
      have hje : j + 1 ≤ e := by
        rcases Nat.lt_or_ge e (j + 1) with h | h
        · have h3 : 2 ^ (e + 1) ≤ 2 ^ (j + 1) := Nat.pow_le_pow_right (by omega) (by omega)
          have h4 : 1 * 2 ^ (j + 1) ≤ a * 2 ^ (j + 1) := Nat.mul_le_mul_right _ ha
          omega
        · exact h
      have hpe : 2 ^ e = 2 ^ (j + 1) * 2 ^ (e - (j + 1)) := by rw [← Nat.pow_add]; congr 1; omega
      have hpe1 : 2 ^ (e + 1) = 2 ^ (j + 1) * 2 ^ (e - j) := by rw [← Nat.pow_add]; congr 1; omega
      have hlt : a < 2 ^ (e - j) := by
        rw [hX, hpe1, Nat.mul_comm] at g2
        exact Nat.lt_of_mul_lt_mul_left g2
      have hle : (a + 1) * 2 ^ (j + 1) ≤ 2 ^ (e + 1) := by
        rw [hpe1, Nat.mul_comm]; exact Nat.mul_le_mul_left _ hlt
      rw [Nat.add_mul, Nat.one_mul, ← hX] at hle
      have hjj : 2 ^ (j + 1) = 2 ^ j * 2 := Nat.pow_succ ..
      have hgX : gp X.length = 2 ^ e := gp_eq g1 g2
      have hgXC : gp (X ++ C).length = 2 ^ e := gp_eq (by simp; omega) (by simp; omega)
      have hne : (X ++ C).length ≠ 0 := by rw [List.length_append]; omega
      rw [pk_cons (l := X ++ C) hne, pk_cons (l := X) h0, hgX, hgXC, List.take_append_of_le_length g1, List.drop_append_of_le_length g1, List.cons_append]
      congr 1
      have hp1 := Nat.one_le_two_pow (n := e)
      have hdl : (X.drop (2 ^ e)).length ≤ d := by rw [List.length_drop]; omega
      refine ih (a - 2 ^ (e - (j + 1))) (X.drop (2 ^ e)) hdl ?_
      rw [List.length_drop, hX, hpe, Nat.sub_mul, Nat.mul_comm (2 ^ (e - (j + 1)))]
theorem mroot_pow (j : Nat) (D C : List ByteArray) (hD : D.length = 2 ^ j) (hC : C.length = 2 ^ j) : mroot (D ++ C) = node (mroot D) (mroot C) := by
  have hp := Nat.one_le_two_pow (n := j)
  have hs : sp (D ++ C).length = 2 ^ j := sp_eq (by simp; omega) (by simp; rw [Nat.pow_succ]; omega)
  rw [mroot_two (by simp; omega), hs, ← hD, List.take_left, List.drop_left]
theorem pk_w32 : ∀ (d : Nat) (l : List ByteArray), l.length ≤ d → W32 l → W32 (pk l) ∧ (pk l).length ≤ l.length
  | 0, l, h, hw => by
    obtain rfl : l = [] := List.eq_nil_of_length_eq_zero (by omega)
    rw [pk_nil]; exact ⟨hw, Nat.le_refl _⟩
  | d + 1, l, h, hw => by
    by_cases h0 : l.length = 0
    · obtain rfl : l = [] := List.eq_nil_of_length_eq_zero h0
      rw [pk_nil]; exact ⟨hw, Nat.le_refl _⟩
    · have hg := gp_pos l.length
      obtain ⟨h1, h2⟩ := pk_w32 d (l.drop (gp l.length)) (by simp; omega) (hw.drop _)
      rw [pk_cons h0]
      exact ⟨W32.cons.2 ⟨mroot_size (hw.take _), h1⟩, by simp at h2 ⊢; omega⟩
/-- What the loop makes of the peaks and a new block: the peaks. -/
theorem car_pk : ∀ (m j : Nat) (X C : List ByteArray), 1 ≤ m → W32 X → W32 C → X.length = (m - 1) * 2 ^ j → C.length = 2 ^ j → ∃ k, car k (pk X ++ [mroot C]) m = some (pk (X ++ C)) := by
  intro m
  induction m using Nat.strongRecOn with
  | _ m ih =>
  intro j X C h1 hwX hwC hX hC
  have hp := Nat.one_le_two_pow (n := j)
  by_cases hev : m % 2 = 0
  · have hm : m - 1 = (m - 2) + 1 := by omega
    have hXl : X.length = (m - 2) * 2 ^ j + 2 ^ j := by rw [hX, hm, Nat.add_mul, Nat.one_mul]
    obtain ⟨X', D, hXD, hX', hD⟩ : ∃ X' D, X = X' ++ D ∧ X'.length = (m - 2) * 2 ^ j ∧ D.length = 2 ^ j :=
      ⟨X.take ((m - 2) * 2 ^ j), X.drop ((m - 2) * 2 ^ j), (List.take_append_drop _ _).symm, by simp; omega, by simp; omega⟩
    subst hXD
    have e2 : (m - 2) * 2 ^ j = (m / 2 - 1) * 2 ^ (j + 1) := by
      rw [Nat.pow_succ, ← Nat.mul_assoc, Nat.mul_right_comm]; congr 1; omega
    have hpk : pk (X' ++ D) = pk X' ++ [mroot D] := pk_snoc j D hD _ _ X' (Nat.le_refl _) (hX'.trans e2)
    obtain ⟨k, hk⟩ := ih (m / 2) (by omega) (j + 1) X' (D ++ C) (by omega) (W32.app.1 hwX).1 (W32.app.2 ⟨(W32.app.1 hwX).2, hwC⟩) (hX'.trans e2) (by rw [List.length_append, hD, hC, Nat.pow_succ]; omega)
    refine ⟨k + 1, ?_⟩
    rw [hpk, car, if_pos hev, if_pos (by simp)]
    have l1 : (pk X' ++ [mroot D] ++ [mroot C]).length - 2 = (pk X').length := by simp
    have l2 : (pk X' ++ [mroot D] ++ [mroot C]).length - 1 = (pk X').length + 1 := by simp
    rw [l1, l2]
    have g1 : (pk X' ++ [mroot D] ++ [mroot C]).getD (pk X').length ByteArray.empty = mroot D := by simp
    have g2 : (pk X' ++ [mroot D] ++ [mroot C]).getD ((pk X').length + 1) ByteArray.empty = mroot C := by
      rw [List.getD_eq_getElem?_getD, List.getElem?_append_right (by simp)]; simp
    have g3 : (pk X' ++ [mroot D] ++ [mroot C]).take (pk X').length = pk X' := by rw [List.append_assoc, List.take_left]
    rw [g1, g2, g3, node_f _ _ (by rw [mroot_size (W32.app.1 hwX).2]; omega) (by rw [mroot_size hwC]; omega), Option.bind_some, ← mroot_pow j D C hD hC, hk, List.append_assoc]
  · refine ⟨1, ?_⟩
    rw [car, if_neg hev, pk_snoc j C hC _ ((m - 1) / 2) X (Nat.le_refl _)]
    rw [hX, Nat.pow_succ, ← Nat.mul_assoc, Nat.mul_right_comm]; congr 1; omega
def foldUp : List ByteArray → ByteArray
  | [] => ByteArray.empty
  | [x] => x
  | x :: y :: t => node x (foldUp (y :: t))
theorem foldUp_cons (x : ByteArray) {l : List ByteArray} (h : l ≠ []) : foldUp (x :: l) = node x (foldUp l) := by
  cases l with
  | nil => exact absurd rfl h
  | cons y t => rfl
theorem foldUp_size {l : List ByteArray} (h : l ≠ []) (hw : W32 l) : (foldUp l).size = 32 := by
  match l, h with
  | [x], _ => exact W32.one.1 hw
  | x :: y :: t, _ => exact node_size _ _
theorem fold_pk : ∀ (d : Nat) (l : List ByteArray), l.length ≤ d → l ≠ [] → foldUp (pk l) = mroot l
  | 0, l, h, hne => absurd (List.eq_nil_of_length_eq_zero (by omega)) hne
  | d + 1, l, h, hne => by
    have h0 : l.length ≠ 0 := fun h => hne (List.eq_nil_of_length_eq_zero h)
    have hg := gp_pos l.length
    have hle := gp_le h0
    rw [pk_cons h0]
    by_cases he : gp l.length = l.length
    · rw [he, List.take_length, List.drop_length, pk_nil]
      rfl
    · have hd : (l.drop (gp l.length)).length ≠ 0 := by simp; omega
      have hdn : l.drop (gp l.length) ≠ [] := fun h => hd (by rw [h]; rfl)
      have hs : sp l.length = gp l.length := sp_eq (by show gp l.length < _; omega) (Nat.le_of_lt (Nat.lt_log2_self))
      have h2 : 2 ≤ l.length := by omega
      have hdl : (l.drop (gp l.length)).length ≤ d := by rw [List.length_drop]; omega
      rw [foldUp_cons _ (by rw [pk_cons hd]; simp), fold_pk d _ hdl hdn, mroot_two (l := l) h2, hs]
def fD (P : List ByteArray) (q k : Nat) : D32 :=
  if h : (P.getD (q - 1 - k) ByteArray.empty).size = 32 then ⟨(q - 1 - k, P.getD (q - 1 - k) ByteArray.empty), h⟩ else ⟨(0, Dig.dig ⟨#[]⟩), Dig.dig_size _⟩
theorem fD_eq {P : List ByteArray} {q : Nat} (hq : P.length = q + 1) (hw : W32 P) (k : Nat) : (fD P q k).1 = (q - 1 - k, P.getD (q - 1 - k) ByteArray.empty) := by
  unfold fD
  rw [dif_pos (hw.getD (by omega))]
theorem fD_hands {P : List ByteArray} {q : Nat} (hq : P.length = q + 1) (hw : W32 P) : Hands encD (fD P q) (P.take q) := by
  intro k hk
  have e1 : (P.take q).length = q := by simp; omega
  rw [e1] at hk ⊢
  unfold encD
  rw [fD_eq hq hw]
  have e2 : (P.take q).getD (q - 1 - k) ByteArray.empty = P.getD (q - 1 - k) ByteArray.empty := by simp [List.getElem?_take, show q - 1 - k < q by omega]
  rw [e2]
theorem climb_fold {P : List ByteArray} {q : Nat} (hq : P.length = q + 1) (hw : W32 P) : ∀ j, j ≤ q → climbUp (upto (fD P q) j) (P.getD q ByteArray.empty) = some (foldUp (P.drop (q - j)))
  | 0, _ => by
    have e : P.drop q = [P.getD q ByteArray.empty] := by
      rw [List.drop_eq_getElem_cons (by omega), List.drop_eq_nil_of_le (by omega), List.getD_eq_getElem?_getD, List.getElem?_eq_getElem (by omega)]; rfl
    rw [Nat.sub_zero, e]
    rfl
  | j + 1, hj => by
    have hd : P.drop (q - j) ≠ [] := fun h => by have := congrArg List.length h; simp at this; omega
    have e : P.drop (q - (j + 1)) = P.getD (q - 1 - j) ByteArray.empty :: P.drop (q - j) := by
      rw [List.drop_eq_getElem_cons (by omega), List.getD_eq_getElem?_getD, List.getElem?_eq_getElem (by omega)]
      have e7 : q - (j + 1) = q - 1 - j := by omega
      have e8 : q - 1 - j + 1 = q - j := by omega
      simp only [e7, e8, Option.getD_some]
    rw [upto_succ, climbUp_snoc, climb_fold hq hw j (by omega), Option.bind_some, fD_eq hq hw, e, foldUp_cons _ hd]
    exact node_f _ _ (by rw [hw.getD (by omega)]; omega) (by rw [foldUp_size hd (hw.drop _)]; omega)
end Go.Proofs.Ytdcbacbilncnnaa.M
namespace Go.Proofs.Ytdcbacbilncnnaa.T
open Go.RowKit Go.Proofs.Ytdcbacbilncnnaa.M
/-- The tree's root is that of its leaves. -/
theorem root_tree (w : World) (base g : Nat) (vl vp : Value) (L : List ByteArray) (hA : At w base g vl vp L (pk L)) (hL : L ≠ []) (hw : W32 L) (hn : L.length < 1000000) :
    Calls Try.prog 48 #[.pointer (some ⟨g, 0, none⟩)] w fun e w' => e = .returned (.string (mroot L)) ∧ Below w.heap.size w w' := by
  have h0 : L.length ≠ 0 := fun h => hL (List.eq_nil_of_length_eq_zero h)
  obtain ⟨p1, p2⟩ := pk_w32 _ L (Nat.le_refl _) hw
  have hne : (pk L).length ≠ 0 := by rw [pk_cons h0]; simp
  obtain ⟨q, hq⟩ : ∃ q, (pk L).length = q + 1 := ⟨(pk L).length - 1, by omega⟩
  have hc := climb_fold hq p1 q (Nat.le_refl _)
  rw [Nat.sub_self, List.drop_zero, fold_pk _ L (Nat.le_refl _) hL] at hc
  exact root_raw w base g vl vp L (pk L) hA hL q hq (by omega) p1 (fD (pk L) q) (fD_hands hq p1) _ hc
end Go.Proofs.Ytdcbacbilncnnaa.T
end
section
/- The tree of digests: RootAt, Path, Grown, New. -/
set_option linter.unusedVariables false
set_option linter.unusedSimpArgs false
namespace Go.Proofs.Ytdcbacbilncnnaa.T
open Go.RowKit Go.Proofs.Ytdcbacbilncnnaa.PMk Go.Proofs.YtdcbacbilncnnaaW.PrintWords Go.Proofs.YtdcbacbilncnnaaW.PrintLast
/-- A slice of strings cut at n. -/
theorem cutn (A : Option Addr) (c : Nat) (L : List ByteArray) (n : Int) (h0 : 0 ≤ n) (h1 : n ≤ L.length) (hc : L.length ≤ c) :
    ∃ T t, L.take n.toNat = T ∧ T.length = t ∧ (∀ W : World, (Instr.slice 51 (.slice A L.length c) none (some (.int .i64 n)) none).run Try.prog W = .ok (.slice A t c) W) ∧ (∀ w : World, Kd.C Kd.string w A L.length L → Kd.C Kd.string w A t T) ∧ t ≤ c := by
  obtain ⟨i0, hi, _, hsz, _⟩ := info_parts info9
  obtain ⟨hcut, hA, hC⟩ := print_take_of (P := Try.prog) Value.string (⟨#[]⟩ : ByteArray) 51 9 .i64 Try.underlying51 hi hsz A c L n h0 h1 hc
  exact ⟨_, _, rfl, rfl, hcut, fun w h => Kd.C_of_reads (h1 := fun _ => rfl) (hA w (Kd.reads_of_C h)), hC⟩
theorem root_any (k : Nat) (A : Option Addr) (t c : Nat) (T : List ByteArray) (r : ByteArray) (w : World) (ht : T.length = t) (hC : Kd.C Kd.string w A t T) (hc : t ≤ c) (h : merkle_root.f k T = some r) :
    Calls Try.prog 74 #[.slice A t c] w fun e w' => e = .returned (.string r) ∧ Below w.heap.size w w' := by
  subst ht
  exact merkle_root.calls k A c T r w hC hc h
theorem path_any (k : Nat) (m : Int) (A : Option Addr) (t c : Nat) (T r : List ByteArray) (w : World) (ht : T.length = t) (hC : Kd.C Kd.string w A t T) (hc : t ≤ c) (h : merkle_path.f k m T = some r) :
    Calls Try.prog 87 #[.int .i64 m, .slice A t c] w fun e w' => ∃ v, e = .returned v ∧ Kd.R Kd.string 9 w' w.heap.size (fun _ => True) v r ∧ Below w.heap.size w w' := by
  subst ht
  exact merkle_path.calls k m A c T r w hC hc h
def rootAtF (k : Nat) (L : List ByteArray) (n : Int) : Option (ByteArray × Int) :=
  if n < 0 then some (⟨#[]⟩, 1) else if n > (L.length : Int) then some (⟨#[]⟩, 1) else (merkle_root.f k (L.take n.toNat)).bind fun r => some (r, 0)
set_option maxRecDepth 100000 in
theorem rootAt_raw (k : Nat) (w : World) (base g : Nat) (vl vp : Value) (L P : List ByteArray) (hA : At w base g vl vp L P) (n : Int) (r : ByteArray) (c : Int) (h : rootAtF k L n = some (r, c)) :
    Calls Try.prog 35 #[.pointer (some ⟨g, 0, none⟩), .int .i64 n] w fun e w' => e = .returned (.tuple #[.string r, .int .i64 c]) ∧ Below w.heap.size w w' := by
  obtain ⟨A, cl, rfl, hl, hC⟩ := hA.reads
  have HA := Lib.hid hA
  have c0 := hA.c0
  have HC := Lib.hid hC
  have HL := Lib.hid hl
  clear hA hC hl
  unfold rootAtF at h
  by_cases h0 : n < 0
  · rw [if_pos h0] at h
    simp only [Option.some.injEq, Prod.mk.injEq] at h
    obtain ⟨rfl, rfl⟩ := h
    go_enter Try.func35, Try.ntmps35
    go_wp2_with (go_at_call 57; refine (len_raw _ _ _ _ _ _ _ HA.out).mono ?_; rintro e w' ⟨rfl, hw'⟩; obtain rfl : w = w' := hw'.symm)
    go_ret2
    exact ⟨rfl, Below.refl _ _⟩
  · rw [if_neg h0] at h
    by_cases h1 : n > (L.length : Int)
    · rw [if_pos h1] at h
      simp only [Option.some.injEq, Prod.mk.injEq] at h
      obtain ⟨rfl, rfl⟩ := h
      have h2 : ¬ n ≤ (L.length : Int) := by omega
      go_enter Try.func35, Try.ntmps35
      go_wp2_with (go_at_call 57; refine (len_raw _ _ _ _ _ _ _ HA.out).mono ?_; rintro e w' ⟨rfl, hw'⟩; obtain rfl : w = w' := hw'.symm)
      go_ret2
      exact ⟨rfl, Below.refl _ _⟩
    · rw [if_neg h1] at h
      obtain ⟨r', hr, h⟩ := Option.bind_eq_some_iff.mp h
      simp only [Option.some.injEq, Prod.mk.injEq] at h
      obtain ⟨rfl, rfl⟩ := h
      have h2 : n ≤ (L.length : Int) := by omega
      have h3 : 0 ≤ n := by omega
      obtain ⟨T, t, hT, ht, hcut, hC2, hc2⟩ := cutn A cl L n h3 h2 HL.out
      rw [hT] at hr
      have HC2 := Lib.hid (hC2 w HC.out)
      have HR := Lib.hid hr
      have Hc2 := Lib.hid hc2
      have Ht := Lib.hid ht
      clear hC2 hc2 hr ht hT
      go_enter Try.func35, Try.ntmps35
      go_wp2_with (first | (go_at_call 57; refine (len_raw _ _ _ _ _ _ _ HA.out).mono ?_; rintro e w' ⟨rfl, hw'⟩; obtain rfl : w = w' := hw'.symm) | (go_at_call 74; refine (root_any k _ _ _ _ r' _ Ht.out HC2.out Hc2.out HR.out).mono ?_; rintro e w' ⟨rfl, hb⟩))
      go_ret2
      exact ⟨rfl, by assumption⟩
def pathAtF (k : Nat) (L : List ByteArray) (m n : Int) : Option (List ByteArray × Int) :=
  if n < 0 then some ([], 1) else if n > (L.length : Int) then some ([], 1) else if m < 0 then some ([], 1) else if m ≥ n then some ([], 1) else (merkle_path.f k m (L.take n.toNat)).bind fun r => some (r, 0)
set_option maxRecDepth 100000 in
theorem pathAt_raw (k : Nat) (w : World) (base g : Nat) (vl vp : Value) (L P : List ByteArray) (hA : At w base g vl vp L P) (m n : Int) (r : List ByteArray) (c : Int) (h : pathAtF k L m n = some (r, c)) :
    Calls Try.prog 58 #[.pointer (some ⟨g, 0, none⟩), .int .i64 m, .int .i64 n] w fun e w' => ∃ v, e = .returned (.tuple #[v, .int .i64 c]) ∧ Kd.R Kd.string 9 w' w.heap.size (fun _ => True) v r ∧ Below w.heap.size w w' := by
  obtain ⟨A, cl, rfl, hl, hC⟩ := hA.reads
  have HA := Lib.hid hA
  have c0 := hA.c0
  have HC := Lib.hid hC
  have HL := Lib.hid hl
  clear hA hC hl
  unfold pathAtF at h
  by_cases h0 : n < 0
  · rw [if_pos h0] at h
    simp only [Option.some.injEq, Prod.mk.injEq] at h
    obtain ⟨rfl, rfl⟩ := h
    go_enter Try.func58, Try.ntmps58
    go_wp2_with (go_at_call 57; refine (len_raw _ _ _ _ _ _ _ HA.out).mono ?_; rintro e w' ⟨rfl, hw'⟩; obtain rfl : w = w' := hw'.symm)
    all_goals (go_ret2; exact ⟨_, rfl, Kd.R_nil _ _ _ _ _, Below.refl _ _⟩)
  · rw [if_neg h0] at h
    by_cases h1 : n > (L.length : Int)
    · rw [if_pos h1] at h
      simp only [Option.some.injEq, Prod.mk.injEq] at h
      obtain ⟨rfl, rfl⟩ := h
      have h2 : ¬ n ≤ (L.length : Int) := by omega
      go_enter Try.func58, Try.ntmps58
      go_wp2_with (go_at_call 57; refine (len_raw _ _ _ _ _ _ _ HA.out).mono ?_; rintro e w' ⟨rfl, hw'⟩; obtain rfl : w = w' := hw'.symm)
      all_goals (go_ret2; exact ⟨_, rfl, Kd.R_nil _ _ _ _ _, Below.refl _ _⟩)
    · rw [if_neg h1] at h
      by_cases h5 : m < 0
      · rw [if_pos h5] at h
        simp only [Option.some.injEq, Prod.mk.injEq] at h
        obtain ⟨rfl, rfl⟩ := h
        go_enter Try.func58, Try.ntmps58
        go_wp2_with (go_at_call 57; refine (len_raw _ _ _ _ _ _ _ HA.out).mono ?_; rintro e w' ⟨rfl, hw'⟩; obtain rfl : w = w' := hw'.symm)
        all_goals (go_ret2; exact ⟨_, rfl, Kd.R_nil _ _ _ _ _, Below.refl _ _⟩)
      · rw [if_neg h5] at h
        by_cases h6 : m ≥ n
        · rw [if_pos h6] at h
          simp only [Option.some.injEq, Prod.mk.injEq] at h
          obtain ⟨rfl, rfl⟩ := h
          go_enter Try.func58, Try.ntmps58
          go_wp2_with (go_at_call 57; refine (len_raw _ _ _ _ _ _ _ HA.out).mono ?_; rintro e w' ⟨rfl, hw'⟩; obtain rfl : w = w' := hw'.symm)
          all_goals (go_ret2; exact ⟨_, rfl, Kd.R_nil _ _ _ _ _, Below.refl _ _⟩)
        · rw [if_neg h6] at h
          obtain ⟨r', hr, h⟩ := Option.bind_eq_some_iff.mp h
          simp only [Option.some.injEq, Prod.mk.injEq] at h
          obtain ⟨rfl, rfl⟩ := h
          have h2 : n ≤ (L.length : Int) := by omega
          have h3 : 0 ≤ n := by omega
          obtain ⟨T, t, hT, ht, hcut, hC2, hc2⟩ := cutn A cl L n h3 h2 HL.out
          rw [hT] at hr
          have HC2 := Lib.hid (hC2 w HC.out)
          have HR := Lib.hid hr
          have Hc2 := Lib.hid hc2
          have Ht := Lib.hid ht
          clear hC2 hc2 hr ht hT
          go_enter Try.func58, Try.ntmps58
          go_wp2_with (first | (go_at_call 57; refine (len_raw _ _ _ _ _ _ _ HA.out).mono ?_; rintro e w' ⟨rfl, hw'⟩; obtain rfl : w = w' := hw'.symm) | (go_at_call 87; refine (path_any k m _ _ _ _ r' _ Ht.out HC2.out Hc2.out HR.out).mono ?_; rintro e w' ⟨v, rfl, hv, hb⟩))
          go_ret2
          exact ⟨_, rfl, by assumption, by assumption⟩
theorem new_raw (w : World) : Calls Try.prog 55 #[] w fun e w' => ∃ g, e = .returned (.pointer (some ⟨g, 0, none⟩)) ∧ At w' w.heap.size g (.slice none 0 0) (.slice none 0 0) [] [] ∧ Below w.heap.size w w' := by
  have hu121 := Try.underlying121
  go_enter Try.func55, Try.ntmps55
  go_wp2_with (first | ((with_reducible refine gate_dst (N := 2) rfl ?_); refine box_event ?hg (N := 2) ?hd (cs := #[.slice none 0 0, .slice none 0 0]) (t := 121) ?hr ?_; (case hd => rfl); (case hg => rfl); (case hr => first | (go_simp; done) | (go_simp; rfl)); intro gb117 hg w1 hbox hb; have HX := Lib.hid hbox; have HB := Lib.hid hb; have HG := Lib.hid hg; clear hbox hb hg))
  go_ret
  exact ⟨_, rfl, ⟨HX.out, Nat.le_of_eq HG.out.symm, World.ownsRow_nil _ _ _ _, World.ownsRow_nil _ _ _ _, by intro k hk; simp [Value.ownBlock] at hk⟩, HB.out⟩
end Go.Proofs.Ytdcbacbilncnnaa.T
end
section
/- Leaves, and one more leaf behind a tree. -/
set_option linter.unusedVariables false
set_option linter.unusedSimpArgs false
namespace Go.Proofs.Ytdcbacbilncnnaa.T
open Go.RowKit Go.Proofs.Ytdcbacbilncnnaa.PMk Go.Proofs.Ytdcbacbilncnnaa.M Go.Proofs.Ytdcbacbilncnnaa.Bk Go.Proofs.YtdcbacbilncnnaaW.PrintWords Go.Proofs.YtdcbacbilncnnaaW.PrintLast
theorem Step.to_below {w w1 : World} {base g : Nat} {vl vp vl' vp' : Value} {L P : List ByteArray} (h : Step w w1 g vl vp vl' vp') (hA : At w base g vl vp L P) : Below base w w1 :=
  ⟨h.os, h.tape, h.output, h.size, fun k hk => h.block k (Nat.lt_of_lt_of_le hk hA.base) (by have := hA.lo; omega)
    (fun e => by have := own_base hA.rl k e; omega) (fun e => by have := own_base hA.rp k e; omega)⟩
theorem add_any (s h : ByteArray) (hleaf : hash_Leaf.f s = some h) (w : World) (base g : Nat) (vl vp : Value) (L P Q : List ByteArray) (hA : At w base g vl vp L P) (hn : L.length + 1 < 1000000) (hp : P.length < 1000000)
    (kc : Nat) (hc : car kc (P ++ [h]) (L.length + 1) = some Q) :
    Calls Try.prog 56 #[.pointer (some ⟨g, 0, none⟩), .string s] w fun e w' => e = .returned (.string h) ∧ ∃ vl' vp', At w' base g vl' vp' (L ++ [h]) Q ∧ Step w w' g vl vp vl' vp' ∧ Below base w w' := by
  refine (add_raw s h hleaf w base g vl vp L P Q hA hn hp kc hc).mono ?_
  rintro e w' ⟨rfl, vl', vp', h1, h2⟩
  exact ⟨rfl, vl', vp', h1, h2, h2.to_below hA⟩
def leaf (s : ByteArray) : ByteArray := Dig.dig ((⟨#[0]⟩ : ByteArray) ++ s)
theorem leaf_size (s : ByteArray) : (leaf s).size = 32 := Dig.dig_size _
theorem leaf_f (s : ByteArray) (h : s.size < 1152921504606846000) : hash_Leaf.f s = some (leaf s) := by
  have s1 : ((⟨#[0]⟩ : ByteArray) ++ s).size = 1 + s.size := by rw [ByteArray.size_append]; rfl
  unfold hash_Leaf.f Dig.hash_Sum.f
  rw [if_pos (by omega), if_pos (by omega)]
  rfl
theorem rleaf_f (s : ByteArray) (h : s.size < 1152921504606846000) : parchmentref01_Leaf.f s = some (leaf s) := by
  have s1 : ((⟨#[0]⟩ : ByteArray) ++ s).size = 1 + s.size := by rw [ByteArray.size_append]; rfl
  unfold parchmentref01_Leaf.f Dig.parchmentref01_Sum.f
  rw [if_pos (by omega), if_pos (by omega)]
  rfl
theorem add_tree (s : ByteArray) (w : World) (base g : Nat) (vl vp : Value) (L : List ByteArray) (hA : At w base g vl vp L (pk L)) (hw : W32 L) (hs : s.size < 1152921504606846000) (hn : L.length < 1000) :
    Calls Try.prog 56 #[.pointer (some ⟨g, 0, none⟩), .string s] w fun e w' => e = .returned (.string (leaf s)) ∧ ∃ vl' vp', At w' base g vl' vp' (L ++ [leaf s]) (pk (L ++ [leaf s])) ∧ Step w w' g vl vp vl' vp' ∧ Below base w w' := by
  have hl : W32 [leaf s] := W32.one.2 (leaf_size s)
  obtain ⟨k, hk⟩ := car_pk (L.length + 1) 0 L [leaf s] (by omega) hw hl (by simp) rfl
  rw [mroot_one (by rfl)] at hk
  obtain ⟨p1, p2⟩ := pk_w32 _ L (Nat.le_refl _) hw
  exact add_any s (leaf s) (leaf_f s hs) w base g vl vp L (pk L) _ hA (by omega) (by omega) k hk
end Go.Proofs.Ytdcbacbilncnnaa.T
end
section
namespace Go.Proofs.Ytdcbacbilncnnaa.PMk
open Go.RowKit Go.Proofs.YtdcbacbilncnnaaW.PrintWords Go.Proofs.YtdcbacbilncnnaaW.PrintLast Go.Proofs.YtdcbacbilncnnaaW.PrintMore
attribute [local go_sem] max2_int min2_int max_two min_two max_three min_three max_four min_four   -- for this text's walks alone
set_option linter.unusedVariables false
set_option linter.unusedSimpArgs false
/-! ### block_meta: function 73 -/
def block_meta.f (k : Nat) (a0_0 : Int) (a0_1 : ByteArray) (a0_2 : ByteArray) (a0_3 : Int) (a0_4 : Int) (a0_5 : ByteArray) (a0_6 : ByteArray) (a0_7 : Bool) : Option (ByteArray) := (some (([(a0_0) % 256] : List Int) : List Int)).bind fun y131 => ((enc_Text.f k a0_1).bind fun t134 => (if (strOfNums y131).size + t134.size ≤ 9223372036854775807 then ((enc_Text.f k a0_2).bind fun t135 => (if ((strOfNums y131) ++ t134).size + t135.size ≤ 9223372036854775807 then ((enc_Uint.f k a0_3).bind fun t136 => (if (((strOfNums y131) ++ t134) ++ t135).size + t136.size ≤ 9223372036854775807 then ((enc_Uint.f k a0_4).bind fun t137 => (if ((((strOfNums y131) ++ t134) ++ t135) ++ t136).size + t137.size ≤ 9223372036854775807 then ((enc_Text.f k a0_5).bind fun t138 => (if (((((strOfNums y131) ++ t134) ++ t135) ++ t136) ++ t137).size + t138.size ≤ 9223372036854775807 then (some ((((((strOfNums y131) ++ t134) ++ t135) ++ t136) ++ t137) ++ t138)) else (none))) else (none))) else (none))) else (none))) else (none)))
theorem block_meta.calls (k : Nat) (a0_0 : Int) (a0_1 : ByteArray) (a0_2 : ByteArray) (a0_3 : Int) (a0_4 : Int) (a0_5 : ByteArray) (a0_6 : ByteArray) (a0_7 : Bool) (r : ByteArray) (w : World) (h : block_meta.f k a0_0 a0_1 a0_2 a0_3 a0_4 a0_5 a0_6 a0_7 = some r) :
  Calls Try.prog 73 #[.agg #[.int .i64 a0_0, .string a0_1, .string a0_2, .int .u64 a0_3, .int .u64 a0_4, .string a0_5, .string a0_6, .bool a0_7]] w fun e w' => e = .returned (.string r) ∧ Below w.heap.size w w' := by
 simp only [block_meta.f, Option.bind_some] at h
 obtain ⟨t1, e1, h⟩ := Option.bind_eq_some_iff.mp h
 have c1 : ¬ ¬ _ := fun c => by rw [if_neg c] at h; cases h
 rw [if_pos (Classical.not_not.1 c1)] at h
 obtain ⟨t2, e2, h⟩ := Option.bind_eq_some_iff.mp h
 have c2 : ¬ ¬ _ := fun c => by rw [if_neg c] at h; cases h
 rw [if_pos (Classical.not_not.1 c2)] at h
 obtain ⟨t3, e3, h⟩ := Option.bind_eq_some_iff.mp h
 have c3 : ¬ ¬ _ := fun c => by rw [if_neg c] at h; cases h
 rw [if_pos (Classical.not_not.1 c3)] at h
 obtain ⟨t4, e4, h⟩ := Option.bind_eq_some_iff.mp h
 have c4 : ¬ ¬ _ := fun c => by rw [if_neg c] at h; cases h
 rw [if_pos (Classical.not_not.1 c4)] at h
 obtain ⟨t5, e5, h⟩ := Option.bind_eq_some_iff.mp h
 have c5 : ¬ ¬ _ := fun c => by rw [if_neg c] at h; cases h
 rw [if_pos (Classical.not_not.1 c5)] at h
 obtain rfl := Option.some.inj h
 have c := Classical.not_not.1 c5
 simp only [ByteArray.size_append] at c
 exact Mw.meta73 a0_0 a0_1 a0_2 a0_3 a0_4 a0_5 a0_6 a0_7 t1 t2 t3 t4 t5 w (Lib.hid fun w => enc_Text.calls k a0_1 _ w e1) (Lib.hid fun w => enc_Text.calls k a0_2 _ w e2) (Lib.hid fun w => enc_Uint.calls k a0_3 _ w e3) (Lib.hid fun w => enc_Uint.calls k a0_4 _ w e4) (Lib.hid fun w => enc_Text.calls k a0_5 _ w e5) c
end Go.Proofs.Ytdcbacbilncnnaa.PMk
end
section
/- A block's tree: its revisions' metas' digests. -/
set_option linter.unusedVariables false
set_option linter.unusedSimpArgs false
namespace Go.Proofs.Ytdcbacbilncnnaa.T
open Go.RowKit Go.Proofs.Ytdcbacbilncnnaa.PMk Go.Proofs.Ytdcbacbilncnnaa.M Go.Proofs.YtdcbacbilncnnaaW.PrintWords Go.Proofs.YtdcbacbilncnnaaW.PrintLast
theorem At.less {w : World} {base b g : Nat} {vl vp : Value} {L P : List ByteArray} (h : At w base g vl vp L P) (hb : b ≤ base) : At w b g vl vp L P :=
  ⟨h.blk, Nat.le_trans hb h.lo, own_less h.rl hb, own_less h.rp hb, h.ap⟩
def metaOf (k : Nat) (x : S47) : Option ByteArray := block_meta.f k x.f0 x.f1 x.f2 x.f3 x.f4 x.f5 x.f6 x.f7
def metas (k : Nat) : List S47 → Option (List ByteArray)
  | [] => some []
  | x :: l => (metaOf k x).bind fun m => if m.size < 1152921504606846000 then (metas k l).bind fun M => some (m :: M) else none
theorem metas_len {k : Nat} : ∀ {l : List S47} {M : List ByteArray}, metas k l = some M → M.length = l.length
  | [], M, h => by simp [metas] at h; subst h; rfl
  | x :: l, M, h => by
    rw [metas] at h
    obtain ⟨m, _, h⟩ := Option.bind_eq_some_iff.mp h
    split at h
    · obtain ⟨M', h1, h2⟩ := Option.bind_eq_some_iff.mp h
      obtain rfl := Option.some.inj h2
      simp [metas_len h1]
    · cases h
theorem metas_at {k : Nat} : ∀ {l : List S47} {M : List ByteArray}, metas k l = some M → ∀ i, i < l.length → metaOf k (l.getD i z47) = some (M.getD i ByteArray.empty) ∧ (M.getD i ByteArray.empty).size < 1152921504606846000
  | [], M, h, i, hi => absurd hi (by simp)
  | x :: l, M, h, i, hi => by
    rw [metas] at h
    obtain ⟨m, hm, h⟩ := Option.bind_eq_some_iff.mp h
    split at h
    · next hs =>
      obtain ⟨M', h1, h2⟩ := Option.bind_eq_some_iff.mp h
      obtain rfl := Option.some.inj h2
      cases i with
      | zero => exact ⟨by simpa using hm, by simpa using hs⟩
      | succ i => simpa using metas_at h1 i (by simpa using hi)
    · cases h
def lv (M : List ByteArray) (i : Nat) : List ByteArray := (M.take i).map leaf
theorem lv_len {M : List ByteArray} {i : Nat} (h : i ≤ M.length) : (lv M i).length = i := by unfold lv; simp; omega
theorem lv_w32 (M : List ByteArray) (i : Nat) : W32 (lv M i) := by
  intro x hx
  obtain ⟨y, _, rfl⟩ := List.mem_map.1 hx
  exact leaf_size _
theorem lv_succ {M : List ByteArray} {i : Nat} (h : i < M.length) : lv M i ++ [leaf (M.getD i ByteArray.empty)] = lv M (i + 1) := by
  unfold lv
  rw [List.take_succ_eq_append_getElem h, List.map_append, List.getD_eq_getElem?_getD, List.getElem?_eq_getElem h]
  rfl
theorem meta_any (k : Nat) (x : S47) (m : ByteArray) (h : metaOf k x = some m) (w : World) :
    Calls Try.prog 73 #[.agg #[.int .i64 x.f0, .string x.f1, .string x.f2, .int .u64 x.f3, .int .u64 x.f4, .string x.f5, .string x.f6, .bool x.f7]] w fun e w' => e = .returned (.string m) ∧ Below w.heap.size w w' :=
  block_meta.calls k x.f0 x.f1 x.f2 x.f3 x.f4 x.f5 x.f6 x.f7 m w h
set_option maxRecDepth 100000 in
set_option maxHeartbeats 2000000 in
theorem tree_raw (k : Nat) (a0 : Int) (a1 : ByteArray) (a2 : Int) (A : Option Addr) (c : Nat) (l : List S47) (M : List ByteArray) (w : World) (hC : Kd.C k47 w A l.length l) (hM : metas k l = some M) (hn : l.length < 1000) :
    Calls Try.prog 47 #[.agg #[.int .u64 a0, .string a1, .int .u64 a2, .slice A l.length c]] w fun e w' => ∃ g vl vp, e = .returned (.pointer (some ⟨g, 0, none⟩)) ∧ At w' w.heap.size g vl vp (lv M M.length) (pk (lv M M.length)) ∧ Below w.heap.size w w' := by
  have hml := metas_len hM
  obtain ⟨len, hlen⟩ : ∃ n, l.length = n := ⟨_, rfl⟩
  have hma := metas_at hM
  rw [hlen] at hC hn hml hma ⊢
  have HC := Lib.hid hC
  have HL := Lib.hid hlen
  have HM := Lib.hid hma
  clear hC hlen hma hM
  go_enter Try.func47, Try.ntmps47
  go_wp2_with (go_at_call 55; refine (new_raw _).mono ?_; rintro e w1 ⟨g, rfl, hA, hb1⟩; have hb0 := (((Below.refl w.heap.size w).alloc (Nat.le_refl _) (.cells #[.int .u64 a0, .string a1, .int .u64 a2, .slice A len c] 25)).trans (hb1.mono (by simp))); have hcell : w1.cell? ⟨w.heap.size, 3, none⟩ = some (.slice A len c) := (blk_cell ((hb1.block w.heap.size (by simp)).trans (heap_alloc_new w _)) 3).trans rfl; have HA1 := Lib.hid hA; have HB1 := Lib.hid hb0; clear hA hb1 hb0)
  have HP0 : Hid (At w1 w.heap.size g (.slice none 0 0) (.slice none 0 0) (lv M 0) (pk (lv M 0))) := Lib.hid (by
    have h := HA1.out.less (b := w.heap.size) (by simp)
    simpa [lv, pk_nil] using h)
  clear HA1 hcell
  go_loopw [10] (fun vi wr => ∃ (i : Nat) (vl vp : Value), i ≤ len ∧ vi = .int .i64 i ∧ Hid (At wr w.heap.size g vl vp (lv M i) (pk (lv M i))) ∧ Hid (Below w.heap.size w wr)) (fun vi _ => (len - intOf vi).toNat)
  case atStart => exact ⟨0, _, _, Nat.zero_le _, rfl, HP0, HB1⟩
  case round =>
    obtain ⟨i, vl, vp, hi1, rfl, HP, HB⟩ := hrel
    clear HP0 HB1
    by_cases h1 : i < len
    · obtain ⟨ad, hA, hx0, hx1, hx2, hx3, hx4, hx5, hx6, hx7⟩ := at_T47 HC.out (i : Int) (by omega) (by omega)
      subst hA
      replace hx0 := (HB.out.cell (World.block_lt_of_cell? w _ hx0)).trans hx0
      replace hx1 := (HB.out.cell (World.block_lt_of_cell? w _ hx1)).trans hx1
      replace hx2 := (HB.out.cell (World.block_lt_of_cell? w _ hx2)).trans hx2
      replace hx3 := (HB.out.cell (World.block_lt_of_cell? w _ hx3)).trans hx3
      replace hx4 := (HB.out.cell (World.block_lt_of_cell? w _ hx4)).trans hx4
      replace hx5 := (HB.out.cell (World.block_lt_of_cell? w _ hx5)).trans hx5
      replace hx6 := (HB.out.cell (World.block_lt_of_cell? w _ hx6)).trans hx6
      replace hx7 := (HB.out.cell (World.block_lt_of_cell? w _ hx7)).trans hx7
      have hm := HM.out i h1
      rw [show l.getD i z47 = rd_T47 l (i : Int) from by simp [rd_T47]] at hm
      obtain ⟨m, hmm⟩ : ∃ m, M.getD i ByteArray.empty = m := ⟨_, rfl⟩
      rw [hmm] at hm
      have HSU : Hid (lv M i ++ [leaf m] = lv M (i + 1)) := Lib.hid (hmm ▸ lv_succ (by omega))
      have HMA := Lib.hid (fun w' => meta_any k _ m hm.1 w')
      have HAD := Lib.hid (fun w' hA => add_tree m w' w.heap.size g vl vp (lv M i) hA (lv_w32 _ _) hm.2 (by rw [lv_len (by omega)]; omega))
      clear hm hmm
      simp only [Int.toNat_natCast] at hx0 hx1 hx2 hx3 hx4 hx5 hx6 hx7
      generalize rd_T47 l (i : Int) = x at hx0 hx1 hx2 hx3 hx4 hx5 hx6 hx7 HMA
      go_wp2_with (first
        | (go_at_call 73; refine (HMA.out _).mono ?_; rintro e w2 ⟨rfl, hb1⟩; have HB2 := Lib.hid ((HB.out.alloc HB.out.size _).trans (hb1.mono (by have := HB.out.size; simp; omega))); have HP2 := Lib.hid (HP.out.below (((Below.refl _ wr).alloc (Nat.le_refl _) _).trans (hb1.mono (by simp)))); clear hb1)
        | (go_at_call 56; refine (HAD.out _ HP2.out).mono ?_; rintro e w3 ⟨rfl, vl3, vp3, hA, _, hb1⟩; have HB3 := Lib.hid (HB2.out.trans hb1); have HP3 := Lib.hid hA; clear hA hb1))
      rw [HSU.out] at HP3
      go_roundw
      case rel => exact ⟨i + 1, vl3, vp3, by omega, by go_num, HP3, HB3⟩
      case measure => simp [intOf]; omega
    · obtain rfl : i = len := by omega
      go_wp2_with fail
      go_ret
      exact ⟨g, vl, vp, rfl, hml ▸ HP.out, HB.out⟩
end Go.Proofs.Ytdcbacbilncnnaa.T
end
section
/- A revision's bytes, joined: by what holds behind any of the operations. Written by wip/genmeta.py. -/
set_option linter.unusedVariables false
set_option linter.unusedSimpArgs false
namespace Go.Proofs.Ytdcbacbilncnnaa.Mv
open Go.RowKit Go.Proofs.Ytdcbacbilncnnaa Go.Proofs.Ytdcbacbilncnnaa.PMk Go.Proofs.YtdcbacbilncnnaaW.PrintWords Go.Proofs.YtdcbacbilncnnaaW.PrintLast
theorem cases26 {ops : Array Oper} {i : Nat} {o : Oper} (hs : ops.size = 26) (h : ops[i]? = some o) : i = 0 ∨ i = 1 ∨ i = 2 ∨ i = 3 ∨ i = 4 ∨ i = 5 ∨ i = 6 ∨ i = 7 ∨ i = 8 ∨ i = 9 ∨ i = 10 ∨ i = 11 ∨ i = 12 ∨ i = 13 ∨ i = 14 ∨ i = 15 ∨ i = 16 ∨ i = 17 ∨ i = 18 ∨ i = 19 ∨ i = 20 ∨ i = 21 ∨ i = 22 ∨ i = 23 ∨ i = 24 ∨ i = 25 := by
  have hi : i < ops.size := (Array.getElem?_eq_some_iff.1 h).1
  omega
def fr37 (a0 : Int) (a1 a2 : ByteArray) (a3 a4 : Int) (a5 a6 : ByteArray) (a7 : Bool) (g : Nat) (r v3 v4 v5 v6 v7 v8 v9 v10 v11 v12 v13 v14 v15 v16 v17 v18 v19 v20 v21 v22 v23 v24 v25 v26 v27 : Value) : Act := ⟨#[.agg #[.int .i64 a0, .string a1, .string a2, .int .u64 a3, .int .u64 a4, .string a5, .string a6, .bool a7], .pointer (some ⟨g, 0, none⟩), r, v3, v4, v5, v6, v7, v8, v9, v10, v11, v12, v13, v14, v15, v16, v17, v18, v19, v20, v21, v22, v23, v24, v25, v26, v27], []⟩
structure J37 (a0 : Int) (a1 a2 : ByteArray) (a3 a4 : Int) (a5 a6 : ByteArray) (a7 : Bool) (t1 t2 t3 t4 t5 : ByteArray) (g : Nat) (W : World) (b0 b1 b2 b3 b4 b5 b6 b7 b8 b9 b10 b11 b12 b13 b14 b15 b16 b17 b18 b19 b20 b21 b22 b23 b24 b25 : Bool) (r v3 v4 v5 v6 v7 v8 v9 v10 v11 v12 v13 v14 v15 v16 v17 v18 v19 v20 v21 v22 v23 v24 v25 v26 v27 : Value) (W' : World) : Prop where
  hb : Below (g + 1) W W'
  f0 : b0 = true → v3 = .pointer (some ⟨g, 0, none⟩)
  f1 : b1 = true → v4 = .int .i64 a0
  f2 : b2 = true → v5 = .int .u8 (a0 % 256)
  f3 : b3 = true → W'.ownsRow (g + 1) 5 1 v6 1 (nums .u8 [a0 % 256])
  f4 : b4 = true → v7 = .string (strOfNums [a0 % 256])
  f5 : b5 = true → v8 = .pointer (some ⟨g, 1, none⟩)
  f6 : b6 = true → v9 = .string a1
  f7 : b7 = true → v10 = .string t1
  f8 : b8 = true → v11 = .string ((strOfNums [a0 % 256]) ++ t1)
  f9 : b9 = true → v12 = .pointer (some ⟨g, 2, none⟩)
  f10 : b10 = true → v13 = .string a2
  f11 : b11 = true → v14 = .string t2
  f12 : b12 = true → v15 = .string (((strOfNums [a0 % 256]) ++ t1) ++ t2)
  f13 : b13 = true → v16 = .pointer (some ⟨g, 3, none⟩)
  f14 : b14 = true → v17 = .int .u64 a3
  f15 : b15 = true → v18 = .string t3
  f16 : b16 = true → v19 = .string ((((strOfNums [a0 % 256]) ++ t1) ++ t2) ++ t3)
  f17 : b17 = true → v20 = .pointer (some ⟨g, 4, none⟩)
  f18 : b18 = true → v21 = .int .u64 a4
  f19 : b19 = true → v22 = .string t4
  f20 : b20 = true → v23 = .string (((((strOfNums [a0 % 256]) ++ t1) ++ t2) ++ t3) ++ t4)
  f21 : b21 = true → v24 = .pointer (some ⟨g, 5, none⟩)
  f22 : b22 = true → v25 = .string a5
  f23 : b23 = true → v26 = .string t5
  f24 : b24 = true → v27 = .string ((((((strOfNums [a0 % 256]) ++ t1) ++ t2) ++ t3) ++ t4) ++ t5)
  f25 : b25 = true → r = .string ((((((strOfNums [a0 % 256]) ++ t1) ++ t2) ++ t3) ++ t4) ++ t5)
theorem J37.later {a0 : Int} {a1 a2 : ByteArray} {a3 a4 : Int} {a5 a6 : ByteArray} {a7 : Bool} {t1 t2 t3 t4 t5 : ByteArray} {g : Nat} {W W' W'' : World} {b0 b1 b2 b3 b4 b5 b6 b7 b8 b9 b10 b11 b12 b13 b14 b15 b16 b17 b18 b19 b20 b21 b22 b23 b24 b25 : Bool} {r v3 v4 v5 v6 v7 v8 v9 v10 v11 v12 v13 v14 v15 v16 v17 v18 v19 v20 v21 v22 v23 v24 v25 v26 v27 : Value} (j : J37 a0 a1 a2 a3 a4 a5 a6 a7 t1 t2 t3 t4 t5 g W b0 b1 b2 b3 b4 b5 b6 b7 b8 b9 b10 b11 b12 b13 b14 b15 b16 b17 b18 b19 b20 b21 b22 b23 b24 b25 r v3 v4 v5 v6 v7 v8 v9 v10 v11 v12 v13 v14 v15 v16 v17 v18 v19 v20 v21 v22 v23 v24 v25 v26 v27 W') (hz : g + 1 ≤ W.heap.size) (hb : Below W'.heap.size W' W'') : J37 a0 a1 a2 a3 a4 a5 a6 a7 t1 t2 t3 t4 t5 g W b0 b1 b2 b3 b4 b5 b6 b7 b8 b9 b10 b11 b12 b13 b14 b15 b16 b17 b18 b19 b20 b21 b22 b23 b24 b25 r v3 v4 v5 v6 v7 v8 v9 v10 v11 v12 v13 v14 v15 v16 v17 v18 v19 v20 v21 v22 v23 v24 v25 v26 v27 W'' :=
  { j with hb := below_then j.hb (Nat.le_trans hz j.hb.size) hb, f3 := fun k => pw_own_below (j.f3 k) hb }
set_option maxRecDepth 100000 in
set_option maxHeartbeats 8000000 in
theorem meta37 (a0 : Int) (a1 a2 : ByteArray) (a3 a4 : Int) (a5 a6 : ByteArray) (a7 : Bool) (t1 t2 t3 t4 t5 : ByteArray) (w : World)
    (H1 : Hid (∀ w, Calls Try.prog 42 #[.string a1] w fun e w' => e = .returned (.string t1) ∧ Below w.heap.size w w'))
    (H2 : Hid (∀ w, Calls Try.prog 42 #[.string a2] w fun e w' => e = .returned (.string t2) ∧ Below w.heap.size w w'))
    (H3 : Hid (∀ w, Calls Try.prog 41 #[.int .u64 a3] w fun e w' => e = .returned (.string t3) ∧ Below w.heap.size w w'))
    (H4 : Hid (∀ w, Calls Try.prog 41 #[.int .u64 a4] w fun e w' => e = .returned (.string t4) ∧ Below w.heap.size w w'))
    (H5 : Hid (∀ w, Calls Try.prog 42 #[.string a5] w fun e w' => e = .returned (.string t5) ∧ Below w.heap.size w w'))
    (hs : 1 + t1.size + t2.size + t3.size + t4.size + t5.size ≤ 9223372036854775807) :
    Calls Try.prog 37 #[.agg #[.int .i64 a0, .string a1, .string a2, .int .u64 a3, .int .u64 a4, .string a5, .string a6, .bool a7]] w fun e w' => e = .returned (.string ((((((strOfNums [a0 % 256]) ++ t1) ++ t2) ++ t3) ++ t4) ++ t5)) ∧ Below w.heap.size w w' := by
  have s0 : (strOfNums [a0 % 256]).size = 1 := rfl
  have q1 : (9223372036854775807 < (strOfNums [a0 % 256]).size + t1.size) = False := eq_false (by rw [s0]; omega)
  have q2 : (9223372036854775807 < (strOfNums [a0 % 256]).size + t1.size + t2.size) = False := eq_false (by rw [s0]; omega)
  have q3 : (9223372036854775807 < (strOfNums [a0 % 256]).size + t1.size + t2.size + t3.size) = False := eq_false (by rw [s0]; omega)
  have q4 : (9223372036854775807 < (strOfNums [a0 % 256]).size + t1.size + t2.size + t3.size + t4.size) = False := eq_false (by rw [s0]; omega)
  have q5 : (9223372036854775807 < (strOfNums [a0 % 256]).size + t1.size + t2.size + t3.size + t4.size + t5.size) = False := eq_false (by rw [s0]; omega)
  clear hs s0
  go_enter Try.func37, Try.ntmps37
  go_wp2_with fail
  have BK : Hid ((w.alloc (.cells #[.int .i64 a0, .string a1, .string a2, .int .u64 a3, .int .u64 a4, .string a5, .string a6, .bool a7] 44)).heap[w.heap.size]? = some (.cells #[.int .i64 a0, .string a1, .string a2, .int .u64 a3, .int .u64 a4, .string a5, .string a6, .bool a7] 44 (0, 0))) := Lib.hid (heap_alloc_new w _)
  have HB : Hid (Below w.heap.size w (w.alloc (.cells #[.int .i64 a0, .string a1, .string a2, .int .u64 a3, .int .u64 a4, .string a5, .string a6, .bool a7] 44))) := Lib.hid ((Below.refl _ _).alloc (Nat.le_refl _) _)
  have hz : w.heap.size + 1 ≤ (w.alloc (.cells #[.int .i64 a0, .string a1, .string a2, .int .u64 a3, .int .u64 a4, .string a5, .string a6, .bool a7] 44)).heap.size := by simp
  generalize w.alloc (.cells #[.int .i64 a0, .string a1, .string a2, .int .u64 a3, .int .u64 a4, .string a5, .string a6, .bool a7] 44) = W at BK HB hz ⊢
  generalize hg : w.heap.size = g at BK HB hz ⊢
  refine H.wp_region_inv (fun l a W' => ∃ b0 b1 b2 b3 b4 b5 b6 b7 b8 b9 b10 b11 b12 b13 b14 b15 b16 b17 b18 b19 b20 b21 b22 b23 b24 b25 r v3 v4 v5 v6 v7 v8 v9 v10 v11 v12 v13 v14 v15 v16 v17 v18 v19 v20 v21 v22 v23 v24 v25 v26 v27, l = #[b0, b1, b2, b3, b4, b5, b6, b7, b8, b9, b10, b11, b12, b13, b14, b15, b16, b17, b18, b19, b20, b21, b22, b23, b24, b25] ∧ a = fr37 a0 a1 a2 a3 a4 a5 a6 a7 g r v3 v4 v5 v6 v7 v8 v9 v10 v11 v12 v13 v14 v15 v16 v17 v18 v19 v20 v21 v22 v23 v24 v25 v26 v27 ∧ J37 a0 a1 a2 a3 a4 a5 a6 a7 t1 t2 t3 t4 t5 g W b0 b1 b2 b3 b4 b5 b6 b7 b8 b9 b10 b11 b12 b13 b14 b15 b16 b17 b18 b19 b20 b21 b22 b23 b24 b25 r v3 v4 v5 v6 v7 v8 v9 v10 v11 v12 v13 v14 v15 v16 v17 v18 v19 v20 v21 v22 v23 v24 v25 v26 v27 W') (by kernel_rfl) ?_ (H.back_of (by kernel_rfl)) ?_ ?_ ?_
  · rintro l a W' ⟨b0, b1, b2, b3, b4, b5, b6, b7, b8, b9, b10, b11, b12, b13, b14, b15, b16, b17, b18, b19, b20, b21, b22, b23, b24, b25, _, _, _, _, _, _, _, _, _, _, _, _, _, _, _, _, _, _, _, _, _, _, _, _, _, _, rfl, _, _⟩
    rfl
  · rintro l a W' i o ⟨b0, b1, b2, b3, b4, b5, b6, b7, b8, b9, b10, b11, b12, b13, b14, b15, b16, b17, b18, b19, b20, b21, b22, b23, b24, b25, r, v3, v4, v5, v6, v7, v8, v9, v10, v11, v12, v13, v14, v15, v16, v17, v18, v19, v20, v21, v22, v23, v24, v25, v26, v27, rfl, rfl, j⟩ hl ho haf
    have gc : ∀ k v, W.cell? ⟨g, k, none⟩ = some v → W'.cell? ⟨g, k, none⟩ = some v := fun k v h => (World.cell?_of_block (j.hb.block g (Nat.lt_succ_self g))).trans h
    rcases cases26 (by rfl) ho with rfl | rfl | rfl | rfl | rfl | rfl | rfl | rfl | rfl | rfl | rfl | rfl | rfl | rfl | rfl | rfl | rfl | rfl | rfl | rfl | rfl | rfl | rfl | rfl | rfl | rfl
    · refine wpOp_step ho (fun K hK => ?_)
      obtain rfl := Option.some.inj ho
      refine value_ (v := .pointer (some ⟨g, 0, none⟩)) (by rfl) rfl (by unfold fr37; first | (go_simp; done) | (go_simp; rfl)) (hK _ _ ⟨true, b1, b2, b3, b4, b5, b6, b7, b8, b9, b10, b11, b12, b13, b14, b15, b16, b17, b18, b19, b20, b21, b22, b23, b24, b25, r, .pointer (some ⟨g, 0, none⟩), v4, v5, v6, v7, v8, v9, v10, v11, v12, v13, v14, v15, v16, v17, v18, v19, v20, v21, v22, v23, v24, v25, v26, v27, rfl, rfl, { j with f0 := fun _ => rfl }⟩)
    · refine wpOp_step ho (fun K hK => ?_)
      obtain rfl := Option.some.inj ho
      have d0 := j.f0 (haf ⟨0, .data⟩ (by simp) rfl)
      subst d0
      have c := gc 0 _ ((blk_cell BK.out 0).trans rfl)
      refine value_ (v := .int .i64 a0) (by rfl) rfl (by unfold fr37; first | (go_simp; done) | (go_simp; rfl)) (hK _ _ ⟨b0, true, b2, b3, b4, b5, b6, b7, b8, b9, b10, b11, b12, b13, b14, b15, b16, b17, b18, b19, b20, b21, b22, b23, b24, b25, r, .pointer (some ⟨g, 0, none⟩), .int .i64 a0, v5, v6, v7, v8, v9, v10, v11, v12, v13, v14, v15, v16, v17, v18, v19, v20, v21, v22, v23, v24, v25, v26, v27, rfl, rfl, { j with f1 := fun _ => rfl }⟩)
    · refine wpOp_step ho (fun K hK => ?_)
      obtain rfl := Option.some.inj ho
      have d1 := j.f1 (haf ⟨1, .data⟩ (by simp) rfl)
      subst d1
      refine value_ (v := .int .u8 (a0 % 256)) (by rfl) rfl (by unfold fr37; first | (go_simp; done) | (go_simp; rfl)) (hK _ _ ⟨b0, b1, true, b3, b4, b5, b6, b7, b8, b9, b10, b11, b12, b13, b14, b15, b16, b17, b18, b19, b20, b21, b22, b23, b24, b25, r, v3, .int .i64 a0, .int .u8 (a0 % 256), v6, v7, v8, v9, v10, v11, v12, v13, v14, v15, v16, v17, v18, v19, v20, v21, v22, v23, v24, v25, v26, v27, rfl, rfl, { j with f2 := fun _ => rfl }⟩)
    · refine wpOp_step ho (fun K hK => ?_)
      obtain rfl := Option.some.inj ho
      have d2 := j.f2 (haf ⟨2, .data⟩ (by simp) rfl)
      subst d2
      refine value_ (v := .slice (some ⟨W'.heap.size, 0, none⟩) 1 1) (w1 := W'.alloc (.cells #[.int .u8 (a0 % 256)] 5)) (by rfl) rfl (by unfold fr37; first | (go_simp; done) | (go_simp; rfl)) (hK _ _ ⟨b0, b1, b2, true, b4, b5, b6, b7, b8, b9, b10, b11, b12, b13, b14, b15, b16, b17, b18, b19, b20, b21, b22, b23, b24, b25, r, v3, v4, .int .u8 (a0 % 256), .slice (some ⟨W'.heap.size, 0, none⟩) 1 1, v7, v8, v9, v10, v11, v12, v13, v14, v15, v16, v17, v18, v19, v20, v21, v22, v23, v24, v25, v26, v27, rfl, rfl, { j.later (by omega) (below_alloc (Below.refl _ _) _) with f3 := fun _ => ?_ }⟩)
      exact own_lit W' (g + 1) 5 .u8 [a0 % 256] (by have := j.hb.size; omega) (by show (1 : Nat) ≤ 9223372036854775807; decide)
    · refine wpOp_step ho (fun K hK => ?_)
      obtain rfl := Option.some.inj ho
      have d3 := j.f3 (haf ⟨3, .data⟩ (by simp) rfl)
      have c := own_string (P := Try.prog) Try.underlying99 Try.underlying5 Try.underlying9 d3
      refine value_ (v := .string (strOfNums [a0 % 256])) (by rfl) rfl (by unfold fr37; first | (go_simp; done) | (go_simp; rfl)) (hK _ _ ⟨b0, b1, b2, b3, true, b5, b6, b7, b8, b9, b10, b11, b12, b13, b14, b15, b16, b17, b18, b19, b20, b21, b22, b23, b24, b25, r, v3, v4, v5, v6, .string (strOfNums [a0 % 256]), v8, v9, v10, v11, v12, v13, v14, v15, v16, v17, v18, v19, v20, v21, v22, v23, v24, v25, v26, v27, rfl, rfl, { j with f4 := fun _ => rfl }⟩)
    · refine wpOp_step ho (fun K hK => ?_)
      obtain rfl := Option.some.inj ho
      refine value_ (v := .pointer (some ⟨g, 1, none⟩)) (by rfl) rfl (by unfold fr37; first | (go_simp; done) | (go_simp; rfl)) (hK _ _ ⟨b0, b1, b2, b3, b4, true, b6, b7, b8, b9, b10, b11, b12, b13, b14, b15, b16, b17, b18, b19, b20, b21, b22, b23, b24, b25, r, v3, v4, v5, v6, v7, .pointer (some ⟨g, 1, none⟩), v9, v10, v11, v12, v13, v14, v15, v16, v17, v18, v19, v20, v21, v22, v23, v24, v25, v26, v27, rfl, rfl, { j with f5 := fun _ => rfl }⟩)
    · refine wpOp_step ho (fun K hK => ?_)
      obtain rfl := Option.some.inj ho
      have d5 := j.f5 (haf ⟨5, .data⟩ (by simp) rfl)
      subst d5
      have c := gc 1 _ ((blk_cell BK.out 1).trans rfl)
      refine value_ (v := .string a1) (by rfl) rfl (by unfold fr37; first | (go_simp; done) | (go_simp; rfl)) (hK _ _ ⟨b0, b1, b2, b3, b4, b5, true, b7, b8, b9, b10, b11, b12, b13, b14, b15, b16, b17, b18, b19, b20, b21, b22, b23, b24, b25, r, v3, v4, v5, v6, v7, .pointer (some ⟨g, 1, none⟩), .string a1, v10, v11, v12, v13, v14, v15, v16, v17, v18, v19, v20, v21, v22, v23, v24, v25, v26, v27, rfl, rfl, { j with f6 := fun _ => rfl }⟩)
    · refine wpOp_step ho (fun K hK => ?_)
      obtain rfl := Option.some.inj ho
      have d6 := j.f6 (haf ⟨6, .data⟩ (by simp) rfl)
      subst d6
      refine goes_ Try.func42 (by kernel_rfl) rfl #[.string a1] (by rfl) rfl rfl (by simp only [List.map_toArray, List.map_cons, List.map_nil]; rfl) ?_
      refine (H1.out W').mono ?_
      rintro e W'' ⟨rfl, hb⟩
      exact ⟨_, rfl, hK _ _ ⟨b0, b1, b2, b3, b4, b5, b6, true, b8, b9, b10, b11, b12, b13, b14, b15, b16, b17, b18, b19, b20, b21, b22, b23, b24, b25, r, v3, v4, v5, v6, v7, v8, .string a1, .string t1, v11, v12, v13, v14, v15, v16, v17, v18, v19, v20, v21, v22, v23, v24, v25, v26, v27, rfl, rfl, { j.later (by omega) hb with f7 := fun _ => rfl }⟩⟩
    · refine wpOp_step ho (fun K hK => ?_)
      obtain rfl := Option.some.inj ho
      have d4 := j.f4 (haf ⟨4, .data⟩ (by simp) rfl)
      have d7 := j.f7 (haf ⟨7, .data⟩ (by simp) rfl)
      subst d4; subst d7
      refine value_ (v := .string ((strOfNums [a0 % 256]) ++ t1)) (by rfl) rfl (by unfold fr37; first | (go_simp; done) | (go_simp; rfl)) (hK _ _ ⟨b0, b1, b2, b3, b4, b5, b6, b7, true, b9, b10, b11, b12, b13, b14, b15, b16, b17, b18, b19, b20, b21, b22, b23, b24, b25, r, v3, v4, v5, v6, .string (strOfNums [a0 % 256]), v8, v9, .string t1, .string ((strOfNums [a0 % 256]) ++ t1), v12, v13, v14, v15, v16, v17, v18, v19, v20, v21, v22, v23, v24, v25, v26, v27, rfl, rfl, { j with f8 := fun _ => rfl }⟩)
    · refine wpOp_step ho (fun K hK => ?_)
      obtain rfl := Option.some.inj ho
      refine value_ (v := .pointer (some ⟨g, 2, none⟩)) (by rfl) rfl (by unfold fr37; first | (go_simp; done) | (go_simp; rfl)) (hK _ _ ⟨b0, b1, b2, b3, b4, b5, b6, b7, b8, true, b10, b11, b12, b13, b14, b15, b16, b17, b18, b19, b20, b21, b22, b23, b24, b25, r, v3, v4, v5, v6, v7, v8, v9, v10, v11, .pointer (some ⟨g, 2, none⟩), v13, v14, v15, v16, v17, v18, v19, v20, v21, v22, v23, v24, v25, v26, v27, rfl, rfl, { j with f9 := fun _ => rfl }⟩)
    · refine wpOp_step ho (fun K hK => ?_)
      obtain rfl := Option.some.inj ho
      have d9 := j.f9 (haf ⟨9, .data⟩ (by simp) rfl)
      subst d9
      have c := gc 2 _ ((blk_cell BK.out 2).trans rfl)
      refine value_ (v := .string a2) (by rfl) rfl (by unfold fr37; first | (go_simp; done) | (go_simp; rfl)) (hK _ _ ⟨b0, b1, b2, b3, b4, b5, b6, b7, b8, b9, true, b11, b12, b13, b14, b15, b16, b17, b18, b19, b20, b21, b22, b23, b24, b25, r, v3, v4, v5, v6, v7, v8, v9, v10, v11, .pointer (some ⟨g, 2, none⟩), .string a2, v14, v15, v16, v17, v18, v19, v20, v21, v22, v23, v24, v25, v26, v27, rfl, rfl, { j with f10 := fun _ => rfl }⟩)
    · refine wpOp_step ho (fun K hK => ?_)
      obtain rfl := Option.some.inj ho
      have d10 := j.f10 (haf ⟨10, .data⟩ (by simp) rfl)
      subst d10
      refine goes_ Try.func42 (by kernel_rfl) rfl #[.string a2] (by rfl) rfl rfl (by simp only [List.map_toArray, List.map_cons, List.map_nil]; rfl) ?_
      refine (H2.out W').mono ?_
      rintro e W'' ⟨rfl, hb⟩
      exact ⟨_, rfl, hK _ _ ⟨b0, b1, b2, b3, b4, b5, b6, b7, b8, b9, b10, true, b12, b13, b14, b15, b16, b17, b18, b19, b20, b21, b22, b23, b24, b25, r, v3, v4, v5, v6, v7, v8, v9, v10, v11, v12, .string a2, .string t2, v15, v16, v17, v18, v19, v20, v21, v22, v23, v24, v25, v26, v27, rfl, rfl, { j.later (by omega) hb with f11 := fun _ => rfl }⟩⟩
    · refine wpOp_step ho (fun K hK => ?_)
      obtain rfl := Option.some.inj ho
      have d8 := j.f8 (haf ⟨8, .data⟩ (by simp) rfl)
      have d11 := j.f11 (haf ⟨11, .data⟩ (by simp) rfl)
      subst d8; subst d11
      refine value_ (v := .string (((strOfNums [a0 % 256]) ++ t1) ++ t2)) (by rfl) rfl (by unfold fr37; first | (go_simp; done) | (go_simp; rfl)) (hK _ _ ⟨b0, b1, b2, b3, b4, b5, b6, b7, b8, b9, b10, b11, true, b13, b14, b15, b16, b17, b18, b19, b20, b21, b22, b23, b24, b25, r, v3, v4, v5, v6, v7, v8, v9, v10, .string ((strOfNums [a0 % 256]) ++ t1), v12, v13, .string t2, .string (((strOfNums [a0 % 256]) ++ t1) ++ t2), v16, v17, v18, v19, v20, v21, v22, v23, v24, v25, v26, v27, rfl, rfl, { j with f12 := fun _ => rfl }⟩)
    · refine wpOp_step ho (fun K hK => ?_)
      obtain rfl := Option.some.inj ho
      refine value_ (v := .pointer (some ⟨g, 3, none⟩)) (by rfl) rfl (by unfold fr37; first | (go_simp; done) | (go_simp; rfl)) (hK _ _ ⟨b0, b1, b2, b3, b4, b5, b6, b7, b8, b9, b10, b11, b12, true, b14, b15, b16, b17, b18, b19, b20, b21, b22, b23, b24, b25, r, v3, v4, v5, v6, v7, v8, v9, v10, v11, v12, v13, v14, v15, .pointer (some ⟨g, 3, none⟩), v17, v18, v19, v20, v21, v22, v23, v24, v25, v26, v27, rfl, rfl, { j with f13 := fun _ => rfl }⟩)
    · refine wpOp_step ho (fun K hK => ?_)
      obtain rfl := Option.some.inj ho
      have d13 := j.f13 (haf ⟨13, .data⟩ (by simp) rfl)
      subst d13
      have c := gc 3 _ ((blk_cell BK.out 3).trans rfl)
      refine value_ (v := .int .u64 a3) (by rfl) rfl (by unfold fr37; first | (go_simp; done) | (go_simp; rfl)) (hK _ _ ⟨b0, b1, b2, b3, b4, b5, b6, b7, b8, b9, b10, b11, b12, b13, true, b15, b16, b17, b18, b19, b20, b21, b22, b23, b24, b25, r, v3, v4, v5, v6, v7, v8, v9, v10, v11, v12, v13, v14, v15, .pointer (some ⟨g, 3, none⟩), .int .u64 a3, v18, v19, v20, v21, v22, v23, v24, v25, v26, v27, rfl, rfl, { j with f14 := fun _ => rfl }⟩)
    · refine wpOp_step ho (fun K hK => ?_)
      obtain rfl := Option.some.inj ho
      have d14 := j.f14 (haf ⟨14, .data⟩ (by simp) rfl)
      subst d14
      refine goes_ Try.func41 (by kernel_rfl) rfl #[.int .u64 a3] (by rfl) rfl rfl (by simp only [List.map_toArray, List.map_cons, List.map_nil]; rfl) ?_
      refine (H3.out W').mono ?_
      rintro e W'' ⟨rfl, hb⟩
      exact ⟨_, rfl, hK _ _ ⟨b0, b1, b2, b3, b4, b5, b6, b7, b8, b9, b10, b11, b12, b13, b14, true, b16, b17, b18, b19, b20, b21, b22, b23, b24, b25, r, v3, v4, v5, v6, v7, v8, v9, v10, v11, v12, v13, v14, v15, v16, .int .u64 a3, .string t3, v19, v20, v21, v22, v23, v24, v25, v26, v27, rfl, rfl, { j.later (by omega) hb with f15 := fun _ => rfl }⟩⟩
    · refine wpOp_step ho (fun K hK => ?_)
      obtain rfl := Option.some.inj ho
      have d12 := j.f12 (haf ⟨12, .data⟩ (by simp) rfl)
      have d15 := j.f15 (haf ⟨15, .data⟩ (by simp) rfl)
      subst d12; subst d15
      refine value_ (v := .string ((((strOfNums [a0 % 256]) ++ t1) ++ t2) ++ t3)) (by rfl) rfl (by unfold fr37; first | (go_simp; done) | (go_simp; rfl)) (hK _ _ ⟨b0, b1, b2, b3, b4, b5, b6, b7, b8, b9, b10, b11, b12, b13, b14, b15, true, b17, b18, b19, b20, b21, b22, b23, b24, b25, r, v3, v4, v5, v6, v7, v8, v9, v10, v11, v12, v13, v14, .string (((strOfNums [a0 % 256]) ++ t1) ++ t2), v16, v17, .string t3, .string ((((strOfNums [a0 % 256]) ++ t1) ++ t2) ++ t3), v20, v21, v22, v23, v24, v25, v26, v27, rfl, rfl, { j with f16 := fun _ => rfl }⟩)
    · refine wpOp_step ho (fun K hK => ?_)
      obtain rfl := Option.some.inj ho
      refine value_ (v := .pointer (some ⟨g, 4, none⟩)) (by rfl) rfl (by unfold fr37; first | (go_simp; done) | (go_simp; rfl)) (hK _ _ ⟨b0, b1, b2, b3, b4, b5, b6, b7, b8, b9, b10, b11, b12, b13, b14, b15, b16, true, b18, b19, b20, b21, b22, b23, b24, b25, r, v3, v4, v5, v6, v7, v8, v9, v10, v11, v12, v13, v14, v15, v16, v17, v18, v19, .pointer (some ⟨g, 4, none⟩), v21, v22, v23, v24, v25, v26, v27, rfl, rfl, { j with f17 := fun _ => rfl }⟩)
    · refine wpOp_step ho (fun K hK => ?_)
      obtain rfl := Option.some.inj ho
      have d17 := j.f17 (haf ⟨17, .data⟩ (by simp) rfl)
      subst d17
      have c := gc 4 _ ((blk_cell BK.out 4).trans rfl)
      refine value_ (v := .int .u64 a4) (by rfl) rfl (by unfold fr37; first | (go_simp; done) | (go_simp; rfl)) (hK _ _ ⟨b0, b1, b2, b3, b4, b5, b6, b7, b8, b9, b10, b11, b12, b13, b14, b15, b16, b17, true, b19, b20, b21, b22, b23, b24, b25, r, v3, v4, v5, v6, v7, v8, v9, v10, v11, v12, v13, v14, v15, v16, v17, v18, v19, .pointer (some ⟨g, 4, none⟩), .int .u64 a4, v22, v23, v24, v25, v26, v27, rfl, rfl, { j with f18 := fun _ => rfl }⟩)
    · refine wpOp_step ho (fun K hK => ?_)
      obtain rfl := Option.some.inj ho
      have d18 := j.f18 (haf ⟨18, .data⟩ (by simp) rfl)
      subst d18
      refine goes_ Try.func41 (by kernel_rfl) rfl #[.int .u64 a4] (by rfl) rfl rfl (by simp only [List.map_toArray, List.map_cons, List.map_nil]; rfl) ?_
      refine (H4.out W').mono ?_
      rintro e W'' ⟨rfl, hb⟩
      exact ⟨_, rfl, hK _ _ ⟨b0, b1, b2, b3, b4, b5, b6, b7, b8, b9, b10, b11, b12, b13, b14, b15, b16, b17, b18, true, b20, b21, b22, b23, b24, b25, r, v3, v4, v5, v6, v7, v8, v9, v10, v11, v12, v13, v14, v15, v16, v17, v18, v19, v20, .int .u64 a4, .string t4, v23, v24, v25, v26, v27, rfl, rfl, { j.later (by omega) hb with f19 := fun _ => rfl }⟩⟩
    · refine wpOp_step ho (fun K hK => ?_)
      obtain rfl := Option.some.inj ho
      have d16 := j.f16 (haf ⟨16, .data⟩ (by simp) rfl)
      have d19 := j.f19 (haf ⟨19, .data⟩ (by simp) rfl)
      subst d16; subst d19
      refine value_ (v := .string (((((strOfNums [a0 % 256]) ++ t1) ++ t2) ++ t3) ++ t4)) (by rfl) rfl (by unfold fr37; first | (go_simp; done) | (go_simp; rfl)) (hK _ _ ⟨b0, b1, b2, b3, b4, b5, b6, b7, b8, b9, b10, b11, b12, b13, b14, b15, b16, b17, b18, b19, true, b21, b22, b23, b24, b25, r, v3, v4, v5, v6, v7, v8, v9, v10, v11, v12, v13, v14, v15, v16, v17, v18, .string ((((strOfNums [a0 % 256]) ++ t1) ++ t2) ++ t3), v20, v21, .string t4, .string (((((strOfNums [a0 % 256]) ++ t1) ++ t2) ++ t3) ++ t4), v24, v25, v26, v27, rfl, rfl, { j with f20 := fun _ => rfl }⟩)
    · refine wpOp_step ho (fun K hK => ?_)
      obtain rfl := Option.some.inj ho
      refine value_ (v := .pointer (some ⟨g, 5, none⟩)) (by rfl) rfl (by unfold fr37; first | (go_simp; done) | (go_simp; rfl)) (hK _ _ ⟨b0, b1, b2, b3, b4, b5, b6, b7, b8, b9, b10, b11, b12, b13, b14, b15, b16, b17, b18, b19, b20, true, b22, b23, b24, b25, r, v3, v4, v5, v6, v7, v8, v9, v10, v11, v12, v13, v14, v15, v16, v17, v18, v19, v20, v21, v22, v23, .pointer (some ⟨g, 5, none⟩), v25, v26, v27, rfl, rfl, { j with f21 := fun _ => rfl }⟩)
    · refine wpOp_step ho (fun K hK => ?_)
      obtain rfl := Option.some.inj ho
      have d21 := j.f21 (haf ⟨21, .data⟩ (by simp) rfl)
      subst d21
      have c := gc 5 _ ((blk_cell BK.out 5).trans rfl)
      refine value_ (v := .string a5) (by rfl) rfl (by unfold fr37; first | (go_simp; done) | (go_simp; rfl)) (hK _ _ ⟨b0, b1, b2, b3, b4, b5, b6, b7, b8, b9, b10, b11, b12, b13, b14, b15, b16, b17, b18, b19, b20, b21, true, b23, b24, b25, r, v3, v4, v5, v6, v7, v8, v9, v10, v11, v12, v13, v14, v15, v16, v17, v18, v19, v20, v21, v22, v23, .pointer (some ⟨g, 5, none⟩), .string a5, v26, v27, rfl, rfl, { j with f22 := fun _ => rfl }⟩)
    · refine wpOp_step ho (fun K hK => ?_)
      obtain rfl := Option.some.inj ho
      have d22 := j.f22 (haf ⟨22, .data⟩ (by simp) rfl)
      subst d22
      refine goes_ Try.func42 (by kernel_rfl) rfl #[.string a5] (by rfl) rfl rfl (by simp only [List.map_toArray, List.map_cons, List.map_nil]; rfl) ?_
      refine (H5.out W').mono ?_
      rintro e W'' ⟨rfl, hb⟩
      exact ⟨_, rfl, hK _ _ ⟨b0, b1, b2, b3, b4, b5, b6, b7, b8, b9, b10, b11, b12, b13, b14, b15, b16, b17, b18, b19, b20, b21, b22, true, b24, b25, r, v3, v4, v5, v6, v7, v8, v9, v10, v11, v12, v13, v14, v15, v16, v17, v18, v19, v20, v21, v22, v23, v24, .string a5, .string t5, v27, rfl, rfl, { j.later (by omega) hb with f23 := fun _ => rfl }⟩⟩
    · refine wpOp_step ho (fun K hK => ?_)
      obtain rfl := Option.some.inj ho
      have d20 := j.f20 (haf ⟨20, .data⟩ (by simp) rfl)
      have d23 := j.f23 (haf ⟨23, .data⟩ (by simp) rfl)
      subst d20; subst d23
      refine value_ (v := .string ((((((strOfNums [a0 % 256]) ++ t1) ++ t2) ++ t3) ++ t4) ++ t5)) (by rfl) rfl (by unfold fr37; first | (go_simp; done) | (go_simp; rfl)) (hK _ _ ⟨b0, b1, b2, b3, b4, b5, b6, b7, b8, b9, b10, b11, b12, b13, b14, b15, b16, b17, b18, b19, b20, b21, b22, b23, true, b25, r, v3, v4, v5, v6, v7, v8, v9, v10, v11, v12, v13, v14, v15, v16, v17, v18, v19, v20, v21, v22, .string (((((strOfNums [a0 % 256]) ++ t1) ++ t2) ++ t3) ++ t4), v24, v25, .string t5, .string ((((((strOfNums [a0 % 256]) ++ t1) ++ t2) ++ t3) ++ t4) ++ t5), rfl, rfl, { j with f24 := fun _ => rfl }⟩)
    · refine wpOp_step ho (fun K hK => ?_)
      obtain rfl := Option.some.inj ho
      have d24 := j.f24 (haf ⟨24, .data⟩ (by simp) rfl)
      subst d24
      refine value_ (v := .string ((((((strOfNums [a0 % 256]) ++ t1) ++ t2) ++ t3) ++ t4) ++ t5)) (by rfl) rfl (by unfold fr37; first | (go_simp; done) | (go_simp; rfl)) (hK _ _ ⟨b0, b1, b2, b3, b4, b5, b6, b7, b8, b9, b10, b11, b12, b13, b14, b15, b16, b17, b18, b19, b20, b21, b22, b23, b24, true, .string ((((((strOfNums [a0 % 256]) ++ t1) ++ t2) ++ t3) ++ t4) ++ t5), v3, v4, v5, v6, v7, v8, v9, v10, v11, v12, v13, v14, v15, v16, v17, v18, v19, v20, v21, v22, v23, v24, v25, v26, .string ((((((strOfNums [a0 % 256]) ++ t1) ++ t2) ++ t3) ++ t4) ++ t5), rfl, rfl, { j with f25 := fun _ => rfl }⟩)
  · exact ⟨false, false, false, false, false, false, false, false, false, false, false, false, false, false, false, false, false, false, false, false, false, false, false, false, false, false, .string ⟨#[]⟩, undef, undef, undef, undef, undef, undef, undef, undef, undef, undef, undef, undef, undef, undef, undef, undef, undef, undef, undef, undef, undef, undef, undef, undef, undef, rfl, rfl, { hb := below_drew (Below.refl _ _), f0 := fun h => (by cases h), f1 := fun h => (by cases h), f2 := fun h => (by cases h), f3 := fun h => (by cases h), f4 := fun h => (by cases h), f5 := fun h => (by cases h), f6 := fun h => (by cases h), f7 := fun h => (by cases h), f8 := fun h => (by cases h), f9 := fun h => (by cases h), f10 := fun h => (by cases h), f11 := fun h => (by cases h), f12 := fun h => (by cases h), f13 := fun h => (by cases h), f14 := fun h => (by cases h), f15 := fun h => (by cases h), f16 := fun h => (by cases h), f17 := fun h => (by cases h), f18 := fun h => (by cases h), f19 := fun h => (by cases h), f20 := fun h => (by cases h), f21 := fun h => (by cases h), f22 := fun h => (by cases h), f23 := fun h => (by cases h), f24 := fun h => (by cases h), f25 := fun h => (by cases h) }⟩
  · rintro l a W' ⟨b0, b1, b2, b3, b4, b5, b6, b7, b8, b9, b10, b11, b12, b13, b14, b15, b16, b17, b18, b19, b20, b21, b22, b23, b24, b25, r, v3, v4, v5, v6, v7, v8, v9, v10, v11, v12, v13, v14, v15, v16, v17, v18, v19, v20, v21, v22, v23, v24, v25, v26, v27, rfl, rfl, j⟩ hall
    obtain rfl := j.f25 (hall 25 (by decide))
    go_wp2
    unfold fr37
    go_ret
    exact ⟨rfl, by rw [hg]; exact HB.out.trans (j.hb.mono (by omega))⟩
end Go.Proofs.Ytdcbacbilncnnaa.Mv
end
section
namespace Go.Proofs.Ytdcbacbilncnnaa.PMk
open Go.RowKit Go.Proofs.YtdcbacbilncnnaaW.PrintWords Go.Proofs.YtdcbacbilncnnaaW.PrintLast Go.Proofs.YtdcbacbilncnnaaW.PrintMore
attribute [local go_sem] max2_int min2_int max_two min_two max_three min_three max_four min_four   -- for this text's walks alone
set_option linter.unusedVariables false
set_option linter.unusedSimpArgs false
/-! ### parchmentref09_Meta: function 37 -/
def parchmentref09_Meta.f (k : Nat) (a0_0 : Int) (a0_1 : ByteArray) (a0_2 : ByteArray) (a0_3 : Int) (a0_4 : Int) (a0_5 : ByteArray) (a0_6 : ByteArray) (a0_7 : Bool) : Option (ByteArray) := (some (([(a0_0) % 256] : List Int) : List Int)).bind fun y207 => ((parchmentref02_Text.f k a0_1).bind fun t210 => (if (strOfNums y207).size + t210.size ≤ 9223372036854775807 then ((parchmentref02_Text.f k a0_2).bind fun t211 => (if ((strOfNums y207) ++ t210).size + t211.size ≤ 9223372036854775807 then ((parchmentref02_Uint.f k a0_3).bind fun t212 => (if (((strOfNums y207) ++ t210) ++ t211).size + t212.size ≤ 9223372036854775807 then ((parchmentref02_Uint.f k a0_4).bind fun t213 => (if ((((strOfNums y207) ++ t210) ++ t211) ++ t212).size + t213.size ≤ 9223372036854775807 then ((parchmentref02_Text.f k a0_5).bind fun t214 => (if (((((strOfNums y207) ++ t210) ++ t211) ++ t212) ++ t213).size + t214.size ≤ 9223372036854775807 then (some ((((((strOfNums y207) ++ t210) ++ t211) ++ t212) ++ t213) ++ t214)) else (none))) else (none))) else (none))) else (none))) else (none)))
theorem parchmentref09_Meta.calls (k : Nat) (a0_0 : Int) (a0_1 : ByteArray) (a0_2 : ByteArray) (a0_3 : Int) (a0_4 : Int) (a0_5 : ByteArray) (a0_6 : ByteArray) (a0_7 : Bool) (r : ByteArray) (w : World) (h : parchmentref09_Meta.f k a0_0 a0_1 a0_2 a0_3 a0_4 a0_5 a0_6 a0_7 = some r) :
  Calls Try.prog 37 #[.agg #[.int .i64 a0_0, .string a0_1, .string a0_2, .int .u64 a0_3, .int .u64 a0_4, .string a0_5, .string a0_6, .bool a0_7]] w fun e w' => e = .returned (.string r) ∧ Below w.heap.size w w' := by
 simp only [parchmentref09_Meta.f, Option.bind_some] at h
 obtain ⟨t1, e1, h⟩ := Option.bind_eq_some_iff.mp h
 have c1 : ¬ ¬ _ := fun c => by rw [if_neg c] at h; cases h
 rw [if_pos (Classical.not_not.1 c1)] at h
 obtain ⟨t2, e2, h⟩ := Option.bind_eq_some_iff.mp h
 have c2 : ¬ ¬ _ := fun c => by rw [if_neg c] at h; cases h
 rw [if_pos (Classical.not_not.1 c2)] at h
 obtain ⟨t3, e3, h⟩ := Option.bind_eq_some_iff.mp h
 have c3 : ¬ ¬ _ := fun c => by rw [if_neg c] at h; cases h
 rw [if_pos (Classical.not_not.1 c3)] at h
 obtain ⟨t4, e4, h⟩ := Option.bind_eq_some_iff.mp h
 have c4 : ¬ ¬ _ := fun c => by rw [if_neg c] at h; cases h
 rw [if_pos (Classical.not_not.1 c4)] at h
 obtain ⟨t5, e5, h⟩ := Option.bind_eq_some_iff.mp h
 have c5 : ¬ ¬ _ := fun c => by rw [if_neg c] at h; cases h
 rw [if_pos (Classical.not_not.1 c5)] at h
 obtain rfl := Option.some.inj h
 have c := Classical.not_not.1 c5
 simp only [ByteArray.size_append] at c
 exact Mv.meta37 a0_0 a0_1 a0_2 a0_3 a0_4 a0_5 a0_6 a0_7 t1 t2 t3 t4 t5 w (Lib.hid fun w => parchmentref02_Text.calls k a0_1 _ w e1) (Lib.hid fun w => parchmentref02_Text.calls k a0_2 _ w e2) (Lib.hid fun w => parchmentref02_Uint.calls k a0_3 _ w e3) (Lib.hid fun w => parchmentref02_Uint.calls k a0_4 _ w e4) (Lib.hid fun w => parchmentref02_Text.calls k a0_5 _ w e5) c
end Go.Proofs.Ytdcbacbilncnnaa.PMk
end
section
/- A revision's meta in plain bytes. -/
set_option linter.unusedVariables false
set_option linter.unusedSimpArgs false
namespace Go.Proofs.Ytdcbacbilncnnaa.T
open Go.RowKit Go.Proofs.Ytdcbacbilncnnaa.PMk Go.Proofs.Ytdcbacbilncnnaa.EncS Go.Proofs.Ytdcbacbilncnnaa.EncL Go.Proofs.YtdcbacbilncnnaaW.PrintWords Go.Proofs.YtdcbacbilncnnaaW.PrintLast
def txt (t : ByteArray) : List UInt8 := encU t.size ++ t.toList
def num (a : Int) : List UInt8 := encU a.toNat
def byt (a : Int) : UInt8 := UInt8.ofNat (a % 256).toNat
def mt (op : Int) (t f : ByteArray) (d v : Int) (h : ByteArray) : List UInt8 := byt op :: (txt t ++ (txt f ++ (num d ++ (num v ++ txt h))))
/-- A revision that a value can be. -/
structure Fits (d v : Int) (t f h : ByteArray) : Prop where
  d0 : 0 ≤ d
  d1 : d < 18446744073709551616
  v0 : 0 ≤ v
  v1 : v < 18446744073709551616
  t : t.size ≤ 1125899906842624
  f : f.size ≤ 1125899906842624
  h : h.size ≤ 1125899906842624
theorem byt_str (op : Int) : strOfNums [op % 256] = S [byt op] := by
  have h0 := Int.emod_nonneg op (show (256 : Int) ≠ 0 by decide)
  have h1 := Int.emod_lt_of_pos op (show (0 : Int) < 256 by decide)
  have e : [op % 256] = ints [byt op] := by
    simp only [ints, byt, List.map_cons, List.map_nil, List.cons.injEq, and_true]
    rw [UInt8.toNat_ofNat']
    omega
  rw [e, strOf_ints]
theorem num_ev (a : Int) (h0 : 0 ≤ a) (h1 : a < 18446744073709551616) : Ev (fun k => enc_Uint.f k a) (S (num a)) := by
  have := uint_f a.toNat (by omega)
  rw [Int.toNat_of_nonneg h0] at this
  exact this
theorem rnum_ev (a : Int) (h0 : 0 ≤ a) (h1 : a < 18446744073709551616) : Ev (fun k => parchmentref02_Uint.f k a) (S (num a)) := by
  have := ref_uint_f a.toNat a.toNat (Nat.le_refl _) (by omega)
  rw [Int.toNat_of_nonneg h0] at this
  exact this
theorem num_len (a : Int) (h0 : 0 ≤ a) (h1 : a < 18446744073709551616) : (num a).length ≤ 10 := encU_len _ (by omega)
theorem txt_len (t : ByteArray) (h : t.size ≤ 1125899906842624) : (txt t).length ≤ t.size + 10 := by
  unfold txt
  have := encU_len t.size (by omega)
  have hl : t.toList.length = t.size := by rw [ByteArray.toList_eq, Array.length_toList]; rfl
  rw [List.length_append, hl]; omega
theorem mt_len {op d v : Int} {t f h : ByteArray} (g : Fits d v t f h) : (mt op t f d v h).length ≤ 3377699720527973 := by
  have h1 := txt_len t g.t
  have h2 := txt_len f g.f
  have h3 := txt_len h g.h
  have h4 := num_len d g.d0 g.d1
  have h5 := num_len v g.v0 g.v1
  have := g.t
  have := g.f
  have := g.h
  unfold mt
  simp only [List.length_cons, List.length_append]
  omega
theorem meta_ev {op d v : Int} {t f h : ByteArray} (b : ByteArray) (q : Bool) (g : Fits d v t f h) : Ev (fun k => block_meta.f k op t f d v h b q) (S (mt op t f d v h)) := by
  have h1 := txt_len t g.t
  have h2 := txt_len f g.f
  have h3 := txt_len h g.h
  have h4 := num_len d g.d0 g.d1
  have h5 := num_len v g.v0 g.v1
  have := g.t
  have := g.f
  have := g.h
  unfold block_meta.f
  simp only [Option.bind_some, byt_str]
  refine Ev.bind (text_f t (by omega)) ?_
  refine Ev.congr (fun _ => if_pos (by rw [S_size, S_size]; unfold txt at h1; simp at *; omega)) ?_
  refine Ev.bind (text_f f (by omega)) ?_
  refine Ev.congr (fun _ => if_pos (by rw [S_append, S_size, S_size]; unfold txt at h1 h2; simp at *; omega)) ?_
  refine Ev.bind (num_ev d g.d0 g.d1) ?_
  refine Ev.congr (fun _ => if_pos (by rw [S_append, S_append, S_size, S_size]; unfold txt at h1 h2; simp at *; omega)) ?_
  refine Ev.bind (num_ev v g.v0 g.v1) ?_
  refine Ev.congr (fun _ => if_pos (by rw [S_append, S_append, S_append, S_size, S_size]; unfold txt at h1 h2; simp at *; omega)) ?_
  refine Ev.bind (text_f h (by omega)) ?_
  refine Ev.congr (fun _ => if_pos (by rw [S_append, S_append, S_append, S_append, S_size, S_size]; unfold txt at h1 h2 h3; simp at *; omega)) ?_
  rw [S_append, S_append, S_append, S_append, S_append]
  have e : mt op t f d v h = [byt op] ++ (encU t.size ++ t.toList) ++ (encU f.size ++ f.toList) ++ num d ++ num v ++ (encU h.size ++ h.toList) := by simp [mt, txt]
  rw [e]
  exact Ev.now _
theorem rmeta_ev {op d v : Int} {t f h : ByteArray} (b : ByteArray) (q : Bool) (g : Fits d v t f h) : Ev (fun k => parchmentref09_Meta.f k op t f d v h b q) (S (mt op t f d v h)) := by
  have h1 := txt_len t g.t
  have h2 := txt_len f g.f
  have h3 := txt_len h g.h
  have h4 := num_len d g.d0 g.d1
  have h5 := num_len v g.v0 g.v1
  have := g.t
  have := g.f
  have := g.h
  unfold parchmentref09_Meta.f
  simp only [Option.bind_some, byt_str]
  refine Ev.bind (ref_text_f t (by omega)) ?_
  refine Ev.congr (fun _ => if_pos (by rw [S_size, S_size]; unfold txt at h1; simp at *; omega)) ?_
  refine Ev.bind (ref_text_f f (by omega)) ?_
  refine Ev.congr (fun _ => if_pos (by rw [S_append, S_size, S_size]; unfold txt at h1 h2; simp at *; omega)) ?_
  refine Ev.bind (rnum_ev d g.d0 g.d1) ?_
  refine Ev.congr (fun _ => if_pos (by rw [S_append, S_append, S_size, S_size]; unfold txt at h1 h2; simp at *; omega)) ?_
  refine Ev.bind (rnum_ev v g.v0 g.v1) ?_
  refine Ev.congr (fun _ => if_pos (by rw [S_append, S_append, S_append, S_size, S_size]; unfold txt at h1 h2; simp at *; omega)) ?_
  refine Ev.bind (ref_text_f h (by omega)) ?_
  refine Ev.congr (fun _ => if_pos (by rw [S_append, S_append, S_append, S_append, S_size, S_size]; unfold txt at h1 h2 h3; simp at *; omega)) ?_
  rw [S_append, S_append, S_append, S_append, S_append]
  have e : mt op t f d v h = [byt op] ++ (encU t.size ++ t.toList) ++ (encU f.size ++ f.toList) ++ num d ++ num v ++ (encU h.size ++ h.toList) := by simp [mt, txt]
  rw [e]
  exact Ev.now _
end Go.Proofs.Ytdcbacbilncnnaa.T
end
section
/- A block's header: its numbers, the block ahead, and its revisions' root. -/
set_option linter.unusedVariables false
set_option linter.unusedSimpArgs false
namespace Go.Proofs.Ytdcbacbilncnnaa.T
open Go.RowKit Go.Proofs.Ytdcbacbilncnnaa.PMk Go.Proofs.Ytdcbacbilncnnaa.M Go.Proofs.YtdcbacbilncnnaaW.PrintWords Go.Proofs.YtdcbacbilncnnaaW.PrintLast
theorem len_any (w : World) (base g n : Nat) (vl vp : Value) (L P : List ByteArray) (hA : At w base g vl vp L P) (hn : L.length = n) :
    Calls Try.prog 57 #[.pointer (some ⟨g, 0, none⟩)] w fun e w' => e = .returned (.int .i64 n) ∧ Below w.heap.size w w' := by
  subst hn
  refine (len_raw w base g vl vp L P hA).mono ?_
  rintro e w' ⟨rfl, h⟩
  rw [h]
  exact ⟨rfl, Below.refl _ _⟩
theorem sum_empty : Dig.hash_Sum.f ⟨#[]⟩ = some (Dig.dig ⟨#[]⟩) := rfl
theorem root_nil (w : World) (base g : Nat) (vl vp : Value) (P : List ByteArray) (hA : At w base g vl vp [] P) :
    Calls Try.prog 48 #[.pointer (some ⟨g, 0, none⟩)] w fun e w' => e = .returned (.string (mroot [])) ∧ Below w.heap.size w w' := by
  have HA := Lib.hid hA
  clear hA
  obtain ⟨d, hd⟩ : ∃ d, Dig.dig ⟨#[]⟩ = d := ⟨_, rfl⟩
  have hm : mroot [] = d := mroot_nil.trans hd
  have HS := Lib.hid (fun w' => Dig.hash_Sum.calls ⟨#[]⟩ d w' (sum_empty.trans (congrArg some hd)))
  rw [hm]
  clear hd hm
  go_enter Try.func48, Try.ntmps48
  go_wp2_with (first
    | (go_at_call 57; refine (len_any _ _ _ 0 _ _ _ _ HA.out rfl).mono ?_; rintro e w1 ⟨rfl, hb1⟩; have HB1 := Lib.hid hb1; clear hb1)
    | (go_at_call 44; refine (HS.out _).mono ?_; rintro e w2 ⟨rfl, hb1⟩; have HB2 := Lib.hid (HB1.out.trans (hb1.mono HB1.out.size)); clear hb1))
  go_ret
  exact ⟨rfl, HB2.out⟩
theorem root_all (w : World) (base g : Nat) (vl vp : Value) (L : List ByteArray) (hA : At w base g vl vp L (pk L)) (hw : W32 L) (hn : L.length < 1000000) :
    Calls Try.prog 48 #[.pointer (some ⟨g, 0, none⟩)] w fun e w' => e = .returned (.string (mroot L)) ∧ Below w.heap.size w w' := by
  by_cases h : L = []
  · subst h
    exact root_nil w base g vl vp _ hA
  · exact root_tree w base g vl vp L hA h hw hn
set_option maxRecDepth 100000 in
set_option maxHeartbeats 4000000 in
theorem header_raw (a0 : Int) (a1 : ByteArray) (a2 : Int) (A : Option Addr) (c len : Nat) (L : List ByteArray) (t1 t2 t3 t4 r : ByteArray) (w : World)
    (H1 : Hid (∀ w, Calls Try.prog 45 #[.int .u64 a0] w fun e w' => e = .returned (.string t1) ∧ Below w.heap.size w w'))
    (H2 : Hid (∀ w, Calls Try.prog 46 #[.string a1] w fun e w' => e = .returned (.string t2) ∧ Below w.heap.size w w'))
    (H3 : Hid (∀ w, Calls Try.prog 45 #[.int .u64 a2] w fun e w' => e = .returned (.string t3) ∧ Below w.heap.size w w'))
    (H4 : Hid (∀ w, Calls Try.prog 45 #[.int .u64 (IntKind.u64.wrap len)] w fun e w' => e = .returned (.string t4) ∧ Below w.heap.size w w'))
    (H5 : Hid (∀ w', Below w.heap.size w w' → Calls Try.prog 47 #[.agg #[.int .u64 a0, .string a1, .int .u64 a2, .slice A len c]] w' fun e w2 => ∃ g vl vp, e = .returned (.pointer (some ⟨g, 0, none⟩)) ∧ At w2 w'.heap.size g vl vp L (pk L) ∧ Below w'.heap.size w' w2))
    (H6 : Hid (∀ w base g vl vp, At w base g vl vp L (pk L) → Calls Try.prog 48 #[.pointer (some ⟨g, 0, none⟩)] w fun e w' => e = .returned (.string r) ∧ Below w.heap.size w w'))
    (hs : t1.size + t2.size + t3.size + t4.size + r.size ≤ 9223372036854775807) :
    Calls Try.prog 16 #[.agg #[.int .u64 a0, .string a1, .int .u64 a2, .slice A len c]] w fun e w' => e = .returned (.string ((((t1 ++ t2) ++ t3) ++ t4) ++ r)) ∧ Below w.heap.size w w' := by
  have s1 : (9223372036854775807 < t1.size + t2.size) = False := eq_false (by omega)
  have s2 : (9223372036854775807 < t1.size + t2.size + t3.size) = False := eq_false (by omega)
  have s3 : (9223372036854775807 < t1.size + t2.size + t3.size + t4.size) = False := eq_false (by omega)
  have s4 : (9223372036854775807 < t1.size + t2.size + t3.size + t4.size + r.size) = False := eq_false (by omega)
  clear hs
  go_enter Try.func16, Try.ntmps16
  go_wp2_with fail
  have BK : Hid ((w.alloc (.cells #[.int .u64 a0, .string a1, .int .u64 a2, .slice A len c] 25)).heap[w.heap.size]? = some (.cells #[.int .u64 a0, .string a1, .int .u64 a2, .slice A len c] 25 (0, 0))) := Lib.hid (heap_alloc_new w _)
  have HB : Hid (Below w.heap.size w (w.alloc (.cells #[.int .u64 a0, .string a1, .int .u64 a2, .slice A len c] 25))) := Lib.hid ((Below.refl _ _).alloc (Nat.le_refl _) _)
  generalize w.alloc (.cells #[.int .u64 a0, .string a1, .int .u64 a2, .slice A len c] 25) = W at BK HB ⊢
  refine start_ (n := 22) (S := fun w' => w'.cell? ⟨w.heap.size, 0, none⟩ = some (.int .u64 a0) ∧ w'.cell? ⟨w.heap.size, 1, none⟩ = some (.string a1) ∧ w'.cell? ⟨w.heap.size, 2, none⟩ = some (.int .u64 a2) ∧ w'.cell? ⟨w.heap.size, 3, none⟩ = some (.slice A len c)) (ds := []) #[false, false, false, false, false, false, false, false, false, false, false, false, false, false, false, false, false, false, false, false, false, false] (by kernel_rfl) rfl rfl ⟨(blk_cell BK.out 0).trans rfl, (blk_cell BK.out 1).trans rfl, (blk_cell BK.out 2).trans rfl, (blk_cell BK.out 3).trans rfl⟩ (fun hHeld => ?_)
  refine pure_ (i := 0) (N := some 3) (v := ?_) (a' := ?_) #[true, false, false, false, false, false, false, false, false, false, false, false, false, false, false, false, false, false, false, false, false, false] rfl rfl (by kernel_rfl) (fun _ _ _ h => h) (Or.inl ⟨by rfl, ?_⟩) ?_ ?_
  rotate_left
  · intro w'
    go_simp
    with_reducible rfl
  rotate_left
  · simp only [Act.put, List.setIfInBounds_toArray, List.set_cons_zero, List.set_cons_succ, i64_w, i32_w]
    rfl
  refine pure_ (i := 3) (N := some 6) (v := ?_) (a' := ?_) #[true, false, false, true, false, false, false, false, false, false, false, false, false, false, false, false, false, false, false, false, false, false] rfl rfl (by kernel_rfl) (fun _ _ _ h => h) (Or.inl ⟨by rfl, ?_⟩) ?_ ?_
  rotate_left
  · intro w'
    go_simp
    with_reducible rfl
  rotate_left
  · simp only [Act.put, List.setIfInBounds_toArray, List.set_cons_zero, List.set_cons_succ, i64_w, i32_w]
    rfl
  refine pure_ (i := 7) (N := some 10) (v := ?_) (a' := ?_) #[true, false, false, true, false, false, false, true, false, false, false, false, false, false, false, false, false, false, false, false, false, false] rfl rfl (by kernel_rfl) (fun _ _ _ h => h) (Or.inl ⟨by rfl, ?_⟩) ?_ ?_
  rotate_left
  · intro w'
    go_simp
    with_reducible rfl
  rotate_left
  · simp only [Act.put, List.setIfInBounds_toArray, List.set_cons_zero, List.set_cons_succ, i64_w, i32_w]
    rfl
  refine pure_ (i := 11) (N := some 14) (v := ?_) (a' := ?_) #[true, false, false, true, false, false, false, true, false, false, false, true, false, false, false, false, false, false, false, false, false, false] rfl rfl (by kernel_rfl) (fun _ _ _ h => h) (Or.inl ⟨by rfl, ?_⟩) ?_ ?_
  rotate_left
  · intro w'
    go_simp
    with_reducible rfl
  rotate_left
  · simp only [Act.put, List.setIfInBounds_toArray, List.set_cons_zero, List.set_cons_succ, i64_w, i32_w]
    rfl
  refine take_ (i := 1) (N := some 4) (v := ?_) (a' := ?_) #[true, true, false, true, false, false, false, true, false, false, false, true, false, false, false, false, false, false, false, false, false, false] rfl rfl (by kernel_rfl) (fun _ _ _ h => h) (Or.inl ⟨by rfl, ?_⟩) hHeld ?_ ?_
  rotate_left
  · rintro w' ⟨s0, s1, s2, s3⟩
    go_simp
    with_reducible rfl
  rotate_left
  · simp only [Act.put, List.setIfInBounds_toArray, List.set_cons_zero, List.set_cons_succ, i64_w, i32_w]
    rfl
  refine take_ (i := 4) (N := some 7) (v := ?_) (a' := ?_) #[true, true, false, true, true, false, false, true, false, false, false, true, false, false, false, false, false, false, false, false, false, false] rfl rfl (by kernel_rfl) (fun _ _ _ h => h) (Or.inl ⟨by rfl, ?_⟩) hHeld ?_ ?_
  rotate_left
  · rintro w' ⟨s0, s1, s2, s3⟩
    go_simp
    with_reducible rfl
  rotate_left
  · simp only [Act.put, List.setIfInBounds_toArray, List.set_cons_zero, List.set_cons_succ, i64_w, i32_w]
    rfl
  refine take_ (i := 8) (N := some 11) (v := ?_) (a' := ?_) #[true, true, false, true, true, false, false, true, true, false, false, true, false, false, false, false, false, false, false, false, false, false] rfl rfl (by kernel_rfl) (fun _ _ _ h => h) (Or.inl ⟨by rfl, ?_⟩) hHeld ?_ ?_
  rotate_left
  · rintro w' ⟨s0, s1, s2, s3⟩
    go_simp
    with_reducible rfl
  rotate_left
  · simp only [Act.put, List.setIfInBounds_toArray, List.set_cons_zero, List.set_cons_succ, i64_w, i32_w]
    rfl
  refine take_ (i := 12) (N := some 15) (v := ?_) (a' := ?_) #[true, true, false, true, true, false, false, true, true, false, false, true, true, false, false, false, false, false, false, false, false, false] rfl rfl (by kernel_rfl) (fun _ _ _ h => h) (Or.inl ⟨by rfl, ?_⟩) hHeld ?_ ?_
  rotate_left
  · rintro w' ⟨s0, s1, s2, s3⟩
    go_simp
    with_reducible rfl
  rotate_left
  · simp only [Act.put, List.setIfInBounds_toArray, List.set_cons_zero, List.set_cons_succ, i64_w, i32_w]
    rfl
  refine pure_ (i := 13) (N := some 16) (v := ?_) (a' := ?_) #[true, true, false, true, true, false, false, true, true, false, false, true, true, true, false, false, false, false, false, false, false, false] rfl rfl (by kernel_rfl) (fun _ _ _ h => h) (Or.inl ⟨by rfl, ?_⟩) ?_ ?_
  rotate_left
  · intro w'
    go_simp
    with_reducible rfl
  rotate_left
  · simp only [Act.put, List.setIfInBounds_toArray, List.set_cons_zero, List.set_cons_succ, i64_w, i32_w]
    rfl
  refine pure_ (i := 14) (N := some 17) (v := ?_) (a' := ?_) #[true, true, false, true, true, false, false, true, true, false, false, true, true, true, true, false, false, false, false, false, false, false] rfl rfl (by kernel_rfl) (fun _ _ _ h => h) (Or.inl ⟨by rfl, ?_⟩) ?_ ?_
  rotate_left
  · intro w'
    go_simp
    with_reducible rfl
  rotate_left
  · simp only [Act.put, List.setIfInBounds_toArray, List.set_cons_zero, List.set_cons_succ, i64_w, i32_w]
    rfl
  refine take_ (i := 17) (N := some 20) (v := ?_) (a' := ?_) #[true, true, false, true, true, false, false, true, true, false, false, true, true, true, true, false, false, true, false, false, false, false] rfl rfl (by kernel_rfl) (fun _ _ _ h => h) (Or.inl ⟨by rfl, ?_⟩) hHeld ?_ ?_
  rotate_left
  · rintro w' ⟨s0, s1, s2, s3⟩
    go_simp
    with_reducible rfl
  rotate_left
  · simp only [Act.put, List.setIfInBounds_toArray, List.set_cons_zero, List.set_cons_succ, i64_w, i32_w]
    rfl
  refine one_ (i := 2) (N := some 5) #[true, true, true, true, true, false, false, true, true, false, false, true, true, true, true, false, false, true, false, false, false, false] rfl rfl (by kernel_rfl) (by decide) (fun K hK => ?_)
  refine goes_ Try.func45 (by kernel_rfl) rfl #[.int .u64 a0] (by rfl) rfl rfl (by simp only [List.map_toArray, List.map_cons, List.map_nil]; rfl) ?_
  with_reducible refine (H1.out _).mono ?_
  rintro e w2 ⟨rfl, hb⟩
  refine ⟨_, rfl, ?_⟩
  have BK2 := Lib.hid (blk_below BK.out (below_drew hb))
  have HB2 := Lib.hid (HB.out.trans ((below_drew hb).mono HB.out.size))
  clear hb
  refine hK.out _ _ ⟨(blk_cell BK2.out 0).trans rfl, (blk_cell BK2.out 1).trans rfl, (blk_cell BK2.out 2).trans rfl, (blk_cell BK2.out 3).trans rfl⟩ (fun hHeld => ?_)
  clear hK K
  refine norm_ (a' := ?_) ?_ ?_
  rotate_left
  · show Act.put _ (some 5) _ = _
    simp only [Act.put, List.setIfInBounds_toArray, List.set_cons_zero, List.set_cons_succ, i64_w, i32_w]
    rfl
  refine one_ (i := 5) (N := some 8) #[true, true, true, true, true, true, false, true, true, false, false, true, true, true, true, false, false, true, false, false, false, false] rfl rfl (by kernel_rfl) (by decide) (fun K hK => ?_)
  refine goes_ Try.func46 (by kernel_rfl) rfl #[.string a1] (by rfl) rfl rfl (by simp only [List.map_toArray, List.map_cons, List.map_nil]; rfl) ?_
  with_reducible refine (H2.out _).mono ?_
  rintro e w3 ⟨rfl, hb⟩
  refine ⟨_, rfl, ?_⟩
  have BK3 := Lib.hid (blk_below BK2.out hb)
  have HB3 := Lib.hid (HB2.out.trans (hb.mono HB2.out.size))
  clear hb
  refine hK.out _ _ ⟨(blk_cell BK3.out 0).trans rfl, (blk_cell BK3.out 1).trans rfl, (blk_cell BK3.out 2).trans rfl, (blk_cell BK3.out 3).trans rfl⟩ (fun hHeld => ?_)
  clear hK K
  refine norm_ (a' := ?_) ?_ ?_
  rotate_left
  · show Act.put _ (some 8) _ = _
    simp only [Act.put, List.setIfInBounds_toArray, List.set_cons_zero, List.set_cons_succ, i64_w, i32_w]
    rfl
  refine pure_ (i := 6) (N := some 9) (v := ?_) (a' := ?_) #[true, true, true, true, true, true, true, true, true, false, false, true, true, true, true, false, false, true, false, false, false, false] rfl rfl (by kernel_rfl) (fun _ _ _ h => h) (Or.inl ⟨by rfl, ?_⟩) ?_ ?_
  rotate_left
  · intro w'
    go_simp
    with_reducible rfl
  rotate_left
  · simp only [Act.put, List.setIfInBounds_toArray, List.set_cons_zero, List.set_cons_succ, i64_w, i32_w]
    rfl
  refine one_ (i := 9) (N := some 12) #[true, true, true, true, true, true, true, true, true, true, false, true, true, true, true, false, false, true, false, false, false, false] rfl rfl (by kernel_rfl) (by decide) (fun K hK => ?_)
  refine goes_ Try.func45 (by kernel_rfl) rfl #[.int .u64 a2] (by rfl) rfl rfl (by simp only [List.map_toArray, List.map_cons, List.map_nil]; rfl) ?_
  with_reducible refine (H3.out _).mono ?_
  rintro e w4 ⟨rfl, hb⟩
  refine ⟨_, rfl, ?_⟩
  have BK4 := Lib.hid (blk_below BK3.out hb)
  have HB4 := Lib.hid (HB3.out.trans (hb.mono HB3.out.size))
  clear hb
  refine hK.out _ _ ⟨(blk_cell BK4.out 0).trans rfl, (blk_cell BK4.out 1).trans rfl, (blk_cell BK4.out 2).trans rfl, (blk_cell BK4.out 3).trans rfl⟩ (fun hHeld => ?_)
  clear hK K
  refine norm_ (a' := ?_) ?_ ?_
  rotate_left
  · show Act.put _ (some 12) _ = _
    simp only [Act.put, List.setIfInBounds_toArray, List.set_cons_zero, List.set_cons_succ, i64_w, i32_w]
    rfl
  refine pure_ (i := 10) (N := some 13) (v := ?_) (a' := ?_) #[true, true, true, true, true, true, true, true, true, true, true, true, true, true, true, false, false, true, false, false, false, false] rfl rfl (by kernel_rfl) (fun _ _ _ h => h) (Or.inl ⟨by rfl, ?_⟩) ?_ ?_
  rotate_left
  · intro w'
    go_simp
    with_reducible rfl
  rotate_left
  · simp only [Act.put, List.setIfInBounds_toArray, List.set_cons_zero, List.set_cons_succ, i64_w, i32_w]
    rfl
  refine one_ (i := 15) (N := some 18) #[true, true, true, true, true, true, true, true, true, true, true, true, true, true, true, true, false, true, false, false, false, false] rfl rfl (by kernel_rfl) (by decide) (fun K hK => ?_)
  refine goes_ Try.func45 (by kernel_rfl) rfl #[.int .u64 (IntKind.u64.wrap len)] (by rfl) rfl rfl (by simp only [List.map_toArray, List.map_cons, List.map_nil]; rfl) ?_
  with_reducible refine (H4.out _).mono ?_
  rintro e w5 ⟨rfl, hb⟩
  refine ⟨_, rfl, ?_⟩
  have BK5 := Lib.hid (blk_below BK4.out hb)
  have HB5 := Lib.hid (HB4.out.trans (hb.mono HB4.out.size))
  clear hb
  refine hK.out _ _ ⟨(blk_cell BK5.out 0).trans rfl, (blk_cell BK5.out 1).trans rfl, (blk_cell BK5.out 2).trans rfl, (blk_cell BK5.out 3).trans rfl⟩ (fun hHeld => ?_)
  clear hK K
  refine norm_ (a' := ?_) ?_ ?_
  rotate_left
  · show Act.put _ (some 18) _ = _
    simp only [Act.put, List.setIfInBounds_toArray, List.set_cons_zero, List.set_cons_succ, i64_w, i32_w]
    rfl
  refine pure_ (i := 16) (N := some 19) (v := ?_) (a' := ?_) #[true, true, true, true, true, true, true, true, true, true, true, true, true, true, true, true, true, true, false, false, false, false] rfl rfl (by kernel_rfl) (fun _ _ _ h => h) (Or.inl ⟨by rfl, ?_⟩) ?_ ?_
  rotate_left
  · intro w'
    go_simp
    with_reducible rfl
  rotate_left
  · simp only [Act.put, List.setIfInBounds_toArray, List.set_cons_zero, List.set_cons_succ, i64_w, i32_w]
    rfl
  refine one_ (i := 18) (N := some 21) #[true, true, true, true, true, true, true, true, true, true, true, true, true, true, true, true, true, true, true, false, false, false] rfl rfl (by kernel_rfl) (by decide) (fun K hK => ?_)
  refine goes_ Try.func47 (by kernel_rfl) rfl #[.agg #[.int .u64 a0, .string a1, .int .u64 a2, .slice A len c]] (by rfl) rfl rfl (by simp only [List.map_toArray, List.map_cons, List.map_nil]; rfl) ?_
  with_reducible refine (H5.out _ HB5.out).mono ?_
  rintro e w6 ⟨gt, vl, vp, rfl, hA, hb⟩
  refine ⟨_, rfl, ?_⟩
  have BK6 := Lib.hid (blk_below BK5.out hb)
  have HB6 := Lib.hid (HB5.out.trans (hb.mono HB5.out.size))
  have HA := Lib.hid hA
  clear hb hA
  refine hK.out _ _ ⟨(blk_cell BK6.out 0).trans rfl, (blk_cell BK6.out 1).trans rfl, (blk_cell BK6.out 2).trans rfl, (blk_cell BK6.out 3).trans rfl⟩ (fun hHeld => ?_)
  clear hK K
  refine norm_ (a' := ?_) ?_ ?_
  rotate_left
  · show Act.put _ (some 21) _ = _
    simp only [Act.put, List.setIfInBounds_toArray, List.set_cons_zero, List.set_cons_succ, i64_w, i32_w]
    rfl
  refine one_ (i := 19) (N := some 22) #[true, true, true, true, true, true, true, true, true, true, true, true, true, true, true, true, true, true, true, true, false, false] rfl rfl (by kernel_rfl) (by decide) (fun K hK => ?_)
  refine goes_ Try.func48 (by kernel_rfl) rfl #[.pointer (some ⟨gt, 0, none⟩)] (by rfl) rfl rfl (by simp only [List.map_toArray, List.map_cons, List.map_nil]; rfl) ?_
  with_reducible refine (H6.out _ _ _ _ _ HA.out).mono ?_
  rintro e w7 ⟨rfl, hb⟩
  refine ⟨_, rfl, ?_⟩
  have BK7 := Lib.hid (blk_below BK6.out hb)
  have HB7 := Lib.hid (HB6.out.trans (hb.mono HB6.out.size))
  clear hb
  refine hK.out _ _ ⟨(blk_cell BK7.out 0).trans rfl, (blk_cell BK7.out 1).trans rfl, (blk_cell BK7.out 2).trans rfl, (blk_cell BK7.out 3).trans rfl⟩ (fun hHeld => ?_)
  clear hK K
  refine norm_ (a' := ?_) ?_ ?_
  rotate_left
  · show Act.put _ (some 22) _ = _
    simp only [Act.put, List.setIfInBounds_toArray, List.set_cons_zero, List.set_cons_succ, i64_w, i32_w]
    rfl
  refine pure_ (i := 20) (N := some 23) (v := ?_) (a' := ?_) #[true, true, true, true, true, true, true, true, true, true, true, true, true, true, true, true, true, true, true, true, true, false] rfl rfl (by kernel_rfl) (fun _ _ _ h => h) (Or.inl ⟨by rfl, ?_⟩) ?_ ?_
  rotate_left
  · intro w'
    go_simp
    with_reducible rfl
  rotate_left
  · simp only [Act.put, List.setIfInBounds_toArray, List.set_cons_zero, List.set_cons_succ, i64_w, i32_w]
    rfl
  refine pure_ (i := 21) (N := some 2) (v := ?_) (a' := ?_) #[true, true, true, true, true, true, true, true, true, true, true, true, true, true, true, true, true, true, true, true, true, true] rfl rfl (by kernel_rfl) (fun _ _ _ h => h) (Or.inl ⟨by rfl, ?_⟩) ?_ ?_
  rotate_left
  · intro w'
    go_simp
    with_reducible rfl
  rotate_left
  · simp only [Act.put, List.setIfInBounds_toArray, List.set_cons_zero, List.set_cons_succ, i64_w, i32_w]
    rfl
  refine done_ (by kernel_rfl) ?_
  go_wp2
  go_ret
  exact ⟨rfl, HB7.out⟩
end Go.Proofs.Ytdcbacbilncnnaa.T
end
section
/- A block's header and digest: what the program comes to. -/
set_option linter.unusedVariables false
set_option linter.unusedSimpArgs false
namespace Go.Proofs.Ytdcbacbilncnnaa.T
open Go.RowKit Go.Proofs.Ytdcbacbilncnnaa.PMk Go.Proofs.Ytdcbacbilncnnaa.M Go.Proofs.Ytdcbacbilncnnaa.EncS Go.Proofs.Ytdcbacbilncnnaa.EncL Go.Proofs.YtdcbacbilncnnaaW.PrintWords Go.Proofs.YtdcbacbilncnnaaW.PrintLast
def mx (x : S47) : List UInt8 := mt x.f0 x.f1 x.f2 x.f3 x.f4 x.f5
def FitsL (l : List S47) : Prop := ∀ x ∈ l, Fits x.f3 x.f4 x.f1 x.f2 x.f5
def ms (l : List S47) : List ByteArray := l.map fun x => S (mx x)
theorem metas_ev : ∀ {l : List S47}, FitsL l → Ev (fun k => metas k l) (ms l)
  | [], _ => Ev.now _
  | x :: l, h => by
    have hx := h x (by simp)
    have hl := mt_len (op := x.f0) hx
    show Ev (fun k => (metaOf k x).bind fun m => if m.size < 1152921504606846000 then (metas k l).bind fun M => some (m :: M) else none) _
    refine Ev.bind (meta_ev x.f6 x.f7 hx) ?_
    refine Ev.congr (fun _ => if_pos (by rw [S_size]; omega)) ?_
    exact Ev.bind (metas_ev fun y hy => h y (by simp [hy])) (Ev.now _)
structure FitsB (a0 : Int) (a1 : ByteArray) (a2 : Int) (l : List S47) : Prop where
  p0 : 0 ≤ a0
  p1 : a0 < 18446744073709551616
  s : a1.size ≤ 1125899906842624
  q0 : 0 ≤ a2
  q1 : a2 < 18446744073709551616
  ls : FitsL l
  n : l.length < 1000
/-- A block's leaves. -/
def lvs (l : List S47) : List ByteArray := lv (ms l) (ms l).length
def pre (a0 : Int) (a1 : ByteArray) (a2 : Int) (n : Nat) : ByteArray := ((S (num a0) ++ S (txt a1)) ++ S (num a2)) ++ S (encU n)
def hdr (a0 : Int) (a1 : ByteArray) (a2 : Int) (l : List S47) : ByteArray := pre a0 a1 a2 l.length ++ mroot (lvs l)
theorem ms_len (l : List S47) : (ms l).length = l.length := by simp [ms]
theorem lvs_w32 (l : List S47) : W32 (lvs l) := lv_w32 _ _
theorem lvs_len (l : List S47) : (lvs l).length = l.length := by unfold lvs; rw [lv_len (Nat.le_refl _), ms_len]
theorem pre_size {a0 : Int} {a1 : ByteArray} {a2 : Int} {l : List S47} (g : FitsB a0 a1 a2 l) : (S (num a0)).size ≤ 10 ∧ (S (txt a1)).size ≤ 1125899906842634 ∧ (S (num a2)).size ≤ 10 ∧ (S (encU l.length)).size ≤ 10 := by
  have h1 := num_len a0 g.p0 g.p1
  have h2 := txt_len a1 g.s
  have h3 := num_len a2 g.q0 g.q1
  have := g.n
  have h4 := encU_len l.length (by omega)
  have := g.s
  rw [S_size, S_size, S_size, S_size]
  omega
theorem hdr_size {a0 : Int} {a1 : ByteArray} {a2 : Int} {l : List S47} (g : FitsB a0 a1 a2 l) : (hdr a0 a1 a2 l).size ≤ 1125899906842700 := by
  obtain ⟨h1, h2, h3, h4⟩ := pre_size g
  unfold hdr pre
  rw [ByteArray.size_append, ByteArray.size_append, ByteArray.size_append, ByteArray.size_append, mroot_size (lvs_w32 l)]
  omega
theorem header_any (a0 : Int) (a1 : ByteArray) (a2 : Int) (A : Option Addr) (c : Nat) (l : List S47) (g : FitsB a0 a1 a2 l) (w : World) (hC : Kd.C k47 w A l.length l) :
    Calls Try.prog 16 #[.agg #[.int .u64 a0, .string a1, .int .u64 a2, .slice A l.length c]] w fun e w' => e = .returned (.string (hdr a0 a1 a2 l)) ∧ Below w.heap.size w w' := by
  obtain ⟨k1, e1⟩ := (num_ev a0 g.p0 g.p1).rounds
  obtain ⟨k2, e2⟩ := (text_f a1 (by have := g.s; omega)).rounds
  obtain ⟨k3, e3⟩ := (num_ev a2 g.q0 g.q1).rounds
  have hn := g.n
  have hw := u64_in (l.length : Int) (by omega) (by omega)
  obtain ⟨k4, e4⟩ := (uint_f l.length (by omega)).rounds
  obtain ⟨k5, e5⟩ := (metas_ev g.ls).rounds
  obtain ⟨h1, h2, h3, h4⟩ := pre_size g
  have hz := mroot_size (lvs_w32 l)
  refine header_raw a0 a1 a2 A c l.length (lvs l) (S (num a0)) (S (txt a1)) (S (num a2)) (S (encU l.length)) (mroot (lvs l)) w (Lib.hid fun w => enc_Uint.calls k1 a0 _ w e1) (Lib.hid fun w => enc_Text.calls k2 a1 _ w e2) (Lib.hid fun w => enc_Uint.calls k3 a2 _ w e3)
    (Lib.hid fun w => ?_) (Lib.hid fun w' hb => tree_raw k5 a0 a1 a2 A c l (ms l) w' (Kd.C_below hC hb) e5 hn) (Lib.hid fun w base g vl vp hA => root_all w base g vl vp (lvs l) hA (lvs_w32 l) (by rw [lvs_len]; omega)) (by omega)
  rw [hw]
  exact enc_Uint.calls k4 (l.length : Int) _ w e4
theorem hash_raw (a0 : Int) (a1 : ByteArray) (a2 : Int) (A : Option Addr) (c n : Nat) (h d : ByteArray) (w : World)
    (H : Hid (∀ w', Below w.heap.size w w' → Calls Try.prog 16 #[.agg #[.int .u64 a0, .string a1, .int .u64 a2, .slice A n c]] w' fun e w2 => e = .returned (.string h) ∧ Below w'.heap.size w' w2))
    (HD : Hid (∀ w, Calls Try.prog 44 #[.string ((⟨#[2]⟩ : ByteArray) ++ h)] w fun e w' => e = .returned (.string d) ∧ Below w.heap.size w w')) (hs : 1 + h.size ≤ 9223372036854775807) :
    Calls Try.prog 14 #[.agg #[.int .u64 a0, .string a1, .int .u64 a2, .slice A n c]] w fun e w' => e = .returned (.string d) ∧ Below w.heap.size w w' := by
  have s1 : (9223372036854775807 < 1 + h.size) = False := eq_false (by omega)
  have HB := Lib.hid ((Below.refl w.heap.size w).alloc (Nat.le_refl _) (.cells #[.int .u64 a0, .string a1, .int .u64 a2, .slice A n c] 25))
  go_enter Try.func14, Try.ntmps14
  go_wp2_with (first
    | (go_at_call 16; refine (H.out _ HB.out).mono ?_; rintro e w1 ⟨rfl, hb⟩; have HB1 := Lib.hid (HB.out.trans (hb.mono HB.out.size)); clear hb)
    | (go_at_call 44; refine (HD.out _).mono ?_; rintro e w2 ⟨rfl, hb⟩; have HB2 := Lib.hid (HB1.out.trans (hb.mono HB1.out.size)); clear hb))
  go_ret
  exact ⟨rfl, HB2.out⟩
/-- A block's digest. -/
def bhash (a0 : Int) (a1 : ByteArray) (a2 : Int) (l : List S47) : ByteArray := Dig.dig ((⟨#[2]⟩ : ByteArray) ++ hdr a0 a1 a2 l)
theorem two_size (h : ByteArray) : ((⟨#[2]⟩ : ByteArray) ++ h).size = 1 + h.size := by rw [ByteArray.size_append]; rfl
theorem sum_f (s : ByteArray) (h : s.size < 1152921504606846970) : Dig.hash_Sum.f s = some (Dig.dig s) := by
  unfold Dig.hash_Sum.f
  rw [if_pos (by omega)]
theorem hash_any (a0 : Int) (a1 : ByteArray) (a2 : Int) (A : Option Addr) (c : Nat) (l : List S47) (g : FitsB a0 a1 a2 l) (w : World) (hC : Kd.C k47 w A l.length l) :
    Calls Try.prog 14 #[.agg #[.int .u64 a0, .string a1, .int .u64 a2, .slice A l.length c]] w fun e w' => e = .returned (.string (bhash a0 a1 a2 l)) ∧ Below w.heap.size w w' := by
  have hs := hdr_size g
  exact hash_raw a0 a1 a2 A c l.length (hdr a0 a1 a2 l) _ w (Lib.hid fun w' hb => header_any a0 a1 a2 A c l g w' (Kd.C_below hC hb)) (Lib.hid fun w => Dig.hash_Sum.calls _ _ w (sum_f _ (by rw [two_size]; omega))) (by omega)
end Go.Proofs.Ytdcbacbilncnnaa.T
end
section
/- The blocks of the laws' chain: plain, and how they lie while they are made. -/
set_option linter.unusedVariables false
set_option linter.unusedSimpArgs false
namespace Go.Proofs.Ytdcbacbilncnnaa.T
open Go.RowKit Go.Proofs.Ytdcbacbilncnnaa.PMk Go.Proofs.Ytdcbacbilncnnaa.M Go.Proofs.Ytdcbacbilncnnaa.EncL Go.Proofs.YtdcbacbilncnnaaW.PrintWords Go.Proofs.YtdcbacbilncnnaaW.PrintLast
/-- A block. -/
structure S25 where
  f0 : Int
  f1 : ByteArray
  f2 : Int
  f3 : List S47
def k25 : Kd S25 := Kd.iso (Kd.pair (Kd.int .u64) (Kd.pair Kd.string (Kd.pair (Kd.int .u64) (Kd.slice 47 k47)))) (fun x : S25 => (x.f0, x.f1, x.f2, x.f3))
theorem k25_open {w : World} {x : S25} {cs : List Value} (h : k25.K w x cs) : ∃ A c, cs = [.int .u64 x.f0, .string x.f1, .int .u64 x.f2, .slice A x.f3.length c] ∧ x.f3.length ≤ c ∧ Kd.C k47 w A x.f3.length x.f3 := by
  obtain ⟨_, _, rfl, rfl, _, _, rfl, rfl, _, _, rfl, rfl, A, c, rfl, h1, h2⟩ := h
  exact ⟨A, c, rfl, h1, h2⟩
theorem k25_mkM {w : World} {base : Nat} {ok : Nat → Prop} {q x : Int} {p : ByteArray} {v : Value} {l : List S47} (h : Kd.R k47 47 w base ok v l) : k25.M w base ok ⟨q, p, x, l⟩ [.int .u64 q, .string p, .int .u64 x, v] :=
  ⟨[.int .u64 q], _, rfl, rfl, [.string p], _, rfl, rfl, [.int .u64 x], [v], rfl, rfl, v, rfl, h⟩
theorem info25 : (Try.prog.info? 25).map (fun i => (i.zero, i.size, i.bytes)) = some (some (.agg #[(.int .u64 0), (.string ⟨#[]⟩), (.int .u64 0), (.slice none 0 0)]), 4, 56) := by kernel_rfl
def z25 : S25 := ⟨0, ⟨#[]⟩, 0, []⟩
/-! The laws' blocks. -/
def rvb (n i : Nat) : ByteArray := strOfNums [(n : Int) % 256, (i : Int) % 256]
def rvC (n i : Nat) : S47 := ⟨3, ⟨#[116]⟩, ⟨#[]⟩, (n : Int) + 1, 0, leaf (rvb n i), rvb n i, false⟩
def rvs (n i m : Nat) : List S47 := (List.range m).map fun k => rvC (n + k) i
theorem rvs_len (n i m : Nat) : (rvs n i m).length = m := by simp [rvs]
theorem rvs_snoc (n i m : Nat) : rvs n i m ++ [rvC (n + m) i] = rvs n i (m + 1) := by simp [rvs, List.range_succ]
theorem rvb_size (n i : Nat) : (rvb n i).size = 2 := rfl
def cnt (z : Int) : Nat := (z % 8).toNat + 1
theorem cnt_le (z : Int) : cnt z ≤ 8 := by unfold cnt; omega
def hsh (b : S25) : ByteArray := bhash b.f0 b.f1 b.f2 b.f3
def blkC (i n : Nat) (p : ByteArray) (z : Int) : S25 := ⟨i, p, (i : Int) + 7, rvs n i (cnt z)⟩
/-- How many revisions there are ahead of a block, and the digest of the block ahead. -/
def stC (zs : List Int) : Nat → Nat × ByteArray
  | 0 => (0, ⟨#[]⟩)
  | i + 1 => ((stC zs i).1 + cnt (zs.getD i 0), hsh (blkC i (stC zs i).1 (stC zs i).2 (zs.getD i 0)))
def bkC (zs : List Int) (i : Nat) : S25 := blkC i (stC zs i).1 (stC zs i).2 (zs.getD i 0)
def bks (zs : List Int) (t : Nat) : List S25 := (List.range t).map (bkC zs)
theorem bks_len (zs : List Int) (t : Nat) : (bks zs t).length = t := by simp [bks]
theorem bks_snoc (zs : List Int) (t : Nat) : bks zs t ++ [bkC zs t] = bks zs (t + 1) := by simp [bks, List.range_succ]
theorem bks_at (zs : List Int) {t i : Nat} (h : i < t) : (bks zs t).getD i z25 = bkC zs i := by
  rw [List.getD_eq_getElem?_getD]
  simp [bks, h]
def lf (b : S25) : ByteArray := leaf (hsh b)
theorem stC_n (zs : List Int) (i : Nat) : (stC zs i).1 ≤ 8 * i := by
  induction i with
  | zero => simp [stC]
  | succ i ih =>
    have := cnt_le (zs.getD i 0)
    simp only [stC]
    omega
theorem hsh_size (b : S25) : (hsh b).size = 32 := Dig.dig_size _
theorem stC_p (zs : List Int) (i : Nat) : (stC zs i).2.size ≤ 32 := by
  cases i with
  | zero => simp [stC]; decide
  | succ i => simp only [stC]; rw [hsh_size]; omega
theorem rvC_fits (n i : Nat) (hn : n < 1000) : Fits (rvC n i).f3 (rvC n i).f4 (rvC n i).f1 (rvC n i).f2 (rvC n i).f5 :=
  ⟨by show 0 ≤ (n : Int) + 1; omega, by show (n : Int) + 1 < _; omega, by show (0 : Int) ≤ 0; decide, by show (0 : Int) < _; decide, by show (⟨#[116]⟩ : ByteArray).size ≤ _; decide, by show (⟨#[]⟩ : ByteArray).size ≤ _; decide, by show (leaf _).size ≤ _; rw [leaf_size]; decide⟩
theorem rvs_fits (n i m : Nat) (hn : n + m ≤ 1000) : FitsL (rvs n i m) := by
  intro x hx
  obtain ⟨k, hk, rfl⟩ := List.mem_map.1 hx
  have := List.mem_range.1 hk
  exact rvC_fits _ _ (by omega)
theorem blk_fits (i n m : Nat) (p : ByteArray) (hi : i < 1000) (hn : n + m ≤ 999) (hp : p.size ≤ 32) : FitsB (i : Int) p ((i : Int) + 7) (rvs n i m) :=
  ⟨by omega, by omega, by omega, by omega, by omega, rvs_fits n i m (by omega), by rw [rvs_len]; omega⟩
theorem bkC_fits (zs : List Int) (i : Nat) (hi : i < 100) : FitsB (bkC zs i).f0 (bkC zs i).f1 (bkC zs i).f2 (bkC zs i).f3 := by
  have h1 := stC_n zs i
  have h2 := cnt_le (zs.getD i 0)
  exact blk_fits i _ _ _ (by omega) (by omega) (stC_p zs i)
theorem lf_w32 (l : List S25) : W32 (l.map lf) := by
  intro x hx
  obtain ⟨b, _, rfl⟩ := List.mem_map.1 hx
  exact leaf_size _
theorem and7 (n : Int) : Go.bits .and .i64 n 7 = n % 8 := by
  have h127 : (BitVec.ofInt 64 7).toNat = 2 ^ 3 - 1 := by decide
  have key : (BitVec.ofInt 64 n &&& BitVec.ofInt 64 7).toNat = (n % ((2 ^ 64 : Nat) : Int)).toNat % 2 ^ 3 := by
    rw [BitVec.toNat_and, BitVec.toNat_ofInt, h127, Nat.and_two_pow_sub_one_eq_mod]
  show IntKind.i64.wrap ((BitVec.ofInt 64 n &&& BitVec.ofInt 64 7).toNat : Nat) = n % 8
  rw [key, IntKind.wrap_i64]
  omega
theorem rev_f (n i : Nat) (hn : n < 1000) : parchmentlaw22_rev.f (n : Int) (rvb n i) = some ((rvC n i).f0, (rvC n i).f1, (rvC n i).f2, (rvC n i).f3, (rvC n i).f4, (rvC n i).f5, (rvC n i).f6, (rvC n i).f7) := by
  have h1 : IntKind.u64.wrap ((n : Int) + 1) = (n : Int) + 1 := by rw [IntKind.wrap_u64]; omega
  unfold parchmentlaw22_rev.f block_Sealed.f block_bodied.f
  rw [h1, leaf_f _ (by rw [rvb_size]; decide)]
  rfl
theorem rev_any (n i : Nat) (hn : n < 1000) (w : World) : Calls Try.prog 29 #[.int .u64 (n : Int), .string (rvb n i)] w fun e w' =>
    e = .returned (.agg #[.int .i64 (rvC n i).f0, .string (rvC n i).f1, .string (rvC n i).f2, .int .u64 (rvC n i).f3, .int .u64 (rvC n i).f4, .string (rvC n i).f5, .string (rvC n i).f6, .bool (rvC n i).f7]) ∧ Below w.heap.size w w' :=
  parchmentlaw22_rev.calls _ _ _ _ _ _ _ _ _ _ w (rev_f n i hn)
/-! How they lie. -/
/-- A tree whose blocks are as they were. -/
theorem At.move {w w1 : World} {base g : Nat} {vl vp : Value} {L P : List ByteArray} (h : At w base g vl vp L P) (hm : ∀ (k : Nat) (cells : Array Value) (q : TypeId), w.heap[k]? = some (.cells cells q (0, 0)) → q = 121 ∨ q = 9 → w1.heap[k]? = w.heap[k]?) : At w1 base g vl vp L P :=
  ⟨(hm g _ _ h.blk (.inl rfl)).trans h.blk, h.lo, own_move h.rl (fun k hk => by obtain ⟨c, hc⟩ := own_typed h.rl k hk; exact hm k _ _ hc (.inr rfl)),
   own_move h.rp (fun k hk => by obtain ⟨c, hc⟩ := own_typed h.rp k hk; exact hm k _ _ hc (.inr rfl)), h.ap⟩
theorem typ_ne {w : World} {k g : Nat} {cells cells' : Array Value} {q q' : TypeId} (h : w.heap[k]? = some (.cells cells q (0, 0))) (h' : w.heap[g]? = some (.cells cells' q' (0, 0))) (n : q ≠ q') : k ≠ g := by
  rintro rfl
  rw [h] at h'
  injection h' with h'
  injection h' with _ h'
  exact n h'
theorem R_typ {α : Type} {d : Kd α} {e : Nat} {w : World} {base : Nat} {ok : Nat → Prop} {v : Value} {xs : List α} (h : d.R e w base ok v xs) (k : Nat) (hk : v.ownBlock = some k) : ∃ cells, w.heap[k]? = some (.cells cells e (0, 0)) := by
  obtain ⟨_, inner, ho, _⟩ := h
  exact own_typed ho k hk
/-- Rows of one kind move where what is of their types stays. -/
theorem R_stay {α : Type} {d : Kd α} {e : Nat} {w w1 : World} {base : Nat} {ok : Nat → Prop} {v : Value} {xs : List α} (h : d.R e w base ok v xs)
    (hm : ∀ (k : Nat) (cells : Array Value) (q : Nat), ok k → base ≤ k → w.heap[k]? = some (.cells cells q (0, 0)) → q ∈ e :: d.E → w1.heap[k]? = w.heap[k]?) : d.R e w1 base ok v xs :=
  Kd.R_mono (Kd.R_move (Kd.R_bound h) (fun k hk => by obtain ⟨h1, h2, _, q, hq, cells, hc⟩ := hk; exact hm k cells q h1 h2 hc hq)) (fun _ hk => hk.1)
structure CH (w wr : World) (g : Nat) (vl vp vb : Value) (BL : List S25) : Prop where
  t : At wr w.heap.size g vl vp (BL.map lf) (pk (BL.map lf))
  r : Kd.R k25 25 wr w.heap.size (fun _ => True) vb BL
  b : Below w.heap.size w wr
/-- A block is being made in the variable gb. -/
structure CI (w wr : World) (g gb : Nat) (vl vp vb vr : Value) (BL : List S25) (L : List ByteArray) (q : Int) (p : ByteArray) (x : Int) (l : List S47) : Prop where
  t : At wr w.heap.size g vl vp L (pk L)
  r : Kd.R k25 25 wr w.heap.size (fun k => k ≠ gb ∧ some k ≠ vr.ownBlock) vb BL
  c : wr.heap[gb]? = some (.cells #[.int .u64 q, .string p, .int .u64 x, vr] 25 (0, 0))
  rr : Kd.R k47 47 wr w.heap.size (fun _ => True) vr l
  ge : w.heap.size ≤ gb
  b : Below w.heap.size w wr
section
variable {w wr w1 : World} {g gb : Nat} {vl vp vb vr : Value} {BL : List S25} {L : List ByteArray} {q x : Int} {p : ByteArray} {l : List S47}
theorem CH.below (h : CH w wr g vl vp vb BL) (hb : Below wr.heap.size wr w1) : CH w w1 g vl vp vb BL := ⟨h.t.below hb, Kd.R_below h.r hb, h.b.trans (hb.mono h.b.size)⟩
theorem CH.new (h : CH w wr g vl vp vb BL) (q : Int) (p : ByteArray) (x : Int) : CI w (wr.alloc (.cells #[.int .u64 q, .string p, .int .u64 x, .slice none 0 0] 25 (0, 0))) g wr.heap.size vl vp vb (.slice none 0 0) BL (BL.map lf) q p x [] :=
  ⟨h.t.below ((Below.refl _ _).alloc (Nat.le_refl _) _), Kd.R_alloc (Kd.R_mono (Kd.R_bound h.r) (fun k hk => ⟨by have := hk.2.2.1; omega, by simp [Value.ownBlock]⟩)) _, heap_alloc_new wr _, Kd.R_nil _ _ _ _ _, h.b.size, h.b.alloc h.b.size _⟩
theorem CI.below (h : CI w wr g gb vl vp vb vr BL L q p x l) (hb : Below wr.heap.size wr w1) : CI w w1 g gb vl vp vb vr BL L q p x l :=
  ⟨h.t.below hb, Kd.R_below h.r hb, blk_below h.c hb, Kd.R_below h.rr hb, h.ge, h.b.trans (hb.mono h.b.size)⟩
theorem CI.drew (h : CI w wr g gb vl vp vb vr BL L q p x l) : CI w wr.drew g gb vl vp vb vr BL L q p x l := h.below (below_drew (Below.refl _ _))
/-- Behind an append to the revisions' row, and the store of what it gave. -/
theorem CI.app {vr1 : Value} {l1 : List S47} (h : CI w wr g gb vl vp vb vr BL L q p x l) (hr : Kd.R k47 47 w1 w.heap.size (fun _ => True) vr1 l1) (hb : Below w.heap.size w w1) (hg : wr.grownBy w1 vr.ownBlock)
    (hat : vr1.ownBlock = vr.ownBlock ∨ ∃ b, vr1.ownBlock = some b ∧ wr.heap.size ≤ b) :
    (w1.heap[gb]? = some (.cells #[.int .u64 q, .string p, .int .u64 x, vr] 25 (0, 0))) ∧ CI w (w1.setCell ⟨gb, 3, none⟩ vr1) g gb vl vp vb vr1 BL L q p x l1 := by
  have hne : ∀ (k : Nat) (cells : Array Value) (t : TypeId), wr.heap[k]? = some (.cells cells t (0, 0)) → t ≠ 47 → some k ≠ vr.ownBlock := by
    intro k cells t hk ht he
    obtain ⟨c', hc'⟩ := R_typ h.rr k he.symm
    exact typ_ne hk hc' ht rfl
  have hc1 : w1.heap[gb]? = some (.cells #[.int .u64 q, .string p, .int .u64 x, vr] 25 (0, 0)) := blk_grown h.c hg (hne _ _ _ h.c (by decide))
  refine ⟨hc1, ?_, ?_, blk_put hc1 3 vr1 rfl, Kd.R_set hr hc1 (by decide) 3 vr1, h.ge, hb.setCell h.ge _⟩
  · refine h.t.move (fun k cells t hk ht => ?_)
    have h1 : some k ≠ vr.ownBlock := hne k cells t hk (by rcases ht with rfl | rfl <;> decide)
    have h2 : k ≠ gb := typ_ne hk h.c (by rcases ht with rfl | rfl <;> decide)
    exact (Below.heap_setCell w1 ⟨gb, 3, none⟩ vr1 k h2).trans (hg.block k (blk_lt hk) h1)
  · have h1 := Kd.R_move (w1 := w1.setCell ⟨gb, 3, none⟩ vr1) (Kd.R_bound h.r) (fun k hk => (Below.heap_setCell w1 ⟨gb, 3, none⟩ vr1 k hk.1.1).trans (hg.block k hk.2.2.1 hk.1.2))
    refine Kd.R_mono h1 (fun k hk => ⟨hk.1.1, ?_⟩)
    rcases hat with e | ⟨b, e, hle⟩
    · rw [e]; exact hk.1.2
    · rw [e]
      intro e2
      have := hk.2.2.1
      injection e2 with e2
      omega
/-- Behind an act on the tree. -/
theorem CI.step {vl1 vp1 : Value} {L1 : List ByteArray} (h : CI w wr g gb vl vp vb vr BL L q p x l) (ht : At w1 w.heap.size g vl1 vp1 L1 (pk L1)) (hs : Step wr w1 g vl vp vl1 vp1) : CI w w1 g gb vl1 vp1 vb vr BL L1 q p x l := by
  have hm : ∀ (k : Nat) (cells : Array Value) (t : TypeId), wr.heap[k]? = some (.cells cells t (0, 0)) → t = 25 ∨ t = 47 → w1.heap[k]? = wr.heap[k]? := by
    intro k cells t hk ht
    refine hs.block k (blk_lt hk) (typ_ne hk h.t.blk (by rcases ht with rfl | rfl <;> decide)) (fun e => ?_) (fun e => ?_)
    · obtain ⟨c', hc'⟩ := own_typed h.t.rl k e
      exact typ_ne hk hc' (by rcases ht with rfl | rfl <;> decide) rfl
    · obtain ⟨c', hc'⟩ := own_typed h.t.rp k e
      exact typ_ne hk hc' (by rcases ht with rfl | rfl <;> decide) rfl
  refine ⟨ht, R_stay h.r (fun k cells t _ _ hk hq => hm k cells t hk ?_), (hm _ _ _ h.c (.inl rfl)).trans h.c, R_stay h.rr (fun k cells t _ _ hk hq => hm k cells t hk ?_), h.ge, h.b.trans (hs.to_below h.t)⟩
  · simpa [k25, Kd.iso, Kd.pair, Kd.int, Kd.string, Kd.bool, Kd.scalar, Kd.slice, k47] using hq
  · exact .inr (by simpa [k25, Kd.iso, Kd.pair, Kd.int, Kd.string, Kd.bool, Kd.scalar, Kd.slice, k47] using hq)
/-- The block's revisions are no row of the blocks'. -/
theorem CI.apart (h : CI w wr g gb vl vp vb vr BL L q p x l) : Kd.R k47 47 wr w.heap.size (fun k => some k ≠ vb.ownBlock) vr l := by
  refine Kd.R_mono (Kd.R_bound h.rr) (fun k hk he => ?_)
  obtain ⟨_, _, _, t, hq, cells, hc⟩ := hk
  obtain ⟨c', hc'⟩ := R_typ h.r k he.symm
  have : t = 47 := by simpa [k47, Kd.iso, Kd.pair, Kd.int, Kd.string, Kd.bool, Kd.scalar, Kd.slice] using hq
  exact typ_ne hc hc' (by rw [this]; decide) rfl
/-- Behind an append to the blocks' row. -/
theorem CI.put {vb1 : Value} {BL1 : List S25} (h : CI w wr g gb vl vp vb vr BL (BL1.map lf) q p x l) (hr : Kd.R k25 25 w1 w.heap.size (fun _ => True) vb1 BL1) (hb : Below w.heap.size w w1) (hg : wr.grownBy w1 vb.ownBlock) : CH w w1 g vl vp vb1 BL1 := by
  refine ⟨h.t.move (fun k cells t hk ht => hg.block k (blk_lt hk) (fun e => ?_)), hr, hb⟩
  obtain ⟨c', hc'⟩ := R_typ h.r k e.symm
  exact typ_ne hk hc' (by rcases ht with rfl | rfl <;> decide) rfl
end
end Go.Proofs.Ytdcbacbilncnnaa.T
end
section
/- Ways up of a proof: what the program climbs is what the law says. -/
set_option linter.unusedVariables false
set_option linter.unusedSimpArgs false
namespace Go.Proofs.Ytdcbacbilncnnaa.M
open Go.RowKit Go.Proofs.Ytdcbacbilncnnaa.PMk Go.Proofs.YtdcbacbilncnnaaW.PrintWords Go.Proofs.YtdcbacbilncnnaaW.PrintLast
theorem pow_two_cases (j n : Nat) (h1 : 2 ^ j < n) (hn : n ≤ 2147483648) : wrap64 (2 * ((2 ^ j : Nat) : Int)) = ((2 ^ (j + 1) : Nat) : Int) ∧ wrap64 (((2 ^ j : Nat) : Int) * 2) = ((2 ^ (j + 1) : Nat) : Int) ∧ wrap64 (((2 ^ j : Nat) : Int) + ((2 ^ j : Nat) : Int)) = ((2 ^ (j + 1) : Nat) : Int) := by
  rw [Nat.pow_succ]
  generalize 2 ^ j = x at h1
  unfold wrap64
  omega
theorem pclimb_l0 (h : ByteArray) (m n : Nat) (hn : n ≤ 2147483648) (l : List ByteArray) (i : Int) (res : ByteArray × List ByteArray × Bool) (H : Ev (fun k => proof_climb.l0 k h (m : Int) (n : Int) l i (sp n : Int)) res) :
    ∀ (d j : Nat), 2 ^ j < n → n ≤ 2 ^ j + d → Ev (fun k => proof_climb.l0 k h (m : Int) (n : Int) l i ((2 ^ j : Nat) : Int)) res
  | 0, j, h1, h2 => by omega
  | d + 1, j, h1, h2 => by
    obtain ⟨e, e', _⟩ := pow_two_cases j n h1 hn
    have hp := Nat.one_le_two_pow (n := j)
    by_cases hh : 2 ^ (j + 1) < n
    · refine Ev.step (fun k => ?_) (pclimb_l0 h m n hn l i res H d (j + 1) hh (by rw [Nat.pow_succ] at hh ⊢; omega))
      rw [proof_climb.l0, e, if_pos (by omega), e']
    · have := sp_eq h1 (by omega)
      rw [this] at H
      exact H
theorem pclimb_ev : ∀ (n m : Nat) (h : ByteArray) (l : List ByteArray), h.size = 32 → 1 ≤ n → n ≤ 2147483648 → m < n → l.length < 2147483648 →
    ∃ r t b, Ev (fun k => proof_climb.f k h (m : Int) (n : Int) l) (r, t, b) ∧ r.size ≤ 32 ∧ t.length ≤ l.length ∧ (b = true ↔ l.length = (turns m n).length ∧ W32 l) ∧ (b = true → r = up (turns m n).reverse l h) := by
  intro n
  induction n using Nat.strongRecOn with
  | _ n ih =>
  intro m h l hh h1 h2 hm hl
  by_cases hn : n = 1
  · subst hn
    refine ⟨h, [], _, Ev.step (f := fun _ => some (h, [], ((l.length : Int) == 0))) (fun k => by rw [proof_climb.f, if_pos (by rfl)]) (Ev.now _), by omega, by simp, ?_, fun _ => ?_⟩
    · rw [turns_one _ _ (by omega)]
      cases l with
      | nil => simp [W32]
      | cons a t => simp; omega
    · rw [turns_one _ _ (by omega)]
      cases l <;> rfl
  · have hn2 : 2 ≤ n := by omega
    have hlt := sp_lt hn2
    have hle := le_sp hn2
    have hpos := sp_pos n
    have hne : (turns m n).length ≠ 0 := by
      by_cases hs : m < sp n
      · rw [turns_lt hn2 hs]; simp
      · rw [turns_ge hn2 hs]; simp
    have hj0 : ∀ i : Int, Ev (fun k => proof_climb.j0 k h (m : Int) (n : Int) l i true) ((⟨#[]⟩ : ByteArray), [], false) := fun i =>
      Ev.step (f := fun _ => some ((⟨#[]⟩ : ByteArray), [], false)) (fun k => by rw [proof_climb.j0, if_pos rfl]) (Ev.now _)
    rcases List.eq_nil_or_concat l with rfl | ⟨init, last, rfl⟩
    · have e : wrap64 ((([] : List ByteArray).length : Int) - 1) = -1 := by rw [w64n] <;> simp
      refine ⟨_, _, _, Ev.step (fun k => by rw [proof_climb.f, if_neg (by omega), e, if_pos (by omega)]) (hj0 _), by decide, by simp, ⟨fun h => by simp at h, fun h => absurd h.1.symm (by simpa using hne)⟩, fun h => by simp at h⟩
    · rw [List.concat_eq_append] at *
      have hil : init.length < 2147483648 := by simp at hl; omega
      obtain ⟨e1, e2, e3, e4⟩ := last_of init last hil
      by_cases hs : last.size = 32
      · have hbody : ∀ res, Ev (fun k => proof_climb.l0 k h (m : Int) (n : Int) (init ++ [last]) (init.length : Int) (sp n : Int)) res → Ev (fun k => proof_climb.f k h (m : Int) (n : Int) (init ++ [last])) res := by
          intro res H
          have H1 := pclimb_l0 h m n h2 (init ++ [last]) (init.length : Int) res H n 0 (by simp; omega) (by simp)
          refine Ev.step (fun k => by rw [proof_climb.f, if_neg (by omega), e1, if_neg (by omega), if_pos (by omega), if_pos e4, e2]) (Ev.step (f := fun k => proof_climb.l0 k h (m : Int) (n : Int) (init ++ [last]) (init.length : Int) 1) (fun k => ?_) H1)
          rw [proof_climb.j0, if_neg (by simp [hs])]
        have ew : wrap64 (2 * (sp n : Int)) = 2 * (sp n : Int) := w64n _ (by omega) (by omega)
        by_cases hmk : m < sp n
        · obtain ⟨r, t, b, hf, hr, ht, hb, hu⟩ := ih (sp n) hlt m h init hh hpos (by omega) hmk hil
          obtain ⟨q1, q2⟩ := node_len r last
          refine ⟨node r last, t ++ [((⟨#[1]⟩ : ByteArray) ++ r) ++ last], b, hbody _ (Ev.step (fun k => by rw [proof_climb.l0, ew, if_neg (by omega), if_pos (by omega), if_pos (by omega), if_pos (by omega), e3]) (Ev.bind hf ?_)), by rw [node_size]; omega, by simp; omega, ?_, fun h' => ?_⟩
          · simp only []
            rw [if_pos e4, e2]
            rw [node_f r last hr (by omega), Option.bind_some, if_pos (by omega), if_pos (by omega), Option.bind_some, if_pos (by simp; omega)]
            exact Ev.now _
          · rw [turns_lt hn2 hmk, hb]
            simp only [List.length_append, List.length_cons, List.length_nil, W32.app, W32.one, hs, and_true]
            constructor <;> rintro ⟨a1, a2⟩ <;> exact ⟨by omega, a2⟩
          · rw [turns_lt hn2 hmk, List.reverse_cons, up_snoc _ _ _ _ _ (by rw [List.length_reverse]; exact (hb.1 h').1.symm), ← hu h']
            rfl
        · obtain ⟨r, t, b, hf, hr, ht, hb, hu⟩ := ih (n - sp n) (by omega) (m - sp n) h init hh (by omega) (by omega) (by omega) hil
          have e5 : wrap64 ((m : Int) - (sp n : Int)) = ((m - sp n : Nat) : Int) := by rw [w64n _ (by omega) (by omega)]; omega
          have e6 : wrap64 ((n : Int) - (sp n : Int)) = ((n - sp n : Nat) : Int) := by rw [w64n _ (by omega) (by omega)]; omega
          obtain ⟨q1, q2⟩ := node_len last r
          refine ⟨node last r, t ++ [((⟨#[1]⟩ : ByteArray) ++ last) ++ r], b, hbody _ (Ev.step (fun k => by rw [proof_climb.l0, ew, if_neg (by omega), if_neg (by omega), if_pos (by omega), if_pos (by omega), e3, e5, e6]) (Ev.bind hf ?_)), by rw [node_size]; omega, by simp; omega, ?_, fun h' => ?_⟩
          · simp only []
            rw [if_pos e4, e2]
            rw [node_f last r (by omega) hr, Option.bind_some, if_pos (by omega), if_pos (by omega), Option.bind_some, if_pos (by simp; omega)]
            exact Ev.now _
          · rw [turns_ge hn2 hmk, hb]
            simp only [List.length_append, List.length_cons, List.length_nil, W32.app, W32.one, hs, and_true]
            constructor <;> rintro ⟨a1, a2⟩ <;> exact ⟨by omega, a2⟩
          · rw [turns_ge hn2 hmk, List.reverse_cons, up_snoc _ _ _ _ _ (by rw [List.length_reverse]; exact (hb.1 h').1.symm), ← hu h']
            rfl
      · refine ⟨_, _, _, Ev.step (f := fun k => proof_climb.j0 k h (m : Int) (n : Int) (init ++ [last]) (init.length : Int) true) (fun k => by rw [proof_climb.f, if_neg (by omega), e1, if_neg (by omega), if_pos (by omega), if_pos e4, e2, show ((last.size : Int) != 32) = true from by simpa using fun e => hs (by omega)]) (hj0 _), by decide, by simp, ⟨fun h => by simp at h, fun h => absurd (W32.one.1 (W32.app.1 h.2).2) hs⟩, fun h => by simp at h⟩
/-! The law's. -/
theorem lclimb_l2 (l : List ByteArray) (acc : List Bool) (hla : acc.length = l.length) (hl : l.length < 2147483648) : ∀ (d i : Nat) (h : ByteArray), h.size ≤ 32 → i + d = l.length →
    ∃ r b, Ev (fun k => parchmentlaw22_climb.l2 k h l acc (i : Int)) (r, b) ∧ (b = true ↔ W32 (l.drop i)) ∧ (b = true → r = up (acc.reverse.drop i) (l.drop i) h) ∧ r.size ≤ 32 := by
  intro d
  induction d with
  | zero =>
    intro i h hh hi
    have e1 : l.drop i = [] := List.drop_eq_nil_of_le (by omega)
    have e2 : acc.reverse.drop i = [] := List.drop_eq_nil_of_le (by simp; omega)
    rw [e1, e2]
    exact ⟨h, true, Ev.step (f := fun _ => some (h, true)) (fun k => by rw [parchmentlaw22_climb.l2, if_neg (by omega)]) (Ev.now _), by simp [W32], fun _ => rfl, hh⟩
  | succ d ih =>
    intro i h hh hi
    have hil : i < l.length := by omega
    have hia : i < acc.reverse.length := by simp; omega
    have e1 : l.drop i = l[i] :: l.drop (i + 1) := List.drop_eq_getElem_cons hil
    have e2 : acc.reverse.drop i = acc.reverse[i] :: acc.reverse.drop (i + 1) := List.drop_eq_getElem_cons hia
    have e3 : rdOf ByteArray.empty l (i : Int) = l[i] := by simp [rdOf, hil]
    have e4 : wrap64 (wrap64 ((acc.length : Int) - 1) - (i : Int)) = ((acc.length - 1 - i : Nat) : Int) := by
      rw [w64n ((acc.length : Int) - 1) (by omega) (by omega), w64n _ (by omega) (by omega)]; omega
    have e5 : rdOf false acc ((acc.length - 1 - i : Nat) : Int) = acc.reverse[i] := by
      have : acc.length - 1 - i < acc.length := by omega
      simp [rdOf, this, List.getElem_reverse]
    have e6 : wrap64 ((i : Int) + 1) = ((i + 1 : Nat) : Int) := by rw [w64n _ (by omega) (by omega)]; omega
    by_cases hs : l[i].size = 32
    · have hw : W32 (l.drop i) ↔ W32 (l.drop (i + 1)) := by rw [e1, W32.cons]; exact ⟨fun h => h.2, fun h => ⟨hs, h⟩⟩
      have hup : up (acc.reverse.drop i) (l.drop i) h = up (acc.reverse.drop (i + 1)) (l.drop (i + 1)) (step acc.reverse[i] l[i] h) := by rw [e1, e2]; rfl
      rw [hw, hup]
      by_cases ht : acc.reverse[i] = true
      · obtain ⟨r, b, hf, hb⟩ := ih (i + 1) (step acc.reverse[i] l[i] h) (by rw [step_size]; omega) (by omega)
        refine ⟨r, b, Ev.step (fun k => ?_) hf, hb⟩
        rw [parchmentlaw22_climb.l2, if_pos (by omega), if_pos (by omega), e3, if_pos (by omega), e4, if_pos (by omega), if_pos (by omega), e5, e6, if_pos ht, rnode_f _ _ (by omega) hh, Option.bind_some, ht]
        rfl
      · obtain ⟨r, b, hf, hb⟩ := ih (i + 1) (step acc.reverse[i] l[i] h) (by rw [step_size]; omega) (by omega)
        refine ⟨r, b, Ev.step (fun k => ?_) hf, hb⟩
        rw [parchmentlaw22_climb.l2, if_pos (by omega), if_pos (by omega), e3, if_pos (by omega), e4, if_pos (by omega), if_pos (by omega), e5, e6, if_neg ht, rnode_f _ _ hh (by omega), Option.bind_some, Bool.eq_false_iff.2 ht]
        rfl
    · refine ⟨_, false, Ev.step (f := fun _ => some ((⟨#[]⟩ : ByteArray), false)) (fun k => by rw [parchmentlaw22_climb.l2, if_pos (by omega), if_pos (by omega), e3, if_neg (by omega)]) (Ev.now _), ⟨fun h => by simp at h, fun h' => absurd (by rw [e1] at h'; exact (W32.cons.1 h').1) hs⟩, fun h => by simp at h, by decide⟩
theorem lclimb_l1 (h : ByteArray) (m n : Nat) (hn : n ≤ 2147483648) (l : List ByteArray) (acc : List Bool) (res : ByteArray × Bool) (H : Ev (fun k => parchmentlaw22_climb.l1 k h (m : Int) (n : Int) l acc (sp n : Int)) res) :
    ∀ (d j : Nat), 2 ^ j < n → n ≤ 2 ^ j + d → Ev (fun k => parchmentlaw22_climb.l1 k h (m : Int) (n : Int) l acc ((2 ^ j : Nat) : Int)) res
  | 0, j, h1, h2 => by omega
  | d + 1, j, h1, h2 => by
    obtain ⟨_, _, e⟩ := pow_two_cases j n h1 hn
    have hp := Nat.one_le_two_pow (n := j)
    by_cases hh : 2 ^ (j + 1) < n
    · refine Ev.step (fun k => ?_) (lclimb_l1 h m n hn l acc res H d (j + 1) hh (by rw [Nat.pow_succ] at hh ⊢; omega))
      rw [parchmentlaw22_climb.l1, e, if_pos (by omega)]
    · have := sp_eq h1 (by omega)
      rw [this] at H
      exact H
theorem lclimb_l0 (h : ByteArray) (l : List ByteArray) (hh : h.size ≤ 32) (hl : l.length < 2147483648) : ∀ (n m : Nat) (acc : List Bool), 1 ≤ n → n ≤ 2147483648 → m < n → acc.length + n ≤ 4294967296 →
    ∃ r b, Ev (fun k => parchmentlaw22_climb.l0 k h (m : Int) (n : Int) l acc) (r, b) ∧ (b = true ↔ l.length = (acc ++ turns m n).length ∧ W32 l) ∧ (b = true → r = up (acc ++ turns m n).reverse l h) ∧ r.size ≤ 32 := by
  intro n
  induction n using Nat.strongRecOn with
  | _ n ih =>
  intro m acc h1 h2 hm ha
  by_cases hn : 2 ≤ n
  · have hlt := sp_lt hn
    have hle := le_sp hn
    have hpos := sp_pos n
    have ew : wrap64 ((sp n : Int) + (sp n : Int)) = 2 * (sp n : Int) := by rw [w64n _ (by omega) (by omega)]; omega
    have hbody : ∀ res, Ev (fun k => parchmentlaw22_climb.l1 k h (m : Int) (n : Int) l acc (sp n : Int)) res → Ev (fun k => parchmentlaw22_climb.l0 k h (m : Int) (n : Int) l acc) res := by
      intro res H
      have H1 := lclimb_l1 h m n h2 l acc res H n 0 (by simp; omega) (by simp)
      exact Ev.step (fun k => by rw [parchmentlaw22_climb.l0, if_pos (by omega)]; rfl) H1
    by_cases hmk : m < sp n
    · obtain ⟨r, b, hf, hb⟩ := ih (sp n) hlt m (acc ++ [false]) hpos (by omega) hmk (by simp; omega)
      rw [turns_lt hn hmk]
      rw [List.append_assoc, List.singleton_append] at hb
      exact ⟨r, b, hbody _ (Ev.step (fun k => by rw [parchmentlaw22_climb.l1, ew, if_neg (by omega), if_pos (by omega), if_pos (by omega)]) hf), hb⟩
    · obtain ⟨r, b, hf, hb⟩ := ih (n - sp n) (by omega) (m - sp n) (acc ++ [true]) (by omega) (by omega) (by omega) (by simp; omega)
      have e5 : wrap64 ((m : Int) - (sp n : Int)) = ((m - sp n : Nat) : Int) := by rw [w64n _ (by omega) (by omega)]; omega
      have e6 : wrap64 ((n : Int) - (sp n : Int)) = ((n - sp n : Nat) : Int) := by rw [w64n _ (by omega) (by omega)]; omega
      rw [turns_ge hn hmk]
      rw [List.append_assoc, List.singleton_append] at hb
      exact ⟨r, b, hbody _ (Ev.step (fun k => by rw [parchmentlaw22_climb.l1, ew, if_neg (by omega), if_neg (by omega), if_pos (by omega), e5, e6]) hf), hb⟩
  · rw [turns_one _ _ (by omega), List.append_nil]
    by_cases hla : acc.length = l.length
    · obtain ⟨r, b, hf, hb1, hb2, hb3⟩ := lclimb_l2 l acc hla hl l.length 0 h hh (by omega)
      refine ⟨r, b, Ev.step (f := fun k => parchmentlaw22_climb.l2 k h l acc 0) (fun k => by rw [parchmentlaw22_climb.l0, if_neg (by omega), if_pos (by omega)]) hf, ?_, hb2, hb3⟩
      rw [hb1]
      simp [hla]
    · exact ⟨_, false, Ev.step (f := fun _ => some ((⟨#[]⟩ : ByteArray), false)) (fun k => by rw [parchmentlaw22_climb.l0, if_neg (by omega), if_neg (by omega)]) (Ev.now _), ⟨fun h => by simp at h, fun h => absurd h.1.symm hla⟩, fun h => by simp at h, by decide⟩
theorem lclimb_ev (n m : Nat) (h : ByteArray) (l : List ByteArray) (hh : h.size = 32) (h1 : 1 ≤ n) (h2 : n ≤ 2147483648) (hm : m < n) (hl : l.length < 2147483648) :
    ∃ r b, Ev (fun k => parchmentlaw22_climb.f k h (m : Int) (n : Int) l) (r, b) ∧ (b = true ↔ l.length = (turns m n).length ∧ W32 l) ∧ (b = true → r = up (turns m n).reverse l h) ∧ r.size ≤ 32 :=
  lclimb_l0 h l (by omega) hl n m [] h1 h2 hm (by simp; omega)
end Go.Proofs.Ytdcbacbilncnnaa.M
end
section
/- Names and what a revision may be: the program's and the reference's answers are one plain function's. -/
set_option linter.unusedVariables false
set_option linter.unusedSimpArgs false
namespace Go.Proofs.Ytdcbacbilncnnaa.T
open Go.RowKit Go.Proofs.Ytdcbacbilncnnaa.PMk Go.Proofs.Ytdcbacbilncnnaa.EncS Go.Proofs.Ytdcbacbilncnnaa.EncL Go.Proofs.YtdcbacbilncnnaaW.PrintWords Go.Proofs.YtdcbacbilncnnaaW.PrintLast
def good (i : Nat) (c : Int) : Prop := (97 ≤ c ∧ c ≤ 122) ∨ (65 ≤ c ∧ c ≤ 90) ∨ c = 95 ∨ (i ≠ 0 ∧ 48 ≤ c ∧ c ≤ 57)
instance (i : Nat) (c : Int) : Decidable (good i c) := by unfold good; infer_instance
def nameAt (s : ByteArray) : Nat → Nat → Bool
  | 0, _ => decide (1 ≤ s.size) && decide (s.size ≤ 16)
  | m + 1, i => decide (good i (bt s i)) && nameAt s m (i + 1)
def nameS (s : ByteArray) : Bool := nameAt s s.size 0
theorem wr1 (i n : Nat) (h : i < n) (hn : n < 4611686018427387904) : wrap64 ((i : Int) + 1) = ((i + 1 : Nat) : Int) := by
  rw [wrap64_in _ (by omega) (by omega)]; omega
theorem name_l0 (s : ByteArray) (hs : s.size < 4611686018427387904) : ∀ (m i : Nat), i + m = s.size → Ev (fun k => value_Name.l0 k s (s.size : Int) (i : Int)) (nameAt s m i) := by
  intro m
  induction m with
  | zero =>
    intro i hi
    refine Ev.step (f := fun _ => some (nameAt s 0 i)) (fun k => ?_) (Ev.now _)
    simp only [value_Name.l0]
    rw [if_neg (by omega), nameAt]
    by_cases h : 1 ≤ s.size
    · rw [if_pos (by omega), decide_eq_true h, Bool.true_and]
      congr 1
      exact decide_eq_decide.2 (by omega)
    · rw [if_neg (by omega), decide_eq_false h]; rfl
  | succ m ih =>
    intro i hi
    have h1 := ih (i + 1) (by omega)
    rw [nameAt]
    by_cases g : good i (bt s i)
    · rw [decide_eq_true g, Bool.true_and]
      refine Ev.step (fun k => ?_) h1
      simp only [value_Name.l0]
      rw [if_pos (by omega), if_pos (by omega), if_pos (by omega), wr1 i s.size (by omega) hs]
      generalize value_Name.l0 k s (s.size : Int) ((i + 1 : Nat) : Int) = R
      unfold good at g
      repeat' split
      all_goals first | rfl | (exfalso; omega)
    · rw [decide_eq_false g, Bool.false_and]
      refine Ev.step (f := fun _ => some false) (fun k => ?_) (Ev.now _)
      simp only [value_Name.l0]
      rw [if_pos (by omega), if_pos (by omega), if_pos (by omega)]
      generalize value_Name.l0 k s (s.size : Int) (wrap64 (↑i + 1)) = R
      unfold good at g
      repeat' split
      all_goals first | rfl | (exfalso; omega)
theorem p_name (s : ByteArray) (hs : s.size < 4611686018427387904) : Ev (fun k => value_Name.f k s) (nameS s) := name_l0 s hs s.size 0 (by omega)
theorem rname_l0 (s : ByteArray) (hs : s.size < 4611686018427387904) : ∀ (m i : Nat), i + m = s.size → Ev (fun k => parchmentref03_Name.l0 k s (i : Int)) (nameAt s m i) := by
  intro m
  induction m with
  | zero =>
    intro i hi
    refine Ev.step (f := fun _ => some (nameAt s 0 i)) (fun k => ?_) (Ev.now _)
    simp only [parchmentref03_Name.l0]
    rw [if_neg (by omega), nameAt]
    by_cases h : 1 ≤ s.size
    · rw [if_pos (by omega), decide_eq_true h, Bool.true_and]
      congr 1
      exact decide_eq_decide.2 (by omega)
    · rw [if_neg (by omega), decide_eq_false h]; rfl
  | succ m ih =>
    intro i hi
    have h1 := ih (i + 1) (by omega)
    rw [nameAt]
    by_cases g : good i (bt s i)
    · rw [decide_eq_true g, Bool.true_and]
      refine Ev.step (fun k => ?_) h1
      simp only [parchmentref03_Name.l0]
      rw [if_pos (by omega), if_pos (by omega), wr1 i s.size (by omega) hs]
      generalize parchmentref03_Name.l0 k s ((i + 1 : Nat) : Int) = R
      unfold good at g
      repeat' split
      all_goals first | rfl | (exfalso; omega)
    · rw [decide_eq_false g, Bool.false_and]
      refine Ev.step (f := fun _ => some false) (fun k => ?_) (Ev.now _)
      simp only [parchmentref03_Name.l0]
      rw [if_pos (by omega), if_pos (by omega)]
      generalize parchmentref03_Name.l0 k s (wrap64 (↑i + 1)) = R
      unfold good at g
      repeat' split
      all_goals first | rfl | (exfalso; omega)
theorem r_name (s : ByteArray) (hs : s.size < 4611686018427387904) : Ev (fun k => parchmentref03_Name.f k s) (nameS s) := rname_l0 s hs s.size 0 (by omega)
/-- What a revision may be. -/
def numsOk (x : S47) : Prop := if x.f0 < 3 then x.f3 = 0 ∧ x.f4 = 0 else 1 ≤ x.f3 ∧ (x.f0 = 3 ↔ x.f4 = 0)
def bytesOk (x : S47) : Prop :=
  if x.f0 = 3 ∨ x.f0 = 4 then (if x.f7 = true then x.f5.size = 32 ∧ x.f6.toList = [] else x.f5.toList = (leaf x.f6).toList ∧ x.f6.size ≤ 1024)
  else x.f5.toList = [] ∧ x.f6.toList = [] ∧ x.f7 = false
instance (x : S47) : Decidable (numsOk x) := by unfold numsOk; infer_instance
instance (x : S47) : Decidable (bytesOk x) := by unfold bytesOk; infer_instance
abbrev okRev (x : S47) : Prop := 1 ≤ x.f0 ∧ x.f0 ≤ 5 ∧ nameS x.f1 = true ∧ (if x.f0 = 2 then nameS x.f2 = true else x.f2.toList = []) ∧ numsOk x ∧ bytesOk x
def chk (x : S47) : Int := if okRev x then 0 else 6
structure Small (x : S47) : Prop where
  s1 : x.f1.size < 4611686018427387904
  s2 : x.f2.size < 4611686018427387904
  s6 : x.f6.size < 1152921504606846000
  n4 : 0 ≤ x.f4
theorem evc {g : Nat → Option Int} {P : Prop} [Decidable P] (h : (P ∧ Ev g 0) ∨ (¬ P ∧ Ev g 6)) : Ev g (if P then 0 else 6) := by
  rcases h with ⟨h, e⟩ | ⟨h, e⟩
  · rw [if_pos h]; exact e
  · rw [if_neg h]; exact e
theorem p_bytesOk (x : S47) (hs : Small x) : ∃ b, block_bytes.f x.f0 x.f1 x.f2 x.f3 x.f4 x.f5 x.f6 x.f7 = some b ∧ (b = true ↔ bytesOk x) := by
  unfold block_bytes.f block_bodied.f
  by_cases h34 : x.f0 = 3 ∨ x.f0 = 4
  · have hB : (if x.f0 = 3 then some true else some (x.f0 == 4)) = some true := by rcases h34 with h | h <;> simp [h]
    rw [hB, Option.bind_some, if_pos rfl]
    by_cases h7 : x.f7 = true
    · rw [if_pos h7]
      by_cases h5 : x.f5.size = 32
      · rw [if_pos (by omega)]; exact ⟨_, rfl, by simp [bytesOk, h34, h7, h5]⟩
      · rw [if_neg (by omega)]; exact ⟨_, rfl, by simp [bytesOk, h34, h7, h5]⟩
    · rw [if_neg h7, leaf_f _ hs.s6, Option.bind_some]
      by_cases h5 : x.f5.toList = (leaf x.f6).toList
      · rw [if_pos h5]; refine ⟨_, rfl, ?_⟩; simp only [bytesOk, if_pos h34, if_neg h7, h5, true_and, decide_eq_true_eq]; omega
      · rw [if_neg h5]; exact ⟨_, rfl, by simp [bytesOk, h34, h7, h5]⟩
  · have hB : (if x.f0 = 3 then some true else some (x.f0 == 4)) = some false := by rw [if_neg (fun h => h34 (.inl h))]; rw [beq_eq_false_iff_ne.2 (fun h => h34 (.inr h))]
    rw [hB, Option.bind_some, if_neg (by decide)]
    by_cases h5 : x.f5.toList = []
    · rw [if_pos h5]
      by_cases h6 : x.f6.toList = []
      · rw [if_pos h6]; exact ⟨_, rfl, by simp [bytesOk, h34, h5, h6]⟩
      · rw [if_neg h6]; exact ⟨_, rfl, by simp [bytesOk, h34, h5, h6]⟩
    · rw [if_neg h5]; exact ⟨_, rfl, by simp [bytesOk, h34, h5]⟩
theorem p_numsOk (x : S47) : ∃ b, block_numbers.f x.f0 x.f1 x.f2 x.f3 x.f4 x.f5 x.f6 x.f7 = some b ∧ (b = true ↔ numsOk x) := by
  unfold block_numbers.f
  by_cases h3 : x.f0 < 3
  · rw [if_pos h3]
    by_cases h : x.f3 = 0
    · rw [if_pos h]; exact ⟨_, rfl, by simp [numsOk, h3, h]⟩
    · rw [if_neg h]; exact ⟨_, rfl, by simp [numsOk, h3, h]⟩
  · rw [if_neg h3]
    by_cases h : x.f3 ≥ 1
    · rw [if_pos h]; refine ⟨_, rfl, ?_⟩
      unfold numsOk
      rw [if_neg h3]
      by_cases ha : x.f0 = 3 <;> by_cases hb : x.f4 = 0 <;> simp only [ha, hb, h, beq_self_eq_true, beq_eq_false_iff_ne.2, ne_eq, not_false_eq_true, beq_iff_eq, decide_true, iff_self, true_and, and_true, and_self, true_iff, iff_true, iff_false, false_iff, not_true_eq_false, not_and] <;> simp [ha, hb, h] <;> omega
    · rw [if_neg h]; exact ⟨_, rfl, by simp [numsOk, h3]; omega⟩
theorem p_check_j0 (x : S47) (hs : Small x) (b : Bool) : Ev (fun k => block_Check.j0 k b x.f0 x.f1 x.f2 x.f3 x.f4 x.f5 x.f6 x.f7) (if 1 ≤ x.f0 ∧ x.f0 ≤ 5 ∧ nameS x.f1 = true ∧ b = true ∧ numsOk x ∧ bytesOk x then 0 else 6) := by
  refine Ev.step (f := fun k => _) (fun k => by rw [block_Check.j0]) ?_
  by_cases h1 : x.f0 < 1
  · simp only [if_pos h1]; rw [if_neg (by omega)]; exact Ev.now _
  · simp only [if_neg h1]
    by_cases h2 : x.f0 > 5
    · simp only [if_pos h2]; rw [if_neg (by omega)]; exact Ev.now _
    · simp only [if_neg h2]
      refine Ev.bind (p_name _ hs.s1) ?_
      by_cases hn : nameS x.f1 = true
      · simp only [if_pos hn]
        by_cases hb : b = true
        · obtain ⟨c1, e1, h1'⟩ := p_numsOk x
          obtain ⟨c2, e2, h2'⟩ := p_bytesOk x hs
          simp only [if_pos hb, e1, Option.bind_some, e2]
          by_cases h3 : c1 = true
          · simp only [if_pos h3]
            by_cases h4 : c2 = true
            · simp only [if_pos h4]; exact evc (.inl ⟨⟨by omega, by omega, hn, hb, h1'.1 h3, h2'.1 h4⟩, Ev.now _⟩)
            · simp only [if_neg h4]; exact evc (.inr ⟨fun h => h4 (h2'.2 h.2.2.2.2.2), Ev.now _⟩)
          · simp only [if_neg h3]; exact evc (.inr ⟨fun h => h3 (h1'.2 h.2.2.2.2.1), Ev.now _⟩)
        · simp only [if_neg hb]; exact evc (.inr ⟨fun h => hb h.2.2.2.1, Ev.now _⟩)
      · simp only [if_neg hn]; exact evc (.inr ⟨fun h => hn h.2.2.1, Ev.now _⟩)
theorem p_check (x : S47) (hs : Small x) : Ev (fun k => block_Check.f k x.f0 x.f1 x.f2 x.f3 x.f4 x.f5 x.f6 x.f7) (chk x) := by
  unfold block_Check.f chk okRev
  by_cases h2 : x.f0 = 2
  · simp only [if_pos h2]
    exact Ev.bind (p_name _ hs.s2) (p_check_j0 x hs _)
  · simp only [if_neg h2]
    have h := p_check_j0 x hs (x.f2.toList == ([] : List UInt8))
    simp only [beq_iff_eq] at h
    exact h
theorem r_check_j3 (x : S47) (hs : Small x) (b c : Bool) (hc : c = !(decide (x.f0 = 3 ∨ x.f0 = 4))) : Ev (fun k => parchmentref09_Check.j3 k b c x.f0 x.f1 x.f2 x.f3 x.f4 x.f5 x.f6 x.f7) (if b = true ∧ bytesOk x then 0 else 6) := by
  subst hc
  refine Ev.step (f := fun k => _) (fun k => by rw [parchmentref09_Check.j3]) ?_
  by_cases h34 : x.f0 = 3 ∨ x.f0 = 4
  · rw [decide_eq_true h34]
    simp only [Bool.not_true, Bool.false_eq_true, if_false]
    by_cases h7 : x.f7 = true
    · simp only [if_pos h7]
      by_cases hb : b = true
      · simp only [if_pos hb]
        by_cases h5 : x.f5.size = 32
        · simp only [if_pos (show (x.f5.size : Int) = 32 by omega)]
          by_cases h6 : x.f6.toList = []
          · simp only [if_pos h6]; exact evc (.inl ⟨by simp [bytesOk, *], Ev.now _⟩)
          · simp only [if_neg h6]; exact evc (.inr ⟨by simp [bytesOk, *], Ev.now _⟩)
        · simp only [if_neg (show ¬ (x.f5.size : Int) = 32 by omega)]; exact evc (.inr ⟨by simp [bytesOk, *], Ev.now _⟩)
      · simp only [if_neg hb]; exact evc (.inr ⟨by simp [bytesOk, *], Ev.now _⟩)
    · simp only [if_neg h7]
      by_cases hb : b = true
      · simp only [if_pos hb]
        by_cases h6 : (x.f6.size : Int) ≤ 1024
        · simp only [if_pos h6, rleaf_f _ hs.s6, Option.bind_some]
          by_cases h5 : x.f5.toList = (leaf x.f6).toList
          · simp only [if_pos h5]; exact evc (.inl ⟨⟨hb, by unfold bytesOk; rw [if_pos h34, if_neg h7]; exact ⟨h5, by omega⟩⟩, Ev.now _⟩)
          · simp only [if_neg h5]; exact evc (.inr ⟨by simp [bytesOk, *], Ev.now _⟩)
        · simp only [if_neg h6]; exact evc (.inr ⟨fun h => h6 (by have h' := h.2; unfold bytesOk at h'; rw [if_pos h34, if_neg h7] at h'; omega), Ev.now _⟩)
      · simp only [if_neg hb]; exact evc (.inr ⟨by simp [bytesOk, *], Ev.now _⟩)
  · rw [decide_eq_false h34]
    simp only [Bool.not_false, if_true]
    by_cases hb : b = true
    · simp only [if_pos hb]
      by_cases h5 : x.f5.toList = []
      · simp only [if_pos h5]
        by_cases h6 : x.f6.toList = []
        · simp only [if_pos h6]
          cases h7 : x.f7
          · exact evc (.inl ⟨by simp [bytesOk, *], Ev.now _⟩)
          · exact evc (.inr ⟨by simp [bytesOk, *], Ev.now _⟩)
        · simp only [if_neg h6]; exact evc (.inr ⟨by simp [bytesOk, *], Ev.now _⟩)
      · simp only [if_neg h5]; exact evc (.inr ⟨by simp [bytesOk, *], Ev.now _⟩)
    · simp only [if_neg hb]; exact evc (.inr ⟨by simp [bytesOk, *], Ev.now _⟩)
theorem r_check_j2 (x : S47) (hs : Small x) (b : Bool) : Ev (fun k => parchmentref09_Check.j2 k b x.f0 x.f1 x.f2 x.f3 x.f4 x.f5 x.f6 x.f7) (if b = true ∧ bytesOk x then 0 else 6) := by
  refine Ev.step (f := fun k => _) (fun k => by rw [parchmentref09_Check.j2]) ?_
  by_cases h3 : x.f0 = 3
  · simp only [if_pos h3]; exact r_check_j3 x hs b false (by rw [decide_eq_true (.inl h3)]; rfl)
  · simp only [if_neg h3]
    refine r_check_j3 x hs b _ ?_
    by_cases h4 : x.f0 = 4
    · rw [decide_eq_true (.inr h4), h4]; rfl
    · rw [decide_eq_false (fun h => h.elim h3 h4)]; simp [h4]
theorem r_check_j1 (x : S47) (hs : Small x) (b : Bool) : Ev (fun k => parchmentref09_Check.j1 k b x.f0 x.f1 x.f2 x.f3 x.f4 x.f5 x.f6 x.f7) (if b = true ∧ numsOk x ∧ bytesOk x then 0 else 6) := by
  refine Ev.step (f := fun k => _) (fun k => by rw [parchmentref09_Check.j1]) ?_
  have n4 := hs.n4
  have key : ∀ q : Bool, (q = true ↔ b = true ∧ numsOk x) → Ev (fun k => parchmentref09_Check.j2 k q x.f0 x.f1 x.f2 x.f3 x.f4 x.f5 x.f6 x.f7) (if b = true ∧ numsOk x ∧ bytesOk x then 0 else 6) := by
    intro q hq
    have h := r_check_j2 x hs q
    simp only [hq, and_assoc] at h
    exact h
  unfold numsOk at key ⊢
  by_cases h3 : x.f0 < 3
  · simp only [if_pos h3] at key ⊢
    by_cases hb : b = true
    · simp only [if_pos hb]
      by_cases hd : x.f3 = 0
      · simp only [if_pos hd]; exact key _ (by simp [hb, hd])
      · simp only [if_neg hd]; exact key _ (by simp [hb, hd])
    · simp only [if_neg hb]; exact key _ (by simp [hb])
  · simp only [if_neg h3] at key ⊢
    by_cases h0 : x.f0 = 3
    · simp only [if_pos h0]
      by_cases hb : b = true
      · simp only [if_pos hb]
        by_cases hd : x.f3 > 0
        · simp only [if_pos hd]; exact key _ (by simp [hb, h0]; omega)
        · simp only [if_neg hd]; exact key _ (by simp [hb, h0]; omega)
      · simp only [if_neg hb]; exact key _ (by simp [hb])
    · simp only [if_neg h0]
      by_cases hb : b = true
      · simp only [if_pos hb]
        by_cases hd : x.f3 > 0
        · simp only [if_pos hd]; exact key _ (by simp [hb, h0]; omega)
        · simp only [if_neg hd]; exact key _ (by simp [hb, h0]; omega)
      · simp only [if_neg hb]; exact key _ (by simp [hb])
theorem r_check_j0 (x : S47) (hs : Small x) (b : Bool) : Ev (fun k => parchmentref09_Check.j0 k b x.f0 x.f1 x.f2 x.f3 x.f4 x.f5 x.f6 x.f7) (if b = true ∧ (if x.f0 = 2 then nameS x.f2 = true else x.f2.toList = []) ∧ numsOk x ∧ bytesOk x then 0 else 6) := by
  refine Ev.step (f := fun k => _) (fun k => by rw [parchmentref09_Check.j0]) ?_
  by_cases h2 : x.f0 = 2
  · simp only [if_pos h2]
    by_cases hb : b = true
    · simp only [if_pos hb, hb, true_and]
      exact Ev.bind (r_name _ hs.s2) (r_check_j1 x hs _)
    · simp only [if_neg hb]
      have h := r_check_j1 x hs false
      simp only [Bool.false_eq_true, false_and, if_false] at h
      rw [if_neg (fun h => hb h.1)]; exact h
  · simp only [if_neg h2]
    by_cases hb : b = true
    · simp only [if_pos hb, hb, true_and]
      have h := r_check_j1 x hs (x.f2.toList == ([] : List UInt8))
      simp only [beq_iff_eq] at h
      exact h
    · simp only [if_neg hb]
      have h := r_check_j1 x hs false
      simp only [Bool.false_eq_true, false_and, if_false] at h
      rw [if_neg (fun h => hb h.1)]; exact h
theorem r_check (x : S47) (hs : Small x) : Ev (fun k => parchmentref09_Check.f k x.f0 x.f1 x.f2 x.f3 x.f4 x.f5 x.f6 x.f7) (chk x) := by
  unfold parchmentref09_Check.f chk okRev
  have hf := r_check_j0 x hs false
  simp only [Bool.false_eq_true, false_and, if_false] at hf
  by_cases h1 : x.f0 ≥ 1
  · simp only [if_pos h1]
    by_cases h5 : x.f0 ≤ 5
    · simp only [if_pos h5]
      refine Ev.bind (r_name _ hs.s1) ?_
      have h := r_check_j0 x hs (nameS x.f1)
      have e : (1 ≤ x.f0 ∧ x.f0 ≤ 5 ∧ nameS x.f1 = true ∧ (if x.f0 = 2 then nameS x.f2 = true else x.f2.toList = []) ∧ numsOk x ∧ bytesOk x) ↔ (nameS x.f1 = true ∧ (if x.f0 = 2 then nameS x.f2 = true else x.f2.toList = []) ∧ numsOk x ∧ bytesOk x) := ⟨fun h => h.2.2, fun h => ⟨h1, h5, h⟩⟩
      simp only [e]
      exact h
    · simp only [if_neg h5]; rw [if_neg (fun h => h5 h.2.1)]; exact hf
  · simp only [if_neg h1]; rw [if_neg (fun h => h1 h.1)]; exact hf
end Go.Proofs.Ytdcbacbilncnnaa.T
end
