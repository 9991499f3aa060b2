/- Part 5 of what the proof of BlockUnlike stands on. -/
import Derived.Deep.RegionHeld3
import Derived.Deep.AppendLies
import Derived.Deep.DrawnRows
import Derived.Lib.Hide
import Derived.RangeFuncBox
import Derived.RangeFuncLeaves
import Derived.Shelf.Abstract
import Derived.WalkKit
import Derived.OwnWalkIn
import Derived.TacticsInMore
import Derived.LoopNIn
import Derived.LoopIn
import Derived.Test.YtdcbacbilncnnaaProg
import Derived.RangeFuncCalls
import Derived.RangeFuncBound
import Derived.RangeFuncNested
import Derived.Test.YtdcbacbilncnnaaBun4
section
namespace Go.Proofs.Ytdcbacbilncnnaa.PMk
open Go.RowKit Go.Proofs.YtdcbacbilncnnaaW.PrintWords Go.Proofs.YtdcbacbilncnnaaW.PrintLast Go.Proofs.YtdcbacbilncnnaaW.PrintMore
attribute [local go_sem] max2_int min2_int max_two min_two max_three min_three max_four min_four   -- for this text's walks alone
set_option linter.unusedVariables false
set_option linter.unusedSimpArgs false
/-! ### parchmentref08_Root: function 31 -/
def parchmentref08_Root.f : Nat → List ByteArray → Option (ByteArray)
 | 0, _ => none
 | k + 1, l0 => if (l0.length : Int) = 0 then ((Dig.parchmentref01_Sum.f (⟨#[]⟩ : ByteArray)).bind fun t198 => (some t198)) else (if (l0.length : Int) = 1 then (if 0 < (l0.length : Int) then (some (rdOf ByteArray.empty l0 0)) else (none)) else ((parchmentref08_half.f k (l0.length : Int)).bind fun t200 => (if 0 ≤ t200 then (if t200 ≤ (l0.length : Int) then ((parchmentref08_Root.f k (l0.take (t200 : Int).toNat)).bind fun t202 => ((parchmentref08_Root.f k (l0.drop (t200 : Int).toNat)).bind fun t204 => ((parchmentref01_Node.f t202 t204).bind fun t205 => (some t205)))) else (none)) else (none))))
def parchmentref08_Root.T6 : Bool × List (List Nat × List Nat) := (true, [([], []), ([], []), ([0, 1], [0, 1]), ([2], [2]), ([], []), ([], []), ([4, 5], [4, 5]), ([6, 3], [6]), ([3, 7, 7], [3, 7]), ([8, 8, 0, 1, 2, 3, 4, 5, 6, 7, 8], [8])])
def parchmentref08_Root.B6 : List Nat := [0, 0, 3, 7, 0, 0, 48, 127, 255, 511]
theorem parchmentref08_Root.tab6 : rtab .any (opsOf Try.f31 6) = parchmentref08_Root.T6 := by kernel_rfl
theorem parchmentref08_Root.bits6 : waitsOk parchmentref08_Root.T6.2 parchmentref08_Root.B6 = true := by kernel_rfl
set_option maxHeartbeats 8000000 in
set_option maxRecDepth 100000 in
theorem parchmentref08_Root.calls (k : Nat) : ∀ (A0 : Option Addr) (c0 : Nat) (l0 : List ByteArray) (r : ByteArray) (w : World) (hr0 : Kd.C Kd.string w A0 l0.length l0) (hc0 : l0.length ≤ c0) (h : parchmentref08_Root.f k l0 = some r),
  Calls Try.prog 31 #[.slice A0 l0.length c0] w fun e w' => e = .returned (.string r) ∧ Below w.heap.size w w' := by
 induction k using Nat.strongRecOn with
 | _ k ih =>
 intro A0 c0 l0 r w hr0 hc0 h
 cases k with
 | zero => exact absurd h (by simp [parchmentref08_Root.f])
 | succ k =>
 simp only [parchmentref08_Root.f] at h
 have HR0 := Aside0.mk hr0
 have HC0 := Aside0.mk hc0
 clear hr0 hc0
 have HB := Aside0.mk (Below.refl w.heap.size w)
 have H : (if (l0.length : Int) = 0 then ((Dig.parchmentref01_Sum.f (⟨#[]⟩ : ByteArray)).bind fun t198 => (some t198)) else (if (l0.length : Int) = 1 then (if 0 < (l0.length : Int) then (some (rdOf ByteArray.empty l0 0)) else (none)) else ((parchmentref08_half.f k (l0.length : Int)).bind fun t200 => (if 0 ≤ t200 then (if t200 ≤ (l0.length : Int) then ((parchmentref08_Root.f k (l0.take (t200 : Int).toNat)).bind fun t202 => ((parchmentref08_Root.f k (l0.drop (t200 : Int).toNat)).bind fun t204 => ((parchmentref01_Node.f t202 t204).bind fun t205 => (some t205)))) else (none)) else (none))))) = some r := h
 clear h
 by_cases c2 : (l0.length : Int) = 0
 ·rw [if_pos c2] at H
  have c2b0 : ((l0.length : Int) == 0) = true := beq_iff_eq.mpr c2
  have c2b1 : ((l0.length : Int) != 0) = false := bne_eq_false_iff_eq.mpr c2
  clear c2
  replace H := Option.bind_eq_some_iff.mp H
  obtain ⟨t198, A30, H⟩ := H
  replace H : (some t198) = some r := H
  have A3 := Aside0.mk A30
  clear A30
  obtain rfl := Option.some.inj H
  go_enter Try.func31, Try.ntmps31
  go_wp2_with (first | ((with_reducible refine gate_callee (f := 54) rfl ?_); refine goesL_ (some 7) rfl rfl Try.func54 (by kernel_rfl) rfl #[.string (⟨#[]⟩ : ByteArray)] rfl (by (try simp only [List.map_toArray, List.map_cons, List.map_nil]); first | done | rfl | (simp only [List.length_drop, List.length_take]; rfl)) ?_; (with_reducible refine (Dig.parchmentref01_Sum.calls (⟨#[]⟩ : ByteArray) t198 _ A3.out).mono ?_); rintro e w4 ⟨rfl, hb⟩; refine ⟨_, rfl, ?_⟩; replace HB := Aside0.mk (below_step (bh_ HB.out) hb); (try clear hb)))
  go_ret
  exact ⟨by first | rfl | (simp [errW_none, errW_some] <;> rfl) | (simp [*, errW_none, errW_some] <;> rfl), by repeat (first | (with_reducible first | exact HB.out | apply below_alloc | apply pw_below_drewN | apply below_drew1) | exact HB.out)⟩
 ·rw [if_neg c2] at H
  have c2b0 : ((l0.length : Int) == 0) = false := beq_eq_false_iff_ne.mpr c2
  have c2b1 : ((l0.length : Int) != 0) = true := bne_iff_ne.mpr c2
  have c2b2 : ¬ (l0 = []) := fun h_ => c2 (by rw [h_]; rfl)
  by_cases c5 : (l0.length : Int) = 1
  ·rw [if_pos c5] at H
   have c5b0 : ((l0.length : Int) == 1) = true := beq_iff_eq.mpr c5
   have c5b1 : ((l0.length : Int) != 1) = false := bne_eq_false_iff_eq.mpr c5
   clear c5
   by_cases c6 : 0 < (l0.length : Int)
   ·rw [if_pos c6] at H
    have c6b0 : decide (0 < (l0.length : Int)) = true := decide_eq_true c6
    have c6b1 : decide (0 < l0.length) = true := decide_eq_true (by omega)
    clear c6
    obtain rfl := Option.some.inj H
    have p199 : 0 ≤ (0 : Int) := (by omega)
    have q199 : 0 < (l0.length : Int) := of_decide_eq_true (by first | (with_reducible assumption) | assumption)
    obtain ⟨ad199, e199, hx199_0⟩ := Kd.at_string HR0.out 0 p199 q199
    cases e199
    have qi199 : (0 < l0.length) = True := eq_true (by omega)
    (try rw [show ((0 : Int)).toNat = 0 from rfl] at hx199_0)
    (try rw [Addr.add_zero'] at hx199_0)
    replace p199 := eq_true p199
    replace q199 := eq_true q199
    go_enter Try.func31, Try.ntmps31
    go_wp2
    go_ret
    exact ⟨by first | rfl | (simp [errW_none, errW_some] <;> rfl) | (simp [*, errW_none, errW_some] <;> rfl), by repeat (first | (with_reducible first | exact HB.out | apply below_alloc | apply pw_below_drewN | apply below_drew1) | exact HB.out)⟩
   ·rw [if_neg c6] at H
    exact absurd H (by simp)
  ·rw [if_neg c5] at H
   have c5b0 : ((l0.length : Int) == 1) = false := beq_eq_false_iff_ne.mpr c5
   have c5b1 : ((l0.length : Int) != 1) = true := bne_iff_ne.mpr c5
   replace H := Option.bind_eq_some_iff.mp H
   obtain ⟨t200, A70, H⟩ := H
   replace H : (if 0 ≤ t200 then (if t200 ≤ (l0.length : Int) then ((parchmentref08_Root.f k (l0.take (t200 : Int).toNat)).bind fun t202 => ((parchmentref08_Root.f k (l0.drop (t200 : Int).toNat)).bind fun t204 => ((parchmentref01_Node.f t202 t204).bind fun t205 => (some t205)))) else (none)) else (none)) = some r := H
   have A7 := Aside0.mk A70
   clear A70
   by_cases c8 : 0 ≤ t200
   ·rw [if_pos c8] at H
    have c8b0 := eq_true c8
    have c8b1 : decide (0 ≤ t200) = true := decide_eq_true c8
    clear c8
    by_cases c9 : t200 ≤ (l0.length : Int)
    ·rw [if_pos c9] at H
     have c9b0 := eq_true c9
     have c9b1 : decide (t200 ≤ (l0.length : Int)) = true := decide_eq_true c9
     clear c9
     replace H := Option.bind_eq_some_iff.mp H
     obtain ⟨t202, A100, H⟩ := H
     replace H : ((parchmentref08_Root.f k (l0.drop (t200 : Int).toNat)).bind fun t204 => ((parchmentref01_Node.f t202 t204).bind fun t205 => (some t205))) = some r := H
     have A10 := Aside0.mk A100
     clear A100
     have c11b0 := eq_true (of_decide_eq_true (by first | (with_reducible assumption) | assumption) : 0 ≤ t200)
     have c12b0 := eq_true (of_decide_eq_true (by first | (with_reducible assumption) | assumption) : t200 ≤ (l0.length : Int))
     replace H := Option.bind_eq_some_iff.mp H
     obtain ⟨t204, A130, H⟩ := H
     replace H : ((parchmentref01_Node.f t202 t204).bind fun t205 => (some t205)) = some r := H
     have A13 := Aside0.mk A130
     clear A130
     replace H := Option.bind_eq_some_iff.mp H
     obtain ⟨t205, A140, H⟩ := H
     replace H : (some t205) = some r := H
     have A14 := Aside0.mk A140
     clear A140
     obtain rfl := Option.some.inj H
     go_enter Try.func31, Try.ntmps31
     try go_wp2_with (first | ((with_reducible refine gate_callee (f := 59) rfl ?_); refine goesL_ (some 16) rfl rfl Try.func59 (by kernel_rfl) rfl #[.int .i64 (l0.length : Int)] rfl (by (try simp only [List.map_toArray, List.map_cons, List.map_nil]); first | done | rfl | (simp only [List.length_drop, List.length_take]; rfl)) ?_; (with_reducible refine (parchmentref08_half.calls k (l0.length : Int) t200 _ A7.out).mono ?_); rintro e w' ⟨rfl, ⟨nd, rfl⟩⟩; refine ⟨_, rfl, ?_⟩))
     replace HB := Aside0.mk (below_drew1 (pw_below_drewN HB.out nd))
     obtain ⟨i016, hi016, _, hsz16, _⟩ := info_parts info9
     obtain ⟨hcut16, hA16, hC16⟩ := print_take_of (P := Try.prog) Value.string (⟨#[]⟩ : ByteArray) 51 9 .i64 Try.underlying51 hi016 hsz16 A0 c0 l0 t200 (of_decide_eq_true (by first | (with_reducible assumption) | assumption)) (of_decide_eq_true (by first | (with_reducible assumption) | assumption)) HC0.out
     have HR201 := Aside0.mk (Kd.C_of_reads (h1 := fun _ => rfl) (hA16 _ (Kd.reads_of_C HR0.out)))
     have HC201 := Aside0.mk hC16
     clear hA16 hC16 hi016 hsz16
     obtain ⟨i017, hi017, _, hsz17, _⟩ := info_parts info9
     obtain ⟨A17, hcut17, hA17, hC17⟩ := print_drop_of (P := Try.prog) Value.string (⟨#[]⟩ : ByteArray) 51 9 .i64 Try.underlying51 hi017 hsz17 A0 c0 l0 t200 (of_decide_eq_true (by first | (with_reducible assumption) | assumption)) (of_decide_eq_true (by first | (with_reducible assumption) | assumption)) HC0.out
     have HR203 := Aside0.mk (Kd.C_of_reads (h1 := fun _ => rfl) (hA17 _ (Kd.reads_of_C HR0.out)))
     have HC203 := Aside0.mk hC17
     clear hA17 hC17 hi017 hsz17
     refine start_ (n := 10) (S := fun w' => True) (ds := []) #[N_, N_, N_, N_, N_, N_, N_, N_, N_, N_] (by kernel_rfl) rfl rfl trivial (fun hHeld => ?_); refine with_tabW parchmentref08_Root.tab6 parchmentref08_Root.bits6 (fun HT_ HW_ => ?_)
     generalize (w.drewN nd).drew = w15 at HB HR201 HR203 hHeld ⊢
     refine pure_ (i := 0) (N := some 17) (v := ?_) (a' := ?_) #[Y_, N_, N_, N_, N_, N_, N_, N_, N_, N_] rfl rfl (any_of HT_.out (by kernel_rfl)) (fun _ _ _ h => h) (Or.inl ⟨by rfl, ?_⟩) ?_ ?_
     rotate_left; (intro w'; go_simp; with_reducible rfl); rotate_left; (simp only [Act.put, q1_, q2_, q3_, i64_w, i32_w]; rfl)
     refine pure_ (i := 1) (N := some 18) (v := ?_) (a' := ?_) #[Y_, Y_, N_, N_, N_, N_, N_, N_, N_, N_] rfl rfl (any_of HT_.out (by kernel_rfl)) (fun _ _ _ h => h) (Or.inl ⟨by rfl, ?_⟩) ?_ ?_
     rotate_left; (intro w'; go_simp; with_reducible rfl); rotate_left; (simp only [Act.put, q1_, q2_, q3_, i64_w, i32_w]; rfl)
     refine pure_ (i := 2) (N := some 19) (v := ?_) (a' := ?_) #[Y_, Y_, Y_, N_, N_, N_, N_, N_, N_, N_] rfl rfl (any_of HT_.out (by kernel_rfl)) (fun _ _ _ h => h) (Or.inl ⟨by rfl, ?_⟩) ?_ ?_
     rotate_left; (intro w'; go_simp; with_reducible rfl); rotate_left; (simp only [Act.put, q1_, q2_, q3_, i64_w, i32_w]; rfl)
     refine pure_ (i := 4) (N := some 21) (v := ?_) (a' := ?_) #[Y_, Y_, Y_, N_, Y_, N_, N_, N_, N_, N_] rfl rfl (any_of HT_.out (by kernel_rfl)) (fun _ _ _ h => h) (Or.inl ⟨by rfl, ?_⟩) ?_ ?_
     rotate_left; (intro w'; go_simp; with_reducible rfl); rotate_left; (simp only [Act.put, q1_, q2_, q3_, i64_w, i32_w]; rfl)
     refine pure_ (i := 5) (N := some 22) (v := ?_) (a' := ?_) #[Y_, Y_, Y_, N_, Y_, Y_, N_, N_, N_, N_] rfl rfl (any_of HT_.out (by kernel_rfl)) (fun _ _ _ h => h) (Or.inl ⟨by rfl, ?_⟩) ?_ ?_
     rotate_left; (intro w'; go_simp; with_reducible rfl); rotate_left; (simp only [Act.put, q1_, q2_, q3_, i64_w, i32_w]; rfl)
     refine pure_ (i := 6) (N := some 23) (v := ?_) (a' := ?_) #[Y_, Y_, Y_, N_, Y_, Y_, Y_, N_, N_, N_] rfl rfl (any_of HT_.out (by kernel_rfl)) (fun _ _ _ h => h) (Or.inl ⟨by rfl, ?_⟩) ?_ ?_
     rotate_left; (intro w'; go_simp; with_reducible rfl); rotate_left; (simp only [Act.put, q1_, q2_, q3_, i64_w, i32_w]; rfl)
     refine one_ (i := 3) (N := some 20) #[Y_, Y_, Y_, Y_, Y_, Y_, Y_, N_, N_, N_] rfl rfl (one_of HT_.out (by kernel_rfl)) (by decide) (fun K hK => ?_)
     refine goes_ Try.func31 (by kernel_rfl) rfl #[.slice A0 (l0.take (t200 : Int).toNat).length c0] (by rfl) rfl rfl (by (try simp only [List.map_toArray, List.map_cons, List.map_nil]); first | done | (rw [show (l0.take (t200 : Int).toNat).length = t200.toNat from (by rw [List.length_take]; have h_ : (t200 : Int) ≤ (l0.length : Int) := of_decide_eq_true (by first | (with_reducible assumption) | assumption); omega)] <;> rfl) | rfl | (simp only [List.length_drop, List.length_take]; rfl)) ?_
     with_reducible refine (ih k (by omega) _ _ (l0.take (t200 : Int).toNat) t202 _ ?side1 ?side2 A10.out).mono ?_
     (case side1 => repeat (first | exact (Kd.C_below HR201.out HB.out) | (with_reducible refine Kd.C_alloc ?_ _) | (with_reducible refine Kd.C_drewN ?_ _) | (with_reducible refine Kd.C_drew ?_)))
     (case side2 => exact HC201.out)
     rintro e w18 ⟨rfl, hb⟩
     refine ⟨_, rfl, ?_⟩
     replace HB := Aside0.mk (below_step (bh_ HB.out) hb)
     (try clear hb)
     (try clear hb2)
     (try clear hk)
     (try clear hi)
     refine hK.out _ _ trivial (fun hHeld => ?_)
     clear hK K
     refine norm_ (a' := ?_) ?_ ?_
     rotate_left
     ·show Act.put _ (some 20) _ = _
      simp only [Act.put, q1_, q2_, q3_, i64_w, i32_w]
      rfl
     refine one_ (i := 7) (N := some 24) #[Y_, Y_, Y_, Y_, Y_, Y_, Y_, Y_, N_, N_] rfl rfl (one_of HT_.out (by kernel_rfl)) (by decide) (fun K hK => ?_)
     refine goes_ Try.func31 (by kernel_rfl) rfl #[.slice A17 (l0.drop (t200 : Int).toNat).length (c0 - t200.toNat)] (by rfl) rfl rfl (by (try simp only [List.map_toArray, List.map_cons, List.map_nil]); first | done | (rw [show (l0.drop (t200 : Int).toNat).length = (l0.length - t200.toNat) from List.length_drop] <;> rfl) | rfl | (simp only [List.length_drop, List.length_take]; rfl)) ?_
     with_reducible refine (ih k (by omega) _ _ (l0.drop (t200 : Int).toNat) t204 _ ?side1 ?side2 A13.out).mono ?_
     (case side1 => repeat (first | exact (Kd.C_below HR203.out HB.out) | (with_reducible refine Kd.C_alloc ?_ _) | (with_reducible refine Kd.C_drewN ?_ _) | (with_reducible refine Kd.C_drew ?_)))
     (case side2 => exact HC203.out)
     rintro e w19 ⟨rfl, hb⟩
     refine ⟨_, rfl, ?_⟩
     replace HB := Aside0.mk (below_step (bh_ HB.out) hb)
     (try clear hb)
     (try clear hb2)
     (try clear hk)
     (try clear hi)
     refine hK.out _ _ trivial (fun hHeld => ?_)
     clear hK K
     refine norm_ (a' := ?_) ?_ ?_
     rotate_left
     ·show Act.put _ (some 24) _ = _
      simp only [Act.put, q1_, q2_, q3_, i64_w, i32_w]
      rfl
     refine one_ (i := 8) (N := some 25) #[Y_, Y_, Y_, Y_, Y_, Y_, Y_, Y_, Y_, N_] rfl rfl (one_of HT_.out (by kernel_rfl)) (by decide) (fun K hK => ?_)
     refine goes_ Try.func60 (by kernel_rfl) rfl #[.string t202, .string t204] (by rfl) rfl rfl (by (try simp only [List.map_toArray, List.map_cons, List.map_nil]); first | done | rfl | (simp only [List.length_drop, List.length_take]; rfl)) ?_
     with_reducible refine (parchmentref01_Node.calls t202 t204 t205 _ A14.out).mono ?_
     rintro e w20 ⟨rfl, hb⟩
     refine ⟨_, rfl, ?_⟩
     replace HB := Aside0.mk (below_step (bh_ HB.out) hb)
     (try clear hb)
     (try clear hb2)
     (try clear hk)
     (try clear hi)
     refine hK.out _ _ trivial (fun hHeld => ?_)
     clear hK K
     refine norm_ (a' := ?_) ?_ ?_
     rotate_left
     ·show Act.put _ (some 25) _ = _
      simp only [Act.put, q1_, q2_, q3_, i64_w, i32_w]
      rfl
     refine pure_ (i := 9) (N := some 2) (v := ?_) (a' := ?_) #[Y_, Y_, Y_, Y_, Y_, Y_, Y_, Y_, Y_, Y_] rfl rfl (any_of HT_.out (by kernel_rfl)) (fun _ _ _ h => h) (Or.inl ⟨by rfl, ?_⟩) ?_ ?_
     rotate_left; (intro w'; go_simp; with_reducible rfl); rotate_left; (simp only [Act.put, q1_, q2_, q3_, i64_w, i32_w]; rfl)
     refine done_ (done_of HT_.out (by kernel_rfl)) ?_
     try go_wp2
     go_ret
     exact ⟨by first | rfl | (simp [errW_none, errW_some] <;> rfl) | (simp [*, errW_none, errW_some] <;> rfl), by repeat (first | (with_reducible first | exact HB.out | apply below_alloc | apply pw_below_drewN | apply below_drew1) | exact HB.out)⟩
    ·rw [if_neg c9] at H
     exact absurd H (by simp)
   ·rw [if_neg c8] at H
    exact absurd H (by simp)
end Go.Proofs.Ytdcbacbilncnnaa.PMk
end
section
/- Roots, and what shows a leaf: the program's are the reference's; and what shows a leaf shows it. -/
set_option linter.unusedVariables false
set_option linter.unusedSimpArgs false
namespace Go.Proofs.Ytdcbacbilncnnaa.M
open Go.RowKit Go.Proofs.Ytdcbacbilncnnaa.PMk Go.Proofs.YtdcbacbilncnnaaW.PrintWords Go.Proofs.YtdcbacbilncnnaaW.PrintLast
def mroot (l : List ByteArray) : ByteArray :=
  if h : l.length ≤ 1 then (if l.length = 0 then Dig.dig ⟨#[]⟩ else l.getD 0 ByteArray.empty)
  else node (mroot (l.take (sp l.length))) (mroot (l.drop (sp l.length)))
termination_by l.length
decreasing_by
  · have := sp_lt (n := l.length) (by omega); simp; omega
  · have := sp_pos l.length; have := sp_lt (n := l.length) (by omega); simp; omega
theorem W32.take {l : List ByteArray} (h : W32 l) (n : Nat) : W32 (l.take n) := fun x hx => h x (List.mem_of_mem_take hx)
theorem W32.drop {l : List ByteArray} (h : W32 l) (n : Nat) : W32 (l.drop n) := fun x hx => h x (List.mem_of_mem_drop hx)
theorem W32.getD {l : List ByteArray} (h : W32 l) {i : Nat} (hi : i < l.length) : (l.getD i ByteArray.empty).size = 32 := by
  rw [List.getD_eq_getElem?_getD, List.getElem?_eq_getElem hi]
  exact h _ (List.getElem_mem _)
theorem mroot_size {l : List ByteArray} (h : W32 l) : (mroot l).size = 32 := by
  rw [mroot]
  split
  · split
    · exact Dig.dig_size _
    · exact h.getD (by omega)
  · exact node_size _ _
theorem mroot_two {l : List ByteArray} (h : 2 ≤ l.length) : mroot l = node (mroot (l.take (sp l.length))) (mroot (l.drop (sp l.length))) := by
  rw [mroot]; rw [dif_neg (by omega)]
theorem mroot_one {l : List ByteArray} (h : l.length = 1) : mroot l = l.getD 0 ByteArray.empty := by
  rw [mroot]; rw [dif_pos (by omega), if_neg (by omega)]
theorem mroot_nil : mroot [] = Dig.dig ⟨#[]⟩ := by rw [mroot]; rfl
theorem rroot_f : ∀ (k : Nat) (l : List ByteArray), W32 l → l.length ≤ 2147483648 → l.length < k → parchmentref08_Root.f k l = some (mroot l)
  | 0, l, _, _, h => by omega
  | k + 1, l, hw, hl, hk => by
    rw [parchmentref08_Root.f]
    by_cases h0 : l.length = 0
    · rw [if_pos (by omega), List.eq_nil_of_length_eq_zero h0, mroot_nil]
      unfold Dig.parchmentref01_Sum.f
      rw [if_pos (by decide)]
      rfl
    · rw [if_neg (by omega)]
      by_cases h1 : l.length = 1
      · rw [if_pos (by omega), if_pos (by omega), mroot_one h1]
        rfl
      · have h2 : 2 ≤ l.length := by omega
        have hlt := sp_lt h2
        have hpos := sp_pos l.length
        rw [if_neg (by omega), half_f k _ h2 hl (by omega), Option.bind_some, if_pos (by omega), if_pos (by omega), Int.toNat_natCast,
          rroot_f k _ (hw.take _) (by simp; omega) (by simp; omega), Option.bind_some, rroot_f k _ (hw.drop _) (by simp; omega) (by simp; omega), Option.bind_some,
          rnode_f _ _ (by rw [mroot_size (hw.take _)]; omega) (by rw [mroot_size (hw.drop _)]; omega), Option.bind_some, mroot_two h2]
/-! ### what shows a leaf -/
end Go.Proofs.Ytdcbacbilncnnaa.M
end
section
/- The tree of digests: Add. -/
set_option linter.unusedVariables false
set_option linter.unusedSimpArgs false
namespace Go.Proofs.Ytdcbacbilncnnaa.T
open Go.RowKit Go.Proofs.Ytdcbacbilncnnaa.PMk Go.Proofs.YtdcbacbilncnnaaW.PrintWords Go.Proofs.YtdcbacbilncnnaaW.PrintLast
theorem info9 : (Try.prog.info? 9).map (fun i => (i.zero, i.size, i.bytes)) = some (some (.string ⟨#[]⟩), 1, 16) := by kernel_rfl
/-- The tree at g, and where its rows lie. -/
structure At (w : World) (base g : Nat) (vl vp : Value) (L P : List ByteArray) : Prop where
  blk : w.heap[g]? = some (.cells #[vl, vp] 121 (0, 0))
  lo : base ≤ g
  rl : w.ownsRow base 9 1 vl L.length (pw_strs L)
  rp : w.ownsRow base 9 1 vp P.length (pw_strs P)
  ap : ∀ k, vl.ownBlock = some k → vp.ownBlock ≠ some k
theorem At.below {w w1 : World} {base g : Nat} {vl vp : Value} {L P : List ByteArray} (h : At w base g vl vp L P) (hb : Below w.heap.size w w1) : At w1 base g vl vp L P :=
  ⟨(hb.block g (Array.getElem?_eq_some_iff.1 h.blk).1).trans h.blk, h.lo, pw_own_below h.rl hb, pw_own_below h.rp hb, h.ap⟩
theorem At.c0 {w : World} {base g : Nat} {vl vp : Value} {L P : List ByteArray} (h : At w base g vl vp L P) : w.cell? ⟨g, 0, none⟩ = some vl := by
  rw [cell_of_row w g 0 _ 121 (0, 0) h.blk]; rfl
theorem At.c1 {w : World} {base g : Nat} {vl vp : Value} {L P : List ByteArray} (h : At w base g vl vp L P) : w.cell? ⟨g, 1, none⟩ = some vp := by
  rw [cell_of_row w g 1 _ 121 (0, 0) h.blk]; rfl
theorem At.base {w : World} {base g : Nat} {vl vp : Value} {L P : List ByteArray} (h : At w base g vl vp L P) : base ≤ w.heap.size :=
  Nat.le_trans h.lo (Nat.le_of_lt (Array.getElem?_eq_some_iff.1 h.blk).1)
theorem At.f0 {w : World} {base g : Nat} {vl vp : Value} {L P : List ByteArray} (h : At w base g vl vp L P) (i : Nat) : w.frozen? ⟨g, i, none⟩ = false := by
  simp [World.frozen?, h.blk]
theorem At.gl {w : World} {base g : Nat} {vl vp : Value} {L P : List ByteArray} (h : At w base g vl vp L P) : some g ≠ vl.ownBlock := own_ne h.rl h.blk (by decide)
theorem At.gp {w : World} {base g : Nat} {vl vp : Value} {L P : List ByteArray} (h : At w base g vl vp L P) : some g ≠ vp.ownBlock := own_ne h.rp h.blk (by decide)
theorem strs_app (L : List ByteArray) (h : ByteArray) : pw_strs L ++ [.string h] = pw_strs (L ++ [h]) := by simp [pw_strs]
/-- What an act on the tree at g leaves of the world, and where the rows lie behind it. -/
structure Step (w w' : World) (g : Nat) (vl vp vl' vp' : Value) : Prop where
  os : w'.os = w.os
  tape : w'.tape = w.tape
  output : w'.output = w.output
  size : w.heap.size ≤ w'.heap.size
  block : ∀ k, k < w.heap.size → k ≠ g → vl.ownBlock ≠ some k → vp.ownBlock ≠ some k → w'.heap[k]? = w.heap[k]?
  nl : ∀ k, vl'.ownBlock = some k → vl.ownBlock = some k ∨ w.heap.size ≤ k
  np : ∀ k, vp'.ownBlock = some k → vp.ownBlock = some k ∨ w.heap.size ≤ k
theorem Step.refl (w : World) (g : Nat) (vl vp : Value) : Step w w g vl vp vl vp := ⟨rfl, rfl, rfl, Nat.le_refl _, fun _ _ _ _ _ => rfl, fun _ h => .inl h, fun _ h => .inl h⟩
theorem Step.trans {w w1 w2 : World} {g : Nat} {vl vp vl1 vp1 vl2 vp2 : Value} (h : Step w w1 g vl vp vl1 vp1) (k : Step w1 w2 g vl1 vp1 vl2 vp2) : Step w w2 g vl vp vl2 vp2 := by
  refine ⟨k.os.trans h.os, k.tape.trans h.tape, k.output.trans h.output, Nat.le_trans h.size k.size, fun i hi hg hl hp => ?_, fun i hi => ?_, fun i hi => ?_⟩
  · refine (k.block i (Nat.lt_of_lt_of_le hi h.size) hg (fun e => ?_) (fun e => ?_)).trans (h.block i hi hg hl hp)
    · rcases h.nl i e with e | e
      · exact hl e
      · omega
    · rcases h.np i e with e | e
      · exact hp e
      · omega
  · rcases k.nl i hi with e | e
    · exact h.nl i e
    · exact .inr (Nat.le_trans h.size e)
  · rcases k.np i hi with e | e
    · exact h.np i e
    · exact .inr (Nat.le_trans h.size e)
theorem Step.of_below {w w1 : World} {g : Nat} {vl vp : Value} (h : Below w.heap.size w w1) : Step w w1 g vl vp vl vp := ⟨h.os, h.tape, h.output, h.size, fun k hk _ _ _ => h.block k hk, fun _ h => .inl h, fun _ h => .inl h⟩
/-- Another leaf behind the leaves. -/
theorem At.leaf {w w2 : World} {base g g1 cap1 : Nat} {vl vp : Value} {L P : List ByteArray} {h : ByteArray} {o : Obj} (hA : At w base g vl vp L P)
    (ho : w2.ownsRow base 9 1 (.slice (some ⟨g1, 0, none⟩) (L.length + 1) cap1) (L.length + 1) (pw_strs L ++ [.string h])) (hg : (w.alloc o).grownBy w2 vl.ownBlock) (ha : vl.ownBlock = some g1 ∨ g1 = w.heap.size + 1) :
    At (w2.setCell ⟨g, 0, none⟩ (.slice (some ⟨g1, 0, none⟩) (L.length + 1) cap1)) base g (.slice (some ⟨g1, 0, none⟩) (L.length + 1) cap1) vp (L ++ [h]) P := by
  have hlt := (Array.getElem?_eq_some_iff.1 hA.blk).1
  have hb2 : w2.heap[g]? = some (.cells #[vl, vp] 121 (0, 0)) := (hg.block g (by simp; omega) hA.gl).trans ((heap_alloc_old w o hlt).trans hA.blk)
  have hne : g ≠ g1 := by
    rcases ha with ha | ha
    · intro e; exact hA.gl (by rw [ha, e])
    · omega
  have hrp : w2.ownsRow base 9 1 vp P.length (pw_strs P) := (hA.rp.alloc o).kept hg (by
    by_cases hv : vp.ownBlock = none
    · exact .inl hv
    · right; intro e
      obtain ⟨k, hk⟩ := Option.ne_none_iff_exists'.1 hv
      exact hA.ap k (e ▸ hk) hk)
  refine ⟨?_, hA.lo, ?_, own_setCell hrp (by simpa using hA.gp) _, ?_⟩
  · exact (blk_set hb2 0 _).trans rfl
  · rw [List.length_append, List.length_singleton, ← strs_app]
    exact own_setCell ho (by simpa [Value.ownBlock] using hne) _
  · intro k hk
    simp only [Value.ownBlock, Option.some.injEq] at hk
    subst hk
    rcases ha with ha | ha
    · exact hA.ap _ ha
    · intro e; have := own_lt hA.rp _ e; omega
theorem At.leaf_step {w w2 : World} {base g g1 cap1 : Nat} {vl vp : Value} {L P : List ByteArray} {o : Obj} (u : Value) (hA : At w base g vl vp L P)
    (hg : (w.alloc o).grownBy w2 vl.ownBlock) (ha : vl.ownBlock = some g1 ∨ g1 = w.heap.size + 1) :
    Step w (w2.setCell ⟨g, 0, none⟩ u) g vl vp (.slice (some ⟨g1, 0, none⟩) (L.length + 1) cap1) vp := by
  have hs := hg.size
  simp at hs
  refine ⟨hg.os, hg.tape, hg.output, by simp; omega, fun k hk hkg hl _ => ?_, fun k hk => ?_, fun _ h => .inl h⟩
  · exact (Below.heap_setCell w2 ⟨g, 0, none⟩ u k hkg).trans ((hg.block k (by simp; omega) (fun e => hl e.symm)).trans (heap_alloc_old w o hk))
  · simp only [Value.ownBlock, Option.some.injEq] at hk
    subst hk
    rcases ha with ha | ha
    · exact .inl ha
    · right; omega
/-- Other peaks. -/
theorem At.peak {w w2 : World} {base g g1 cap1 n : Nat} {vl vp : Value} {L P Q : List ByteArray} {o : Obj} (hA : At w base g vl vp L P) (hn : Q.length = n)
    (ho : w2.ownsRow base 9 1 (.slice (some ⟨g1, 0, none⟩) n cap1) n (pw_strs Q)) (hg : (w.alloc o).grownBy w2 vp.ownBlock) (ha : vp.ownBlock = some g1 ∨ g1 = w.heap.size + 1) :
    At (w2.setCell ⟨g, 1, none⟩ (.slice (some ⟨g1, 0, none⟩) n cap1)) base g vl (.slice (some ⟨g1, 0, none⟩) n cap1) L Q := by
  subst hn
  have hlt := (Array.getElem?_eq_some_iff.1 hA.blk).1
  have hb2 : w2.heap[g]? = some (.cells #[vl, vp] 121 (0, 0)) := (hg.block g (by simp; omega) hA.gp).trans ((heap_alloc_old w o hlt).trans hA.blk)
  have hne : g ≠ g1 := by
    rcases ha with ha | ha
    · intro e; exact hA.gp (by rw [ha, e])
    · omega
  have hrl : w2.ownsRow base 9 1 vl L.length (pw_strs L) := (hA.rl.alloc o).kept hg (by
    by_cases hv : vl.ownBlock = none
    · exact .inl hv
    · right; intro e
      obtain ⟨k, hk⟩ := Option.ne_none_iff_exists'.1 hv
      exact hA.ap k hk (e ▸ hk))
  refine ⟨(blk_set hb2 1 _).trans rfl, hA.lo, own_setCell hrl (by simpa using hA.gl) _, own_setCell ho (by simpa [Value.ownBlock] using hne) _, ?_⟩
  intro k hk
  simp only [Value.ownBlock]
  intro e
  obtain rfl := Option.some.inj e
  rcases ha with ha | ha
  · exact hA.ap _ hk ha
  · have := own_lt hA.rl _ hk; omega
theorem At.peak_step {w w2 : World} {base g g1 cap1 n : Nat} {vl vp : Value} {L P : List ByteArray} {o : Obj} (u : Value) (hA : At w base g vl vp L P)
    (hg : (w.alloc o).grownBy w2 vp.ownBlock) (ha : vp.ownBlock = some g1 ∨ g1 = w.heap.size + 1) :
    Step w (w2.setCell ⟨g, 1, none⟩ u) g vl vp vl (.slice (some ⟨g1, 0, none⟩) n cap1) := by
  have hs := hg.size
  simp at hs
  refine ⟨hg.os, hg.tape, hg.output, by simp; omega, fun k hk hkg _ hl => ?_, fun _ h => .inl h, fun k hk => ?_⟩
  · exact (Below.heap_setCell w2 ⟨g, 1, none⟩ u k hkg).trans ((hg.block k (by simp; omega) (fun e => hl e.symm)).trans (heap_alloc_old w o hk))
  · simp only [Value.ownBlock, Option.some.injEq] at hk
    subst hk
    rcases ha with ha | ha
    · exact .inl ha
    · right; omega
theorem At.far {w w2 : World} {base g : Nat} {vl vp : Value} {L P : List ByteArray} {o : Obj} (hA : At w base g vl vp L P) (hg : (w.alloc o).grownBy w2 vl.ownBlock ∨ (w.alloc o).grownBy w2 vp.ownBlock) :
    w2.heap[g]? = some (.cells #[vl, vp] 121 (0, 0)) := by
  have hlt := (Array.getElem?_eq_some_iff.1 hA.blk).1
  rcases hg with hg | hg
  · exact (hg.block g (by simp; omega) hA.gl).trans ((heap_alloc_old w o hlt).trans hA.blk)
  · exact (hg.block g (by simp; omega) hA.gp).trans ((heap_alloc_old w o hlt).trans hA.blk)
theorem cell53 {w : World} {g : Nat} {vl vp : Value} (h : w.heap[g]? = some (.cells #[vl, vp] 121 (0, 0))) : w.cell? ⟨g, 0, none⟩ = some vl ∧ w.cell? ⟨g, 1, none⟩ = some vp ∧ w.frozen? ⟨g, 0, none⟩ = false ∧ w.frozen? ⟨g, 1, none⟩ = false := by
  refine ⟨?_, ?_, ?_, ?_⟩
  · rw [cell_of_row w g 0 _ 121 (0, 0) h]; rfl
  · rw [cell_of_row w g 1 _ 121 (0, 0) h]; rfl
  · simp [World.frozen?, h]
  · simp [World.frozen?, h]
theorem own_str {w : World} {base n q gp cap : Nat} {P : List ByteArray} (h : w.ownsRow base 9 1 (.slice (some ⟨gp, 0, none⟩) n cap) n (pw_strs P)) (hq : q < P.length) : w.cell? ⟨gp, q, none⟩ = some (.string (P.getD q ByteArray.empty)) := by
  have e := h.cells (g := gp) rfl q (.string (P.getD q ByteArray.empty)) (by simp [pw_strs, List.getElem?_map, hq])
  have hadd : (⟨gp, 0, none⟩ : Addr).add q = ⟨gp, q, none⟩ := by unfold Addr.add; split <;> simp_all
  rwa [hadd] at e
theorem own_str' {w : World} {base n q gp cap : Nat} {P : List ByteArray} (h : w.ownsRow base 9 1 (.slice (some ⟨gp, 0, none⟩) n cap) P.length (pw_strs P)) (hn : P.length = n) (hq : q < n) : w.cell? ⟨gp, q, none⟩ = some (.string (P.getD q ByteArray.empty)) := by
  subst hn
  exact own_str h hq
theorem own_take {w : World} {base n q gp cap : Nat} {P : List ByteArray} (h : w.ownsRow base 9 1 (.slice (some ⟨gp, 0, none⟩) n cap) P.length (pw_strs P)) (hn : P.length = n) (hq : q ≤ n) : w.ownsRow base 9 1 (.slice (some ⟨gp, 0, none⟩) q cap) q (pw_strs (P.take q)) := by
  subst hn
  obtain ⟨h1, h2⟩ := h
  refine ⟨by simp [pw_strs]; omega, ?_⟩
  rcases h2 with ⟨h3, _⟩ | ⟨g', cap', cur, hv, hb, hg, hc, hm, hs, ht⟩
  · simp at h3
  · simp only [Value.slice.injEq, Option.some.injEq, Addr.mk.injEq] at hv
    obtain ⟨⟨rfl, _, _⟩, _, rfl⟩ := hv
    refine .inr ⟨gp, cap, cur, rfl, hb, hg, by omega, hm, hs, ?_⟩
    rw [Nat.mul_one] at ht ⊢
    rw [show pw_strs (P.take q) = (pw_strs P).take q by simp [pw_strs, List.map_take], ← ht, List.take_take]
    congr 1
    omega
theorem own_cap {w : World} {base n gp cap : Nat} {P : List ByteArray} (h : w.ownsRow base 9 1 (.slice (some ⟨gp, 0, none⟩) n cap) P.length (pw_strs P)) (hn : P.length = n) : n ≤ cap := by
  subst hn
  rcases h.2 with ⟨h3, _⟩ | ⟨g', cap', cur, hv, hb, hg, hc, hm, hs, ht⟩
  · simp at h3
  · simp only [Value.slice.injEq, Option.some.injEq, Addr.mk.injEq] at hv
    omega
theorem below_drew {w w1 : World} (h : Below w.drew.heap.size w.drew w1) : Below w.heap.size w w1 := ⟨h.os, h.tape, h.output, h.size, h.block⟩
/-- What the loop makes of the peaks: as long as the number is even, the last two become one. -/
def car : Nat → List ByteArray → Nat → Option (List ByteArray)
  | 0, _, _ => none
  | k + 1, P, n => if n % 2 = 0 then (if 2 ≤ P.length then ((hash_Node.f (P.getD (P.length - 2) ByteArray.empty) (P.getD (P.length - 1) ByteArray.empty)).bind fun t => car k (P.take (P.length - 2) ++ [t]) (n / 2)) else none) else some P
end Go.Proofs.Ytdcbacbilncnnaa.T
end
section
/- The tree of digests: Add. -/
set_option linter.unusedVariables false
set_option linter.unusedSimpArgs false
namespace Go.Proofs.Ytdcbacbilncnnaa.T
open Go.RowKit Go.Proofs.Ytdcbacbilncnnaa.PMk Go.Proofs.YtdcbacbilncnnaaW.PrintWords Go.Proofs.YtdcbacbilncnnaaW.PrintLast
theorem and1 (n : Int) : Go.bits .and .i64 n 1 = n % 2 := by
  have h127 : (BitVec.ofInt 64 1).toNat = 2 ^ 1 - 1 := by decide
  have key : (BitVec.ofInt 64 n &&& BitVec.ofInt 64 1).toNat = (n % ((2 ^ 64 : Nat) : Int)).toNat % 2 ^ 1 := by
    rw [BitVec.toNat_and, BitVec.toNat_ofInt, h127, Nat.and_two_pow_sub_one_eq_mod]
  show IntKind.i64.wrap ((BitVec.ofInt 64 n &&& BitVec.ofInt 64 1).toNat : Nat) = n % 2
  rw [key, IntKind.wrap_i64]
  omega
theorem car_even {kk m : Nat} {P Q : List ByteArray} (h : car kk P m = some Q) (hev : m % 2 = 0) :
    ∃ k q t, kk = k + 1 ∧ P.length = q + 2 ∧ hash_Node.f (P.getD q ByteArray.empty) (P.getD (q + 1) ByteArray.empty) = some t ∧ car k (P.take q ++ [t]) (m / 2) = some Q := by
  cases kk with
  | zero => simp [car] at h
  | succ k =>
    rw [car, if_pos hev] at h
    split at h
    · next h2 =>
      obtain ⟨t, ht, hc⟩ := Option.bind_eq_some_iff.mp h
      refine ⟨k, P.length - 2, t, rfl, by omega, ht ▸ ?_, hc⟩
      congr 2; omega
    · exact absurd h (by simp)
theorem car_odd {kk m : Nat} {P Q : List ByteArray} (h : car kk P m = some Q) (hev : ¬ m % 2 = 0) : P = Q := by
  cases kk with
  | zero => simp [car] at h
  | succ k =>
    rw [car, if_neg hev] at h
    exact Option.some.inj h
theorem w64 (q : Nat) (h : q < 1000002) : wrap64 (q : Int) = (q : Int) ∧ wrap64 ((q : Int) + 2 - 1) = (q : Int) + 1 := ⟨by unfold wrap64; omega, by unfold wrap64; omega⟩
set_option maxRecDepth 100000 in
theorem add_raw (s h : ByteArray) (hleaf : hash_Leaf.f s = some h) (w : World) (base g : Nat) (vl vp : Value) (L P Q : List ByteArray) (hA : At w base g vl vp L P) (hn : L.length + 1 < 1000000) (hp : P.length < 1000000)
    (kc : Nat) (hc : car kc (P ++ [h]) (L.length + 1) = some Q) :
    Calls Try.prog 56 #[.pointer (some ⟨g, 0, none⟩), .string s] w fun e w' => e = .returned (.string h) ∧ ∃ vl' vp', At w' base g vl' vp' (L ++ [h]) Q ∧ Step w w' g vl vp vl' vp' := by
  have HA := Lib.hid hA
  have HL := Lib.hid hleaf
  have HC := Lib.hid hc
  obtain ⟨i0, hi, hz0, hz1, hz2⟩ := info_parts info9
  clear hA hleaf hc
  go_enter Try.func56, Try.ntmps56
  go_wp2_with (first
    | (go_at_call 20; refine (hash_Leaf.calls s h _ HL.out).mono ?_; rintro e w1 ⟨rfl, hb1⟩; have HA1 := Lib.hid (HA.out.below hb1); have HS1 := Lib.hid (Step.of_below (g := g) (vl := vl) (vp := vp) hb1); clear hb1; have c0 := HA1.out.c0; have hbs := HA1.out.base)
    | (at_builtin; refine wpList_append_lies _ rfl (.tmp 16) (.tmp 18) 51 rfl base 9 i0 (.string ⟨#[]⟩) 1 16 Try.underlying51 hi hz0 hz1 hz2 rfl (by decide) vl _ _ (by rfl) (HA1.out.rl.alloc _) ⟨w1.heap.size, 0, none⟩ 1 1 [.string h] (by rfl) rfl (World.news_of_block (heap_alloc_new w1 _)) (by intro u hu; simp at hu; subst hu; rfl) (by decide) (by unfold maxLen; omega) (by omega) (by simp; omega) (w1.heap.size + 1) (by simp) ?_))
  intro g1 cap1 w2 hown1 hgrow1 hat1 hlt1
  have HA2 := Lib.hid (HA1.out.leaf hown1 hgrow1 hat1)
  have HS2 := Lib.hid (HS1.out.trans (HA1.out.leaf_step (.slice (some ⟨g1, 0, none⟩) (L.length + 1) cap1) (cap1 := cap1) hgrow1 hat1))
  have b2 := cell53 (HA1.out.far (.inl hgrow1))
  have b20 := b2.1
  have b2f := b2.2.2.1
  clear b2 hown1 hgrow1 hat1 hlt1 c0 hbs
  have c1 := HA2.out.c1
  have hbs := HA2.out.base
  go_wp2_with (at_builtin; refine wpList_append_lies _ rfl (.tmp 26) (.tmp 28) 51 rfl base 9 i0 (.string ⟨#[]⟩) 1 16 Try.underlying51 hi hz0 hz1 hz2 rfl (by decide) vp _ _ (by rfl) (HA2.out.rp.alloc _) ⟨w2.heap.size, 0, none⟩ 1 1 [.string h] (by rfl) rfl (World.news_of_block (w := (w2.setCell _ _).alloc _) (by simpa using heap_alloc_new (w2.setCell ⟨g, 0, none⟩ (.slice (some ⟨g1, 0, none⟩) (L.length + 1) cap1)) (.cells #[.string h] 9))) (by intro u hu; simp at hu; subst hu; rfl) (by decide) (by unfold maxLen; omega) (by omega) (by simp; simpa using Nat.le_succ_of_le hbs) (w2.heap.size + 1) (by simp) ?_)
  intro g2 cap2 w3 hown2 hgrow2 hat2 hlt2
  have HA3 := Lib.hid (HA2.out.peak (Q := P ++ [h]) (n := P.length + 1) (by simp) (by rw [← strs_app]; exact hown2) hgrow2 (hat2.imp id (fun e => by simpa using e)))
  have HS3 := Lib.hid (HS2.out.trans (HA2.out.peak_step (n := P.length + 1) (cap1 := cap2) (.slice (some ⟨g2, 0, none⟩) (P.length + 1) cap2) hgrow2 (hat2.imp id (fun e => by simpa using e))))
  have b2 := cell53 (HA2.out.far (.inr hgrow2))
  have b31 := b2.2.1
  have b3f := b2.2.2.2
  clear b2 hown2 hgrow2 hat2 hlt2 c1 hbs b20 b2f HA2 HS2 HA1 HS1
  have c0 := HA3.out.c0
  go_wp2_with fail
  go_loopw [6] (fun v wr => ∃ (m kk : Nat) (Pk : List ByteArray) (vq : Value), 1 ≤ m ∧ m ≤ 1000000 ∧ Pk.length ≤ 1000000 ∧ v = .int .i64 m ∧ Hid (car kk Pk m = some Q) ∧ Hid (At wr base g (.slice (some ⟨g1, 0, none⟩) (L.length + 1) cap1) vq (L ++ [h]) Pk) ∧ Hid (Step w wr g vl vp (.slice (some ⟨g1, 0, none⟩) (L.length + 1) cap1) vq)) (fun v _ => (intOf v).toNat)
  case atStart => exact ⟨L.length + 1, kc, P ++ [h], .slice (some ⟨g2, 0, none⟩) (P.length + 1) cap2, by omega, by omega, by simp; omega, rfl, HC, HA3, HS3⟩
  case round =>
    obtain ⟨m, kk, Pk, vq, hm1, hm2, hpk, rfl, HC1, HA4, HS4⟩ := hrel
    by_cases hev : m % 2 = 0
    · have e1 : Go.bits .and .i64 (m : Int) 1 = 0 := by rw [and1]; omega
      obtain ⟨k, q, t, rfl, hq, ht, hcar⟩ := car_even HC1.out hev
      obtain ⟨gp, cq, rfl, hgb, hgl⟩ := World.ownsRow.form HA4.out.rp (by omega)
      rw [hq] at HA4 HS4
      have c1 := HA4.out.c1
      have x0 : wr.cell? ⟨gp, q, none⟩ = _ := own_str (by have := HA4.out.rp; rw [hq] at this; exact this) (by omega)
      have x1 : wr.cell? ⟨gp, q + 1, none⟩ = _ := own_str (by have := HA4.out.rp; rw [hq] at this; exact this) (by omega)
      obtain ⟨x, hx⟩ : ∃ x, Pk.getD q ByteArray.empty = x := ⟨_, rfl⟩
      obtain ⟨y, hy⟩ : ∃ y, Pk.getD (q + 1) ByteArray.empty = y := ⟨_, rfl⟩
      rw [hx] at x0 ht
      rw [hy] at x1 ht
      have hx := Lib.hid hx
      have hy := Lib.hid hy
      have hcar := Lib.hid hcar
      have ht := Lib.hid ht
      clear HC1 HA HC HA3 HS3 b31 b3f c0
      go_wp2_with fail
      have hqc : q + 2 ≤ cq := own_cap HA4.out.rp hq
      have hq0 : (0 : Int) ≤ (q : Int) := by omega
      have hq1 : (q : Int) ≤ (cq : Int) := by omega
      have hq2 : (q : Int) < (q : Int) + 2 := by omega
      have hq3 : (0 : Int) ≤ (q : Int) + 1 := by omega
      have hq4 : (q : Int) + 1 < (q : Int) + 2 := by omega
      have tq1 : ((q : Int) + 1).toNat = q + 1 := by omega
      have hqs : q < 1000002 := by omega
      obtain ⟨wq, wq1⟩ := w64 q hqs
      refine start_ (n := 30) (S := fun w' => w'.cell? ⟨g, 1, none⟩ = some (.slice (some ⟨gp, 0, none⟩) (q + 2) cq) ∧ w'.cell? ⟨gp, q, none⟩ = some (.string x) ∧ w'.cell? ⟨gp, q + 1, none⟩ = some (.string y)) (ds := [26, 29]) #[false, false, false, false, false, false, false, false, false, false, false, false, false, false, false, false, false, false, false, false, false, false, false, false, false, false, false, false, false, false] (by kernel_rfl) rfl rfl ⟨c1, x0, x1⟩ (fun hHeld => ?_)
      refine pure_ (i := 0) (N := some 47) (v := ?_) (a' := ?_) #[true, false, false, false, false, false, false, false, false, false, false, false, false, false, false, false, false, false, false, false, false, false, false, false, false, false, false, false, false, false] rfl rfl (by kernel_rfl) (fun _ _ _ h => h) (Or.inl ⟨by rfl, ?_⟩) ?_ ?_
      rotate_left
      · intro w'
        go_simp
        with_reducible rfl
      rotate_left
      · simp only [Act.put, List.setIfInBounds_toArray, List.set_cons_zero, List.set_cons_succ, i64_w, i32_w]
        rfl
      refine pure_ (i := 1) (N := some 48) (v := ?_) (a' := ?_) #[true, true, false, false, false, false, false, false, false, false, false, false, false, false, false, false, false, false, false, false, false, false, false, false, false, false, false, false, false, false] rfl rfl (by kernel_rfl) (fun _ _ _ h => h) (Or.inl ⟨by rfl, ?_⟩) ?_ ?_
      rotate_left
      · intro w'
        go_simp
        with_reducible rfl
      rotate_left
      · simp only [Act.put, List.setIfInBounds_toArray, List.set_cons_zero, List.set_cons_succ, i64_w, i32_w]
        rfl
      refine pure_ (i := 2) (N := some 49) (v := ?_) (a' := ?_) #[true, true, true, false, false, false, false, false, false, false, false, false, false, false, false, false, false, false, false, false, false, false, false, false, false, false, false, false, false, false] rfl rfl (by kernel_rfl) (fun _ _ _ h => h) (Or.inl ⟨by rfl, ?_⟩) ?_ ?_
      rotate_left
      · intro w'
        go_simp
        with_reducible rfl
      rotate_left
      · simp only [Act.put, List.setIfInBounds_toArray, List.set_cons_zero, List.set_cons_succ, i64_w, i32_w]
        rfl
      refine pure_ (i := 3) (N := some 50) (v := ?_) (a' := ?_) #[true, true, true, true, false, false, false, false, false, false, false, false, false, false, false, false, false, false, false, false, false, false, false, false, false, false, false, false, false, false] rfl rfl (by kernel_rfl) (fun _ _ _ h => h) (Or.inl ⟨by rfl, ?_⟩) ?_ ?_
      rotate_left
      · intro w'
        go_simp
        with_reducible rfl
      rotate_left
      · simp only [Act.put, List.setIfInBounds_toArray, List.set_cons_zero, List.set_cons_succ, i64_w, i32_w]
        rfl
      refine pure_ (i := 5) (N := some 52) (v := ?_) (a' := ?_) #[true, true, true, true, false, true, false, false, false, false, false, false, false, false, false, false, false, false, false, false, false, false, false, false, false, false, false, false, false, false] rfl rfl (by kernel_rfl) (fun _ _ _ h => h) (Or.inl ⟨by rfl, ?_⟩) ?_ ?_
      rotate_left
      · intro w'
        go_simp
        with_reducible rfl
      rotate_left
      · simp only [Act.put, List.setIfInBounds_toArray, List.set_cons_zero, List.set_cons_succ, i64_w, i32_w]
        rfl
      refine pure_ (i := 6) (N := some 53) (v := ?_) (a' := ?_) #[true, true, true, true, false, true, true, false, false, false, false, false, false, false, false, false, false, false, false, false, false, false, false, false, false, false, false, false, false, false] rfl rfl (by kernel_rfl) (fun _ _ _ h => h) (Or.inl ⟨by rfl, ?_⟩) ?_ ?_
      rotate_left
      · intro w'
        go_simp
        with_reducible rfl
      rotate_left
      · simp only [Act.put, List.setIfInBounds_toArray, List.set_cons_zero, List.set_cons_succ, i64_w, i32_w]
        rfl
      refine pure_ (i := 8) (N := some 55) (v := ?_) (a' := ?_) #[true, true, true, true, false, true, true, false, true, false, false, false, false, false, false, false, false, false, false, false, false, false, false, false, false, false, false, false, false, false] rfl rfl (by kernel_rfl) (fun _ _ _ h => h) (Or.inl ⟨by rfl, ?_⟩) ?_ ?_
      rotate_left
      · intro w'
        go_simp
        with_reducible rfl
      rotate_left
      · simp only [Act.put, List.setIfInBounds_toArray, List.set_cons_zero, List.set_cons_succ, i64_w, i32_w]
        rfl
      refine pure_ (i := 9) (N := some 56) (v := ?_) (a' := ?_) #[true, true, true, true, false, true, true, false, true, true, false, false, false, false, false, false, false, false, false, false, false, false, false, false, false, false, false, false, false, false] rfl rfl (by kernel_rfl) (fun _ _ _ h => h) (Or.inl ⟨by rfl, ?_⟩) ?_ ?_
      rotate_left
      · intro w'
        go_simp
        with_reducible rfl
      rotate_left
      · simp only [Act.put, List.setIfInBounds_toArray, List.set_cons_zero, List.set_cons_succ, i64_w, i32_w]
        rfl
      refine pure_ (i := 10) (N := some 57) (v := ?_) (a' := ?_) #[true, true, true, true, false, true, true, false, true, true, true, false, false, false, false, false, false, false, false, false, false, false, false, false, false, false, false, false, false, false] rfl rfl (by kernel_rfl) (fun _ _ _ h => h) (Or.inl ⟨by rfl, ?_⟩) ?_ ?_
      rotate_left
      · intro w'
        go_simp
        with_reducible rfl
      rotate_left
      · simp only [Act.put, List.setIfInBounds_toArray, List.set_cons_zero, List.set_cons_succ, i64_w, i32_w]
        rfl
      refine pure_ (i := 12) (N := some 59) (v := ?_) (a' := ?_) #[true, true, true, true, false, true, true, false, true, true, true, false, true, false, false, false, false, false, false, false, false, false, false, false, false, false, false, false, false, false] rfl rfl (by kernel_rfl) (fun _ _ _ h => h) (Or.inl ⟨by rfl, ?_⟩) ?_ ?_
      rotate_left
      · intro w'
        go_simp
        with_reducible rfl
      rotate_left
      · simp only [Act.put, List.setIfInBounds_toArray, List.set_cons_zero, List.set_cons_succ, i64_w, i32_w]
        rfl
      refine pure_ (i := 13) (N := some 60) (v := ?_) (a' := ?_) #[true, true, true, true, false, true, true, false, true, true, true, false, true, true, false, false, false, false, false, false, false, false, false, false, false, false, false, false, false, false] rfl rfl (by kernel_rfl) (fun _ _ _ h => h) (Or.inl ⟨by rfl, ?_⟩) ?_ ?_
      rotate_left
      · intro w'
        go_simp
        with_reducible rfl
      rotate_left
      · simp only [Act.put, List.setIfInBounds_toArray, List.set_cons_zero, List.set_cons_succ, i64_w, i32_w]
        rfl
      refine pure_ (i := 16) (N := some 63) (v := ?_) (a' := ?_) #[true, true, true, true, false, true, true, false, true, true, true, false, true, true, false, false, true, false, false, false, false, false, false, false, false, false, false, false, false, false] rfl rfl (by kernel_rfl) (fun _ _ _ h => h) (Or.inl ⟨by rfl, ?_⟩) ?_ ?_
      rotate_left
      · intro w'
        go_simp
        with_reducible rfl
      rotate_left
      · simp only [Act.put, List.setIfInBounds_toArray, List.set_cons_zero, List.set_cons_succ, i64_w, i32_w]
        rfl
      refine pure_ (i := 17) (N := some 64) (v := ?_) (a' := ?_) #[true, true, true, true, false, true, true, false, true, true, true, false, true, true, false, false, true, true, false, false, false, false, false, false, false, false, false, false, false, false] rfl rfl (by kernel_rfl) (fun _ _ _ h => h) (Or.inl ⟨by rfl, ?_⟩) ?_ ?_
      rotate_left
      · intro w'
        go_simp
        with_reducible rfl
      rotate_left
      · simp only [Act.put, List.setIfInBounds_toArray, List.set_cons_zero, List.set_cons_succ, i64_w, i32_w]
        rfl
      refine pure_ (i := 18) (N := some 65) (v := ?_) (a' := ?_) #[true, true, true, true, false, true, true, false, true, true, true, false, true, true, false, false, true, true, true, false, false, false, false, false, false, false, false, false, false, false] rfl rfl (by kernel_rfl) (fun _ _ _ h => h) (Or.inl ⟨by rfl, ?_⟩) ?_ ?_
      rotate_left
      · intro w'
        go_simp
        with_reducible rfl
      rotate_left
      · simp only [Act.put, List.setIfInBounds_toArray, List.set_cons_zero, List.set_cons_succ, i64_w, i32_w]
        rfl
      refine pure_ (i := 20) (N := some 67) (v := ?_) (a' := ?_) #[true, true, true, true, false, true, true, false, true, true, true, false, true, true, false, false, true, true, true, false, true, false, false, false, false, false, false, false, false, false] rfl rfl (by kernel_rfl) (fun _ _ _ h => h) (Or.inl ⟨by rfl, ?_⟩) ?_ ?_
      rotate_left
      · intro w'
        go_simp
        with_reducible rfl
      rotate_left
      · simp only [Act.put, List.setIfInBounds_toArray, List.set_cons_zero, List.set_cons_succ, i64_w, i32_w]
        rfl
      refine pure_ (i := 21) (N := some 68) (v := ?_) (a' := ?_) #[true, true, true, true, false, true, true, false, true, true, true, false, true, true, false, false, true, true, true, false, true, true, false, false, false, false, false, false, false, false] rfl rfl (by kernel_rfl) (fun _ _ _ h => h) (Or.inl ⟨by rfl, ?_⟩) ?_ ?_
      rotate_left
      · intro w'
        go_simp
        with_reducible rfl
      rotate_left
      · simp only [Act.put, List.setIfInBounds_toArray, List.set_cons_zero, List.set_cons_succ, i64_w, i32_w]
        rfl
      refine take_ (i := 4) (N := some 51) (v := ?_) (a' := ?_) #[true, true, true, true, true, true, true, false, true, true, true, false, true, true, false, false, true, true, true, false, true, true, false, false, false, false, false, false, false, false] rfl rfl (by kernel_rfl) (fun _ _ _ h => h) (Or.inl ⟨by rfl, ?_⟩) hHeld ?_ ?_
      rotate_left
      · rintro w' ⟨s0, s1, s2⟩
        go_simp
        with_reducible rfl
      rotate_left
      · simp only [Act.put, List.setIfInBounds_toArray, List.set_cons_zero, List.set_cons_succ, i64_w, i32_w]
        rfl
      refine pure_ (i := 7) (N := some 54) (v := ?_) (a' := ?_) #[true, true, true, true, true, true, true, true, true, true, true, false, true, true, false, false, true, true, true, false, true, true, false, false, false, false, false, false, false, false] rfl rfl (by kernel_rfl) (fun _ _ _ h => h) (Or.inl ⟨by rfl, ?_⟩) ?_ ?_
      rotate_left
      · intro w'
        go_simp
        with_reducible rfl
      rotate_left
      · simp only [Act.put, List.setIfInBounds_toArray, List.set_cons_zero, List.set_cons_succ, i64_w, i32_w]
        rfl
      refine take_ (i := 11) (N := some 58) (v := ?_) (a' := ?_) #[true, true, true, true, true, true, true, true, true, true, true, true, true, true, false, false, true, true, true, false, true, true, false, false, false, false, false, false, false, false] rfl rfl (by kernel_rfl) (fun _ _ _ h => h) (Or.inl ⟨by rfl, ?_⟩) hHeld ?_ ?_
      rotate_left
      · rintro w' ⟨s0, s1, s2⟩
        go_simp
        with_reducible rfl
      rotate_left
      · simp only [Act.put, List.setIfInBounds_toArray, List.set_cons_zero, List.set_cons_succ, i64_w, i32_w]
        rfl
      refine pure_ (i := 14) (N := some 61) (v := ?_) (a' := ?_) #[true, true, true, true, true, true, true, true, true, true, true, true, true, true, true, false, true, true, true, false, true, true, false, false, false, false, false, false, false, false] rfl rfl (by kernel_rfl) (fun _ _ _ h => h) (Or.inl ⟨by rfl, ?_⟩) ?_ ?_
      rotate_left
      · intro w'
        go_simp
        with_reducible rfl
      rotate_left
      · simp only [Act.put, List.setIfInBounds_toArray, List.set_cons_zero, List.set_cons_succ, i64_w, i32_w]
        rfl
      refine take_ (i := 15) (N := some 62) (v := ?_) (a' := ?_) #[true, true, true, true, true, true, true, true, true, true, true, true, true, true, true, true, true, true, true, false, true, true, false, false, false, false, false, false, false, false] rfl rfl (by kernel_rfl) (fun _ _ _ h => h) (Or.inl ⟨by rfl, ?_⟩) hHeld ?_ ?_
      rotate_left
      · rintro w' ⟨s0, s1, s2⟩
        go_simp
        with_reducible rfl
      rotate_left
      · simp only [Act.put, List.setIfInBounds_toArray, List.set_cons_zero, List.set_cons_succ, i64_w, i32_w]
        rfl
      refine take_ (i := 19) (N := some 66) (v := ?_) (a' := ?_) #[true, true, true, true, true, true, true, true, true, true, true, true, true, true, true, true, true, true, true, true, true, true, false, false, false, false, false, false, false, false] rfl rfl (by kernel_rfl) (fun _ _ _ h => h) (Or.inl ⟨by rfl, ?_⟩) hHeld ?_ ?_
      rotate_left
      · rintro w' ⟨s0, s1, s2⟩
        go_simp
        with_reducible rfl
      rotate_left
      · simp only [Act.put, List.setIfInBounds_toArray, List.set_cons_zero, List.set_cons_succ, i64_w, i32_w]
        rfl
      refine pure_ (i := 22) (N := some 69) (v := ?_) (a' := ?_) #[true, true, true, true, true, true, true, true, true, true, true, true, true, true, true, true, true, true, true, true, true, true, true, false, false, false, false, false, false, false] rfl rfl (by kernel_rfl) (fun _ _ _ h => h) (Or.inl ⟨by rfl, ?_⟩) ?_ ?_
      rotate_left
      · intro w'
        go_simp
        with_reducible rfl
      rotate_left
      · simp only [Act.put, List.setIfInBounds_toArray, List.set_cons_zero, List.set_cons_succ, i64_w, i32_w]
        rfl
      refine take_ (i := 23) (N := some 70) (v := ?_) (a' := ?_) #[true, true, true, true, true, true, true, true, true, true, true, true, true, true, true, true, true, true, true, true, true, true, true, true, false, false, false, false, false, false] rfl rfl (by kernel_rfl) (fun _ _ _ h => h) (Or.inl ⟨by rfl, ?_⟩) hHeld ?_ ?_
      rotate_left
      · rintro w' ⟨s0, s1, s2⟩
        go_simp
        with_reducible rfl
      rotate_left
      · simp only [Act.put, List.setIfInBounds_toArray, List.set_cons_zero, List.set_cons_succ, i64_w, i32_w]
        rfl
      refine one_ (i := 24) (N := some 71) #[true, true, true, true, true, true, true, true, true, true, true, true, true, true, true, true, true, true, true, true, true, true, true, true, true, false, false, false, false, false] rfl rfl (by kernel_rfl) (by decide) (fun K hK => ?_)
      refine goes_ Try.func80 (by kernel_rfl) rfl #[.string x, .string y] (by rfl) rfl rfl (by simp only [List.map_toArray, List.map_cons, List.map_nil]; rfl) ?_
      with_reducible refine (hash_Node.calls _ _ t _ ht.out).mono ?_
      rintro e w4 ⟨rfl, hb4⟩
      refine ⟨_, rfl, ?_⟩
      clear wq wq1
      have HA5 := Lib.hid (HA4.out.below (below_drew hb4))
      have HS5 := Lib.hid (HS4.out.trans (Step.of_below (g := g) (vl := .slice (some ⟨g1, 0, none⟩) (L.length + 1) cap1) (vp := .slice (some ⟨gp, 0, none⟩) (q + 2) cq) (below_drew hb4)))
      clear hb4
      have hlen : w4.heap.size = w4.heap.size := rfl
      refine hK.out _ _ ⟨HA5.out.c1, hx.out ▸ own_str' HA5.out.rp hq (by omega), hy.out ▸ own_str' HA5.out.rp hq (by omega)⟩ (fun hHeld => ?_)
      clear hK K
      refine norm_ (a' := ?_) ?_ ?_
      rotate_left
      · show Act.put _ (some 71) _ = _
        simp only [Act.put, List.setIfInBounds_toArray, List.set_cons_zero, List.set_cons_succ, i64_w, i32_w]
        rfl
      refine one_ (i := 25) (N := some 72) #[true, true, true, true, true, true, true, true, true, true, true, true, true, true, true, true, true, true, true, true, true, true, true, true, true, true, false, false, false, false] rfl rfl (by kernel_rfl) (by decide) (fun K hK => ?_)
      refine value_ (w1 := ?_) (v := ?_) (by rfl) rfl ?_ ?_
      rotate_left 2
      · go_simp
        constructor
        · rfl
        · rfl
      have HA6 := Lib.hid (HA5.out.below ((Below.refl _ w4).alloc (Nat.le_refl _) (.cells #[.string t] 9)))
      refine hK.out _ _ ⟨HA6.out.c1, hx.out ▸ own_str' HA6.out.rp hq (by omega), hy.out ▸ own_str' HA6.out.rp hq (by omega)⟩ (fun hHeld => ?_)
      clear hK K
      refine norm_ (a' := ?_) ?_ ?_
      rotate_left
      · show Act.put _ (some 72) _ = _
        simp only [Act.put, List.setIfInBounds_toArray, List.set_cons_zero, List.set_cons_succ, i64_w, i32_w]
        rfl
      refine last_ (i := 26) (N := some 73) #[true, true, true, true, true, true, true, true, true, true, true, true, true, true, true, true, true, true, true, true, true, true, true, true, true, true, true, false, false, false] rfl rfl (by kernel_rfl) (by decide) (fun K hK => ?_)
      refine step_append_lies _ rfl (.tmp 54) (.tmp 72) 51 rfl base 9 i0 (.string ⟨#[]⟩) 1 16 Try.underlying51 hi hz0 hz1 hz2 rfl (by decide) (.slice (some ⟨gp, 0, none⟩) q cq) q (pw_strs (Pk.take q)) (by rfl) (own_take HA6.out.rp hq (by omega)) ⟨w4.heap.size, 0, none⟩ 1 1 [.string t] (by rfl) rfl (World.news_of_block (heap_alloc_new w4 _)) (by intro u hu; simp at hu; subst hu; rfl) (by decide) (by unfold maxLen; omega) (by omega) HA6.out.base (w4.heap.size + 1) (by simp) ?_
      intro g3 cap3 w5 hown3 hgrow3 hat3 hlt3
      have b2 := cell53 (HA5.out.far (.inr hgrow3))
      have b51 := b2.2.1
      have b5f := b2.2.2.2
      clear b2
      refine hK.out _ _ ?_
      clear hK K
      refine norm_ (a' := ?_) ?_ ?_
      rotate_left
      · show Act.put _ (some 73) _ = _
        simp only [Act.put, List.setIfInBounds_toArray, List.set_cons_zero, List.set_cons_succ, i64_w, i32_w]
        rfl
      refine pure_ (i := 27) (N := some 74) (v := ?_) (a' := ?_) #[true, true, true, true, true, true, true, true, true, true, true, true, true, true, true, true, true, true, true, true, true, true, true, true, true, true, true, true, false, false] rfl rfl (by kernel_rfl) (fun _ _ _ h => h) (Or.inl ⟨by rfl, ?_⟩) ?_ ?_
      rotate_left
      · intro w'
        go_simp
        with_reducible rfl
      rotate_left
      · simp only [Act.put, List.setIfInBounds_toArray, List.set_cons_zero, List.set_cons_succ, i64_w, i32_w]
        rfl
      refine pure_ (i := 28) (N := some 75) (v := ?_) (a' := ?_) #[true, true, true, true, true, true, true, true, true, true, true, true, true, true, true, true, true, true, true, true, true, true, true, true, true, true, true, true, true, false] rfl rfl (by kernel_rfl) (fun _ _ _ h => h) (Or.inl ⟨by rfl, ?_⟩) ?_ ?_
      rotate_left
      · intro w'
        go_simp
        with_reducible rfl
      rotate_left
      · simp only [Act.put, List.setIfInBounds_toArray, List.set_cons_zero, List.set_cons_succ, i64_w, i32_w]
        rfl
      refine last_ (i := 29) (N := none) #[true, true, true, true, true, true, true, true, true, true, true, true, true, true, true, true, true, true, true, true, true, true, true, true, true, true, true, true, true, true] rfl rfl (by kernel_rfl) (by decide) (fun K hK => ?_)
      refine skip_ (w1 := ?_) (by rfl) rfl ?_ ?_
      rotate_left
      · go_simp
        rfl
      refine hK.out _ _ ?_
      clear hK K
      refine done_ (by kernel_rfl) ?_
      have HA7 := Lib.hid (HA5.out.peak (Q := Pk.take q ++ [t]) (n := q + 1) (by simp; omega) (by rw [← strs_app]; exact hown3) hgrow3 hat3)
      have HS7 := Lib.hid (HS5.out.trans (HA5.out.peak_step (n := q + 1) (cap1 := cap3) (.slice (some ⟨g3, 0, none⟩) (q + 1) cap3) hgrow3 hat3))
      clear hown3 hgrow3 hat3 hlt3 HA6 HS5 HA5 hHeld HA4 HS4
      go_wp2_with fail
      go_roundw
      case rel => exact ⟨m / 2, k, Pk.take q ++ [t], _, by omega, by omega, by simp; omega, by go_num, hcar, HA7, HS7⟩
      case measure => simp [intOf]; omega
    · have HC2 := car_odd HC1.out hev
      have e1 : Go.bits .and .i64 (m : Int) 1 = 1 := by rw [and1]; omega
      go_wp2_with fail
      go_ret
      subst HC2
      exact ⟨rfl, _, _, HA4.out, HS4.out⟩
end Go.Proofs.Ytdcbacbilncnnaa.T
end
section
/- slices.Backward at a slice of strings: what its closure hands to the loop's body. After the kit's text on slices.All. -/
namespace Go.Proofs.Ytdcbacbilncnnaa.Bk
open Go.RowKit Go.Shelf
attribute [local go_sem] Oper.semAt_some
def upto {α : Type} (f : Nat → α) (k : Nat) : List α := (List.range k).map f
theorem upto_succ {α : Type} (f : Nat → α) (k : Nat) : upto f (k + 1) = upto f k ++ [f k] := by simp [upto, List.range_succ]
theorem upto_length {α : Type} (f : Nat → α) (k : Nat) : (upto f k).length = k := by simp [upto]
/-- f k is what the k-th round is handed: the k-th from the end. -/
def Hands {α : Type} (enc : α → Array Value) (f : Nat → α) (zs : List ByteArray) : Prop :=
  ∀ k, k < zs.length → enc (f k) = #[Value.int .i64 ((zs.length - 1 - k : Nat) : Int), Value.string (zs.getD (zs.length - 1 - k) ByteArray.empty)]
set_option maxRecDepth 100000 in
set_option maxHeartbeats 2000000 in
theorem back1_in {α : Type} (enc : α → Array Value) (f : Nat → α) (F : Fence) (n : Nat) (h8 : F.fn 95) (hro : F.round = none) (hn : 1 ≤ n) (l Bs n₀ b off cap : Nat) (zs : List ByteArray) (hf : Hands enc f zs) (hreach : zs.length < 1000000) (hb : b < n₀) (Kp : World → World → Prop) (hK1 : ∀ A B, Kp A B → Below n₀ A B) (hK2 : ∀ A B, Kp A B → B.cell? ⟨Bs, 0, none⟩ = A.cell? ⟨Bs, 0, none⟩) (J Jx : List α → World → Prop)
    (hY : ∀ pre x W, J pre W → pre.length < zs.length → YieldAt F (n - 1) Try.prog l (enc x) W fun e W' =>
      (e = .returned (.bool true) ∧ J (pre ++ [x]) W' ∧ Kp W W') ∨ (e = .returned (.bool false) ∧ Jx (pre ++ [x]) W'))
    (W : World) (hBs : W.cell? ⟨Bs, 0, none⟩ = some (.slice (some ⟨b, off, none⟩) zs.length cap)) (hc : ∀ j, j < zs.length → W.cell? ⟨b, off + j, none⟩ = some (.string (zs.getD j ByteArray.empty))) (h0 : J [] W) :
    CallsIn F n Try.prog 95 #[.func (.yield l) #[] #[], .pointer (some ⟨Bs, 0, none⟩)] W fun e W' => (∃ v, e = .returned v) ∧
      ((∃ ys, ys = upto f zs.length ∧ J ys W') ∨ (∃ pre, (∃ k, k ≤ zs.length ∧ pre = upto f k) ∧ Jx pre W')) := by
  obtain ⟨len, hlen⟩ : ∃ len, zs.length = len := ⟨_, rfl⟩
  rw [hlen] at hBs hreach
  refine callsIn_of_wp Try.func95 rfl h8 ?_ hro
  simp only [Try.ntmps95, List.size_toArray, List.length_cons, List.length_nil, Nat.reduceAdd, Nat.reduceSub, Array.replicate_succ, Array.replicate_zero, List.push_toArray, List.append_toArray, List.nil_append, List.cons_append]
  have hwl : IntKind.i64.wrap ((len : Int) - 1) = (len : Int) - 1 := by simp [IntKind.wrap, IntKind.bits, IntKind.signed]; omega
  gi_wp2
  gi_loopw [3] (fun i wr => ∃ k : Nat, k ≤ len ∧ i = .int .i64 ((len : Int) - 1 - k) ∧ J (upto f k) wr ∧ Below n₀ W wr ∧ wr.cell? ⟨Bs, 0, none⟩ = some (.slice (some ⟨b, off, none⟩) len cap))
    (fun i _ => (intOf i + 1).toNat)
  case atStart => exact ⟨0, Nat.zero_le _, by simp, h0, Below.refl _ _, hBs⟩
  case round =>
    obtain ⟨k, hk, rfl, hJs, hnx, hBs'⟩ := hrel
    by_cases hlt : k < len
    · obtain ⟨m, hm⟩ : ∃ m : Nat, (len : Int) - 1 - k = m := ⟨len - 1 - k, by omega⟩
      have hmk : m = len - 1 - k := by omega
      obtain ⟨x, hx⟩ : ∃ x, zs.getD m ByteArray.empty = x := ⟨_, rfl⟩
      have hcx : wr.cell? ⟨b, off + m, none⟩ = some (.string x) := (hnx.cell (p := ⟨b, off + m, none⟩) hb).trans (hx ▸ hc m (by omega))
      obtain ⟨fn, tmps, assign, body, hy, hR⟩ := hY _ (f k) wr hJs (by rw [upto_length]; omega)
      have he := hf k (by omega)
      rw [hlen, ← hmk, hx] at he
      rw [he] at hy
      clear he hf hY
      have hml : m < len := by omega
      rw [hm]
      have HM := Lib.hid hm
      have HK := Lib.hid hmk
      clear hm hmk
      gi_wp2
      refine hR.mono ?_
      rintro e W3 (⟨rfl, hJ3, hk3⟩ | ⟨rfl, hJx3⟩)
      · gi_wp2
        go_roundw
        case rel => exact ⟨k + 1, by omega, by have h1 := HM.out; go_num, by rw [upto_succ]; exact hJ3, hnx.trans (hK1 _ _ hk3), (hK2 _ _ hk3).trans hBs'⟩
        case measure => have h1 := HM.out; simp [intOf] <;> omega
      · gi_wp2
        refine bodyPost_ret (results_none rfl _ _ _) rfl ?_
        exact ⟨⟨_, rfl⟩, .inr ⟨_, ⟨k + 1, by omega, by rw [upto_succ]⟩, hJx3⟩⟩
    · obtain rfl : k = len := by omega
      have hneg : ((k : Int) - 1 - k) = -1 := by omega
      rw [hneg]
      gi_wp2
      go_end0
      exact ⟨⟨_, rfl⟩, .inl ⟨_, by rw [hlen], hJs⟩⟩
/-- The slice value sv holds the strings zs, in a block below n₀; or it is nil and there are none. -/
def Strs (n₀ : Nat) (W : World) (sv : Value) (zs : List ByteArray) : Prop :=
  (sv = .slice none 0 0 ∧ zs = []) ∨ ∃ b off cap, sv = .slice (some ⟨b, off, none⟩) zs.length cap ∧ b < n₀ ∧ ∀ j, j < zs.length → W.cell? ⟨b, off + j, none⟩ = some (.string (zs.getD j ByteArray.empty))
theorem Strs.below {n₀ : Nat} {A B : World} (h : Below n₀ A B) {sv : Value} {zs : List ByteArray} : Strs n₀ A sv zs → Strs n₀ B sv zs
  | .inl e => .inl e
  | .inr ⟨b, off, cap, e, hb, hc⟩ => .inr ⟨b, off, cap, e, hb, fun j hj => (h.cell (p := ⟨b, off + j, none⟩) hb).trans (hc j hj)⟩
set_option maxRecDepth 100000 in
set_option maxHeartbeats 1000000 in
theorem back1_nil_in {α : Type} (F : Fence) (n : Nat) (h8 : F.fn 95) (hro : F.round = none) (l Bs : Nat) (J : List α → World → Prop) (W : World) (hBs : W.cell? ⟨Bs, 0, none⟩ = some (.slice none 0 0)) (h0 : J [] W) :
    CallsIn F n Try.prog 95 #[.func (.yield l) #[] #[], .pointer (some ⟨Bs, 0, none⟩)] W fun e W' => (∃ v, e = .returned v) ∧ J [] W' := by
  refine callsIn_of_wp Try.func95 rfl h8 ?_ hro
  simp only [Try.ntmps95, List.size_toArray, List.length_cons, List.length_nil, Nat.reduceAdd, Nat.reduceSub, Array.replicate_succ, Array.replicate_zero, List.push_toArray, List.append_toArray, List.nil_append, List.cons_append]
  gi_wp2
  gi_loopw [3] (fun i wr => i = .int .i64 (-1) ∧ J [] wr) (fun _ _ => 0)
  case atStart => exact ⟨rfl, h0⟩
  case round =>
    obtain ⟨rfl, hJs⟩ := hrel
    gi_wp2
    go_end0
    exact ⟨⟨_, rfl⟩, hJs⟩
set_option maxHeartbeats 1000000 in
/-- slices.Backward(s): the slice value is boxed; the function value captures the box. -/
theorem backward_any (a : Option Addr) (len cap : Nat) (w : World) :
    Calls Try.prog 79 #[.slice a len cap] w fun e w' => e = .returned (.func (.func 95) #[] #[.pointer (some ⟨w.heap.size, 0, none⟩)]) ∧ w' = w.alloc (.cells #[.slice a len cap] 51) := by
  go_enter Try.func79, Try.ntmps79
  go_wp2
  go_ret
  exact ⟨rfl, rfl⟩
theorem back_stops {α : Type} (enc : α → Array Value) (f : Nat → α) (F : Fence) (n : Nat) (h8 : F.fn 95) (hro : F.round = none) (hn : 1 ≤ n) (Bs n₀ : Nat) (sv : Value) (zs : List ByteArray) (hf : Hands enc f zs) (hreach : zs.length < 1000000) (w : World) (hBs : Bs < w.heap.size) (hn₀ : n₀ ≤ w.heap.size) (Kp : World → World → Prop) (hK1 : ∀ A B, Kp A B → Below n₀ A B) (hK2 : ∀ A B, Kp A B → B.cell? ⟨Bs, 0, none⟩ = A.cell? ⟨Bs, 0, none⟩)
    (hc : w.cell? ⟨Bs, 0, none⟩ = some sv) (hI : Strs n₀ w sv zs) :
    SeqStopsK F n Try.prog 95 #[.pointer (some ⟨Bs, 0, none⟩)] enc Kp (fun ys => ys = upto f zs.length)
      (fun pre => ∃ k, k ≤ zs.length ∧ pre = upto f k) zs.length w := fun l J Jx W hW _ _ hY h0 => by
  have hc' := (hW.cell (p := ⟨Bs, 0, none⟩) hBs).trans hc
  rcases hI.below (hW.mono hn₀) with ⟨rfl, rfl⟩ | ⟨b, off, cap, rfl, hb, hcs⟩
  · exact (back1_nil_in F n h8 hro l Bs J W hc' h0).mono fun e W' ⟨he, hj⟩ => ⟨he, .inl ⟨_, rfl, hj⟩⟩
  · exact back1_in enc f F n h8 hro hn l Bs n₀ b off cap zs hf hreach hb Kp hK1 hK2 J Jx hY W hc' hcs h0
end Go.Proofs.Ytdcbacbilncnnaa.Bk
end
section
/- The tree of digests: Len, Root. -/
set_option linter.unusedVariables false
set_option linter.unusedSimpArgs false
namespace Go.Proofs.Ytdcbacbilncnnaa.T
open Go.RowKit Go.Shelf Go.Proofs.Ytdcbacbilncnnaa.PMk Go.Proofs.Ytdcbacbilncnnaa.Bk Go.Proofs.YtdcbacbilncnnaaW.PrintWords Go.Proofs.YtdcbacbilncnnaaW.PrintLast
theorem At.reads {w : World} {base g : Nat} {vl vp : Value} {L P : List ByteArray} (h : At w base g vl vp L P) : ∃ A c, vl = .slice A L.length c ∧ L.length ≤ c ∧ Kd.C Kd.string w A L.length L := by
  obtain ⟨A, c, hv, hr⟩ := own_reads_of (enc := Value.string) (d := ByteArray.empty) (by have := h.rl; exact this)
  refine ⟨A, c, hv, ?_, Kd.C_of_reads (h1 := fun _ => rfl) hr⟩
  rcases h.rl.2 with ⟨h1, h2⟩ | ⟨g', cap, cur, h1, _, _, h2, _⟩
  · omega
  · rw [hv] at h1
    simp only [Value.slice.injEq] at h1
    omega
theorem len_raw (w : World) (base g : Nat) (vl vp : Value) (L P : List ByteArray) (hA : At w base g vl vp L P) :
    Calls Try.prog 57 #[.pointer (some ⟨g, 0, none⟩)] w fun e w' => e = .returned (.int .i64 L.length) ∧ w' = w := by
  have c0 := hA.c0
  obtain ⟨A, c, hv, _, _⟩ := hA.reads
  subst hv
  clear hA
  go_enter Try.func57, Try.ntmps57
  go_wp2
  go_ret
  exact ⟨rfl, rfl⟩
/-- The peaks from the last but one down, each ahead of what has come. -/
abbrev D32 := { x : Nat × ByteArray // x.2.size = 32 }
def encD (x : D32) : Array Value := #[.int .i64 (x.1.1 : Int), .string x.1.2]
def climbUp : List D32 → ByteArray → Option ByteArray
  | [], h => some h
  | x :: xs, h => (hash_Node.f x.1.2 h).bind fun t => climbUp xs t
theorem climbUp_snoc (xs : List D32) (x : D32) (h : ByteArray) : climbUp (xs ++ [x]) h = (climbUp xs h).bind fun t => hash_Node.f x.1.2 t := by
  induction xs generalizing h with
  | nil =>
    simp only [List.nil_append, climbUp, Option.bind_some]
    cases hash_Node.f x.1.2 h <;> rfl
  | cons y ys ih =>
    simp only [List.cons_append, climbUp]
    cases hash_Node.f y.1.2 h with
    | none => rfl
    | some t => simp only [Option.bind_some]; exact ih t
theorem node_some {a b : ByteArray} (ha : a.size = 32) (hb : b.size = 32) : ∃ t, hash_Node.f a b = some t ∧ t.size = 32 := by
  unfold hash_Node.f
  have s1 : ((⟨#[1]⟩ : ByteArray) ++ a).size = 33 := by rw [ByteArray.size_append, ha]; rfl
  have s2 : (((⟨#[1]⟩ : ByteArray) ++ a) ++ b).size = 65 := by rw [ByteArray.size_append, s1, hb]
  rw [if_pos (by omega), if_pos (by omega)]
  unfold Dig.hash_Sum.f
  rw [if_pos (by omega)]
  exact ⟨_, rfl, Dig.dig_size _⟩
theorem climbUp_some (xs : List D32) {h : ByteArray} (hh : h.size = 32) : ∃ t, climbUp xs h = some t ∧ t.size = 32 := by
  induction xs generalizing h with
  | nil => exact ⟨h, rfl, hh⟩
  | cons x xs ih =>
    obtain ⟨t, ht, hs⟩ := node_some x.2 hh
    obtain ⟨u, hu, hs'⟩ := ih hs
    exact ⟨u, by rw [climbUp, ht]; exact hu, hs'⟩
theorem w64r (q : Nat) (h : q < 1000002) : wrap64 (q : Int) = (q : Int) ∧ wrap64 ((q : Int) + 1 - 1) = (q : Int) := ⟨by unfold wrap64; omega, by unfold wrap64; omega⟩
/-- Q, but nothing at a panic. -/
def sure (Q : Exit → Act → World → Prop) : Exit → Act → World → Prop
  | .panic _, _, _ => False
  | e, a, w => Q e a w
theorem wp_sure {P : Program} {c : Code} {Q : Exit → Act → World → Prop} {a : Act} {w : World} (h : c.wp P (sure Q) a w) : c.wp P Q a w := by
  refine Code.wp_mono (fun e a w h => ?_) h
  cases e <;> first | exact h | exact (h : False).elim
attribute [local go_sem] Oper.semAt_some
set_option maxRecDepth 100000 in
set_option maxHeartbeats 2000000 in
theorem root_raw (w : World) (base g : Nat) (vl vp : Value) (L P : List ByteArray) (hA : At w base g vl vp L P) (hL : L ≠ []) (q : Nat) (hq : P.length = q + 1) (hqs : q < 1000000) (h32 : ∀ x ∈ P, x.size = 32)
    (f : Nat → D32) (hf : Hands encD f (P.take q)) (r : ByteArray) (hr : climbUp (upto f q) (P.getD q ByteArray.empty) = some r) :
    Calls Try.prog 48 #[.pointer (some ⟨g, 0, none⟩)] w fun e w' => e = .returned (.string r) ∧ Below w.heap.size w w' := by
  obtain ⟨gp, cq, rfl, hgb, hgl⟩ := World.ownsRow.form hA.rp (by omega)
  rw [hq] at hA
  obtain ⟨last, hlast⟩ : ∃ x, P.getD q ByteArray.empty = x := ⟨_, rfl⟩
  have hl := Lib.hid hlast
  have HA := Lib.hid hA
  have c1 := hA.c1
  have x0 : w.cell? ⟨gp, q, none⟩ = some (.string last) := hlast ▸ own_str' hA.rp hq (by omega)
  have hqc : q + 1 ≤ cq := own_cap hA.rp hq
  have hne : ¬ (L.length : Int) = 0 := by
    intro e
    exact hL (List.eq_nil_of_length_eq_zero (by omega))
  have hq0 : (0 : Int) ≤ (q : Int) := by omega
  have hq1 : (q : Int) ≤ (cq : Int) := by omega
  have hq2 : (q : Int) < (q : Int) + 1 := by omega
  have HR := Lib.hid hr
  have HF := Lib.hid hf
  have H32 := Lib.hid h32
  clear hr hf h32 hlast hA hL
  obtain ⟨wq, wq1⟩ := w64r q (by omega)
  refine (callsIn_wide (n := 3)).1 ?_
  refine callsIn_of_wp_marks Try.func48 rfl trivial ?_ rfl
  simp only [Try.ntmps48, List.size_toArray, List.length_cons, List.length_nil, Nat.reduceAdd, Nat.reduceSub, Array.replicate_succ, Array.replicate_zero, List.push_toArray, List.append_toArray, List.nil_append, List.cons_append]
  refine wpIn_wide.2 ?_
  go_wp2_with (go_at_call 57; refine (len_raw _ _ _ _ _ _ _ HA.out).mono ?_; rintro e w' ⟨rfl, hw'⟩; obtain rfl : w = w' := hw'.symm)
  refine wp_sure ?_
  refine start_ (n := 14) (S := fun w' => w'.cell? ⟨g, 1, none⟩ = some (.slice (some ⟨gp, 0, none⟩) (q + 1) cq) ∧ w'.cell? ⟨gp, q, none⟩ = some (.string last)) (ds := [13]) #[false, false, false, false, false, false, false, false, false, false, false, false, false, false] (by kernel_rfl) rfl rfl ⟨c1, x0⟩ (fun hHeld => ?_)
  refine pure_ (i := 0) (N := some 10) (v := ?_) (a' := ?_) #[true, false, false, false, false, false, false, false, false, false, false, false, false, false] rfl rfl (by kernel_rfl) (fun _ _ _ h => h.elim) (Or.inl ⟨by rfl, ?_⟩) ?_ ?_
  rotate_left
  · intro w'
    go_simp
    with_reducible rfl
  rotate_left
  · simp only [Act.put, List.setIfInBounds_toArray, List.set_cons_zero, List.set_cons_succ, i64_w, i32_w]
    rfl
  refine pure_ (i := 1) (N := some 11) (v := ?_) (a' := ?_) #[true, true, false, false, false, false, false, false, false, false, false, false, false, false] rfl rfl (by kernel_rfl) (fun _ _ _ h => h.elim) (Or.inl ⟨by rfl, ?_⟩) ?_ ?_
  rotate_left
  · intro w'
    go_simp
    with_reducible rfl
  rotate_left
  · simp only [Act.put, List.setIfInBounds_toArray, List.set_cons_zero, List.set_cons_succ, i64_w, i32_w]
    rfl
  refine pure_ (i := 2) (N := some 12) (v := ?_) (a' := ?_) #[true, true, true, false, false, false, false, false, false, false, false, false, false, false] rfl rfl (by kernel_rfl) (fun _ _ _ h => h.elim) (Or.inl ⟨by rfl, ?_⟩) ?_ ?_
  rotate_left
  · intro w'
    go_simp
    with_reducible rfl
  rotate_left
  · simp only [Act.put, List.setIfInBounds_toArray, List.set_cons_zero, List.set_cons_succ, i64_w, i32_w]
    rfl
  refine pure_ (i := 4) (N := some 14) (v := ?_) (a' := ?_) #[true, true, true, false, true, false, false, false, false, false, false, false, false, false] rfl rfl (by kernel_rfl) (fun _ _ _ h => h.elim) (Or.inl ⟨by rfl, ?_⟩) ?_ ?_
  rotate_left
  · intro w'
    go_simp
    with_reducible rfl
  rotate_left
  · simp only [Act.put, List.setIfInBounds_toArray, List.set_cons_zero, List.set_cons_succ, i64_w, i32_w]
    rfl
  refine pure_ (i := 5) (N := some 15) (v := ?_) (a' := ?_) #[true, true, true, false, true, true, false, false, false, false, false, false, false, false] rfl rfl (by kernel_rfl) (fun _ _ _ h => h.elim) (Or.inl ⟨by rfl, ?_⟩) ?_ ?_
  rotate_left
  · intro w'
    go_simp
    with_reducible rfl
  rotate_left
  · simp only [Act.put, List.setIfInBounds_toArray, List.set_cons_zero, List.set_cons_succ, i64_w, i32_w]
    rfl
  refine pure_ (i := 6) (N := some 16) (v := ?_) (a' := ?_) #[true, true, true, false, true, true, true, false, false, false, false, false, false, false] rfl rfl (by kernel_rfl) (fun _ _ _ h => h.elim) (Or.inl ⟨by rfl, ?_⟩) ?_ ?_
  rotate_left
  · intro w'
    go_simp
    with_reducible rfl
  rotate_left
  · simp only [Act.put, List.setIfInBounds_toArray, List.set_cons_zero, List.set_cons_succ, i64_w, i32_w]
    rfl
  refine take_ (i := 3) (N := some 13) (v := ?_) (a' := ?_) #[true, true, true, true, true, true, true, false, false, false, false, false, false, false] rfl rfl (by kernel_rfl) (fun _ _ _ h => h.elim) (Or.inl ⟨by rfl, ?_⟩) hHeld ?_ ?_
  rotate_left
  · rintro w' ⟨s0, s1⟩
    go_simp
    with_reducible rfl
  rotate_left
  · simp only [Act.put, List.setIfInBounds_toArray, List.set_cons_zero, List.set_cons_succ, i64_w, i32_w]
    rfl
  refine take_ (i := 7) (N := some 17) (v := ?_) (a' := ?_) #[true, true, true, true, true, true, true, true, false, false, false, false, false, false] rfl rfl (by kernel_rfl) (fun _ _ _ h => h.elim) (Or.inl ⟨by rfl, ?_⟩) hHeld ?_ ?_
  rotate_left
  · rintro w' ⟨s0, s1⟩
    go_simp
    with_reducible rfl
  rotate_left
  · simp only [Act.put, List.setIfInBounds_toArray, List.set_cons_zero, List.set_cons_succ, i64_w, i32_w]
    rfl
  refine pure_ (i := 8) (N := some 18) (v := ?_) (a' := ?_) #[true, true, true, true, true, true, true, true, true, false, false, false, false, false] rfl rfl (by kernel_rfl) (fun _ _ _ h => h.elim) (Or.inl ⟨by rfl, ?_⟩) ?_ ?_
  rotate_left
  · intro w'
    go_simp
    with_reducible rfl
  rotate_left
  · simp only [Act.put, List.setIfInBounds_toArray, List.set_cons_zero, List.set_cons_succ, i64_w, i32_w]
    rfl
  refine pure_ (i := 9) (N := some 19) (v := ?_) (a' := ?_) #[true, true, true, true, true, true, true, true, true, true, false, false, false, false] rfl rfl (by kernel_rfl) (fun _ _ _ h => h.elim) (Or.inl ⟨by rfl, ?_⟩) ?_ ?_
  rotate_left
  · intro w'
    go_simp
    with_reducible rfl
  rotate_left
  · simp only [Act.put, List.setIfInBounds_toArray, List.set_cons_zero, List.set_cons_succ, i64_w, i32_w]
    rfl
  refine pure_ (i := 10) (N := some 20) (v := ?_) (a' := ?_) #[true, true, true, true, true, true, true, true, true, true, true, false, false, false] rfl rfl (by kernel_rfl) (fun _ _ _ h => h.elim) (Or.inl ⟨by rfl, ?_⟩) ?_ ?_
  rotate_left
  · intro w'
    go_simp
    with_reducible rfl
  rotate_left
  · simp only [Act.put, List.setIfInBounds_toArray, List.set_cons_zero, List.set_cons_succ, i64_w, i32_w]
    rfl
  refine take_ (i := 11) (N := some 21) (v := ?_) (a' := ?_) #[true, true, true, true, true, true, true, true, true, true, true, true, false, false] rfl rfl (by kernel_rfl) (fun _ _ _ h => h.elim) (Or.inl ⟨by rfl, ?_⟩) hHeld ?_ ?_
  rotate_left
  · rintro w' ⟨s0, s1⟩
    go_simp
    with_reducible rfl
  rotate_left
  · simp only [Act.put, List.setIfInBounds_toArray, List.set_cons_zero, List.set_cons_succ, i64_w, i32_w]
    rfl
  refine one_ (i := 12) (N := some 3) #[true, true, true, true, true, true, true, true, true, true, true, true, true, false] rfl rfl (by kernel_rfl) (by decide) (fun K hK => ?_)
  refine value_ (w1 := ?_) (v := ?_) (by rfl) rfl ?_ ?_
  rotate_left 2
  · go_simp
    constructor
    · rfl
    · rfl
  have HA1 := Lib.hid (HA.out.below (((Below.refl _ w).drew).alloc (Nat.le_refl _) (.cells #[.string ⟨#[]⟩] 9)))
  refine hK.out _ _ ⟨HA1.out.c1, hl.out ▸ own_str' HA1.out.rp hq (by omega)⟩ (fun hHeld => ?_)
  clear hK K
  refine norm_ (a' := ?_) ?_ ?_
  rotate_left
  · show Act.put _ (some 3) _ = _
    simp only [Act.put, List.setIfInBounds_toArray, List.set_cons_zero, List.set_cons_succ, i64_w, i32_w]
    rfl
  refine last_ (i := 13) (N := none) #[true, true, true, true, true, true, true, true, true, true, true, true, true, true] rfl rfl (by kernel_rfl) (by decide) (fun K hK => ?_)
  refine skip_ (w1 := ?_) (by rfl) rfl ?_ ?_
  rotate_left
  · go_simp
    rfl
  refine hK.out _ _ ?_
  clear hK K
  refine done_ (by kernel_rfl) ?_
  rename_i Q' h K hK hH0
  show K _ _
  refine hK _ _ ?_
  clear hK K hHeld hH0 c1 x0
  have HA2 : Hid (At (w.alloc (Obj.cells #[Value.string last] 9)).drew base g vl (.slice (some ⟨gp, 0, none⟩) (q + 1) cq) L P) := Lib.hid (HA.out.below (((Below.refl _ w).alloc (Nat.le_refl _) _).drew))
  have HX : Hid (Boxed (w.alloc (Obj.cells #[Value.string last] 9)).drew w.heap.size 9 (.string last)) := Lib.hid (Boxed.new w 9 (.string last))
  have HB : Hid (Below w.heap.size w (w.alloc (Obj.cells #[Value.string last] 9)).drew) := Lib.hid (((Below.refl _ w).alloc (Nat.le_refl _) _).drew)
  have HZ : Hid ((w.alloc (Obj.cells #[Value.string last] 9)).drew.heap.size = w.heap.size + 1) := Lib.hid (by simp)
  generalize (w.alloc (Obj.cells #[Value.string last] 9)).drew = w2 at HA2 HX HB HZ ⊢
  go_wp2_with fail
  refine wp_sure ?_
  refine start_ (n := 12) (S := fun w' => w'.cell? ⟨g, 1, none⟩ = some (.slice (some ⟨gp, 0, none⟩) (q + 1) cq)) (ds := [11]) #[false, false, false, false, false, false, false, false, false, false, false, false] (by kernel_rfl) rfl rfl (HA2.out.c1) (fun hHeld => ?_)
  refine pure_ (i := 0) (N := some 22) (v := ?_) (a' := ?_) #[true, false, false, false, false, false, false, false, false, false, false, false] rfl rfl (by kernel_rfl) (fun _ _ _ h => h.elim) (Or.inl ⟨by rfl, ?_⟩) ?_ ?_
  rotate_left
  · intro w'
    go_simp
    with_reducible rfl
  rotate_left
  · simp only [Act.put, List.setIfInBounds_toArray, List.set_cons_zero, List.set_cons_succ, i64_w, i32_w]
    rfl
  refine pure_ (i := 1) (N := some 23) (v := ?_) (a' := ?_) #[true, true, false, false, false, false, false, false, false, false, false, false] rfl rfl (by kernel_rfl) (fun _ _ _ h => h.elim) (Or.inl ⟨by rfl, ?_⟩) ?_ ?_
  rotate_left
  · intro w'
    go_simp
    with_reducible rfl
  rotate_left
  · simp only [Act.put, List.setIfInBounds_toArray, List.set_cons_zero, List.set_cons_succ, i64_w, i32_w]
    rfl
  refine pure_ (i := 2) (N := some 24) (v := ?_) (a' := ?_) #[true, true, true, false, false, false, false, false, false, false, false, false] rfl rfl (by kernel_rfl) (fun _ _ _ h => h.elim) (Or.inl ⟨by rfl, ?_⟩) ?_ ?_
  rotate_left
  · intro w'
    go_simp
    with_reducible rfl
  rotate_left
  · simp only [Act.put, List.setIfInBounds_toArray, List.set_cons_zero, List.set_cons_succ, i64_w, i32_w]
    rfl
  refine pure_ (i := 4) (N := some 26) (v := ?_) (a' := ?_) #[true, true, true, false, true, false, false, false, false, false, false, false] rfl rfl (by kernel_rfl) (fun _ _ _ h => h.elim) (Or.inl ⟨by rfl, ?_⟩) ?_ ?_
  rotate_left
  · intro w'
    go_simp
    with_reducible rfl
  rotate_left
  · simp only [Act.put, List.setIfInBounds_toArray, List.set_cons_zero, List.set_cons_succ, i64_w, i32_w]
    rfl
  refine pure_ (i := 5) (N := some 27) (v := ?_) (a' := ?_) #[true, true, true, false, true, true, false, false, false, false, false, false] rfl rfl (by kernel_rfl) (fun _ _ _ h => h.elim) (Or.inl ⟨by rfl, ?_⟩) ?_ ?_
  rotate_left
  · intro w'
    go_simp
    with_reducible rfl
  rotate_left
  · simp only [Act.put, List.setIfInBounds_toArray, List.set_cons_zero, List.set_cons_succ, i64_w, i32_w]
    rfl
  refine pure_ (i := 6) (N := some 28) (v := ?_) (a' := ?_) #[true, true, true, false, true, true, true, false, false, false, false, false] rfl rfl (by kernel_rfl) (fun _ _ _ h => h.elim) (Or.inl ⟨by rfl, ?_⟩) ?_ ?_
  rotate_left
  · intro w'
    go_simp
    with_reducible rfl
  rotate_left
  · simp only [Act.put, List.setIfInBounds_toArray, List.set_cons_zero, List.set_cons_succ, i64_w, i32_w]
    rfl
  refine take_ (i := 3) (N := some 25) (v := ?_) (a' := ?_) #[true, true, true, true, true, true, true, false, false, false, false, false] rfl rfl (by kernel_rfl) (fun _ _ _ h => h.elim) (Or.inl ⟨by rfl, ?_⟩) hHeld ?_ ?_
  rotate_left
  · intro w' s0
    go_simp
    with_reducible rfl
  rotate_left
  · simp only [Act.put, List.setIfInBounds_toArray, List.set_cons_zero, List.set_cons_succ, i64_w, i32_w]
    rfl
  refine take_ (i := 7) (N := some 29) (v := ?_) (a' := ?_) #[true, true, true, true, true, true, true, true, false, false, false, false] rfl rfl (by kernel_rfl) (fun _ _ _ h => h.elim) (Or.inl ⟨by rfl, ?_⟩) hHeld ?_ ?_
  rotate_left
  · intro w' s0
    go_simp
    with_reducible rfl
  rotate_left
  · simp only [Act.put, List.setIfInBounds_toArray, List.set_cons_zero, List.set_cons_succ, i64_w, i32_w]
    rfl
  refine pure_ (i := 8) (N := some 30) (v := ?_) (a' := ?_) #[true, true, true, true, true, true, true, true, true, false, false, false] rfl rfl (by kernel_rfl) (fun _ _ _ h => h.elim) (Or.inl ⟨by rfl, ?_⟩) ?_ ?_
  rotate_left
  · intro w'
    go_simp
    with_reducible rfl
  rotate_left
  · simp only [Act.put, List.setIfInBounds_toArray, List.set_cons_zero, List.set_cons_succ, i64_w, i32_w]
    rfl
  refine pure_ (i := 9) (N := some 31) (v := ?_) (a' := ?_) #[true, true, true, true, true, true, true, true, true, true, false, false] rfl rfl (by kernel_rfl) (fun _ _ _ h => h.elim) (Or.inl ⟨by rfl, ?_⟩) ?_ ?_
  rotate_left
  · intro w'
    go_simp
    with_reducible rfl
  rotate_left
  · simp only [Act.put, List.setIfInBounds_toArray, List.set_cons_zero, List.set_cons_succ, i64_w, i32_w]
    rfl
  refine pure_ (i := 10) (N := some 32) (v := ?_) (a' := ?_) #[true, true, true, true, true, true, true, true, true, true, true, false] rfl rfl (by kernel_rfl) (fun _ _ _ h => h.elim) (Or.inl ⟨by rfl, ?_⟩) ?_ ?_
  rotate_left
  · intro w'
    go_simp
    with_reducible rfl
  rotate_left
  · simp only [Act.put, List.setIfInBounds_toArray, List.set_cons_zero, List.set_cons_succ, i64_w, i32_w]
    rfl
  refine last_ (i := 11) (N := some 33) #[true, true, true, true, true, true, true, true, true, true, true, true] rfl rfl (by kernel_rfl) (by decide) (fun K hK => ?_)
  refine goes_ Try.func79 (by kernel_rfl) rfl #[.slice (some ⟨gp, 0, none⟩) q cq] (by rfl) rfl rfl (by simp only [List.map_toArray, List.map_cons, List.map_nil]; rfl) ?_
  with_reducible refine (backward_any _ _ _ _).mono ?_
  rintro e w4 ⟨rfl, rfl⟩
  refine ⟨_, rfl, ?_⟩
  refine hK.out _ _ ?_
  clear hK K
  refine norm_ (a' := ?_) ?_ ?_
  rotate_left
  · show Act.put _ (some 33) _ = _
    simp only [Act.put, List.setIfInBounds_toArray, List.set_cons_zero, List.set_cons_succ, i64_w, i32_w]
    rfl
  refine done_ (by kernel_rfl) ?_
  rename_i K7 hK7 K hK
  show K _ _
  refine hK _ _ ?_
  clear hK K hHeld
  rw [show w2.drew.heap.size = w.heap.size + 1 from HZ.out]
  have HX4 : Hid (Boxed (w2.drew.alloc (Obj.cells #[Value.slice (some { block := gp, off := 0 }) q cq] 51)) w.heap.size 9 (.string last)) := Lib.hid (Boxed.alloc (W := w2.drew) HX.out _)
  have HS4 : Hid (Boxed (w2.drew.alloc (Obj.cells #[Value.slice (some { block := gp, off := 0 }) q cq] 51)) (w.heap.size + 1) 51 (.slice (some ⟨gp, 0, none⟩) q cq)) := Lib.hid (HZ.out ▸ Boxed.new w2.drew 51 (.slice (some ⟨gp, 0, none⟩) q cq))
  have HB4 : Hid (Below w.heap.size w (w2.drew.alloc (Obj.cells #[Value.slice (some { block := gp, off := 0 }) q cq] 51))) := Lib.hid ((HB.out.drew).alloc (by have := HZ.out; simp; omega) _)
  have HZ4 : Hid ((w2.drew.alloc (Obj.cells #[Value.slice (some { block := gp, off := 0 }) q cq] 51)).heap.size = w.heap.size + 2) := Lib.hid (by have := HZ.out; simp; omega)
  have HA4 : Hid (At (w2.drew.alloc (Obj.cells #[Value.slice (some { block := gp, off := 0 }) q cq] 51)) base g vl (.slice (some ⟨gp, 0, none⟩) (q + 1) cq) L P) := Lib.hid (HA.out.below HB4.out)
  generalize w2.drew.alloc (Obj.cells #[Value.slice (some { block := gp, off := 0 }) q cq] 51) = w4 at HX4 HS4 HB4 HZ4 HA4 ⊢
  clear HA1 HA2 HX HB HZ w2
  go_wp2_with fail
  clear wq wq1 h hne hw'
  refine (wpIn_wide (n := 3)).1 ?_
  refine wpIn_rangeFunc_ownG rfl (by decide) (gf := 95) (lb := #[.pointer (some ⟨w.heap.size + 1, 0, none⟩)]) rfl trivial (enters_of Try.func95 (by kernel_rfl) rfl)
    (back_stops encD f Fence.wide _ trivial rfl (by decide) (w.heap.size + 1) w.heap.size (.slice (some ⟨gp, 0, none⟩) q cq) (P.take q) HF.out (by simp; omega) w4 (by have := HZ4.out; omega) HB4.out.size
      (fun A B => Below w.heap.size A B ∧ B.cell? ⟨w.heap.size + 1, 0, none⟩ = A.cell? ⟨w.heap.size + 1, 0, none⟩) (fun _ _ h => h.1) (fun _ _ h => h.2) HS4.out.cell ?strs)
    (fun h k => ⟨h.1.trans k.1, k.2.trans h.2⟩) (fun W l o o' hl hW ho hw => ⟨belowK_b (w := w4) HB4.out.size W l o o' hl hW ho hw, ?other⟩) (Below.refl _ _) (fun _ => rfl)
    (fun pre W => ((∃ hc, climbUp pre last = some hc ∧ Boxed W w.heap.size 9 (.string hc)) ∧ W.heap.size ≥ w.heap.size + 2) ∧ Below w.heap.size w W)
    (fun _ _ _ => False)
    ?own
    (fun _ _ _ _ _ hs _ _ => hs)
    ⟨⟨⟨last, rfl, HX4.out⟩, by have := HZ4.out; omega⟩, HB4.out⟩
    (fun x => { tmps := #[Value.pointer (some { block := g, off := 0 }), undef, Value.string { data := #[] }, Value.pointer (some { block := w.heap.size, off := 0 }), undef, .string x.1.2, Value.pointer (some { block := g, off := 0 }), Value.int IntKind.i64 (L.length : Int), Value.bool ((L.length : Int) == 0), undef, Value.pointer (some { block := g, off := 0 }), Value.pointer (some { block := g, off := 0 }), Value.pointer (some { block := g, off := 1 }), Value.slice (some { block := gp, off := 0 }) (q + 1) cq, Value.pointer (some { block := g, off := 0 }), Value.pointer (some { block := g, off := 0 }), Value.pointer (some { block := g, off := 1 }), Value.slice (some { block := gp, off := 0 }) (q + 1) cq, Value.int IntKind.i64 ((q : Int) + 1), Value.int IntKind.i64 (wrap64 (q : Int)), Value.pointer (some { block := gp, off := q }), Value.string last, Value.pointer (some { block := g, off := 0 }), Value.pointer (some { block := g, off := 0 }), Value.pointer (some { block := g, off := 1 }), Value.slice (some { block := gp, off := 0 }) (q + 1) cq, Value.pointer (some { block := g, off := 0 }), Value.pointer (some { block := g, off := 0 }), Value.pointer (some { block := g, off := 1 }), Value.slice (some { block := gp, off := 0 }) (q + 1) cq, Value.int IntKind.i64 ((q : Int) + 1), Value.int IntKind.i64 (wrap64 (q : Int)), Value.slice (some { block := gp, off := 0 }) q cq, Value.func (Fn.func 95) #[] #[Value.pointer (some { block := w.heap.size + 1, off := 0 })], .int .i64 (x.1.1 : Int), .string x.1.2, undef, undef, undef, undef], defers := [] }) ?assign ?body ?done ?stop
  case strs =>
    have e1 : (P.take q).length = q := by simp; omega
    refine .inr ⟨gp, 0, cq, by rw [e1], hgl, fun j hj => ?_⟩
    rw [e1] at hj
    have e2 : (P.take q).getD j ByteArray.empty = P.getD j ByteArray.empty := by simp [List.getElem?_take, hj]
    rw [e2, Nat.zero_add]
    exact own_str' HA4.out.rp hq (by omega)
  case other =>
    have h1 := HZ4.out
    have h2 := (Array.getElem?_eq_some_iff.1 hW).1
    exact World.cell?_of_block ((grownBy_putObj' W l o').block (w.heap.size + 1) (by omega) (by intro e; injection e with e; omega))
  case own =>
    have h1 := HZ4.out
    refine OwnFrom.and ?_ (ownFrom_below (Nat.le_refl _) (by omega))
    rintro pre A B row ⟨⟨hc, h2, h3⟩, h4⟩ hg hr
    exact ⟨⟨hc, h2, h3.kept hg (fun e => by have := (hr _ e.symm).1; omega)⟩, Nat.le_trans h4 hg.size⟩
  case assign =>
    intro l x W K hK
    dsimp only [encD]
    gi_wp2
    exact hK
  case body =>
    rintro l pre x W ⟨⟨⟨hc, hcl, hX⟩, hsz⟩, hB⟩ _
    have h32 : last.size = 32 := by
      rw [← hl.out]
      exact H32.out _ (by rw [List.getD_eq_getElem?_getD, List.getElem?_eq_getElem (by omega)]; exact List.getElem_mem _)
    obtain ⟨hc', hcl', hcs⟩ := climbUp_some pre h32
    obtain rfl : hc' = hc := Option.some.inj (hcl'.symm.trans hcl)
    obtain ⟨t, ht, _⟩ := node_some x.2 hcs
    have HT := Lib.hid ht
    have HXX := Lib.hid hX
    have HBB := Lib.hid hB
    have HSZ := Lib.hid hsz
    have HCL := Lib.hid hcl
    have hcell := hX.cell
    have hfr := hX.frozen
    clear ht hcl' hcl h32 hcs hX hB hsz
    gi_wp2_with (refine ⟨trivial, ?_⟩; gi_at_call 80; refine (CallsIn.inRound l (callsIn_wide.2 (hash_Node.calls x.1.2 hc' t _ HT.out))).mono ?_; rintro e w' ⟨rfl, hb'⟩; have HB' := Lib.hid hb'; have HX' : Hid (Boxed w' w.heap.size 9 (.string hc')) := Lib.hid ((hb'.block _ HXX.out.lt).trans HXX.out); have hcell' := HX'.out.cell; have hfr' := HX'.out.frozen; clear hb')
    have e3 := HSZ.out
    refine ⟨((KeepsOthers.of_grownBy (grown_of_below HB'.out none) (fun _ _ e => by cases e)).trans (KeepsOthers.setCell _ _ _)).from _, ⟨(show Below w.heap.size W w' from HB'.out.mono (by omega)).setCell (p := ⟨w.heap.size, 0, none⟩) (Nat.le_refl _) _, ?_⟩, ⟨⟨t, by rw [climbUp_snoc, HCL.out]; exact HT.out, HX'.out.set _⟩, ?_⟩, ?_⟩
    · refine World.cell?_of_block ?_
      exact (Below.heap_setCell _ _ _ _ (by simp)).trans (HB'.out.block _ (by show w.heap.size + 1 < W.heap.size; omega))
    · have := HB'.out.size; simp; omega
    · exact (HBB.out.trans (show Below w.heap.size W w' from HB'.out.mono (by omega))).setCell (p := ⟨w.heap.size, 0, none⟩) (Nat.le_refl _) _
  case done =>
    rintro D ys W hD rfl ⟨⟨⟨hc, hcl, hX⟩, hsz⟩, hB⟩ hK
    have e1 : (P.take q).length = q := by simp; omega
    rw [e1] at hcl
    have hr := HR.out
    rw [hl.out, hcl] at hr
    obtain rfl := Option.some.inj hr
    have hcell := hX.cell
    have HXX := Lib.hid hX
    have HBB := Lib.hid hB
    have h1 := HZ4.out
    clear hX hr hcl hB
    show K7 _ _
    refine hK7 _ _ ?_
    go_wp2
    refine ⟨by simp, .inl ⟨_, _, rfl, run_takeDeferred hK, ?_⟩⟩
    exact ⟨_, results_tmp rfl _ _ _, rfl, HBB.out.trans (belowK_b (w := w) (Nat.le_refl _) W D _ _ (by omega) hK rfl rfl)⟩
  case stop =>
    rintro D c pre W _ _ h _
    exact h.elim
end Go.Proofs.Ytdcbacbilncnnaa.T
end
section
/- The peaks of a growing tree. -/
set_option linter.unusedVariables false
set_option linter.unusedSimpArgs false
namespace Go.Proofs.Ytdcbacbilncnnaa.M
open Go.RowKit Go.Proofs.Ytdcbacbilncnnaa.PMk Go.Proofs.Ytdcbacbilncnnaa.T Go.Proofs.Ytdcbacbilncnnaa.Bk Go.Proofs.YtdcbacbilncnnaaW.PrintWords Go.Proofs.YtdcbacbilncnnaaW.PrintLast
def gp (n : Nat) : Nat := 2 ^ n.log2
theorem gp_le {n : Nat} (h : n ≠ 0) : gp n ≤ n := Nat.log2_self_le h
theorem gp_pos (n : Nat) : 1 ≤ gp n := Nat.one_le_two_pow
theorem gp_eq {n e : Nat} (h1 : 2 ^ e ≤ n) (h2 : n < 2 ^ (e + 1)) : gp n = 2 ^ e := by
  have h0 : n ≠ 0 := by have := Nat.one_le_two_pow (n := e); omega
  rw [gp, (Nat.log2_eq_iff h0).2 ⟨h1, h2⟩]
def pk (l : List ByteArray) : List ByteArray :=
  if h : l.length = 0 then [] else mroot (l.take (gp l.length)) :: pk (l.drop (gp l.length))
termination_by l.length
decreasing_by have := gp_pos l.length; simp; omega
theorem pk_nil : pk [] = [] := by rw [pk]; rfl
theorem pk_cons {l : List ByteArray} (h : l.length ≠ 0) : pk l = mroot (l.take (gp l.length)) :: pk (l.drop (gp l.length)) := by rw [pk]; rw [dif_neg h]
theorem pk_snoc (j : Nat) (C : List ByteArray) (hC : C.length = 2 ^ j) : ∀ (d a : Nat) (X : List ByteArray), X.length ≤ d → X.length = a * 2 ^ (j + 1) → pk (X ++ C) = pk X ++ [mroot C] := by
  have hp := Nat.one_le_two_pow (n := j)
  intro d
  induction d with
  | zero =>
    intro a X hd hX
    obtain rfl : X = [] := List.eq_nil_of_length_eq_zero (by omega)
    rw [List.nil_append, pk_nil, List.nil_append, pk_cons (by omega), gp_eq (e := j) (by omega) (by rw [hC, Nat.pow_succ]; omega), ← hC, List.take_length, List.drop_length, pk_nil]
  | succ d ih =>
    intro a X hd hX
    by_cases h0 : X.length = 0
    · obtain rfl : X = [] := List.eq_nil_of_length_eq_zero h0
      rw [List.nil_append, pk_nil, List.nil_append, pk_cons (by omega), gp_eq (e := j) (by omega) (by rw [hC, Nat.pow_succ]; omega), ← hC, List.take_length, List.drop_length, pk_nil]
    · have ha : 1 ≤ a := by
        rcases Nat.eq_zero_or_pos a with h | h
        · rw [h] at hX; omega
        · exact h
      obtain ⟨e, he⟩ : ∃ e, X.length.log2 = e := ⟨_, rfl⟩
      obtain ⟨g1, g2⟩ := (Nat.log2_eq_iff h0).1 he
      have hje : j + 1 ≤ e := by
        rcases Nat.lt_or_ge e (j + 1) with h | h
        · have h3 : 2 ^ (e + 1) ≤ 2 ^ (j + 1) := Nat.pow_le_pow_right (by omega) (by omega)
          have h4 : 1 * 2 ^ (j + 1) ≤ a * 2 ^ (j + 1) := Nat.mul_le_mul_right _ ha
          omega
        · exact h
      have hpe : 2 ^ e = 2 ^ (j + 1) * 2 ^ (e - (j + 1)) := by rw [← Nat.pow_add]; congr 1; omega
      have hpe1 : 2 ^ (e + 1) = 2 ^ (j + 1) * 2 ^ (e - j) := by rw [← Nat.pow_add]; congr 1; omega
      have hlt : a < 2 ^ (e - j) := by
        rw [hX, hpe1, Nat.mul_comm] at g2
        exact Nat.lt_of_mul_lt_mul_left g2
      have hle : (a + 1) * 2 ^ (j + 1) ≤ 2 ^ (e + 1) := by
        rw [hpe1, Nat.mul_comm]; exact Nat.mul_le_mul_left _ hlt
      rw [Nat.add_mul, Nat.one_mul, ← hX] at hle
      have hjj : 2 ^ (j + 1) = 2 ^ j * 2 := Nat.pow_succ ..
      have hgX : gp X.length = 2 ^ e := gp_eq g1 g2
      have hgXC : gp (X ++ C).length = 2 ^ e := gp_eq (by simp; omega) (by simp; omega)
      have hne : (X ++ C).length ≠ 0 := by rw [List.length_append]; omega
      rw [pk_cons (l := X ++ C) hne, pk_cons (l := X) h0, hgX, hgXC, List.take_append_of_le_length g1, List.drop_append_of_le_length g1, List.cons_append]
      congr 1
      have hp1 := Nat.one_le_two_pow (n := e)
      have hdl : (X.drop (2 ^ e)).length ≤ d := by rw [List.length_drop]; omega
      refine ih (a - 2 ^ (e - (j + 1))) (X.drop (2 ^ e)) hdl ?_
      rw [List.length_drop, hX, hpe, Nat.sub_mul, Nat.mul_comm (2 ^ (e - (j + 1)))]
theorem mroot_pow (j : Nat) (D C : List ByteArray) (hD : D.length = 2 ^ j) (hC : C.length = 2 ^ j) : mroot (D ++ C) = node (mroot D) (mroot C) := by
  have hp := Nat.one_le_two_pow (n := j)
  have hs : sp (D ++ C).length = 2 ^ j := sp_eq (by simp; omega) (by simp; rw [Nat.pow_succ]; omega)
  rw [mroot_two (by simp; omega), hs, ← hD, List.take_left, List.drop_left]
theorem pk_w32 : ∀ (d : Nat) (l : List ByteArray), l.length ≤ d → W32 l → W32 (pk l) ∧ (pk l).length ≤ l.length
  | 0, l, h, hw => by
    obtain rfl : l = [] := List.eq_nil_of_length_eq_zero (by omega)
    rw [pk_nil]; exact ⟨hw, Nat.le_refl _⟩
  | d + 1, l, h, hw => by
    by_cases h0 : l.length = 0
    · obtain rfl : l = [] := List.eq_nil_of_length_eq_zero h0
      rw [pk_nil]; exact ⟨hw, Nat.le_refl _⟩
    · have hg := gp_pos l.length
      obtain ⟨h1, h2⟩ := pk_w32 d (l.drop (gp l.length)) (by simp; omega) (hw.drop _)
      rw [pk_cons h0]
      exact ⟨W32.cons.2 ⟨mroot_size (hw.take _), h1⟩, by simp at h2 ⊢; omega⟩
/-- What the loop makes of the peaks and a new block: the peaks. -/
theorem car_pk : ∀ (m j : Nat) (X C : List ByteArray), 1 ≤ m → W32 X → W32 C → X.length = (m - 1) * 2 ^ j → C.length = 2 ^ j → ∃ k, car k (pk X ++ [mroot C]) m = some (pk (X ++ C)) := by
  intro m
  induction m using Nat.strongRecOn with
  | _ m ih =>
  intro j X C h1 hwX hwC hX hC
  have hp := Nat.one_le_two_pow (n := j)
  by_cases hev : m % 2 = 0
  · have hm : m - 1 = (m - 2) + 1 := by omega
    have hXl : X.length = (m - 2) * 2 ^ j + 2 ^ j := by rw [hX, hm, Nat.add_mul, Nat.one_mul]
    obtain ⟨X', D, hXD, hX', hD⟩ : ∃ X' D, X = X' ++ D ∧ X'.length = (m - 2) * 2 ^ j ∧ D.length = 2 ^ j :=
      ⟨X.take ((m - 2) * 2 ^ j), X.drop ((m - 2) * 2 ^ j), (List.take_append_drop _ _).symm, by simp; omega, by simp; omega⟩
    subst hXD
    have e2 : (m - 2) * 2 ^ j = (m / 2 - 1) * 2 ^ (j + 1) := by
      rw [Nat.pow_succ, ← Nat.mul_assoc, Nat.mul_right_comm]; congr 1; omega
    have hpk : pk (X' ++ D) = pk X' ++ [mroot D] := pk_snoc j D hD _ _ X' (Nat.le_refl _) (hX'.trans e2)
    obtain ⟨k, hk⟩ := ih (m / 2) (by omega) (j + 1) X' (D ++ C) (by omega) (W32.app.1 hwX).1 (W32.app.2 ⟨(W32.app.1 hwX).2, hwC⟩) (hX'.trans e2) (by rw [List.length_append, hD, hC, Nat.pow_succ]; omega)
    refine ⟨k + 1, ?_⟩
    rw [hpk, car, if_pos hev, if_pos (by simp)]
    have l1 : (pk X' ++ [mroot D] ++ [mroot C]).length - 2 = (pk X').length := by simp
    have l2 : (pk X' ++ [mroot D] ++ [mroot C]).length - 1 = (pk X').length + 1 := by simp
    rw [l1, l2]
    have g1 : (pk X' ++ [mroot D] ++ [mroot C]).getD (pk X').length ByteArray.empty = mroot D := by simp
    have g2 : (pk X' ++ [mroot D] ++ [mroot C]).getD ((pk X').length + 1) ByteArray.empty = mroot C := by
      rw [List.getD_eq_getElem?_getD, List.getElem?_append_right (by simp)]; simp
    have g3 : (pk X' ++ [mroot D] ++ [mroot C]).take (pk X').length = pk X' := by rw [List.append_assoc, List.take_left]
    rw [g1, g2, g3, node_f _ _ (by rw [mroot_size (W32.app.1 hwX).2]; omega) (by rw [mroot_size hwC]; omega), Option.bind_some, ← mroot_pow j D C hD hC, hk, List.append_assoc]
  · refine ⟨1, ?_⟩
    rw [car, if_neg hev, pk_snoc j C hC _ ((m - 1) / 2) X (Nat.le_refl _)]
    rw [hX, Nat.pow_succ, ← Nat.mul_assoc, Nat.mul_right_comm]; congr 1; omega
def foldUp : List ByteArray → ByteArray
  | [] => ByteArray.empty
  | [x] => x
  | x :: y :: t => node x (foldUp (y :: t))
theorem foldUp_cons (x : ByteArray) {l : List ByteArray} (h : l ≠ []) : foldUp (x :: l) = node x (foldUp l) := by
  cases l with
  | nil => exact absurd rfl h
  | cons y t => rfl
theorem foldUp_size {l : List ByteArray} (h : l ≠ []) (hw : W32 l) : (foldUp l).size = 32 := by
  match l, h with
  | [x], _ => exact W32.one.1 hw
  | x :: y :: t, _ => exact node_size _ _
theorem fold_pk : ∀ (d : Nat) (l : List ByteArray), l.length ≤ d → l ≠ [] → foldUp (pk l) = mroot l
  | 0, l, h, hne => absurd (List.eq_nil_of_length_eq_zero (by omega)) hne
  | d + 1, l, h, hne => by
    have h0 : l.length ≠ 0 := fun h => hne (List.eq_nil_of_length_eq_zero h)
    have hg := gp_pos l.length
    have hle := gp_le h0
    rw [pk_cons h0]
    by_cases he : gp l.length = l.length
    · rw [he, List.take_length, List.drop_length, pk_nil]
      rfl
    · have hd : (l.drop (gp l.length)).length ≠ 0 := by simp; omega
      have hdn : l.drop (gp l.length) ≠ [] := fun h => hd (by rw [h]; rfl)
      have hs : sp l.length = gp l.length := sp_eq (by show gp l.length < _; omega) (Nat.le_of_lt (Nat.lt_log2_self))
      have h2 : 2 ≤ l.length := by omega
      have hdl : (l.drop (gp l.length)).length ≤ d := by rw [List.length_drop]; omega
      rw [foldUp_cons _ (by rw [pk_cons hd]; simp), fold_pk d _ hdl hdn, mroot_two (l := l) h2, hs]
def fD (P : List ByteArray) (q k : Nat) : D32 :=
  if h : (P.getD (q - 1 - k) ByteArray.empty).size = 32 then ⟨(q - 1 - k, P.getD (q - 1 - k) ByteArray.empty), h⟩ else ⟨(0, Dig.dig ⟨#[]⟩), Dig.dig_size _⟩
theorem fD_eq {P : List ByteArray} {q : Nat} (hq : P.length = q + 1) (hw : W32 P) (k : Nat) : (fD P q k).1 = (q - 1 - k, P.getD (q - 1 - k) ByteArray.empty) := by
  unfold fD
  rw [dif_pos (hw.getD (by omega))]
theorem fD_hands {P : List ByteArray} {q : Nat} (hq : P.length = q + 1) (hw : W32 P) : Hands encD (fD P q) (P.take q) := by
  intro k hk
  have e1 : (P.take q).length = q := by simp; omega
  rw [e1] at hk ⊢
  unfold encD
  rw [fD_eq hq hw]
  have e2 : (P.take q).getD (q - 1 - k) ByteArray.empty = P.getD (q - 1 - k) ByteArray.empty := by simp [List.getElem?_take, show q - 1 - k < q by omega]
  rw [e2]
theorem climb_fold {P : List ByteArray} {q : Nat} (hq : P.length = q + 1) (hw : W32 P) : ∀ j, j ≤ q → climbUp (upto (fD P q) j) (P.getD q ByteArray.empty) = some (foldUp (P.drop (q - j)))
  | 0, _ => by
    have e : P.drop q = [P.getD q ByteArray.empty] := by
      rw [List.drop_eq_getElem_cons (by omega), List.drop_eq_nil_of_le (by omega), List.getD_eq_getElem?_getD, List.getElem?_eq_getElem (by omega)]; rfl
    rw [Nat.sub_zero, e]
    rfl
  | j + 1, hj => by
    have hd : P.drop (q - j) ≠ [] := fun h => by have := congrArg List.length h; simp at this; omega
    have e : P.drop (q - (j + 1)) = P.getD (q - 1 - j) ByteArray.empty :: P.drop (q - j) := by
      rw [List.drop_eq_getElem_cons (by omega), List.getD_eq_getElem?_getD, List.getElem?_eq_getElem (by omega)]
      have e7 : q - (j + 1) = q - 1 - j := by omega
      have e8 : q - 1 - j + 1 = q - j := by omega
      simp only [e7, e8, Option.getD_some]
    rw [upto_succ, climbUp_snoc, climb_fold hq hw j (by omega), Option.bind_some, fD_eq hq hw, e, foldUp_cons _ hd]
    exact node_f _ _ (by rw [hw.getD (by omega)]; omega) (by rw [foldUp_size hd (hw.drop _)]; omega)
end Go.Proofs.Ytdcbacbilncnnaa.M
namespace Go.Proofs.Ytdcbacbilncnnaa.T
open Go.RowKit Go.Proofs.Ytdcbacbilncnnaa.M
/-- The tree's root is that of its leaves. -/
theorem root_tree (w : World) (base g : Nat) (vl vp : Value) (L : List ByteArray) (hA : At w base g vl vp L (pk L)) (hL : L ≠ []) (hw : W32 L) (hn : L.length < 1000000) :
    Calls Try.prog 48 #[.pointer (some ⟨g, 0, none⟩)] w fun e w' => e = .returned (.string (mroot L)) ∧ Below w.heap.size w w' := by
  have h0 : L.length ≠ 0 := fun h => hL (List.eq_nil_of_length_eq_zero h)
  obtain ⟨p1, p2⟩ := pk_w32 _ L (Nat.le_refl _) hw
  have hne : (pk L).length ≠ 0 := by rw [pk_cons h0]; simp
  obtain ⟨q, hq⟩ : ∃ q, (pk L).length = q + 1 := ⟨(pk L).length - 1, by omega⟩
  have hc := climb_fold hq p1 q (Nat.le_refl _)
  rw [Nat.sub_self, List.drop_zero, fold_pk _ L (Nat.le_refl _) hL] at hc
  exact root_raw w base g vl vp L (pk L) hA hL q hq (by omega) p1 (fD (pk L) q) (fD_hands hq p1) _ hc
end Go.Proofs.Ytdcbacbilncnnaa.T
end
section
/- The tree of digests: RootAt, Path, Grown, New. -/
set_option linter.unusedVariables false
set_option linter.unusedSimpArgs false
namespace Go.Proofs.Ytdcbacbilncnnaa.T
open Go.RowKit Go.Proofs.Ytdcbacbilncnnaa.PMk Go.Proofs.YtdcbacbilncnnaaW.PrintWords Go.Proofs.YtdcbacbilncnnaaW.PrintLast
theorem new_raw (w : World) : Calls Try.prog 55 #[] w fun e w' => ∃ g, e = .returned (.pointer (some ⟨g, 0, none⟩)) ∧ At w' w.heap.size g (.slice none 0 0) (.slice none 0 0) [] [] ∧ Below w.heap.size w w' := by
  have hu121 := Try.underlying121
  go_enter Try.func55, Try.ntmps55
  go_wp2_with (first | ((with_reducible refine gate_dst (N := 2) rfl ?_); refine box_event ?hg (N := 2) ?hd (cs := #[.slice none 0 0, .slice none 0 0]) (t := 121) ?hr ?_; (case hd => rfl); (case hg => rfl); (case hr => first | (go_simp; done) | (go_simp; rfl)); intro gb117 hg w1 hbox hb; have HX := Lib.hid hbox; have HB := Lib.hid hb; have HG := Lib.hid hg; clear hbox hb hg))
  go_ret
  exact ⟨_, rfl, ⟨HX.out, Nat.le_of_eq HG.out.symm, World.ownsRow_nil _ _ _ _, World.ownsRow_nil _ _ _ _, by intro k hk; simp [Value.ownBlock] at hk⟩, HB.out⟩
end Go.Proofs.Ytdcbacbilncnnaa.T
end
section
/- Leaves, and one more leaf behind a tree. -/
set_option linter.unusedVariables false
set_option linter.unusedSimpArgs false
namespace Go.Proofs.Ytdcbacbilncnnaa.T
open Go.RowKit Go.Proofs.Ytdcbacbilncnnaa.PMk Go.Proofs.Ytdcbacbilncnnaa.M Go.Proofs.Ytdcbacbilncnnaa.Bk Go.Proofs.YtdcbacbilncnnaaW.PrintWords Go.Proofs.YtdcbacbilncnnaaW.PrintLast
theorem Step.to_below {w w1 : World} {base g : Nat} {vl vp vl' vp' : Value} {L P : List ByteArray} (h : Step w w1 g vl vp vl' vp') (hA : At w base g vl vp L P) : Below base w w1 :=
  ⟨h.os, h.tape, h.output, h.size, fun k hk => h.block k (Nat.lt_of_lt_of_le hk hA.base) (by have := hA.lo; omega)
    (fun e => by have := own_base hA.rl k e; omega) (fun e => by have := own_base hA.rp k e; omega)⟩
theorem add_any (s h : ByteArray) (hleaf : hash_Leaf.f s = some h) (w : World) (base g : Nat) (vl vp : Value) (L P Q : List ByteArray) (hA : At w base g vl vp L P) (hn : L.length + 1 < 1000000) (hp : P.length < 1000000)
    (kc : Nat) (hc : car kc (P ++ [h]) (L.length + 1) = some Q) :
    Calls Try.prog 56 #[.pointer (some ⟨g, 0, none⟩), .string s] w fun e w' => e = .returned (.string h) ∧ ∃ vl' vp', At w' base g vl' vp' (L ++ [h]) Q ∧ Step w w' g vl vp vl' vp' ∧ Below base w w' := by
  refine (add_raw s h hleaf w base g vl vp L P Q hA hn hp kc hc).mono ?_
  rintro e w' ⟨rfl, vl', vp', h1, h2⟩
  exact ⟨rfl, vl', vp', h1, h2, h2.to_below hA⟩
def leaf (s : ByteArray) : ByteArray := Dig.dig ((⟨#[0]⟩ : ByteArray) ++ s)
theorem leaf_size (s : ByteArray) : (leaf s).size = 32 := Dig.dig_size _
theorem leaf_f (s : ByteArray) (h : s.size < 1152921504606846000) : hash_Leaf.f s = some (leaf s) := by
  have s1 : ((⟨#[0]⟩ : ByteArray) ++ s).size = 1 + s.size := by rw [ByteArray.size_append]; rfl
  unfold hash_Leaf.f Dig.hash_Sum.f
  rw [if_pos (by omega), if_pos (by omega)]
  rfl
theorem rleaf_f (s : ByteArray) (h : s.size < 1152921504606846000) : parchmentref01_Leaf.f s = some (leaf s) := by
  have s1 : ((⟨#[0]⟩ : ByteArray) ++ s).size = 1 + s.size := by rw [ByteArray.size_append]; rfl
  unfold parchmentref01_Leaf.f Dig.parchmentref01_Sum.f
  rw [if_pos (by omega), if_pos (by omega)]
  rfl
theorem add_tree (s : ByteArray) (w : World) (base g : Nat) (vl vp : Value) (L : List ByteArray) (hA : At w base g vl vp L (pk L)) (hw : W32 L) (hs : s.size < 1152921504606846000) (hn : L.length < 1000) :
    Calls Try.prog 56 #[.pointer (some ⟨g, 0, none⟩), .string s] w fun e w' => e = .returned (.string (leaf s)) ∧ ∃ vl' vp', At w' base g vl' vp' (L ++ [leaf s]) (pk (L ++ [leaf s])) ∧ Step w w' g vl vp vl' vp' ∧ Below base w w' := by
  have hl : W32 [leaf s] := W32.one.2 (leaf_size s)
  obtain ⟨k, hk⟩ := car_pk (L.length + 1) 0 L [leaf s] (by omega) hw hl (by simp) rfl
  rw [mroot_one (by rfl)] at hk
  obtain ⟨p1, p2⟩ := pk_w32 _ L (Nat.le_refl _) hw
  exact add_any s (leaf s) (leaf_f s hs) w base g vl vp L (pk L) _ hA (by omega) (by omega) k hk
end Go.Proofs.Ytdcbacbilncnnaa.T
end
section
namespace Go.Proofs.Ytdcbacbilncnnaa.PMk
open Go.RowKit Go.Proofs.YtdcbacbilncnnaaW.PrintWords Go.Proofs.YtdcbacbilncnnaaW.PrintLast Go.Proofs.YtdcbacbilncnnaaW.PrintMore
attribute [local go_sem] max2_int min2_int max_two min_two max_three min_three max_four min_four   -- for this text's walks alone
set_option linter.unusedVariables false
set_option linter.unusedSimpArgs false
/-! ### block_meta: function 73 -/
def block_meta.f (k : Nat) (a0_0 : Int) (a0_1 : ByteArray) (a0_2 : ByteArray) (a0_3 : Int) (a0_4 : Int) (a0_5 : ByteArray) (a0_6 : ByteArray) (a0_7 : Bool) : Option (ByteArray) := (some (([(a0_0) % 256] : List Int) : List Int)).bind fun y131 => ((enc_Text.f k a0_1).bind fun t134 => (if (strOfNums y131).size + t134.size ≤ 9223372036854775807 then ((enc_Text.f k a0_2).bind fun t135 => (if ((strOfNums y131) ++ t134).size + t135.size ≤ 9223372036854775807 then ((enc_Uint.f k a0_3).bind fun t136 => (if (((strOfNums y131) ++ t134) ++ t135).size + t136.size ≤ 9223372036854775807 then ((enc_Uint.f k a0_4).bind fun t137 => (if ((((strOfNums y131) ++ t134) ++ t135) ++ t136).size + t137.size ≤ 9223372036854775807 then ((enc_Text.f k a0_5).bind fun t138 => (if (((((strOfNums y131) ++ t134) ++ t135) ++ t136) ++ t137).size + t138.size ≤ 9223372036854775807 then (some ((((((strOfNums y131) ++ t134) ++ t135) ++ t136) ++ t137) ++ t138)) else (none))) else (none))) else (none))) else (none))) else (none)))
def block_meta.T1 : Bool × List (List Nat × List Nat) := (true, [([], []), ([0], [0]), ([1], [1]), ([2], [2]), ([3], [3]), ([], []), ([5], [5]), ([6], [6]), ([4, 7], [4, 7]), ([], []), ([9], [9]), ([10, 7], [10]), ([8, 11], [8, 11]), ([], []), ([13], [13]), ([14, 11], [14]), ([12, 15], [12, 15]), ([], []), ([17], [17]), ([18, 15], [18]), ([16, 19], [16, 19]), ([], []), ([21], [21]), ([22, 19], [22]), ([20, 23], [20, 23]), ([24, 23, 0, 1, 2, 3, 4, 5, 6, 7, 8, 9, 10, 11, 12, 13, 14, 15, 16, 17, 18, 19, 20, 21, 22, 23, 24], [24])])
def block_meta.B1 : List Nat := [0, 1, 3, 7, 15, 0, 32, 96, 255, 0, 512, 1760, 4095, 0, 8192, 28384, 65535, 0, 131072, 454368, 1048575, 0, 2097152, 7270112, 16777215, 33554431]
theorem block_meta.tab1 : rtab .any (opsOf Try.f73 1) = block_meta.T1 := by kernel_rfl
theorem block_meta.bits1 : waitsOk block_meta.T1.2 block_meta.B1 = true := by kernel_rfl
set_option maxHeartbeats 8000000 in
set_option maxRecDepth 100000 in
theorem block_meta.calls (k : Nat) (a0_0 : Int) (a0_1 : ByteArray) (a0_2 : ByteArray) (a0_3 : Int) (a0_4 : Int) (a0_5 : ByteArray) (a0_6 : ByteArray) (a0_7 : Bool) (r : ByteArray) (w : World) (h : block_meta.f k a0_0 a0_1 a0_2 a0_3 a0_4 a0_5 a0_6 a0_7 = some r) :
  Calls Try.prog 73 #[.agg #[.int .i64 a0_0, .string a0_1, .string a0_2, .int .u64 a0_3, .int .u64 a0_4, .string a0_5, .string a0_6, .bool a0_7]] w fun e w' => e = .returned (.string r) ∧ Below w.heap.size w w' := by
 have hu47 := Try.underlying47
 have HB := Aside0.mk (Below.refl w.heap.size w)
 have H : ((some (([(a0_0) % 256] : List Int) : List Int)).bind fun y131 => ((enc_Text.f k a0_1).bind fun t134 => (if (strOfNums y131).size + t134.size ≤ 9223372036854775807 then ((enc_Text.f k a0_2).bind fun t135 => (if ((strOfNums y131) ++ t134).size + t135.size ≤ 9223372036854775807 then ((enc_Uint.f k a0_3).bind fun t136 => (if (((strOfNums y131) ++ t134) ++ t135).size + t136.size ≤ 9223372036854775807 then ((enc_Uint.f k a0_4).bind fun t137 => (if ((((strOfNums y131) ++ t134) ++ t135) ++ t136).size + t137.size ≤ 9223372036854775807 then ((enc_Text.f k a0_5).bind fun t138 => (if (((((strOfNums y131) ++ t134) ++ t135) ++ t136) ++ t137).size + t138.size ≤ 9223372036854775807 then (some ((((((strOfNums y131) ++ t134) ++ t135) ++ t136) ++ t137) ++ t138)) else (none))) else (none))) else (none))) else (none))) else (none)))) = some r := h
 clear h
 obtain ⟨y131, hy131⟩ : ∃ y_ : List Int, y_ = (([(a0_0) % 256] : List Int)) := ⟨_, rfl⟩
 replace H : ((enc_Text.f k a0_1).bind fun t134 => (if (strOfNums y131).size + t134.size ≤ 9223372036854775807 then ((enc_Text.f k a0_2).bind fun t135 => (if ((strOfNums y131) ++ t134).size + t135.size ≤ 9223372036854775807 then ((enc_Uint.f k a0_3).bind fun t136 => (if (((strOfNums y131) ++ t134) ++ t135).size + t136.size ≤ 9223372036854775807 then ((enc_Uint.f k a0_4).bind fun t137 => (if ((((strOfNums y131) ++ t134) ++ t135) ++ t136).size + t137.size ≤ 9223372036854775807 then ((enc_Text.f k a0_5).bind fun t138 => (if (((((strOfNums y131) ++ t134) ++ t135) ++ t136) ++ t137).size + t138.size ≤ 9223372036854775807 then (some ((((((strOfNums y131) ++ t134) ++ t135) ++ t136) ++ t137) ++ t138)) else (none))) else (none))) else (none))) else (none))) else (none))) = some r := by first | (rw [hy131]; with_reducible exact H) | (have H2_ := (Option.bind_some _ _).symm.trans H; rw [hy131]; with_reducible exact H2_) | (have H2_ := (Option.bind_some _ _).symm.trans H; with_reducible exact H2_) | with_reducible exact H | (rw [hy131]; exact H) | exact H
 have Ny131 := Aside0.mk hy131
 clear hy131
 replace H := Option.bind_eq_some_iff.mp H
 obtain ⟨t134, A20, H⟩ := H
 replace H : (if (strOfNums y131).size + t134.size ≤ 9223372036854775807 then ((enc_Text.f k a0_2).bind fun t135 => (if ((strOfNums y131) ++ t134).size + t135.size ≤ 9223372036854775807 then ((enc_Uint.f k a0_3).bind fun t136 => (if (((strOfNums y131) ++ t134) ++ t135).size + t136.size ≤ 9223372036854775807 then ((enc_Uint.f k a0_4).bind fun t137 => (if ((((strOfNums y131) ++ t134) ++ t135) ++ t136).size + t137.size ≤ 9223372036854775807 then ((enc_Text.f k a0_5).bind fun t138 => (if (((((strOfNums y131) ++ t134) ++ t135) ++ t136) ++ t137).size + t138.size ≤ 9223372036854775807 then (some ((((((strOfNums y131) ++ t134) ++ t135) ++ t136) ++ t137) ++ t138)) else (none))) else (none))) else (none))) else (none))) else (none)) = some r := H
 have A2 := Aside0.mk A20
 clear A20
 by_cases c3 : (strOfNums y131).size + t134.size ≤ 9223372036854775807
 ·rw [if_pos c3] at H
  have c3b0 := eq_true c3
  have c3b1 : decide ((strOfNums y131).size + t134.size ≤ 9223372036854775807) = true := decide_eq_true c3
  try have c3b2 : (9223372036854775807 < (strOfNums y131).size + t134.size) = False := eq_false (Nat.not_lt.2 c3)
  replace H := Option.bind_eq_some_iff.mp H
  obtain ⟨t135, A40, H⟩ := H
  replace H : (if ((strOfNums y131) ++ t134).size + t135.size ≤ 9223372036854775807 then ((enc_Uint.f k a0_3).bind fun t136 => (if (((strOfNums y131) ++ t134) ++ t135).size + t136.size ≤ 9223372036854775807 then ((enc_Uint.f k a0_4).bind fun t137 => (if ((((strOfNums y131) ++ t134) ++ t135) ++ t136).size + t137.size ≤ 9223372036854775807 then ((enc_Text.f k a0_5).bind fun t138 => (if (((((strOfNums y131) ++ t134) ++ t135) ++ t136) ++ t137).size + t138.size ≤ 9223372036854775807 then (some ((((((strOfNums y131) ++ t134) ++ t135) ++ t136) ++ t137) ++ t138)) else (none))) else (none))) else (none))) else (none)) = some r := H
  have A4 := Aside0.mk A40
  clear A40
  by_cases c5 : ((strOfNums y131) ++ t134).size + t135.size ≤ 9223372036854775807
  ·rw [if_pos c5] at H
   have c5b0 := eq_true c5
   have c5b1 : decide (((strOfNums y131) ++ t134).size + t135.size ≤ 9223372036854775807) = true := decide_eq_true c5
   try have c5b2 : (9223372036854775807 < ((strOfNums y131) ++ t134).size + t135.size) = False := eq_false (Nat.not_lt.2 c5)
   try (have c5b2x := c5b2; simp only [ByteArray.size_append] at c5b2x)
   replace H := Option.bind_eq_some_iff.mp H
   obtain ⟨t136, A60, H⟩ := H
   replace H : (if (((strOfNums y131) ++ t134) ++ t135).size + t136.size ≤ 9223372036854775807 then ((enc_Uint.f k a0_4).bind fun t137 => (if ((((strOfNums y131) ++ t134) ++ t135) ++ t136).size + t137.size ≤ 9223372036854775807 then ((enc_Text.f k a0_5).bind fun t138 => (if (((((strOfNums y131) ++ t134) ++ t135) ++ t136) ++ t137).size + t138.size ≤ 9223372036854775807 then (some ((((((strOfNums y131) ++ t134) ++ t135) ++ t136) ++ t137) ++ t138)) else (none))) else (none))) else (none)) = some r := H
   have A6 := Aside0.mk A60
   clear A60
   by_cases c7 : (((strOfNums y131) ++ t134) ++ t135).size + t136.size ≤ 9223372036854775807
   ·rw [if_pos c7] at H
    have c7b0 := eq_true c7
    have c7b1 : decide ((((strOfNums y131) ++ t134) ++ t135).size + t136.size ≤ 9223372036854775807) = true := decide_eq_true c7
    try have c7b2 : (9223372036854775807 < (((strOfNums y131) ++ t134) ++ t135).size + t136.size) = False := eq_false (Nat.not_lt.2 c7)
    try (have c7b2x := c7b2; simp only [ByteArray.size_append] at c7b2x)
    replace H := Option.bind_eq_some_iff.mp H
    obtain ⟨t137, A80, H⟩ := H
    replace H : (if ((((strOfNums y131) ++ t134) ++ t135) ++ t136).size + t137.size ≤ 9223372036854775807 then ((enc_Text.f k a0_5).bind fun t138 => (if (((((strOfNums y131) ++ t134) ++ t135) ++ t136) ++ t137).size + t138.size ≤ 9223372036854775807 then (some ((((((strOfNums y131) ++ t134) ++ t135) ++ t136) ++ t137) ++ t138)) else (none))) else (none)) = some r := H
    have A8 := Aside0.mk A80
    clear A80
    by_cases c9 : ((((strOfNums y131) ++ t134) ++ t135) ++ t136).size + t137.size ≤ 9223372036854775807
    ·rw [if_pos c9] at H
     have c9b0 := eq_true c9
     have c9b1 : decide (((((strOfNums y131) ++ t134) ++ t135) ++ t136).size + t137.size ≤ 9223372036854775807) = true := decide_eq_true c9
     try have c9b2 : (9223372036854775807 < ((((strOfNums y131) ++ t134) ++ t135) ++ t136).size + t137.size) = False := eq_false (Nat.not_lt.2 c9)
     try (have c9b2x := c9b2; simp only [ByteArray.size_append] at c9b2x)
     replace H := Option.bind_eq_some_iff.mp H
     obtain ⟨t138, A100, H⟩ := H
     replace H : (if (((((strOfNums y131) ++ t134) ++ t135) ++ t136) ++ t137).size + t138.size ≤ 9223372036854775807 then (some ((((((strOfNums y131) ++ t134) ++ t135) ++ t136) ++ t137) ++ t138)) else (none)) = some r := H
     have A10 := Aside0.mk A100
     clear A100
     by_cases c11 : (((((strOfNums y131) ++ t134) ++ t135) ++ t136) ++ t137).size + t138.size ≤ 9223372036854775807
     ·rw [if_pos c11] at H
      have c11b0 := eq_true c11
      have c11b1 : decide ((((((strOfNums y131) ++ t134) ++ t135) ++ t136) ++ t137).size + t138.size ≤ 9223372036854775807) = true := decide_eq_true c11
      try have c11b2 : (9223372036854775807 < (((((strOfNums y131) ++ t134) ++ t135) ++ t136) ++ t137).size + t138.size) = False := eq_false (Nat.not_lt.2 c11)
      try (have c11b2x := c11b2; simp only [ByteArray.size_append] at c11b2x)
      obtain rfl := Option.some.inj H
      go_enter Try.func73, Try.ntmps73
      try go_wp2_with (first | ((with_reducible refine gate_dst (N := 1) rfl ?_); refine box_event ?hg (N := 1) ?hd (cs := #[.int .i64 a0_0, .string a0_1, .string a0_2, .int .u64 a0_3, .int .u64 a0_4, .string a0_5, .string a0_6, .bool a0_7]) (t := 47) ?hr ?_; (case hd => rfl); (case hg => rfl); (case hr => first | (go_simp; done) | (go_simp; rfl)); intro gb130 hg w12 hbox hb; have n0_ := Aside0.mk (below_step (bh_ HB.out) hb); have n1_ := Aside0.mk (hbox); have n2_ := Aside0.mk ((by rw [hg]; exact (below_size (bh_ HB.out)) : w.heap.size ≤ gb130)); have n3_ := Aside0.mk ((by rw [hg]; exact (below_size (bh_ HB.out)) : w.heap.size ≤ gb130)); clear HB; have HB := n0_; have BK130 := n1_; have GW130 := n2_; have GE130 := n3_; clear n0_ n1_ n2_ n3_; clear hb hbox hg))
      replace BK130 := Aside0.mk (blk_drew BK130.out)
      replace HB := Aside0.mk (below_drew1 HB.out)
      refine start_ (n := 26) (S := fun w' => w'.cell? ⟨gb130, 0, none⟩ = some (.int .i64 a0_0) ∧ w'.cell? ⟨gb130, 1, none⟩ = some (.string a0_1) ∧ w'.cell? ⟨gb130, 2, none⟩ = some (.string a0_2) ∧ w'.cell? ⟨gb130, 3, none⟩ = some (.int .u64 a0_3) ∧ w'.cell? ⟨gb130, 4, none⟩ = some (.int .u64 a0_4) ∧ w'.cell? ⟨gb130, 5, none⟩ = some (.string a0_5) ∧ w'.cell? ⟨gb130, 6, none⟩ = some (.string a0_6) ∧ w'.cell? ⟨gb130, 7, none⟩ = some (.bool a0_7)) (ds := []) #[N_, N_, N_, N_, N_, N_, N_, N_, N_, N_, N_, N_, N_, N_, N_, N_, N_, N_, N_, N_, N_, N_, N_, N_, N_, N_] (by kernel_rfl) rfl rfl ⟨(blk_cell BK130.out 0).trans rfl, (blk_cell BK130.out 1).trans rfl, (blk_cell BK130.out 2).trans rfl, (blk_cell BK130.out 3).trans rfl, (blk_cell BK130.out 4).trans rfl, (blk_cell BK130.out 5).trans rfl, (blk_cell BK130.out 6).trans rfl, (blk_cell BK130.out 7).trans rfl⟩ (fun hHeld => ?_); refine with_tabW block_meta.tab1 block_meta.bits1 (fun HT_ HW_ => ?_)
      generalize w12.drew = w13 at BK130 HB hHeld ⊢
      refine pure_ (i := 0) (N := some 3) (v := ?_) (a' := ?_) #[Y_, N_, N_, N_, N_, N_, N_, N_, N_, N_, N_, N_, N_, N_, N_, N_, N_, N_, N_, N_, N_, N_, N_, N_, N_, N_] rfl rfl (any_of HT_.out (by kernel_rfl)) (fun _ _ _ h => h) (Or.inl ⟨by rfl, ?_⟩) ?_ ?_
      rotate_left; (intro w'; go_simp; with_reducible rfl); rotate_left; (simp only [Act.put, q1_, q2_, q3_, i64_w, i32_w]; rfl)
      refine pure_ (i := 5) (N := some 8) (v := ?_) (a' := ?_) #[Y_, N_, N_, N_, N_, Y_, N_, N_, N_, N_, N_, N_, N_, N_, N_, N_, N_, N_, N_, N_, N_, N_, N_, N_, N_, N_] rfl rfl (any_of HT_.out (by kernel_rfl)) (fun _ _ _ h => h) (Or.inl ⟨by rfl, ?_⟩) ?_ ?_
      rotate_left; (intro w'; go_simp; with_reducible rfl); rotate_left; (simp only [Act.put, q1_, q2_, q3_, i64_w, i32_w]; rfl)
      refine pure_ (i := 9) (N := some 12) (v := ?_) (a' := ?_) #[Y_, N_, N_, N_, N_, Y_, N_, N_, N_, Y_, N_, N_, N_, N_, N_, N_, N_, N_, N_, N_, N_, N_, N_, N_, N_, N_] rfl rfl (any_of HT_.out (by kernel_rfl)) (fun _ _ _ h => h) (Or.inl ⟨by rfl, ?_⟩) ?_ ?_
      rotate_left; (intro w'; go_simp; with_reducible rfl); rotate_left; (simp only [Act.put, q1_, q2_, q3_, i64_w, i32_w]; rfl)
      refine pure_ (i := 13) (N := some 16) (v := ?_) (a' := ?_) #[Y_, N_, N_, N_, N_, Y_, N_, N_, N_, Y_, N_, N_, N_, Y_, N_, N_, N_, N_, N_, N_, N_, N_, N_, N_, N_, N_] rfl rfl (any_of HT_.out (by kernel_rfl)) (fun _ _ _ h => h) (Or.inl ⟨by rfl, ?_⟩) ?_ ?_
      rotate_left; (intro w'; go_simp; with_reducible rfl); rotate_left; (simp only [Act.put, q1_, q2_, q3_, i64_w, i32_w]; rfl)
      refine pure_ (i := 17) (N := some 20) (v := ?_) (a' := ?_) #[Y_, N_, N_, N_, N_, Y_, N_, N_, N_, Y_, N_, N_, N_, Y_, N_, N_, N_, Y_, N_, N_, N_, N_, N_, N_, N_, N_] rfl rfl (any_of HT_.out (by kernel_rfl)) (fun _ _ _ h => h) (Or.inl ⟨by rfl, ?_⟩) ?_ ?_
      rotate_left; (intro w'; go_simp; with_reducible rfl); rotate_left; (simp only [Act.put, q1_, q2_, q3_, i64_w, i32_w]; rfl)
      refine pure_ (i := 21) (N := some 24) (v := ?_) (a' := ?_) #[Y_, N_, N_, N_, N_, Y_, N_, N_, N_, Y_, N_, N_, N_, Y_, N_, N_, N_, Y_, N_, N_, N_, Y_, N_, N_, N_, N_] rfl rfl (any_of HT_.out (by kernel_rfl)) (fun _ _ _ h => h) (Or.inl ⟨by rfl, ?_⟩) ?_ ?_
      rotate_left; (intro w'; go_simp; with_reducible rfl); rotate_left; (simp only [Act.put, q1_, q2_, q3_, i64_w, i32_w]; rfl)
      refine take_ (i := 1) (N := some 4) (v := ?_) (a' := ?_) #[Y_, Y_, N_, N_, N_, Y_, N_, N_, N_, Y_, N_, N_, N_, Y_, N_, N_, N_, Y_, N_, N_, N_, Y_, N_, N_, N_, N_] rfl rfl (take_ofW HT_.out HW_.out (by kernel_rfl)) (fun _ _ _ h => h) (Or.inl ⟨by rfl, ?_⟩) hHeld ?_ ?_
      rotate_left; (rintro w' ⟨s0, s1, s2, s3, s4, s5, s6, s7⟩; go_simp; with_reducible rfl); rotate_left; (simp only [Act.put, q1_, q2_, q3_, i64_w, i32_w]; rfl)
      refine pure_ (i := 2) (N := some 5) (v := ?_) (a' := ?_) #[Y_, Y_, Y_, N_, N_, Y_, N_, N_, N_, Y_, N_, N_, N_, Y_, N_, N_, N_, Y_, N_, N_, N_, Y_, N_, N_, N_, N_] rfl rfl (any_of HT_.out (by kernel_rfl)) (fun _ _ _ h => h) (Or.inl ⟨by rfl, ?_⟩) ?_ ?_
      rotate_left; (intro w'; go_simp; with_reducible rfl); rotate_left; (simp only [Act.put, q1_, q2_, q3_, i64_w, i32_w]; rfl)
      refine take_ (i := 6) (N := some 9) (v := ?_) (a' := ?_) #[Y_, Y_, Y_, N_, N_, Y_, Y_, N_, N_, Y_, N_, N_, N_, Y_, N_, N_, N_, Y_, N_, N_, N_, Y_, N_, N_, N_, N_] rfl rfl (take_ofW HT_.out HW_.out (by kernel_rfl)) (fun _ _ _ h => h) (Or.inl ⟨by rfl, ?_⟩) hHeld ?_ ?_
      rotate_left; (rintro w' ⟨s0, s1, s2, s3, s4, s5, s6, s7⟩; go_simp; with_reducible rfl); rotate_left; (simp only [Act.put, q1_, q2_, q3_, i64_w, i32_w]; rfl)
      refine take_ (i := 10) (N := some 13) (v := ?_) (a' := ?_) #[Y_, Y_, Y_, N_, N_, Y_, Y_, N_, N_, Y_, Y_, N_, N_, Y_, N_, N_, N_, Y_, N_, N_, N_, Y_, N_, N_, N_, N_] rfl rfl (take_ofW HT_.out HW_.out (by kernel_rfl)) (fun _ _ _ h => h) (Or.inl ⟨by rfl, ?_⟩) hHeld ?_ ?_
      rotate_left; (rintro w' ⟨s0, s1, s2, s3, s4, s5, s6, s7⟩; go_simp; with_reducible rfl); rotate_left; (simp only [Act.put, q1_, q2_, q3_, i64_w, i32_w]; rfl)
      refine take_ (i := 14) (N := some 17) (v := ?_) (a' := ?_) #[Y_, Y_, Y_, N_, N_, Y_, Y_, N_, N_, Y_, Y_, N_, N_, Y_, Y_, N_, N_, Y_, N_, N_, N_, Y_, N_, N_, N_, N_] rfl rfl (take_ofW HT_.out HW_.out (by kernel_rfl)) (fun _ _ _ h => h) (Or.inl ⟨by rfl, ?_⟩) hHeld ?_ ?_
      rotate_left; (rintro w' ⟨s0, s1, s2, s3, s4, s5, s6, s7⟩; go_simp; with_reducible rfl); rotate_left; (simp only [Act.put, q1_, q2_, q3_, i64_w, i32_w]; rfl)
      refine take_ (i := 18) (N := some 21) (v := ?_) (a' := ?_) #[Y_, Y_, Y_, N_, N_, Y_, Y_, N_, N_, Y_, Y_, N_, N_, Y_, Y_, N_, N_, Y_, Y_, N_, N_, Y_, N_, N_, N_, N_] rfl rfl (take_ofW HT_.out HW_.out (by kernel_rfl)) (fun _ _ _ h => h) (Or.inl ⟨by rfl, ?_⟩) hHeld ?_ ?_
      rotate_left; (rintro w' ⟨s0, s1, s2, s3, s4, s5, s6, s7⟩; go_simp; with_reducible rfl); rotate_left; (simp only [Act.put, q1_, q2_, q3_, i64_w, i32_w]; rfl)
      refine take_ (i := 22) (N := some 25) (v := ?_) (a' := ?_) #[Y_, Y_, Y_, N_, N_, Y_, Y_, N_, N_, Y_, Y_, N_, N_, Y_, Y_, N_, N_, Y_, Y_, N_, N_, Y_, Y_, N_, N_, N_] rfl rfl (take_ofW HT_.out HW_.out (by kernel_rfl)) (fun _ _ _ h => h) (Or.inl ⟨by rfl, ?_⟩) hHeld ?_ ?_
      rotate_left; (rintro w' ⟨s0, s1, s2, s3, s4, s5, s6, s7⟩; go_simp; with_reducible rfl); rotate_left; (simp only [Act.put, q1_, q2_, q3_, i64_w, i32_w]; rfl)
      refine join_ (σ := Value) 2 #[Y_, Y_, Y_, Y_, Y_, Y_, Y_, Y_, Y_, Y_, Y_, Y_, Y_, Y_, Y_, Y_, Y_, Y_, Y_, Y_, Y_, Y_, Y_, Y_, N_, N_] (fun s_ => [(6, s_), (7, .string (strOfNums y131)), (10, .string t134), (14, .string t135), (18, .string t136), (22, .string t137), (26, .string t138), (11, .string ((strOfNums y131) ++ t134)), (15, .string (((strOfNums y131) ++ t134) ++ t135)), (19, .string ((((strOfNums y131) ++ t134) ++ t135) ++ t136)), (23, .string (((((strOfNums y131) ++ t134) ++ t135) ++ t136) ++ t137))]) (fun s_ w' => (w'.cell? ⟨gb130, 0, none⟩ = some (.int .i64 a0_0) ∧ w'.cell? ⟨gb130, 1, none⟩ = some (.string a0_1) ∧ w'.cell? ⟨gb130, 2, none⟩ = some (.string a0_2) ∧ w'.cell? ⟨gb130, 3, none⟩ = some (.int .u64 a0_3) ∧ w'.cell? ⟨gb130, 4, none⟩ = some (.int .u64 a0_4) ∧ w'.cell? ⟨gb130, 5, none⟩ = some (.string a0_5) ∧ w'.cell? ⟨gb130, 6, none⟩ = some (.string a0_6) ∧ w'.cell? ⟨gb130, 7, none⟩ = some (.bool a0_7)) ∧ (Kd.R (Kd.int .u8) 5 w' w.heap.size (fun _ => True) s_ y131) ∧ (w'.heap[gb130]? = some (.cells #[.int .i64 a0_0, .string a0_1, .string a0_2, .int .u64 a0_3, .int .u64 a0_4, .string a0_5, .string a0_6, .bool a0_7] 47 (0, 0))) ∧ (Below w.heap.size w w')) ?_ ?_
      rotate_left
      ·intro hJ3_4_7_11_15_19_23
       refine join_ (σ := Value) 3 #[Y_, Y_, Y_, Y_, Y_, Y_, Y_, Y_, Y_, Y_, Y_, Y_, Y_, Y_, Y_, Y_, Y_, Y_, Y_, Y_, Y_, Y_, Y_, N_, N_, N_] (fun s_ => [(6, s_), (7, .string (strOfNums y131)), (10, .string t134), (14, .string t135), (18, .string t136), (22, .string t137), (11, .string ((strOfNums y131) ++ t134)), (15, .string (((strOfNums y131) ++ t134) ++ t135)), (19, .string ((((strOfNums y131) ++ t134) ++ t135) ++ t136)), (23, .string (((((strOfNums y131) ++ t134) ++ t135) ++ t136) ++ t137))]) (fun s_ w' => (w'.cell? ⟨gb130, 0, none⟩ = some (.int .i64 a0_0) ∧ w'.cell? ⟨gb130, 1, none⟩ = some (.string a0_1) ∧ w'.cell? ⟨gb130, 2, none⟩ = some (.string a0_2) ∧ w'.cell? ⟨gb130, 3, none⟩ = some (.int .u64 a0_3) ∧ w'.cell? ⟨gb130, 4, none⟩ = some (.int .u64 a0_4) ∧ w'.cell? ⟨gb130, 5, none⟩ = some (.string a0_5) ∧ w'.cell? ⟨gb130, 6, none⟩ = some (.string a0_6) ∧ w'.cell? ⟨gb130, 7, none⟩ = some (.bool a0_7)) ∧ (Kd.R (Kd.int .u8) 5 w' w.heap.size (fun _ => True) s_ y131) ∧ (w'.heap[gb130]? = some (.cells #[.int .i64 a0_0, .string a0_1, .string a0_2, .int .u64 a0_3, .int .u64 a0_4, .string a0_5, .string a0_6, .bool a0_7] 47 (0, 0))) ∧ (Below w.heap.size w w')) ?_ ?_
       rotate_left
       ·intro hJ3_4_7_11_15_19
        refine join_ (σ := Value) 7 #[Y_, Y_, Y_, Y_, N_, Y_, Y_, Y_, N_, Y_, Y_, Y_, N_, Y_, Y_, Y_, N_, Y_, Y_, Y_, N_, Y_, Y_, Y_, N_, N_] (fun s_ => [(6, s_), (10, .string t134), (14, .string t135), (18, .string t136), (22, .string t137), (26, .string t138)]) (fun s_ w' => (w'.cell? ⟨gb130, 0, none⟩ = some (.int .i64 a0_0) ∧ w'.cell? ⟨gb130, 1, none⟩ = some (.string a0_1) ∧ w'.cell? ⟨gb130, 2, none⟩ = some (.string a0_2) ∧ w'.cell? ⟨gb130, 3, none⟩ = some (.int .u64 a0_3) ∧ w'.cell? ⟨gb130, 4, none⟩ = some (.int .u64 a0_4) ∧ w'.cell? ⟨gb130, 5, none⟩ = some (.string a0_5) ∧ w'.cell? ⟨gb130, 6, none⟩ = some (.string a0_6) ∧ w'.cell? ⟨gb130, 7, none⟩ = some (.bool a0_7)) ∧ (Kd.R (Kd.int .u8) 5 w' w.heap.size (fun _ => True) s_ y131) ∧ (w'.heap[gb130]? = some (.cells #[.int .i64 a0_0, .string a0_1, .string a0_2, .int .u64 a0_3, .int .u64 a0_4, .string a0_5, .string a0_6, .bool a0_7] 47 (0, 0))) ∧ (Below w.heap.size w w')) ?_ ?_
        rotate_left
        ·intro hJ3_7_11_15_19_23
         refine join_ (σ := Value) 5 #[Y_, Y_, Y_, Y_, Y_, Y_, Y_, Y_, Y_, Y_, Y_, Y_, Y_, Y_, Y_, Y_, Y_, Y_, Y_, N_, N_, Y_, Y_, N_, N_, N_] (fun s_ => [(6, s_), (7, .string (strOfNums y131)), (10, .string t134), (14, .string t135), (18, .string t136), (11, .string ((strOfNums y131) ++ t134)), (15, .string (((strOfNums y131) ++ t134) ++ t135)), (19, .string ((((strOfNums y131) ++ t134) ++ t135) ++ t136))]) (fun s_ w' => (w'.cell? ⟨gb130, 0, none⟩ = some (.int .i64 a0_0) ∧ w'.cell? ⟨gb130, 1, none⟩ = some (.string a0_1) ∧ w'.cell? ⟨gb130, 2, none⟩ = some (.string a0_2) ∧ w'.cell? ⟨gb130, 3, none⟩ = some (.int .u64 a0_3) ∧ w'.cell? ⟨gb130, 4, none⟩ = some (.int .u64 a0_4) ∧ w'.cell? ⟨gb130, 5, none⟩ = some (.string a0_5) ∧ w'.cell? ⟨gb130, 6, none⟩ = some (.string a0_6) ∧ w'.cell? ⟨gb130, 7, none⟩ = some (.bool a0_7)) ∧ (Kd.R (Kd.int .u8) 5 w' w.heap.size (fun _ => True) s_ y131) ∧ (w'.heap[gb130]? = some (.cells #[.int .i64 a0_0, .string a0_1, .string a0_2, .int .u64 a0_3, .int .u64 a0_4, .string a0_5, .string a0_6, .bool a0_7] 47 (0, 0))) ∧ (Below w.heap.size w w')) ?_ ?_
         rotate_left
         ·intro hJ3_4_7_11_15
          refine join_ (σ := Value) 8 #[Y_, Y_, Y_, Y_, N_, Y_, Y_, Y_, N_, Y_, Y_, Y_, N_, Y_, Y_, Y_, N_, Y_, Y_, Y_, N_, Y_, Y_, N_, N_, N_] (fun s_ => [(6, s_), (10, .string t134), (14, .string t135), (18, .string t136), (22, .string t137)]) (fun s_ w' => (w'.cell? ⟨gb130, 0, none⟩ = some (.int .i64 a0_0) ∧ w'.cell? ⟨gb130, 1, none⟩ = some (.string a0_1) ∧ w'.cell? ⟨gb130, 2, none⟩ = some (.string a0_2) ∧ w'.cell? ⟨gb130, 3, none⟩ = some (.int .u64 a0_3) ∧ w'.cell? ⟨gb130, 4, none⟩ = some (.int .u64 a0_4) ∧ w'.cell? ⟨gb130, 5, none⟩ = some (.string a0_5) ∧ w'.cell? ⟨gb130, 6, none⟩ = some (.string a0_6) ∧ w'.cell? ⟨gb130, 7, none⟩ = some (.bool a0_7)) ∧ (Kd.R (Kd.int .u8) 5 w' w.heap.size (fun _ => True) s_ y131) ∧ (w'.heap[gb130]? = some (.cells #[.int .i64 a0_0, .string a0_1, .string a0_2, .int .u64 a0_3, .int .u64 a0_4, .string a0_5, .string a0_6, .bool a0_7] 47 (0, 0))) ∧ (Below w.heap.size w w')) ?_ ?_
          rotate_left
          ·intro hJ3_7_11_15_19
           refine join_ (σ := Unit) 8 #[Y_, Y_, Y_, N_, N_, Y_, Y_, Y_, N_, Y_, Y_, Y_, N_, Y_, Y_, Y_, N_, Y_, Y_, Y_, N_, Y_, Y_, Y_, N_, N_] (fun s_ => [(10, .string t134), (14, .string t135), (18, .string t136), (22, .string t137), (26, .string t138)]) (fun s_ w' => (w'.cell? ⟨gb130, 0, none⟩ = some (.int .i64 a0_0) ∧ w'.cell? ⟨gb130, 1, none⟩ = some (.string a0_1) ∧ w'.cell? ⟨gb130, 2, none⟩ = some (.string a0_2) ∧ w'.cell? ⟨gb130, 3, none⟩ = some (.int .u64 a0_3) ∧ w'.cell? ⟨gb130, 4, none⟩ = some (.int .u64 a0_4) ∧ w'.cell? ⟨gb130, 5, none⟩ = some (.string a0_5) ∧ w'.cell? ⟨gb130, 6, none⟩ = some (.string a0_6) ∧ w'.cell? ⟨gb130, 7, none⟩ = some (.bool a0_7)) ∧ (w'.heap[gb130]? = some (.cells #[.int .i64 a0_0, .string a0_1, .string a0_2, .int .u64 a0_3, .int .u64 a0_4, .string a0_5, .string a0_6, .bool a0_7] 47 (0, 0))) ∧ (Below w.heap.size w w')) ?_ ?_
           rotate_left
           ·intro hJ7_11_15_19_23
            refine join_ (σ := Value) 7 #[Y_, Y_, Y_, Y_, Y_, Y_, Y_, Y_, Y_, Y_, Y_, Y_, Y_, Y_, Y_, N_, N_, Y_, Y_, N_, N_, Y_, Y_, N_, N_, N_] (fun s_ => [(6, s_), (7, .string (strOfNums y131)), (10, .string t134), (14, .string t135), (11, .string ((strOfNums y131) ++ t134)), (15, .string (((strOfNums y131) ++ t134) ++ t135))]) (fun s_ w' => (w'.cell? ⟨gb130, 0, none⟩ = some (.int .i64 a0_0) ∧ w'.cell? ⟨gb130, 1, none⟩ = some (.string a0_1) ∧ w'.cell? ⟨gb130, 2, none⟩ = some (.string a0_2) ∧ w'.cell? ⟨gb130, 3, none⟩ = some (.int .u64 a0_3) ∧ w'.cell? ⟨gb130, 4, none⟩ = some (.int .u64 a0_4) ∧ w'.cell? ⟨gb130, 5, none⟩ = some (.string a0_5) ∧ w'.cell? ⟨gb130, 6, none⟩ = some (.string a0_6) ∧ w'.cell? ⟨gb130, 7, none⟩ = some (.bool a0_7)) ∧ (Kd.R (Kd.int .u8) 5 w' w.heap.size (fun _ => True) s_ y131) ∧ (w'.heap[gb130]? = some (.cells #[.int .i64 a0_0, .string a0_1, .string a0_2, .int .u64 a0_3, .int .u64 a0_4, .string a0_5, .string a0_6, .bool a0_7] 47 (0, 0))) ∧ (Below w.heap.size w w')) ?_ ?_
            rotate_left
            ·intro hJ3_4_7_11
             refine join_ (σ := Value) 9 #[Y_, Y_, Y_, Y_, N_, Y_, Y_, Y_, N_, Y_, Y_, Y_, N_, Y_, Y_, Y_, N_, Y_, Y_, N_, N_, Y_, Y_, N_, N_, N_] (fun s_ => [(6, s_), (10, .string t134), (14, .string t135), (18, .string t136)]) (fun s_ w' => (w'.cell? ⟨gb130, 0, none⟩ = some (.int .i64 a0_0) ∧ w'.cell? ⟨gb130, 1, none⟩ = some (.string a0_1) ∧ w'.cell? ⟨gb130, 2, none⟩ = some (.string a0_2) ∧ w'.cell? ⟨gb130, 3, none⟩ = some (.int .u64 a0_3) ∧ w'.cell? ⟨gb130, 4, none⟩ = some (.int .u64 a0_4) ∧ w'.cell? ⟨gb130, 5, none⟩ = some (.string a0_5) ∧ w'.cell? ⟨gb130, 6, none⟩ = some (.string a0_6) ∧ w'.cell? ⟨gb130, 7, none⟩ = some (.bool a0_7)) ∧ (Kd.R (Kd.int .u8) 5 w' w.heap.size (fun _ => True) s_ y131) ∧ (w'.heap[gb130]? = some (.cells #[.int .i64 a0_0, .string a0_1, .string a0_2, .int .u64 a0_3, .int .u64 a0_4, .string a0_5, .string a0_6, .bool a0_7] 47 (0, 0))) ∧ (Below w.heap.size w w')) ?_ ?_
             rotate_left
             ·intro hJ3_7_11_15
              refine join_ (σ := Unit) 9 #[Y_, Y_, Y_, N_, N_, Y_, Y_, Y_, N_, Y_, Y_, Y_, N_, Y_, Y_, Y_, N_, Y_, Y_, Y_, N_, Y_, Y_, N_, N_, N_] (fun s_ => [(10, .string t134), (14, .string t135), (18, .string t136), (22, .string t137)]) (fun s_ w' => (w'.cell? ⟨gb130, 0, none⟩ = some (.int .i64 a0_0) ∧ w'.cell? ⟨gb130, 1, none⟩ = some (.string a0_1) ∧ w'.cell? ⟨gb130, 2, none⟩ = some (.string a0_2) ∧ w'.cell? ⟨gb130, 3, none⟩ = some (.int .u64 a0_3) ∧ w'.cell? ⟨gb130, 4, none⟩ = some (.int .u64 a0_4) ∧ w'.cell? ⟨gb130, 5, none⟩ = some (.string a0_5) ∧ w'.cell? ⟨gb130, 6, none⟩ = some (.string a0_6) ∧ w'.cell? ⟨gb130, 7, none⟩ = some (.bool a0_7)) ∧ (w'.heap[gb130]? = some (.cells #[.int .i64 a0_0, .string a0_1, .string a0_2, .int .u64 a0_3, .int .u64 a0_4, .string a0_5, .string a0_6, .bool a0_7] 47 (0, 0))) ∧ (Below w.heap.size w w')) ?_ ?_
              rotate_left
              ·intro hJ7_11_15_19
               refine join_ (σ := Value) 9 #[Y_, Y_, Y_, Y_, Y_, Y_, Y_, Y_, Y_, Y_, Y_, N_, N_, Y_, Y_, N_, N_, Y_, Y_, N_, N_, Y_, Y_, N_, N_, N_] (fun s_ => [(6, s_), (7, .string (strOfNums y131)), (10, .string t134), (11, .string ((strOfNums y131) ++ t134))]) (fun s_ w' => (w'.cell? ⟨gb130, 0, none⟩ = some (.int .i64 a0_0) ∧ w'.cell? ⟨gb130, 1, none⟩ = some (.string a0_1) ∧ w'.cell? ⟨gb130, 2, none⟩ = some (.string a0_2) ∧ w'.cell? ⟨gb130, 3, none⟩ = some (.int .u64 a0_3) ∧ w'.cell? ⟨gb130, 4, none⟩ = some (.int .u64 a0_4) ∧ w'.cell? ⟨gb130, 5, none⟩ = some (.string a0_5) ∧ w'.cell? ⟨gb130, 6, none⟩ = some (.string a0_6) ∧ w'.cell? ⟨gb130, 7, none⟩ = some (.bool a0_7)) ∧ (Kd.R (Kd.int .u8) 5 w' w.heap.size (fun _ => True) s_ y131) ∧ (w'.heap[gb130]? = some (.cells #[.int .i64 a0_0, .string a0_1, .string a0_2, .int .u64 a0_3, .int .u64 a0_4, .string a0_5, .string a0_6, .bool a0_7] 47 (0, 0))) ∧ (Below w.heap.size w w')) ?_ ?_
               rotate_left
               ·intro hJ3_4_7
                refine join_ (σ := Value) 10 #[Y_, Y_, Y_, Y_, N_, Y_, Y_, Y_, N_, Y_, Y_, Y_, N_, Y_, Y_, N_, N_, Y_, Y_, N_, N_, Y_, Y_, N_, N_, N_] (fun s_ => [(6, s_), (10, .string t134), (14, .string t135)]) (fun s_ w' => (w'.cell? ⟨gb130, 0, none⟩ = some (.int .i64 a0_0) ∧ w'.cell? ⟨gb130, 1, none⟩ = some (.string a0_1) ∧ w'.cell? ⟨gb130, 2, none⟩ = some (.string a0_2) ∧ w'.cell? ⟨gb130, 3, none⟩ = some (.int .u64 a0_3) ∧ w'.cell? ⟨gb130, 4, none⟩ = some (.int .u64 a0_4) ∧ w'.cell? ⟨gb130, 5, none⟩ = some (.string a0_5) ∧ w'.cell? ⟨gb130, 6, none⟩ = some (.string a0_6) ∧ w'.cell? ⟨gb130, 7, none⟩ = some (.bool a0_7)) ∧ (Kd.R (Kd.int .u8) 5 w' w.heap.size (fun _ => True) s_ y131) ∧ (w'.heap[gb130]? = some (.cells #[.int .i64 a0_0, .string a0_1, .string a0_2, .int .u64 a0_3, .int .u64 a0_4, .string a0_5, .string a0_6, .bool a0_7] 47 (0, 0))) ∧ (Below w.heap.size w w')) ?_ ?_
                rotate_left
                ·intro hJ3_7_11
                 refine join_ (σ := Unit) 10 #[Y_, Y_, Y_, N_, N_, Y_, Y_, Y_, N_, Y_, Y_, Y_, N_, Y_, Y_, Y_, N_, Y_, Y_, N_, N_, Y_, Y_, N_, N_, N_] (fun s_ => [(10, .string t134), (14, .string t135), (18, .string t136)]) (fun s_ w' => (w'.cell? ⟨gb130, 0, none⟩ = some (.int .i64 a0_0) ∧ w'.cell? ⟨gb130, 1, none⟩ = some (.string a0_1) ∧ w'.cell? ⟨gb130, 2, none⟩ = some (.string a0_2) ∧ w'.cell? ⟨gb130, 3, none⟩ = some (.int .u64 a0_3) ∧ w'.cell? ⟨gb130, 4, none⟩ = some (.int .u64 a0_4) ∧ w'.cell? ⟨gb130, 5, none⟩ = some (.string a0_5) ∧ w'.cell? ⟨gb130, 6, none⟩ = some (.string a0_6) ∧ w'.cell? ⟨gb130, 7, none⟩ = some (.bool a0_7)) ∧ (w'.heap[gb130]? = some (.cells #[.int .i64 a0_0, .string a0_1, .string a0_2, .int .u64 a0_3, .int .u64 a0_4, .string a0_5, .string a0_6, .bool a0_7] 47 (0, 0))) ∧ (Below w.heap.size w w')) ?_ ?_
                 rotate_left
                 ·intro hJ7_11_15
                  refine join_ (σ := Value) 11 #[Y_, Y_, Y_, Y_, Y_, Y_, Y_, N_, N_, Y_, Y_, N_, N_, Y_, Y_, N_, N_, Y_, Y_, N_, N_, Y_, Y_, N_, N_, N_] (fun s_ => [(6, s_), (7, .string (strOfNums y131))]) (fun s_ w' => (w'.cell? ⟨gb130, 0, none⟩ = some (.int .i64 a0_0) ∧ w'.cell? ⟨gb130, 1, none⟩ = some (.string a0_1) ∧ w'.cell? ⟨gb130, 2, none⟩ = some (.string a0_2) ∧ w'.cell? ⟨gb130, 3, none⟩ = some (.int .u64 a0_3) ∧ w'.cell? ⟨gb130, 4, none⟩ = some (.int .u64 a0_4) ∧ w'.cell? ⟨gb130, 5, none⟩ = some (.string a0_5) ∧ w'.cell? ⟨gb130, 6, none⟩ = some (.string a0_6) ∧ w'.cell? ⟨gb130, 7, none⟩ = some (.bool a0_7)) ∧ (Kd.R (Kd.int .u8) 5 w' w.heap.size (fun _ => True) s_ y131) ∧ (w'.heap[gb130]? = some (.cells #[.int .i64 a0_0, .string a0_1, .string a0_2, .int .u64 a0_3, .int .u64 a0_4, .string a0_5, .string a0_6, .bool a0_7] 47 (0, 0))) ∧ (Below w.heap.size w w')) ?_ ?_
                  rotate_left
                  ·intro hJ3_4
                   refine join_ (σ := Value) 11 #[Y_, Y_, Y_, Y_, N_, Y_, Y_, Y_, N_, Y_, Y_, N_, N_, Y_, Y_, N_, N_, Y_, Y_, N_, N_, Y_, Y_, N_, N_, N_] (fun s_ => [(6, s_), (10, .string t134)]) (fun s_ w' => (w'.cell? ⟨gb130, 0, none⟩ = some (.int .i64 a0_0) ∧ w'.cell? ⟨gb130, 1, none⟩ = some (.string a0_1) ∧ w'.cell? ⟨gb130, 2, none⟩ = some (.string a0_2) ∧ w'.cell? ⟨gb130, 3, none⟩ = some (.int .u64 a0_3) ∧ w'.cell? ⟨gb130, 4, none⟩ = some (.int .u64 a0_4) ∧ w'.cell? ⟨gb130, 5, none⟩ = some (.string a0_5) ∧ w'.cell? ⟨gb130, 6, none⟩ = some (.string a0_6) ∧ w'.cell? ⟨gb130, 7, none⟩ = some (.bool a0_7)) ∧ (Kd.R (Kd.int .u8) 5 w' w.heap.size (fun _ => True) s_ y131) ∧ (w'.heap[gb130]? = some (.cells #[.int .i64 a0_0, .string a0_1, .string a0_2, .int .u64 a0_3, .int .u64 a0_4, .string a0_5, .string a0_6, .bool a0_7] 47 (0, 0))) ∧ (Below w.heap.size w w')) ?_ ?_
                   rotate_left
                   ·intro hJ3_7
                    refine join_ (σ := Unit) 11 #[Y_, Y_, Y_, N_, N_, Y_, Y_, Y_, N_, Y_, Y_, Y_, N_, Y_, Y_, N_, N_, Y_, Y_, N_, N_, Y_, Y_, N_, N_, N_] (fun s_ => [(10, .string t134), (14, .string t135)]) (fun s_ w' => (w'.cell? ⟨gb130, 0, none⟩ = some (.int .i64 a0_0) ∧ w'.cell? ⟨gb130, 1, none⟩ = some (.string a0_1) ∧ w'.cell? ⟨gb130, 2, none⟩ = some (.string a0_2) ∧ w'.cell? ⟨gb130, 3, none⟩ = some (.int .u64 a0_3) ∧ w'.cell? ⟨gb130, 4, none⟩ = some (.int .u64 a0_4) ∧ w'.cell? ⟨gb130, 5, none⟩ = some (.string a0_5) ∧ w'.cell? ⟨gb130, 6, none⟩ = some (.string a0_6) ∧ w'.cell? ⟨gb130, 7, none⟩ = some (.bool a0_7)) ∧ (w'.heap[gb130]? = some (.cells #[.int .i64 a0_0, .string a0_1, .string a0_2, .int .u64 a0_3, .int .u64 a0_4, .string a0_5, .string a0_6, .bool a0_7] 47 (0, 0))) ∧ (Below w.heap.size w w')) ?_ ?_
                    rotate_left
                    ·intro hJ7_11
                     refine join_ (σ := Value) 12 #[Y_, Y_, Y_, Y_, N_, Y_, Y_, N_, N_, Y_, Y_, N_, N_, Y_, Y_, N_, N_, Y_, Y_, N_, N_, Y_, Y_, N_, N_, N_] (fun s_ => [(6, s_)]) (fun s_ w' => (w'.cell? ⟨gb130, 0, none⟩ = some (.int .i64 a0_0) ∧ w'.cell? ⟨gb130, 1, none⟩ = some (.string a0_1) ∧ w'.cell? ⟨gb130, 2, none⟩ = some (.string a0_2) ∧ w'.cell? ⟨gb130, 3, none⟩ = some (.int .u64 a0_3) ∧ w'.cell? ⟨gb130, 4, none⟩ = some (.int .u64 a0_4) ∧ w'.cell? ⟨gb130, 5, none⟩ = some (.string a0_5) ∧ w'.cell? ⟨gb130, 6, none⟩ = some (.string a0_6) ∧ w'.cell? ⟨gb130, 7, none⟩ = some (.bool a0_7)) ∧ (Kd.R (Kd.int .u8) 5 w' w.heap.size (fun _ => True) s_ y131) ∧ (w'.heap[gb130]? = some (.cells #[.int .i64 a0_0, .string a0_1, .string a0_2, .int .u64 a0_3, .int .u64 a0_4, .string a0_5, .string a0_6, .bool a0_7] 47 (0, 0))) ∧ (Below w.heap.size w w')) ?_ ?_
                     rotate_left
                     ·intro hJ3
                      refine join_ (σ := Unit) 12 #[Y_, Y_, Y_, N_, N_, Y_, Y_, Y_, N_, Y_, Y_, N_, N_, Y_, Y_, N_, N_, Y_, Y_, N_, N_, Y_, Y_, N_, N_, N_] (fun s_ => [(10, .string t134)]) (fun s_ w' => (w'.cell? ⟨gb130, 0, none⟩ = some (.int .i64 a0_0) ∧ w'.cell? ⟨gb130, 1, none⟩ = some (.string a0_1) ∧ w'.cell? ⟨gb130, 2, none⟩ = some (.string a0_2) ∧ w'.cell? ⟨gb130, 3, none⟩ = some (.int .u64 a0_3) ∧ w'.cell? ⟨gb130, 4, none⟩ = some (.int .u64 a0_4) ∧ w'.cell? ⟨gb130, 5, none⟩ = some (.string a0_5) ∧ w'.cell? ⟨gb130, 6, none⟩ = some (.string a0_6) ∧ w'.cell? ⟨gb130, 7, none⟩ = some (.bool a0_7)) ∧ (w'.heap[gb130]? = some (.cells #[.int .i64 a0_0, .string a0_1, .string a0_2, .int .u64 a0_3, .int .u64 a0_4, .string a0_5, .string a0_6, .bool a0_7] 47 (0, 0))) ∧ (Below w.heap.size w w')) ?_ ?_
                      rotate_left
                      ·intro hJ7
                       refine two_ (i := 3) (j := 7) (Ni := some 6) (Nj := some 10) #[Y_, Y_, Y_, Y_, N_, Y_, Y_, N_, N_, Y_, Y_, N_, N_, Y_, Y_, N_, N_, Y_, Y_, N_, N_, Y_, Y_, N_, N_, N_] #[Y_, Y_, Y_, N_, N_, Y_, Y_, Y_, N_, Y_, Y_, N_, N_, Y_, Y_, N_, N_, Y_, Y_, N_, N_, Y_, Y_, N_, N_, N_] rfl rfl rfl rfl (two_of HT_.out (by kernel_rfl)) (by decide) (by decide) (fun K hK => ?_) (fun K hK => ?_)
                       ·skip
                        refine Kd.R_lit_step (Kd.int .u8) _ 5 ?hg (N := 6) ?hd (xs := ([(a0_0) % 256] : List Int)) (inner := [.int .u8 ((a0_0) % 256)]) (ok := fun _ => True) (okp := fun _ => True) ?hr ?hp (fun _ hk => hk) trivial (Below.refl _ _) (Nat.le_refl _) (by simp) ?_; (case hd => rfl); (case hg => rfl); (case hr => first | (go_simp; done) | (go_simp; rfl)); (case hp => exact (Reps.one (show Kd.M (Kd.int .u8) _ _ _ ((a0_0) % 256) [.int .u8 ((a0_0) % 256)] from rfl) (Reps.none _ _)))
                        intro v132 w14 ho15 hb hg_ hnew_
                        clear hg_ hnew_
                        (first | rw [← Ny131.out] at ho15 | (simp only [Int.reduceToNat] at ho15; rw [← Ny131.out] at ho15))
                        have HO133 := Aside0.mk (Kd.R_lower ho15 (below_size (bh_ HB.out)))
                        replace BK130 := Aside0.mk (bk_ BK130.out hb)
                        replace HB := Aside0.mk (below_step (bh_ HB.out) hb)
                        clear hb ho15
                        refine hK.out _ _ ⟨(blk_cell BK130.out 0).trans rfl, (blk_cell BK130.out 1).trans rfl, (blk_cell BK130.out 2).trans rfl, (blk_cell BK130.out 3).trans rfl, (blk_cell BK130.out 4).trans rfl, (blk_cell BK130.out 5).trans rfl, (blk_cell BK130.out 6).trans rfl, (blk_cell BK130.out 7).trans rfl⟩ (fun hHeld => ?_)
                        clear hK K
                        refine norm_ (a' := ?_) ?_ ?_
                        rotate_left
                        ·show Act.put _ (some 6) _ = _
                         simp only [Act.put, q1_, q2_, q3_, i64_w, i32_w]
                         rfl
                        exact norm_ (by first | (simp only [putAll, Act.put, q1_, q2_, q3_]; done) | (simp only [putAll, Act.put, q1_, q2_, q3_]; rfl)) (hJ3 (v132) _ ⟨hHeld, (br_ HO133.out), (bq_ BK130.out), (bh_ HB.out)⟩)
                       ·skip
                        refine goes_ Try.func46 (by kernel_rfl) rfl #[.string a0_1] (by rfl) rfl rfl (by (try simp only [List.map_toArray, List.map_cons, List.map_nil]); first | done | rfl | (simp only [List.length_drop, List.length_take]; rfl)) ?_
                        with_reducible refine (enc_Text.calls k a0_1 t134 _ A2.out).mono ?_
                        rintro e w14 ⟨rfl, hb⟩
                        refine ⟨_, rfl, ?_⟩
                        replace BK130 := Aside0.mk (bk_ BK130.out hb)
                        replace HB := Aside0.mk (below_step (bh_ HB.out) hb)
                        (try clear hb)
                        (try clear hb2)
                        (try clear hk)
                        (try clear hi)
                        refine hK.out _ _ ⟨(blk_cell BK130.out 0).trans rfl, (blk_cell BK130.out 1).trans rfl, (blk_cell BK130.out 2).trans rfl, (blk_cell BK130.out 3).trans rfl, (blk_cell BK130.out 4).trans rfl, (blk_cell BK130.out 5).trans rfl, (blk_cell BK130.out 6).trans rfl, (blk_cell BK130.out 7).trans rfl⟩ (fun hHeld => ?_)
                        clear hK K
                        refine norm_ (a' := ?_) ?_ ?_
                        rotate_left
                        ·show Act.put _ (some 10) _ = _
                         simp only [Act.put, q1_, q2_, q3_, i64_w, i32_w]
                         rfl
                        exact norm_ (by first | (simp only [putAll, Act.put, q1_, q2_, q3_]; done) | (simp only [putAll, Act.put, q1_, q2_, q3_]; rfl)) (hJ7 () _ ⟨hHeld, (bq_ BK130.out), (bh_ HB.out)⟩)
                      ·skip
                       rintro _ w15 ⟨hS_, h0_, h1_⟩
                       have n0_ : Aside0 (w15.heap[gb130]? = some (.cells #[.int .i64 a0_0, .string a0_1, .string a0_2, .int .u64 a0_3, .int .u64 a0_4, .string a0_5, .string a0_6, .bool a0_7] 47 (0, 0))) := ⟨h0_⟩
                       have n1_ : Aside0 (Below w.heap.size w w15) := ⟨h1_⟩
                       clear BK130
                       clear HB
                       clear h0_ h1_
                       have BK130 := n0_
                       have HB := n1_
                       clear n0_ n1_
                       have hHeld : w15.cell? ⟨gb130, 0, none⟩ = some (.int .i64 a0_0) ∧ w15.cell? ⟨gb130, 1, none⟩ = some (.string a0_1) ∧ w15.cell? ⟨gb130, 2, none⟩ = some (.string a0_2) ∧ w15.cell? ⟨gb130, 3, none⟩ = some (.int .u64 a0_3) ∧ w15.cell? ⟨gb130, 4, none⟩ = some (.int .u64 a0_4) ∧ w15.cell? ⟨gb130, 5, none⟩ = some (.string a0_5) ∧ w15.cell? ⟨gb130, 6, none⟩ = some (.string a0_6) ∧ w15.cell? ⟨gb130, 7, none⟩ = some (.bool a0_7) := hS_
                       refine norm_ (a' := ?_) ?_ ?_
                       rotate_left
                       ·simp only [putAll, Act.put, q1_, q2_, q3_]
                        rfl
                       refine two_ (i := 3) (j := 11) (Ni := some 6) (Nj := some 14) #[Y_, Y_, Y_, Y_, N_, Y_, Y_, Y_, N_, Y_, Y_, N_, N_, Y_, Y_, N_, N_, Y_, Y_, N_, N_, Y_, Y_, N_, N_, N_] #[Y_, Y_, Y_, N_, N_, Y_, Y_, Y_, N_, Y_, Y_, Y_, N_, Y_, Y_, N_, N_, Y_, Y_, N_, N_, Y_, Y_, N_, N_, N_] rfl rfl rfl rfl (two_of HT_.out (by kernel_rfl)) (by decide) (by decide) (fun K hK => ?_) (fun K hK => ?_)
                       ·skip
                        refine Kd.R_lit_step (Kd.int .u8) _ 5 ?hg (N := 6) ?hd (xs := ([(a0_0) % 256] : List Int)) (inner := [.int .u8 ((a0_0) % 256)]) (ok := fun _ => True) (okp := fun _ => True) ?hr ?hp (fun _ hk => hk) trivial (Below.refl _ _) (Nat.le_refl _) (by simp) ?_; (case hd => rfl); (case hg => rfl); (case hr => first | (go_simp; done) | (go_simp; rfl)); (case hp => exact (Reps.one (show Kd.M (Kd.int .u8) _ _ _ ((a0_0) % 256) [.int .u8 ((a0_0) % 256)] from rfl) (Reps.none _ _)))
                        intro v132 w16 ho17 hb hg_ hnew_
                        clear hg_ hnew_
                        (first | rw [← Ny131.out] at ho17 | (simp only [Int.reduceToNat] at ho17; rw [← Ny131.out] at ho17))
                        have HO133 := Aside0.mk (Kd.R_lower ho17 (below_size (bh_ HB.out)))
                        replace BK130 := Aside0.mk (bk_ BK130.out hb)
                        replace HB := Aside0.mk (below_step (bh_ HB.out) hb)
                        clear hb ho17
                        refine hK.out _ _ ⟨(blk_cell BK130.out 0).trans rfl, (blk_cell BK130.out 1).trans rfl, (blk_cell BK130.out 2).trans rfl, (blk_cell BK130.out 3).trans rfl, (blk_cell BK130.out 4).trans rfl, (blk_cell BK130.out 5).trans rfl, (blk_cell BK130.out 6).trans rfl, (blk_cell BK130.out 7).trans rfl⟩ (fun hHeld => ?_)
                        clear hK K
                        refine norm_ (a' := ?_) ?_ ?_
                        rotate_left
                        ·show Act.put _ (some 6) _ = _
                         simp only [Act.put, q1_, q2_, q3_, i64_w, i32_w]
                         rfl
                        exact norm_ (by first | (simp only [putAll, Act.put, q1_, q2_, q3_]; done) | (simp only [putAll, Act.put, q1_, q2_, q3_]; rfl)) (hJ3_7 (v132) _ ⟨hHeld, (br_ HO133.out), (bq_ BK130.out), (bh_ HB.out)⟩)
                       ·skip
                        refine goes_ Try.func46 (by kernel_rfl) rfl #[.string a0_2] (by rfl) rfl rfl (by (try simp only [List.map_toArray, List.map_cons, List.map_nil]); first | done | rfl | (simp only [List.length_drop, List.length_take]; rfl)) ?_
                        with_reducible refine (enc_Text.calls k a0_2 t135 _ A4.out).mono ?_
                        rintro e w16 ⟨rfl, hb⟩
                        refine ⟨_, rfl, ?_⟩
                        replace BK130 := Aside0.mk (bk_ BK130.out hb)
                        replace HB := Aside0.mk (below_step (bh_ HB.out) hb)
                        (try clear hb)
                        (try clear hb2)
                        (try clear hk)
                        (try clear hi)
                        refine hK.out _ _ ⟨(blk_cell BK130.out 0).trans rfl, (blk_cell BK130.out 1).trans rfl, (blk_cell BK130.out 2).trans rfl, (blk_cell BK130.out 3).trans rfl, (blk_cell BK130.out 4).trans rfl, (blk_cell BK130.out 5).trans rfl, (blk_cell BK130.out 6).trans rfl, (blk_cell BK130.out 7).trans rfl⟩ (fun hHeld => ?_)
                        clear hK K
                        refine norm_ (a' := ?_) ?_ ?_
                        rotate_left
                        ·show Act.put _ (some 14) _ = _
                         simp only [Act.put, q1_, q2_, q3_, i64_w, i32_w]
                         rfl
                        exact norm_ (by first | (simp only [putAll, Act.put, q1_, q2_, q3_]; done) | (simp only [putAll, Act.put, q1_, q2_, q3_]; rfl)) (hJ7_11 () _ ⟨hHeld, (bq_ BK130.out), (bh_ HB.out)⟩)
                     ·skip
                      rintro v132 w16 ⟨hS_, h0_, h1_, h2_⟩
                      have n0_ : Aside0 (Kd.R (Kd.int .u8) 5 w16 w.heap.size (fun _ => True) v132 y131) := ⟨h0_⟩
                      have n1_ : Aside0 (w16.heap[gb130]? = some (.cells #[.int .i64 a0_0, .string a0_1, .string a0_2, .int .u64 a0_3, .int .u64 a0_4, .string a0_5, .string a0_6, .bool a0_7] 47 (0, 0))) := ⟨h1_⟩
                      have n2_ : Aside0 (Below w.heap.size w w16) := ⟨h2_⟩
                      clear BK130
                      clear HB
                      clear h0_ h1_ h2_
                      have HO133 := n0_
                      have BK130 := n1_
                      have HB := n2_
                      clear n0_ n1_ n2_
                      have hHeld : w16.cell? ⟨gb130, 0, none⟩ = some (.int .i64 a0_0) ∧ w16.cell? ⟨gb130, 1, none⟩ = some (.string a0_1) ∧ w16.cell? ⟨gb130, 2, none⟩ = some (.string a0_2) ∧ w16.cell? ⟨gb130, 3, none⟩ = some (.int .u64 a0_3) ∧ w16.cell? ⟨gb130, 4, none⟩ = some (.int .u64 a0_4) ∧ w16.cell? ⟨gb130, 5, none⟩ = some (.string a0_5) ∧ w16.cell? ⟨gb130, 6, none⟩ = some (.string a0_6) ∧ w16.cell? ⟨gb130, 7, none⟩ = some (.bool a0_7) := hS_
                      refine norm_ (a' := ?_) ?_ ?_
                      rotate_left
                      ·simp only [putAll, Act.put, q1_, q2_, q3_]
                       rfl
                      refine two_ (i := 4) (j := 7) (Ni := some 7) (Nj := some 10) #[Y_, Y_, Y_, Y_, Y_, Y_, Y_, N_, N_, Y_, Y_, N_, N_, Y_, Y_, N_, N_, Y_, Y_, N_, N_, Y_, Y_, N_, N_, N_] #[Y_, Y_, Y_, Y_, N_, Y_, Y_, Y_, N_, Y_, Y_, N_, N_, Y_, Y_, N_, N_, Y_, Y_, N_, N_, Y_, Y_, N_, N_, N_] rfl rfl rfl rfl (two_of HT_.out (by kernel_rfl)) (by decide) (by decide) (fun K hK => ?_) (fun K hK => ?_)
                      ·skip
                       have hcv17 := own_string (P := Try.prog) Try.underlying99 Try.underlying5 Try.underlying9 (Kd.own_of_R HO133.out)
                       refine value_ (w1 := ?_) (v := ?_) (by rfl) rfl ?_ ?_
                       rotate_left 2
                       ·go_simp
                        constructor
                        ·rfl
                        ·rfl
                       clear hcv17
                       refine hK.out _ _ ⟨(blk_cell BK130.out 0).trans rfl, (blk_cell BK130.out 1).trans rfl, (blk_cell BK130.out 2).trans rfl, (blk_cell BK130.out 3).trans rfl, (blk_cell BK130.out 4).trans rfl, (blk_cell BK130.out 5).trans rfl, (blk_cell BK130.out 6).trans rfl, (blk_cell BK130.out 7).trans rfl⟩ (fun hHeld => ?_)
                       clear hK K
                       refine norm_ (a' := ?_) ?_ ?_
                       rotate_left
                       ·show Act.put _ (some 7) _ = _
                        simp only [Act.put, q1_, q2_, q3_, i64_w, i32_w]
                        rfl
                       exact norm_ (by first | (simp only [putAll, Act.put, q1_, q2_, q3_]; done) | (simp only [putAll, Act.put, q1_, q2_, q3_]; rfl)) (hJ3_4 (v132) _ ⟨hHeld, (br_ HO133.out), (bq_ BK130.out), (bh_ HB.out)⟩)
                      ·skip
                       refine goes_ Try.func46 (by kernel_rfl) rfl #[.string a0_1] (by rfl) rfl rfl (by (try simp only [List.map_toArray, List.map_cons, List.map_nil]); first | done | rfl | (simp only [List.length_drop, List.length_take]; rfl)) ?_
                       with_reducible refine (enc_Text.calls k a0_1 t134 _ A2.out).mono ?_
                       rintro e w17 ⟨rfl, hb⟩
                       refine ⟨_, rfl, ?_⟩
                       replace HO133 := Aside0.mk (Kd.R_below (br_ HO133.out) hb)
                       replace BK130 := Aside0.mk (bk_ BK130.out hb)
                       replace HB := Aside0.mk (below_step (bh_ HB.out) hb)
                       (try clear hb)
                       (try clear hb2)
                       (try clear hk)
                       (try clear hi)
                       refine hK.out _ _ ⟨(blk_cell BK130.out 0).trans rfl, (blk_cell BK130.out 1).trans rfl, (blk_cell BK130.out 2).trans rfl, (blk_cell BK130.out 3).trans rfl, (blk_cell BK130.out 4).trans rfl, (blk_cell BK130.out 5).trans rfl, (blk_cell BK130.out 6).trans rfl, (blk_cell BK130.out 7).trans rfl⟩ (fun hHeld => ?_)
                       clear hK K
                       refine norm_ (a' := ?_) ?_ ?_
                       rotate_left
                       ·show Act.put _ (some 10) _ = _
                        simp only [Act.put, q1_, q2_, q3_, i64_w, i32_w]
                        rfl
                       exact norm_ (by first | (simp only [putAll, Act.put, q1_, q2_, q3_]; done) | (simp only [putAll, Act.put, q1_, q2_, q3_]; rfl)) (hJ3_7 (v132) _ ⟨hHeld, (br_ HO133.out), (bq_ BK130.out), (bh_ HB.out)⟩)
                    ·skip
                     rintro _ w16 ⟨hS_, h0_, h1_⟩
                     have n0_ : Aside0 (w16.heap[gb130]? = some (.cells #[.int .i64 a0_0, .string a0_1, .string a0_2, .int .u64 a0_3, .int .u64 a0_4, .string a0_5, .string a0_6, .bool a0_7] 47 (0, 0))) := ⟨h0_⟩
                     have n1_ : Aside0 (Below w.heap.size w w16) := ⟨h1_⟩
                     clear BK130
                     clear HB
                     clear h0_ h1_
                     have BK130 := n0_
                     have HB := n1_
                     clear n0_ n1_
                     have hHeld : w16.cell? ⟨gb130, 0, none⟩ = some (.int .i64 a0_0) ∧ w16.cell? ⟨gb130, 1, none⟩ = some (.string a0_1) ∧ w16.cell? ⟨gb130, 2, none⟩ = some (.string a0_2) ∧ w16.cell? ⟨gb130, 3, none⟩ = some (.int .u64 a0_3) ∧ w16.cell? ⟨gb130, 4, none⟩ = some (.int .u64 a0_4) ∧ w16.cell? ⟨gb130, 5, none⟩ = some (.string a0_5) ∧ w16.cell? ⟨gb130, 6, none⟩ = some (.string a0_6) ∧ w16.cell? ⟨gb130, 7, none⟩ = some (.bool a0_7) := hS_
                     refine norm_ (a' := ?_) ?_ ?_
                     rotate_left
                     ·simp only [putAll, Act.put, q1_, q2_, q3_]
                      rfl
                     refine two_ (i := 3) (j := 15) (Ni := some 6) (Nj := some 18) #[Y_, Y_, Y_, Y_, N_, Y_, Y_, Y_, N_, Y_, Y_, Y_, N_, Y_, Y_, N_, N_, Y_, Y_, N_, N_, Y_, Y_, N_, N_, N_] #[Y_, Y_, Y_, N_, N_, Y_, Y_, Y_, N_, Y_, Y_, Y_, N_, Y_, Y_, Y_, N_, Y_, Y_, N_, N_, Y_, Y_, N_, N_, N_] rfl rfl rfl rfl (two_of HT_.out (by kernel_rfl)) (by decide) (by decide) (fun K hK => ?_) (fun K hK => ?_)
                     ·skip
                      refine Kd.R_lit_step (Kd.int .u8) _ 5 ?hg (N := 6) ?hd (xs := ([(a0_0) % 256] : List Int)) (inner := [.int .u8 ((a0_0) % 256)]) (ok := fun _ => True) (okp := fun _ => True) ?hr ?hp (fun _ hk => hk) trivial (Below.refl _ _) (Nat.le_refl _) (by simp) ?_; (case hd => rfl); (case hg => rfl); (case hr => first | (go_simp; done) | (go_simp; rfl)); (case hp => exact (Reps.one (show Kd.M (Kd.int .u8) _ _ _ ((a0_0) % 256) [.int .u8 ((a0_0) % 256)] from rfl) (Reps.none _ _)))
                      intro v132 w17 ho18 hb hg_ hnew_
                      clear hg_ hnew_
                      (first | rw [← Ny131.out] at ho18 | (simp only [Int.reduceToNat] at ho18; rw [← Ny131.out] at ho18))
                      have HO133 := Aside0.mk (Kd.R_lower ho18 (below_size (bh_ HB.out)))
                      replace BK130 := Aside0.mk (bk_ BK130.out hb)
                      replace HB := Aside0.mk (below_step (bh_ HB.out) hb)
                      clear hb ho18
                      refine hK.out _ _ ⟨(blk_cell BK130.out 0).trans rfl, (blk_cell BK130.out 1).trans rfl, (blk_cell BK130.out 2).trans rfl, (blk_cell BK130.out 3).trans rfl, (blk_cell BK130.out 4).trans rfl, (blk_cell BK130.out 5).trans rfl, (blk_cell BK130.out 6).trans rfl, (blk_cell BK130.out 7).trans rfl⟩ (fun hHeld => ?_)
                      clear hK K
                      refine norm_ (a' := ?_) ?_ ?_
                      rotate_left
                      ·show Act.put _ (some 6) _ = _
                       simp only [Act.put, q1_, q2_, q3_, i64_w, i32_w]
                       rfl
                      exact norm_ (by first | (simp only [putAll, Act.put, q1_, q2_, q3_]; done) | (simp only [putAll, Act.put, q1_, q2_, q3_]; rfl)) (hJ3_7_11 (v132) _ ⟨hHeld, (br_ HO133.out), (bq_ BK130.out), (bh_ HB.out)⟩)
                     ·skip
                      refine goes_ Try.func45 (by kernel_rfl) rfl #[.int .u64 a0_3] (by rfl) rfl rfl (by (try simp only [List.map_toArray, List.map_cons, List.map_nil]); first | done | rfl | (simp only [List.length_drop, List.length_take]; rfl)) ?_
                      with_reducible refine (enc_Uint.calls k a0_3 t136 _ A6.out).mono ?_
                      rintro e w17 ⟨rfl, hb⟩
                      refine ⟨_, rfl, ?_⟩
                      replace BK130 := Aside0.mk (bk_ BK130.out hb)
                      replace HB := Aside0.mk (below_step (bh_ HB.out) hb)
                      (try clear hb)
                      (try clear hb2)
                      (try clear hk)
                      (try clear hi)
                      refine hK.out _ _ ⟨(blk_cell BK130.out 0).trans rfl, (blk_cell BK130.out 1).trans rfl, (blk_cell BK130.out 2).trans rfl, (blk_cell BK130.out 3).trans rfl, (blk_cell BK130.out 4).trans rfl, (blk_cell BK130.out 5).trans rfl, (blk_cell BK130.out 6).trans rfl, (blk_cell BK130.out 7).trans rfl⟩ (fun hHeld => ?_)
                      clear hK K
                      refine norm_ (a' := ?_) ?_ ?_
                      rotate_left
                      ·show Act.put _ (some 18) _ = _
                       simp only [Act.put, q1_, q2_, q3_, i64_w, i32_w]
                       rfl
                      exact norm_ (by first | (simp only [putAll, Act.put, q1_, q2_, q3_]; done) | (simp only [putAll, Act.put, q1_, q2_, q3_]; rfl)) (hJ7_11_15 () _ ⟨hHeld, (bq_ BK130.out), (bh_ HB.out)⟩)
                   ·skip
                    rintro v132 w17 ⟨hS_, h0_, h1_, h2_⟩
                    have n0_ : Aside0 (Kd.R (Kd.int .u8) 5 w17 w.heap.size (fun _ => True) v132 y131) := ⟨h0_⟩
                    have n1_ : Aside0 (w17.heap[gb130]? = some (.cells #[.int .i64 a0_0, .string a0_1, .string a0_2, .int .u64 a0_3, .int .u64 a0_4, .string a0_5, .string a0_6, .bool a0_7] 47 (0, 0))) := ⟨h1_⟩
                    have n2_ : Aside0 (Below w.heap.size w w17) := ⟨h2_⟩
                    clear BK130
                    clear HB
                    clear h0_ h1_ h2_
                    have HO133 := n0_
                    have BK130 := n1_
                    have HB := n2_
                    clear n0_ n1_ n2_
                    have hHeld : w17.cell? ⟨gb130, 0, none⟩ = some (.int .i64 a0_0) ∧ w17.cell? ⟨gb130, 1, none⟩ = some (.string a0_1) ∧ w17.cell? ⟨gb130, 2, none⟩ = some (.string a0_2) ∧ w17.cell? ⟨gb130, 3, none⟩ = some (.int .u64 a0_3) ∧ w17.cell? ⟨gb130, 4, none⟩ = some (.int .u64 a0_4) ∧ w17.cell? ⟨gb130, 5, none⟩ = some (.string a0_5) ∧ w17.cell? ⟨gb130, 6, none⟩ = some (.string a0_6) ∧ w17.cell? ⟨gb130, 7, none⟩ = some (.bool a0_7) := hS_
                    refine norm_ (a' := ?_) ?_ ?_
                    rotate_left
                    ·simp only [putAll, Act.put, q1_, q2_, q3_]
                     rfl
                    refine two_ (i := 4) (j := 11) (Ni := some 7) (Nj := some 14) #[Y_, Y_, Y_, Y_, Y_, Y_, Y_, Y_, N_, Y_, Y_, N_, N_, Y_, Y_, N_, N_, Y_, Y_, N_, N_, Y_, Y_, N_, N_, N_] #[Y_, Y_, Y_, Y_, N_, Y_, Y_, Y_, N_, Y_, Y_, Y_, N_, Y_, Y_, N_, N_, Y_, Y_, N_, N_, Y_, Y_, N_, N_, N_] rfl rfl rfl rfl (two_of HT_.out (by kernel_rfl)) (by decide) (by decide) (fun K hK => ?_) (fun K hK => ?_)
                    ·skip
                     have hcv18 := own_string (P := Try.prog) Try.underlying99 Try.underlying5 Try.underlying9 (Kd.own_of_R HO133.out)
                     refine value_ (w1 := ?_) (v := ?_) (by rfl) rfl ?_ ?_
                     rotate_left 2
                     ·go_simp
                      constructor
                      ·rfl
                      ·rfl
                     clear hcv18
                     refine hK.out _ _ ⟨(blk_cell BK130.out 0).trans rfl, (blk_cell BK130.out 1).trans rfl, (blk_cell BK130.out 2).trans rfl, (blk_cell BK130.out 3).trans rfl, (blk_cell BK130.out 4).trans rfl, (blk_cell BK130.out 5).trans rfl, (blk_cell BK130.out 6).trans rfl, (blk_cell BK130.out 7).trans rfl⟩ (fun hHeld => ?_)
                     clear hK K
                     refine norm_ (a' := ?_) ?_ ?_
                     rotate_left
                     ·show Act.put _ (some 7) _ = _
                      simp only [Act.put, q1_, q2_, q3_, i64_w, i32_w]
                      rfl
                     refine pure_ (i := 8) (N := some 11) (v := ?_) (a' := ?_) #[Y_, Y_, Y_, Y_, Y_, Y_, Y_, Y_, Y_, Y_, Y_, N_, N_, Y_, Y_, N_, N_, Y_, Y_, N_, N_, Y_, Y_, N_, N_, N_] rfl rfl (any_of HT_.out (by kernel_rfl)) (fun _ _ _ h => h) (Or.inl ⟨by rfl, ?_⟩) ?_ ?_
                     rotate_left; (intro w'; go_simp; with_reducible rfl); rotate_left; (simp only [Act.put, q1_, q2_, q3_, i64_w, i32_w]; rfl)
                     exact norm_ (by first | (simp only [putAll, Act.put, q1_, q2_, q3_]; done) | (simp only [putAll, Act.put, q1_, q2_, q3_]; rfl)) (hJ3_4_7 (v132) _ ⟨hHeld, (br_ HO133.out), (bq_ BK130.out), (bh_ HB.out)⟩)
                    ·skip
                     refine goes_ Try.func46 (by kernel_rfl) rfl #[.string a0_2] (by rfl) rfl rfl (by (try simp only [List.map_toArray, List.map_cons, List.map_nil]); first | done | rfl | (simp only [List.length_drop, List.length_take]; rfl)) ?_
                     with_reducible refine (enc_Text.calls k a0_2 t135 _ A4.out).mono ?_
                     rintro e w18 ⟨rfl, hb⟩
                     refine ⟨_, rfl, ?_⟩
                     replace HO133 := Aside0.mk (Kd.R_below (br_ HO133.out) hb)
                     replace BK130 := Aside0.mk (bk_ BK130.out hb)
                     replace HB := Aside0.mk (below_step (bh_ HB.out) hb)
                     (try clear hb)
                     (try clear hb2)
                     (try clear hk)
                     (try clear hi)
                     refine hK.out _ _ ⟨(blk_cell BK130.out 0).trans rfl, (blk_cell BK130.out 1).trans rfl, (blk_cell BK130.out 2).trans rfl, (blk_cell BK130.out 3).trans rfl, (blk_cell BK130.out 4).trans rfl, (blk_cell BK130.out 5).trans rfl, (blk_cell BK130.out 6).trans rfl, (blk_cell BK130.out 7).trans rfl⟩ (fun hHeld => ?_)
                     clear hK K
                     refine norm_ (a' := ?_) ?_ ?_
                     rotate_left
                     ·show Act.put _ (some 14) _ = _
                      simp only [Act.put, q1_, q2_, q3_, i64_w, i32_w]
                      rfl
                     exact norm_ (by first | (simp only [putAll, Act.put, q1_, q2_, q3_]; done) | (simp only [putAll, Act.put, q1_, q2_, q3_]; rfl)) (hJ3_7_11 (v132) _ ⟨hHeld, (br_ HO133.out), (bq_ BK130.out), (bh_ HB.out)⟩)
                  ·skip
                   rintro v132 w17 ⟨hS_, h0_, h1_, h2_⟩
                   have n0_ : Aside0 (Kd.R (Kd.int .u8) 5 w17 w.heap.size (fun _ => True) v132 y131) := ⟨h0_⟩
                   have n1_ : Aside0 (w17.heap[gb130]? = some (.cells #[.int .i64 a0_0, .string a0_1, .string a0_2, .int .u64 a0_3, .int .u64 a0_4, .string a0_5, .string a0_6, .bool a0_7] 47 (0, 0))) := ⟨h1_⟩
                   have n2_ : Aside0 (Below w.heap.size w w17) := ⟨h2_⟩
                   clear BK130
                   clear HB
                   clear h0_ h1_ h2_
                   have HO133 := n0_
                   have BK130 := n1_
                   have HB := n2_
                   clear n0_ n1_ n2_
                   have hHeld : w17.cell? ⟨gb130, 0, none⟩ = some (.int .i64 a0_0) ∧ w17.cell? ⟨gb130, 1, none⟩ = some (.string a0_1) ∧ w17.cell? ⟨gb130, 2, none⟩ = some (.string a0_2) ∧ w17.cell? ⟨gb130, 3, none⟩ = some (.int .u64 a0_3) ∧ w17.cell? ⟨gb130, 4, none⟩ = some (.int .u64 a0_4) ∧ w17.cell? ⟨gb130, 5, none⟩ = some (.string a0_5) ∧ w17.cell? ⟨gb130, 6, none⟩ = some (.string a0_6) ∧ w17.cell? ⟨gb130, 7, none⟩ = some (.bool a0_7) := hS_
                   refine norm_ (a' := ?_) ?_ ?_
                   rotate_left
                   ·simp only [putAll, Act.put, q1_, q2_, q3_]
                    rfl
                   refine one_ (i := 7) (N := some 10) #[Y_, Y_, Y_, Y_, Y_, Y_, Y_, Y_, N_, Y_, Y_, N_, N_, Y_, Y_, N_, N_, Y_, Y_, N_, N_, Y_, Y_, N_, N_, N_] rfl rfl (one_of HT_.out (by kernel_rfl)) (by decide) (fun K hK => ?_)
                   refine goes_ Try.func46 (by kernel_rfl) rfl #[.string a0_1] (by rfl) rfl rfl (by (try simp only [List.map_toArray, List.map_cons, List.map_nil]); first | done | rfl | (simp only [List.length_drop, List.length_take]; rfl)) ?_
                   with_reducible refine (enc_Text.calls k a0_1 t134 _ A2.out).mono ?_
                   rintro e w18 ⟨rfl, hb⟩
                   refine ⟨_, rfl, ?_⟩
                   replace HO133 := Aside0.mk (Kd.R_below (br_ HO133.out) hb)
                   replace BK130 := Aside0.mk (bk_ BK130.out hb)
                   replace HB := Aside0.mk (below_step (bh_ HB.out) hb)
                   (try clear hb)
                   (try clear hb2)
                   (try clear hk)
                   (try clear hi)
                   refine hK.out _ _ ⟨(blk_cell BK130.out 0).trans rfl, (blk_cell BK130.out 1).trans rfl, (blk_cell BK130.out 2).trans rfl, (blk_cell BK130.out 3).trans rfl, (blk_cell BK130.out 4).trans rfl, (blk_cell BK130.out 5).trans rfl, (blk_cell BK130.out 6).trans rfl, (blk_cell BK130.out 7).trans rfl⟩ (fun hHeld => ?_)
                   clear hK K
                   refine norm_ (a' := ?_) ?_ ?_
                   rotate_left
                   ·show Act.put _ (some 10) _ = _
                    simp only [Act.put, q1_, q2_, q3_, i64_w, i32_w]
                    rfl
                   refine pure_ (i := 8) (N := some 11) (v := ?_) (a' := ?_) #[Y_, Y_, Y_, Y_, Y_, Y_, Y_, Y_, Y_, Y_, Y_, N_, N_, Y_, Y_, N_, N_, Y_, Y_, N_, N_, Y_, Y_, N_, N_, N_] rfl rfl (any_of HT_.out (by kernel_rfl)) (fun _ _ _ h => h) (Or.inl ⟨by rfl, ?_⟩) ?_ ?_
                   rotate_left; (intro w'; go_simp; with_reducible rfl); rotate_left; (simp only [Act.put, q1_, q2_, q3_, i64_w, i32_w]; rfl)
                   exact norm_ (by first | (simp only [putAll, Act.put, q1_, q2_, q3_]; done) | (simp only [putAll, Act.put, q1_, q2_, q3_]; rfl)) (hJ3_4_7 (v132) _ ⟨hHeld, (br_ HO133.out), (bq_ BK130.out), (bh_ HB.out)⟩)
                 ·skip
                  rintro _ w17 ⟨hS_, h0_, h1_⟩
                  have n0_ : Aside0 (w17.heap[gb130]? = some (.cells #[.int .i64 a0_0, .string a0_1, .string a0_2, .int .u64 a0_3, .int .u64 a0_4, .string a0_5, .string a0_6, .bool a0_7] 47 (0, 0))) := ⟨h0_⟩
                  have n1_ : Aside0 (Below w.heap.size w w17) := ⟨h1_⟩
                  clear BK130
                  clear HB
                  clear h0_ h1_
                  have BK130 := n0_
                  have HB := n1_
                  clear n0_ n1_
                  have hHeld : w17.cell? ⟨gb130, 0, none⟩ = some (.int .i64 a0_0) ∧ w17.cell? ⟨gb130, 1, none⟩ = some (.string a0_1) ∧ w17.cell? ⟨gb130, 2, none⟩ = some (.string a0_2) ∧ w17.cell? ⟨gb130, 3, none⟩ = some (.int .u64 a0_3) ∧ w17.cell? ⟨gb130, 4, none⟩ = some (.int .u64 a0_4) ∧ w17.cell? ⟨gb130, 5, none⟩ = some (.string a0_5) ∧ w17.cell? ⟨gb130, 6, none⟩ = some (.string a0_6) ∧ w17.cell? ⟨gb130, 7, none⟩ = some (.bool a0_7) := hS_
                  refine norm_ (a' := ?_) ?_ ?_
                  rotate_left
                  ·simp only [putAll, Act.put, q1_, q2_, q3_]
                   rfl
                  refine two_ (i := 3) (j := 19) (Ni := some 6) (Nj := some 22) #[Y_, Y_, Y_, Y_, N_, Y_, Y_, Y_, N_, Y_, Y_, Y_, N_, Y_, Y_, Y_, N_, Y_, Y_, N_, N_, Y_, Y_, N_, N_, N_] #[Y_, Y_, Y_, N_, N_, Y_, Y_, Y_, N_, Y_, Y_, Y_, N_, Y_, Y_, Y_, N_, Y_, Y_, Y_, N_, Y_, Y_, N_, N_, N_] rfl rfl rfl rfl (two_of HT_.out (by kernel_rfl)) (by decide) (by decide) (fun K hK => ?_) (fun K hK => ?_)
                  ·skip
                   refine Kd.R_lit_step (Kd.int .u8) _ 5 ?hg (N := 6) ?hd (xs := ([(a0_0) % 256] : List Int)) (inner := [.int .u8 ((a0_0) % 256)]) (ok := fun _ => True) (okp := fun _ => True) ?hr ?hp (fun _ hk => hk) trivial (Below.refl _ _) (Nat.le_refl _) (by simp) ?_; (case hd => rfl); (case hg => rfl); (case hr => first | (go_simp; done) | (go_simp; rfl)); (case hp => exact (Reps.one (show Kd.M (Kd.int .u8) _ _ _ ((a0_0) % 256) [.int .u8 ((a0_0) % 256)] from rfl) (Reps.none _ _)))
                   intro v132 w18 ho19 hb hg_ hnew_
                   clear hg_ hnew_
                   (first | rw [← Ny131.out] at ho19 | (simp only [Int.reduceToNat] at ho19; rw [← Ny131.out] at ho19))
                   have HO133 := Aside0.mk (Kd.R_lower ho19 (below_size (bh_ HB.out)))
                   replace BK130 := Aside0.mk (bk_ BK130.out hb)
                   replace HB := Aside0.mk (below_step (bh_ HB.out) hb)
                   clear hb ho19
                   refine hK.out _ _ ⟨(blk_cell BK130.out 0).trans rfl, (blk_cell BK130.out 1).trans rfl, (blk_cell BK130.out 2).trans rfl, (blk_cell BK130.out 3).trans rfl, (blk_cell BK130.out 4).trans rfl, (blk_cell BK130.out 5).trans rfl, (blk_cell BK130.out 6).trans rfl, (blk_cell BK130.out 7).trans rfl⟩ (fun hHeld => ?_)
                   clear hK K
                   refine norm_ (a' := ?_) ?_ ?_
                   rotate_left
                   ·show Act.put _ (some 6) _ = _
                    simp only [Act.put, q1_, q2_, q3_, i64_w, i32_w]
                    rfl
                   exact norm_ (by first | (simp only [putAll, Act.put, q1_, q2_, q3_]; done) | (simp only [putAll, Act.put, q1_, q2_, q3_]; rfl)) (hJ3_7_11_15 (v132) _ ⟨hHeld, (br_ HO133.out), (bq_ BK130.out), (bh_ HB.out)⟩)
                  ·skip
                   refine goes_ Try.func45 (by kernel_rfl) rfl #[.int .u64 a0_4] (by rfl) rfl rfl (by (try simp only [List.map_toArray, List.map_cons, List.map_nil]); first | done | rfl | (simp only [List.length_drop, List.length_take]; rfl)) ?_
                   with_reducible refine (enc_Uint.calls k a0_4 t137 _ A8.out).mono ?_
                   rintro e w18 ⟨rfl, hb⟩
                   refine ⟨_, rfl, ?_⟩
                   replace BK130 := Aside0.mk (bk_ BK130.out hb)
                   replace HB := Aside0.mk (below_step (bh_ HB.out) hb)
                   (try clear hb)
                   (try clear hb2)
                   (try clear hk)
                   (try clear hi)
                   refine hK.out _ _ ⟨(blk_cell BK130.out 0).trans rfl, (blk_cell BK130.out 1).trans rfl, (blk_cell BK130.out 2).trans rfl, (blk_cell BK130.out 3).trans rfl, (blk_cell BK130.out 4).trans rfl, (blk_cell BK130.out 5).trans rfl, (blk_cell BK130.out 6).trans rfl, (blk_cell BK130.out 7).trans rfl⟩ (fun hHeld => ?_)
                   clear hK K
                   refine norm_ (a' := ?_) ?_ ?_
                   rotate_left
                   ·show Act.put _ (some 22) _ = _
                    simp only [Act.put, q1_, q2_, q3_, i64_w, i32_w]
                    rfl
                   exact norm_ (by first | (simp only [putAll, Act.put, q1_, q2_, q3_]; done) | (simp only [putAll, Act.put, q1_, q2_, q3_]; rfl)) (hJ7_11_15_19 () _ ⟨hHeld, (bq_ BK130.out), (bh_ HB.out)⟩)
                ·skip
                 rintro v132 w18 ⟨hS_, h0_, h1_, h2_⟩
                 have n0_ : Aside0 (Kd.R (Kd.int .u8) 5 w18 w.heap.size (fun _ => True) v132 y131) := ⟨h0_⟩
                 have n1_ : Aside0 (w18.heap[gb130]? = some (.cells #[.int .i64 a0_0, .string a0_1, .string a0_2, .int .u64 a0_3, .int .u64 a0_4, .string a0_5, .string a0_6, .bool a0_7] 47 (0, 0))) := ⟨h1_⟩
                 have n2_ : Aside0 (Below w.heap.size w w18) := ⟨h2_⟩
                 clear BK130
                 clear HB
                 clear h0_ h1_ h2_
                 have HO133 := n0_
                 have BK130 := n1_
                 have HB := n2_
                 clear n0_ n1_ n2_
                 have hHeld : w18.cell? ⟨gb130, 0, none⟩ = some (.int .i64 a0_0) ∧ w18.cell? ⟨gb130, 1, none⟩ = some (.string a0_1) ∧ w18.cell? ⟨gb130, 2, none⟩ = some (.string a0_2) ∧ w18.cell? ⟨gb130, 3, none⟩ = some (.int .u64 a0_3) ∧ w18.cell? ⟨gb130, 4, none⟩ = some (.int .u64 a0_4) ∧ w18.cell? ⟨gb130, 5, none⟩ = some (.string a0_5) ∧ w18.cell? ⟨gb130, 6, none⟩ = some (.string a0_6) ∧ w18.cell? ⟨gb130, 7, none⟩ = some (.bool a0_7) := hS_
                 refine norm_ (a' := ?_) ?_ ?_
                 rotate_left
                 ·simp only [putAll, Act.put, q1_, q2_, q3_]
                  rfl
                 refine two_ (i := 4) (j := 15) (Ni := some 7) (Nj := some 18) #[Y_, Y_, Y_, Y_, Y_, Y_, Y_, Y_, N_, Y_, Y_, Y_, N_, Y_, Y_, N_, N_, Y_, Y_, N_, N_, Y_, Y_, N_, N_, N_] #[Y_, Y_, Y_, Y_, N_, Y_, Y_, Y_, N_, Y_, Y_, Y_, N_, Y_, Y_, Y_, N_, Y_, Y_, N_, N_, Y_, Y_, N_, N_, N_] rfl rfl rfl rfl (two_of HT_.out (by kernel_rfl)) (by decide) (by decide) (fun K hK => ?_) (fun K hK => ?_)
                 ·skip
                  have hcv19 := own_string (P := Try.prog) Try.underlying99 Try.underlying5 Try.underlying9 (Kd.own_of_R HO133.out)
                  refine value_ (w1 := ?_) (v := ?_) (by rfl) rfl ?_ ?_
                  rotate_left 2
                  ·go_simp
                   constructor
                   ·rfl
                   ·rfl
                  clear hcv19
                  refine hK.out _ _ ⟨(blk_cell BK130.out 0).trans rfl, (blk_cell BK130.out 1).trans rfl, (blk_cell BK130.out 2).trans rfl, (blk_cell BK130.out 3).trans rfl, (blk_cell BK130.out 4).trans rfl, (blk_cell BK130.out 5).trans rfl, (blk_cell BK130.out 6).trans rfl, (blk_cell BK130.out 7).trans rfl⟩ (fun hHeld => ?_)
                  clear hK K
                  refine norm_ (a' := ?_) ?_ ?_
                  rotate_left
                  ·show Act.put _ (some 7) _ = _
                   simp only [Act.put, q1_, q2_, q3_, i64_w, i32_w]
                   rfl
                  refine pure_ (i := 8) (N := some 11) (v := ?_) (a' := ?_) #[Y_, Y_, Y_, Y_, Y_, Y_, Y_, Y_, Y_, Y_, Y_, Y_, N_, Y_, Y_, N_, N_, Y_, Y_, N_, N_, Y_, Y_, N_, N_, N_] rfl rfl (any_of HT_.out (by kernel_rfl)) (fun _ _ _ h => h) (Or.inl ⟨by rfl, ?_⟩) ?_ ?_
                  rotate_left; (intro w'; go_simp; with_reducible rfl); rotate_left; (simp only [Act.put, q1_, q2_, q3_, i64_w, i32_w]; rfl)
                  refine pure_ (i := 12) (N := some 15) (v := ?_) (a' := ?_) #[Y_, Y_, Y_, Y_, Y_, Y_, Y_, Y_, Y_, Y_, Y_, Y_, Y_, Y_, Y_, N_, N_, Y_, Y_, N_, N_, Y_, Y_, N_, N_, N_] rfl rfl (any_of HT_.out (by kernel_rfl)) (fun _ _ _ h => h) (Or.inl ⟨by rfl, ?_⟩) ?_ ?_
                  rotate_left; (intro w'; go_simp; with_reducible rfl); rotate_left; (simp only [Act.put, q1_, q2_, q3_, i64_w, i32_w]; rfl)
                  exact norm_ (by first | (simp only [putAll, Act.put, q1_, q2_, q3_]; done) | (simp only [putAll, Act.put, q1_, q2_, q3_]; rfl)) (hJ3_4_7_11 (v132) _ ⟨hHeld, (br_ HO133.out), (bq_ BK130.out), (bh_ HB.out)⟩)
                 ·skip
                  refine goes_ Try.func45 (by kernel_rfl) rfl #[.int .u64 a0_3] (by rfl) rfl rfl (by (try simp only [List.map_toArray, List.map_cons, List.map_nil]); first | done | rfl | (simp only [List.length_drop, List.length_take]; rfl)) ?_
                  with_reducible refine (enc_Uint.calls k a0_3 t136 _ A6.out).mono ?_
                  rintro e w19 ⟨rfl, hb⟩
                  refine ⟨_, rfl, ?_⟩
                  replace HO133 := Aside0.mk (Kd.R_below (br_ HO133.out) hb)
                  replace BK130 := Aside0.mk (bk_ BK130.out hb)
                  replace HB := Aside0.mk (below_step (bh_ HB.out) hb)
                  (try clear hb)
                  (try clear hb2)
                  (try clear hk)
                  (try clear hi)
                  refine hK.out _ _ ⟨(blk_cell BK130.out 0).trans rfl, (blk_cell BK130.out 1).trans rfl, (blk_cell BK130.out 2).trans rfl, (blk_cell BK130.out 3).trans rfl, (blk_cell BK130.out 4).trans rfl, (blk_cell BK130.out 5).trans rfl, (blk_cell BK130.out 6).trans rfl, (blk_cell BK130.out 7).trans rfl⟩ (fun hHeld => ?_)
                  clear hK K
                  refine norm_ (a' := ?_) ?_ ?_
                  rotate_left
                  ·show Act.put _ (some 18) _ = _
                   simp only [Act.put, q1_, q2_, q3_, i64_w, i32_w]
                   rfl
                  exact norm_ (by first | (simp only [putAll, Act.put, q1_, q2_, q3_]; done) | (simp only [putAll, Act.put, q1_, q2_, q3_]; rfl)) (hJ3_7_11_15 (v132) _ ⟨hHeld, (br_ HO133.out), (bq_ BK130.out), (bh_ HB.out)⟩)
               ·skip
                rintro v132 w18 ⟨hS_, h0_, h1_, h2_⟩
                have n0_ : Aside0 (Kd.R (Kd.int .u8) 5 w18 w.heap.size (fun _ => True) v132 y131) := ⟨h0_⟩
                have n1_ : Aside0 (w18.heap[gb130]? = some (.cells #[.int .i64 a0_0, .string a0_1, .string a0_2, .int .u64 a0_3, .int .u64 a0_4, .string a0_5, .string a0_6, .bool a0_7] 47 (0, 0))) := ⟨h1_⟩
                have n2_ : Aside0 (Below w.heap.size w w18) := ⟨h2_⟩
                clear BK130
                clear HB
                clear h0_ h1_ h2_
                have HO133 := n0_
                have BK130 := n1_
                have HB := n2_
                clear n0_ n1_ n2_
                have hHeld : w18.cell? ⟨gb130, 0, none⟩ = some (.int .i64 a0_0) ∧ w18.cell? ⟨gb130, 1, none⟩ = some (.string a0_1) ∧ w18.cell? ⟨gb130, 2, none⟩ = some (.string a0_2) ∧ w18.cell? ⟨gb130, 3, none⟩ = some (.int .u64 a0_3) ∧ w18.cell? ⟨gb130, 4, none⟩ = some (.int .u64 a0_4) ∧ w18.cell? ⟨gb130, 5, none⟩ = some (.string a0_5) ∧ w18.cell? ⟨gb130, 6, none⟩ = some (.string a0_6) ∧ w18.cell? ⟨gb130, 7, none⟩ = some (.bool a0_7) := hS_
                refine norm_ (a' := ?_) ?_ ?_
                rotate_left
                ·simp only [putAll, Act.put, q1_, q2_, q3_]
                 rfl
                refine one_ (i := 11) (N := some 14) #[Y_, Y_, Y_, Y_, Y_, Y_, Y_, Y_, Y_, Y_, Y_, Y_, N_, Y_, Y_, N_, N_, Y_, Y_, N_, N_, Y_, Y_, N_, N_, N_] rfl rfl (one_of HT_.out (by kernel_rfl)) (by decide) (fun K hK => ?_)
                refine goes_ Try.func46 (by kernel_rfl) rfl #[.string a0_2] (by rfl) rfl rfl (by (try simp only [List.map_toArray, List.map_cons, List.map_nil]); first | done | rfl | (simp only [List.length_drop, List.length_take]; rfl)) ?_
                with_reducible refine (enc_Text.calls k a0_2 t135 _ A4.out).mono ?_
                rintro e w19 ⟨rfl, hb⟩
                refine ⟨_, rfl, ?_⟩
                replace HO133 := Aside0.mk (Kd.R_below (br_ HO133.out) hb)
                replace BK130 := Aside0.mk (bk_ BK130.out hb)
                replace HB := Aside0.mk (below_step (bh_ HB.out) hb)
                (try clear hb)
                (try clear hb2)
                (try clear hk)
                (try clear hi)
                refine hK.out _ _ ⟨(blk_cell BK130.out 0).trans rfl, (blk_cell BK130.out 1).trans rfl, (blk_cell BK130.out 2).trans rfl, (blk_cell BK130.out 3).trans rfl, (blk_cell BK130.out 4).trans rfl, (blk_cell BK130.out 5).trans rfl, (blk_cell BK130.out 6).trans rfl, (blk_cell BK130.out 7).trans rfl⟩ (fun hHeld => ?_)
                clear hK K
                refine norm_ (a' := ?_) ?_ ?_
                rotate_left
                ·show Act.put _ (some 14) _ = _
                 simp only [Act.put, q1_, q2_, q3_, i64_w, i32_w]
                 rfl
                refine pure_ (i := 12) (N := some 15) (v := ?_) (a' := ?_) #[Y_, Y_, Y_, Y_, Y_, Y_, Y_, Y_, Y_, Y_, Y_, Y_, Y_, Y_, Y_, N_, N_, Y_, Y_, N_, N_, Y_, Y_, N_, N_, N_] rfl rfl (any_of HT_.out (by kernel_rfl)) (fun _ _ _ h => h) (Or.inl ⟨by rfl, ?_⟩) ?_ ?_
                rotate_left; (intro w'; go_simp; with_reducible rfl); rotate_left; (simp only [Act.put, q1_, q2_, q3_, i64_w, i32_w]; rfl)
                exact norm_ (by first | (simp only [putAll, Act.put, q1_, q2_, q3_]; done) | (simp only [putAll, Act.put, q1_, q2_, q3_]; rfl)) (hJ3_4_7_11 (v132) _ ⟨hHeld, (br_ HO133.out), (bq_ BK130.out), (bh_ HB.out)⟩)
              ·skip
               rintro _ w18 ⟨hS_, h0_, h1_⟩
               have n0_ : Aside0 (w18.heap[gb130]? = some (.cells #[.int .i64 a0_0, .string a0_1, .string a0_2, .int .u64 a0_3, .int .u64 a0_4, .string a0_5, .string a0_6, .bool a0_7] 47 (0, 0))) := ⟨h0_⟩
               have n1_ : Aside0 (Below w.heap.size w w18) := ⟨h1_⟩
               clear BK130
               clear HB
               clear h0_ h1_
               have BK130 := n0_
               have HB := n1_
               clear n0_ n1_
               have hHeld : w18.cell? ⟨gb130, 0, none⟩ = some (.int .i64 a0_0) ∧ w18.cell? ⟨gb130, 1, none⟩ = some (.string a0_1) ∧ w18.cell? ⟨gb130, 2, none⟩ = some (.string a0_2) ∧ w18.cell? ⟨gb130, 3, none⟩ = some (.int .u64 a0_3) ∧ w18.cell? ⟨gb130, 4, none⟩ = some (.int .u64 a0_4) ∧ w18.cell? ⟨gb130, 5, none⟩ = some (.string a0_5) ∧ w18.cell? ⟨gb130, 6, none⟩ = some (.string a0_6) ∧ w18.cell? ⟨gb130, 7, none⟩ = some (.bool a0_7) := hS_
               refine norm_ (a' := ?_) ?_ ?_
               rotate_left
               ·simp only [putAll, Act.put, q1_, q2_, q3_]
                rfl
               refine two_ (i := 3) (j := 23) (Ni := some 6) (Nj := some 26) #[Y_, Y_, Y_, Y_, N_, Y_, Y_, Y_, N_, Y_, Y_, Y_, N_, Y_, Y_, Y_, N_, Y_, Y_, Y_, N_, Y_, Y_, N_, N_, N_] #[Y_, Y_, Y_, N_, N_, Y_, Y_, Y_, N_, Y_, Y_, Y_, N_, Y_, Y_, Y_, N_, Y_, Y_, Y_, N_, Y_, Y_, Y_, N_, N_] rfl rfl rfl rfl (two_of HT_.out (by kernel_rfl)) (by decide) (by decide) (fun K hK => ?_) (fun K hK => ?_)
               ·skip
                refine Kd.R_lit_step (Kd.int .u8) _ 5 ?hg (N := 6) ?hd (xs := ([(a0_0) % 256] : List Int)) (inner := [.int .u8 ((a0_0) % 256)]) (ok := fun _ => True) (okp := fun _ => True) ?hr ?hp (fun _ hk => hk) trivial (Below.refl _ _) (Nat.le_refl _) (by simp) ?_; (case hd => rfl); (case hg => rfl); (case hr => first | (go_simp; done) | (go_simp; rfl)); (case hp => exact (Reps.one (show Kd.M (Kd.int .u8) _ _ _ ((a0_0) % 256) [.int .u8 ((a0_0) % 256)] from rfl) (Reps.none _ _)))
                intro v132 w19 ho20 hb hg_ hnew_
                clear hg_ hnew_
                (first | rw [← Ny131.out] at ho20 | (simp only [Int.reduceToNat] at ho20; rw [← Ny131.out] at ho20))
                have HO133 := Aside0.mk (Kd.R_lower ho20 (below_size (bh_ HB.out)))
                replace BK130 := Aside0.mk (bk_ BK130.out hb)
                replace HB := Aside0.mk (below_step (bh_ HB.out) hb)
                clear hb ho20
                refine hK.out _ _ ⟨(blk_cell BK130.out 0).trans rfl, (blk_cell BK130.out 1).trans rfl, (blk_cell BK130.out 2).trans rfl, (blk_cell BK130.out 3).trans rfl, (blk_cell BK130.out 4).trans rfl, (blk_cell BK130.out 5).trans rfl, (blk_cell BK130.out 6).trans rfl, (blk_cell BK130.out 7).trans rfl⟩ (fun hHeld => ?_)
                clear hK K
                refine norm_ (a' := ?_) ?_ ?_
                rotate_left
                ·show Act.put _ (some 6) _ = _
                 simp only [Act.put, q1_, q2_, q3_, i64_w, i32_w]
                 rfl
                exact norm_ (by first | (simp only [putAll, Act.put, q1_, q2_, q3_]; done) | (simp only [putAll, Act.put, q1_, q2_, q3_]; rfl)) (hJ3_7_11_15_19 (v132) _ ⟨hHeld, (br_ HO133.out), (bq_ BK130.out), (bh_ HB.out)⟩)
               ·skip
                refine goes_ Try.func46 (by kernel_rfl) rfl #[.string a0_5] (by rfl) rfl rfl (by (try simp only [List.map_toArray, List.map_cons, List.map_nil]); first | done | rfl | (simp only [List.length_drop, List.length_take]; rfl)) ?_
                with_reducible refine (enc_Text.calls k a0_5 t138 _ A10.out).mono ?_
                rintro e w19 ⟨rfl, hb⟩
                refine ⟨_, rfl, ?_⟩
                replace BK130 := Aside0.mk (bk_ BK130.out hb)
                replace HB := Aside0.mk (below_step (bh_ HB.out) hb)
                (try clear hb)
                (try clear hb2)
                (try clear hk)
                (try clear hi)
                refine hK.out _ _ ⟨(blk_cell BK130.out 0).trans rfl, (blk_cell BK130.out 1).trans rfl, (blk_cell BK130.out 2).trans rfl, (blk_cell BK130.out 3).trans rfl, (blk_cell BK130.out 4).trans rfl, (blk_cell BK130.out 5).trans rfl, (blk_cell BK130.out 6).trans rfl, (blk_cell BK130.out 7).trans rfl⟩ (fun hHeld => ?_)
                clear hK K
                refine norm_ (a' := ?_) ?_ ?_
                rotate_left
                ·show Act.put _ (some 26) _ = _
                 simp only [Act.put, q1_, q2_, q3_, i64_w, i32_w]
                 rfl
                exact norm_ (by first | (simp only [putAll, Act.put, q1_, q2_, q3_]; done) | (simp only [putAll, Act.put, q1_, q2_, q3_]; rfl)) (hJ7_11_15_19_23 () _ ⟨hHeld, (bq_ BK130.out), (bh_ HB.out)⟩)
             ·skip
              rintro v132 w19 ⟨hS_, h0_, h1_, h2_⟩
              have n0_ : Aside0 (Kd.R (Kd.int .u8) 5 w19 w.heap.size (fun _ => True) v132 y131) := ⟨h0_⟩
              have n1_ : Aside0 (w19.heap[gb130]? = some (.cells #[.int .i64 a0_0, .string a0_1, .string a0_2, .int .u64 a0_3, .int .u64 a0_4, .string a0_5, .string a0_6, .bool a0_7] 47 (0, 0))) := ⟨h1_⟩
              have n2_ : Aside0 (Below w.heap.size w w19) := ⟨h2_⟩
              clear BK130
              clear HB
              clear h0_ h1_ h2_
              have HO133 := n0_
              have BK130 := n1_
              have HB := n2_
              clear n0_ n1_ n2_
              have hHeld : w19.cell? ⟨gb130, 0, none⟩ = some (.int .i64 a0_0) ∧ w19.cell? ⟨gb130, 1, none⟩ = some (.string a0_1) ∧ w19.cell? ⟨gb130, 2, none⟩ = some (.string a0_2) ∧ w19.cell? ⟨gb130, 3, none⟩ = some (.int .u64 a0_3) ∧ w19.cell? ⟨gb130, 4, none⟩ = some (.int .u64 a0_4) ∧ w19.cell? ⟨gb130, 5, none⟩ = some (.string a0_5) ∧ w19.cell? ⟨gb130, 6, none⟩ = some (.string a0_6) ∧ w19.cell? ⟨gb130, 7, none⟩ = some (.bool a0_7) := hS_
              refine norm_ (a' := ?_) ?_ ?_
              rotate_left
              ·simp only [putAll, Act.put, q1_, q2_, q3_]
               rfl
              refine two_ (i := 4) (j := 19) (Ni := some 7) (Nj := some 22) #[Y_, Y_, Y_, Y_, Y_, Y_, Y_, Y_, N_, Y_, Y_, Y_, N_, Y_, Y_, Y_, N_, Y_, Y_, N_, N_, Y_, Y_, N_, N_, N_] #[Y_, Y_, Y_, Y_, N_, Y_, Y_, Y_, N_, Y_, Y_, Y_, N_, Y_, Y_, Y_, N_, Y_, Y_, Y_, N_, Y_, Y_, N_, N_, N_] rfl rfl rfl rfl (two_of HT_.out (by kernel_rfl)) (by decide) (by decide) (fun K hK => ?_) (fun K hK => ?_)
              ·skip
               have hcv20 := own_string (P := Try.prog) Try.underlying99 Try.underlying5 Try.underlying9 (Kd.own_of_R HO133.out)
               refine value_ (w1 := ?_) (v := ?_) (by rfl) rfl ?_ ?_
               rotate_left 2
               ·go_simp
                constructor
                ·rfl
                ·rfl
               clear hcv20
               refine hK.out _ _ ⟨(blk_cell BK130.out 0).trans rfl, (blk_cell BK130.out 1).trans rfl, (blk_cell BK130.out 2).trans rfl, (blk_cell BK130.out 3).trans rfl, (blk_cell BK130.out 4).trans rfl, (blk_cell BK130.out 5).trans rfl, (blk_cell BK130.out 6).trans rfl, (blk_cell BK130.out 7).trans rfl⟩ (fun hHeld => ?_)
               clear hK K
               refine norm_ (a' := ?_) ?_ ?_
               rotate_left
               ·show Act.put _ (some 7) _ = _
                simp only [Act.put, q1_, q2_, q3_, i64_w, i32_w]
                rfl
               refine pure_ (i := 8) (N := some 11) (v := ?_) (a' := ?_) #[Y_, Y_, Y_, Y_, Y_, Y_, Y_, Y_, Y_, Y_, Y_, Y_, N_, Y_, Y_, Y_, N_, Y_, Y_, N_, N_, Y_, Y_, N_, N_, N_] rfl rfl (any_of HT_.out (by kernel_rfl)) (fun _ _ _ h => h) (Or.inl ⟨by rfl, ?_⟩) ?_ ?_
               rotate_left; (intro w'; go_simp; with_reducible rfl); rotate_left; (simp only [Act.put, q1_, q2_, q3_, i64_w, i32_w]; rfl)
               refine pure_ (i := 12) (N := some 15) (v := ?_) (a' := ?_) #[Y_, Y_, Y_, Y_, Y_, Y_, Y_, Y_, Y_, Y_, Y_, Y_, Y_, Y_, Y_, Y_, N_, Y_, Y_, N_, N_, Y_, Y_, N_, N_, N_] rfl rfl (any_of HT_.out (by kernel_rfl)) (fun _ _ _ h => h) (Or.inl ⟨by rfl, ?_⟩) ?_ ?_
               rotate_left; (intro w'; go_simp; with_reducible rfl); rotate_left; (simp only [Act.put, q1_, q2_, q3_, i64_w, i32_w]; rfl)
               refine pure_ (i := 16) (N := some 19) (v := ?_) (a' := ?_) #[Y_, Y_, Y_, Y_, Y_, Y_, Y_, Y_, Y_, Y_, Y_, Y_, Y_, Y_, Y_, Y_, Y_, Y_, Y_, N_, N_, Y_, Y_, N_, N_, N_] rfl rfl (any_of HT_.out (by kernel_rfl)) (fun _ _ _ h => h) (Or.inl ⟨by rfl, ?_⟩) ?_ ?_
               rotate_left; (intro w'; go_simp; with_reducible rfl); rotate_left; (simp only [Act.put, q1_, q2_, q3_, i64_w, i32_w]; rfl)
               exact norm_ (by first | (simp only [putAll, Act.put, q1_, q2_, q3_]; done) | (simp only [putAll, Act.put, q1_, q2_, q3_]; rfl)) (hJ3_4_7_11_15 (v132) _ ⟨hHeld, (br_ HO133.out), (bq_ BK130.out), (bh_ HB.out)⟩)
              ·skip
               refine goes_ Try.func45 (by kernel_rfl) rfl #[.int .u64 a0_4] (by rfl) rfl rfl (by (try simp only [List.map_toArray, List.map_cons, List.map_nil]); first | done | rfl | (simp only [List.length_drop, List.length_take]; rfl)) ?_
               with_reducible refine (enc_Uint.calls k a0_4 t137 _ A8.out).mono ?_
               rintro e w20 ⟨rfl, hb⟩
               refine ⟨_, rfl, ?_⟩
               replace HO133 := Aside0.mk (Kd.R_below (br_ HO133.out) hb)
               replace BK130 := Aside0.mk (bk_ BK130.out hb)
               replace HB := Aside0.mk (below_step (bh_ HB.out) hb)
               (try clear hb)
               (try clear hb2)
               (try clear hk)
               (try clear hi)
               refine hK.out _ _ ⟨(blk_cell BK130.out 0).trans rfl, (blk_cell BK130.out 1).trans rfl, (blk_cell BK130.out 2).trans rfl, (blk_cell BK130.out 3).trans rfl, (blk_cell BK130.out 4).trans rfl, (blk_cell BK130.out 5).trans rfl, (blk_cell BK130.out 6).trans rfl, (blk_cell BK130.out 7).trans rfl⟩ (fun hHeld => ?_)
               clear hK K
               refine norm_ (a' := ?_) ?_ ?_
               rotate_left
               ·show Act.put _ (some 22) _ = _
                simp only [Act.put, q1_, q2_, q3_, i64_w, i32_w]
                rfl
               exact norm_ (by first | (simp only [putAll, Act.put, q1_, q2_, q3_]; done) | (simp only [putAll, Act.put, q1_, q2_, q3_]; rfl)) (hJ3_7_11_15_19 (v132) _ ⟨hHeld, (br_ HO133.out), (bq_ BK130.out), (bh_ HB.out)⟩)
            ·skip
             rintro v132 w19 ⟨hS_, h0_, h1_, h2_⟩
             have n0_ : Aside0 (Kd.R (Kd.int .u8) 5 w19 w.heap.size (fun _ => True) v132 y131) := ⟨h0_⟩
             have n1_ : Aside0 (w19.heap[gb130]? = some (.cells #[.int .i64 a0_0, .string a0_1, .string a0_2, .int .u64 a0_3, .int .u64 a0_4, .string a0_5, .string a0_6, .bool a0_7] 47 (0, 0))) := ⟨h1_⟩
             have n2_ : Aside0 (Below w.heap.size w w19) := ⟨h2_⟩
             clear BK130
             clear HB
             clear h0_ h1_ h2_
             have HO133 := n0_
             have BK130 := n1_
             have HB := n2_
             clear n0_ n1_ n2_
             have hHeld : w19.cell? ⟨gb130, 0, none⟩ = some (.int .i64 a0_0) ∧ w19.cell? ⟨gb130, 1, none⟩ = some (.string a0_1) ∧ w19.cell? ⟨gb130, 2, none⟩ = some (.string a0_2) ∧ w19.cell? ⟨gb130, 3, none⟩ = some (.int .u64 a0_3) ∧ w19.cell? ⟨gb130, 4, none⟩ = some (.int .u64 a0_4) ∧ w19.cell? ⟨gb130, 5, none⟩ = some (.string a0_5) ∧ w19.cell? ⟨gb130, 6, none⟩ = some (.string a0_6) ∧ w19.cell? ⟨gb130, 7, none⟩ = some (.bool a0_7) := hS_
             refine norm_ (a' := ?_) ?_ ?_
             rotate_left
             ·simp only [putAll, Act.put, q1_, q2_, q3_]
              rfl
             refine one_ (i := 15) (N := some 18) #[Y_, Y_, Y_, Y_, Y_, Y_, Y_, Y_, Y_, Y_, Y_, Y_, Y_, Y_, Y_, Y_, N_, Y_, Y_, N_, N_, Y_, Y_, N_, N_, N_] rfl rfl (one_of HT_.out (by kernel_rfl)) (by decide) (fun K hK => ?_)
             refine goes_ Try.func45 (by kernel_rfl) rfl #[.int .u64 a0_3] (by rfl) rfl rfl (by (try simp only [List.map_toArray, List.map_cons, List.map_nil]); first | done | rfl | (simp only [List.length_drop, List.length_take]; rfl)) ?_
             with_reducible refine (enc_Uint.calls k a0_3 t136 _ A6.out).mono ?_
             rintro e w20 ⟨rfl, hb⟩
             refine ⟨_, rfl, ?_⟩
             replace HO133 := Aside0.mk (Kd.R_below (br_ HO133.out) hb)
             replace BK130 := Aside0.mk (bk_ BK130.out hb)
             replace HB := Aside0.mk (below_step (bh_ HB.out) hb)
             (try clear hb)
             (try clear hb2)
             (try clear hk)
             (try clear hi)
             refine hK.out _ _ ⟨(blk_cell BK130.out 0).trans rfl, (blk_cell BK130.out 1).trans rfl, (blk_cell BK130.out 2).trans rfl, (blk_cell BK130.out 3).trans rfl, (blk_cell BK130.out 4).trans rfl, (blk_cell BK130.out 5).trans rfl, (blk_cell BK130.out 6).trans rfl, (blk_cell BK130.out 7).trans rfl⟩ (fun hHeld => ?_)
             clear hK K
             refine norm_ (a' := ?_) ?_ ?_
             rotate_left
             ·show Act.put _ (some 18) _ = _
              simp only [Act.put, q1_, q2_, q3_, i64_w, i32_w]
              rfl
             refine pure_ (i := 16) (N := some 19) (v := ?_) (a' := ?_) #[Y_, Y_, Y_, Y_, Y_, Y_, Y_, Y_, Y_, Y_, Y_, Y_, Y_, Y_, Y_, Y_, Y_, Y_, Y_, N_, N_, Y_, Y_, N_, N_, N_] rfl rfl (any_of HT_.out (by kernel_rfl)) (fun _ _ _ h => h) (Or.inl ⟨by rfl, ?_⟩) ?_ ?_
             rotate_left; (intro w'; go_simp; with_reducible rfl); rotate_left; (simp only [Act.put, q1_, q2_, q3_, i64_w, i32_w]; rfl)
             exact norm_ (by first | (simp only [putAll, Act.put, q1_, q2_, q3_]; done) | (simp only [putAll, Act.put, q1_, q2_, q3_]; rfl)) (hJ3_4_7_11_15 (v132) _ ⟨hHeld, (br_ HO133.out), (bq_ BK130.out), (bh_ HB.out)⟩)
           ·skip
            rintro _ w19 ⟨hS_, h0_, h1_⟩
            have n0_ : Aside0 (w19.heap[gb130]? = some (.cells #[.int .i64 a0_0, .string a0_1, .string a0_2, .int .u64 a0_3, .int .u64 a0_4, .string a0_5, .string a0_6, .bool a0_7] 47 (0, 0))) := ⟨h0_⟩
            have n1_ : Aside0 (Below w.heap.size w w19) := ⟨h1_⟩
            clear BK130
            clear HB
            clear h0_ h1_
            have BK130 := n0_
            have HB := n1_
            clear n0_ n1_
            have hHeld : w19.cell? ⟨gb130, 0, none⟩ = some (.int .i64 a0_0) ∧ w19.cell? ⟨gb130, 1, none⟩ = some (.string a0_1) ∧ w19.cell? ⟨gb130, 2, none⟩ = some (.string a0_2) ∧ w19.cell? ⟨gb130, 3, none⟩ = some (.int .u64 a0_3) ∧ w19.cell? ⟨gb130, 4, none⟩ = some (.int .u64 a0_4) ∧ w19.cell? ⟨gb130, 5, none⟩ = some (.string a0_5) ∧ w19.cell? ⟨gb130, 6, none⟩ = some (.string a0_6) ∧ w19.cell? ⟨gb130, 7, none⟩ = some (.bool a0_7) := hS_
            refine norm_ (a' := ?_) ?_ ?_
            rotate_left
            ·simp only [putAll, Act.put, q1_, q2_, q3_]
             rfl
            refine one_ (i := 3) (N := some 6) #[Y_, Y_, Y_, Y_, N_, Y_, Y_, Y_, N_, Y_, Y_, Y_, N_, Y_, Y_, Y_, N_, Y_, Y_, Y_, N_, Y_, Y_, Y_, N_, N_] rfl rfl (one_of HT_.out (by kernel_rfl)) (by decide) (fun K hK => ?_)
            refine Kd.R_lit_step (Kd.int .u8) _ 5 ?hg (N := 6) ?hd (xs := ([(a0_0) % 256] : List Int)) (inner := [.int .u8 ((a0_0) % 256)]) (ok := fun _ => True) (okp := fun _ => True) ?hr ?hp (fun _ hk => hk) trivial (Below.refl _ _) (Nat.le_refl _) (by simp) ?_; (case hd => rfl); (case hg => rfl); (case hr => first | (go_simp; done) | (go_simp; rfl)); (case hp => exact (Reps.one (show Kd.M (Kd.int .u8) _ _ _ ((a0_0) % 256) [.int .u8 ((a0_0) % 256)] from rfl) (Reps.none _ _)))
            intro v132 w20 ho21 hb hg_ hnew_
            clear hg_ hnew_
            (first | rw [← Ny131.out] at ho21 | (simp only [Int.reduceToNat] at ho21; rw [← Ny131.out] at ho21))
            have HO133 := Aside0.mk (Kd.R_lower ho21 (below_size (bh_ HB.out)))
            replace BK130 := Aside0.mk (bk_ BK130.out hb)
            replace HB := Aside0.mk (below_step (bh_ HB.out) hb)
            clear hb ho21
            refine hK.out _ _ ⟨(blk_cell BK130.out 0).trans rfl, (blk_cell BK130.out 1).trans rfl, (blk_cell BK130.out 2).trans rfl, (blk_cell BK130.out 3).trans rfl, (blk_cell BK130.out 4).trans rfl, (blk_cell BK130.out 5).trans rfl, (blk_cell BK130.out 6).trans rfl, (blk_cell BK130.out 7).trans rfl⟩ (fun hHeld => ?_)
            clear hK K
            refine norm_ (a' := ?_) ?_ ?_
            rotate_left
            ·show Act.put _ (some 6) _ = _
             simp only [Act.put, q1_, q2_, q3_, i64_w, i32_w]
             rfl
            exact norm_ (by first | (simp only [putAll, Act.put, q1_, q2_, q3_]; done) | (simp only [putAll, Act.put, q1_, q2_, q3_]; rfl)) (hJ3_7_11_15_19_23 (v132) _ ⟨hHeld, (br_ HO133.out), (bq_ BK130.out), (bh_ HB.out)⟩)
          ·skip
           rintro v132 w20 ⟨hS_, h0_, h1_, h2_⟩
           have n0_ : Aside0 (Kd.R (Kd.int .u8) 5 w20 w.heap.size (fun _ => True) v132 y131) := ⟨h0_⟩
           have n1_ : Aside0 (w20.heap[gb130]? = some (.cells #[.int .i64 a0_0, .string a0_1, .string a0_2, .int .u64 a0_3, .int .u64 a0_4, .string a0_5, .string a0_6, .bool a0_7] 47 (0, 0))) := ⟨h1_⟩
           have n2_ : Aside0 (Below w.heap.size w w20) := ⟨h2_⟩
           clear BK130
           clear HB
           clear h0_ h1_ h2_
           have HO133 := n0_
           have BK130 := n1_
           have HB := n2_
           clear n0_ n1_ n2_
           have hHeld : w20.cell? ⟨gb130, 0, none⟩ = some (.int .i64 a0_0) ∧ w20.cell? ⟨gb130, 1, none⟩ = some (.string a0_1) ∧ w20.cell? ⟨gb130, 2, none⟩ = some (.string a0_2) ∧ w20.cell? ⟨gb130, 3, none⟩ = some (.int .u64 a0_3) ∧ w20.cell? ⟨gb130, 4, none⟩ = some (.int .u64 a0_4) ∧ w20.cell? ⟨gb130, 5, none⟩ = some (.string a0_5) ∧ w20.cell? ⟨gb130, 6, none⟩ = some (.string a0_6) ∧ w20.cell? ⟨gb130, 7, none⟩ = some (.bool a0_7) := hS_
           refine norm_ (a' := ?_) ?_ ?_
           rotate_left
           ·simp only [putAll, Act.put, q1_, q2_, q3_]
            rfl
           refine two_ (i := 4) (j := 23) (Ni := some 7) (Nj := some 26) #[Y_, Y_, Y_, Y_, Y_, Y_, Y_, Y_, N_, Y_, Y_, Y_, N_, Y_, Y_, Y_, N_, Y_, Y_, Y_, N_, Y_, Y_, N_, N_, N_] #[Y_, Y_, Y_, Y_, N_, Y_, Y_, Y_, N_, Y_, Y_, Y_, N_, Y_, Y_, Y_, N_, Y_, Y_, Y_, N_, Y_, Y_, Y_, N_, N_] rfl rfl rfl rfl (two_of HT_.out (by kernel_rfl)) (by decide) (by decide) (fun K hK => ?_) (fun K hK => ?_)
           ·skip
            have hcv21 := own_string (P := Try.prog) Try.underlying99 Try.underlying5 Try.underlying9 (Kd.own_of_R HO133.out)
            refine value_ (w1 := ?_) (v := ?_) (by rfl) rfl ?_ ?_
            rotate_left 2
            ·go_simp
             constructor
             ·rfl
             ·rfl
            clear hcv21
            refine hK.out _ _ ⟨(blk_cell BK130.out 0).trans rfl, (blk_cell BK130.out 1).trans rfl, (blk_cell BK130.out 2).trans rfl, (blk_cell BK130.out 3).trans rfl, (blk_cell BK130.out 4).trans rfl, (blk_cell BK130.out 5).trans rfl, (blk_cell BK130.out 6).trans rfl, (blk_cell BK130.out 7).trans rfl⟩ (fun hHeld => ?_)
            clear hK K
            refine norm_ (a' := ?_) ?_ ?_
            rotate_left
            ·show Act.put _ (some 7) _ = _
             simp only [Act.put, q1_, q2_, q3_, i64_w, i32_w]
             rfl
            refine pure_ (i := 8) (N := some 11) (v := ?_) (a' := ?_) #[Y_, Y_, Y_, Y_, Y_, Y_, Y_, Y_, Y_, Y_, Y_, Y_, N_, Y_, Y_, Y_, N_, Y_, Y_, Y_, N_, Y_, Y_, N_, N_, N_] rfl rfl (any_of HT_.out (by kernel_rfl)) (fun _ _ _ h => h) (Or.inl ⟨by rfl, ?_⟩) ?_ ?_
            rotate_left; (intro w'; go_simp; with_reducible rfl); rotate_left; (simp only [Act.put, q1_, q2_, q3_, i64_w, i32_w]; rfl)
            refine pure_ (i := 12) (N := some 15) (v := ?_) (a' := ?_) #[Y_, Y_, Y_, Y_, Y_, Y_, Y_, Y_, Y_, Y_, Y_, Y_, Y_, Y_, Y_, Y_, N_, Y_, Y_, Y_, N_, Y_, Y_, N_, N_, N_] rfl rfl (any_of HT_.out (by kernel_rfl)) (fun _ _ _ h => h) (Or.inl ⟨by rfl, ?_⟩) ?_ ?_
            rotate_left; (intro w'; go_simp; with_reducible rfl); rotate_left; (simp only [Act.put, q1_, q2_, q3_, i64_w, i32_w]; rfl)
            refine pure_ (i := 16) (N := some 19) (v := ?_) (a' := ?_) #[Y_, Y_, Y_, Y_, Y_, Y_, Y_, Y_, Y_, Y_, Y_, Y_, Y_, Y_, Y_, Y_, Y_, Y_, Y_, Y_, N_, Y_, Y_, N_, N_, N_] rfl rfl (any_of HT_.out (by kernel_rfl)) (fun _ _ _ h => h) (Or.inl ⟨by rfl, ?_⟩) ?_ ?_
            rotate_left; (intro w'; go_simp; with_reducible rfl); rotate_left; (simp only [Act.put, q1_, q2_, q3_, i64_w, i32_w]; rfl)
            refine pure_ (i := 20) (N := some 23) (v := ?_) (a' := ?_) #[Y_, Y_, Y_, Y_, Y_, Y_, Y_, Y_, Y_, Y_, Y_, Y_, Y_, Y_, Y_, Y_, Y_, Y_, Y_, Y_, Y_, Y_, Y_, N_, N_, N_] rfl rfl (any_of HT_.out (by kernel_rfl)) (fun _ _ _ h => h) (Or.inl ⟨by rfl, ?_⟩) ?_ ?_
            rotate_left; (intro w'; go_simp; with_reducible rfl); rotate_left; (simp only [Act.put, q1_, q2_, q3_, i64_w, i32_w]; rfl)
            exact norm_ (by first | (simp only [putAll, Act.put, q1_, q2_, q3_]; done) | (simp only [putAll, Act.put, q1_, q2_, q3_]; rfl)) (hJ3_4_7_11_15_19 (v132) _ ⟨hHeld, (br_ HO133.out), (bq_ BK130.out), (bh_ HB.out)⟩)
           ·skip
            refine goes_ Try.func46 (by kernel_rfl) rfl #[.string a0_5] (by rfl) rfl rfl (by (try simp only [List.map_toArray, List.map_cons, List.map_nil]); first | done | rfl | (simp only [List.length_drop, List.length_take]; rfl)) ?_
            with_reducible refine (enc_Text.calls k a0_5 t138 _ A10.out).mono ?_
            rintro e w21 ⟨rfl, hb⟩
            refine ⟨_, rfl, ?_⟩
            replace HO133 := Aside0.mk (Kd.R_below (br_ HO133.out) hb)
            replace BK130 := Aside0.mk (bk_ BK130.out hb)
            replace HB := Aside0.mk (below_step (bh_ HB.out) hb)
            (try clear hb)
            (try clear hb2)
            (try clear hk)
            (try clear hi)
            refine hK.out _ _ ⟨(blk_cell BK130.out 0).trans rfl, (blk_cell BK130.out 1).trans rfl, (blk_cell BK130.out 2).trans rfl, (blk_cell BK130.out 3).trans rfl, (blk_cell BK130.out 4).trans rfl, (blk_cell BK130.out 5).trans rfl, (blk_cell BK130.out 6).trans rfl, (blk_cell BK130.out 7).trans rfl⟩ (fun hHeld => ?_)
            clear hK K
            refine norm_ (a' := ?_) ?_ ?_
            rotate_left
            ·show Act.put _ (some 26) _ = _
             simp only [Act.put, q1_, q2_, q3_, i64_w, i32_w]
             rfl
            exact norm_ (by first | (simp only [putAll, Act.put, q1_, q2_, q3_]; done) | (simp only [putAll, Act.put, q1_, q2_, q3_]; rfl)) (hJ3_7_11_15_19_23 (v132) _ ⟨hHeld, (br_ HO133.out), (bq_ BK130.out), (bh_ HB.out)⟩)
         ·skip
          rintro v132 w20 ⟨hS_, h0_, h1_, h2_⟩
          have n0_ : Aside0 (Kd.R (Kd.int .u8) 5 w20 w.heap.size (fun _ => True) v132 y131) := ⟨h0_⟩
          have n1_ : Aside0 (w20.heap[gb130]? = some (.cells #[.int .i64 a0_0, .string a0_1, .string a0_2, .int .u64 a0_3, .int .u64 a0_4, .string a0_5, .string a0_6, .bool a0_7] 47 (0, 0))) := ⟨h1_⟩
          have n2_ : Aside0 (Below w.heap.size w w20) := ⟨h2_⟩
          clear BK130
          clear HB
          clear h0_ h1_ h2_
          have HO133 := n0_
          have BK130 := n1_
          have HB := n2_
          clear n0_ n1_ n2_
          have hHeld : w20.cell? ⟨gb130, 0, none⟩ = some (.int .i64 a0_0) ∧ w20.cell? ⟨gb130, 1, none⟩ = some (.string a0_1) ∧ w20.cell? ⟨gb130, 2, none⟩ = some (.string a0_2) ∧ w20.cell? ⟨gb130, 3, none⟩ = some (.int .u64 a0_3) ∧ w20.cell? ⟨gb130, 4, none⟩ = some (.int .u64 a0_4) ∧ w20.cell? ⟨gb130, 5, none⟩ = some (.string a0_5) ∧ w20.cell? ⟨gb130, 6, none⟩ = some (.string a0_6) ∧ w20.cell? ⟨gb130, 7, none⟩ = some (.bool a0_7) := hS_
          refine norm_ (a' := ?_) ?_ ?_
          rotate_left
          ·simp only [putAll, Act.put, q1_, q2_, q3_]
           rfl
          refine one_ (i := 19) (N := some 22) #[Y_, Y_, Y_, Y_, Y_, Y_, Y_, Y_, Y_, Y_, Y_, Y_, Y_, Y_, Y_, Y_, Y_, Y_, Y_, Y_, N_, Y_, Y_, N_, N_, N_] rfl rfl (one_of HT_.out (by kernel_rfl)) (by decide) (fun K hK => ?_)
          refine goes_ Try.func45 (by kernel_rfl) rfl #[.int .u64 a0_4] (by rfl) rfl rfl (by (try simp only [List.map_toArray, List.map_cons, List.map_nil]); first | done | rfl | (simp only [List.length_drop, List.length_take]; rfl)) ?_
          with_reducible refine (enc_Uint.calls k a0_4 t137 _ A8.out).mono ?_
          rintro e w21 ⟨rfl, hb⟩
          refine ⟨_, rfl, ?_⟩
          replace HO133 := Aside0.mk (Kd.R_below (br_ HO133.out) hb)
          replace BK130 := Aside0.mk (bk_ BK130.out hb)
          replace HB := Aside0.mk (below_step (bh_ HB.out) hb)
          (try clear hb)
          (try clear hb2)
          (try clear hk)
          (try clear hi)
          refine hK.out _ _ ⟨(blk_cell BK130.out 0).trans rfl, (blk_cell BK130.out 1).trans rfl, (blk_cell BK130.out 2).trans rfl, (blk_cell BK130.out 3).trans rfl, (blk_cell BK130.out 4).trans rfl, (blk_cell BK130.out 5).trans rfl, (blk_cell BK130.out 6).trans rfl, (blk_cell BK130.out 7).trans rfl⟩ (fun hHeld => ?_)
          clear hK K
          refine norm_ (a' := ?_) ?_ ?_
          rotate_left
          ·show Act.put _ (some 22) _ = _
           simp only [Act.put, q1_, q2_, q3_, i64_w, i32_w]
           rfl
          refine pure_ (i := 20) (N := some 23) (v := ?_) (a' := ?_) #[Y_, Y_, Y_, Y_, Y_, Y_, Y_, Y_, Y_, Y_, Y_, Y_, Y_, Y_, Y_, Y_, Y_, Y_, Y_, Y_, Y_, Y_, Y_, N_, N_, N_] rfl rfl (any_of HT_.out (by kernel_rfl)) (fun _ _ _ h => h) (Or.inl ⟨by rfl, ?_⟩) ?_ ?_
          rotate_left; (intro w'; go_simp; with_reducible rfl); rotate_left; (simp only [Act.put, q1_, q2_, q3_, i64_w, i32_w]; rfl)
          exact norm_ (by first | (simp only [putAll, Act.put, q1_, q2_, q3_]; done) | (simp only [putAll, Act.put, q1_, q2_, q3_]; rfl)) (hJ3_4_7_11_15_19 (v132) _ ⟨hHeld, (br_ HO133.out), (bq_ BK130.out), (bh_ HB.out)⟩)
        ·skip
         rintro v132 w21 ⟨hS_, h0_, h1_, h2_⟩
         have n0_ : Aside0 (Kd.R (Kd.int .u8) 5 w21 w.heap.size (fun _ => True) v132 y131) := ⟨h0_⟩
         have n1_ : Aside0 (w21.heap[gb130]? = some (.cells #[.int .i64 a0_0, .string a0_1, .string a0_2, .int .u64 a0_3, .int .u64 a0_4, .string a0_5, .string a0_6, .bool a0_7] 47 (0, 0))) := ⟨h1_⟩
         have n2_ : Aside0 (Below w.heap.size w w21) := ⟨h2_⟩
         clear BK130
         clear HB
         clear h0_ h1_ h2_
         have HO133 := n0_
         have BK130 := n1_
         have HB := n2_
         clear n0_ n1_ n2_
         have hHeld : w21.cell? ⟨gb130, 0, none⟩ = some (.int .i64 a0_0) ∧ w21.cell? ⟨gb130, 1, none⟩ = some (.string a0_1) ∧ w21.cell? ⟨gb130, 2, none⟩ = some (.string a0_2) ∧ w21.cell? ⟨gb130, 3, none⟩ = some (.int .u64 a0_3) ∧ w21.cell? ⟨gb130, 4, none⟩ = some (.int .u64 a0_4) ∧ w21.cell? ⟨gb130, 5, none⟩ = some (.string a0_5) ∧ w21.cell? ⟨gb130, 6, none⟩ = some (.string a0_6) ∧ w21.cell? ⟨gb130, 7, none⟩ = some (.bool a0_7) := hS_
         refine norm_ (a' := ?_) ?_ ?_
         rotate_left
         ·simp only [putAll, Act.put, q1_, q2_, q3_]
          rfl
         refine one_ (i := 4) (N := some 7) #[Y_, Y_, Y_, Y_, Y_, Y_, Y_, Y_, N_, Y_, Y_, Y_, N_, Y_, Y_, Y_, N_, Y_, Y_, Y_, N_, Y_, Y_, Y_, N_, N_] rfl rfl (one_of HT_.out (by kernel_rfl)) (by decide) (fun K hK => ?_)
         have hcv22 := own_string (P := Try.prog) Try.underlying99 Try.underlying5 Try.underlying9 (Kd.own_of_R HO133.out)
         refine value_ (w1 := ?_) (v := ?_) (by rfl) rfl ?_ ?_
         rotate_left 2
         ·go_simp
          constructor
          ·rfl
          ·rfl
         clear hcv22
         refine hK.out _ _ ⟨(blk_cell BK130.out 0).trans rfl, (blk_cell BK130.out 1).trans rfl, (blk_cell BK130.out 2).trans rfl, (blk_cell BK130.out 3).trans rfl, (blk_cell BK130.out 4).trans rfl, (blk_cell BK130.out 5).trans rfl, (blk_cell BK130.out 6).trans rfl, (blk_cell BK130.out 7).trans rfl⟩ (fun hHeld => ?_)
         clear hK K
         refine norm_ (a' := ?_) ?_ ?_
         rotate_left
         ·show Act.put _ (some 7) _ = _
          simp only [Act.put, q1_, q2_, q3_, i64_w, i32_w]
          rfl
         refine pure_ (i := 8) (N := some 11) (v := ?_) (a' := ?_) #[Y_, Y_, Y_, Y_, Y_, Y_, Y_, Y_, Y_, Y_, Y_, Y_, N_, Y_, Y_, Y_, N_, Y_, Y_, Y_, N_, Y_, Y_, Y_, N_, N_] rfl rfl (any_of HT_.out (by kernel_rfl)) (fun _ _ _ h => h) (Or.inl ⟨by rfl, ?_⟩) ?_ ?_
         rotate_left; (intro w'; go_simp; with_reducible rfl); rotate_left; (simp only [Act.put, q1_, q2_, q3_, i64_w, i32_w]; rfl)
         refine pure_ (i := 12) (N := some 15) (v := ?_) (a' := ?_) #[Y_, Y_, Y_, Y_, Y_, Y_, Y_, Y_, Y_, Y_, Y_, Y_, Y_, Y_, Y_, Y_, N_, Y_, Y_, Y_, N_, Y_, Y_, Y_, N_, N_] rfl rfl (any_of HT_.out (by kernel_rfl)) (fun _ _ _ h => h) (Or.inl ⟨by rfl, ?_⟩) ?_ ?_
         rotate_left; (intro w'; go_simp; with_reducible rfl); rotate_left; (simp only [Act.put, q1_, q2_, q3_, i64_w, i32_w]; rfl)
         refine pure_ (i := 16) (N := some 19) (v := ?_) (a' := ?_) #[Y_, Y_, Y_, Y_, Y_, Y_, Y_, Y_, Y_, Y_, Y_, Y_, Y_, Y_, Y_, Y_, Y_, Y_, Y_, Y_, N_, Y_, Y_, Y_, N_, N_] rfl rfl (any_of HT_.out (by kernel_rfl)) (fun _ _ _ h => h) (Or.inl ⟨by rfl, ?_⟩) ?_ ?_
         rotate_left; (intro w'; go_simp; with_reducible rfl); rotate_left; (simp only [Act.put, q1_, q2_, q3_, i64_w, i32_w]; rfl)
         refine pure_ (i := 20) (N := some 23) (v := ?_) (a' := ?_) #[Y_, Y_, Y_, Y_, Y_, Y_, Y_, Y_, Y_, Y_, Y_, Y_, Y_, Y_, Y_, Y_, Y_, Y_, Y_, Y_, Y_, Y_, Y_, Y_, N_, N_] rfl rfl (any_of HT_.out (by kernel_rfl)) (fun _ _ _ h => h) (Or.inl ⟨by rfl, ?_⟩) ?_ ?_
         rotate_left; (intro w'; go_simp; with_reducible rfl); rotate_left; (simp only [Act.put, q1_, q2_, q3_, i64_w, i32_w]; rfl)
         exact norm_ (by first | (simp only [putAll, Act.put, q1_, q2_, q3_]; done) | (simp only [putAll, Act.put, q1_, q2_, q3_]; rfl)) (hJ3_4_7_11_15_19_23 (v132) _ ⟨hHeld, (br_ HO133.out), (bq_ BK130.out), (bh_ HB.out)⟩)
       ·skip
        rintro v132 w21 ⟨hS_, h0_, h1_, h2_⟩
        have n0_ : Aside0 (Kd.R (Kd.int .u8) 5 w21 w.heap.size (fun _ => True) v132 y131) := ⟨h0_⟩
        have n1_ : Aside0 (w21.heap[gb130]? = some (.cells #[.int .i64 a0_0, .string a0_1, .string a0_2, .int .u64 a0_3, .int .u64 a0_4, .string a0_5, .string a0_6, .bool a0_7] 47 (0, 0))) := ⟨h1_⟩
        have n2_ : Aside0 (Below w.heap.size w w21) := ⟨h2_⟩
        clear BK130
        clear HB
        clear h0_ h1_ h2_
        have HO133 := n0_
        have BK130 := n1_
        have HB := n2_
        clear n0_ n1_ n2_
        have hHeld : w21.cell? ⟨gb130, 0, none⟩ = some (.int .i64 a0_0) ∧ w21.cell? ⟨gb130, 1, none⟩ = some (.string a0_1) ∧ w21.cell? ⟨gb130, 2, none⟩ = some (.string a0_2) ∧ w21.cell? ⟨gb130, 3, none⟩ = some (.int .u64 a0_3) ∧ w21.cell? ⟨gb130, 4, none⟩ = some (.int .u64 a0_4) ∧ w21.cell? ⟨gb130, 5, none⟩ = some (.string a0_5) ∧ w21.cell? ⟨gb130, 6, none⟩ = some (.string a0_6) ∧ w21.cell? ⟨gb130, 7, none⟩ = some (.bool a0_7) := hS_
        refine norm_ (a' := ?_) ?_ ?_
        rotate_left
        ·simp only [putAll, Act.put, q1_, q2_, q3_]
         rfl
        refine one_ (i := 23) (N := some 26) #[Y_, Y_, Y_, Y_, Y_, Y_, Y_, Y_, Y_, Y_, Y_, Y_, Y_, Y_, Y_, Y_, Y_, Y_, Y_, Y_, Y_, Y_, Y_, Y_, N_, N_] rfl rfl (one_of HT_.out (by kernel_rfl)) (by decide) (fun K hK => ?_)
        refine goes_ Try.func46 (by kernel_rfl) rfl #[.string a0_5] (by rfl) rfl rfl (by (try simp only [List.map_toArray, List.map_cons, List.map_nil]); first | done | rfl | (simp only [List.length_drop, List.length_take]; rfl)) ?_
        with_reducible refine (enc_Text.calls k a0_5 t138 _ A10.out).mono ?_
        rintro e w22 ⟨rfl, hb⟩
        refine ⟨_, rfl, ?_⟩
        replace HO133 := Aside0.mk (Kd.R_below (br_ HO133.out) hb)
        replace BK130 := Aside0.mk (bk_ BK130.out hb)
        replace HB := Aside0.mk (below_step (bh_ HB.out) hb)
        (try clear hb)
        (try clear hb2)
        (try clear hk)
        (try clear hi)
        refine hK.out _ _ ⟨(blk_cell BK130.out 0).trans rfl, (blk_cell BK130.out 1).trans rfl, (blk_cell BK130.out 2).trans rfl, (blk_cell BK130.out 3).trans rfl, (blk_cell BK130.out 4).trans rfl, (blk_cell BK130.out 5).trans rfl, (blk_cell BK130.out 6).trans rfl, (blk_cell BK130.out 7).trans rfl⟩ (fun hHeld => ?_)
        clear hK K
        refine norm_ (a' := ?_) ?_ ?_
        rotate_left
        ·show Act.put _ (some 26) _ = _
         simp only [Act.put, q1_, q2_, q3_, i64_w, i32_w]
         rfl
        exact norm_ (by first | (simp only [putAll, Act.put, q1_, q2_, q3_]; done) | (simp only [putAll, Act.put, q1_, q2_, q3_]; rfl)) (hJ3_4_7_11_15_19_23 (v132) _ ⟨hHeld, (br_ HO133.out), (bq_ BK130.out), (bh_ HB.out)⟩)
      rintro v132 w22 ⟨hS_, h0_, h1_, h2_⟩
      have n0_ : Aside0 (Kd.R (Kd.int .u8) 5 w22 w.heap.size (fun _ => True) v132 y131) := ⟨h0_⟩
      have n1_ : Aside0 (w22.heap[gb130]? = some (.cells #[.int .i64 a0_0, .string a0_1, .string a0_2, .int .u64 a0_3, .int .u64 a0_4, .string a0_5, .string a0_6, .bool a0_7] 47 (0, 0))) := ⟨h1_⟩
      have n2_ : Aside0 (Below w.heap.size w w22) := ⟨h2_⟩
      clear BK130
      clear HB
      clear h0_ h1_ h2_
      have HO133 := n0_
      have BK130 := n1_
      have HB := n2_
      clear n0_ n1_ n2_
      have hHeld : w22.cell? ⟨gb130, 0, none⟩ = some (.int .i64 a0_0) ∧ w22.cell? ⟨gb130, 1, none⟩ = some (.string a0_1) ∧ w22.cell? ⟨gb130, 2, none⟩ = some (.string a0_2) ∧ w22.cell? ⟨gb130, 3, none⟩ = some (.int .u64 a0_3) ∧ w22.cell? ⟨gb130, 4, none⟩ = some (.int .u64 a0_4) ∧ w22.cell? ⟨gb130, 5, none⟩ = some (.string a0_5) ∧ w22.cell? ⟨gb130, 6, none⟩ = some (.string a0_6) ∧ w22.cell? ⟨gb130, 7, none⟩ = some (.bool a0_7) := hS_
      refine norm_ (a' := ?_) ?_ ?_
      rotate_left
      ·simp only [putAll, Act.put, q1_, q2_, q3_]
       rfl
      refine pure_ (i := 24) (N := some 27) (v := ?_) (a' := ?_) #[Y_, Y_, Y_, Y_, Y_, Y_, Y_, Y_, Y_, Y_, Y_, Y_, Y_, Y_, Y_, Y_, Y_, Y_, Y_, Y_, Y_, Y_, Y_, Y_, Y_, N_] rfl rfl (any_of HT_.out (by kernel_rfl)) (fun _ _ _ h => h) (Or.inl ⟨by rfl, ?_⟩) ?_ ?_
      rotate_left; (intro w'; go_simp; with_reducible rfl); rotate_left; (simp only [Act.put, q1_, q2_, q3_, i64_w, i32_w]; rfl)
      refine pure_ (i := 25) (N := some 2) (v := ?_) (a' := ?_) #[Y_, Y_, Y_, Y_, Y_, Y_, Y_, Y_, Y_, Y_, Y_, Y_, Y_, Y_, Y_, Y_, Y_, Y_, Y_, Y_, Y_, Y_, Y_, Y_, Y_, Y_] rfl rfl (any_of HT_.out (by kernel_rfl)) (fun _ _ _ h => h) (Or.inl ⟨by rfl, ?_⟩) ?_ ?_
      rotate_left; (intro w'; go_simp; with_reducible rfl); rotate_left; (simp only [Act.put, q1_, q2_, q3_, i64_w, i32_w]; rfl)
      refine done_ (done_of HT_.out (by kernel_rfl)) ?_
      try go_wp2
      go_ret
      exact ⟨by first | rfl | (simp [errW_none, errW_some] <;> rfl) | (simp [*, errW_none, errW_some] <;> rfl), by repeat (first | (with_reducible first | exact HB.out | apply below_alloc | apply pw_below_drewN | apply below_drew1 | refine below_set ?_ GE130.out) | exact HB.out)⟩
     ·rw [if_neg c11] at H
      exact absurd H (by simp)
    ·rw [if_neg c9] at H
     exact absurd H (by simp)
   ·rw [if_neg c7] at H
    exact absurd H (by simp)
  ·rw [if_neg c5] at H
   exact absurd H (by simp)
 ·rw [if_neg c3] at H
  exact absurd H (by simp)
end Go.Proofs.Ytdcbacbilncnnaa.PMk
end
section
/- A block's tree: its revisions' metas' digests. -/
set_option linter.unusedVariables false
set_option linter.unusedSimpArgs false
namespace Go.Proofs.Ytdcbacbilncnnaa.T
open Go.RowKit Go.Proofs.Ytdcbacbilncnnaa.PMk Go.Proofs.Ytdcbacbilncnnaa.M Go.Proofs.YtdcbacbilncnnaaW.PrintWords Go.Proofs.YtdcbacbilncnnaaW.PrintLast
theorem At.less {w : World} {base b g : Nat} {vl vp : Value} {L P : List ByteArray} (h : At w base g vl vp L P) (hb : b ≤ base) : At w b g vl vp L P :=
  ⟨h.blk, Nat.le_trans hb h.lo, own_less h.rl hb, own_less h.rp hb, h.ap⟩
def metaOf (k : Nat) (x : S47) : Option ByteArray := block_meta.f k x.f0 x.f1 x.f2 x.f3 x.f4 x.f5 x.f6 x.f7
def metas (k : Nat) : List S47 → Option (List ByteArray)
  | [] => some []
  | x :: l => (metaOf k x).bind fun m => if m.size < 1152921504606846000 then (metas k l).bind fun M => some (m :: M) else none
theorem metas_len {k : Nat} : ∀ {l : List S47} {M : List ByteArray}, metas k l = some M → M.length = l.length
  | [], M, h => by simp [metas] at h; subst h; rfl
  | x :: l, M, h => by
    rw [metas] at h
    obtain ⟨m, _, h⟩ := Option.bind_eq_some_iff.mp h
    split at h
    · obtain ⟨M', h1, h2⟩ := Option.bind_eq_some_iff.mp h
      obtain rfl := Option.some.inj h2
      simp [metas_len h1]
    · cases h
theorem metas_at {k : Nat} : ∀ {l : List S47} {M : List ByteArray}, metas k l = some M → ∀ i, i < l.length → metaOf k (l.getD i z47) = some (M.getD i ByteArray.empty) ∧ (M.getD i ByteArray.empty).size < 1152921504606846000
  | [], M, h, i, hi => absurd hi (by simp)
  | x :: l, M, h, i, hi => by
    rw [metas] at h
    obtain ⟨m, hm, h⟩ := Option.bind_eq_some_iff.mp h
    split at h
    · next hs =>
      obtain ⟨M', h1, h2⟩ := Option.bind_eq_some_iff.mp h
      obtain rfl := Option.some.inj h2
      cases i with
      | zero => exact ⟨by simpa using hm, by simpa using hs⟩
      | succ i => simpa using metas_at h1 i (by simpa using hi)
    · cases h
def lv (M : List ByteArray) (i : Nat) : List ByteArray := (M.take i).map leaf
theorem lv_len {M : List ByteArray} {i : Nat} (h : i ≤ M.length) : (lv M i).length = i := by unfold lv; simp; omega
theorem lv_w32 (M : List ByteArray) (i : Nat) : W32 (lv M i) := by
  intro x hx
  obtain ⟨y, _, rfl⟩ := List.mem_map.1 hx
  exact leaf_size _
theorem lv_succ {M : List ByteArray} {i : Nat} (h : i < M.length) : lv M i ++ [leaf (M.getD i ByteArray.empty)] = lv M (i + 1) := by
  unfold lv
  rw [List.take_succ_eq_append_getElem h, List.map_append, List.getD_eq_getElem?_getD, List.getElem?_eq_getElem h]
  rfl
theorem meta_any (k : Nat) (x : S47) (m : ByteArray) (h : metaOf k x = some m) (w : World) :
    Calls Try.prog 73 #[.agg #[.int .i64 x.f0, .string x.f1, .string x.f2, .int .u64 x.f3, .int .u64 x.f4, .string x.f5, .string x.f6, .bool x.f7]] w fun e w' => e = .returned (.string m) ∧ Below w.heap.size w w' :=
  block_meta.calls k x.f0 x.f1 x.f2 x.f3 x.f4 x.f5 x.f6 x.f7 m w h
set_option maxRecDepth 100000 in
set_option maxHeartbeats 2000000 in
theorem tree_raw (k : Nat) (a0 : Int) (a1 : ByteArray) (a2 : Int) (A : Option Addr) (c : Nat) (l : List S47) (M : List ByteArray) (w : World) (hC : Kd.C k47 w A l.length l) (hM : metas k l = some M) (hn : l.length < 1000) :
    Calls Try.prog 47 #[.agg #[.int .u64 a0, .string a1, .int .u64 a2, .slice A l.length c]] w fun e w' => ∃ g vl vp, e = .returned (.pointer (some ⟨g, 0, none⟩)) ∧ At w' w.heap.size g vl vp (lv M M.length) (pk (lv M M.length)) ∧ Below w.heap.size w w' := by
  have hml := metas_len hM
  obtain ⟨len, hlen⟩ : ∃ n, l.length = n := ⟨_, rfl⟩
  have hma := metas_at hM
  rw [hlen] at hC hn hml hma ⊢
  have HC := Lib.hid hC
  have HL := Lib.hid hlen
  have HM := Lib.hid hma
  clear hC hlen hma hM
  go_enter Try.func47, Try.ntmps47
  go_wp2_with (go_at_call 55; refine (new_raw _).mono ?_; rintro e w1 ⟨g, rfl, hA, hb1⟩; have hb0 := (((Below.refl w.heap.size w).alloc (Nat.le_refl _) (.cells #[.int .u64 a0, .string a1, .int .u64 a2, .slice A len c] 25)).trans (hb1.mono (by simp))); have hcell : w1.cell? ⟨w.heap.size, 3, none⟩ = some (.slice A len c) := (blk_cell ((hb1.block w.heap.size (by simp)).trans (heap_alloc_new w _)) 3).trans rfl; have HA1 := Lib.hid hA; have HB1 := Lib.hid hb0; clear hA hb1 hb0)
  have HP0 : Hid (At w1 w.heap.size g (.slice none 0 0) (.slice none 0 0) (lv M 0) (pk (lv M 0))) := Lib.hid (by
    have h := HA1.out.less (b := w.heap.size) (by simp)
    simpa [lv, pk_nil] using h)
  clear HA1 hcell
  go_loopw [10] (fun vi wr => ∃ (i : Nat) (vl vp : Value), i ≤ len ∧ vi = .int .i64 i ∧ Hid (At wr w.heap.size g vl vp (lv M i) (pk (lv M i))) ∧ Hid (Below w.heap.size w wr)) (fun vi _ => (len - intOf vi).toNat)
  case atStart => exact ⟨0, _, _, Nat.zero_le _, rfl, HP0, HB1⟩
  case round =>
    obtain ⟨i, vl, vp, hi1, rfl, HP, HB⟩ := hrel
    clear HP0 HB1
    by_cases h1 : i < len
    · obtain ⟨ad, hA, hx0, hx1, hx2, hx3, hx4, hx5, hx6, hx7⟩ := at_T47 HC.out (i : Int) (by omega) (by omega)
      subst hA
      replace hx0 := (HB.out.cell (World.block_lt_of_cell? w _ hx0)).trans hx0
      replace hx1 := (HB.out.cell (World.block_lt_of_cell? w _ hx1)).trans hx1
      replace hx2 := (HB.out.cell (World.block_lt_of_cell? w _ hx2)).trans hx2
      replace hx3 := (HB.out.cell (World.block_lt_of_cell? w _ hx3)).trans hx3
      replace hx4 := (HB.out.cell (World.block_lt_of_cell? w _ hx4)).trans hx4
      replace hx5 := (HB.out.cell (World.block_lt_of_cell? w _ hx5)).trans hx5
      replace hx6 := (HB.out.cell (World.block_lt_of_cell? w _ hx6)).trans hx6
      replace hx7 := (HB.out.cell (World.block_lt_of_cell? w _ hx7)).trans hx7
      have hm := HM.out i h1
      rw [show l.getD i z47 = rd_T47 l (i : Int) from by simp [rd_T47]] at hm
      obtain ⟨m, hmm⟩ : ∃ m, M.getD i ByteArray.empty = m := ⟨_, rfl⟩
      rw [hmm] at hm
      have HSU : Hid (lv M i ++ [leaf m] = lv M (i + 1)) := Lib.hid (hmm ▸ lv_succ (by omega))
      have HMA := Lib.hid (fun w' => meta_any k _ m hm.1 w')
      have HAD := Lib.hid (fun w' hA => add_tree m w' w.heap.size g vl vp (lv M i) hA (lv_w32 _ _) hm.2 (by rw [lv_len (by omega)]; omega))
      clear hm hmm
      simp only [Int.toNat_natCast] at hx0 hx1 hx2 hx3 hx4 hx5 hx6 hx7
      generalize rd_T47 l (i : Int) = x at hx0 hx1 hx2 hx3 hx4 hx5 hx6 hx7 HMA
      go_wp2_with (first
        | (go_at_call 73; refine (HMA.out _).mono ?_; rintro e w2 ⟨rfl, hb1⟩; have HB2 := Lib.hid ((HB.out.alloc HB.out.size _).trans (hb1.mono (by have := HB.out.size; simp; omega))); have HP2 := Lib.hid (HP.out.below (((Below.refl _ wr).alloc (Nat.le_refl _) _).trans (hb1.mono (by simp)))); clear hb1)
        | (go_at_call 56; refine (HAD.out _ HP2.out).mono ?_; rintro e w3 ⟨rfl, vl3, vp3, hA, _, hb1⟩; have HB3 := Lib.hid (HB2.out.trans hb1); have HP3 := Lib.hid hA; clear hA hb1))
      rw [HSU.out] at HP3
      go_roundw
      case rel => exact ⟨i + 1, vl3, vp3, by omega, by go_num, HP3, HB3⟩
      case measure => simp [intOf]; omega
    · obtain rfl : i = len := by omega
      go_wp2_with fail
      go_ret
      exact ⟨g, vl, vp, rfl, hml ▸ HP.out, HB.out⟩
end Go.Proofs.Ytdcbacbilncnnaa.T
end
