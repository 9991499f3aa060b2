/- Part 5 of what the proof of BlockReads stands on. -/
import Derived.Lib.Hide
import Derived.Test.YtdcbacbilncnnaaBrd4
section
namespace Go.Proofs.Ytdcbacbilncnnaa.PMk
open Go.RowKit Go.Proofs.YtdcbacbilncnnaaW.PrintWords Go.Proofs.YtdcbacbilncnnaaW.PrintLast Go.Proofs.YtdcbacbilncnnaaW.PrintMore
attribute [local go_sem] max2_int min2_int max_two min_two max_three min_three max_four min_four   -- for this text's walks alone
set_option linter.unusedVariables false
set_option linter.unusedSimpArgs false
/-! ### parchmentref09_Frame: function 17 -/
def parchmentref09_Frame.l0 : Nat → ByteArray → Int → Int → ByteArray → Int → List (S44) → Option (ByteArray)
 | 0, _, _, _, _, _, _ => none
 | k + 1, x3, x4, x236000, x236001, x236002, x236003 => if x4 < (x236003.length : Int) then (if 0 ≤ x4 then ((parchmentref09_Meta.f k ((rd_T44 x236003 x4).f0) ((rd_T44 x236003 x4).f1) ((rd_T44 x236003 x4).f2) ((rd_T44 x236003 x4).f3) ((rd_T44 x236003 x4).f4) ((rd_T44 x236003 x4).f5) ((rd_T44 x236003 x4).f6) ((rd_T44 x236003 x4).f7)).bind fun t241 => (if x3.size + t241.size ≤ 9223372036854775807 then (parchmentref09_Frame.l0 k (x3 ++ t241) (wrap64 (x4 + 1)) x236000 x236001 x236002 x236003) else (none))) else (none)) else (some x3)
def parchmentref09_Frame.f (k : Nat) (a0_0 : Int) (a0_1 : ByteArray) (a0_2 : Int) (l0_3 : List (S44)) : Option (ByteArray) := (parchmentref02_Uint.f k a0_0).bind fun t236 => ((parchmentref02_Text.f k a0_1).bind fun t237 => (if t236.size + t237.size ≤ 9223372036854775807 then ((parchmentref02_Uint.f k a0_2).bind fun t238 => (if (t236 ++ t237).size + t238.size ≤ 9223372036854775807 then ((parchmentref02_Uint.f k (IntKind.u64.wrap ((l0_3.length : Int)))).bind fun t239 => (if ((t236 ++ t237) ++ t238).size + t239.size ≤ 9223372036854775807 then (parchmentref09_Frame.l0 k (((t236 ++ t237) ++ t238) ++ t239) 0 a0_0 a0_1 a0_2 l0_3) else (none))) else (none))) else (none)))
def parchmentref09_Frame.T1 : Bool × List (List Nat × List Nat) := (true, [([], []), ([0], [0]), ([1], [1]), ([], []), ([3], [3]), ([4, 2], [4]), ([2, 5], [2, 5]), ([], []), ([7], [7]), ([8, 5], [8]), ([6, 9], [6, 9]), ([], []), ([11], [11]), ([12], [12]), ([13], [13]), ([14, 9], [14]), ([10, 15], [10, 15]), ([16, 15, 0, 1, 2, 3, 4, 5, 6, 7, 8, 9, 10, 11, 12, 13, 14, 15, 16], [16])])
def parchmentref09_Frame.B1 : List Nat := [0, 1, 3, 0, 8, 31, 63, 0, 128, 447, 1023, 0, 2048, 6144, 14336, 31679, 65535, 131071]
theorem parchmentref09_Frame.tab1 : rtab .any (opsOf Try.f17 1) = parchmentref09_Frame.T1 := by kernel_rfl
theorem parchmentref09_Frame.bits1 : waitsOk parchmentref09_Frame.T1.2 parchmentref09_Frame.B1 = true := by kernel_rfl
set_option maxHeartbeats 8000000 in
set_option maxRecDepth 100000 in
theorem parchmentref09_Frame.calls (k : Nat) (a0_0 : Int) (a0_1 : ByteArray) (a0_2 : Int) (A0_3 : Option Addr) (c0_3 : Nat) (l0_3 : List (S44)) (r : ByteArray) (w : World) (hr0_3 : Kd.C k44 w A0_3 l0_3.length l0_3) (hc0_3 : l0_3.length ≤ c0_3) (h : parchmentref09_Frame.f k a0_0 a0_1 a0_2 l0_3 = some r) :
  Calls Try.prog 17 #[.agg #[.int .u64 a0_0, .string a0_1, .int .u64 a0_2, .slice A0_3 l0_3.length c0_3]] w fun e w' => e = .returned (.string r) ∧ Below w.heap.size w w' := by
 have hu28 := Try.underlying28
 have hu44 := Try.underlying44
 have HR0_3 := Aside0.mk hr0_3
 have HC0_3 := Aside0.mk hc0_3
 clear hr0_3 hc0_3
 have HB := Aside0.mk (Below.refl w.heap.size w)
 have H : ((parchmentref02_Uint.f k a0_0).bind fun t236 => ((parchmentref02_Text.f k a0_1).bind fun t237 => (if t236.size + t237.size ≤ 9223372036854775807 then ((parchmentref02_Uint.f k a0_2).bind fun t238 => (if (t236 ++ t237).size + t238.size ≤ 9223372036854775807 then ((parchmentref02_Uint.f k (IntKind.u64.wrap ((l0_3.length : Int)))).bind fun t239 => (if ((t236 ++ t237) ++ t238).size + t239.size ≤ 9223372036854775807 then (parchmentref09_Frame.l0 k (((t236 ++ t237) ++ t238) ++ t239) 0 a0_0 a0_1 a0_2 l0_3) else (none))) else (none))) else (none)))) = some r := h
 clear h
 replace H := Option.bind_eq_some_iff.mp H
 obtain ⟨t236, A20, H⟩ := H
 replace H : ((parchmentref02_Text.f k a0_1).bind fun t237 => (if t236.size + t237.size ≤ 9223372036854775807 then ((parchmentref02_Uint.f k a0_2).bind fun t238 => (if (t236 ++ t237).size + t238.size ≤ 9223372036854775807 then ((parchmentref02_Uint.f k (IntKind.u64.wrap ((l0_3.length : Int)))).bind fun t239 => (if ((t236 ++ t237) ++ t238).size + t239.size ≤ 9223372036854775807 then (parchmentref09_Frame.l0 k (((t236 ++ t237) ++ t238) ++ t239) 0 a0_0 a0_1 a0_2 l0_3) else (none))) else (none))) else (none))) = some r := H
 have A2 := Aside0.mk A20
 clear A20
 replace H := Option.bind_eq_some_iff.mp H
 obtain ⟨t237, A30, H⟩ := H
 replace H : (if t236.size + t237.size ≤ 9223372036854775807 then ((parchmentref02_Uint.f k a0_2).bind fun t238 => (if (t236 ++ t237).size + t238.size ≤ 9223372036854775807 then ((parchmentref02_Uint.f k (IntKind.u64.wrap ((l0_3.length : Int)))).bind fun t239 => (if ((t236 ++ t237) ++ t238).size + t239.size ≤ 9223372036854775807 then (parchmentref09_Frame.l0 k (((t236 ++ t237) ++ t238) ++ t239) 0 a0_0 a0_1 a0_2 l0_3) else (none))) else (none))) else (none)) = some r := H
 have A3 := Aside0.mk A30
 clear A30
 by_cases c4 : t236.size + t237.size ≤ 9223372036854775807
 ·rw [if_pos c4] at H
  have c4b0 := eq_true c4
  have c4b1 : decide (t236.size + t237.size ≤ 9223372036854775807) = true := decide_eq_true c4
  try have c4b2 : (9223372036854775807 < t236.size + t237.size) = False := eq_false (Nat.not_lt.2 c4)
  replace H := Option.bind_eq_some_iff.mp H
  obtain ⟨t238, A50, H⟩ := H
  replace H : (if (t236 ++ t237).size + t238.size ≤ 9223372036854775807 then ((parchmentref02_Uint.f k (IntKind.u64.wrap ((l0_3.length : Int)))).bind fun t239 => (if ((t236 ++ t237) ++ t238).size + t239.size ≤ 9223372036854775807 then (parchmentref09_Frame.l0 k (((t236 ++ t237) ++ t238) ++ t239) 0 a0_0 a0_1 a0_2 l0_3) else (none))) else (none)) = some r := H
  have A5 := Aside0.mk A50
  clear A50
  by_cases c6 : (t236 ++ t237).size + t238.size ≤ 9223372036854775807
  ·rw [if_pos c6] at H
   have c6b0 := eq_true c6
   have c6b1 : decide ((t236 ++ t237).size + t238.size ≤ 9223372036854775807) = true := decide_eq_true c6
   try have c6b2 : (9223372036854775807 < (t236 ++ t237).size + t238.size) = False := eq_false (Nat.not_lt.2 c6)
   try (have c6b2x := c6b2; simp only [ByteArray.size_append] at c6b2x)
   replace H := Option.bind_eq_some_iff.mp H
   obtain ⟨t239, A70, H⟩ := H
   replace H : (if ((t236 ++ t237) ++ t238).size + t239.size ≤ 9223372036854775807 then (parchmentref09_Frame.l0 k (((t236 ++ t237) ++ t238) ++ t239) 0 a0_0 a0_1 a0_2 l0_3) else (none)) = some r := H
   have A7 := Aside0.mk A70
   clear A70
   by_cases c8 : ((t236 ++ t237) ++ t238).size + t239.size ≤ 9223372036854775807
   ·rw [if_pos c8] at H
    have c8b0 := eq_true c8
    have c8b1 : decide (((t236 ++ t237) ++ t238).size + t239.size ≤ 9223372036854775807) = true := decide_eq_true c8
    try have c8b2 : (9223372036854775807 < ((t236 ++ t237) ++ t238).size + t239.size) = False := eq_false (Nat.not_lt.2 c8)
    try (have c8b2x := c8b2; simp only [ByteArray.size_append] at c8b2x)
    have H' := Aside0.mk H
    clear H
    go_enter Try.func17, Try.ntmps17
    try go_wp2_with (first | ((with_reducible refine gate_dst (N := 1) rfl ?_); refine box_event ?hg (N := 1) ?hd (cs := #[.int .u64 a0_0, .string a0_1, .int .u64 a0_2, .slice A0_3 l0_3.length c0_3]) (t := 28) ?hr ?_; (case hd => rfl); (case hg => rfl); (case hr => first | (go_simp; done) | (go_simp; rfl)); intro gb235 hg w9 hbox hb; have n0_ := Aside0.mk (below_step (bh_ HB.out) hb); have n1_ := Aside0.mk (hbox); have n2_ := Aside0.mk ((by rw [hg]; exact (below_size (bh_ HB.out)) : w.heap.size ≤ gb235)); have n3_ := Aside0.mk ((by rw [hg]; exact (below_size (bh_ HB.out)) : w.heap.size ≤ gb235)); clear HB; have HB := n0_; have BK235 := n1_; have GW235 := n2_; have GE235 := n3_; clear n0_ n1_ n2_ n3_; clear hb hbox hg))
    replace BK235 := Aside0.mk (blk_drew BK235.out)
    replace HB := Aside0.mk (below_drew1 HB.out)
    refine start_ (n := 18) (S := fun w' => w'.cell? ⟨gb235, 0, none⟩ = some (.int .u64 a0_0) ∧ w'.cell? ⟨gb235, 1, none⟩ = some (.string a0_1) ∧ w'.cell? ⟨gb235, 2, none⟩ = some (.int .u64 a0_2) ∧ w'.cell? ⟨gb235, 3, none⟩ = some (.slice A0_3 l0_3.length c0_3)) (ds := []) #[N_, N_, N_, N_, N_, N_, N_, N_, N_, N_, N_, N_, N_, N_, N_, N_, N_, N_] (by kernel_rfl) rfl rfl ⟨(blk_cell BK235.out 0).trans rfl, (blk_cell BK235.out 1).trans rfl, (blk_cell BK235.out 2).trans rfl, (blk_cell BK235.out 3).trans rfl⟩ (fun hHeld => ?_); refine with_tabW parchmentref09_Frame.tab1 parchmentref09_Frame.bits1 (fun HT_ HW_ => ?_)
    generalize w9.drew = w10 at BK235 HB hHeld ⊢
    refine pure_ (i := 0) (N := some 5) (v := ?_) (a' := ?_) #[Y_, N_, N_, N_, N_, N_, N_, N_, N_, N_, N_, N_, N_, N_, N_, N_, N_, N_] rfl rfl (any_of HT_.out (by kernel_rfl)) (fun _ _ _ h => h) (Or.inl ⟨by rfl, ?_⟩) ?_ ?_
    rotate_left; (intro w'; go_simp; with_reducible rfl); rotate_left; (simp only [Act.put, q1_, q2_, q3_, i64_w, i32_w]; rfl)
    refine pure_ (i := 3) (N := some 8) (v := ?_) (a' := ?_) #[Y_, N_, N_, Y_, N_, N_, N_, N_, N_, N_, N_, N_, N_, N_, N_, N_, N_, N_] rfl rfl (any_of HT_.out (by kernel_rfl)) (fun _ _ _ h => h) (Or.inl ⟨by rfl, ?_⟩) ?_ ?_
    rotate_left; (intro w'; go_simp; with_reducible rfl); rotate_left; (simp only [Act.put, q1_, q2_, q3_, i64_w, i32_w]; rfl)
    refine pure_ (i := 7) (N := some 12) (v := ?_) (a' := ?_) #[Y_, N_, N_, Y_, N_, N_, N_, Y_, N_, N_, N_, N_, N_, N_, N_, N_, N_, N_] rfl rfl (any_of HT_.out (by kernel_rfl)) (fun _ _ _ h => h) (Or.inl ⟨by rfl, ?_⟩) ?_ ?_
    rotate_left; (intro w'; go_simp; with_reducible rfl); rotate_left; (simp only [Act.put, q1_, q2_, q3_, i64_w, i32_w]; rfl)
    refine pure_ (i := 11) (N := some 16) (v := ?_) (a' := ?_) #[Y_, N_, N_, Y_, N_, N_, N_, Y_, N_, N_, N_, Y_, N_, N_, N_, N_, N_, N_] rfl rfl (any_of HT_.out (by kernel_rfl)) (fun _ _ _ h => h) (Or.inl ⟨by rfl, ?_⟩) ?_ ?_
    rotate_left; (intro w'; go_simp; with_reducible rfl); rotate_left; (simp only [Act.put, q1_, q2_, q3_, i64_w, i32_w]; rfl)
    refine take_ (i := 1) (N := some 6) (v := ?_) (a' := ?_) #[Y_, Y_, N_, Y_, N_, N_, N_, Y_, N_, N_, N_, Y_, N_, N_, N_, N_, N_, N_] rfl rfl (take_ofW HT_.out HW_.out (by kernel_rfl)) (fun _ _ _ h => h) (Or.inl ⟨by rfl, ?_⟩) hHeld ?_ ?_
    rotate_left; (rintro w' ⟨s0, s1, s2, s3⟩; go_simp; with_reducible rfl); rotate_left; (simp only [Act.put, q1_, q2_, q3_, i64_w, i32_w]; rfl)
    refine take_ (i := 4) (N := some 9) (v := ?_) (a' := ?_) #[Y_, Y_, N_, Y_, Y_, N_, N_, Y_, N_, N_, N_, Y_, N_, N_, N_, N_, N_, N_] rfl rfl (take_ofW HT_.out HW_.out (by kernel_rfl)) (fun _ _ _ h => h) (Or.inl ⟨by rfl, ?_⟩) hHeld ?_ ?_
    rotate_left; (rintro w' ⟨s0, s1, s2, s3⟩; go_simp; with_reducible rfl); rotate_left; (simp only [Act.put, q1_, q2_, q3_, i64_w, i32_w]; rfl)
    refine take_ (i := 8) (N := some 13) (v := ?_) (a' := ?_) #[Y_, Y_, N_, Y_, Y_, N_, N_, Y_, Y_, N_, N_, Y_, N_, N_, N_, N_, N_, N_] rfl rfl (take_ofW HT_.out HW_.out (by kernel_rfl)) (fun _ _ _ h => h) (Or.inl ⟨by rfl, ?_⟩) hHeld ?_ ?_
    rotate_left; (rintro w' ⟨s0, s1, s2, s3⟩; go_simp; with_reducible rfl); rotate_left; (simp only [Act.put, q1_, q2_, q3_, i64_w, i32_w]; rfl)
    refine take_ (i := 12) (N := some 17) (v := ?_) (a' := ?_) #[Y_, Y_, N_, Y_, Y_, N_, N_, Y_, Y_, N_, N_, Y_, Y_, N_, N_, N_, N_, N_] rfl rfl (take_ofW HT_.out HW_.out (by kernel_rfl)) (fun _ _ _ h => h) (Or.inl ⟨by rfl, ?_⟩) hHeld ?_ ?_
    rotate_left; (rintro w' ⟨s0, s1, s2, s3⟩; go_simp; with_reducible rfl); rotate_left; (simp only [Act.put, q1_, q2_, q3_, i64_w, i32_w]; rfl)
    refine pure_ (i := 13) (N := some 18) (v := ?_) (a' := ?_) #[Y_, Y_, N_, Y_, Y_, N_, N_, Y_, Y_, N_, N_, Y_, Y_, Y_, N_, N_, N_, N_] rfl rfl (any_of HT_.out (by kernel_rfl)) (fun _ _ _ h => h) (Or.inl ⟨by rfl, ?_⟩) ?_ ?_
    rotate_left; (intro w'; go_simp; with_reducible rfl); rotate_left; (simp only [Act.put, q1_, q2_, q3_, i64_w, i32_w]; rfl)
    refine pure_ (i := 14) (N := some 19) (v := ?_) (a' := ?_) #[Y_, Y_, N_, Y_, Y_, N_, N_, Y_, Y_, N_, N_, Y_, Y_, Y_, Y_, N_, N_, N_] rfl rfl (any_of HT_.out (by kernel_rfl)) (fun _ _ _ h => h) (Or.inl ⟨by rfl, ?_⟩) ?_ ?_
    rotate_left; (intro w'; go_simp; with_reducible rfl); rotate_left; (simp only [Act.put, q1_, q2_, q3_, i64_w, i32_w]; rfl)
    refine one_ (i := 2) (N := some 7) #[Y_, Y_, Y_, Y_, Y_, N_, N_, Y_, Y_, N_, N_, Y_, Y_, Y_, Y_, N_, N_, N_] rfl rfl (one_of HT_.out (by kernel_rfl)) (by decide) (fun K hK => ?_)
    refine goes_ Try.func41 (by kernel_rfl) rfl #[.int .u64 a0_0] (by rfl) rfl rfl (by (try simp only [List.map_toArray, List.map_cons, List.map_nil]); first | done | rfl | (simp only [List.length_drop, List.length_take]; rfl)) ?_
    with_reducible refine (parchmentref02_Uint.calls k a0_0 t236 _ A2.out).mono ?_
    rintro e w11 ⟨rfl, hb⟩
    refine ⟨_, rfl, ?_⟩
    replace BK235 := Aside0.mk (bk_ BK235.out hb)
    replace HB := Aside0.mk (below_step (bh_ HB.out) hb)
    (try clear hb)
    (try clear hb2)
    (try clear hk)
    (try clear hi)
    refine hK.out _ _ ⟨(blk_cell BK235.out 0).trans rfl, (blk_cell BK235.out 1).trans rfl, (blk_cell BK235.out 2).trans rfl, (blk_cell BK235.out 3).trans rfl⟩ (fun hHeld => ?_)
    clear hK K
    refine norm_ (a' := ?_) ?_ ?_
    rotate_left
    ·show Act.put _ (some 7) _ = _
     simp only [Act.put, q1_, q2_, q3_, i64_w, i32_w]
     rfl
    refine one_ (i := 5) (N := some 10) #[Y_, Y_, Y_, Y_, Y_, Y_, N_, Y_, Y_, N_, N_, Y_, Y_, Y_, Y_, N_, N_, N_] rfl rfl (one_of HT_.out (by kernel_rfl)) (by decide) (fun K hK => ?_)
    refine goes_ Try.func42 (by kernel_rfl) rfl #[.string a0_1] (by rfl) rfl rfl (by (try simp only [List.map_toArray, List.map_cons, List.map_nil]); first | done | rfl | (simp only [List.length_drop, List.length_take]; rfl)) ?_
    with_reducible refine (parchmentref02_Text.calls k a0_1 t237 _ A3.out).mono ?_
    rintro e w12 ⟨rfl, hb⟩
    refine ⟨_, rfl, ?_⟩
    replace BK235 := Aside0.mk (bk_ BK235.out hb)
    replace HB := Aside0.mk (below_step (bh_ HB.out) hb)
    (try clear hb)
    (try clear hb2)
    (try clear hk)
    (try clear hi)
    refine hK.out _ _ ⟨(blk_cell BK235.out 0).trans rfl, (blk_cell BK235.out 1).trans rfl, (blk_cell BK235.out 2).trans rfl, (blk_cell BK235.out 3).trans rfl⟩ (fun hHeld => ?_)
    clear hK K
    refine norm_ (a' := ?_) ?_ ?_
    rotate_left
    ·show Act.put _ (some 10) _ = _
     simp only [Act.put, q1_, q2_, q3_, i64_w, i32_w]
     rfl
    refine pure_ (i := 6) (N := some 11) (v := ?_) (a' := ?_) #[Y_, Y_, Y_, Y_, Y_, Y_, Y_, Y_, Y_, N_, N_, Y_, Y_, Y_, Y_, N_, N_, N_] rfl rfl (any_of HT_.out (by kernel_rfl)) (fun _ _ _ h => h) (Or.inl ⟨by rfl, ?_⟩) ?_ ?_
    rotate_left; (intro w'; go_simp; with_reducible rfl); rotate_left; (simp only [Act.put, q1_, q2_, q3_, i64_w, i32_w]; rfl)
    refine one_ (i := 9) (N := some 14) #[Y_, Y_, Y_, Y_, Y_, Y_, Y_, Y_, Y_, Y_, N_, Y_, Y_, Y_, Y_, N_, N_, N_] rfl rfl (one_of HT_.out (by kernel_rfl)) (by decide) (fun K hK => ?_)
    refine goes_ Try.func41 (by kernel_rfl) rfl #[.int .u64 a0_2] (by rfl) rfl rfl (by (try simp only [List.map_toArray, List.map_cons, List.map_nil]); first | done | rfl | (simp only [List.length_drop, List.length_take]; rfl)) ?_
    with_reducible refine (parchmentref02_Uint.calls k a0_2 t238 _ A5.out).mono ?_
    rintro e w13 ⟨rfl, hb⟩
    refine ⟨_, rfl, ?_⟩
    replace BK235 := Aside0.mk (bk_ BK235.out hb)
    replace HB := Aside0.mk (below_step (bh_ HB.out) hb)
    (try clear hb)
    (try clear hb2)
    (try clear hk)
    (try clear hi)
    refine hK.out _ _ ⟨(blk_cell BK235.out 0).trans rfl, (blk_cell BK235.out 1).trans rfl, (blk_cell BK235.out 2).trans rfl, (blk_cell BK235.out 3).trans rfl⟩ (fun hHeld => ?_)
    clear hK K
    refine norm_ (a' := ?_) ?_ ?_
    rotate_left
    ·show Act.put _ (some 14) _ = _
     simp only [Act.put, q1_, q2_, q3_, i64_w, i32_w]
     rfl
    refine pure_ (i := 10) (N := some 15) (v := ?_) (a' := ?_) #[Y_, Y_, Y_, Y_, Y_, Y_, Y_, Y_, Y_, Y_, Y_, Y_, Y_, Y_, Y_, N_, N_, N_] rfl rfl (any_of HT_.out (by kernel_rfl)) (fun _ _ _ h => h) (Or.inl ⟨by rfl, ?_⟩) ?_ ?_
    rotate_left; (intro w'; go_simp; with_reducible rfl); rotate_left; (simp only [Act.put, q1_, q2_, q3_, i64_w, i32_w]; rfl)
    refine one_ (i := 15) (N := some 20) #[Y_, Y_, Y_, Y_, Y_, Y_, Y_, Y_, Y_, Y_, Y_, Y_, Y_, Y_, Y_, Y_, N_, N_] rfl rfl (one_of HT_.out (by kernel_rfl)) (by decide) (fun K hK => ?_)
    refine goes_ Try.func41 (by kernel_rfl) rfl #[.int .u64 (IntKind.u64.wrap ((l0_3.length : Int)))] (by rfl) rfl rfl (by (try simp only [List.map_toArray, List.map_cons, List.map_nil]); first | done | rfl | (simp only [List.length_drop, List.length_take]; rfl)) ?_
    with_reducible refine (parchmentref02_Uint.calls k (IntKind.u64.wrap ((l0_3.length : Int))) t239 _ A7.out).mono ?_
    rintro e w14 ⟨rfl, hb⟩
    refine ⟨_, rfl, ?_⟩
    replace BK235 := Aside0.mk (bk_ BK235.out hb)
    replace HB := Aside0.mk (below_step (bh_ HB.out) hb)
    (try clear hb)
    (try clear hb2)
    (try clear hk)
    (try clear hi)
    refine hK.out _ _ ⟨(blk_cell BK235.out 0).trans rfl, (blk_cell BK235.out 1).trans rfl, (blk_cell BK235.out 2).trans rfl, (blk_cell BK235.out 3).trans rfl⟩ (fun hHeld => ?_)
    clear hK K
    refine norm_ (a' := ?_) ?_ ?_
    rotate_left
    ·show Act.put _ (some 20) _ = _
     simp only [Act.put, q1_, q2_, q3_, i64_w, i32_w]
     rfl
    refine pure_ (i := 16) (N := some 21) (v := ?_) (a' := ?_) #[Y_, Y_, Y_, Y_, Y_, Y_, Y_, Y_, Y_, Y_, Y_, Y_, Y_, Y_, Y_, Y_, Y_, N_] rfl rfl (any_of HT_.out (by kernel_rfl)) (fun _ _ _ h => h) (Or.inl ⟨by rfl, ?_⟩) ?_ ?_
    rotate_left; (intro w'; go_simp; with_reducible rfl); rotate_left; (simp only [Act.put, q1_, q2_, q3_, i64_w, i32_w]; rfl)
    refine pure_ (i := 17) (N := some 3) (v := ?_) (a' := ?_) #[Y_, Y_, Y_, Y_, Y_, Y_, Y_, Y_, Y_, Y_, Y_, Y_, Y_, Y_, Y_, Y_, Y_, Y_] rfl rfl (any_of HT_.out (by kernel_rfl)) (fun _ _ _ h => h) (Or.inl ⟨by rfl, ?_⟩) ?_ ?_
    rotate_left; (intro w'; go_simp; with_reducible rfl); rotate_left; (simp only [Act.put, q1_, q2_, q3_, i64_w, i32_w]; rfl)
    refine done_ (done_of HT_.out (by kernel_rfl)) ?_
    try go_wp2
    go_loopg [3, 4] k (fun kq v3 v4 w' => ∃ (x3_1 : ByteArray) (x4_1 : Int), v3 = .string x3_1 ∧ v4 = .int .i64 x4_1 ∧ Aside0 (parchmentref09_Frame.l0 kq x3_1 x4_1 a0_0 a0_1 a0_2 l0_3 = some r) ∧ Aside0 (kq ≤ k) ∧ Aside0 (w'.heap[gb235]? = some (.cells #[.int .u64 a0_0, .string a0_1, .int .u64 a0_2, (.slice A0_3 l0_3.length c0_3)] 28 (0, 0))) ∧ Aside0 (Below w.heap.size w w'))
    case atStart => exact ⟨(((t236 ++ t237) ++ t238) ++ t239), (0), (by first | rfl | (simp; done) | (simp [*]; done)), (by first | rfl | (simp; done) | (simp [*]; done)), H', ⟨Nat.le_refl _⟩, ⟨bz_ BK235.out⟩, ⟨bh_ HB.out⟩⟩
    case round =>
     clear H'
     try clear c1
     try clear p2
     try clear c4
     try clear c4b0
     try clear c4b1
     try clear c4b2
     try clear c6
     try clear c6b0
     try clear c6b1
     try clear c6b2
     try clear c8
     try clear c8b0
     try clear c8b1
     try clear c8b2
     obtain ⟨x3_1, x4_1, rfl, rfl, HA, HK1, BK235, HB⟩ := hrel
     cases gk with
     | zero => exact absurd HA.out (by simp [parchmentref09_Frame.l0])
     | succ k1 =>
      have H := HA.out
      clear HA
      simp only [parchmentref09_Frame.l0] at H
      by_cases c15 : x4_1 < (l0_3.length : Int)
      ·rw [if_pos c15] at H
       have c15b0 : decide (x4_1 < (l0_3.length : Int)) = true := decide_eq_true c15
       clear c15
       by_cases c16 : 0 ≤ x4_1
       ·rw [if_pos c16] at H
        have c16b0 : decide (0 ≤ x4_1) = true := decide_eq_true c16
        clear c16
        replace H := Option.bind_eq_some_iff.mp H
        obtain ⟨t241, A170, H⟩ := H
        replace H : (if x3_1.size + t241.size ≤ 9223372036854775807 then (parchmentref09_Frame.l0 k1 (x3_1 ++ t241) (wrap64 (x4_1 + 1)) a0_0 a0_1 a0_2 l0_3) else (none)) = some r := H
        have A17 := Aside0.mk A170
        clear A170
        by_cases c18 : x3_1.size + t241.size ≤ 9223372036854775807
        ·rw [if_pos c18] at H
         have c18b0 := eq_true c18
         have c18b1 : decide (x3_1.size + t241.size ≤ 9223372036854775807) = true := decide_eq_true c18
         try have c18b2 : (9223372036854775807 < x3_1.size + t241.size) = False := eq_false (Nat.not_lt.2 c18)
         have H' := Aside0.mk H
         clear H
         obtain ⟨z19_0, z19_1, z19_2, z19_3, f19_0, f19_1, f19_2, f19_3⟩ := bc4_ BK235.out
         have p240 : 0 ≤ (x4_1 : Int) := of_decide_eq_true (by first | (with_reducible assumption) | assumption)
         have q240 : x4_1 < (l0_3.length : Int) := of_decide_eq_true (by first | (with_reducible assumption) | assumption)
         obtain ⟨ad240, e240, hx240_0, hx240_1, hx240_2, hx240_3, hx240_4, hx240_5, hx240_6, hx240_7⟩ := at_T44 HR0_3.out x4_1 p240 q240
         cases e240
         replace hx240_0 := (HB.out.cell (World.block_lt_of_cell? w _ hx240_0)).trans hx240_0
         replace hx240_1 := (HB.out.cell (World.block_lt_of_cell? w _ hx240_1)).trans hx240_1
         replace hx240_2 := (HB.out.cell (World.block_lt_of_cell? w _ hx240_2)).trans hx240_2
         replace hx240_3 := (HB.out.cell (World.block_lt_of_cell? w _ hx240_3)).trans hx240_3
         replace hx240_4 := (HB.out.cell (World.block_lt_of_cell? w _ hx240_4)).trans hx240_4
         replace hx240_5 := (HB.out.cell (World.block_lt_of_cell? w _ hx240_5)).trans hx240_5
         replace hx240_6 := (HB.out.cell (World.block_lt_of_cell? w _ hx240_6)).trans hx240_6
         replace hx240_7 := (HB.out.cell (World.block_lt_of_cell? w _ hx240_7)).trans hx240_7
         replace p240 := eq_true p240
         replace q240 := eq_true q240
         go_wp2_with (first | ((with_reducible refine gate_callee (f := 37) rfl ?_); refine gl_ (some 35) Try.func37 #[.agg #[.int .i64 ((rd_T44 l0_3 x4_1).f0), .string ((rd_T44 l0_3 x4_1).f1), .string ((rd_T44 l0_3 x4_1).f2), .int .u64 ((rd_T44 l0_3 x4_1).f3), .int .u64 ((rd_T44 l0_3 x4_1).f4), .string ((rd_T44 l0_3 x4_1).f5), .string ((rd_T44 l0_3 x4_1).f6), .bool ((rd_T44 l0_3 x4_1).f7)]] ?_; (with_reducible refine (parchmentref09_Meta.calls k1 ((rd_T44 l0_3 x4_1).f0) ((rd_T44 l0_3 x4_1).f1) ((rd_T44 l0_3 x4_1).f2) ((rd_T44 l0_3 x4_1).f3) ((rd_T44 l0_3 x4_1).f4) ((rd_T44 l0_3 x4_1).f5) ((rd_T44 l0_3 x4_1).f6) ((rd_T44 l0_3 x4_1).f7) t241 _ A17.out).mono ?_); rintro e w20 ⟨rfl, hb⟩; refine ⟨_, rfl, ?_⟩; replace BK235 := Aside0.mk (bk_ BK235.out hb); replace HB := Aside0.mk (below_step (bh_ HB.out) hb); (try clear hb)))
         go_roundg k1
         case measure => have := HK1.out; omega
         case rel => exact ⟨(x3_1 ++ t241), (wrap64 (x4_1 + 1)), (by first | rfl | (simp; done) | (simp [*]; done)), (by first | rfl | (simp; done) | (simp [*]; done)), H', ⟨by have := HK1.out; omega⟩, ⟨bz_ BK235.out⟩, ⟨bh_ HB.out⟩⟩
        ·rw [if_neg c18] at H
         exact absurd H (by simp)
       ·rw [if_neg c16] at H
        exact absurd H (by simp)
      ·rw [if_neg c15] at H
       have c15b0 : decide (x4_1 < (l0_3.length : Int)) = false := decide_eq_false c15
       clear c15
       obtain rfl := Option.some.inj H
       obtain ⟨z21_0, z21_1, z21_2, z21_3, f21_0, f21_1, f21_2, f21_3⟩ := bc4_ BK235.out
       go_wp2
       go_ret
       exact ⟨by first | rfl | (simp [errW_none, errW_some] <;> rfl) | (simp [*, errW_none, errW_some] <;> rfl), by repeat (first | (with_reducible first | exact HB.out | apply below_alloc | apply pw_below_drewN | apply below_drew1 | refine below_set ?_ GE235.out) | exact HB.out)⟩
   ·rw [if_neg c8] at H
    exact absurd H (by simp)
  ·rw [if_neg c6] at H
   exact absurd H (by simp)
 ·rw [if_neg c4] at H
  exact absurd H (by simp)
/-- A state of type 138 at block g of W; what its slices lead to came in by w0. -/
def IsS138 (w0 W : World) (g : Nat) (f0 : ByteArray) (f1 : Int) (f2 : Int) : Prop := W.heap[g]? = some (.cells #[.string f0, .int .i64 f1, .int .i64 f2] 138 (0, 0)) ∧ w0.heap.size ≤ g
theorem IsS138.grown {w0 W : World} {g : Nat} {f0 : ByteArray} {f1 : Int} {f2 : Int} {W1 : World} {row : Option Nat} (h : IsS138 w0 W g f0 f1 f2) (hw : W.grownBy W1 row) (hne : some g ≠ row) : IsS138 w0 W1 g f0 f1 f2 := by
 obtain ⟨hb, hg⟩ := h
 exact ⟨blk_grown hb hw hne, hg⟩
theorem IsS138.kept {w0 W : World} {g : Nat} {f0 : ByteArray} {f1 : Int} {f2 : Int} {W1 : World} {S : Nat → Prop} (h : IsS138 w0 W g f0 f1 f2) (hk : Kept W W1 S) (hne : ¬ S g) : IsS138 w0 W1 g f0 f1 f2 := by
 obtain ⟨hb, hg⟩ := h
 exact ⟨blk_kept hb hk hne, hg⟩
theorem IsS138.below {w0 W : World} {g : Nat} {f0 : ByteArray} {f1 : Int} {f2 : Int} {W1 : World} (h : IsS138 w0 W g f0 f1 f2) (hw : Below W.heap.size W W1) : IsS138 w0 W1 g f0 f1 f2 := h.grown (grown_of_below hw none) (by simp)
theorem IsS138.alloc {w0 W : World} {g : Nat} {f0 : ByteArray} {f1 : Int} {f2 : Int} (h : IsS138 w0 W g f0 f1 f2) (o : Obj) : IsS138 w0 (W.alloc o) g f0 f1 f2 := h.below (below_alloc (Below.refl _ _) o)
theorem IsS138.drewN {w0 W : World} {g : Nat} {f0 : ByteArray} {f1 : Int} {f2 : Int} (h : IsS138 w0 W g f0 f1 f2) (m : Nat) : IsS138 w0 (W.drewN m) g f0 f1 f2 := h
theorem IsS138.drew {w0 W : World} {g : Nat} {f0 : ByteArray} {f1 : Int} {f2 : Int} (h : IsS138 w0 W g f0 f1 f2) : IsS138 w0 W.drew g f0 f1 f2 := h
theorem IsS138.at_ {w0 W : World} {g : Nat} {f0 : ByteArray} {f1 : Int} {f2 : Int} {w' : World} {m : Nat} (hq : W.drewN m = w') (h : IsS138 w0 W g f0 f1 f2) : IsS138 w0 w' g f0 f1 f2 := by subst hq; exact IsS138.drewN h m
theorem IsS138.apart {w0 W : World} {g : Nat} {f0 : ByteArray} {f1 : Int} {f2 : Int} {α : Type} {d : Kd α} {e : Nat} {base : Nat} {ok : Nat → Prop} {v : Value} {xs : List α} (h : IsS138 w0 W g f0 f1 f2) (ho : d.R e W base ok v xs) (ht : ∀ q, q ∈ e :: d.E → q ≠ 138) : d.R e W base (fun k => ok k ∧ k ≠ g) v xs := by
 obtain ⟨hb, hg⟩ := h
 exact Kd.R_types ho hb ht
theorem IsS138.own_ne {w0 W : World} {g : Nat} {f0 : ByteArray} {f1 : Int} {f2 : Int} {α : Type} {d : Kd α} {e : Nat} {base : Nat} {ok : Nat → Prop} {v : Value} {xs : List α} (h : IsS138 w0 W g f0 f1 f2) (ho : d.R e W base ok v xs) (ht : e ≠ 138) : some g ≠ v.ownBlock := by
 obtain ⟨hb, hg⟩ := h
 exact Kd.R_ne ho hb ht
theorem IsS138.lt {w0 W : World} {g : Nat} {f0 : ByteArray} {f1 : Int} {f2 : Int} (h : IsS138 w0 W g f0 f1 f2) : g < W.heap.size := by
 obtain ⟨hb, hg⟩ := h
 exact blk_lt hb
theorem IsS138.ge {w0 W : World} {g : Nat} {f0 : ByteArray} {f1 : Int} {f2 : Int} (h : IsS138 w0 W g f0 f1 f2) : w0.heap.size ≤ g := by
 obtain ⟨hb, hg⟩ := h
 exact hg
theorem IsS138.ne_blk {w0 W : World} {g : Nat} {f0 : ByteArray} {f1 : Int} {f2 : Int} {a : Nat} {cs : Array Value} {t : TypeId} {fr : Nat × Nat} (h : IsS138 w0 W g f0 f1 f2) (hb2 : W.heap[a]? = some (.cells cs t fr)) (ht : t ≠ 138) : g ≠ a := by
 obtain ⟨hb, hg⟩ := h
 rintro rfl
 rw [hb] at hb2
 injection hb2 with hb2
 injection hb2 with _ ht2
 exact ht ht2.symm
theorem IsS138.far {w0 W : World} {g : Nat} {f0 : ByteArray} {f1 : Int} {f2 : Int} {p : Addr} (h : IsS138 w0 W g f0 f1 f2) (hne : g ≠ p.block) (u : Value) : IsS138 w0 (W.setCell p u) g f0 f1 f2 := by
 obtain ⟨hb, hg⟩ := h
 exact ⟨blk_far hb hne u, hg⟩
theorem cellS138_0 {W : World} {g : Nat} {f0 : ByteArray} {f1 : Int} {f2 : Int} (h : W.heap[g]? = some (.cells #[.string f0, .int .i64 f1, .int .i64 f2] 138 (0, 0))) : W.cell? ⟨g, 0, none⟩ = some (.string f0) := (blk_cell h 0).trans rfl
theorem IsS138.set_0 {w0 W : World} {g : Nat} {f0 : ByteArray} {f1 : Int} {f2 : Int} (h : IsS138 w0 W g f0 f1 f2) (x : ByteArray) : IsS138 w0 (W.setCell ⟨g, 0, none⟩ (.string x)) g x f1 f2 := by
 obtain ⟨hb, hg⟩ := h
 exact ⟨by simpa using blk_set hb 0 (.string x), hg⟩
theorem cellS138_1 {W : World} {g : Nat} {f0 : ByteArray} {f1 : Int} {f2 : Int} (h : W.heap[g]? = some (.cells #[.string f0, .int .i64 f1, .int .i64 f2] 138 (0, 0))) : W.cell? ⟨g, 1, none⟩ = some (.int .i64 f1) := (blk_cell h 1).trans rfl
theorem IsS138.set_1 {w0 W : World} {g : Nat} {f0 : ByteArray} {f1 : Int} {f2 : Int} (h : IsS138 w0 W g f0 f1 f2) (x : Int) : IsS138 w0 (W.setCell ⟨g, 1, none⟩ (.int .i64 x)) g f0 x f2 := by
 obtain ⟨hb, hg⟩ := h
 exact ⟨by simpa using blk_set hb 1 (.int .i64 x), hg⟩
theorem cellS138_2 {W : World} {g : Nat} {f0 : ByteArray} {f1 : Int} {f2 : Int} (h : W.heap[g]? = some (.cells #[.string f0, .int .i64 f1, .int .i64 f2] 138 (0, 0))) : W.cell? ⟨g, 2, none⟩ = some (.int .i64 f2) := (blk_cell h 2).trans rfl
theorem IsS138.set_2 {w0 W : World} {g : Nat} {f0 : ByteArray} {f1 : Int} {f2 : Int} (h : IsS138 w0 W g f0 f1 f2) (x : Int) : IsS138 w0 (W.setCell ⟨g, 2, none⟩ (.int .i64 x)) g f0 f1 x := by
 obtain ⟨hb, hg⟩ := h
 exact ⟨by simpa using blk_set hb 2 (.int .i64 x), hg⟩
theorem IsS138.new (w0 W : World) (f0 : ByteArray) (f1 : Int) (f2 : Int) (hB : Below w0.heap.size w0 W) : IsS138 w0 (W.alloc (.cells #[.string f0, .int .i64 f1, .int .i64 f2] 138)) W.heap.size f0 f1 f2 := ⟨by simpa using heap_alloc_new W _, hB.size⟩
/-! ### enc_At: function 61 -/
def enc_At.f (a0 : ByteArray) : Option (ByteArray × Int × Int) := some (a0, 0, 0)
set_option maxHeartbeats 8000000 in
set_option maxRecDepth 100000 in
theorem enc_At.calls (a0 : ByteArray) (r1 : ByteArray) (r2 : Int) (r3 : Int) (w0 w : World) (hB : Below w0.heap.size w0 w) (h : enc_At.f a0 = some (r1, r2, r3)) :
  Calls Try.prog 61 #[.string a0] w fun e w' => ∃ g_ : Nat, e = .returned (.pointer (some ⟨g_, 0, none⟩)) ∧ IsS138 w0 w' g_ r1 r2 r3 ∧ Below w0.heap.size w0 w' ∧ Below w.heap.size w w' := by
 have hu138 := Try.underlying138
 have HBW := Aside0.mk (Below.refl w.heap.size w)
 have HW0 := Aside0.mk hB.size
 have HB := Aside0.mk hB
 clear hB
 have H : (some (a0, 0, 0)) = some (r1, r2, r3) := h
 clear h
 simp only [Option.some.injEq, Prod.mk.injEq] at H
 obtain ⟨rfl, rfl, rfl⟩ := H
 go_enter Try.func61, Try.ntmps61
 go_wp2_with (first | ((with_reducible refine gate_dst (N := 5) rfl ?_); refine box_event ?hg (N := 5) ?hd (cs := #[.string a0, .int .i64 0, .int .i64 0]) (t := 138) ?hr ?_; (case hd => rfl); (case hg => rfl); (case hr => first | (go_simp; done) | (go_simp; rfl)); intro gb251 hg w2 hbox hb; have n0_ := Aside0.mk (below_step HBW.out hb); have n1_ := Aside0.mk (below_step (bh_ HB.out) hb); have n2_ := Aside0.mk (hbox); have n3_ := Aside0.mk ((by rw [hg]; exact (below_size (bh_ HBW.out)) : w.heap.size ≤ gb251)); have n4_ := Aside0.mk ((Nat.le_trans HW0.out (by rw [hg]; exact (below_size (bh_ HBW.out)) : w.heap.size ≤ gb251) : w0.heap.size ≤ gb251)); clear HBW; clear HB; have HBW := n0_; have HB := n1_; have BK251 := n2_; have GW251 := n3_; have GE251 := n4_; clear n0_ n1_ n2_ n3_ n4_; clear hb hbox hg))
 go_ret
 exact ⟨_, rfl, (show IsS138 w0 _ gb251 a0 0 0 from ⟨by (with_reducible repeat (first | refine blk_drewN ?_ _ | refine blk_drew ?_ | refine blk_alloc ?_ _)); exact BK251.out, GE251.out⟩), by repeat (first | (with_reducible first | exact HB.out | apply below_alloc | apply pw_below_drewN | apply below_drew1 | refine below_set ?_ GE251.out) | exact HB.out), by repeat (first | (with_reducible first | exact HBW.out | apply below_alloc | apply pw_below_drewN | apply below_drew1 | refine below_set ?_ GW251.out) | exact HBW.out)⟩
/-! ### enc_Cursor_stop: function 88 -/
def enc_Cursor_stop.f (s0_0 : ByteArray) (s0_1 : Int) (s0_2 : Int) (a1 : Int) : Option (ByteArray × Int × Int) := if s0_2 = 0 then (some (s0_0, s0_1, a1)) else (some (s0_0, s0_1, s0_2))
set_option maxHeartbeats 8000000 in
set_option maxRecDepth 100000 in
theorem enc_Cursor_stop.calls (g : Nat) (s0_0 : ByteArray) (s0_1 : Int) (s0_2 : Int) (a1 : Int) (r1 : ByteArray) (r2 : Int) (r3 : Int) (w0 w : World) (hI : IsS138 w0 w g s0_0 s0_1 s0_2) (hB : Below w0.heap.size w0 w) (h : enc_Cursor_stop.f s0_0 s0_1 s0_2 a1 = some (r1, r2, r3)) :
  Calls Try.prog 88 #[.pointer (some ⟨g, 0, none⟩), .int .i64 a1] w fun e w' => e = .returned (.tuple #[]) ∧ IsS138 w0 w' g r1 r2 r3 ∧ Below w0.heap.size w0 w' ∧ KeepBut w w' g none := by
 have HI0 := Aside0.mk hI
 have HK := Aside0.mk (KeepBut.refl w g none)
 have HL := Aside0.mk hB.size
 clear hI
 have HW0 := Aside0.mk hB.size
 have HB := Aside0.mk hB
 clear hB
 have H : (if s0_2 = 0 then (some (s0_0, s0_1, a1)) else (some (s0_0, s0_1, s0_2))) = some (r1, r2, r3) := h
 clear h
 by_cases c3 : s0_2 = 0
 ·rw [if_pos c3] at H
  have c3b0 : (s0_2 == 0) = true := beq_iff_eq.mpr c3
  have c3b1 : (s0_2 != 0) = false := bne_eq_false_iff_eq.mpr c3
  clear c3
  simp only [Option.some.injEq, Prod.mk.injEq] at H
  obtain ⟨rfl, rfl, rfl⟩ := H
  obtain ⟨HGz4, hgz4⟩ := HI0.out
  have hcz4_0 := cellS138_0 HGz4
  have hcz4_1 := cellS138_1 HGz4
  have hcz4_2 := cellS138_2 HGz4
  have hfz4_0 := blk_frozen HGz4 0
  have hfz4_1 := blk_frozen HGz4 1
  have hfz4_2 := blk_frozen HGz4 2
  clear HGz4 hgz4
  go_enter Try.func88, Try.ntmps88
  go_wp2
  first | go_end0 | ((try simp only [Exit.inBlock, Exit.then]); refine bodyPost_ret (results_none rfl _ _ _) rfl ?_)
  exact ⟨by first | rfl | (simp [errW_none, errW_some] <;> rfl) | (simp [*, errW_none, errW_some] <;> rfl), by repeat (first | (with_reducible first | exact HI0.out | apply IsS138.alloc | apply IsS138.drewN | apply IsS138.drew | apply IsS138.set_0 | apply IsS138.set_1 | apply IsS138.set_2) | exact HI0.out), by repeat (first | (with_reducible first | exact HB.out | apply below_alloc | apply pw_below_drewN | apply below_drew1 | refine below_set ?_ (IsS138.ge HI0.out)) | exact HB.out), by repeat (first | (with_reducible first | exact HK.out | apply KeepBut.set_ | apply keep_drewN | apply keep_drew | apply keep_alloc) | exact HK.out)⟩
 ·rw [if_neg c3] at H
  have c3b0 : (s0_2 == 0) = false := beq_eq_false_iff_ne.mpr c3
  have c3b1 : (s0_2 != 0) = true := bne_iff_ne.mpr c3
  simp only [Option.some.injEq, Prod.mk.injEq] at H
  obtain ⟨rfl, rfl, rfl⟩ := H
  obtain ⟨HGz5, hgz5⟩ := HI0.out
  have hcz5_0 := cellS138_0 HGz5
  have hcz5_1 := cellS138_1 HGz5
  have hcz5_2 := cellS138_2 HGz5
  have hfz5_0 := blk_frozen HGz5 0
  have hfz5_1 := blk_frozen HGz5 1
  have hfz5_2 := blk_frozen HGz5 2
  clear HGz5 hgz5
  go_enter Try.func88, Try.ntmps88
  go_wp2
  first | go_end0 | ((try simp only [Exit.inBlock, Exit.then]); refine bodyPost_ret (results_none rfl _ _ _) rfl ?_)
  exact ⟨by first | rfl | (simp [errW_none, errW_some] <;> rfl) | (simp [*, errW_none, errW_some] <;> rfl), by repeat (first | (with_reducible first | exact HI0.out | apply IsS138.alloc | apply IsS138.drewN | apply IsS138.drew | apply IsS138.set_0 | apply IsS138.set_1 | apply IsS138.set_2) | exact HI0.out), by repeat (first | (with_reducible first | exact HB.out | apply below_alloc | apply pw_below_drewN | apply below_drew1 | refine below_set ?_ (IsS138.ge HI0.out)) | exact HB.out), by repeat (first | (with_reducible first | exact HK.out | apply KeepBut.set_ | apply keep_drewN | apply keep_drew | apply keep_alloc) | exact HK.out)⟩
end Go.Proofs.Ytdcbacbilncnnaa.PMk
end
section
/- A revision's bytes, joined: by what holds behind any of the operations. Written by wip/genmeta.py. -/
set_option linter.unusedVariables false
set_option linter.unusedSimpArgs false
namespace Go.Proofs.Ytdcbacbilncnnaa.Mw
open Go.RowKit Go.Proofs.Ytdcbacbilncnnaa Go.Proofs.Ytdcbacbilncnnaa.PMk Go.Proofs.YtdcbacbilncnnaaW.PrintWords Go.Proofs.YtdcbacbilncnnaaW.PrintLast
theorem cases26 {ops : Array Oper} {i : Nat} {o : Oper} (hs : ops.size = 26) (h : ops[i]? = some o) : i = 0 ∨ i = 1 ∨ i = 2 ∨ i = 3 ∨ i = 4 ∨ i = 5 ∨ i = 6 ∨ i = 7 ∨ i = 8 ∨ i = 9 ∨ i = 10 ∨ i = 11 ∨ i = 12 ∨ i = 13 ∨ i = 14 ∨ i = 15 ∨ i = 16 ∨ i = 17 ∨ i = 18 ∨ i = 19 ∨ i = 20 ∨ i = 21 ∨ i = 22 ∨ i = 23 ∨ i = 24 ∨ i = 25 := by
  have hi : i < ops.size := (Array.getElem?_eq_some_iff.1 h).1
  omega
def fr73 (a0 : Int) (a1 a2 : ByteArray) (a3 a4 : Int) (a5 a6 : ByteArray) (a7 : Bool) (g : Nat) (r v3 v4 v5 v6 v7 v8 v9 v10 v11 v12 v13 v14 v15 v16 v17 v18 v19 v20 v21 v22 v23 v24 v25 v26 v27 : Value) : Act := ⟨#[.agg #[.int .i64 a0, .string a1, .string a2, .int .u64 a3, .int .u64 a4, .string a5, .string a6, .bool a7], .pointer (some ⟨g, 0, none⟩), r, v3, v4, v5, v6, v7, v8, v9, v10, v11, v12, v13, v14, v15, v16, v17, v18, v19, v20, v21, v22, v23, v24, v25, v26, v27], []⟩
structure J73 (a0 : Int) (a1 a2 : ByteArray) (a3 a4 : Int) (a5 a6 : ByteArray) (a7 : Bool) (t1 t2 t3 t4 t5 : ByteArray) (g : Nat) (W : World) (b0 b1 b2 b3 b4 b5 b6 b7 b8 b9 b10 b11 b12 b13 b14 b15 b16 b17 b18 b19 b20 b21 b22 b23 b24 b25 : Bool) (r v3 v4 v5 v6 v7 v8 v9 v10 v11 v12 v13 v14 v15 v16 v17 v18 v19 v20 v21 v22 v23 v24 v25 v26 v27 : Value) (W' : World) : Prop where
  hb : Below (g + 1) W W'
  f0 : b0 = true → v3 = .pointer (some ⟨g, 0, none⟩)
  f1 : b1 = true → v4 = .int .i64 a0
  f2 : b2 = true → v5 = .int .u8 (a0 % 256)
  f3 : b3 = true → W'.ownsRow (g + 1) 5 1 v6 1 (nums .u8 [a0 % 256])
  f4 : b4 = true → v7 = .string (strOfNums [a0 % 256])
  f5 : b5 = true → v8 = .pointer (some ⟨g, 1, none⟩)
  f6 : b6 = true → v9 = .string a1
  f7 : b7 = true → v10 = .string t1
  f8 : b8 = true → v11 = .string ((strOfNums [a0 % 256]) ++ t1)
  f9 : b9 = true → v12 = .pointer (some ⟨g, 2, none⟩)
  f10 : b10 = true → v13 = .string a2
  f11 : b11 = true → v14 = .string t2
  f12 : b12 = true → v15 = .string (((strOfNums [a0 % 256]) ++ t1) ++ t2)
  f13 : b13 = true → v16 = .pointer (some ⟨g, 3, none⟩)
  f14 : b14 = true → v17 = .int .u64 a3
  f15 : b15 = true → v18 = .string t3
  f16 : b16 = true → v19 = .string ((((strOfNums [a0 % 256]) ++ t1) ++ t2) ++ t3)
  f17 : b17 = true → v20 = .pointer (some ⟨g, 4, none⟩)
  f18 : b18 = true → v21 = .int .u64 a4
  f19 : b19 = true → v22 = .string t4
  f20 : b20 = true → v23 = .string (((((strOfNums [a0 % 256]) ++ t1) ++ t2) ++ t3) ++ t4)
  f21 : b21 = true → v24 = .pointer (some ⟨g, 5, none⟩)
  f22 : b22 = true → v25 = .string a5
  f23 : b23 = true → v26 = .string t5
  f24 : b24 = true → v27 = .string ((((((strOfNums [a0 % 256]) ++ t1) ++ t2) ++ t3) ++ t4) ++ t5)
  f25 : b25 = true → r = .string ((((((strOfNums [a0 % 256]) ++ t1) ++ t2) ++ t3) ++ t4) ++ t5)
theorem J73.later {a0 : Int} {a1 a2 : ByteArray} {a3 a4 : Int} {a5 a6 : ByteArray} {a7 : Bool} {t1 t2 t3 t4 t5 : ByteArray} {g : Nat} {W W' W'' : World} {b0 b1 b2 b3 b4 b5 b6 b7 b8 b9 b10 b11 b12 b13 b14 b15 b16 b17 b18 b19 b20 b21 b22 b23 b24 b25 : Bool} {r v3 v4 v5 v6 v7 v8 v9 v10 v11 v12 v13 v14 v15 v16 v17 v18 v19 v20 v21 v22 v23 v24 v25 v26 v27 : Value} (j : J73 a0 a1 a2 a3 a4 a5 a6 a7 t1 t2 t3 t4 t5 g W b0 b1 b2 b3 b4 b5 b6 b7 b8 b9 b10 b11 b12 b13 b14 b15 b16 b17 b18 b19 b20 b21 b22 b23 b24 b25 r v3 v4 v5 v6 v7 v8 v9 v10 v11 v12 v13 v14 v15 v16 v17 v18 v19 v20 v21 v22 v23 v24 v25 v26 v27 W') (hz : g + 1 ≤ W.heap.size) (hb : Below W'.heap.size W' W'') : J73 a0 a1 a2 a3 a4 a5 a6 a7 t1 t2 t3 t4 t5 g W b0 b1 b2 b3 b4 b5 b6 b7 b8 b9 b10 b11 b12 b13 b14 b15 b16 b17 b18 b19 b20 b21 b22 b23 b24 b25 r v3 v4 v5 v6 v7 v8 v9 v10 v11 v12 v13 v14 v15 v16 v17 v18 v19 v20 v21 v22 v23 v24 v25 v26 v27 W'' :=
  { j with hb := below_then j.hb (Nat.le_trans hz j.hb.size) hb, f3 := fun k => pw_own_below (j.f3 k) hb }
set_option maxRecDepth 100000 in
set_option maxHeartbeats 8000000 in
theorem meta73 (a0 : Int) (a1 a2 : ByteArray) (a3 a4 : Int) (a5 a6 : ByteArray) (a7 : Bool) (t1 t2 t3 t4 t5 : ByteArray) (w : World)
    (H1 : Hid (∀ w, Calls Try.prog 46 #[.string a1] w fun e w' => e = .returned (.string t1) ∧ Below w.heap.size w w'))
    (H2 : Hid (∀ w, Calls Try.prog 46 #[.string a2] w fun e w' => e = .returned (.string t2) ∧ Below w.heap.size w w'))
    (H3 : Hid (∀ w, Calls Try.prog 45 #[.int .u64 a3] w fun e w' => e = .returned (.string t3) ∧ Below w.heap.size w w'))
    (H4 : Hid (∀ w, Calls Try.prog 45 #[.int .u64 a4] w fun e w' => e = .returned (.string t4) ∧ Below w.heap.size w w'))
    (H5 : Hid (∀ w, Calls Try.prog 46 #[.string a5] w fun e w' => e = .returned (.string t5) ∧ Below w.heap.size w w'))
    (hs : 1 + t1.size + t2.size + t3.size + t4.size + t5.size ≤ 9223372036854775807) :
    Calls Try.prog 73 #[.agg #[.int .i64 a0, .string a1, .string a2, .int .u64 a3, .int .u64 a4, .string a5, .string a6, .bool a7]] w fun e w' => e = .returned (.string ((((((strOfNums [a0 % 256]) ++ t1) ++ t2) ++ t3) ++ t4) ++ t5)) ∧ Below w.heap.size w w' := by
  have s0 : (strOfNums [a0 % 256]).size = 1 := rfl
  have q1 : (9223372036854775807 < (strOfNums [a0 % 256]).size + t1.size) = False := eq_false (by rw [s0]; omega)
  have q2 : (9223372036854775807 < (strOfNums [a0 % 256]).size + t1.size + t2.size) = False := eq_false (by rw [s0]; omega)
  have q3 : (9223372036854775807 < (strOfNums [a0 % 256]).size + t1.size + t2.size + t3.size) = False := eq_false (by rw [s0]; omega)
  have q4 : (9223372036854775807 < (strOfNums [a0 % 256]).size + t1.size + t2.size + t3.size + t4.size) = False := eq_false (by rw [s0]; omega)
  have q5 : (9223372036854775807 < (strOfNums [a0 % 256]).size + t1.size + t2.size + t3.size + t4.size + t5.size) = False := eq_false (by rw [s0]; omega)
  clear hs s0
  go_enter Try.func73, Try.ntmps73
  go_wp2_with fail
  have BK : Hid ((w.alloc (.cells #[.int .i64 a0, .string a1, .string a2, .int .u64 a3, .int .u64 a4, .string a5, .string a6, .bool a7] 47)).heap[w.heap.size]? = some (.cells #[.int .i64 a0, .string a1, .string a2, .int .u64 a3, .int .u64 a4, .string a5, .string a6, .bool a7] 47 (0, 0))) := Lib.hid (heap_alloc_new w _)
  have HB : Hid (Below w.heap.size w (w.alloc (.cells #[.int .i64 a0, .string a1, .string a2, .int .u64 a3, .int .u64 a4, .string a5, .string a6, .bool a7] 47))) := Lib.hid ((Below.refl _ _).alloc (Nat.le_refl _) _)
  have hz : w.heap.size + 1 ≤ (w.alloc (.cells #[.int .i64 a0, .string a1, .string a2, .int .u64 a3, .int .u64 a4, .string a5, .string a6, .bool a7] 47)).heap.size := by simp
  generalize w.alloc (.cells #[.int .i64 a0, .string a1, .string a2, .int .u64 a3, .int .u64 a4, .string a5, .string a6, .bool a7] 47) = W at BK HB hz ⊢
  generalize hg : w.heap.size = g at BK HB hz ⊢
  refine H.wp_region_inv (fun l a W' => ∃ b0 b1 b2 b3 b4 b5 b6 b7 b8 b9 b10 b11 b12 b13 b14 b15 b16 b17 b18 b19 b20 b21 b22 b23 b24 b25 r v3 v4 v5 v6 v7 v8 v9 v10 v11 v12 v13 v14 v15 v16 v17 v18 v19 v20 v21 v22 v23 v24 v25 v26 v27, l = #[b0, b1, b2, b3, b4, b5, b6, b7, b8, b9, b10, b11, b12, b13, b14, b15, b16, b17, b18, b19, b20, b21, b22, b23, b24, b25] ∧ a = fr73 a0 a1 a2 a3 a4 a5 a6 a7 g r v3 v4 v5 v6 v7 v8 v9 v10 v11 v12 v13 v14 v15 v16 v17 v18 v19 v20 v21 v22 v23 v24 v25 v26 v27 ∧ J73 a0 a1 a2 a3 a4 a5 a6 a7 t1 t2 t3 t4 t5 g W b0 b1 b2 b3 b4 b5 b6 b7 b8 b9 b10 b11 b12 b13 b14 b15 b16 b17 b18 b19 b20 b21 b22 b23 b24 b25 r v3 v4 v5 v6 v7 v8 v9 v10 v11 v12 v13 v14 v15 v16 v17 v18 v19 v20 v21 v22 v23 v24 v25 v26 v27 W') (by kernel_rfl) ?_ (H.back_of (by kernel_rfl)) ?_ ?_ ?_
  · rintro l a W' ⟨b0, b1, b2, b3, b4, b5, b6, b7, b8, b9, b10, b11, b12, b13, b14, b15, b16, b17, b18, b19, b20, b21, b22, b23, b24, b25, _, _, _, _, _, _, _, _, _, _, _, _, _, _, _, _, _, _, _, _, _, _, _, _, _, _, rfl, _, _⟩
    rfl
  · rintro l a W' i o ⟨b0, b1, b2, b3, b4, b5, b6, b7, b8, b9, b10, b11, b12, b13, b14, b15, b16, b17, b18, b19, b20, b21, b22, b23, b24, b25, r, v3, v4, v5, v6, v7, v8, v9, v10, v11, v12, v13, v14, v15, v16, v17, v18, v19, v20, v21, v22, v23, v24, v25, v26, v27, rfl, rfl, j⟩ hl ho haf
    have gc : ∀ k v, W.cell? ⟨g, k, none⟩ = some v → W'.cell? ⟨g, k, none⟩ = some v := fun k v h => (World.cell?_of_block (j.hb.block g (Nat.lt_succ_self g))).trans h
    rcases cases26 (by rfl) ho with rfl | rfl | rfl | rfl | rfl | rfl | rfl | rfl | rfl | rfl | rfl | rfl | rfl | rfl | rfl | rfl | rfl | rfl | rfl | rfl | rfl | rfl | rfl | rfl | rfl | rfl
    · refine wpOp_step ho (fun K hK => ?_)
      obtain rfl := Option.some.inj ho
      refine value_ (v := .pointer (some ⟨g, 0, none⟩)) (by rfl) rfl (by unfold fr73; first | (go_simp; done) | (go_simp; rfl)) (hK _ _ ⟨true, b1, b2, b3, b4, b5, b6, b7, b8, b9, b10, b11, b12, b13, b14, b15, b16, b17, b18, b19, b20, b21, b22, b23, b24, b25, r, .pointer (some ⟨g, 0, none⟩), v4, v5, v6, v7, v8, v9, v10, v11, v12, v13, v14, v15, v16, v17, v18, v19, v20, v21, v22, v23, v24, v25, v26, v27, rfl, rfl, { j with f0 := fun _ => rfl }⟩)
    · refine wpOp_step ho (fun K hK => ?_)
      obtain rfl := Option.some.inj ho
      have d0 := j.f0 (haf ⟨0, .data⟩ (by simp) rfl)
      subst d0
      have c := gc 0 _ ((blk_cell BK.out 0).trans rfl)
      refine value_ (v := .int .i64 a0) (by rfl) rfl (by unfold fr73; first | (go_simp; done) | (go_simp; rfl)) (hK _ _ ⟨b0, true, b2, b3, b4, b5, b6, b7, b8, b9, b10, b11, b12, b13, b14, b15, b16, b17, b18, b19, b20, b21, b22, b23, b24, b25, r, .pointer (some ⟨g, 0, none⟩), .int .i64 a0, v5, v6, v7, v8, v9, v10, v11, v12, v13, v14, v15, v16, v17, v18, v19, v20, v21, v22, v23, v24, v25, v26, v27, rfl, rfl, { j with f1 := fun _ => rfl }⟩)
    · refine wpOp_step ho (fun K hK => ?_)
      obtain rfl := Option.some.inj ho
      have d1 := j.f1 (haf ⟨1, .data⟩ (by simp) rfl)
      subst d1
      refine value_ (v := .int .u8 (a0 % 256)) (by rfl) rfl (by unfold fr73; first | (go_simp; done) | (go_simp; rfl)) (hK _ _ ⟨b0, b1, true, b3, b4, b5, b6, b7, b8, b9, b10, b11, b12, b13, b14, b15, b16, b17, b18, b19, b20, b21, b22, b23, b24, b25, r, v3, .int .i64 a0, .int .u8 (a0 % 256), v6, v7, v8, v9, v10, v11, v12, v13, v14, v15, v16, v17, v18, v19, v20, v21, v22, v23, v24, v25, v26, v27, rfl, rfl, { j with f2 := fun _ => rfl }⟩)
    · refine wpOp_step ho (fun K hK => ?_)
      obtain rfl := Option.some.inj ho
      have d2 := j.f2 (haf ⟨2, .data⟩ (by simp) rfl)
      subst d2
      refine value_ (v := .slice (some ⟨W'.heap.size, 0, none⟩) 1 1) (w1 := W'.alloc (.cells #[.int .u8 (a0 % 256)] 5)) (by rfl) rfl (by unfold fr73; first | (go_simp; done) | (go_simp; rfl)) (hK _ _ ⟨b0, b1, b2, true, b4, b5, b6, b7, b8, b9, b10, b11, b12, b13, b14, b15, b16, b17, b18, b19, b20, b21, b22, b23, b24, b25, r, v3, v4, .int .u8 (a0 % 256), .slice (some ⟨W'.heap.size, 0, none⟩) 1 1, v7, v8, v9, v10, v11, v12, v13, v14, v15, v16, v17, v18, v19, v20, v21, v22, v23, v24, v25, v26, v27, rfl, rfl, { j.later (by omega) (below_alloc (Below.refl _ _) _) with f3 := fun _ => ?_ }⟩)
      exact own_lit W' (g + 1) 5 .u8 [a0 % 256] (by have := j.hb.size; omega) (by show (1 : Nat) ≤ 9223372036854775807; decide)
    · refine wpOp_step ho (fun K hK => ?_)
      obtain rfl := Option.some.inj ho
      have d3 := j.f3 (haf ⟨3, .data⟩ (by simp) rfl)
      have c := own_string (P := Try.prog) Try.underlying99 Try.underlying5 Try.underlying9 d3
      refine value_ (v := .string (strOfNums [a0 % 256])) (by rfl) rfl (by unfold fr73; first | (go_simp; done) | (go_simp; rfl)) (hK _ _ ⟨b0, b1, b2, b3, true, b5, b6, b7, b8, b9, b10, b11, b12, b13, b14, b15, b16, b17, b18, b19, b20, b21, b22, b23, b24, b25, r, v3, v4, v5, v6, .string (strOfNums [a0 % 256]), v8, v9, v10, v11, v12, v13, v14, v15, v16, v17, v18, v19, v20, v21, v22, v23, v24, v25, v26, v27, rfl, rfl, { j with f4 := fun _ => rfl }⟩)
    · refine wpOp_step ho (fun K hK => ?_)
      obtain rfl := Option.some.inj ho
      refine value_ (v := .pointer (some ⟨g, 1, none⟩)) (by rfl) rfl (by unfold fr73; first | (go_simp; done) | (go_simp; rfl)) (hK _ _ ⟨b0, b1, b2, b3, b4, true, b6, b7, b8, b9, b10, b11, b12, b13, b14, b15, b16, b17, b18, b19, b20, b21, b22, b23, b24, b25, r, v3, v4, v5, v6, v7, .pointer (some ⟨g, 1, none⟩), v9, v10, v11, v12, v13, v14, v15, v16, v17, v18, v19, v20, v21, v22, v23, v24, v25, v26, v27, rfl, rfl, { j with f5 := fun _ => rfl }⟩)
    · refine wpOp_step ho (fun K hK => ?_)
      obtain rfl := Option.some.inj ho
      have d5 := j.f5 (haf ⟨5, .data⟩ (by simp) rfl)
      subst d5
      have c := gc 1 _ ((blk_cell BK.out 1).trans rfl)
      refine value_ (v := .string a1) (by rfl) rfl (by unfold fr73; first | (go_simp; done) | (go_simp; rfl)) (hK _ _ ⟨b0, b1, b2, b3, b4, b5, true, b7, b8, b9, b10, b11, b12, b13, b14, b15, b16, b17, b18, b19, b20, b21, b22, b23, b24, b25, r, v3, v4, v5, v6, v7, .pointer (some ⟨g, 1, none⟩), .string a1, v10, v11, v12, v13, v14, v15, v16, v17, v18, v19, v20, v21, v22, v23, v24, v25, v26, v27, rfl, rfl, { j with f6 := fun _ => rfl }⟩)
    · refine wpOp_step ho (fun K hK => ?_)
      obtain rfl := Option.some.inj ho
      have d6 := j.f6 (haf ⟨6, .data⟩ (by simp) rfl)
      subst d6
      refine goes_ Try.func46 (by kernel_rfl) rfl #[.string a1] (by rfl) rfl rfl (by simp only [List.map_toArray, List.map_cons, List.map_nil]; rfl) ?_
      refine (H1.out W').mono ?_
      rintro e W'' ⟨rfl, hb⟩
      exact ⟨_, rfl, hK _ _ ⟨b0, b1, b2, b3, b4, b5, b6, true, b8, b9, b10, b11, b12, b13, b14, b15, b16, b17, b18, b19, b20, b21, b22, b23, b24, b25, r, v3, v4, v5, v6, v7, v8, .string a1, .string t1, v11, v12, v13, v14, v15, v16, v17, v18, v19, v20, v21, v22, v23, v24, v25, v26, v27, rfl, rfl, { j.later (by omega) hb with f7 := fun _ => rfl }⟩⟩
    · refine wpOp_step ho (fun K hK => ?_)
      obtain rfl := Option.some.inj ho
      have d4 := j.f4 (haf ⟨4, .data⟩ (by simp) rfl)
      have d7 := j.f7 (haf ⟨7, .data⟩ (by simp) rfl)
      subst d4; subst d7
      refine value_ (v := .string ((strOfNums [a0 % 256]) ++ t1)) (by rfl) rfl (by unfold fr73; first | (go_simp; done) | (go_simp; rfl)) (hK _ _ ⟨b0, b1, b2, b3, b4, b5, b6, b7, true, b9, b10, b11, b12, b13, b14, b15, b16, b17, b18, b19, b20, b21, b22, b23, b24, b25, r, v3, v4, v5, v6, .string (strOfNums [a0 % 256]), v8, v9, .string t1, .string ((strOfNums [a0 % 256]) ++ t1), v12, v13, v14, v15, v16, v17, v18, v19, v20, v21, v22, v23, v24, v25, v26, v27, rfl, rfl, { j with f8 := fun _ => rfl }⟩)
    · refine wpOp_step ho (fun K hK => ?_)
      obtain rfl := Option.some.inj ho
      refine value_ (v := .pointer (some ⟨g, 2, none⟩)) (by rfl) rfl (by unfold fr73; first | (go_simp; done) | (go_simp; rfl)) (hK _ _ ⟨b0, b1, b2, b3, b4, b5, b6, b7, b8, true, b10, b11, b12, b13, b14, b15, b16, b17, b18, b19, b20, b21, b22, b23, b24, b25, r, v3, v4, v5, v6, v7, v8, v9, v10, v11, .pointer (some ⟨g, 2, none⟩), v13, v14, v15, v16, v17, v18, v19, v20, v21, v22, v23, v24, v25, v26, v27, rfl, rfl, { j with f9 := fun _ => rfl }⟩)
    · refine wpOp_step ho (fun K hK => ?_)
      obtain rfl := Option.some.inj ho
      have d9 := j.f9 (haf ⟨9, .data⟩ (by simp) rfl)
      subst d9
      have c := gc 2 _ ((blk_cell BK.out 2).trans rfl)
      refine value_ (v := .string a2) (by rfl) rfl (by unfold fr73; first | (go_simp; done) | (go_simp; rfl)) (hK _ _ ⟨b0, b1, b2, b3, b4, b5, b6, b7, b8, b9, true, b11, b12, b13, b14, b15, b16, b17, b18, b19, b20, b21, b22, b23, b24, b25, r, v3, v4, v5, v6, v7, v8, v9, v10, v11, .pointer (some ⟨g, 2, none⟩), .string a2, v14, v15, v16, v17, v18, v19, v20, v21, v22, v23, v24, v25, v26, v27, rfl, rfl, { j with f10 := fun _ => rfl }⟩)
    · refine wpOp_step ho (fun K hK => ?_)
      obtain rfl := Option.some.inj ho
      have d10 := j.f10 (haf ⟨10, .data⟩ (by simp) rfl)
      subst d10
      refine goes_ Try.func46 (by kernel_rfl) rfl #[.string a2] (by rfl) rfl rfl (by simp only [List.map_toArray, List.map_cons, List.map_nil]; rfl) ?_
      refine (H2.out W').mono ?_
      rintro e W'' ⟨rfl, hb⟩
      exact ⟨_, rfl, hK _ _ ⟨b0, b1, b2, b3, b4, b5, b6, b7, b8, b9, b10, true, b12, b13, b14, b15, b16, b17, b18, b19, b20, b21, b22, b23, b24, b25, r, v3, v4, v5, v6, v7, v8, v9, v10, v11, v12, .string a2, .string t2, v15, v16, v17, v18, v19, v20, v21, v22, v23, v24, v25, v26, v27, rfl, rfl, { j.later (by omega) hb with f11 := fun _ => rfl }⟩⟩
    · refine wpOp_step ho (fun K hK => ?_)
      obtain rfl := Option.some.inj ho
      have d8 := j.f8 (haf ⟨8, .data⟩ (by simp) rfl)
      have d11 := j.f11 (haf ⟨11, .data⟩ (by simp) rfl)
      subst d8; subst d11
      refine value_ (v := .string (((strOfNums [a0 % 256]) ++ t1) ++ t2)) (by rfl) rfl (by unfold fr73; first | (go_simp; done) | (go_simp; rfl)) (hK _ _ ⟨b0, b1, b2, b3, b4, b5, b6, b7, b8, b9, b10, b11, true, b13, b14, b15, b16, b17, b18, b19, b20, b21, b22, b23, b24, b25, r, v3, v4, v5, v6, v7, v8, v9, v10, .string ((strOfNums [a0 % 256]) ++ t1), v12, v13, .string t2, .string (((strOfNums [a0 % 256]) ++ t1) ++ t2), v16, v17, v18, v19, v20, v21, v22, v23, v24, v25, v26, v27, rfl, rfl, { j with f12 := fun _ => rfl }⟩)
    · refine wpOp_step ho (fun K hK => ?_)
      obtain rfl := Option.some.inj ho
      refine value_ (v := .pointer (some ⟨g, 3, none⟩)) (by rfl) rfl (by unfold fr73; first | (go_simp; done) | (go_simp; rfl)) (hK _ _ ⟨b0, b1, b2, b3, b4, b5, b6, b7, b8, b9, b10, b11, b12, true, b14, b15, b16, b17, b18, b19, b20, b21, b22, b23, b24, b25, r, v3, v4, v5, v6, v7, v8, v9, v10, v11, v12, v13, v14, v15, .pointer (some ⟨g, 3, none⟩), v17, v18, v19, v20, v21, v22, v23, v24, v25, v26, v27, rfl, rfl, { j with f13 := fun _ => rfl }⟩)
    · refine wpOp_step ho (fun K hK => ?_)
      obtain rfl := Option.some.inj ho
      have d13 := j.f13 (haf ⟨13, .data⟩ (by simp) rfl)
      subst d13
      have c := gc 3 _ ((blk_cell BK.out 3).trans rfl)
      refine value_ (v := .int .u64 a3) (by rfl) rfl (by unfold fr73; first | (go_simp; done) | (go_simp; rfl)) (hK _ _ ⟨b0, b1, b2, b3, b4, b5, b6, b7, b8, b9, b10, b11, b12, b13, true, b15, b16, b17, b18, b19, b20, b21, b22, b23, b24, b25, r, v3, v4, v5, v6, v7, v8, v9, v10, v11, v12, v13, v14, v15, .pointer (some ⟨g, 3, none⟩), .int .u64 a3, v18, v19, v20, v21, v22, v23, v24, v25, v26, v27, rfl, rfl, { j with f14 := fun _ => rfl }⟩)
    · refine wpOp_step ho (fun K hK => ?_)
      obtain rfl := Option.some.inj ho
      have d14 := j.f14 (haf ⟨14, .data⟩ (by simp) rfl)
      subst d14
      refine goes_ Try.func45 (by kernel_rfl) rfl #[.int .u64 a3] (by rfl) rfl rfl (by simp only [List.map_toArray, List.map_cons, List.map_nil]; rfl) ?_
      refine (H3.out W').mono ?_
      rintro e W'' ⟨rfl, hb⟩
      exact ⟨_, rfl, hK _ _ ⟨b0, b1, b2, b3, b4, b5, b6, b7, b8, b9, b10, b11, b12, b13, b14, true, b16, b17, b18, b19, b20, b21, b22, b23, b24, b25, r, v3, v4, v5, v6, v7, v8, v9, v10, v11, v12, v13, v14, v15, v16, .int .u64 a3, .string t3, v19, v20, v21, v22, v23, v24, v25, v26, v27, rfl, rfl, { j.later (by omega) hb with f15 := fun _ => rfl }⟩⟩
    · refine wpOp_step ho (fun K hK => ?_)
      obtain rfl := Option.some.inj ho
      have d12 := j.f12 (haf ⟨12, .data⟩ (by simp) rfl)
      have d15 := j.f15 (haf ⟨15, .data⟩ (by simp) rfl)
      subst d12; subst d15
      refine value_ (v := .string ((((strOfNums [a0 % 256]) ++ t1) ++ t2) ++ t3)) (by rfl) rfl (by unfold fr73; first | (go_simp; done) | (go_simp; rfl)) (hK _ _ ⟨b0, b1, b2, b3, b4, b5, b6, b7, b8, b9, b10, b11, b12, b13, b14, b15, true, b17, b18, b19, b20, b21, b22, b23, b24, b25, r, v3, v4, v5, v6, v7, v8, v9, v10, v11, v12, v13, v14, .string (((strOfNums [a0 % 256]) ++ t1) ++ t2), v16, v17, .string t3, .string ((((strOfNums [a0 % 256]) ++ t1) ++ t2) ++ t3), v20, v21, v22, v23, v24, v25, v26, v27, rfl, rfl, { j with f16 := fun _ => rfl }⟩)
    · refine wpOp_step ho (fun K hK => ?_)
      obtain rfl := Option.some.inj ho
      refine value_ (v := .pointer (some ⟨g, 4, none⟩)) (by rfl) rfl (by unfold fr73; first | (go_simp; done) | (go_simp; rfl)) (hK _ _ ⟨b0, b1, b2, b3, b4, b5, b6, b7, b8, b9, b10, b11, b12, b13, b14, b15, b16, true, b18, b19, b20, b21, b22, b23, b24, b25, r, v3, v4, v5, v6, v7, v8, v9, v10, v11, v12, v13, v14, v15, v16, v17, v18, v19, .pointer (some ⟨g, 4, none⟩), v21, v22, v23, v24, v25, v26, v27, rfl, rfl, { j with f17 := fun _ => rfl }⟩)
    · refine wpOp_step ho (fun K hK => ?_)
      obtain rfl := Option.some.inj ho
      have d17 := j.f17 (haf ⟨17, .data⟩ (by simp) rfl)
      subst d17
      have c := gc 4 _ ((blk_cell BK.out 4).trans rfl)
      refine value_ (v := .int .u64 a4) (by rfl) rfl (by unfold fr73; first | (go_simp; done) | (go_simp; rfl)) (hK _ _ ⟨b0, b1, b2, b3, b4, b5, b6, b7, b8, b9, b10, b11, b12, b13, b14, b15, b16, b17, true, b19, b20, b21, b22, b23, b24, b25, r, v3, v4, v5, v6, v7, v8, v9, v10, v11, v12, v13, v14, v15, v16, v17, v18, v19, .pointer (some ⟨g, 4, none⟩), .int .u64 a4, v22, v23, v24, v25, v26, v27, rfl, rfl, { j with f18 := fun _ => rfl }⟩)
    · refine wpOp_step ho (fun K hK => ?_)
      obtain rfl := Option.some.inj ho
      have d18 := j.f18 (haf ⟨18, .data⟩ (by simp) rfl)
      subst d18
      refine goes_ Try.func45 (by kernel_rfl) rfl #[.int .u64 a4] (by rfl) rfl rfl (by simp only [List.map_toArray, List.map_cons, List.map_nil]; rfl) ?_
      refine (H4.out W').mono ?_
      rintro e W'' ⟨rfl, hb⟩
      exact ⟨_, rfl, hK _ _ ⟨b0, b1, b2, b3, b4, b5, b6, b7, b8, b9, b10, b11, b12, b13, b14, b15, b16, b17, b18, true, b20, b21, b22, b23, b24, b25, r, v3, v4, v5, v6, v7, v8, v9, v10, v11, v12, v13, v14, v15, v16, v17, v18, v19, v20, .int .u64 a4, .string t4, v23, v24, v25, v26, v27, rfl, rfl, { j.later (by omega) hb with f19 := fun _ => rfl }⟩⟩
    · refine wpOp_step ho (fun K hK => ?_)
      obtain rfl := Option.some.inj ho
      have d16 := j.f16 (haf ⟨16, .data⟩ (by simp) rfl)
      have d19 := j.f19 (haf ⟨19, .data⟩ (by simp) rfl)
      subst d16; subst d19
      refine value_ (v := .string (((((strOfNums [a0 % 256]) ++ t1) ++ t2) ++ t3) ++ t4)) (by rfl) rfl (by unfold fr73; first | (go_simp; done) | (go_simp; rfl)) (hK _ _ ⟨b0, b1, b2, b3, b4, b5, b6, b7, b8, b9, b10, b11, b12, b13, b14, b15, b16, b17, b18, b19, true, b21, b22, b23, b24, b25, r, v3, v4, v5, v6, v7, v8, v9, v10, v11, v12, v13, v14, v15, v16, v17, v18, .string ((((strOfNums [a0 % 256]) ++ t1) ++ t2) ++ t3), v20, v21, .string t4, .string (((((strOfNums [a0 % 256]) ++ t1) ++ t2) ++ t3) ++ t4), v24, v25, v26, v27, rfl, rfl, { j with f20 := fun _ => rfl }⟩)
    · refine wpOp_step ho (fun K hK => ?_)
      obtain rfl := Option.some.inj ho
      refine value_ (v := .pointer (some ⟨g, 5, none⟩)) (by rfl) rfl (by unfold fr73; first | (go_simp; done) | (go_simp; rfl)) (hK _ _ ⟨b0, b1, b2, b3, b4, b5, b6, b7, b8, b9, b10, b11, b12, b13, b14, b15, b16, b17, b18, b19, b20, true, b22, b23, b24, b25, r, v3, v4, v5, v6, v7, v8, v9, v10, v11, v12, v13, v14, v15, v16, v17, v18, v19, v20, v21, v22, v23, .pointer (some ⟨g, 5, none⟩), v25, v26, v27, rfl, rfl, { j with f21 := fun _ => rfl }⟩)
    · refine wpOp_step ho (fun K hK => ?_)
      obtain rfl := Option.some.inj ho
      have d21 := j.f21 (haf ⟨21, .data⟩ (by simp) rfl)
      subst d21
      have c := gc 5 _ ((blk_cell BK.out 5).trans rfl)
      refine value_ (v := .string a5) (by rfl) rfl (by unfold fr73; first | (go_simp; done) | (go_simp; rfl)) (hK _ _ ⟨b0, b1, b2, b3, b4, b5, b6, b7, b8, b9, b10, b11, b12, b13, b14, b15, b16, b17, b18, b19, b20, b21, true, b23, b24, b25, r, v3, v4, v5, v6, v7, v8, v9, v10, v11, v12, v13, v14, v15, v16, v17, v18, v19, v20, v21, v22, v23, .pointer (some ⟨g, 5, none⟩), .string a5, v26, v27, rfl, rfl, { j with f22 := fun _ => rfl }⟩)
    · refine wpOp_step ho (fun K hK => ?_)
      obtain rfl := Option.some.inj ho
      have d22 := j.f22 (haf ⟨22, .data⟩ (by simp) rfl)
      subst d22
      refine goes_ Try.func46 (by kernel_rfl) rfl #[.string a5] (by rfl) rfl rfl (by simp only [List.map_toArray, List.map_cons, List.map_nil]; rfl) ?_
      refine (H5.out W').mono ?_
      rintro e W'' ⟨rfl, hb⟩
      exact ⟨_, rfl, hK _ _ ⟨b0, b1, b2, b3, b4, b5, b6, b7, b8, b9, b10, b11, b12, b13, b14, b15, b16, b17, b18, b19, b20, b21, b22, true, b24, b25, r, v3, v4, v5, v6, v7, v8, v9, v10, v11, v12, v13, v14, v15, v16, v17, v18, v19, v20, v21, v22, v23, v24, .string a5, .string t5, v27, rfl, rfl, { j.later (by omega) hb with f23 := fun _ => rfl }⟩⟩
    · refine wpOp_step ho (fun K hK => ?_)
      obtain rfl := Option.some.inj ho
      have d20 := j.f20 (haf ⟨20, .data⟩ (by simp) rfl)
      have d23 := j.f23 (haf ⟨23, .data⟩ (by simp) rfl)
      subst d20; subst d23
      refine value_ (v := .string ((((((strOfNums [a0 % 256]) ++ t1) ++ t2) ++ t3) ++ t4) ++ t5)) (by rfl) rfl (by unfold fr73; first | (go_simp; done) | (go_simp; rfl)) (hK _ _ ⟨b0, b1, b2, b3, b4, b5, b6, b7, b8, b9, b10, b11, b12, b13, b14, b15, b16, b17, b18, b19, b20, b21, b22, b23, true, b25, r, v3, v4, v5, v6, v7, v8, v9, v10, v11, v12, v13, v14, v15, v16, v17, v18, v19, v20, v21, v22, .string (((((strOfNums [a0 % 256]) ++ t1) ++ t2) ++ t3) ++ t4), v24, v25, .string t5, .string ((((((strOfNums [a0 % 256]) ++ t1) ++ t2) ++ t3) ++ t4) ++ t5), rfl, rfl, { j with f24 := fun _ => rfl }⟩)
    · refine wpOp_step ho (fun K hK => ?_)
      obtain rfl := Option.some.inj ho
      have d24 := j.f24 (haf ⟨24, .data⟩ (by simp) rfl)
      subst d24
      refine value_ (v := .string ((((((strOfNums [a0 % 256]) ++ t1) ++ t2) ++ t3) ++ t4) ++ t5)) (by rfl) rfl (by unfold fr73; first | (go_simp; done) | (go_simp; rfl)) (hK _ _ ⟨b0, b1, b2, b3, b4, b5, b6, b7, b8, b9, b10, b11, b12, b13, b14, b15, b16, b17, b18, b19, b20, b21, b22, b23, b24, true, .string ((((((strOfNums [a0 % 256]) ++ t1) ++ t2) ++ t3) ++ t4) ++ t5), v3, v4, v5, v6, v7, v8, v9, v10, v11, v12, v13, v14, v15, v16, v17, v18, v19, v20, v21, v22, v23, v24, v25, v26, .string ((((((strOfNums [a0 % 256]) ++ t1) ++ t2) ++ t3) ++ t4) ++ t5), rfl, rfl, { j with f25 := fun _ => rfl }⟩)
  · exact ⟨false, false, false, false, false, false, false, false, false, false, false, false, false, false, false, false, false, false, false, false, false, false, false, false, false, false, .string ⟨#[]⟩, undef, undef, undef, undef, undef, undef, undef, undef, undef, undef, undef, undef, undef, undef, undef, undef, undef, undef, undef, undef, undef, undef, undef, undef, undef, rfl, rfl, { hb := below_drew (Below.refl _ _), f0 := fun h => (by cases h), f1 := fun h => (by cases h), f2 := fun h => (by cases h), f3 := fun h => (by cases h), f4 := fun h => (by cases h), f5 := fun h => (by cases h), f6 := fun h => (by cases h), f7 := fun h => (by cases h), f8 := fun h => (by cases h), f9 := fun h => (by cases h), f10 := fun h => (by cases h), f11 := fun h => (by cases h), f12 := fun h => (by cases h), f13 := fun h => (by cases h), f14 := fun h => (by cases h), f15 := fun h => (by cases h), f16 := fun h => (by cases h), f17 := fun h => (by cases h), f18 := fun h => (by cases h), f19 := fun h => (by cases h), f20 := fun h => (by cases h), f21 := fun h => (by cases h), f22 := fun h => (by cases h), f23 := fun h => (by cases h), f24 := fun h => (by cases h), f25 := fun h => (by cases h) }⟩
  · rintro l a W' ⟨b0, b1, b2, b3, b4, b5, b6, b7, b8, b9, b10, b11, b12, b13, b14, b15, b16, b17, b18, b19, b20, b21, b22, b23, b24, b25, r, v3, v4, v5, v6, v7, v8, v9, v10, v11, v12, v13, v14, v15, v16, v17, v18, v19, v20, v21, v22, v23, v24, v25, v26, v27, rfl, rfl, j⟩ hall
    obtain rfl := j.f25 (hall 25 (by decide))
    go_wp2
    unfold fr73
    go_ret
    exact ⟨rfl, by rw [hg]; exact HB.out.trans (j.hb.mono (by omega))⟩
structure J36 (a0 : Int) (a1 a2 : ByteArray) (a3 a4 : Int) (a5 a6 : ByteArray) (a7 : Bool) (t1 t2 t3 t4 t5 : ByteArray) (g : Nat) (W : World) (b0 b1 b2 b3 b4 b5 b6 b7 b8 b9 b10 b11 b12 b13 b14 b15 b16 b17 b18 b19 b20 b21 b22 b23 b24 b25 : Bool) (r v3 v4 v5 v6 v7 v8 v9 v10 v11 v12 v13 v14 v15 v16 v17 v18 v19 v20 v21 v22 v23 v24 v25 v26 v27 : Value) (W' : World) : Prop where
  hb : Below (g + 1) W W'
  f0 : b0 = true → v3 = .pointer (some ⟨g, 0, none⟩)
  f1 : b1 = true → v4 = .int .i64 a0
  f2 : b2 = true → v5 = .int .u8 (a0 % 256)
  f3 : b3 = true → W'.ownsRow (g + 1) 5 1 v6 1 (nums .u8 [a0 % 256])
  f4 : b4 = true → v7 = .string (strOfNums [a0 % 256])
  f5 : b5 = true → v8 = .pointer (some ⟨g, 1, none⟩)
  f6 : b6 = true → v9 = .string a1
  f7 : b7 = true → v10 = .string t1
  f8 : b8 = true → v11 = .string ((strOfNums [a0 % 256]) ++ t1)
  f9 : b9 = true → v12 = .pointer (some ⟨g, 2, none⟩)
  f10 : b10 = true → v13 = .string a2
  f11 : b11 = true → v14 = .string t2
  f12 : b12 = true → v15 = .string (((strOfNums [a0 % 256]) ++ t1) ++ t2)
  f13 : b13 = true → v16 = .pointer (some ⟨g, 3, none⟩)
  f14 : b14 = true → v17 = .int .u64 a3
  f15 : b15 = true → v18 = .string t3
  f16 : b16 = true → v19 = .string ((((strOfNums [a0 % 256]) ++ t1) ++ t2) ++ t3)
  f17 : b17 = true → v20 = .pointer (some ⟨g, 4, none⟩)
  f18 : b18 = true → v21 = .int .u64 a4
  f19 : b19 = true → v22 = .string t4
  f20 : b20 = true → v23 = .string (((((strOfNums [a0 % 256]) ++ t1) ++ t2) ++ t3) ++ t4)
  f21 : b21 = true → v24 = .pointer (some ⟨g, 5, none⟩)
  f22 : b22 = true → v25 = .string a5
  f23 : b23 = true → v26 = .string t5
  f24 : b24 = true → v27 = .string ((((((strOfNums [a0 % 256]) ++ t1) ++ t2) ++ t3) ++ t4) ++ t5)
  f25 : b25 = true → r = .string ((((((strOfNums [a0 % 256]) ++ t1) ++ t2) ++ t3) ++ t4) ++ t5)
theorem J36.later {a0 : Int} {a1 a2 : ByteArray} {a3 a4 : Int} {a5 a6 : ByteArray} {a7 : Bool} {t1 t2 t3 t4 t5 : ByteArray} {g : Nat} {W W' W'' : World} {b0 b1 b2 b3 b4 b5 b6 b7 b8 b9 b10 b11 b12 b13 b14 b15 b16 b17 b18 b19 b20 b21 b22 b23 b24 b25 : Bool} {r v3 v4 v5 v6 v7 v8 v9 v10 v11 v12 v13 v14 v15 v16 v17 v18 v19 v20 v21 v22 v23 v24 v25 v26 v27 : Value} (j : J36 a0 a1 a2 a3 a4 a5 a6 a7 t1 t2 t3 t4 t5 g W b0 b1 b2 b3 b4 b5 b6 b7 b8 b9 b10 b11 b12 b13 b14 b15 b16 b17 b18 b19 b20 b21 b22 b23 b24 b25 r v3 v4 v5 v6 v7 v8 v9 v10 v11 v12 v13 v14 v15 v16 v17 v18 v19 v20 v21 v22 v23 v24 v25 v26 v27 W') (hz : g + 1 ≤ W.heap.size) (hb : Below W'.heap.size W' W'') : J36 a0 a1 a2 a3 a4 a5 a6 a7 t1 t2 t3 t4 t5 g W b0 b1 b2 b3 b4 b5 b6 b7 b8 b9 b10 b11 b12 b13 b14 b15 b16 b17 b18 b19 b20 b21 b22 b23 b24 b25 r v3 v4 v5 v6 v7 v8 v9 v10 v11 v12 v13 v14 v15 v16 v17 v18 v19 v20 v21 v22 v23 v24 v25 v26 v27 W'' :=
  { j with hb := below_then j.hb (Nat.le_trans hz j.hb.size) hb, f3 := fun k => pw_own_below (j.f3 k) hb }
end Go.Proofs.Ytdcbacbilncnnaa.Mw
end
section
namespace Go.Proofs.Ytdcbacbilncnnaa.PMk
open Go.RowKit Go.Proofs.YtdcbacbilncnnaaW.PrintWords Go.Proofs.YtdcbacbilncnnaaW.PrintLast Go.Proofs.YtdcbacbilncnnaaW.PrintMore
attribute [local go_sem] max2_int min2_int max_two min_two max_three min_three max_four min_four   -- for this text's walks alone
set_option linter.unusedVariables false
set_option linter.unusedSimpArgs false
/-! ### block_meta: function 73 -/
def block_meta.f (k : Nat) (a0_0 : Int) (a0_1 : ByteArray) (a0_2 : ByteArray) (a0_3 : Int) (a0_4 : Int) (a0_5 : ByteArray) (a0_6 : ByteArray) (a0_7 : Bool) : Option (ByteArray) := (some (([(a0_0) % 256] : List Int) : List Int)).bind fun y131 => ((enc_Text.f k a0_1).bind fun t134 => (if (strOfNums y131).size + t134.size ≤ 9223372036854775807 then ((enc_Text.f k a0_2).bind fun t135 => (if ((strOfNums y131) ++ t134).size + t135.size ≤ 9223372036854775807 then ((enc_Uint.f k a0_3).bind fun t136 => (if (((strOfNums y131) ++ t134) ++ t135).size + t136.size ≤ 9223372036854775807 then ((enc_Uint.f k a0_4).bind fun t137 => (if ((((strOfNums y131) ++ t134) ++ t135) ++ t136).size + t137.size ≤ 9223372036854775807 then ((enc_Text.f k a0_5).bind fun t138 => (if (((((strOfNums y131) ++ t134) ++ t135) ++ t136) ++ t137).size + t138.size ≤ 9223372036854775807 then (some ((((((strOfNums y131) ++ t134) ++ t135) ++ t136) ++ t137) ++ t138)) else (none))) else (none))) else (none))) else (none))) else (none)))
theorem block_meta.calls (k : Nat) (a0_0 : Int) (a0_1 : ByteArray) (a0_2 : ByteArray) (a0_3 : Int) (a0_4 : Int) (a0_5 : ByteArray) (a0_6 : ByteArray) (a0_7 : Bool) (r : ByteArray) (w : World) (h : block_meta.f k a0_0 a0_1 a0_2 a0_3 a0_4 a0_5 a0_6 a0_7 = some r) :
  Calls Try.prog 73 #[.agg #[.int .i64 a0_0, .string a0_1, .string a0_2, .int .u64 a0_3, .int .u64 a0_4, .string a0_5, .string a0_6, .bool a0_7]] w fun e w' => e = .returned (.string r) ∧ Below w.heap.size w w' := by
 simp only [block_meta.f, Option.bind_some] at h
 obtain ⟨t1, e1, h⟩ := Option.bind_eq_some_iff.mp h
 have c1 : ¬ ¬ _ := fun c => by rw [if_neg c] at h; cases h
 rw [if_pos (Classical.not_not.1 c1)] at h
 obtain ⟨t2, e2, h⟩ := Option.bind_eq_some_iff.mp h
 have c2 : ¬ ¬ _ := fun c => by rw [if_neg c] at h; cases h
 rw [if_pos (Classical.not_not.1 c2)] at h
 obtain ⟨t3, e3, h⟩ := Option.bind_eq_some_iff.mp h
 have c3 : ¬ ¬ _ := fun c => by rw [if_neg c] at h; cases h
 rw [if_pos (Classical.not_not.1 c3)] at h
 obtain ⟨t4, e4, h⟩ := Option.bind_eq_some_iff.mp h
 have c4 : ¬ ¬ _ := fun c => by rw [if_neg c] at h; cases h
 rw [if_pos (Classical.not_not.1 c4)] at h
 obtain ⟨t5, e5, h⟩ := Option.bind_eq_some_iff.mp h
 have c5 : ¬ ¬ _ := fun c => by rw [if_neg c] at h; cases h
 rw [if_pos (Classical.not_not.1 c5)] at h
 obtain rfl := Option.some.inj h
 have c := Classical.not_not.1 c5
 simp only [ByteArray.size_append] at c
 exact Mw.meta73 a0_0 a0_1 a0_2 a0_3 a0_4 a0_5 a0_6 a0_7 t1 t2 t3 t4 t5 w (Lib.hid fun w => enc_Text.calls k a0_1 _ w e1) (Lib.hid fun w => enc_Text.calls k a0_2 _ w e2) (Lib.hid fun w => enc_Uint.calls k a0_3 _ w e3) (Lib.hid fun w => enc_Uint.calls k a0_4 _ w e4) (Lib.hid fun w => enc_Text.calls k a0_5 _ w e5) c
end Go.Proofs.Ytdcbacbilncnnaa.PMk
end
section
namespace Go.Proofs.Ytdcbacbilncnnaa.PMk
open Go.RowKit Go.Proofs.YtdcbacbilncnnaaW.PrintWords Go.Proofs.YtdcbacbilncnnaaW.PrintLast Go.Proofs.YtdcbacbilncnnaaW.PrintMore
attribute [local go_sem] max2_int min2_int max_two min_two max_three min_three max_four min_four   -- for this text's walks alone
set_option linter.unusedVariables false
set_option linter.unusedSimpArgs false
/-! ### block_Frame: function 34 -/
def block_Frame.l0 : Nat → ByteArray → List (S47) → Int → Int → Option (ByteArray)
 | 0, _, _, _, _ => none
 | k + 1, x3, x24, x25, x26 => if x26 < x25 then (if 0 ≤ x26 then (if x26 < (x24.length : Int) then ((block_meta.f k ((rd_T47 x24 x26).f0) ((rd_T47 x24 x26).f1) ((rd_T47 x24 x26).f2) ((rd_T47 x24 x26).f3) ((rd_T47 x24 x26).f4) ((rd_T47 x24 x26).f5) ((rd_T47 x24 x26).f6) ((rd_T47 x24 x26).f7)).bind fun t478 => (if x3.size + t478.size ≤ 9223372036854775807 then (block_Frame.l0 k (x3 ++ t478) x24 x25 (wrap64 (x26 + 1))) else (none))) else (none)) else (none)) else (some x3)
def block_Frame.f (k : Nat) (a0_0 : Int) (a0_1 : ByteArray) (a0_2 : Int) (l0_3 : List (S47)) : Option (ByteArray) := (enc_Uint.f k a0_0).bind fun t472 => ((enc_Text.f k a0_1).bind fun t473 => (if t472.size + t473.size ≤ 9223372036854775807 then ((enc_Uint.f k a0_2).bind fun t474 => (if (t472 ++ t473).size + t474.size ≤ 9223372036854775807 then ((enc_Uint.f k (IntKind.u64.wrap ((l0_3.length : Int)))).bind fun t475 => (if ((t472 ++ t473) ++ t474).size + t475.size ≤ 9223372036854775807 then (block_Frame.l0 k (((t472 ++ t473) ++ t474) ++ t475) l0_3 (l0_3.length : Int) 0) else (none))) else (none))) else (none)))
def block_Frame.T1 : Bool × List (List Nat × List Nat) := (true, [([], []), ([0], [0]), ([1], [1]), ([], []), ([3], [3]), ([4, 2], [4]), ([2, 5], [2, 5]), ([], []), ([7], [7]), ([8, 5], [8]), ([6, 9], [6, 9]), ([], []), ([11], [11]), ([12], [12]), ([13], [13]), ([14, 9], [14]), ([10, 15], [10, 15]), ([16, 15, 0, 1, 2, 3, 4, 5, 6, 7, 8, 9, 10, 11, 12, 13, 14, 15, 16], [16])])
def block_Frame.B1 : List Nat := [0, 1, 3, 0, 8, 31, 63, 0, 128, 447, 1023, 0, 2048, 6144, 14336, 31679, 65535, 131071]
theorem block_Frame.tab1 : rtab .any (opsOf Try.f34 1) = block_Frame.T1 := by kernel_rfl
theorem block_Frame.bits1 : waitsOk block_Frame.T1.2 block_Frame.B1 = true := by kernel_rfl
set_option maxHeartbeats 8000000 in
set_option maxRecDepth 100000 in
theorem block_Frame.calls (k : Nat) (a0_0 : Int) (a0_1 : ByteArray) (a0_2 : Int) (A0_3 : Option Addr) (c0_3 : Nat) (l0_3 : List (S47)) (r : ByteArray) (w : World) (hr0_3 : Kd.C k47 w A0_3 l0_3.length l0_3) (hc0_3 : l0_3.length ≤ c0_3) (h : block_Frame.f k a0_0 a0_1 a0_2 l0_3 = some r) :
  Calls Try.prog 34 #[.agg #[.int .u64 a0_0, .string a0_1, .int .u64 a0_2, .slice A0_3 l0_3.length c0_3]] w fun e w' => e = .returned (.string r) ∧ Below w.heap.size w w' := by
 have hu25 := Try.underlying25
 have hu47 := Try.underlying47
 have HR0_3 := Aside0.mk hr0_3
 have HC0_3 := Aside0.mk hc0_3
 clear hr0_3 hc0_3
 have HB := Aside0.mk (Below.refl w.heap.size w)
 have H : ((enc_Uint.f k a0_0).bind fun t472 => ((enc_Text.f k a0_1).bind fun t473 => (if t472.size + t473.size ≤ 9223372036854775807 then ((enc_Uint.f k a0_2).bind fun t474 => (if (t472 ++ t473).size + t474.size ≤ 9223372036854775807 then ((enc_Uint.f k (IntKind.u64.wrap ((l0_3.length : Int)))).bind fun t475 => (if ((t472 ++ t473) ++ t474).size + t475.size ≤ 9223372036854775807 then (block_Frame.l0 k (((t472 ++ t473) ++ t474) ++ t475) l0_3 (l0_3.length : Int) 0) else (none))) else (none))) else (none)))) = some r := h
 clear h
 replace H := Option.bind_eq_some_iff.mp H
 obtain ⟨t472, A20, H⟩ := H
 replace H : ((enc_Text.f k a0_1).bind fun t473 => (if t472.size + t473.size ≤ 9223372036854775807 then ((enc_Uint.f k a0_2).bind fun t474 => (if (t472 ++ t473).size + t474.size ≤ 9223372036854775807 then ((enc_Uint.f k (IntKind.u64.wrap ((l0_3.length : Int)))).bind fun t475 => (if ((t472 ++ t473) ++ t474).size + t475.size ≤ 9223372036854775807 then (block_Frame.l0 k (((t472 ++ t473) ++ t474) ++ t475) l0_3 (l0_3.length : Int) 0) else (none))) else (none))) else (none))) = some r := H
 have A2 := Aside0.mk A20
 clear A20
 replace H := Option.bind_eq_some_iff.mp H
 obtain ⟨t473, A30, H⟩ := H
 replace H : (if t472.size + t473.size ≤ 9223372036854775807 then ((enc_Uint.f k a0_2).bind fun t474 => (if (t472 ++ t473).size + t474.size ≤ 9223372036854775807 then ((enc_Uint.f k (IntKind.u64.wrap ((l0_3.length : Int)))).bind fun t475 => (if ((t472 ++ t473) ++ t474).size + t475.size ≤ 9223372036854775807 then (block_Frame.l0 k (((t472 ++ t473) ++ t474) ++ t475) l0_3 (l0_3.length : Int) 0) else (none))) else (none))) else (none)) = some r := H
 have A3 := Aside0.mk A30
 clear A30
 by_cases c4 : t472.size + t473.size ≤ 9223372036854775807
 ·rw [if_pos c4] at H
  have c4b0 := eq_true c4
  have c4b1 : decide (t472.size + t473.size ≤ 9223372036854775807) = true := decide_eq_true c4
  try have c4b2 : (9223372036854775807 < t472.size + t473.size) = False := eq_false (Nat.not_lt.2 c4)
  replace H := Option.bind_eq_some_iff.mp H
  obtain ⟨t474, A50, H⟩ := H
  replace H : (if (t472 ++ t473).size + t474.size ≤ 9223372036854775807 then ((enc_Uint.f k (IntKind.u64.wrap ((l0_3.length : Int)))).bind fun t475 => (if ((t472 ++ t473) ++ t474).size + t475.size ≤ 9223372036854775807 then (block_Frame.l0 k (((t472 ++ t473) ++ t474) ++ t475) l0_3 (l0_3.length : Int) 0) else (none))) else (none)) = some r := H
  have A5 := Aside0.mk A50
  clear A50
  by_cases c6 : (t472 ++ t473).size + t474.size ≤ 9223372036854775807
  ·rw [if_pos c6] at H
   have c6b0 := eq_true c6
   have c6b1 : decide ((t472 ++ t473).size + t474.size ≤ 9223372036854775807) = true := decide_eq_true c6
   try have c6b2 : (9223372036854775807 < (t472 ++ t473).size + t474.size) = False := eq_false (Nat.not_lt.2 c6)
   try (have c6b2x := c6b2; simp only [ByteArray.size_append] at c6b2x)
   replace H := Option.bind_eq_some_iff.mp H
   obtain ⟨t475, A70, H⟩ := H
   replace H : (if ((t472 ++ t473) ++ t474).size + t475.size ≤ 9223372036854775807 then (block_Frame.l0 k (((t472 ++ t473) ++ t474) ++ t475) l0_3 (l0_3.length : Int) 0) else (none)) = some r := H
   have A7 := Aside0.mk A70
   clear A70
   by_cases c8 : ((t472 ++ t473) ++ t474).size + t475.size ≤ 9223372036854775807
   ·rw [if_pos c8] at H
    have c8b0 := eq_true c8
    have c8b1 : decide (((t472 ++ t473) ++ t474).size + t475.size ≤ 9223372036854775807) = true := decide_eq_true c8
    try have c8b2 : (9223372036854775807 < ((t472 ++ t473) ++ t474).size + t475.size) = False := eq_false (Nat.not_lt.2 c8)
    try (have c8b2x := c8b2; simp only [ByteArray.size_append] at c8b2x)
    have H' := Aside0.mk H
    clear H
    go_enter Try.func34, Try.ntmps34
    try go_wp2_with (first | ((with_reducible refine gate_dst (N := 1) rfl ?_); refine box_event ?hg (N := 1) ?hd (cs := #[.int .u64 a0_0, .string a0_1, .int .u64 a0_2, .slice A0_3 l0_3.length c0_3]) (t := 25) ?hr ?_; (case hd => rfl); (case hg => rfl); (case hr => first | (go_simp; done) | (go_simp; rfl)); intro gb471 hg w9 hbox hb; have n0_ := Aside0.mk (below_step (bh_ HB.out) hb); have n1_ := Aside0.mk (hbox); have n2_ := Aside0.mk ((by rw [hg]; exact (below_size (bh_ HB.out)) : w.heap.size ≤ gb471)); have n3_ := Aside0.mk ((by rw [hg]; exact (below_size (bh_ HB.out)) : w.heap.size ≤ gb471)); clear HB; have HB := n0_; have BK471 := n1_; have GW471 := n2_; have GE471 := n3_; clear n0_ n1_ n2_ n3_; clear hb hbox hg))
    replace BK471 := Aside0.mk (blk_drew BK471.out)
    replace HB := Aside0.mk (below_drew1 HB.out)
    refine start_ (n := 18) (S := fun w' => w'.cell? ⟨gb471, 0, none⟩ = some (.int .u64 a0_0) ∧ w'.cell? ⟨gb471, 1, none⟩ = some (.string a0_1) ∧ w'.cell? ⟨gb471, 2, none⟩ = some (.int .u64 a0_2) ∧ w'.cell? ⟨gb471, 3, none⟩ = some (.slice A0_3 l0_3.length c0_3)) (ds := []) #[N_, N_, N_, N_, N_, N_, N_, N_, N_, N_, N_, N_, N_, N_, N_, N_, N_, N_] (by kernel_rfl) rfl rfl ⟨(blk_cell BK471.out 0).trans rfl, (blk_cell BK471.out 1).trans rfl, (blk_cell BK471.out 2).trans rfl, (blk_cell BK471.out 3).trans rfl⟩ (fun hHeld => ?_); refine with_tabW block_Frame.tab1 block_Frame.bits1 (fun HT_ HW_ => ?_)
    generalize w9.drew = w10 at BK471 HB hHeld ⊢
    refine pure_ (i := 0) (N := some 6) (v := ?_) (a' := ?_) #[Y_, N_, N_, N_, N_, N_, N_, N_, N_, N_, N_, N_, N_, N_, N_, N_, N_, N_] rfl rfl (any_of HT_.out (by kernel_rfl)) (fun _ _ _ h => h) (Or.inl ⟨by rfl, ?_⟩) ?_ ?_
    rotate_left; (intro w'; go_simp; with_reducible rfl); rotate_left; (simp only [Act.put, q1_, q2_, q3_, i64_w, i32_w]; rfl)
    refine pure_ (i := 3) (N := some 9) (v := ?_) (a' := ?_) #[Y_, N_, N_, Y_, N_, N_, N_, N_, N_, N_, N_, N_, N_, N_, N_, N_, N_, N_] rfl rfl (any_of HT_.out (by kernel_rfl)) (fun _ _ _ h => h) (Or.inl ⟨by rfl, ?_⟩) ?_ ?_
    rotate_left; (intro w'; go_simp; with_reducible rfl); rotate_left; (simp only [Act.put, q1_, q2_, q3_, i64_w, i32_w]; rfl)
    refine pure_ (i := 7) (N := some 13) (v := ?_) (a' := ?_) #[Y_, N_, N_, Y_, N_, N_, N_, Y_, N_, N_, N_, N_, N_, N_, N_, N_, N_, N_] rfl rfl (any_of HT_.out (by kernel_rfl)) (fun _ _ _ h => h) (Or.inl ⟨by rfl, ?_⟩) ?_ ?_
    rotate_left; (intro w'; go_simp; with_reducible rfl); rotate_left; (simp only [Act.put, q1_, q2_, q3_, i64_w, i32_w]; rfl)
    refine pure_ (i := 11) (N := some 17) (v := ?_) (a' := ?_) #[Y_, N_, N_, Y_, N_, N_, N_, Y_, N_, N_, N_, Y_, N_, N_, N_, N_, N_, N_] rfl rfl (any_of HT_.out (by kernel_rfl)) (fun _ _ _ h => h) (Or.inl ⟨by rfl, ?_⟩) ?_ ?_
    rotate_left; (intro w'; go_simp; with_reducible rfl); rotate_left; (simp only [Act.put, q1_, q2_, q3_, i64_w, i32_w]; rfl)
    refine take_ (i := 1) (N := some 7) (v := ?_) (a' := ?_) #[Y_, Y_, N_, Y_, N_, N_, N_, Y_, N_, N_, N_, Y_, N_, N_, N_, N_, N_, N_] rfl rfl (take_ofW HT_.out HW_.out (by kernel_rfl)) (fun _ _ _ h => h) (Or.inl ⟨by rfl, ?_⟩) hHeld ?_ ?_
    rotate_left; (rintro w' ⟨s0, s1, s2, s3⟩; go_simp; with_reducible rfl); rotate_left; (simp only [Act.put, q1_, q2_, q3_, i64_w, i32_w]; rfl)
    refine take_ (i := 4) (N := some 10) (v := ?_) (a' := ?_) #[Y_, Y_, N_, Y_, Y_, N_, N_, Y_, N_, N_, N_, Y_, N_, N_, N_, N_, N_, N_] rfl rfl (take_ofW HT_.out HW_.out (by kernel_rfl)) (fun _ _ _ h => h) (Or.inl ⟨by rfl, ?_⟩) hHeld ?_ ?_
    rotate_left; (rintro w' ⟨s0, s1, s2, s3⟩; go_simp; with_reducible rfl); rotate_left; (simp only [Act.put, q1_, q2_, q3_, i64_w, i32_w]; rfl)
    refine take_ (i := 8) (N := some 14) (v := ?_) (a' := ?_) #[Y_, Y_, N_, Y_, Y_, N_, N_, Y_, Y_, N_, N_, Y_, N_, N_, N_, N_, N_, N_] rfl rfl (take_ofW HT_.out HW_.out (by kernel_rfl)) (fun _ _ _ h => h) (Or.inl ⟨by rfl, ?_⟩) hHeld ?_ ?_
    rotate_left; (rintro w' ⟨s0, s1, s2, s3⟩; go_simp; with_reducible rfl); rotate_left; (simp only [Act.put, q1_, q2_, q3_, i64_w, i32_w]; rfl)
    refine take_ (i := 12) (N := some 18) (v := ?_) (a' := ?_) #[Y_, Y_, N_, Y_, Y_, N_, N_, Y_, Y_, N_, N_, Y_, Y_, N_, N_, N_, N_, N_] rfl rfl (take_ofW HT_.out HW_.out (by kernel_rfl)) (fun _ _ _ h => h) (Or.inl ⟨by rfl, ?_⟩) hHeld ?_ ?_
    rotate_left; (rintro w' ⟨s0, s1, s2, s3⟩; go_simp; with_reducible rfl); rotate_left; (simp only [Act.put, q1_, q2_, q3_, i64_w, i32_w]; rfl)
    refine pure_ (i := 13) (N := some 19) (v := ?_) (a' := ?_) #[Y_, Y_, N_, Y_, Y_, N_, N_, Y_, Y_, N_, N_, Y_, Y_, Y_, N_, N_, N_, N_] rfl rfl (any_of HT_.out (by kernel_rfl)) (fun _ _ _ h => h) (Or.inl ⟨by rfl, ?_⟩) ?_ ?_
    rotate_left; (intro w'; go_simp; with_reducible rfl); rotate_left; (simp only [Act.put, q1_, q2_, q3_, i64_w, i32_w]; rfl)
    refine pure_ (i := 14) (N := some 20) (v := ?_) (a' := ?_) #[Y_, Y_, N_, Y_, Y_, N_, N_, Y_, Y_, N_, N_, Y_, Y_, Y_, Y_, N_, N_, N_] rfl rfl (any_of HT_.out (by kernel_rfl)) (fun _ _ _ h => h) (Or.inl ⟨by rfl, ?_⟩) ?_ ?_
    rotate_left; (intro w'; go_simp; with_reducible rfl); rotate_left; (simp only [Act.put, q1_, q2_, q3_, i64_w, i32_w]; rfl)
    refine one_ (i := 2) (N := some 8) #[Y_, Y_, Y_, Y_, Y_, N_, N_, Y_, Y_, N_, N_, Y_, Y_, Y_, Y_, N_, N_, N_] rfl rfl (one_of HT_.out (by kernel_rfl)) (by decide) (fun K hK => ?_)
    refine goes_ Try.func45 (by kernel_rfl) rfl #[.int .u64 a0_0] (by rfl) rfl rfl (by (try simp only [List.map_toArray, List.map_cons, List.map_nil]); first | done | rfl | (simp only [List.length_drop, List.length_take]; rfl)) ?_
    with_reducible refine (enc_Uint.calls k a0_0 t472 _ A2.out).mono ?_
    rintro e w11 ⟨rfl, hb⟩
    refine ⟨_, rfl, ?_⟩
    replace BK471 := Aside0.mk (bk_ BK471.out hb)
    replace HB := Aside0.mk (below_step (bh_ HB.out) hb)
    (try clear hb)
    (try clear hb2)
    (try clear hk)
    (try clear hi)
    refine hK.out _ _ ⟨(blk_cell BK471.out 0).trans rfl, (blk_cell BK471.out 1).trans rfl, (blk_cell BK471.out 2).trans rfl, (blk_cell BK471.out 3).trans rfl⟩ (fun hHeld => ?_)
    clear hK K
    refine norm_ (a' := ?_) ?_ ?_
    rotate_left
    ·show Act.put _ (some 8) _ = _
     simp only [Act.put, q1_, q2_, q3_, i64_w, i32_w]
     rfl
    refine one_ (i := 5) (N := some 11) #[Y_, Y_, Y_, Y_, Y_, Y_, N_, Y_, Y_, N_, N_, Y_, Y_, Y_, Y_, N_, N_, N_] rfl rfl (one_of HT_.out (by kernel_rfl)) (by decide) (fun K hK => ?_)
    refine goes_ Try.func46 (by kernel_rfl) rfl #[.string a0_1] (by rfl) rfl rfl (by (try simp only [List.map_toArray, List.map_cons, List.map_nil]); first | done | rfl | (simp only [List.length_drop, List.length_take]; rfl)) ?_
    with_reducible refine (enc_Text.calls k a0_1 t473 _ A3.out).mono ?_
    rintro e w12 ⟨rfl, hb⟩
    refine ⟨_, rfl, ?_⟩
    replace BK471 := Aside0.mk (bk_ BK471.out hb)
    replace HB := Aside0.mk (below_step (bh_ HB.out) hb)
    (try clear hb)
    (try clear hb2)
    (try clear hk)
    (try clear hi)
    refine hK.out _ _ ⟨(blk_cell BK471.out 0).trans rfl, (blk_cell BK471.out 1).trans rfl, (blk_cell BK471.out 2).trans rfl, (blk_cell BK471.out 3).trans rfl⟩ (fun hHeld => ?_)
    clear hK K
    refine norm_ (a' := ?_) ?_ ?_
    rotate_left
    ·show Act.put _ (some 11) _ = _
     simp only [Act.put, q1_, q2_, q3_, i64_w, i32_w]
     rfl
    refine pure_ (i := 6) (N := some 12) (v := ?_) (a' := ?_) #[Y_, Y_, Y_, Y_, Y_, Y_, Y_, Y_, Y_, N_, N_, Y_, Y_, Y_, Y_, N_, N_, N_] rfl rfl (any_of HT_.out (by kernel_rfl)) (fun _ _ _ h => h) (Or.inl ⟨by rfl, ?_⟩) ?_ ?_
    rotate_left; (intro w'; go_simp; with_reducible rfl); rotate_left; (simp only [Act.put, q1_, q2_, q3_, i64_w, i32_w]; rfl)
    refine one_ (i := 9) (N := some 15) #[Y_, Y_, Y_, Y_, Y_, Y_, Y_, Y_, Y_, Y_, N_, Y_, Y_, Y_, Y_, N_, N_, N_] rfl rfl (one_of HT_.out (by kernel_rfl)) (by decide) (fun K hK => ?_)
    refine goes_ Try.func45 (by kernel_rfl) rfl #[.int .u64 a0_2] (by rfl) rfl rfl (by (try simp only [List.map_toArray, List.map_cons, List.map_nil]); first | done | rfl | (simp only [List.length_drop, List.length_take]; rfl)) ?_
    with_reducible refine (enc_Uint.calls k a0_2 t474 _ A5.out).mono ?_
    rintro e w13 ⟨rfl, hb⟩
    refine ⟨_, rfl, ?_⟩
    replace BK471 := Aside0.mk (bk_ BK471.out hb)
    replace HB := Aside0.mk (below_step (bh_ HB.out) hb)
    (try clear hb)
    (try clear hb2)
    (try clear hk)
    (try clear hi)
    refine hK.out _ _ ⟨(blk_cell BK471.out 0).trans rfl, (blk_cell BK471.out 1).trans rfl, (blk_cell BK471.out 2).trans rfl, (blk_cell BK471.out 3).trans rfl⟩ (fun hHeld => ?_)
    clear hK K
    refine norm_ (a' := ?_) ?_ ?_
    rotate_left
    ·show Act.put _ (some 15) _ = _
     simp only [Act.put, q1_, q2_, q3_, i64_w, i32_w]
     rfl
    refine pure_ (i := 10) (N := some 16) (v := ?_) (a' := ?_) #[Y_, Y_, Y_, Y_, Y_, Y_, Y_, Y_, Y_, Y_, Y_, Y_, Y_, Y_, Y_, N_, N_, N_] rfl rfl (any_of HT_.out (by kernel_rfl)) (fun _ _ _ h => h) (Or.inl ⟨by rfl, ?_⟩) ?_ ?_
    rotate_left; (intro w'; go_simp; with_reducible rfl); rotate_left; (simp only [Act.put, q1_, q2_, q3_, i64_w, i32_w]; rfl)
    refine one_ (i := 15) (N := some 21) #[Y_, Y_, Y_, Y_, Y_, Y_, Y_, Y_, Y_, Y_, Y_, Y_, Y_, Y_, Y_, Y_, N_, N_] rfl rfl (one_of HT_.out (by kernel_rfl)) (by decide) (fun K hK => ?_)
    refine goes_ Try.func45 (by kernel_rfl) rfl #[.int .u64 (IntKind.u64.wrap ((l0_3.length : Int)))] (by rfl) rfl rfl (by (try simp only [List.map_toArray, List.map_cons, List.map_nil]); first | done | rfl | (simp only [List.length_drop, List.length_take]; rfl)) ?_
    with_reducible refine (enc_Uint.calls k (IntKind.u64.wrap ((l0_3.length : Int))) t475 _ A7.out).mono ?_
    rintro e w14 ⟨rfl, hb⟩
    refine ⟨_, rfl, ?_⟩
    replace BK471 := Aside0.mk (bk_ BK471.out hb)
    replace HB := Aside0.mk (below_step (bh_ HB.out) hb)
    (try clear hb)
    (try clear hb2)
    (try clear hk)
    (try clear hi)
    refine hK.out _ _ ⟨(blk_cell BK471.out 0).trans rfl, (blk_cell BK471.out 1).trans rfl, (blk_cell BK471.out 2).trans rfl, (blk_cell BK471.out 3).trans rfl⟩ (fun hHeld => ?_)
    clear hK K
    refine norm_ (a' := ?_) ?_ ?_
    rotate_left
    ·show Act.put _ (some 21) _ = _
     simp only [Act.put, q1_, q2_, q3_, i64_w, i32_w]
     rfl
    refine pure_ (i := 16) (N := some 22) (v := ?_) (a' := ?_) #[Y_, Y_, Y_, Y_, Y_, Y_, Y_, Y_, Y_, Y_, Y_, Y_, Y_, Y_, Y_, Y_, Y_, N_] rfl rfl (any_of HT_.out (by kernel_rfl)) (fun _ _ _ h => h) (Or.inl ⟨by rfl, ?_⟩) ?_ ?_
    rotate_left; (intro w'; go_simp; with_reducible rfl); rotate_left; (simp only [Act.put, q1_, q2_, q3_, i64_w, i32_w]; rfl)
    refine pure_ (i := 17) (N := some 3) (v := ?_) (a' := ?_) #[Y_, Y_, Y_, Y_, Y_, Y_, Y_, Y_, Y_, Y_, Y_, Y_, Y_, Y_, Y_, Y_, Y_, Y_] rfl rfl (any_of HT_.out (by kernel_rfl)) (fun _ _ _ h => h) (Or.inl ⟨by rfl, ?_⟩) ?_ ?_
    rotate_left; (intro w'; go_simp; with_reducible rfl); rotate_left; (simp only [Act.put, q1_, q2_, q3_, i64_w, i32_w]; rfl)
    refine done_ (done_of HT_.out (by kernel_rfl)) ?_
    obtain ⟨z15_0, z15_1, z15_2, z15_3, f15_0, f15_1, f15_2, f15_3⟩ := bc4_ BK471.out
    try go_wp2
    go_loopg [3, 26] k (fun kq v3 v26 w' => ∃ (x3_1 : ByteArray) (x26_1 : Int), v3 = .string x3_1 ∧ v26 = .int .i64 x26_1 ∧ Aside0 (block_Frame.l0 kq x3_1 l0_3 (l0_3.length : Int) x26_1 = some r) ∧ Aside0 (kq ≤ k) ∧ Aside0 (w'.heap[gb471]? = some (.cells #[.int .u64 a0_0, .string a0_1, .int .u64 a0_2, (.slice A0_3 l0_3.length c0_3)] 25 (0, 0))) ∧ Aside0 (Below w.heap.size w w'))
    case atStart => exact ⟨(((t472 ++ t473) ++ t474) ++ t475), (0), (by first | rfl | (simp; done) | (simp [*]; done)), (by first | rfl | (simp; done) | (simp [*]; done)), H', ⟨Nat.le_refl _⟩, ⟨bz_ BK471.out⟩, ⟨bh_ HB.out⟩⟩
    case round =>
     clear H'
     try clear p2
     try clear c3
     try clear c4
     try clear c4b0
     try clear c4b1
     try clear c4b2
     try clear c6
     try clear c6b0
     try clear c6b1
     try clear c6b2
     try clear c8
     try clear c8b0
     try clear c8b1
     try clear c8b2
     try clear z15_0 z15_1 z15_2 z15_3 f15_0 f15_1 f15_2 f15_3
     obtain ⟨x3_1, x26_1, rfl, rfl, HA, HK1, BK471, HB⟩ := hrel
     cases gk with
     | zero => exact absurd HA.out (by simp [block_Frame.l0])
     | succ k1 =>
      have H := HA.out
      clear HA
      simp only [block_Frame.l0] at H
      by_cases c16 : x26_1 < (l0_3.length : Int)
      ·rw [if_pos c16] at H
       have c16b0 : decide (x26_1 < (l0_3.length : Int)) = true := decide_eq_true c16
       clear c16
       by_cases c17 : 0 ≤ x26_1
       ·rw [if_pos c17] at H
        have c17b0 : decide (0 ≤ x26_1) = true := decide_eq_true c17
        clear c17
        by_cases c18 : x26_1 < (l0_3.length : Int)
        ·rw [if_pos c18] at H
         have c18b0 : decide (x26_1 < (l0_3.length : Int)) = true := decide_eq_true c18
         clear c18
         replace H := Option.bind_eq_some_iff.mp H
         obtain ⟨t478, A190, H⟩ := H
         replace H : (if x3_1.size + t478.size ≤ 9223372036854775807 then (block_Frame.l0 k1 (x3_1 ++ t478) l0_3 (l0_3.length : Int) (wrap64 (x26_1 + 1))) else (none)) = some r := H
         have A19 := Aside0.mk A190
         clear A190
         by_cases c20 : x3_1.size + t478.size ≤ 9223372036854775807
         ·rw [if_pos c20] at H
          have c20b0 := eq_true c20
          have c20b1 : decide (x3_1.size + t478.size ≤ 9223372036854775807) = true := decide_eq_true c20
          try have c20b2 : (9223372036854775807 < x3_1.size + t478.size) = False := eq_false (Nat.not_lt.2 c20)
          have H' := Aside0.mk H
          clear H
          have p476 : 0 ≤ (x26_1 : Int) := of_decide_eq_true (by first | (with_reducible assumption) | assumption)
          have q476 : x26_1 < (l0_3.length : Int) := of_decide_eq_true (by first | (with_reducible assumption) | assumption)
          obtain ⟨ad476, e476, hx476_0, hx476_1, hx476_2, hx476_3, hx476_4, hx476_5, hx476_6, hx476_7⟩ := at_T47 HR0_3.out x26_1 p476 q476
          cases e476
          replace hx476_0 := (HB.out.cell (World.block_lt_of_cell? w _ hx476_0)).trans hx476_0
          replace hx476_1 := (HB.out.cell (World.block_lt_of_cell? w _ hx476_1)).trans hx476_1
          replace hx476_2 := (HB.out.cell (World.block_lt_of_cell? w _ hx476_2)).trans hx476_2
          replace hx476_3 := (HB.out.cell (World.block_lt_of_cell? w _ hx476_3)).trans hx476_3
          replace hx476_4 := (HB.out.cell (World.block_lt_of_cell? w _ hx476_4)).trans hx476_4
          replace hx476_5 := (HB.out.cell (World.block_lt_of_cell? w _ hx476_5)).trans hx476_5
          replace hx476_6 := (HB.out.cell (World.block_lt_of_cell? w _ hx476_6)).trans hx476_6
          replace hx476_7 := (HB.out.cell (World.block_lt_of_cell? w _ hx476_7)).trans hx476_7
          replace p476 := eq_true p476
          replace q476 := eq_true q476
          go_wp2_with (first | ((with_reducible refine gate_dst (N := 5) rfl ?_); refine box_event ?hg (N := 5) ?hd (cs := #[.int .i64 0, .string (⟨#[]⟩ : ByteArray), .string (⟨#[]⟩ : ByteArray), .int .u64 0, .int .u64 0, .string (⟨#[]⟩ : ByteArray), .string (⟨#[]⟩ : ByteArray), .bool false]) (t := 47) ?hr ?_; (case hd => rfl); (case hg => rfl); (case hr => first | (go_simp; done) | (go_simp; rfl)); intro gb477 hg w21 hbox hb; have n0_ := Aside0.mk (bk_ BK471.out hb); have n1_ := Aside0.mk (below_step (bh_ HB.out) hb); have n2_ := Aside0.mk (hbox); have n3_ := Aside0.mk ((by rw [hg]; exact (below_size (bh_ HB.out)) : w.heap.size ≤ gb477)); have n4_ := Aside0.mk ((by rw [hg]; exact (below_size (bh_ HB.out)) : w.heap.size ≤ gb477)); have n5_ := Aside0.mk ((by rw [hg]; exact Nat.ne_of_lt (blk_lt (g := gb471) (o := .cells #[.int .u64 a0_0, .string a0_1, .int .u64 a0_2, .slice (some ad476) l0_3.length c0_3] 25 (0, 0)) (bz_ BK471.out)) : gb471 ≠ gb477)); have n6_ := Aside0.mk ((by rw [hg]; exact Nat.ne_of_gt (blk_lt (g := gb471) (o := .cells #[.int .u64 a0_0, .string a0_1, .int .u64 a0_2, .slice (some ad476) l0_3.length c0_3] 25 (0, 0)) (bz_ BK471.out)) : gb477 ≠ gb471)); clear BK471; clear HB; have BK471 := n0_; have HB := n1_; have BK477 := n2_; have GW477 := n3_; have GE477 := n4_; have NB471_477 := n5_; have NB477_471 := n6_; clear n0_ n1_ n2_ n3_ n4_ n5_ n6_; clear hb hbox hg; have hnb22 := NB477_471.out; have hnc22 := NB471_477.out; obtain ⟨z23_0, z23_1, z23_2, z23_3, z23_4, z23_5, z23_6, z23_7, f23_0, f23_1, f23_2, f23_3, f23_4, f23_5, f23_6, f23_7⟩ := bc8_ BK477.out) | ((with_reducible refine gate_callee (f := 73) rfl ?_); refine gl_ (some 32) Try.func73 #[.agg #[.int .i64 ((rd_T47 l0_3 x26_1).f0), .string ((rd_T47 l0_3 x26_1).f1), .string ((rd_T47 l0_3 x26_1).f2), .int .u64 ((rd_T47 l0_3 x26_1).f3), .int .u64 ((rd_T47 l0_3 x26_1).f4), .string ((rd_T47 l0_3 x26_1).f5), .string ((rd_T47 l0_3 x26_1).f6), .bool ((rd_T47 l0_3 x26_1).f7)]] ?_; (with_reducible refine (block_meta.calls k1 ((rd_T47 l0_3 x26_1).f0) ((rd_T47 l0_3 x26_1).f1) ((rd_T47 l0_3 x26_1).f2) ((rd_T47 l0_3 x26_1).f3) ((rd_T47 l0_3 x26_1).f4) ((rd_T47 l0_3 x26_1).f5) ((rd_T47 l0_3 x26_1).f6) ((rd_T47 l0_3 x26_1).f7) t478 _ A19.out).mono ?_); rintro e w24 ⟨rfl, hb⟩; refine ⟨_, rfl, ?_⟩; replace BK471 := Aside0.mk (bf_ BK471.out hb); replace BK477 := Aside0.mk (bp_ (o' := .cells #[.int .i64 ((rd_T47 l0_3 x26_1).f0), .string ((rd_T47 l0_3 x26_1).f1), .string ((rd_T47 l0_3 x26_1).f2), .int .u64 ((rd_T47 l0_3 x26_1).f3), .int .u64 ((rd_T47 l0_3 x26_1).f4), .string ((rd_T47 l0_3 x26_1).f5), .string ((rd_T47 l0_3 x26_1).f6), .bool ((rd_T47 l0_3 x26_1).f7)] 47 (0, 0)) BK477.out hb); replace HB := Aside0.mk (below_step (bh_ HB.out) hb); (try clear hb)))
          go_roundg k1
          case measure => have := HK1.out; omega
          case rel => exact ⟨(x3_1 ++ t478), (wrap64 (x26_1 + 1)), (by first | rfl | (simp; done) | (simp [*]; done)), (by first | rfl | (simp; done) | (simp [*]; done)), H', ⟨by have := HK1.out; omega⟩, ⟨bz_ BK471.out⟩, ⟨bh_ HB.out⟩⟩
         ·rw [if_neg c20] at H
          exact absurd H (by simp)
        ·rw [if_neg c18] at H
         exact absurd H (by simp)
       ·rw [if_neg c17] at H
        exact absurd H (by simp)
      ·rw [if_neg c16] at H
       have c16b0 : decide (x26_1 < (l0_3.length : Int)) = false := decide_eq_false c16
       clear c16
       obtain rfl := Option.some.inj H
       go_wp2
       go_ret
       exact ⟨by first | rfl | (simp [errW_none, errW_some] <;> rfl) | (simp [*, errW_none, errW_some] <;> rfl), by repeat (first | (with_reducible first | exact HB.out | apply below_alloc | apply pw_below_drewN | apply below_drew1 | refine below_set ?_ GE471.out) | exact HB.out)⟩
   ·rw [if_neg c8] at H
    exact absurd H (by simp)
  ·rw [if_neg c6] at H
   exact absurd H (by simp)
 ·rw [if_neg c4] at H
  exact absurd H (by simp)
end Go.Proofs.Ytdcbacbilncnnaa.PMk
end
section
/- Numbers and texts in bytes, in plain Lean: what is put, what is taken, and that each is the other's inverse. No program here. -/
namespace Go.Proofs.Ytdcbacbilncnnaa.EncS
/-- A number's bytes. -/
def encU (n : Nat) : List UInt8 := if n < 128 then [UInt8.ofNat n] else UInt8.ofNat (n % 128 + 128) :: encU (n / 128)
termination_by n
decreasing_by omega
/-- What a number's taking comes to, from byte i on with what was gathered: the error, how many bytes, the number. -/
def decU : List UInt8 → Nat → Nat → Nat × Nat × Nat
  | [], _, _ => (4, 0, 0)
  | b :: l, i, n =>
    if (i = 9 ∧ 1 < b.toNat) ∨ (0 < i ∧ b.toNat = 0) then (6, 0, 0)
    else if b.toNat < 128 then (0, i + 1, n + b.toNat * 128 ^ i)
    else decU l (i + 1) (n + (b.toNat - 128) * 128 ^ i)
theorem encU_small (n : Nat) (h : n < 128) : encU n = [UInt8.ofNat n] := by rw [encU, if_pos h]
theorem encU_great (n : Nat) (h : ¬ n < 128) : encU n = UInt8.ofNat (n % 128 + 128) :: encU (n / 128) := by rw [encU, if_neg h]
theorem pow9 : (128 : Nat) ^ 9 = 9223372036854775808 := by decide
theorem pow_succ' (i : Nat) : (128 : Nat) ^ (i + 1) = 128 ^ i * 128 := Nat.pow_succ ..
theorem nine_small (n : Nat) (h : n * 128 ^ 9 < 18446744073709551616) : n ≤ 1 := by rw [pow9] at h; omega
/-- What is taken has these bytes. -/
theorem enc_decU : ∀ (l : List UInt8) (i acc c v : Nat), i ≤ 9 → decU l i acc = (0, c, v) →
    ∃ m, v = acc + m * 128 ^ i ∧ encU m = l.take (c - i) ∧ i < c ∧ c - i ≤ l.length ∧ (0 < i → 0 < m) ∧ m * 128 ^ i < 18446744073709551616 - 128 ^ i + 1 := by
  intro l
  induction l with
  | nil => intro i acc c v _ h; simp [decU] at h
  | cons b l ih =>
    intro i acc c v hi h
    simp only [decU] at h
    by_cases h1 : (i = 9 ∧ 1 < b.toNat) ∨ (0 < i ∧ b.toNat = 0)
    · rw [if_pos h1] at h; simp at h
    · rw [if_neg h1] at h
      by_cases h2 : b.toNat < 128
      · rw [if_pos h2] at h
        simp only [Prod.mk.injEq, true_and] at h
        obtain ⟨rfl, rfl⟩ := h
        refine ⟨b.toNat, rfl, ?_, by omega, by simp, fun h0 => ?_, ?_⟩
        · rw [encU_small _ h2, show i + 1 - i = 1 by omega]
          simp
        · omega
        · by_cases h9 : i = 9
          · subst h9; rw [pow9]; omega
          · have hp : (128 : Nat) ^ i ≤ 128 ^ 8 := Nat.pow_le_pow_right (by decide) (by omega)
            have hm : b.toNat * 128 ^ i ≤ 127 * 128 ^ i := Nat.mul_le_mul_right _ (by omega)
            have h8 : (128 : Nat) ^ 8 = 72057594037927936 := by decide
            omega
      · rw [if_neg h2] at h
        have hi8 : i ≤ 8 := by omega
        obtain ⟨m, hv, he, hc, hl, h0, hb⟩ := ih (i + 1) _ c v (by omega) h
        have hb256 := b.toNat_lt
        refine ⟨b.toNat - 128 + 128 * m, ?_, ?_, by omega, by simp; omega, fun _ => by have := h0 (by omega); omega, ?_⟩
        · rw [hv, pow_succ', Nat.add_assoc, Nat.add_mul]
          congr 2
          rw [Nat.mul_comm 128 m, Nat.mul_assoc, Nat.mul_comm 128]
        · have hm := h0 (by omega)
          rw [encU_great _ (by omega), show (b.toNat - 128 + 128 * m) % 128 + 128 = b.toNat by omega, show (b.toNat - 128 + 128 * m) / 128 = m by omega, he,
            show c - i = (c - (i + 1)) + 1 by omega, List.take_succ_cons]
          simp
        · rw [pow_succ'] at hb
          have e : (b.toNat - 128 + 128 * m) * 128 ^ i = (b.toNat - 128) * 128 ^ i + m * (128 ^ i * 128) := by
            rw [Nat.add_mul, Nat.mul_comm 128 m, Nat.mul_assoc, Nat.mul_comm 128]
          have hm : (b.toNat - 128) * 128 ^ i ≤ 127 * 128 ^ i := Nat.mul_le_mul_right _ (by omega)
          have hp : (128 : Nat) ^ i ≤ 128 ^ 8 := Nat.pow_le_pow_right (by decide) (by omega)
          have h8 : (128 : Nat) ^ 8 = 72057594037927936 := by decide
          rw [e]
          omega
/-- A number that was taken, its place and its bytes. -/
theorem taken (l : List UInt8) (c v : Nat) (h : decU l 0 0 = (0, c, v)) : encU v = l.take c ∧ 0 < c ∧ c ≤ l.length ∧ v < 18446744073709551616 := by
  obtain ⟨m, hv, he, hc, hl, _, hb⟩ := enc_decU l 0 0 c v (by decide) h
  simp at hv he hl hb
  subst hv
  exact ⟨he, hc, hl, by omega⟩
theorem encU_len (n : Nat) (h : n < 18446744073709551616) : (encU n).length ≤ 10 := by
  have : ∀ (i n : Nat), n * 128 ^ i < 18446744073709551616 → i ≤ 9 → (encU n).length ≤ 10 - i := by
    intro i
    induction hk : 9 - i generalizing i with
    | zero =>
      intro n hb hi
      have : i = 9 := by omega
      subst this
      have := nine_small n hb
      rw [encU_small n (by omega)]
      simp
    | succ k ih =>
      intro n hb hi
      by_cases h : n < 128
      · rw [encU_small n h]; simp; omega
      · rw [encU_great n h]
        have hle : n / 128 * 128 ^ (i + 1) ≤ n * 128 ^ i := by
          rw [pow_succ', ← Nat.mul_assoc, Nat.mul_right_comm]
          exact Nat.mul_le_mul_right _ (Nat.div_mul_le_self n 128)
        have := ih (i + 1) (by omega) (n / 128) (by omega) (by omega)
        simp only [List.length_cons]
        omega
  exact this 0 n (by simpa using h) (by decide)
end Go.Proofs.Ytdcbacbilncnnaa.EncS
end
section
/- Numbers and texts in bytes: the program's and the reference's are one plain function's. -/
namespace Go.Proofs.Ytdcbacbilncnnaa.EncL
set_option linter.unusedVariables false
set_option linter.unusedSimpArgs false
open Go.RowKit Go.Proofs.Ytdcbacbilncnnaa.PMk Go.Proofs.Ytdcbacbilncnnaa.EncS Go.Proofs.YtdcbacbilncnnaaW.PrintWords Go.Proofs.YtdcbacbilncnnaaW.PrintLast Go.Proofs.YtdcbacbilncnnaaW.PrintMore
/-- Bytes as a text. -/
def S (l : List UInt8) : ByteArray := ⟨l.toArray⟩
theorem wrap64_in (n : Int) (h0 : -9223372036854775808 ≤ n) (h1 : n < 9223372036854775808) : wrap64 n = n := by unfold wrap64; omega
theorem u64_wrap (n : Int) : IntKind.u64.wrap n = n % 18446744073709551616 := by simp [IntKind.wrap, IntKind.bits, IntKind.signed]
theorem u64_in (n : Int) (h0 : 0 ≤ n) (h1 : n < 18446744073709551616) : IntKind.u64.wrap n = n := by rw [u64_wrap]; omega
theorem or_128 (x : Nat) (h : x < 128) : x ||| 128 = x + 128 := by
  have := Nat.two_pow_add_eq_or_of_lt (i := 7) (b := x) h 1
  simp only [Nat.mul_one, Nat.reducePow] at this
  rw [Nat.or_comm, ← this, Nat.add_comm]
theorem or128 (n : Nat) : Go.bits .or .u8 (((n : Int)) % 256) 128 = ((n % 128 + 128 : Nat) : Int) := by
  have e : ((n : Int) % 256) = ((n % 256 : Nat) : Int) := by omega
  rw [e]
  refine ((bits_nat .u8 8 (by decide) wraps_u8 (n % 256) 128 (by omega) (by decide)).2).trans ?_
  congr 1
  by_cases h2 : n % 256 < 128
  · rw [show n % 128 = n % 256 by omega, or_128 _ h2]
  · have h3 : n % 256 = n % 128 ||| 128 := by rw [or_128 _ (by omega)]; omega
    rw [h3, Nat.or_assoc, Nat.or_self, or_128 _ (by omega)]
theorem S_toList (l : List UInt8) : (S l).toList = l := by
  show (ByteArray.toList ⟨l.toArray⟩) = l
  simp
def ints (l : List UInt8) : List Int := l.map fun b => (b.toNat : Int)
theorem strOf_ints (l : List UInt8) : strOfNums (ints l) = S l := by
  unfold strOfNums ints S
  rw [List.map_map]
  congr 2
  rw [List.map_congr_left (g := id) (fun b _ => by simp)]
  simp
theorem ints_length (l : List UInt8) : (ints l).length = l.length := by simp [ints]
theorem ints_snoc (l : List UInt8) (b : UInt8) (x : Int) (h : (b.toNat : Int) = x) : ints l ++ [x] = ints (l ++ [b]) := by simp [ints, h]
theorem S_size (l : List UInt8) : (S l).size = l.length := by simp [S, ByteArray.size]
theorem S_append (a b : List UInt8) : S a ++ S b = S (a ++ b) := by
  apply ByteArray.ext
  simp [S]
theorem S_of (s : ByteArray) : S s.toList = s := by
  rw [ByteArray.toList_eq]
  simp [S]
/-- enc.Uint's bytes. -/
theorem uint_l0 : ∀ (m n : Nat) (acc : List UInt8), n ≤ m → acc.length + (encU n).length < 140737488355328 →
    Ev (fun k => enc_Uint.l0 k (n : Int) (ints acc)) (S (acc ++ encU n)) := by
  have base : ∀ (n : Nat) (acc : List UInt8), n < 128 → acc.length + (encU n).length < 140737488355328 → Ev (fun k => enc_Uint.l0 k (n : Int) (ints acc)) (S (acc ++ encU n)) := by
    intro n acc h hl
    rw [encU_small n h] at hl ⊢
    simp only [List.length_cons, List.length_nil] at hl
    refine Ev.step (f := fun _ => some (S (acc ++ [UInt8.ofNat n]))) (fun k => ?_) (Ev.now _)
    simp only [enc_Uint.l0]
    rw [if_neg (by omega), if_pos (by rw [ints_length]; omega)]
    rw [ints_snoc acc (UInt8.ofNat n) _ (by rw [UInt8.toNat_ofNat']; omega), strOf_ints]
  intro m
  induction m with
  | zero => intro n acc hm hl; exact base n acc (by omega) hl
  | succ m ih =>
    intro n acc hm hl
    by_cases h : n < 128
    · exact base n acc h hl
    · rw [encU_great n h] at hl ⊢
      simp only [List.length_cons] at hl
      have h1 := ih (n / 128) (acc ++ [UInt8.ofNat (n % 128 + 128)]) (by omega) (by simp only [List.length_append, List.length_cons, List.length_nil]; omega)
      rw [List.append_assoc] at h1
      refine Ev.step (fun k => ?_) h1
      simp only [enc_Uint.l0]
      rw [if_pos (by omega), if_pos (by rw [ints_length]; omega), or128, ints_snoc acc (UInt8.ofNat (n % 128 + 128)) _ (by rw [UInt8.toNat_ofNat']; omega)]
      rfl
theorem uint_f (n : Nat) (h : n < 18446744073709551616) : Ev (fun k => enc_Uint.f k (n : Int)) (S (encU n)) := by
  have hl := encU_len n h
  exact uint_l0 n n [] (Nat.le_refl _) (by simp only [List.length_nil]; omega)
/-- The reference's bytes. -/
theorem ref_uint_f : ∀ (m n : Nat), n ≤ m → n < 18446744073709551616 → Ev (fun k => parchmentref02_Uint.f k (n : Int)) (S (encU n)) := by
  have base : ∀ (n : Nat), n < 128 → Ev (fun k => parchmentref02_Uint.f k (n : Int)) (S (encU n)) := by
    intro n h
    rw [encU_small n h]
    refine Ev.step (f := fun _ => some (S [UInt8.ofNat n])) (fun k => ?_) (Ev.now _)
    simp only [parchmentref02_Uint.f]
    rw [if_pos (by omega)]
    have e := ints_snoc [] (UInt8.ofNat n) ((n : Int) % 256) (by rw [UInt8.toNat_ofNat']; omega)
    simp only [List.nil_append, ints, List.map_nil] at e
    rw [e]
    exact congrArg some (strOf_ints [UInt8.ofNat n])
  intro m
  induction m with
  | zero => intro n hm _; exact base n (by omega)
  | succ m ih =>
    intro n hm hb
    by_cases h : n < 128
    · exact base n h
    · have hl := encU_len (n / 128) (by omega)
      have h1 := ih (n / 128) (by omega) (by omega)
      rw [encU_great n h]
      have e1 : IntKind.u64.wrap (Int.tdiv (n : Int) 128) = ((n / 128 : Nat) : Int) := by
        rw [Int.tdiv_eq_ediv_of_nonneg (by omega), u64_in _ (by omega) (by omega)]; omega
      have e2 : (IntKind.u64.wrap ((Int.tmod (n : Int) 128) + 128)) % 256 = ((UInt8.ofNat (n % 128 + 128)).toNat : Int) := by
        rw [Int.tmod_eq_emod_of_nonneg (by omega), u64_in _ (by omega) (by omega), UInt8.toNat_ofNat']; omega
      refine Ev.step (f := fun k => (parchmentref02_Uint.f k ((n / 128 : Nat) : Int)).bind fun t => if (S [UInt8.ofNat (n % 128 + 128)]).size + t.size ≤ 9223372036854775807 then some (S [UInt8.ofNat (n % 128 + 128)] ++ t) else none) (fun k => ?_) ?_
      · simp only [parchmentref02_Uint.f]
        rw [if_neg (by omega), Option.bind_some, e1, e2]
        have e3 : strOfNums [((UInt8.ofNat (n % 128 + 128)).toNat : Int)] = S [UInt8.ofNat (n % 128 + 128)] := strOf_ints [UInt8.ofNat (n % 128 + 128)]
        rw [e3]
      · refine Ev.bind h1 ?_
        rw [if_pos (by rw [S_size, S_size]; simp only [List.length_cons, List.length_nil]; omega), S_append]
        exact Ev.now _
theorem text_f (t : ByteArray) (h : t.size ≤ 4611686018427387904) : Ev (fun k => enc_Text.f k t) (S (encU t.size ++ t.toList)) := by
  unfold enc_Text.f
  have hl := encU_len t.size (by omega)
  rw [u64_in (t.size : Int) (by omega) (by omega)]
  refine Ev.bind (uint_f t.size (by omega)) ?_
  have e : S (encU t.size) ++ t = S (encU t.size ++ t.toList) := by rw [← S_append, S_of]
  rw [if_pos (by rw [S_size]; omega), e]
  exact Ev.now _
theorem ref_text_f (t : ByteArray) (h : t.size ≤ 4611686018427387904) : Ev (fun k => parchmentref02_Text.f k t) (S (encU t.size ++ t.toList)) := by
  unfold parchmentref02_Text.f
  have hl := encU_len t.size (by omega)
  rw [u64_in (t.size : Int) (by omega) (by omega)]
  refine Ev.bind (ref_uint_f t.size t.size (Nat.le_refl _) (by omega)) ?_
  have e : S (encU t.size) ++ t = S (encU t.size ++ t.toList) := by rw [← S_append, S_of]
  rw [if_pos (by rw [S_size]; omega), e]
  exact Ev.now _
end Go.Proofs.Ytdcbacbilncnnaa.EncL
end
section
namespace Go.Proofs.Ytdcbacbilncnnaa.PMk
open Go.RowKit Go.Proofs.YtdcbacbilncnnaaW.PrintWords Go.Proofs.YtdcbacbilncnnaaW.PrintLast Go.Proofs.YtdcbacbilncnnaaW.PrintMore
attribute [local go_sem] max2_int min2_int max_two min_two max_three min_three max_four min_four   -- for this text's walks alone
set_option linter.unusedVariables false
set_option linter.unusedSimpArgs false
/-! ### enc_Cursor_Uint: function 62 -/
mutual
def enc_Cursor_Uint.l0 : Nat → Int → Int → ByteArray → Int → Int → Option (Int × ByteArray × Int × Int)
 | 0, _, _, _, _, _ => none
 | k + 1, x3, x4, x1000, x1001, x1002 => if (wrap64 (x1001 + x4)) ≥ (x1000.size : Int) then ((enc_Cursor_stop.f x1000 x1001 x1002 4).bind fun bt252 => (some (0, bt252.1, bt252.2.1, bt252.2.2))) else (if 0 ≤ (wrap64 (x1001 + x4)) then (if (wrap64 (x1001 + x4)) < (x1000.size : Int) then (if x4 = 9 then (if (bt x1000 (wrap64 (x1001 + x4))) > 1 then (enc_Cursor_Uint.j1 k x3 x4 (bt x1000 (wrap64 (x1001 + x4))) true x1000 x1001 x1002) else (if x4 > 0 then (enc_Cursor_Uint.j1 k x3 x4 (bt x1000 (wrap64 (x1001 + x4))) ((bt x1000 (wrap64 (x1001 + x4))) == 0) x1000 x1001 x1002) else (enc_Cursor_Uint.j1 k x3 x4 (bt x1000 (wrap64 (x1001 + x4))) false x1000 x1001 x1002))) else (if x4 > 0 then (enc_Cursor_Uint.j1 k x3 x4 (bt x1000 (wrap64 (x1001 + x4))) ((bt x1000 (wrap64 (x1001 + x4))) == 0) x1000 x1001 x1002) else (enc_Cursor_Uint.j1 k x3 x4 (bt x1000 (wrap64 (x1001 + x4))) false x1000 x1001 x1002))) else (none)) else (none))
def enc_Cursor_Uint.j1 : Nat → Int → Int → Int → Bool → ByteArray → Int → Int → Option (Int × ByteArray × Int × Int)
 | 0, _, _, _, _, _, _, _ => none
 | k + 1, x3, x4, x5, x53, x1000, x1001, x1002 => if x53 = true then ((enc_Cursor_stop.f x1000 x1001 x1002 6).bind fun bt255 => (some (0, bt255.1, bt255.2.1, bt255.2.2))) else (if 0 ≤ (wrap64 (7 * x4)) then (if x5 < 128 then (some (Go.bits .or .u64 x3 (shl .u64 (IntKind.u64.wrap (Go.bits .andNot .u8 x5 128)) (wrap64 (7 * x4))), x1000, wrap64 (x1001 + (wrap64 (x4 + 1))), x1002)) else (enc_Cursor_Uint.l0 k (Go.bits .or .u64 x3 (shl .u64 (IntKind.u64.wrap (Go.bits .andNot .u8 x5 128)) (wrap64 (7 * x4)))) (wrap64 (x4 + 1)) x1000 x1001 x1002)) else (none))
end
def enc_Cursor_Uint.f (k : Nat) (s0_0 : ByteArray) (s0_1 : Int) (s0_2 : Int) : Option (Int × ByteArray × Int × Int) := if s0_2 = 0 then (enc_Cursor_Uint.l0 k 0 0 s0_0 s0_1 s0_2) else (some (0, s0_0, s0_1, s0_2))
set_option maxHeartbeats 8000000 in
set_option maxRecDepth 100000 in
theorem enc_Cursor_Uint.calls (k : Nat) (g : Nat) (s0_0 : ByteArray) (s0_1 : Int) (s0_2 : Int) (r1 : Int) (r2 : ByteArray) (r3 : Int) (r4 : Int) (w0 w : World) (hI : IsS138 w0 w g s0_0 s0_1 s0_2) (hB : Below w0.heap.size w0 w) (h : enc_Cursor_Uint.f k s0_0 s0_1 s0_2 = some (r1, r2, r3, r4)) :
  Calls Try.prog 62 #[.pointer (some ⟨g, 0, none⟩)] w fun e w' => e = .returned (.int .u64 r1) ∧ IsS138 w0 w' g r2 r3 r4 ∧ Below w0.heap.size w0 w' ∧ KeepBut w w' g none := by
 have HI0 := Aside0.mk hI
 have HK := Aside0.mk (KeepBut.refl w g none)
 have HL := Aside0.mk hB.size
 clear hI
 have HW0 := Aside0.mk hB.size
 have HB := Aside0.mk hB
 clear hB
 have H : (if s0_2 = 0 then (enc_Cursor_Uint.l0 k 0 0 s0_0 s0_1 s0_2) else (some (0, s0_0, s0_1, s0_2))) = some (r1, r2, r3, r4) := h
 clear h
 by_cases c2 : s0_2 = 0
 ·rw [if_pos c2] at H
  have c2b0 : (s0_2 == 0) = true := beq_iff_eq.mpr c2
  have c2b1 : (s0_2 != 0) = false := bne_eq_false_iff_eq.mpr c2
  clear c2
  have H' := Aside0.mk H
  clear H
  obtain ⟨HGz3, hgz3⟩ := HI0.out
  have hcz3_0 := cellS138_0 HGz3
  have hcz3_1 := cellS138_1 HGz3
  have hcz3_2 := cellS138_2 HGz3
  have hfz3_0 := blk_frozen HGz3 0
  have hfz3_1 := blk_frozen HGz3 1
  have hfz3_2 := blk_frozen HGz3 2
  clear HGz3 hgz3
  go_enter Try.func62, Try.ntmps62
  go_wp2
  repeat (go_quiet (fail); try go_wp2)
  go_loopg [3, 4] k (fun kq v3 v4 w' => ∃ (x3_1 : Int) (x4_1 : Int) (x1000_1 : ByteArray) (x1001_1 : Int) (x1002_1 : Int), v3 = .int .u64 x3_1 ∧ v4 = .int .i64 x4_1 ∧ Aside0 (enc_Cursor_Uint.l0 kq x3_1 x4_1 x1000_1 x1001_1 x1002_1 = some (r1, r2, r3, r4)) ∧ Aside0 (kq ≤ k) ∧ Aside0 (IsS138 w0 w' g x1000_1 x1001_1 x1002_1) ∧ Aside0 (KeepBut w w' g none) ∧ Aside0 (Below w0.heap.size w0 w'))
  case atStart => exact ⟨(0), (0), (s0_0), (s0_1), (s0_2), (by first | rfl | (simp; done) | (simp [*]; done)), (by first | rfl | (simp; done) | (simp [*]; done)), H', ⟨Nat.le_refl _⟩, ⟨by repeat (first | (with_reducible first | exact HI0.out | apply IsS138.alloc | apply IsS138.drewN | apply IsS138.drew | apply IsS138.set_0 | apply IsS138.set_1 | apply IsS138.set_2) | exact HI0.out)⟩, ⟨by repeat (first | (with_reducible first | exact HK.out | apply KeepBut.set_ | apply keep_drewN | apply keep_drew | apply keep_alloc) | exact HK.out)⟩, ⟨by repeat (first | (with_reducible first | exact HB.out | apply below_alloc | apply pw_below_drewN | apply below_drew1 | refine below_set ?_ (IsS138.ge HI0.out)) | exact HB.out)⟩⟩
  case round =>
   clear H'
   try clear c2
   try clear c2b0
   try clear c2b1
   try clear p2
   try clear hcz3_0
   try clear hcz3_1
   try clear hcz3_2
   try clear hfz3_0
   try clear hfz3_1
   try clear hfz3_2
   obtain ⟨x3_1, x4_1, x1000_1, x1001_1, x1002_1, rfl, rfl, HA, HK1, HI0, HK, HB⟩ := hrel
   cases gk with
   | zero => exact absurd HA.out (by simp [enc_Cursor_Uint.l0])
   | succ k1 =>
    have H := HA.out
    clear HA
    simp only [enc_Cursor_Uint.l0] at H
    by_cases c4 : (wrap64 (x1001_1 + x4_1)) ≥ (x1000_1.size : Int)
    ·rw [if_pos c4] at H
     have c4b0 : decide ((x1000_1.size : Int) ≤ (wrap64 (x1001_1 + x4_1))) = true := decide_eq_true c4
     clear c4
     replace H := Option.bind_eq_some_iff.mp H
     obtain ⟨⟨t252, t253, t254⟩, A50, H⟩ := H
     replace H : (some (0, t252, t253, t254)) = some (r1, r2, r3, r4) := H
     have A5 := Aside0.mk A50
     clear A50
     simp only [Option.some.injEq, Prod.mk.injEq] at H
     obtain ⟨rfl, rfl, rfl, rfl⟩ := H
     obtain ⟨HGz6, hgz6⟩ := HI0.out
     have hcz6_0 := cellS138_0 HGz6
     have hcz6_1 := cellS138_1 HGz6
     have hcz6_2 := cellS138_2 HGz6
     have hfz6_0 := blk_frozen HGz6 0
     have hfz6_1 := blk_frozen HGz6 1
     have hfz6_2 := blk_frozen HGz6 2
     clear HGz6 hgz6
     go_wp2_with (first | (go_at_call 88; (with_reducible refine (enc_Cursor_stop.calls g x1000_1 x1001_1 x1002_1 4 t252 t253 t254 w0 _ ?side1 ?side2 A5.out).mono ?_); (case side1 => repeat (first | (with_reducible first | exact HI0.out | apply IsS138.alloc | apply IsS138.drewN | apply IsS138.drew | apply IsS138.set_0 | apply IsS138.set_1 | apply IsS138.set_2) | exact HI0.out)); (case side2 => repeat (first | (with_reducible first | exact HB.out | apply below_alloc | apply pw_below_drewN | apply below_drew1 | refine below_set ?_ (IsS138.ge HI0.out)) | exact HB.out)); rintro e w7 ⟨rfl, hi, hb, hk⟩; replace HK := Aside0.mk (KeepBut.trans (by repeat (first | (with_reducible first | exact HK.out | apply KeepBut.set_ | apply keep_drewN | apply keep_drew | apply keep_alloc) | exact HK.out)) hk (.inl rfl)); replace HB := Aside0.mk (hb); replace HI0 := Aside0.mk (hi); (try clear hb); (try clear hk); (try clear hi)))
     repeat (go_quiet (first | (go_at_call 88; (with_reducible refine (enc_Cursor_stop.calls g x1000_1 x1001_1 x1002_1 4 t252 t253 t254 w0 _ ?side1 ?side2 A5.out).mono ?_); (case side1 => repeat (first | (with_reducible first | exact HI0.out | apply IsS138.alloc | apply IsS138.drewN | apply IsS138.drew | apply IsS138.set_0 | apply IsS138.set_1 | apply IsS138.set_2) | exact HI0.out)); (case side2 => repeat (first | (with_reducible first | exact HB.out | apply below_alloc | apply pw_below_drewN | apply below_drew1 | refine below_set ?_ (IsS138.ge HI0.out)) | exact HB.out)); rintro e w7 ⟨rfl, hi, hb, hk⟩; replace HK := Aside0.mk (KeepBut.trans (by repeat (first | (with_reducible first | exact HK.out | apply KeepBut.set_ | apply keep_drewN | apply keep_drew | apply keep_alloc) | exact HK.out)) hk (.inl rfl)); replace HB := Aside0.mk (hb); replace HI0 := Aside0.mk (hi); (try clear hb); (try clear hk); (try clear hi))); try go_wp2_with (first | (go_at_call 88; (with_reducible refine (enc_Cursor_stop.calls g x1000_1 x1001_1 x1002_1 4 t252 t253 t254 w0 _ ?side1 ?side2 A5.out).mono ?_); (case side1 => repeat (first | (with_reducible first | exact HI0.out | apply IsS138.alloc | apply IsS138.drewN | apply IsS138.drew | apply IsS138.set_0 | apply IsS138.set_1 | apply IsS138.set_2) | exact HI0.out)); (case side2 => repeat (first | (with_reducible first | exact HB.out | apply below_alloc | apply pw_below_drewN | apply below_drew1 | refine below_set ?_ (IsS138.ge HI0.out)) | exact HB.out)); rintro e w7 ⟨rfl, hi, hb, hk⟩; replace HK := Aside0.mk (KeepBut.trans (by repeat (first | (with_reducible first | exact HK.out | apply KeepBut.set_ | apply keep_drewN | apply keep_drew | apply keep_alloc) | exact HK.out)) hk (.inl rfl)); replace HB := Aside0.mk (hb); replace HI0 := Aside0.mk (hi); (try clear hb); (try clear hk); (try clear hi))))
     go_ret
     exact ⟨by first | rfl | (simp [errW_none, errW_some] <;> rfl) | (simp [*, errW_none, errW_some] <;> rfl), by repeat (first | (with_reducible first | exact HI0.out | apply IsS138.alloc | apply IsS138.drewN | apply IsS138.drew | apply IsS138.set_0 | apply IsS138.set_1 | apply IsS138.set_2) | exact HI0.out), by repeat (first | (with_reducible first | exact HB.out | apply below_alloc | apply pw_below_drewN | apply below_drew1 | refine below_set ?_ (IsS138.ge HI0.out)) | exact HB.out), by repeat (first | (with_reducible first | exact HK.out | apply KeepBut.set_ | apply keep_drewN | apply keep_drew | apply keep_alloc) | exact HK.out)⟩
    ·rw [if_neg c4] at H
     have c4b0 : decide ((x1000_1.size : Int) ≤ (wrap64 (x1001_1 + x4_1))) = false := decide_eq_false c4
     clear c4
     obtain ⟨ji8, hji8⟩ : ∃ j_ : Int, (wrap64 (x1001_1 + x4_1)) = j_ := ⟨_, rfl⟩
     replace H : (if 0 ≤ (ji8) then (if (ji8) < (x1000_1.size : Int) then (if x4_1 = 9 then (if (bt x1000_1 (ji8)) > 1 then (enc_Cursor_Uint.j1 k1 x3_1 x4_1 (bt x1000_1 (ji8)) true x1000_1 x1001_1 x1002_1) else (if x4_1 > 0 then (enc_Cursor_Uint.j1 k1 x3_1 x4_1 (bt x1000_1 (ji8)) ((bt x1000_1 (ji8)) == 0) x1000_1 x1001_1 x1002_1) else (enc_Cursor_Uint.j1 k1 x3_1 x4_1 (bt x1000_1 (ji8)) false x1000_1 x1001_1 x1002_1))) else (if x4_1 > 0 then (enc_Cursor_Uint.j1 k1 x3_1 x4_1 (bt x1000_1 (ji8)) ((bt x1000_1 (ji8)) == 0) x1000_1 x1001_1 x1002_1) else (enc_Cursor_Uint.j1 k1 x3_1 x4_1 (bt x1000_1 (ji8)) false x1000_1 x1001_1 x1002_1))) else (none)) else (none)) = some (r1, r2, r3, r4) := by first | (rw [hji8] at H; exact H) | (simp only [hji8] at H ⊢; exact H)
     (try rw [hji8] at c4b0)
     have hji8w : (IntKind.i64.wrap (x1001_1 + x4_1)) = ji8 := (i64_w _).trans hji8
     by_cases c9 : 0 ≤ (ji8)
     ·rw [if_pos c9] at H
      have c9b0 : decide (0 ≤ (ji8)) = true := decide_eq_true c9
      clear c9
      by_cases c10 : (ji8) < (x1000_1.size : Int)
      ·rw [if_pos c10] at H
       have c10b0 : decide ((ji8) < (x1000_1.size : Int)) = true := decide_eq_true c10
       clear c10
       have HC12 := Aside0.mk H
       clear H
       obtain ⟨HGz13, hgz13⟩ := HI0.out
       have hcz13_0 := cellS138_0 HGz13
       have hcz13_1 := cellS138_1 HGz13
       have hcz13_2 := cellS138_2 HGz13
       have hfz13_0 := blk_frozen HGz13 0
       have hfz13_1 := blk_frozen HGz13 1
       have hfz13_2 := blk_frozen HGz13 2
       clear HGz13 hgz13
       have p11 : 0 ≤ ((ji8) : Int) := of_decide_eq_true (by first | (with_reducible assumption) | assumption)
       have q11 : (ji8) < (x1000_1.size : Int) := of_decide_eq_true (by first | (with_reducible assumption) | assumption)
       have hx11 := bt_at x1000_1 (ji8)
       replace p11 := eq_true p11
       replace q11 := eq_true q11
       go_upto_region 8 with (fail)
       repeat (go_quiet (fail); go_upto_region 8 with (fail))
       go_cut [53] (fun v53 wc => ∃ (kq : Nat) (x53_11 : Bool), v53 = .bool x53_11 ∧ Aside0 (enc_Cursor_Uint.j1 kq x3_1 x4_1 (bt x1000_1 (ji8)) x53_11 x1000_1 x1001_1 x1002_1 = some (r1, r2, r3, r4)) ∧ Aside0 (kq ≤ k1) ∧ Aside0 (IsS138 w0 wc g x1000_1 x1001_1 x1002_1) ∧ Aside0 (KeepBut w wc g none) ∧ Aside0 (Below w0.heap.size w0 wc))
       case first =>
        have H := HC12.out
        clear HC12
        by_cases c14 : x4_1 = 9
        ·rw [if_pos c14] at H
         have c14b0 : (x4_1 == 9) = true := beq_iff_eq.mpr c14
         have c14b1 : (x4_1 != 9) = false := bne_eq_false_iff_eq.mpr c14
         clear c14
         (first | rw [c14b0] | (simp only [i64_w, i32_w]; rw [c14b0]) | skip)
         by_cases c15 : (bt x1000_1 (ji8)) > 1
         ·rw [if_pos c15] at H
          have c15b0 : decide (1 < (bt x1000_1 (ji8))) = true := decide_eq_true c15
          clear c15
          have H' := Aside0.mk H
          clear H
          go_wp2
          repeat (go_quiet (fail); try go_wp2)
          go_meet
          case rel => exact ⟨_, (true), (by first | rfl | (simp; done) | (simp [*]; done)), H', ⟨by have := HK1.out; first | omega | exact Nat.le_refl _⟩, ⟨by repeat (first | (with_reducible first | exact HI0.out | apply IsS138.alloc | apply IsS138.drewN | apply IsS138.drew | apply IsS138.set_0 | apply IsS138.set_1 | apply IsS138.set_2) | exact HI0.out)⟩, ⟨by repeat (first | (with_reducible first | exact HK.out | apply KeepBut.set_ | apply keep_drewN | apply keep_drew | apply keep_alloc) | exact HK.out)⟩, ⟨by repeat (first | (with_reducible first | exact HB.out | apply below_alloc | apply pw_below_drewN | apply below_drew1 | refine below_set ?_ (IsS138.ge HI0.out)) | exact HB.out)⟩⟩
         ·rw [if_neg c15] at H
          have c15b0 : decide (1 < (bt x1000_1 (ji8))) = false := decide_eq_false c15
          clear c15
          by_cases c16 : x4_1 > 0
          ·rw [if_pos c16] at H
           have c16b0 : decide (0 < x4_1) = true := decide_eq_true c16
           clear c16
           have H' := Aside0.mk H
           clear H
           go_wp2
           repeat (go_quiet (fail); try go_wp2)
           go_meet
           case rel => exact ⟨_, (((bt x1000_1 (ji8)) == 0)), (by first | rfl | (simp; done) | (simp only [← hji8] <;> (first | rfl | simp)) | (simp [*]; done)), (by first | exact H' | (subst hji8; exact H') | (subst hji8; exact H')), ⟨by have := HK1.out; first | omega | exact Nat.le_refl _⟩, ⟨by repeat (first | (with_reducible first | exact HI0.out | apply IsS138.alloc | apply IsS138.drewN | apply IsS138.drew | apply IsS138.set_0 | apply IsS138.set_1 | apply IsS138.set_2) | exact HI0.out)⟩, ⟨by repeat (first | (with_reducible first | exact HK.out | apply KeepBut.set_ | apply keep_drewN | apply keep_drew | apply keep_alloc) | exact HK.out)⟩, ⟨by repeat (first | (with_reducible first | exact HB.out | apply below_alloc | apply pw_below_drewN | apply below_drew1 | refine below_set ?_ (IsS138.ge HI0.out)) | exact HB.out)⟩⟩
          ·rw [if_neg c16] at H
           have c16b0 : decide (0 < x4_1) = false := decide_eq_false c16
           clear c16
           have H' := Aside0.mk H
           clear H
           go_wp2
           repeat (go_quiet (fail); try go_wp2)
           go_meet
           case rel => exact ⟨_, (false), (by first | rfl | (simp; done) | (simp [*]; done)), H', ⟨by have := HK1.out; first | omega | exact Nat.le_refl _⟩, ⟨by repeat (first | (with_reducible first | exact HI0.out | apply IsS138.alloc | apply IsS138.drewN | apply IsS138.drew | apply IsS138.set_0 | apply IsS138.set_1 | apply IsS138.set_2) | exact HI0.out)⟩, ⟨by repeat (first | (with_reducible first | exact HK.out | apply KeepBut.set_ | apply keep_drewN | apply keep_drew | apply keep_alloc) | exact HK.out)⟩, ⟨by repeat (first | (with_reducible first | exact HB.out | apply below_alloc | apply pw_below_drewN | apply below_drew1 | refine below_set ?_ (IsS138.ge HI0.out)) | exact HB.out)⟩⟩
        ·rw [if_neg c14] at H
         have c14b0 : (x4_1 == 9) = false := beq_eq_false_iff_ne.mpr c14
         have c14b1 : (x4_1 != 9) = true := bne_iff_ne.mpr c14
         (first | rw [c14b0] | (simp only [i64_w, i32_w]; rw [c14b0]) | skip)
         by_cases c17 : x4_1 > 0
         ·rw [if_pos c17] at H
          have c17b0 : decide (0 < x4_1) = true := decide_eq_true c17
          clear c17
          have H' := Aside0.mk H
          clear H
          go_wp2
          repeat (go_quiet (fail); try go_wp2)
          go_meet
          case rel => exact ⟨_, (((bt x1000_1 (ji8)) == 0)), (by first | rfl | (simp; done) | (simp only [← hji8] <;> (first | rfl | simp)) | (simp [*]; done)), (by first | exact H' | (subst hji8; exact H') | (subst hji8; exact H')), ⟨by have := HK1.out; first | omega | exact Nat.le_refl _⟩, ⟨by repeat (first | (with_reducible first | exact HI0.out | apply IsS138.alloc | apply IsS138.drewN | apply IsS138.drew | apply IsS138.set_0 | apply IsS138.set_1 | apply IsS138.set_2) | exact HI0.out)⟩, ⟨by repeat (first | (with_reducible first | exact HK.out | apply KeepBut.set_ | apply keep_drewN | apply keep_drew | apply keep_alloc) | exact HK.out)⟩, ⟨by repeat (first | (with_reducible first | exact HB.out | apply below_alloc | apply pw_below_drewN | apply below_drew1 | refine below_set ?_ (IsS138.ge HI0.out)) | exact HB.out)⟩⟩
         ·rw [if_neg c17] at H
          have c17b0 : decide (0 < x4_1) = false := decide_eq_false c17
          clear c17
          have H' := Aside0.mk H
          clear H
          go_wp2
          repeat (go_quiet (fail); try go_wp2)
          go_meet
          case rel => exact ⟨_, (false), (by first | rfl | (simp; done) | (simp [*]; done)), H', ⟨by have := HK1.out; first | omega | exact Nat.le_refl _⟩, ⟨by repeat (first | (with_reducible first | exact HI0.out | apply IsS138.alloc | apply IsS138.drewN | apply IsS138.drew | apply IsS138.set_0 | apply IsS138.set_1 | apply IsS138.set_2) | exact HI0.out)⟩, ⟨by repeat (first | (with_reducible first | exact HK.out | apply KeepBut.set_ | apply keep_drewN | apply keep_drew | apply keep_alloc) | exact HK.out)⟩, ⟨by repeat (first | (with_reducible first | exact HB.out | apply below_alloc | apply pw_below_drewN | apply below_drew1 | refine below_set ?_ (IsS138.ge HI0.out)) | exact HB.out)⟩⟩
       case rest =>
        clear HC12
        try clear c1
        try clear p1
        try clear q1
        try clear hx1
        try clear c2
        try clear c2b0
        try clear c2b1
        try clear p2
        try clear c4
        try clear c4b0
        try clear c6
        try clear p6
        try clear c9
        try clear c9b0
        try clear c10
        try clear c10b0
        try clear p11
        try clear q11
        try clear hx11
        try clear c14
        try clear c14b0
        try clear c14b1
        try clear c15
        try clear c15b0
        try clear c16
        try clear c16b0
        try clear c17
        try clear c17b0
        try clear hcz13_0
        try clear hcz13_1
        try clear hcz13_2
        try clear hcz3_0
        try clear hcz3_1
        try clear hcz3_2
        try clear hcz6_0
        try clear hcz6_1
        try clear hcz6_2
        try clear hfz13_0
        try clear hfz13_1
        try clear hfz13_2
        try clear hfz3_0
        try clear hfz3_1
        try clear hfz3_2
        try clear hfz6_0
        try clear hfz6_1
        try clear hfz6_2
        try clear p11
        try clear p2
        try clear q11
        obtain ⟨kq, x53_11, rfl, HA, HJ11, HI0, HK, HB⟩ := hcut
        cases kq with
        | zero => exact absurd HA.out (by simp [enc_Cursor_Uint.j1])
        | succ kj11 =>
         have H := HA.out
         clear HA
         simp only [enc_Cursor_Uint.j1] at H
         by_cases c18 : x53_11 = true
         ·subst c18
          have H1 : ((enc_Cursor_stop.f x1000_1 x1001_1 x1002_1 6).bind fun bt255 => (some (0, bt255.1, bt255.2.1, bt255.2.2))) = some (r1, r2, r3, r4) := by rw [if_pos rfl] at H; exact H
          clear H
          have H := H1
          clear H1
          replace H := Option.bind_eq_some_iff.mp H
          obtain ⟨⟨t255, t256, t257⟩, A190, H⟩ := H
          replace H : (some (0, t255, t256, t257)) = some (r1, r2, r3, r4) := H
          have A19 := Aside0.mk A190
          clear A190
          simp only [Option.some.injEq, Prod.mk.injEq] at H
          obtain ⟨rfl, rfl, rfl, rfl⟩ := H
          go_wp2_with (first | (go_at_call 88; (with_reducible refine (enc_Cursor_stop.calls g x1000_1 x1001_1 x1002_1 6 t255 t256 t257 w0 _ ?side1 ?side2 A19.out).mono ?_); (case side1 => repeat (first | (with_reducible first | exact HI0.out | apply IsS138.alloc | apply IsS138.drewN | apply IsS138.drew | apply IsS138.set_0 | apply IsS138.set_1 | apply IsS138.set_2) | exact HI0.out)); (case side2 => repeat (first | (with_reducible first | exact HB.out | apply below_alloc | apply pw_below_drewN | apply below_drew1 | refine below_set ?_ (IsS138.ge HI0.out)) | exact HB.out)); rintro e w20 ⟨rfl, hi, hb, hk⟩; replace HK := Aside0.mk (KeepBut.trans (by repeat (first | (with_reducible first | exact HK.out | apply KeepBut.set_ | apply keep_drewN | apply keep_drew | apply keep_alloc) | exact HK.out)) hk (.inl rfl)); replace HB := Aside0.mk (hb); replace HI0 := Aside0.mk (hi); (try clear hb); (try clear hk); (try clear hi)))
          repeat (go_quiet (first | (go_at_call 88; (with_reducible refine (enc_Cursor_stop.calls g x1000_1 x1001_1 x1002_1 6 t255 t256 t257 w0 _ ?side1 ?side2 A19.out).mono ?_); (case side1 => repeat (first | (with_reducible first | exact HI0.out | apply IsS138.alloc | apply IsS138.drewN | apply IsS138.drew | apply IsS138.set_0 | apply IsS138.set_1 | apply IsS138.set_2) | exact HI0.out)); (case side2 => repeat (first | (with_reducible first | exact HB.out | apply below_alloc | apply pw_below_drewN | apply below_drew1 | refine below_set ?_ (IsS138.ge HI0.out)) | exact HB.out)); rintro e w20 ⟨rfl, hi, hb, hk⟩; replace HK := Aside0.mk (KeepBut.trans (by repeat (first | (with_reducible first | exact HK.out | apply KeepBut.set_ | apply keep_drewN | apply keep_drew | apply keep_alloc) | exact HK.out)) hk (.inl rfl)); replace HB := Aside0.mk (hb); replace HI0 := Aside0.mk (hi); (try clear hb); (try clear hk); (try clear hi))); try go_wp2_with (first | (go_at_call 88; (with_reducible refine (enc_Cursor_stop.calls g x1000_1 x1001_1 x1002_1 6 t255 t256 t257 w0 _ ?side1 ?side2 A19.out).mono ?_); (case side1 => repeat (first | (with_reducible first | exact HI0.out | apply IsS138.alloc | apply IsS138.drewN | apply IsS138.drew | apply IsS138.set_0 | apply IsS138.set_1 | apply IsS138.set_2) | exact HI0.out)); (case side2 => repeat (first | (with_reducible first | exact HB.out | apply below_alloc | apply pw_below_drewN | apply below_drew1 | refine below_set ?_ (IsS138.ge HI0.out)) | exact HB.out)); rintro e w20 ⟨rfl, hi, hb, hk⟩; replace HK := Aside0.mk (KeepBut.trans (by repeat (first | (with_reducible first | exact HK.out | apply KeepBut.set_ | apply keep_drewN | apply keep_drew | apply keep_alloc) | exact HK.out)) hk (.inl rfl)); replace HB := Aside0.mk (hb); replace HI0 := Aside0.mk (hi); (try clear hb); (try clear hk); (try clear hi))))
          go_ret
          exact ⟨by first | rfl | (simp [errW_none, errW_some] <;> rfl) | (simp only [← hji8]; first | rfl | (simp [errW_none, errW_some] <;> rfl)) | (simp [*, errW_none, errW_some] <;> rfl), by repeat (first | (with_reducible first | exact HI0.out | apply IsS138.alloc | apply IsS138.drewN | apply IsS138.drew | apply IsS138.set_0 | apply IsS138.set_1 | apply IsS138.set_2) | exact HI0.out), by repeat (first | (with_reducible first | exact HB.out | apply below_alloc | apply pw_below_drewN | apply below_drew1 | refine below_set ?_ (IsS138.ge HI0.out)) | exact HB.out), by repeat (first | (with_reducible first | exact HK.out | apply KeepBut.set_ | apply keep_drewN | apply keep_drew | apply keep_alloc) | exact HK.out)⟩
         ·replace c18 := Bool.eq_false_iff.mpr c18
          subst c18
          have H1 : (if 0 ≤ (wrap64 (7 * x4_1)) then (if (bt x1000_1 (ji8)) < 128 then (some (Go.bits .or .u64 x3_1 (shl .u64 (IntKind.u64.wrap (Go.bits .andNot .u8 (bt x1000_1 (ji8)) 128)) (wrap64 (7 * x4_1))), x1000_1, wrap64 (x1001_1 + (wrap64 (x4_1 + 1))), x1002_1)) else (enc_Cursor_Uint.l0 kj11 (Go.bits .or .u64 x3_1 (shl .u64 (IntKind.u64.wrap (Go.bits .andNot .u8 (bt x1000_1 (ji8)) 128)) (wrap64 (7 * x4_1)))) (wrap64 (x4_1 + 1)) x1000_1 x1001_1 x1002_1)) else (none)) = some (r1, r2, r3, r4) := by rw [if_neg (show ¬ (false = true) by decide)] at H; exact H
          clear H
          have H := H1
          clear H1
          obtain ⟨ji21, hji21⟩ : ∃ j_ : Int, (wrap64 (7 * x4_1)) = j_ := ⟨_, rfl⟩
          replace H : (if 0 ≤ (ji21) then (if (bt x1000_1 (ji8)) < 128 then (some (Go.bits .or .u64 x3_1 (shl .u64 (IntKind.u64.wrap (Go.bits .andNot .u8 (bt x1000_1 (ji8)) 128)) (ji21)), x1000_1, wrap64 (x1001_1 + (wrap64 (x4_1 + 1))), x1002_1)) else (enc_Cursor_Uint.l0 kj11 (Go.bits .or .u64 x3_1 (shl .u64 (IntKind.u64.wrap (Go.bits .andNot .u8 (bt x1000_1 (ji8)) 128)) (ji21))) (wrap64 (x4_1 + 1)) x1000_1 x1001_1 x1002_1)) else (none)) = some (r1, r2, r3, r4) := by first | (rw [hji21] at H; exact H) | (simp only [hji21] at H ⊢; exact H)
          have hji21w : (IntKind.i64.wrap (7 * x4_1)) = ji21 := (i64_w _).trans hji21
          by_cases c22 : 0 ≤ (ji21)
          ·rw [if_pos c22] at H
           have c22b0 := eq_true c22
           have c22b1 : decide (0 ≤ (ji21)) = true := decide_eq_true c22
           clear c22
           obtain ⟨ji23, hji23⟩ : ∃ j_ : Int, (shl .u64 (IntKind.u64.wrap (Go.bits .andNot .u8 (bt x1000_1 (ji8)) 128)) (ji21)) = j_ := ⟨_, rfl⟩
           replace H : (if (bt x1000_1 (ji8)) < 128 then (some (Go.bits .or .u64 x3_1 (ji23), x1000_1, wrap64 (x1001_1 + (wrap64 (x4_1 + 1))), x1002_1)) else (enc_Cursor_Uint.l0 kj11 (Go.bits .or .u64 x3_1 (ji23)) (wrap64 (x4_1 + 1)) x1000_1 x1001_1 x1002_1)) = some (r1, r2, r3, r4) := by first | (rw [hji23] at H; exact H) | (simp only [hji23] at H ⊢; exact H)
           have hji23_ : (IntKind.u64.wrap ((IntKind.u64.wrap (Go.bits .andNot .u8 (bt x1000_1 (ji8)) 128)) * 2 ^ min (ji21).toNat 64)) = ji23 := hji23
           have hji23z : (ji21) ≤ 64 → (IntKind.u64.wrap ((IntKind.u64.wrap (Go.bits .andNot .u8 (bt x1000_1 (ji8)) 128)) * 2 ^ (ji21).toNat)) = ji23 := shl_small hji23
           by_cases c24 : (bt x1000_1 (ji8)) < 128
           ·rw [if_pos c24] at H
            have c24b0 : decide ((bt x1000_1 (ji8)) < 128) = true := decide_eq_true c24
            clear c24
            simp only [Option.some.injEq, Prod.mk.injEq] at H
            obtain ⟨rfl, rfl, rfl, rfl⟩ := H
            obtain ⟨HGz25, hgz25⟩ := HI0.out
            have hcz25_0 := cellS138_0 HGz25
            have hcz25_1 := cellS138_1 HGz25
            have hcz25_2 := cellS138_2 HGz25
            have hfz25_0 := blk_frozen HGz25 0
            have hfz25_1 := blk_frozen HGz25 1
            have hfz25_2 := blk_frozen HGz25 2
            clear HGz25 hgz25
            go_wp2
            repeat (go_quiet (fail); try go_wp2)
            go_ret
            exact ⟨by first | rfl | (simp [errW_none, errW_some] <;> rfl) | (simp only [← hji8, ← hji21, ← hji23]; first | rfl | (simp [errW_none, errW_some] <;> rfl)) | (simp [*, errW_none, errW_some] <;> rfl), by repeat (first | (with_reducible first | exact HI0.out | apply IsS138.alloc | apply IsS138.drewN | apply IsS138.drew | apply IsS138.set_0 | apply IsS138.set_1 | apply IsS138.set_2) | exact HI0.out), by repeat (first | (with_reducible first | exact HB.out | apply below_alloc | apply pw_below_drewN | apply below_drew1 | refine below_set ?_ (IsS138.ge HI0.out)) | exact HB.out), by repeat (first | (with_reducible first | exact HK.out | apply KeepBut.set_ | apply keep_drewN | apply keep_drew | apply keep_alloc) | exact HK.out)⟩
           ·rw [if_neg c24] at H
            have c24b0 : decide ((bt x1000_1 (ji8)) < 128) = false := decide_eq_false c24
            clear c24
            have H' := Aside0.mk H
            clear H
            go_wp2
            repeat (go_quiet (fail); try go_wp2)
            go_roundg kj11
            case measure => have := HK1.out; have := HJ11.out; omega
            case rel => exact ⟨(Go.bits .or .u64 x3_1 (ji23)), (wrap64 (x4_1 + 1)), (x1000_1), (x1001_1), (x1002_1), (by first | rfl | (simp; done) | (simp only [← hji23] <;> (first | rfl | simp)) | (simp [*]; done)), (by first | rfl | (simp; done) | (simp [*]; done)), (by first | exact H' | (subst hji23; exact H') | (subst hji23; exact H')), ⟨by have := HK1.out; have := HJ11.out; omega⟩, ⟨by repeat (first | (with_reducible first | exact HI0.out | apply IsS138.alloc | apply IsS138.drewN | apply IsS138.drew | apply IsS138.set_0 | apply IsS138.set_1 | apply IsS138.set_2) | exact HI0.out)⟩, ⟨by repeat (first | (with_reducible first | exact HK.out | apply KeepBut.set_ | apply keep_drewN | apply keep_drew | apply keep_alloc) | exact HK.out)⟩, ⟨by repeat (first | (with_reducible first | exact HB.out | apply below_alloc | apply pw_below_drewN | apply below_drew1 | refine below_set ?_ (IsS138.ge HI0.out)) | exact HB.out)⟩⟩
          ·rw [if_neg c22] at H
           exact absurd H (by simp)
      ·rw [if_neg c10] at H
       exact absurd H (by simp)
     ·rw [if_neg c9] at H
      exact absurd H (by simp)
 ·rw [if_neg c2] at H
  have c2b0 : (s0_2 == 0) = false := beq_eq_false_iff_ne.mpr c2
  have c2b1 : (s0_2 != 0) = true := bne_iff_ne.mpr c2
  simp only [Option.some.injEq, Prod.mk.injEq] at H
  obtain ⟨rfl, rfl, rfl, rfl⟩ := H
  obtain ⟨HGz26, hgz26⟩ := HI0.out
  have hcz26_0 := cellS138_0 HGz26
  have hcz26_1 := cellS138_1 HGz26
  have hcz26_2 := cellS138_2 HGz26
  have hfz26_0 := blk_frozen HGz26 0
  have hfz26_1 := blk_frozen HGz26 1
  have hfz26_2 := blk_frozen HGz26 2
  clear HGz26 hgz26
  go_enter Try.func62, Try.ntmps62
  go_wp2
  repeat (go_quiet (fail); try go_wp2)
  go_ret
  exact ⟨by first | rfl | (simp [errW_none, errW_some] <;> rfl) | (simp [*, errW_none, errW_some] <;> rfl), by repeat (first | (with_reducible first | exact HI0.out | apply IsS138.alloc | apply IsS138.drewN | apply IsS138.drew | apply IsS138.set_0 | apply IsS138.set_1 | apply IsS138.set_2) | exact HI0.out), by repeat (first | (with_reducible first | exact HB.out | apply below_alloc | apply pw_below_drewN | apply below_drew1 | refine below_set ?_ (IsS138.ge HI0.out)) | exact HB.out), by repeat (first | (with_reducible first | exact HK.out | apply KeepBut.set_ | apply keep_drewN | apply keep_drew | apply keep_alloc) | exact HK.out)⟩
/-! ### enc_Cursor_Count: function 64 -/
def enc_Cursor_Count.j0 : Nat → Int → Int → Bool → ByteArray → Int → Int → Option (Int × ByteArray × Int × Int)
 | 0, _, _, _, _, _, _ => none
 | k + 1, x5, x6, x36, x1000, x1001, x1002 => if x36 = true then ((enc_Cursor_stop.f x1000 x5 x1002 3).bind fun bt262 => (if bt262.2.2 = 0 then (some (wrap64 (x6), bt262.1, bt262.2.1, bt262.2.2)) else (some (0, bt262.1, bt262.2.1, bt262.2.2)))) else (if x1002 = 0 then (some (wrap64 (x6), x1000, x1001, x1002)) else (some (0, x1000, x1001, x1002)))
def enc_Cursor_Count.f (k : Nat) (s0_0 : ByteArray) (s0_1 : Int) (s0_2 : Int) (a1 : Int) : Option (Int × ByteArray × Int × Int) := if s0_2 = 0 then ((enc_Cursor_Uint.f k s0_0 s0_1 s0_2).bind fun bt258 => (if bt258.2.2.2 = 0 then (if a1 < 0 then (enc_Cursor_Count.j0 k s0_1 bt258.1 true bt258.2.1 bt258.2.2.1 bt258.2.2.2) else (enc_Cursor_Count.j0 k s0_1 bt258.1 (decide (bt258.1 > (IntKind.u64.wrap (a1)))) bt258.2.1 bt258.2.2.1 bt258.2.2.2)) else (enc_Cursor_Count.j0 k s0_1 bt258.1 false bt258.2.1 bt258.2.2.1 bt258.2.2.2))) else (some (0, s0_0, s0_1, s0_2))
set_option maxHeartbeats 8000000 in
set_option maxRecDepth 100000 in
theorem enc_Cursor_Count.calls (k : Nat) (g : Nat) (s0_0 : ByteArray) (s0_1 : Int) (s0_2 : Int) (a1 : Int) (r1 : Int) (r2 : ByteArray) (r3 : Int) (r4 : Int) (w0 w : World) (hI : IsS138 w0 w g s0_0 s0_1 s0_2) (hB : Below w0.heap.size w0 w) (h : enc_Cursor_Count.f k s0_0 s0_1 s0_2 a1 = some (r1, r2, r3, r4)) :
  Calls Try.prog 64 #[.pointer (some ⟨g, 0, none⟩), .int .i64 a1] w fun e w' => e = .returned (.int .i64 r1) ∧ IsS138 w0 w' g r2 r3 r4 ∧ Below w0.heap.size w0 w' ∧ KeepBut w w' g none := by
 have HI0 := Aside0.mk hI
 have HK := Aside0.mk (KeepBut.refl w g none)
 have HL := Aside0.mk hB.size
 clear hI
 have HW0 := Aside0.mk hB.size
 have HB := Aside0.mk hB
 clear hB
 have H : (if s0_2 = 0 then ((enc_Cursor_Uint.f k s0_0 s0_1 s0_2).bind fun bt258 => (if bt258.2.2.2 = 0 then (if a1 < 0 then (enc_Cursor_Count.j0 k s0_1 bt258.1 true bt258.2.1 bt258.2.2.1 bt258.2.2.2) else (enc_Cursor_Count.j0 k s0_1 bt258.1 (decide (bt258.1 > (IntKind.u64.wrap (a1)))) bt258.2.1 bt258.2.2.1 bt258.2.2.2)) else (enc_Cursor_Count.j0 k s0_1 bt258.1 false bt258.2.1 bt258.2.2.1 bt258.2.2.2))) else (some (0, s0_0, s0_1, s0_2))) = some (r1, r2, r3, r4) := h
 clear h
 by_cases c3 : s0_2 = 0
 ·rw [if_pos c3] at H
  have c3b0 : (s0_2 == 0) = true := beq_iff_eq.mpr c3
  have c3b1 : (s0_2 != 0) = false := bne_eq_false_iff_eq.mpr c3
  clear c3
  replace H := Option.bind_eq_some_iff.mp H
  obtain ⟨⟨t258, t259, t260, t261⟩, A40, H⟩ := H
  replace H : (if t261 = 0 then (if a1 < 0 then (enc_Cursor_Count.j0 k s0_1 t258 true t259 t260 t261) else (enc_Cursor_Count.j0 k s0_1 t258 (decide (t258 > (IntKind.u64.wrap (a1)))) t259 t260 t261)) else (enc_Cursor_Count.j0 k s0_1 t258 false t259 t260 t261)) = some (r1, r2, r3, r4) := H
  have A4 := Aside0.mk A40
  clear A40
  have HC5 := Aside0.mk H
  clear H
  obtain ⟨HGz6, hgz6⟩ := HI0.out
  have hcz6_0 := cellS138_0 HGz6
  have hcz6_1 := cellS138_1 HGz6
  have hcz6_2 := cellS138_2 HGz6
  have hfz6_0 := blk_frozen HGz6 0
  have hfz6_1 := blk_frozen HGz6 1
  have hfz6_2 := blk_frozen HGz6 2
  clear HGz6 hgz6
  go_enter Try.func64, Try.ntmps64
  go_upto_region 5 with (first | ((with_reducible refine gate_callee (f := 62) rfl ?_); refine gl_ (some 21) Try.func62 #[.pointer (some ⟨g, 0, none⟩)] ?_; (with_reducible refine (enc_Cursor_Uint.calls k g s0_0 s0_1 s0_2 t258 t259 t260 t261 w0 _ ?side1 ?side2 A4.out).mono ?_); (case side1 => repeat (first | (with_reducible first | exact HI0.out | apply IsS138.alloc | apply IsS138.drewN | apply IsS138.drew | apply IsS138.set_0 | apply IsS138.set_1 | apply IsS138.set_2) | exact HI0.out)); (case side2 => repeat (first | (with_reducible first | exact HB.out | apply below_alloc | apply pw_below_drewN | apply below_drew1 | refine below_set ?_ (IsS138.ge HI0.out)) | exact HB.out)); rintro e w7 ⟨rfl, hi, hb, hk⟩; refine ⟨_, rfl, ?_⟩; replace HK := Aside0.mk (KeepBut.trans (by repeat (first | (with_reducible first | exact HK.out | apply KeepBut.set_ | apply keep_drewN | apply keep_drew | apply keep_alloc) | exact HK.out)) hk (.inl rfl)); replace HB := Aside0.mk (hb); replace HI0 := Aside0.mk (hi); (try clear hb); (try clear hk); (try clear hi)))
  (try simp only [Act.put, q1_, q2_, q3_])
  go_cut [36] (fun v36 wc => ∃ (kq : Nat) (x36_4 : Bool), v36 = .bool x36_4 ∧ Aside0 (enc_Cursor_Count.j0 kq s0_1 t258 x36_4 t259 t260 t261 = some (r1, r2, r3, r4)) ∧ Aside0 (kq ≤ k) ∧ Aside0 (IsS138 w0 wc g t259 t260 t261) ∧ Aside0 (KeepBut w wc g none) ∧ Aside0 (Below w0.heap.size w0 wc))
  case first =>
   have H := HC5.out
   clear HC5
   by_cases c8 : t261 = 0
   ·rw [if_pos c8] at H
    have c8b0 : (t261 == 0) = true := beq_iff_eq.mpr c8
    have c8b1 : (t261 != 0) = false := bne_eq_false_iff_eq.mpr c8
    clear c8
    (first | rw [c8b0] | (simp only [i64_w, i32_w]; rw [c8b0]) | skip)
    by_cases c9 : a1 < 0
    ·rw [if_pos c9] at H
     have c9b0 : decide (a1 < 0) = true := decide_eq_true c9
     clear c9
     have H' := Aside0.mk H
     clear H
     obtain ⟨HGz10, hgz10⟩ := HI0.out
     have hcz10_0 := cellS138_0 HGz10
     have hcz10_1 := cellS138_1 HGz10
     have hcz10_2 := cellS138_2 HGz10
     have hfz10_0 := blk_frozen HGz10 0
     have hfz10_1 := blk_frozen HGz10 1
     have hfz10_2 := blk_frozen HGz10 2
     clear HGz10 hgz10
     go_wp2
     go_meet
     case rel => exact ⟨_, (true), (by first | rfl | (simp; done) | (simp [*]; done)), H', ⟨by first | omega | exact Nat.le_refl _⟩, ⟨by repeat (first | (with_reducible first | exact HI0.out | apply IsS138.alloc | apply IsS138.drewN | apply IsS138.drew | apply IsS138.set_0 | apply IsS138.set_1 | apply IsS138.set_2) | exact HI0.out)⟩, ⟨by repeat (first | (with_reducible first | exact HK.out | apply KeepBut.set_ | apply keep_drewN | apply keep_drew | apply keep_alloc) | exact HK.out)⟩, ⟨by repeat (first | (with_reducible first | exact HB.out | apply below_alloc | apply pw_below_drewN | apply below_drew1 | refine below_set ?_ (IsS138.ge HI0.out)) | exact HB.out)⟩⟩
    ·rw [if_neg c9] at H
     have c9b0 : decide (a1 < 0) = false := decide_eq_false c9
     clear c9
     have H' := Aside0.mk H
     clear H
     obtain ⟨HGz11, hgz11⟩ := HI0.out
     have hcz11_0 := cellS138_0 HGz11
     have hcz11_1 := cellS138_1 HGz11
     have hcz11_2 := cellS138_2 HGz11
     have hfz11_0 := blk_frozen HGz11 0
     have hfz11_1 := blk_frozen HGz11 1
     have hfz11_2 := blk_frozen HGz11 2
     clear HGz11 hgz11
     go_wp2
     go_meet
     case rel => exact ⟨_, (decide (t258 > (IntKind.u64.wrap (a1)))), (by first | rfl | (simp; done) | (simp [*]; done)), H', ⟨by first | omega | exact Nat.le_refl _⟩, ⟨by repeat (first | (with_reducible first | exact HI0.out | apply IsS138.alloc | apply IsS138.drewN | apply IsS138.drew | apply IsS138.set_0 | apply IsS138.set_1 | apply IsS138.set_2) | exact HI0.out)⟩, ⟨by repeat (first | (with_reducible first | exact HK.out | apply KeepBut.set_ | apply keep_drewN | apply keep_drew | apply keep_alloc) | exact HK.out)⟩, ⟨by repeat (first | (with_reducible first | exact HB.out | apply below_alloc | apply pw_below_drewN | apply below_drew1 | refine below_set ?_ (IsS138.ge HI0.out)) | exact HB.out)⟩⟩
   ·rw [if_neg c8] at H
    have c8b0 : (t261 == 0) = false := beq_eq_false_iff_ne.mpr c8
    have c8b1 : (t261 != 0) = true := bne_iff_ne.mpr c8
    (first | rw [c8b0] | (simp only [i64_w, i32_w]; rw [c8b0]) | skip)
    have H' := Aside0.mk H
    clear H
    obtain ⟨HGz12, hgz12⟩ := HI0.out
    have hcz12_0 := cellS138_0 HGz12
    have hcz12_1 := cellS138_1 HGz12
    have hcz12_2 := cellS138_2 HGz12
    have hfz12_0 := blk_frozen HGz12 0
    have hfz12_1 := blk_frozen HGz12 1
    have hfz12_2 := blk_frozen HGz12 2
    clear HGz12 hgz12
    go_wp2
    go_meet
    case rel => exact ⟨_, (false), (by first | rfl | (simp; done) | (simp [*]; done)), H', ⟨by first | omega | exact Nat.le_refl _⟩, ⟨by repeat (first | (with_reducible first | exact HI0.out | apply IsS138.alloc | apply IsS138.drewN | apply IsS138.drew | apply IsS138.set_0 | apply IsS138.set_1 | apply IsS138.set_2) | exact HI0.out)⟩, ⟨by repeat (first | (with_reducible first | exact HK.out | apply KeepBut.set_ | apply keep_drewN | apply keep_drew | apply keep_alloc) | exact HK.out)⟩, ⟨by repeat (first | (with_reducible first | exact HB.out | apply below_alloc | apply pw_below_drewN | apply below_drew1 | refine below_set ?_ (IsS138.ge HI0.out)) | exact HB.out)⟩⟩
  case rest =>
   clear HC5
   try clear p2
   try clear c3
   try clear c3b0
   try clear c3b1
   try clear c6
   try clear c8
   try clear c8b0
   try clear c8b1
   try clear c9
   try clear c9b0
   try clear hcz10_0
   try clear hcz10_1
   try clear hcz10_2
   try clear hcz11_0
   try clear hcz11_1
   try clear hcz11_2
   try clear hcz12_0
   try clear hcz12_1
   try clear hcz12_2
   try clear hcz6_0
   try clear hcz6_1
   try clear hcz6_2
   try clear hfz10_0
   try clear hfz10_1
   try clear hfz10_2
   try clear hfz11_0
   try clear hfz11_1
   try clear hfz11_2
   try clear hfz12_0
   try clear hfz12_1
   try clear hfz12_2
   try clear hfz6_0
   try clear hfz6_1
   try clear hfz6_2
   obtain ⟨kq, x36_4, rfl, HA, HJ4, HI0, HK, HB⟩ := hcut
   cases kq with
   | zero => exact absurd HA.out (by simp [enc_Cursor_Count.j0])
   | succ kj4 =>
    have H := HA.out
    clear HA
    simp only [enc_Cursor_Count.j0] at H
    by_cases c13 : x36_4 = true
    ·subst c13
     have H1 : ((enc_Cursor_stop.f t259 s0_1 t261 3).bind fun bt262 => (if bt262.2.2 = 0 then (some (wrap64 (t258), bt262.1, bt262.2.1, bt262.2.2)) else (some (0, bt262.1, bt262.2.1, bt262.2.2)))) = some (r1, r2, r3, r4) := by rw [if_pos rfl] at H; exact H
     clear H
     have H := H1
     clear H1
     replace H := Option.bind_eq_some_iff.mp H
     obtain ⟨⟨t262, t263, t264⟩, A140, H⟩ := H
     replace H : (if t264 = 0 then (some (wrap64 (t258), t262, t263, t264)) else (some (0, t262, t263, t264))) = some (r1, r2, r3, r4) := H
     have A14 := Aside0.mk A140
     clear A140
     by_cases c15 : t264 = 0
     ·rw [if_pos c15] at H
      have c15b0 : (t264 == 0) = true := beq_iff_eq.mpr c15
      have c15b1 : (t264 != 0) = false := bne_eq_false_iff_eq.mpr c15
      clear c15
      simp only [Option.some.injEq, Prod.mk.injEq] at H
      obtain ⟨rfl, rfl, rfl, rfl⟩ := H
      obtain ⟨HGz16, hgz16⟩ := HI0.out
      have hcz16_0 := cellS138_0 HGz16
      have hcz16_1 := cellS138_1 HGz16
      have hcz16_2 := cellS138_2 HGz16
      have hfz16_0 := blk_frozen HGz16 0
      have hfz16_1 := blk_frozen HGz16 1
      have hfz16_2 := blk_frozen HGz16 2
      clear HGz16 hgz16
      go_wp2_with (first | ((with_reducible refine gate_callee (f := 88) rfl ?_); refine gl_ (some 42) Try.func88 #[.pointer (some ⟨g, 0, none⟩), .int .i64 3] ?_; (with_reducible refine (enc_Cursor_stop.calls g t259 s0_1 t261 3 t262 t263 t264 w0 _ ?side1 ?side2 A14.out).mono ?_); (case side1 => repeat (first | (with_reducible first | exact HI0.out | apply IsS138.alloc | apply IsS138.drewN | apply IsS138.drew | apply IsS138.set_0 | apply IsS138.set_1 | apply IsS138.set_2) | exact HI0.out)); (case side2 => repeat (first | (with_reducible first | exact HB.out | apply below_alloc | apply pw_below_drewN | apply below_drew1 | refine below_set ?_ (IsS138.ge HI0.out)) | exact HB.out)); rintro e w17 ⟨rfl, hi, hb, hk⟩; refine ⟨_, rfl, ?_⟩; replace HK := Aside0.mk (KeepBut.trans (by repeat (first | (with_reducible first | exact HK.out | apply KeepBut.set_ | apply keep_drewN | apply keep_drew | apply keep_alloc) | exact HK.out)) hk (.inl rfl)); replace HB := Aside0.mk (hb); replace HI0 := Aside0.mk (hi); (try clear hb); (try clear hk); (try clear hi); obtain ⟨HGz18, hgz18⟩ := HI0.out; have hcz18_0 := cellS138_0 HGz18; have hcz18_1 := cellS138_1 HGz18; have hcz18_2 := cellS138_2 HGz18; have hfz18_0 := blk_frozen HGz18 0; have hfz18_1 := blk_frozen HGz18 1; have hfz18_2 := blk_frozen HGz18 2; clear HGz18 hgz18))
      go_ret
      exact ⟨by first | rfl | (simp [errW_none, errW_some] <;> rfl) | (simp [*, errW_none, errW_some] <;> rfl), by repeat (first | (with_reducible first | exact HI0.out | apply IsS138.alloc | apply IsS138.drewN | apply IsS138.drew | apply IsS138.set_0 | apply IsS138.set_1 | apply IsS138.set_2) | exact HI0.out), by repeat (first | (with_reducible first | exact HB.out | apply below_alloc | apply pw_below_drewN | apply below_drew1 | refine below_set ?_ (IsS138.ge HI0.out)) | exact HB.out), by repeat (first | (with_reducible first | exact HK.out | apply KeepBut.set_ | apply keep_drewN | apply keep_drew | apply keep_alloc) | exact HK.out)⟩
     ·rw [if_neg c15] at H
      have c15b0 : (t264 == 0) = false := beq_eq_false_iff_ne.mpr c15
      have c15b1 : (t264 != 0) = true := bne_iff_ne.mpr c15
      simp only [Option.some.injEq, Prod.mk.injEq] at H
      obtain ⟨rfl, rfl, rfl, rfl⟩ := H
      obtain ⟨HGz19, hgz19⟩ := HI0.out
      have hcz19_0 := cellS138_0 HGz19
      have hcz19_1 := cellS138_1 HGz19
      have hcz19_2 := cellS138_2 HGz19
      have hfz19_0 := blk_frozen HGz19 0
      have hfz19_1 := blk_frozen HGz19 1
      have hfz19_2 := blk_frozen HGz19 2
      clear HGz19 hgz19
      go_wp2_with (first | ((with_reducible refine gate_callee (f := 88) rfl ?_); refine gl_ (some 42) Try.func88 #[.pointer (some ⟨g, 0, none⟩), .int .i64 3] ?_; (with_reducible refine (enc_Cursor_stop.calls g t259 s0_1 t261 3 t262 t263 t264 w0 _ ?side1 ?side2 A14.out).mono ?_); (case side1 => repeat (first | (with_reducible first | exact HI0.out | apply IsS138.alloc | apply IsS138.drewN | apply IsS138.drew | apply IsS138.set_0 | apply IsS138.set_1 | apply IsS138.set_2) | exact HI0.out)); (case side2 => repeat (first | (with_reducible first | exact HB.out | apply below_alloc | apply pw_below_drewN | apply below_drew1 | refine below_set ?_ (IsS138.ge HI0.out)) | exact HB.out)); rintro e w20 ⟨rfl, hi, hb, hk⟩; refine ⟨_, rfl, ?_⟩; replace HK := Aside0.mk (KeepBut.trans (by repeat (first | (with_reducible first | exact HK.out | apply KeepBut.set_ | apply keep_drewN | apply keep_drew | apply keep_alloc) | exact HK.out)) hk (.inl rfl)); replace HB := Aside0.mk (hb); replace HI0 := Aside0.mk (hi); (try clear hb); (try clear hk); (try clear hi); obtain ⟨HGz21, hgz21⟩ := HI0.out; have hcz21_0 := cellS138_0 HGz21; have hcz21_1 := cellS138_1 HGz21; have hcz21_2 := cellS138_2 HGz21; have hfz21_0 := blk_frozen HGz21 0; have hfz21_1 := blk_frozen HGz21 1; have hfz21_2 := blk_frozen HGz21 2; clear HGz21 hgz21))
      go_ret
      exact ⟨by first | rfl | (simp [errW_none, errW_some] <;> rfl) | (simp [*, errW_none, errW_some] <;> rfl), by repeat (first | (with_reducible first | exact HI0.out | apply IsS138.alloc | apply IsS138.drewN | apply IsS138.drew | apply IsS138.set_0 | apply IsS138.set_1 | apply IsS138.set_2) | exact HI0.out), by repeat (first | (with_reducible first | exact HB.out | apply below_alloc | apply pw_below_drewN | apply below_drew1 | refine below_set ?_ (IsS138.ge HI0.out)) | exact HB.out), by repeat (first | (with_reducible first | exact HK.out | apply KeepBut.set_ | apply keep_drewN | apply keep_drew | apply keep_alloc) | exact HK.out)⟩
    ·replace c13 := Bool.eq_false_iff.mpr c13
     subst c13
     have H1 : (if t261 = 0 then (some (wrap64 (t258), t259, t260, t261)) else (some (0, t259, t260, t261))) = some (r1, r2, r3, r4) := by rw [if_neg (show ¬ (false = true) by decide)] at H; exact H
     clear H
     have H := H1
     clear H1
     by_cases c22 : t261 = 0
     ·rw [if_pos c22] at H
      have c22b0 : (t261 == 0) = true := beq_iff_eq.mpr c22
      have c22b1 : (t261 != 0) = false := bne_eq_false_iff_eq.mpr c22
      clear c22
      simp only [Option.some.injEq, Prod.mk.injEq] at H
      obtain ⟨rfl, rfl, rfl, rfl⟩ := H
      obtain ⟨HGz23, hgz23⟩ := HI0.out
      have hcz23_0 := cellS138_0 HGz23
      have hcz23_1 := cellS138_1 HGz23
      have hcz23_2 := cellS138_2 HGz23
      have hfz23_0 := blk_frozen HGz23 0
      have hfz23_1 := blk_frozen HGz23 1
      have hfz23_2 := blk_frozen HGz23 2
      clear HGz23 hgz23
      go_wp2
      go_ret
      exact ⟨by first | rfl | (simp [errW_none, errW_some] <;> rfl) | (simp [*, errW_none, errW_some] <;> rfl), by repeat (first | (with_reducible first | exact HI0.out | apply IsS138.alloc | apply IsS138.drewN | apply IsS138.drew | apply IsS138.set_0 | apply IsS138.set_1 | apply IsS138.set_2) | exact HI0.out), by repeat (first | (with_reducible first | exact HB.out | apply below_alloc | apply pw_below_drewN | apply below_drew1 | refine below_set ?_ (IsS138.ge HI0.out)) | exact HB.out), by repeat (first | (with_reducible first | exact HK.out | apply KeepBut.set_ | apply keep_drewN | apply keep_drew | apply keep_alloc) | exact HK.out)⟩
     ·rw [if_neg c22] at H
      have c22b0 : (t261 == 0) = false := beq_eq_false_iff_ne.mpr c22
      have c22b1 : (t261 != 0) = true := bne_iff_ne.mpr c22
      simp only [Option.some.injEq, Prod.mk.injEq] at H
      obtain ⟨rfl, rfl, rfl, rfl⟩ := H
      obtain ⟨HGz24, hgz24⟩ := HI0.out
      have hcz24_0 := cellS138_0 HGz24
      have hcz24_1 := cellS138_1 HGz24
      have hcz24_2 := cellS138_2 HGz24
      have hfz24_0 := blk_frozen HGz24 0
      have hfz24_1 := blk_frozen HGz24 1
      have hfz24_2 := blk_frozen HGz24 2
      clear HGz24 hgz24
      go_wp2
      go_ret
      exact ⟨by first | rfl | (simp [errW_none, errW_some] <;> rfl) | (simp [*, errW_none, errW_some] <;> rfl), by repeat (first | (with_reducible first | exact HI0.out | apply IsS138.alloc | apply IsS138.drewN | apply IsS138.drew | apply IsS138.set_0 | apply IsS138.set_1 | apply IsS138.set_2) | exact HI0.out), by repeat (first | (with_reducible first | exact HB.out | apply below_alloc | apply pw_below_drewN | apply below_drew1 | refine below_set ?_ (IsS138.ge HI0.out)) | exact HB.out), by repeat (first | (with_reducible first | exact HK.out | apply KeepBut.set_ | apply keep_drewN | apply keep_drew | apply keep_alloc) | exact HK.out)⟩
 ·rw [if_neg c3] at H
  have c3b0 : (s0_2 == 0) = false := beq_eq_false_iff_ne.mpr c3
  have c3b1 : (s0_2 != 0) = true := bne_iff_ne.mpr c3
  simp only [Option.some.injEq, Prod.mk.injEq] at H
  obtain ⟨rfl, rfl, rfl, rfl⟩ := H
  obtain ⟨HGz25, hgz25⟩ := HI0.out
  have hcz25_0 := cellS138_0 HGz25
  have hcz25_1 := cellS138_1 HGz25
  have hcz25_2 := cellS138_2 HGz25
  have hfz25_0 := blk_frozen HGz25 0
  have hfz25_1 := blk_frozen HGz25 1
  have hfz25_2 := blk_frozen HGz25 2
  clear HGz25 hgz25
  go_enter Try.func64, Try.ntmps64
  go_wp2
  go_ret
  exact ⟨by first | rfl | (simp [errW_none, errW_some] <;> rfl) | (simp [*, errW_none, errW_some] <;> rfl), by repeat (first | (with_reducible first | exact HI0.out | apply IsS138.alloc | apply IsS138.drewN | apply IsS138.drew | apply IsS138.set_0 | apply IsS138.set_1 | apply IsS138.set_2) | exact HI0.out), by repeat (first | (with_reducible first | exact HB.out | apply below_alloc | apply pw_below_drewN | apply below_drew1 | refine below_set ?_ (IsS138.ge HI0.out)) | exact HB.out), by repeat (first | (with_reducible first | exact HK.out | apply KeepBut.set_ | apply keep_drewN | apply keep_drew | apply keep_alloc) | exact HK.out)⟩
/-! ### enc_Cursor_Bytes: function 89 -/
def enc_Cursor_Bytes.f (s0_0 : ByteArray) (s0_1 : Int) (s0_2 : Int) (a1 : Int) : Option (ByteArray × ByteArray × Int × Int) := if s0_2 = 0 then (if a1 < 0 then ((enc_Cursor_stop.f s0_0 s0_1 s0_2 1).bind fun bt265 => (some ((⟨#[]⟩ : ByteArray), bt265.1, bt265.2.1, bt265.2.2))) else (if a1 > (wrap64 ((s0_0.size : Int) - s0_1)) then ((enc_Cursor_stop.f s0_0 s0_1 s0_2 4).bind fun bt268 => (some ((⟨#[]⟩ : ByteArray), bt268.1, bt268.2.1, bt268.2.2))) else (if 0 ≤ (wrap64 ((wrap64 (s0_1 + a1)) - a1)) then (if (wrap64 ((wrap64 (s0_1 + a1)) - a1)) ≤ (wrap64 (s0_1 + a1)) then (if (wrap64 (s0_1 + a1)) ≤ (s0_0.size : Int) then (some (s0_0.extract ((wrap64 ((wrap64 (s0_1 + a1)) - a1)) : Int).toNat ((wrap64 (s0_1 + a1)) : Int).toNat, s0_0, wrap64 (s0_1 + a1), s0_2)) else (none)) else (none)) else (none)))) else (some ((⟨#[]⟩ : ByteArray), s0_0, s0_1, s0_2))
set_option maxHeartbeats 8000000 in
set_option maxRecDepth 100000 in
theorem enc_Cursor_Bytes.calls (g : Nat) (s0_0 : ByteArray) (s0_1 : Int) (s0_2 : Int) (a1 : Int) (r1 : ByteArray) (r2 : ByteArray) (r3 : Int) (r4 : Int) (w0 w : World) (hI : IsS138 w0 w g s0_0 s0_1 s0_2) (hB : Below w0.heap.size w0 w) (h : enc_Cursor_Bytes.f s0_0 s0_1 s0_2 a1 = some (r1, r2, r3, r4)) :
  Calls Try.prog 89 #[.pointer (some ⟨g, 0, none⟩), .int .i64 a1] w fun e w' => e = .returned (.string r1) ∧ IsS138 w0 w' g r2 r3 r4 ∧ Below w0.heap.size w0 w' ∧ KeepBut w w' g none := by
 have HI0 := Aside0.mk hI
 have HK := Aside0.mk (KeepBut.refl w g none)
 have HL := Aside0.mk hB.size
 clear hI
 have HW0 := Aside0.mk hB.size
 have HB := Aside0.mk hB
 clear hB
 have H : (if s0_2 = 0 then (if a1 < 0 then ((enc_Cursor_stop.f s0_0 s0_1 s0_2 1).bind fun bt265 => (some ((⟨#[]⟩ : ByteArray), bt265.1, bt265.2.1, bt265.2.2))) else (if a1 > (wrap64 ((s0_0.size : Int) - s0_1)) then ((enc_Cursor_stop.f s0_0 s0_1 s0_2 4).bind fun bt268 => (some ((⟨#[]⟩ : ByteArray), bt268.1, bt268.2.1, bt268.2.2))) else (if 0 ≤ (wrap64 ((wrap64 (s0_1 + a1)) - a1)) then (if (wrap64 ((wrap64 (s0_1 + a1)) - a1)) ≤ (wrap64 (s0_1 + a1)) then (if (wrap64 (s0_1 + a1)) ≤ (s0_0.size : Int) then (some (s0_0.extract ((wrap64 ((wrap64 (s0_1 + a1)) - a1)) : Int).toNat ((wrap64 (s0_1 + a1)) : Int).toNat, s0_0, wrap64 (s0_1 + a1), s0_2)) else (none)) else (none)) else (none)))) else (some ((⟨#[]⟩ : ByteArray), s0_0, s0_1, s0_2))) = some (r1, r2, r3, r4) := h
 clear h
 by_cases c3 : s0_2 = 0
 ·rw [if_pos c3] at H
  have c3b0 : (s0_2 == 0) = true := beq_iff_eq.mpr c3
  have c3b1 : (s0_2 != 0) = false := bne_eq_false_iff_eq.mpr c3
  clear c3
  by_cases c4 : a1 < 0
  ·rw [if_pos c4] at H
   have c4b0 : decide (a1 < 0) = true := decide_eq_true c4
   clear c4
   replace H := Option.bind_eq_some_iff.mp H
   obtain ⟨⟨t265, t266, t267⟩, A50, H⟩ := H
   replace H : (some ((⟨#[]⟩ : ByteArray), t265, t266, t267)) = some (r1, r2, r3, r4) := H
   have A5 := Aside0.mk A50
   clear A50
   simp only [Option.some.injEq, Prod.mk.injEq] at H
   obtain ⟨rfl, rfl, rfl, rfl⟩ := H
   obtain ⟨HGz6, hgz6⟩ := HI0.out
   have hcz6_0 := cellS138_0 HGz6
   have hcz6_1 := cellS138_1 HGz6
   have hcz6_2 := cellS138_2 HGz6
   have hfz6_0 := blk_frozen HGz6 0
   have hfz6_1 := blk_frozen HGz6 1
   have hfz6_2 := blk_frozen HGz6 2
   clear HGz6 hgz6
   go_enter Try.func89, Try.ntmps89
   go_wp2_with (first | (go_at_call 88; (with_reducible refine (enc_Cursor_stop.calls g s0_0 s0_1 s0_2 1 t265 t266 t267 w0 _ ?side1 ?side2 A5.out).mono ?_); (case side1 => repeat (first | (with_reducible first | exact HI0.out | apply IsS138.alloc | apply IsS138.drewN | apply IsS138.drew | apply IsS138.set_0 | apply IsS138.set_1 | apply IsS138.set_2) | exact HI0.out)); (case side2 => repeat (first | (with_reducible first | exact HB.out | apply below_alloc | apply pw_below_drewN | apply below_drew1 | refine below_set ?_ (IsS138.ge HI0.out)) | exact HB.out)); rintro e w7 ⟨rfl, hi, hb, hk⟩; replace HK := Aside0.mk (KeepBut.trans (by repeat (first | (with_reducible first | exact HK.out | apply KeepBut.set_ | apply keep_drewN | apply keep_drew | apply keep_alloc) | exact HK.out)) hk (.inl rfl)); replace HB := Aside0.mk (hb); replace HI0 := Aside0.mk (hi); (try clear hb); (try clear hk); (try clear hi)))
   repeat (go_quiet (first | (go_at_call 88; (with_reducible refine (enc_Cursor_stop.calls g s0_0 s0_1 s0_2 1 t265 t266 t267 w0 _ ?side1 ?side2 A5.out).mono ?_); (case side1 => repeat (first | (with_reducible first | exact HI0.out | apply IsS138.alloc | apply IsS138.drewN | apply IsS138.drew | apply IsS138.set_0 | apply IsS138.set_1 | apply IsS138.set_2) | exact HI0.out)); (case side2 => repeat (first | (with_reducible first | exact HB.out | apply below_alloc | apply pw_below_drewN | apply below_drew1 | refine below_set ?_ (IsS138.ge HI0.out)) | exact HB.out)); rintro e w7 ⟨rfl, hi, hb, hk⟩; replace HK := Aside0.mk (KeepBut.trans (by repeat (first | (with_reducible first | exact HK.out | apply KeepBut.set_ | apply keep_drewN | apply keep_drew | apply keep_alloc) | exact HK.out)) hk (.inl rfl)); replace HB := Aside0.mk (hb); replace HI0 := Aside0.mk (hi); (try clear hb); (try clear hk); (try clear hi))); try go_wp2_with (first | (go_at_call 88; (with_reducible refine (enc_Cursor_stop.calls g s0_0 s0_1 s0_2 1 t265 t266 t267 w0 _ ?side1 ?side2 A5.out).mono ?_); (case side1 => repeat (first | (with_reducible first | exact HI0.out | apply IsS138.alloc | apply IsS138.drewN | apply IsS138.drew | apply IsS138.set_0 | apply IsS138.set_1 | apply IsS138.set_2) | exact HI0.out)); (case side2 => repeat (first | (with_reducible first | exact HB.out | apply below_alloc | apply pw_below_drewN | apply below_drew1 | refine below_set ?_ (IsS138.ge HI0.out)) | exact HB.out)); rintro e w7 ⟨rfl, hi, hb, hk⟩; replace HK := Aside0.mk (KeepBut.trans (by repeat (first | (with_reducible first | exact HK.out | apply KeepBut.set_ | apply keep_drewN | apply keep_drew | apply keep_alloc) | exact HK.out)) hk (.inl rfl)); replace HB := Aside0.mk (hb); replace HI0 := Aside0.mk (hi); (try clear hb); (try clear hk); (try clear hi))))
   go_ret
   exact ⟨by first | rfl | (simp [errW_none, errW_some] <;> rfl) | (simp [*, errW_none, errW_some] <;> rfl), by repeat (first | (with_reducible first | exact HI0.out | apply IsS138.alloc | apply IsS138.drewN | apply IsS138.drew | apply IsS138.set_0 | apply IsS138.set_1 | apply IsS138.set_2) | exact HI0.out), by repeat (first | (with_reducible first | exact HB.out | apply below_alloc | apply pw_below_drewN | apply below_drew1 | refine below_set ?_ (IsS138.ge HI0.out)) | exact HB.out), by repeat (first | (with_reducible first | exact HK.out | apply KeepBut.set_ | apply keep_drewN | apply keep_drew | apply keep_alloc) | exact HK.out)⟩
  ·rw [if_neg c4] at H
   have c4b0 : decide (a1 < 0) = false := decide_eq_false c4
   clear c4
   by_cases c8 : a1 > (wrap64 ((s0_0.size : Int) - s0_1))
   ·rw [if_pos c8] at H
    have c8b0 : decide ((wrap64 ((s0_0.size : Int) - s0_1)) < a1) = true := decide_eq_true c8
    clear c8
    replace H := Option.bind_eq_some_iff.mp H
    obtain ⟨⟨t268, t269, t270⟩, A90, H⟩ := H
    replace H : (some ((⟨#[]⟩ : ByteArray), t268, t269, t270)) = some (r1, r2, r3, r4) := H
    have A9 := Aside0.mk A90
    clear A90
    simp only [Option.some.injEq, Prod.mk.injEq] at H
    obtain ⟨rfl, rfl, rfl, rfl⟩ := H
    obtain ⟨HGz10, hgz10⟩ := HI0.out
    have hcz10_0 := cellS138_0 HGz10
    have hcz10_1 := cellS138_1 HGz10
    have hcz10_2 := cellS138_2 HGz10
    have hfz10_0 := blk_frozen HGz10 0
    have hfz10_1 := blk_frozen HGz10 1
    have hfz10_2 := blk_frozen HGz10 2
    clear HGz10 hgz10
    go_enter Try.func89, Try.ntmps89
    go_wp2_with (first | (go_at_call 88; (with_reducible refine (enc_Cursor_stop.calls g s0_0 s0_1 s0_2 4 t268 t269 t270 w0 _ ?side1 ?side2 A9.out).mono ?_); (case side1 => repeat (first | (with_reducible first | exact HI0.out | apply IsS138.alloc | apply IsS138.drewN | apply IsS138.drew | apply IsS138.set_0 | apply IsS138.set_1 | apply IsS138.set_2) | exact HI0.out)); (case side2 => repeat (first | (with_reducible first | exact HB.out | apply below_alloc | apply pw_below_drewN | apply below_drew1 | refine below_set ?_ (IsS138.ge HI0.out)) | exact HB.out)); rintro e w11 ⟨rfl, hi, hb, hk⟩; replace HK := Aside0.mk (KeepBut.trans (by repeat (first | (with_reducible first | exact HK.out | apply KeepBut.set_ | apply keep_drewN | apply keep_drew | apply keep_alloc) | exact HK.out)) hk (.inl rfl)); replace HB := Aside0.mk (hb); replace HI0 := Aside0.mk (hi); (try clear hb); (try clear hk); (try clear hi)))
    repeat (go_quiet (first | (go_at_call 88; (with_reducible refine (enc_Cursor_stop.calls g s0_0 s0_1 s0_2 4 t268 t269 t270 w0 _ ?side1 ?side2 A9.out).mono ?_); (case side1 => repeat (first | (with_reducible first | exact HI0.out | apply IsS138.alloc | apply IsS138.drewN | apply IsS138.drew | apply IsS138.set_0 | apply IsS138.set_1 | apply IsS138.set_2) | exact HI0.out)); (case side2 => repeat (first | (with_reducible first | exact HB.out | apply below_alloc | apply pw_below_drewN | apply below_drew1 | refine below_set ?_ (IsS138.ge HI0.out)) | exact HB.out)); rintro e w11 ⟨rfl, hi, hb, hk⟩; replace HK := Aside0.mk (KeepBut.trans (by repeat (first | (with_reducible first | exact HK.out | apply KeepBut.set_ | apply keep_drewN | apply keep_drew | apply keep_alloc) | exact HK.out)) hk (.inl rfl)); replace HB := Aside0.mk (hb); replace HI0 := Aside0.mk (hi); (try clear hb); (try clear hk); (try clear hi))); try go_wp2_with (first | (go_at_call 88; (with_reducible refine (enc_Cursor_stop.calls g s0_0 s0_1 s0_2 4 t268 t269 t270 w0 _ ?side1 ?side2 A9.out).mono ?_); (case side1 => repeat (first | (with_reducible first | exact HI0.out | apply IsS138.alloc | apply IsS138.drewN | apply IsS138.drew | apply IsS138.set_0 | apply IsS138.set_1 | apply IsS138.set_2) | exact HI0.out)); (case side2 => repeat (first | (with_reducible first | exact HB.out | apply below_alloc | apply pw_below_drewN | apply below_drew1 | refine below_set ?_ (IsS138.ge HI0.out)) | exact HB.out)); rintro e w11 ⟨rfl, hi, hb, hk⟩; replace HK := Aside0.mk (KeepBut.trans (by repeat (first | (with_reducible first | exact HK.out | apply KeepBut.set_ | apply keep_drewN | apply keep_drew | apply keep_alloc) | exact HK.out)) hk (.inl rfl)); replace HB := Aside0.mk (hb); replace HI0 := Aside0.mk (hi); (try clear hb); (try clear hk); (try clear hi))))
    go_ret
    exact ⟨by first | rfl | (simp [errW_none, errW_some] <;> rfl) | (simp [*, errW_none, errW_some] <;> rfl), by repeat (first | (with_reducible first | exact HI0.out | apply IsS138.alloc | apply IsS138.drewN | apply IsS138.drew | apply IsS138.set_0 | apply IsS138.set_1 | apply IsS138.set_2) | exact HI0.out), by repeat (first | (with_reducible first | exact HB.out | apply below_alloc | apply pw_below_drewN | apply below_drew1 | refine below_set ?_ (IsS138.ge HI0.out)) | exact HB.out), by repeat (first | (with_reducible first | exact HK.out | apply KeepBut.set_ | apply keep_drewN | apply keep_drew | apply keep_alloc) | exact HK.out)⟩
   ·rw [if_neg c8] at H
    have c8b0 : decide ((wrap64 ((s0_0.size : Int) - s0_1)) < a1) = false := decide_eq_false c8
    clear c8
    obtain ⟨ji12, hji12⟩ : ∃ j_ : Int, (wrap64 ((wrap64 (s0_1 + a1)) - a1)) = j_ := ⟨_, rfl⟩
    replace H : (if 0 ≤ (ji12) then (if (ji12) ≤ (wrap64 (s0_1 + a1)) then (if (wrap64 (s0_1 + a1)) ≤ (s0_0.size : Int) then (some (s0_0.extract ((ji12) : Int).toNat ((wrap64 (s0_1 + a1)) : Int).toNat, s0_0, wrap64 (s0_1 + a1), s0_2)) else (none)) else (none)) else (none)) = some (r1, r2, r3, r4) := by first | (rw [hji12] at H; exact H) | (simp only [hji12] at H ⊢; exact H)
    have hji12w : (IntKind.i64.wrap ((wrap64 (s0_1 + a1)) - a1)) = ji12 := (i64_w _).trans hji12
    by_cases c13 : 0 ≤ (ji12)
    ·rw [if_pos c13] at H
     have c13b0 := eq_true c13
     have c13b1 : decide (0 ≤ (ji12)) = true := decide_eq_true c13
     clear c13
     by_cases c14 : (ji12) ≤ (wrap64 (s0_1 + a1))
     ·rw [if_pos c14] at H
      have c14b0 := eq_true c14
      have c14b1 : decide ((ji12) ≤ (wrap64 (s0_1 + a1))) = true := decide_eq_true c14
      by_cases c15 : (wrap64 (s0_1 + a1)) ≤ (s0_0.size : Int)
      ·rw [if_pos c15] at H
       have c15b0 := eq_true c15
       have c15b1 : decide ((wrap64 (s0_1 + a1)) ≤ (s0_0.size : Int)) = true := decide_eq_true c15
       simp only [Option.some.injEq, Prod.mk.injEq] at H
       obtain ⟨rfl, rfl, rfl, rfl⟩ := H
       obtain ⟨HGz16, hgz16⟩ := HI0.out
       have hcz16_0 := cellS138_0 HGz16
       have hcz16_1 := cellS138_1 HGz16
       have hcz16_2 := cellS138_2 HGz16
       have hfz16_0 := blk_frozen HGz16 0
       have hfz16_1 := blk_frozen HGz16 1
       have hfz16_2 := blk_frozen HGz16 2
       clear HGz16 hgz16
       go_enter Try.func89, Try.ntmps89
       go_wp2
       repeat (go_quiet (fail); try go_wp2)
       go_ret
       exact ⟨by first | rfl | (simp [errW_none, errW_some] <;> rfl) | (simp only [← hji12]; first | rfl | (simp [errW_none, errW_some] <;> rfl)) | (simp [*, errW_none, errW_some] <;> rfl), by repeat (first | (with_reducible first | exact HI0.out | apply IsS138.alloc | apply IsS138.drewN | apply IsS138.drew | apply IsS138.set_0 | apply IsS138.set_1 | apply IsS138.set_2) | exact HI0.out), by repeat (first | (with_reducible first | exact HB.out | apply below_alloc | apply pw_below_drewN | apply below_drew1 | refine below_set ?_ (IsS138.ge HI0.out)) | exact HB.out), by repeat (first | (with_reducible first | exact HK.out | apply KeepBut.set_ | apply keep_drewN | apply keep_drew | apply keep_alloc) | exact HK.out)⟩
      ·rw [if_neg c15] at H
       exact absurd H (by simp)
     ·rw [if_neg c14] at H
      exact absurd H (by simp)
    ·rw [if_neg c13] at H
     exact absurd H (by simp)
 ·rw [if_neg c3] at H
  have c3b0 : (s0_2 == 0) = false := beq_eq_false_iff_ne.mpr c3
  have c3b1 : (s0_2 != 0) = true := bne_iff_ne.mpr c3
  simp only [Option.some.injEq, Prod.mk.injEq] at H
  obtain ⟨rfl, rfl, rfl, rfl⟩ := H
  obtain ⟨HGz17, hgz17⟩ := HI0.out
  have hcz17_0 := cellS138_0 HGz17
  have hcz17_1 := cellS138_1 HGz17
  have hcz17_2 := cellS138_2 HGz17
  have hfz17_0 := blk_frozen HGz17 0
  have hfz17_1 := blk_frozen HGz17 1
  have hfz17_2 := blk_frozen HGz17 2
  clear HGz17 hgz17
  go_enter Try.func89, Try.ntmps89
  go_wp2
  repeat (go_quiet (fail); try go_wp2)
  go_ret
  exact ⟨by first | rfl | (simp [errW_none, errW_some] <;> rfl) | (simp [*, errW_none, errW_some] <;> rfl), by repeat (first | (with_reducible first | exact HI0.out | apply IsS138.alloc | apply IsS138.drewN | apply IsS138.drew | apply IsS138.set_0 | apply IsS138.set_1 | apply IsS138.set_2) | exact HI0.out), by repeat (first | (with_reducible first | exact HB.out | apply below_alloc | apply pw_below_drewN | apply below_drew1 | refine below_set ?_ (IsS138.ge HI0.out)) | exact HB.out), by repeat (first | (with_reducible first | exact HK.out | apply KeepBut.set_ | apply keep_drewN | apply keep_drew | apply keep_alloc) | exact HK.out)⟩
/-! ### enc_Cursor_Text: function 63 -/
def enc_Cursor_Text.f (k : Nat) (s0_0 : ByteArray) (s0_1 : Int) (s0_2 : Int) (a1 : Int) : Option (ByteArray × ByteArray × Int × Int) := (enc_Cursor_Count.f k s0_0 s0_1 s0_2 (mn a1 1048576)).bind fun bt271 => ((enc_Cursor_Bytes.f bt271.2.1 bt271.2.2.1 bt271.2.2.2 bt271.1).bind fun bt275 => (if bt275.2.2.2 = 0 then (some (bt275.1, bt275.2.1, bt275.2.2.1, bt275.2.2.2)) else (some (bt275.1, bt275.2.1, s0_1, bt275.2.2.2))))
set_option maxHeartbeats 8000000 in
set_option maxRecDepth 100000 in
theorem enc_Cursor_Text.calls (k : Nat) (g : Nat) (s0_0 : ByteArray) (s0_1 : Int) (s0_2 : Int) (a1 : Int) (r1 : ByteArray) (r2 : ByteArray) (r3 : Int) (r4 : Int) (w0 w : World) (hI : IsS138 w0 w g s0_0 s0_1 s0_2) (hB : Below w0.heap.size w0 w) (h : enc_Cursor_Text.f k s0_0 s0_1 s0_2 a1 = some (r1, r2, r3, r4)) :
  Calls Try.prog 63 #[.pointer (some ⟨g, 0, none⟩), .int .i64 a1] w fun e w' => e = .returned (.string r1) ∧ IsS138 w0 w' g r2 r3 r4 ∧ Below w0.heap.size w0 w' ∧ KeepBut w w' g none := by
 have HI0 := Aside0.mk hI
 have HK := Aside0.mk (KeepBut.refl w g none)
 have HL := Aside0.mk hB.size
 clear hI
 have HW0 := Aside0.mk hB.size
 have HB := Aside0.mk hB
 clear hB
 have H : ((enc_Cursor_Count.f k s0_0 s0_1 s0_2 (mn a1 1048576)).bind fun bt271 => ((enc_Cursor_Bytes.f bt271.2.1 bt271.2.2.1 bt271.2.2.2 bt271.1).bind fun bt275 => (if bt275.2.2.2 = 0 then (some (bt275.1, bt275.2.1, bt275.2.2.1, bt275.2.2.2)) else (some (bt275.1, bt275.2.1, s0_1, bt275.2.2.2))))) = some (r1, r2, r3, r4) := h
 clear h
 obtain ⟨ji3, hji3⟩ : ∃ j_ : Int, (mn a1 1048576) = j_ := ⟨_, rfl⟩
 replace H : ((enc_Cursor_Count.f k s0_0 s0_1 s0_2 (ji3)).bind fun bt271 => ((enc_Cursor_Bytes.f bt271.2.1 bt271.2.2.1 bt271.2.2.2 bt271.1).bind fun bt275 => (if bt275.2.2.2 = 0 then (some (bt275.1, bt275.2.1, bt275.2.2.1, bt275.2.2.2)) else (some (bt275.1, bt275.2.1, s0_1, bt275.2.2.2))))) = some (r1, r2, r3, r4) := by first | (rw [hji3] at H; exact H) | (simp only [hji3] at H ⊢; exact H)
 (try (have hji3h : ji3 ≤ 1048576 := by (rw [← hji3]; unfold mn; (repeat' split) <;> omega)))
 (try (have hji3g : ji3 ≤ 64 := by omega))
 have hji3_ : (if 1048576 < a1 then 1048576 else a1) = ji3 := hji3
 replace H := Option.bind_eq_some_iff.mp H
 obtain ⟨⟨t271, t272, t273, t274⟩, A40, H⟩ := H
 replace H : ((enc_Cursor_Bytes.f t272 t273 t274 t271).bind fun bt275 => (if bt275.2.2.2 = 0 then (some (bt275.1, bt275.2.1, bt275.2.2.1, bt275.2.2.2)) else (some (bt275.1, bt275.2.1, s0_1, bt275.2.2.2)))) = some (r1, r2, r3, r4) := H
 have A4 := Aside0.mk A40
 clear A40
 replace H := Option.bind_eq_some_iff.mp H
 obtain ⟨⟨t275, t276, t277, t278⟩, A50, H⟩ := H
 replace H : (if t278 = 0 then (some (t275, t276, t277, t278)) else (some (t275, t276, s0_1, t278))) = some (r1, r2, r3, r4) := H
 have A5 := Aside0.mk A50
 clear A50
 by_cases c6 : t278 = 0
 ·rw [if_pos c6] at H
  have c6b0 : (t278 == 0) = true := beq_iff_eq.mpr c6
  have c6b1 : (t278 != 0) = false := bne_eq_false_iff_eq.mpr c6
  clear c6
  simp only [Option.some.injEq, Prod.mk.injEq] at H
  obtain ⟨rfl, rfl, rfl, rfl⟩ := H
  obtain ⟨HGz7, hgz7⟩ := HI0.out
  have hcz7_0 := cellS138_0 HGz7
  have hcz7_1 := cellS138_1 HGz7
  have hcz7_2 := cellS138_2 HGz7
  have hfz7_0 := blk_frozen HGz7 0
  have hfz7_1 := blk_frozen HGz7 1
  have hfz7_2 := blk_frozen HGz7 2
  clear HGz7 hgz7
  go_enter Try.func63, Try.ntmps63
  go_wp2_with (first | ((with_reducible refine gate_callee (f := 64) rfl ?_); refine goesL_ (some 17) rfl rfl Try.func64 (by kernel_rfl) rfl #[.pointer (some ⟨g, 0, none⟩), .int .i64 ji3] rfl (by (try simp only [List.map_toArray, List.map_cons, List.map_nil]); first | done | (simp only [hji3]; rfl) | rfl | (simp only [List.length_drop, List.length_take]; rfl)) ?_; (with_reducible refine (enc_Cursor_Count.calls k g s0_0 s0_1 s0_2 ji3 t271 t272 t273 t274 w0 _ ?side1 ?side2 A4.out).mono ?_); (case side1 => repeat (first | (with_reducible first | exact HI0.out | apply IsS138.alloc | apply IsS138.drewN | apply IsS138.drew | apply IsS138.set_0 | apply IsS138.set_1 | apply IsS138.set_2) | exact HI0.out)); (case side2 => repeat (first | (with_reducible first | exact HB.out | apply below_alloc | apply pw_below_drewN | apply below_drew1 | refine below_set ?_ (IsS138.ge HI0.out)) | exact HB.out)); rintro e w8 ⟨rfl, hi, hb, hk⟩; refine ⟨_, rfl, ?_⟩; replace HK := Aside0.mk (KeepBut.trans (by repeat (first | (with_reducible first | exact HK.out | apply KeepBut.set_ | apply keep_drewN | apply keep_drew | apply keep_alloc) | exact HK.out)) hk (.inl rfl)); replace HB := Aside0.mk (hb); replace HI0 := Aside0.mk (hi); (try clear hb); (try clear hk); (try clear hi)) | ((with_reducible refine gate_callee (f := 89) rfl ?_); refine gl_ (some 18) Try.func89 #[.pointer (some ⟨g, 0, none⟩), .int .i64 t271] ?_; (with_reducible refine (enc_Cursor_Bytes.calls g t272 t273 t274 t271 t275 t276 t277 t278 w0 _ ?side1 ?side2 A5.out).mono ?_); (case side1 => repeat (first | (with_reducible first | exact HI0.out | apply IsS138.alloc | apply IsS138.drewN | apply IsS138.drew | apply IsS138.set_0 | apply IsS138.set_1 | apply IsS138.set_2) | exact HI0.out)); (case side2 => repeat (first | (with_reducible first | exact HB.out | apply below_alloc | apply pw_below_drewN | apply below_drew1 | refine below_set ?_ (IsS138.ge HI0.out)) | exact HB.out)); rintro e w9 ⟨rfl, hi, hb, hk⟩; refine ⟨_, rfl, ?_⟩; replace HK := Aside0.mk (KeepBut.trans (by repeat (first | (with_reducible first | exact HK.out | apply KeepBut.set_ | apply keep_drewN | apply keep_drew | apply keep_alloc) | exact HK.out)) hk (.inl rfl)); replace HB := Aside0.mk (hb); replace HI0 := Aside0.mk (hi); (try clear hb); (try clear hk); (try clear hi); obtain ⟨HGz10, hgz10⟩ := HI0.out; have hcz10_0 := cellS138_0 HGz10; have hcz10_1 := cellS138_1 HGz10; have hcz10_2 := cellS138_2 HGz10; have hfz10_0 := blk_frozen HGz10 0; have hfz10_1 := blk_frozen HGz10 1; have hfz10_2 := blk_frozen HGz10 2; clear HGz10 hgz10))
  go_ret
  exact ⟨by first | rfl | (simp [errW_none, errW_some] <;> rfl) | (simp only [← hji3]; first | rfl | (simp [errW_none, errW_some] <;> rfl)) | (simp [*, errW_none, errW_some] <;> rfl), by repeat (first | (with_reducible first | exact HI0.out | apply IsS138.alloc | apply IsS138.drewN | apply IsS138.drew | apply IsS138.set_0 | apply IsS138.set_1 | apply IsS138.set_2) | exact HI0.out), by repeat (first | (with_reducible first | exact HB.out | apply below_alloc | apply pw_below_drewN | apply below_drew1 | refine below_set ?_ (IsS138.ge HI0.out)) | exact HB.out), by repeat (first | (with_reducible first | exact HK.out | apply KeepBut.set_ | apply keep_drewN | apply keep_drew | apply keep_alloc) | exact HK.out)⟩
 ·rw [if_neg c6] at H
  have c6b0 : (t278 == 0) = false := beq_eq_false_iff_ne.mpr c6
  have c6b1 : (t278 != 0) = true := bne_iff_ne.mpr c6
  simp only [Option.some.injEq, Prod.mk.injEq] at H
  obtain ⟨rfl, rfl, rfl, rfl⟩ := H
  obtain ⟨HGz11, hgz11⟩ := HI0.out
  have hcz11_0 := cellS138_0 HGz11
  have hcz11_1 := cellS138_1 HGz11
  have hcz11_2 := cellS138_2 HGz11
  have hfz11_0 := blk_frozen HGz11 0
  have hfz11_1 := blk_frozen HGz11 1
  have hfz11_2 := blk_frozen HGz11 2
  clear HGz11 hgz11
  go_enter Try.func63, Try.ntmps63
  go_wp2_with (first | ((with_reducible refine gate_callee (f := 64) rfl ?_); refine goesL_ (some 17) rfl rfl Try.func64 (by kernel_rfl) rfl #[.pointer (some ⟨g, 0, none⟩), .int .i64 ji3] rfl (by (try simp only [List.map_toArray, List.map_cons, List.map_nil]); first | done | (simp only [hji3]; rfl) | rfl | (simp only [List.length_drop, List.length_take]; rfl)) ?_; (with_reducible refine (enc_Cursor_Count.calls k g s0_0 s0_1 s0_2 ji3 t271 t272 t273 t274 w0 _ ?side1 ?side2 A4.out).mono ?_); (case side1 => repeat (first | (with_reducible first | exact HI0.out | apply IsS138.alloc | apply IsS138.drewN | apply IsS138.drew | apply IsS138.set_0 | apply IsS138.set_1 | apply IsS138.set_2) | exact HI0.out)); (case side2 => repeat (first | (with_reducible first | exact HB.out | apply below_alloc | apply pw_below_drewN | apply below_drew1 | refine below_set ?_ (IsS138.ge HI0.out)) | exact HB.out)); rintro e w12 ⟨rfl, hi, hb, hk⟩; refine ⟨_, rfl, ?_⟩; replace HK := Aside0.mk (KeepBut.trans (by repeat (first | (with_reducible first | exact HK.out | apply KeepBut.set_ | apply keep_drewN | apply keep_drew | apply keep_alloc) | exact HK.out)) hk (.inl rfl)); replace HB := Aside0.mk (hb); replace HI0 := Aside0.mk (hi); (try clear hb); (try clear hk); (try clear hi)) | ((with_reducible refine gate_callee (f := 89) rfl ?_); refine gl_ (some 18) Try.func89 #[.pointer (some ⟨g, 0, none⟩), .int .i64 t271] ?_; (with_reducible refine (enc_Cursor_Bytes.calls g t272 t273 t274 t271 t275 t276 t277 t278 w0 _ ?side1 ?side2 A5.out).mono ?_); (case side1 => repeat (first | (with_reducible first | exact HI0.out | apply IsS138.alloc | apply IsS138.drewN | apply IsS138.drew | apply IsS138.set_0 | apply IsS138.set_1 | apply IsS138.set_2) | exact HI0.out)); (case side2 => repeat (first | (with_reducible first | exact HB.out | apply below_alloc | apply pw_below_drewN | apply below_drew1 | refine below_set ?_ (IsS138.ge HI0.out)) | exact HB.out)); rintro e w13 ⟨rfl, hi, hb, hk⟩; refine ⟨_, rfl, ?_⟩; replace HK := Aside0.mk (KeepBut.trans (by repeat (first | (with_reducible first | exact HK.out | apply KeepBut.set_ | apply keep_drewN | apply keep_drew | apply keep_alloc) | exact HK.out)) hk (.inl rfl)); replace HB := Aside0.mk (hb); replace HI0 := Aside0.mk (hi); (try clear hb); (try clear hk); (try clear hi); obtain ⟨HGz14, hgz14⟩ := HI0.out; have hcz14_0 := cellS138_0 HGz14; have hcz14_1 := cellS138_1 HGz14; have hcz14_2 := cellS138_2 HGz14; have hfz14_0 := blk_frozen HGz14 0; have hfz14_1 := blk_frozen HGz14 1; have hfz14_2 := blk_frozen HGz14 2; clear HGz14 hgz14))
  go_ret
  exact ⟨by first | rfl | (simp [errW_none, errW_some] <;> rfl) | (simp only [← hji3]; first | rfl | (simp [errW_none, errW_some] <;> rfl)) | (simp [*, errW_none, errW_some] <;> rfl), by repeat (first | (with_reducible first | exact HI0.out | apply IsS138.alloc | apply IsS138.drewN | apply IsS138.drew | apply IsS138.set_0 | apply IsS138.set_1 | apply IsS138.set_2) | exact HI0.out), by repeat (first | (with_reducible first | exact HB.out | apply below_alloc | apply pw_below_drewN | apply below_drew1 | refine below_set ?_ (IsS138.ge HI0.out)) | exact HB.out), by repeat (first | (with_reducible first | exact HK.out | apply KeepBut.set_ | apply keep_drewN | apply keep_drew | apply keep_alloc) | exact HK.out)⟩
/-! ### enc_Cursor_Err: function 65 -/
def enc_Cursor_Err.f (s0_0 : ByteArray) (s0_1 : Int) (s0_2 : Int) : Option (Int × ByteArray × Int × Int) := some (s0_2, s0_0, s0_1, s0_2)
set_option maxHeartbeats 8000000 in
set_option maxRecDepth 100000 in
theorem enc_Cursor_Err.calls (g : Nat) (s0_0 : ByteArray) (s0_1 : Int) (s0_2 : Int) (r1 : Int) (r2 : ByteArray) (r3 : Int) (r4 : Int) (w0 w : World) (hI : IsS138 w0 w g s0_0 s0_1 s0_2) (hB : Below w0.heap.size w0 w) (h : enc_Cursor_Err.f s0_0 s0_1 s0_2 = some (r1, r2, r3, r4)) :
  Calls Try.prog 65 #[.pointer (some ⟨g, 0, none⟩)] w fun e w' => e = .returned (.int .i64 r1) ∧ IsS138 w0 w' g r2 r3 r4 ∧ Below w0.heap.size w0 w' ∧ KeepBut w w' g none := by
 have HI0 := Aside0.mk hI
 have HK := Aside0.mk (KeepBut.refl w g none)
 have HL := Aside0.mk hB.size
 clear hI
 have HW0 := Aside0.mk hB.size
 have HB := Aside0.mk hB
 clear hB
 have H : (some (s0_2, s0_0, s0_1, s0_2)) = some (r1, r2, r3, r4) := h
 clear h
 simp only [Option.some.injEq, Prod.mk.injEq] at H
 obtain ⟨rfl, rfl, rfl, rfl⟩ := H
 obtain ⟨HGz2, hgz2⟩ := HI0.out
 have hcz2_0 := cellS138_0 HGz2
 have hcz2_1 := cellS138_1 HGz2
 have hcz2_2 := cellS138_2 HGz2
 have hfz2_0 := blk_frozen HGz2 0
 have hfz2_1 := blk_frozen HGz2 1
 have hfz2_2 := blk_frozen HGz2 2
 clear HGz2 hgz2
 go_enter Try.func65, Try.ntmps65
 go_wp2
 go_ret
 exact ⟨by first | rfl | (simp [errW_none, errW_some] <;> rfl) | (simp [*, errW_none, errW_some] <;> rfl), by repeat (first | (with_reducible first | exact HI0.out | apply IsS138.alloc | apply IsS138.drewN | apply IsS138.drew | apply IsS138.set_0 | apply IsS138.set_1 | apply IsS138.set_2) | exact HI0.out), by repeat (first | (with_reducible first | exact HB.out | apply below_alloc | apply pw_below_drewN | apply below_drew1 | refine below_set ?_ (IsS138.ge HI0.out)) | exact HB.out), by repeat (first | (with_reducible first | exact HK.out | apply KeepBut.set_ | apply keep_drewN | apply keep_drew | apply keep_alloc) | exact HK.out)⟩
end Go.Proofs.Ytdcbacbilncnnaa.PMk
end
section
namespace Go.Proofs.Ytdcbacbilncnnaa.PMk
open Go.RowKit Go.Proofs.YtdcbacbilncnnaaW.PrintWords Go.Proofs.YtdcbacbilncnnaaW.PrintLast Go.Proofs.YtdcbacbilncnnaaW.PrintMore
attribute [local go_sem] max2_int min2_int max_two min_two max_three min_three max_four min_four   -- for this text's walks alone
set_option linter.unusedVariables false
set_option linter.unusedSimpArgs false
/-! ### block_takeRev: function 66 -/
def block_takeRev.j0 : Nat → ByteArray → Int → Int → Int → ByteArray → ByteArray → Int → Int → ByteArray → ByteArray → Bool → Option (Int × ByteArray × ByteArray × Int × Int × ByteArray × ByteArray × Bool × ByteArray × Int × Int)
  | 0, _, _, _, _, _, _, _, _, _, _, _ => none
  | k + 1, x1000, x1001, x1002, x285000, x285001, x285002, x285003, x285004, x285005, x285006, x285007 => (enc_Cursor_Text.f k x1000 x1001 x1002 16).bind fun bt289 => ((enc_Cursor_Text.f k bt289.2.1 bt289.2.2.1 bt289.2.2.2 16).bind fun bt293 => ((enc_Cursor_Uint.f k bt293.2.1 bt293.2.2.1 bt293.2.2.2).bind fun bt297 => ((enc_Cursor_Uint.f k bt297.2.1 bt297.2.2.1 bt297.2.2.2).bind fun bt301 => ((enc_Cursor_Text.f k bt301.2.1 bt301.2.2.1 bt301.2.2.2 32).bind fun bt305 => (some (x285000, bt289.1, bt293.1, bt297.1, bt301.1, bt305.1, x285006, x285007, bt305.2.1, bt305.2.2.1, bt305.2.2.2))))))
def block_takeRev.f (k : Nat) (s0_0 : ByteArray) (s0_1 : Int) (s0_2 : Int) : Option (Int × ByteArray × ByteArray × Int × Int × ByteArray × ByteArray × Bool × ByteArray × Int × Int) := (enc_Cursor_Bytes.f s0_0 s0_1 s0_2 1).bind fun bt280 => ((enc_Cursor_Err.f bt280.2.1 bt280.2.2.1 bt280.2.2.2).bind fun bt285 => (if bt285.1 = 0 then (if 0 < (bt280.1.size : Int) then (block_takeRev.j0 k bt285.2.1 bt285.2.2.1 bt285.2.2.2 (wrap64 (bt bt280.1 0)) (⟨#[]⟩ : ByteArray) (⟨#[]⟩ : ByteArray) 0 0 (⟨#[]⟩ : ByteArray) (⟨#[]⟩ : ByteArray) false) else (none)) else (block_takeRev.j0 k bt285.2.1 bt285.2.2.1 bt285.2.2.2 0 (⟨#[]⟩ : ByteArray) (⟨#[]⟩ : ByteArray) 0 0 (⟨#[]⟩ : ByteArray) (⟨#[]⟩ : ByteArray) false)))
set_option maxHeartbeats 8000000 in
set_option maxRecDepth 100000 in
theorem block_takeRev.calls (k : Nat) (g : Nat) (s0_0 : ByteArray) (s0_1 : Int) (s0_2 : Int) (r1 : Int) (r2 : ByteArray) (r3 : ByteArray) (r4 : Int) (r5 : Int) (r6 : ByteArray) (r7 : ByteArray) (r8 : Bool) (r9 : ByteArray) (r10 : Int) (r11 : Int) (w0 w : World) (hI : IsS138 w0 w g s0_0 s0_1 s0_2) (hB : Below w0.heap.size w0 w) (h : block_takeRev.f k s0_0 s0_1 s0_2 = some (r1, r2, r3, r4, r5, r6, r7, r8, r9, r10, r11)) :
    Calls Try.prog 66 #[.pointer (some ⟨g, 0, none⟩)] w fun e w' => e = .returned (.agg #[.int .i64 r1, .string r2, .string r3, .int .u64 r4, .int .u64 r5, .string r6, .string r7, .bool r8]) ∧ IsS138 w0 w' g r9 r10 r11 ∧ Below w0.heap.size w0 w' ∧ KeepBut w w' g none := by
  have hu47 := Try.underlying47
  have HI0 := Aside0.mk hI
  have HK := Aside0.mk (KeepBut.refl w g none)
  have HL := Aside0.mk hB.size
  clear hI
  have HW0 := Aside0.mk hB.size
  have HB := Aside0.mk hB
  clear hB
  have H : ((enc_Cursor_Bytes.f s0_0 s0_1 s0_2 1).bind fun bt280 => ((enc_Cursor_Err.f bt280.2.1 bt280.2.2.1 bt280.2.2.2).bind fun bt285 => (if bt285.1 = 0 then (if 0 < (bt280.1.size : Int) then (block_takeRev.j0 k bt285.2.1 bt285.2.2.1 bt285.2.2.2 (wrap64 (bt bt280.1 0)) (⟨#[]⟩ : ByteArray) (⟨#[]⟩ : ByteArray) 0 0 (⟨#[]⟩ : ByteArray) (⟨#[]⟩ : ByteArray) false) else (none)) else (block_takeRev.j0 k bt285.2.1 bt285.2.2.1 bt285.2.2.2 0 (⟨#[]⟩ : ByteArray) (⟨#[]⟩ : ByteArray) 0 0 (⟨#[]⟩ : ByteArray) (⟨#[]⟩ : ByteArray) false)))) = some (r1, r2, r3, r4, r5, r6, r7, r8, r9, r10, r11) := h
  clear h
  replace H := Option.bind_eq_some_iff.mp H
  obtain ⟨⟨t280, t281, t282, t283⟩, A20, H⟩ := H
  replace H : ((enc_Cursor_Err.f t281 t282 t283).bind fun bt285 => (if bt285.1 = 0 then (if 0 < (t280.size : Int) then (block_takeRev.j0 k bt285.2.1 bt285.2.2.1 bt285.2.2.2 (wrap64 (bt t280 0)) (⟨#[]⟩ : ByteArray) (⟨#[]⟩ : ByteArray) 0 0 (⟨#[]⟩ : ByteArray) (⟨#[]⟩ : ByteArray) false) else (none)) else (block_takeRev.j0 k bt285.2.1 bt285.2.2.1 bt285.2.2.2 0 (⟨#[]⟩ : ByteArray) (⟨#[]⟩ : ByteArray) 0 0 (⟨#[]⟩ : ByteArray) (⟨#[]⟩ : ByteArray) false))) = some (r1, r2, r3, r4, r5, r6, r7, r8, r9, r10, r11) := H
  have A2 := Aside0.mk A20
  clear A20
  replace H := Option.bind_eq_some_iff.mp H
  obtain ⟨⟨t285, t286, t287, t288⟩, A30, H⟩ := H
  replace H : (if t285 = 0 then (if 0 < (t280.size : Int) then (block_takeRev.j0 k t286 t287 t288 (wrap64 (bt t280 0)) (⟨#[]⟩ : ByteArray) (⟨#[]⟩ : ByteArray) 0 0 (⟨#[]⟩ : ByteArray) (⟨#[]⟩ : ByteArray) false) else (none)) else (block_takeRev.j0 k t286 t287 t288 0 (⟨#[]⟩ : ByteArray) (⟨#[]⟩ : ByteArray) 0 0 (⟨#[]⟩ : ByteArray) (⟨#[]⟩ : ByteArray) false)) = some (r1, r2, r3, r4, r5, r6, r7, r8, r9, r10, r11) := H
  have A3 := Aside0.mk A30
  clear A30
  have HC4 := Aside0.mk H
  clear H
  go_enter Try.func66, Try.ntmps66
  go_upto_if 10 with (first | ((with_reducible refine gate_dst (N := 2) rfl ?_); refine box_event ?hg (N := 2) ?hd (cs := #[.int .i64 0, .string (⟨#[]⟩ : ByteArray), .string (⟨#[]⟩ : ByteArray), .int .u64 0, .int .u64 0, .string (⟨#[]⟩ : ByteArray), .string (⟨#[]⟩ : ByteArray), .bool false]) (t := 47) ?hr ?_; (case hd => rfl); (case hg => rfl); (case hr => first | (go_simp; done) | (go_simp; rfl)); intro gb279 hg w5 hbox hb; have n0_ := Aside0.mk (IsS138.below (by repeat (first | (with_reducible first | exact HI0.out | apply IsS138.alloc | apply IsS138.drewN | apply IsS138.drew | apply IsS138.set_0 | apply IsS138.set_1 | apply IsS138.set_2) | exact HI0.out)) hb); have n1_ := Aside0.mk (KeepBut.trans (by repeat (first | (with_reducible first | exact HK.out | apply KeepBut.set_ | apply keep_drewN | apply keep_drew | apply keep_alloc) | exact HK.out)) (KeepBut.of_below hb g none) (.inl rfl)); have n2_ := Aside0.mk (below_step (by repeat (first | (with_reducible first | exact HB.out | apply below_alloc | apply pw_below_drewN | apply below_drew1 | refine below_set ?_ (IsS138.ge HI0.out)) | exact HB.out)) hb); have n3_ := Aside0.mk (hbox); have n4_ := Aside0.mk ((by rw [hg]; exact (keep_size (w := w) (g := g) (row := none) (by repeat (first | (with_reducible first | exact HK.out | apply KeepBut.set_ | apply keep_drewN | apply keep_drew | apply keep_alloc) | exact HK.out))) : w.heap.size ≤ gb279)); have n5_ := Aside0.mk ((Nat.le_trans HW0.out (by rw [hg]; exact (keep_size (w := w) (g := g) (row := none) (by repeat (first | (with_reducible first | exact HK.out | apply KeepBut.set_ | apply keep_drewN | apply keep_drew | apply keep_alloc) | exact HK.out))) : w.heap.size ≤ gb279) : w0.heap.size ≤ gb279)); have n6_ := Aside0.mk ((by rw [hg]; exact Nat.ne_of_lt (IsS138.lt (show IsS138 w0 _ g s0_0 s0_1 s0_2 from by repeat (first | (with_reducible first | exact HI0.out | apply IsS138.alloc | apply IsS138.drewN | apply IsS138.drew | apply IsS138.set_0 | apply IsS138.set_1 | apply IsS138.set_2) | exact HI0.out))) : g ≠ gb279)); have n7_ := Aside0.mk ((by rw [hg]; exact Nat.ne_of_gt (IsS138.lt (show IsS138 w0 _ g s0_0 s0_1 s0_2 from by repeat (first | (with_reducible first | exact HI0.out | apply IsS138.alloc | apply IsS138.drewN | apply IsS138.drew | apply IsS138.set_0 | apply IsS138.set_1 | apply IsS138.set_2) | exact HI0.out))) : gb279 ≠ g)); clear HI0; clear HK; clear HB; have HI0 := n0_; have HK := n1_; have HB := n2_; have BK279 := n3_; have GW279 := n4_; have GE279 := n5_; have NB0_279 := n6_; have NB279_0 := n7_; clear n0_ n1_ n2_ n3_ n4_ n5_ n6_ n7_; clear hb hbox hg) | ((with_reducible refine gate_callee (f := 89) rfl ?_); refine goesL_ (some 6) rfl rfl Try.func89 (by kernel_rfl) rfl #[.pointer (some ⟨g, 0, none⟩), .int .i64 1] rfl (by (try simp only [List.map_toArray, List.map_cons, List.map_nil]); first | done | rfl | (simp only [List.length_drop, List.length_take]; rfl)) ?_; (with_reducible refine (enc_Cursor_Bytes.calls g s0_0 s0_1 s0_2 1 t280 t281 t282 t283 w0 _ ?side1 ?side2 A2.out).mono ?_); (case side1 => repeat (first | (with_reducible first | exact HI0.out | apply IsS138.alloc | apply IsS138.drewN | apply IsS138.drew | apply IsS138.set_0 | apply IsS138.set_1 | apply IsS138.set_2 | refine IsS138.far ?_ NB0_279.out _) | exact HI0.out)); (case side2 => repeat (first | (with_reducible first | exact HB.out | apply below_alloc | apply pw_below_drewN | apply below_drew1 | refine below_set ?_ (IsS138.ge HI0.out) | refine below_set ?_ GE279.out) | exact HB.out)); rintro e w6 ⟨rfl, hi, hb, hk⟩; refine ⟨_, rfl, ?_⟩; have n0_ := Aside0.mk (KeepBut.blk hk (g' := gb279) (o := .cells #[.int .i64 0, .string (⟨#[]⟩ : ByteArray), .string (⟨#[]⟩ : ByteArray), .int .u64 0, .int .u64 0, .string (⟨#[]⟩ : ByteArray), .string (⟨#[]⟩ : ByteArray), .bool false] 47 (0, 0)) (by (with_reducible repeat (first | refine blk_drewN ?_ _ | refine blk_drew ?_ | refine blk_alloc ?_ _)); exact BK279.out) NB279_0.out (by simp)); have n1_ := Aside0.mk (KeepBut.trans (by repeat (first | (with_reducible first | exact HK.out | apply KeepBut.set_ | apply keep_drewN | apply keep_drew | apply keep_alloc | refine keep_far ?_ GW279.out _) | exact HK.out)) hk (.inl rfl)); have n2_ := Aside0.mk (hb); have n3_ := Aside0.mk (hi); clear BK279; clear HK; clear HB; clear HI0; have BK279 := n0_; have HK := n1_; have HB := n2_; have HI0 := n3_; clear n0_ n1_ n2_ n3_; (try clear hb); (try clear hb2); (try clear hk); (try clear hi)) | ((with_reducible refine gate_dst (N := 4) rfl ?_); refine box_event ?hg (N := 4) ?hd (cs := #[.int .i64 0, .string (⟨#[]⟩ : ByteArray), .string (⟨#[]⟩ : ByteArray), .int .u64 0, .int .u64 0, .string (⟨#[]⟩ : ByteArray), .string (⟨#[]⟩ : ByteArray), .bool false]) (t := 47) ?hr ?_; (case hd => rfl); (case hg => rfl); (case hr => first | (go_simp; done) | (go_simp; rfl)); intro gb284 hg w7 hbox hb; have n0_ := Aside0.mk (IsS138.below (by repeat (first | (with_reducible first | exact HI0.out | apply IsS138.alloc | apply IsS138.drewN | apply IsS138.drew | apply IsS138.set_0 | apply IsS138.set_1 | apply IsS138.set_2 | refine IsS138.far ?_ NB0_279.out _) | exact HI0.out)) hb); have n1_ := Aside0.mk (blk_below (g := gb279) (o := .cells #[.int .i64 0, .string (⟨#[]⟩ : ByteArray), .string (⟨#[]⟩ : ByteArray), .int .u64 0, .int .u64 0, .string (⟨#[]⟩ : ByteArray), .string (⟨#[]⟩ : ByteArray), .bool false] 47 (0, 0)) (by (with_reducible repeat (first | refine blk_drewN ?_ _ | refine blk_drew ?_ | refine blk_alloc ?_ _)); exact BK279.out) hb); have n2_ := Aside0.mk (KeepBut.trans (by repeat (first | (with_reducible first | exact HK.out | apply KeepBut.set_ | apply keep_drewN | apply keep_drew | apply keep_alloc | refine keep_far ?_ GW279.out _) | exact HK.out)) (KeepBut.of_below hb g none) (.inl rfl)); have n3_ := Aside0.mk (below_step (by repeat (first | (with_reducible first | exact HB.out | apply below_alloc | apply pw_below_drewN | apply below_drew1 | refine below_set ?_ (IsS138.ge HI0.out) | refine below_set ?_ GE279.out) | exact HB.out)) hb); have n4_ := Aside0.mk (hbox); have n5_ := Aside0.mk ((by rw [hg]; exact (keep_size (w := w) (g := g) (row := none) (by repeat (first | (with_reducible first | exact HK.out | apply KeepBut.set_ | apply keep_drewN | apply keep_drew | apply keep_alloc | refine keep_far ?_ GW279.out _) | exact HK.out))) : w.heap.size ≤ gb284)); have n6_ := Aside0.mk ((Nat.le_trans HW0.out (by rw [hg]; exact (keep_size (w := w) (g := g) (row := none) (by repeat (first | (with_reducible first | exact HK.out | apply KeepBut.set_ | apply keep_drewN | apply keep_drew | apply keep_alloc | refine keep_far ?_ GW279.out _) | exact HK.out))) : w.heap.size ≤ gb284) : w0.heap.size ≤ gb284)); have n7_ := Aside0.mk ((by rw [hg]; exact Nat.ne_of_lt (blk_lt (g := gb279) (o := .cells #[.int .i64 0, .string (⟨#[]⟩ : ByteArray), .string (⟨#[]⟩ : ByteArray), .int .u64 0, .int .u64 0, .string (⟨#[]⟩ : ByteArray), .string (⟨#[]⟩ : ByteArray), .bool false] 47 (0, 0)) (by (with_reducible repeat (first | refine blk_drewN ?_ _ | refine blk_drew ?_ | refine blk_alloc ?_ _)); exact BK279.out)) : gb279 ≠ gb284)); have n8_ := Aside0.mk ((by rw [hg]; exact Nat.ne_of_gt (blk_lt (g := gb279) (o := .cells #[.int .i64 0, .string (⟨#[]⟩ : ByteArray), .string (⟨#[]⟩ : ByteArray), .int .u64 0, .int .u64 0, .string (⟨#[]⟩ : ByteArray), .string (⟨#[]⟩ : ByteArray), .bool false] 47 (0, 0)) (by (with_reducible repeat (first | refine blk_drewN ?_ _ | refine blk_drew ?_ | refine blk_alloc ?_ _)); exact BK279.out)) : gb284 ≠ gb279)); have n9_ := Aside0.mk ((by rw [hg]; exact Nat.ne_of_lt (IsS138.lt (show IsS138 w0 _ g t281 t282 t283 from by repeat (first | (with_reducible first | exact HI0.out | apply IsS138.alloc | apply IsS138.drewN | apply IsS138.drew | apply IsS138.set_0 | apply IsS138.set_1 | apply IsS138.set_2 | refine IsS138.far ?_ NB0_279.out _) | exact HI0.out))) : g ≠ gb284)); have n10_ := Aside0.mk ((by rw [hg]; exact Nat.ne_of_gt (IsS138.lt (show IsS138 w0 _ g t281 t282 t283 from by repeat (first | (with_reducible first | exact HI0.out | apply IsS138.alloc | apply IsS138.drewN | apply IsS138.drew | apply IsS138.set_0 | apply IsS138.set_1 | apply IsS138.set_2 | refine IsS138.far ?_ NB0_279.out _) | exact HI0.out))) : gb284 ≠ g)); clear HI0; clear BK279; clear HK; clear HB; have HI0 := n0_; have BK279 := n1_; have HK := n2_; have HB := n3_; have BK284 := n4_; have GW284 := n5_; have GE284 := n6_; have NB279_284 := n7_; have NB284_279 := n8_; have NB0_284 := n9_; have NB284_0 := n10_; clear n0_ n1_ n2_ n3_ n4_ n5_ n6_ n7_ n8_ n9_ n10_; clear hb hbox hg; have hnb8 := NB284_279.out; have hnc8 := NB279_284.out; have hnb9 := NB284_0.out; have hnc9 := NB0_284.out; have hcz10_0 : w7.cell? ⟨gb284, 0, none⟩ = some (.int .i64 0) := (blk_cell BK284.out 0).trans rfl; have hcz10_1 : w7.cell? ⟨gb284, 1, none⟩ = some (.string (⟨#[]⟩ : ByteArray)) := (blk_cell BK284.out 1).trans rfl; have hcz10_2 : w7.cell? ⟨gb284, 2, none⟩ = some (.string (⟨#[]⟩ : ByteArray)) := (blk_cell BK284.out 2).trans rfl; have hcz10_3 : w7.cell? ⟨gb284, 3, none⟩ = some (.int .u64 0) := (blk_cell BK284.out 3).trans rfl; have hcz10_4 : w7.cell? ⟨gb284, 4, none⟩ = some (.int .u64 0) := (blk_cell BK284.out 4).trans rfl; have hcz10_5 : w7.cell? ⟨gb284, 5, none⟩ = some (.string (⟨#[]⟩ : ByteArray)) := (blk_cell BK284.out 5).trans rfl; have hcz10_6 : w7.cell? ⟨gb284, 6, none⟩ = some (.string (⟨#[]⟩ : ByteArray)) := (blk_cell BK284.out 6).trans rfl; have hcz10_7 : w7.cell? ⟨gb284, 7, none⟩ = some (.bool false) := (blk_cell BK284.out 7).trans rfl; have hfz10_0 := blk_frozen BK284.out 0; have hfz10_1 := blk_frozen BK284.out 1; have hfz10_2 := blk_frozen BK284.out 2; have hfz10_3 := blk_frozen BK284.out 3; have hfz10_4 := blk_frozen BK284.out 4; have hfz10_5 := blk_frozen BK284.out 5; have hfz10_6 := blk_frozen BK284.out 6; have hfz10_7 := blk_frozen BK284.out 7) | ((with_reducible refine gate_callee (f := 65) rfl ?_); refine goesL_ (some 9) rfl rfl Try.func65 (by kernel_rfl) rfl #[.pointer (some ⟨g, 0, none⟩)] rfl (by (try simp only [List.map_toArray, List.map_cons, List.map_nil]); first | done | rfl | (simp only [List.length_drop, List.length_take]; rfl)) ?_; (with_reducible refine (enc_Cursor_Err.calls g t281 t282 t283 t285 t286 t287 t288 w0 _ ?side1 ?side2 A3.out).mono ?_); (case side1 => repeat (first | (with_reducible first | exact HI0.out | apply IsS138.alloc | apply IsS138.drewN | apply IsS138.drew | apply IsS138.set_0 | apply IsS138.set_1 | apply IsS138.set_2 | refine IsS138.far ?_ NB0_279.out _ | refine IsS138.far ?_ NB0_284.out _) | exact HI0.out)); (case side2 => repeat (first | (with_reducible first | exact HB.out | apply below_alloc | apply pw_below_drewN | apply below_drew1 | refine below_set ?_ (IsS138.ge HI0.out) | refine below_set ?_ GE279.out | refine below_set ?_ GE284.out) | exact HB.out)); rintro e w11 ⟨rfl, hi, hb, hk⟩; refine ⟨_, rfl, ?_⟩; have n0_ := Aside0.mk (KeepBut.blk hk (g' := gb279) (o := .cells #[.int .i64 0, .string (⟨#[]⟩ : ByteArray), .string (⟨#[]⟩ : ByteArray), .int .u64 0, .int .u64 0, .string (⟨#[]⟩ : ByteArray), .string (⟨#[]⟩ : ByteArray), .bool false] 47 (0, 0)) (by (with_reducible repeat (first | refine blk_drewN ?_ _ | refine blk_drew ?_ | refine blk_alloc ?_ _)); refine blk_far ?_ NB279_284.out _; (with_reducible repeat (first | refine blk_drewN ?_ _ | refine blk_drew ?_ | refine blk_alloc ?_ _)); refine blk_far ?_ NB279_284.out _; (with_reducible repeat (first | refine blk_drewN ?_ _ | refine blk_drew ?_ | refine blk_alloc ?_ _)); refine blk_far ?_ NB279_284.out _; (with_reducible repeat (first | refine blk_drewN ?_ _ | refine blk_drew ?_ | refine blk_alloc ?_ _)); refine blk_far ?_ NB279_284.out _; (with_reducible repeat (first | refine blk_drewN ?_ _ | refine blk_drew ?_ | refine blk_alloc ?_ _)); refine blk_far ?_ NB279_284.out _; (with_reducible repeat (first | refine blk_drewN ?_ _ | refine blk_drew ?_ | refine blk_alloc ?_ _)); refine blk_far ?_ NB279_284.out _; (with_reducible repeat (first | refine blk_drewN ?_ _ | refine blk_drew ?_ | refine blk_alloc ?_ _)); refine blk_far ?_ NB279_284.out _; (with_reducible repeat (first | refine blk_drewN ?_ _ | refine blk_drew ?_ | refine blk_alloc ?_ _)); refine blk_far ?_ NB279_284.out _; (with_reducible repeat (first | refine blk_drewN ?_ _ | refine blk_drew ?_ | refine blk_alloc ?_ _)); exact BK279.out) NB279_0.out (by simp)); have n1_ := Aside0.mk (KeepBut.blk hk (g' := gb284) (o := .cells #[.int .i64 0, .string (⟨#[]⟩ : ByteArray), .string (⟨#[]⟩ : ByteArray), .int .u64 0, .int .u64 0, .string (⟨#[]⟩ : ByteArray), .string (⟨#[]⟩ : ByteArray), .bool false] 47 (0, 0)) (by (with_reducible repeat (first | refine blk_drewN ?_ _ | refine blk_drew ?_ | refine blk_alloc ?_ _)); refine blk_put (cs := #[.int .i64 0, .string (⟨#[]⟩ : ByteArray), .string (⟨#[]⟩ : ByteArray), .int .u64 0, .int .u64 0, .string (⟨#[]⟩ : ByteArray), .string (⟨#[]⟩ : ByteArray), .bool false]) ?_ 7 _ rfl; (with_reducible repeat (first | refine blk_drewN ?_ _ | refine blk_drew ?_ | refine blk_alloc ?_ _)); refine blk_put (cs := #[.int .i64 0, .string (⟨#[]⟩ : ByteArray), .string (⟨#[]⟩ : ByteArray), .int .u64 0, .int .u64 0, .string (⟨#[]⟩ : ByteArray), .string (⟨#[]⟩ : ByteArray), .bool false]) ?_ 6 _ rfl; (with_reducible repeat (first | refine blk_drewN ?_ _ | refine blk_drew ?_ | refine blk_alloc ?_ _)); refine blk_put (cs := #[.int .i64 0, .string (⟨#[]⟩ : ByteArray), .string (⟨#[]⟩ : ByteArray), .int .u64 0, .int .u64 0, .string (⟨#[]⟩ : ByteArray), .string (⟨#[]⟩ : ByteArray), .bool false]) ?_ 5 _ rfl; (with_reducible repeat (first | refine blk_drewN ?_ _ | refine blk_drew ?_ | refine blk_alloc ?_ _)); refine blk_put (cs := #[.int .i64 0, .string (⟨#[]⟩ : ByteArray), .string (⟨#[]⟩ : ByteArray), .int .u64 0, .int .u64 0, .string (⟨#[]⟩ : ByteArray), .string (⟨#[]⟩ : ByteArray), .bool false]) ?_ 4 _ rfl; (with_reducible repeat (first | refine blk_drewN ?_ _ | refine blk_drew ?_ | refine blk_alloc ?_ _)); refine blk_put (cs := #[.int .i64 0, .string (⟨#[]⟩ : ByteArray), .string (⟨#[]⟩ : ByteArray), .int .u64 0, .int .u64 0, .string (⟨#[]⟩ : ByteArray), .string (⟨#[]⟩ : ByteArray), .bool false]) ?_ 3 _ rfl; (with_reducible repeat (first | refine blk_drewN ?_ _ | refine blk_drew ?_ | refine blk_alloc ?_ _)); refine blk_put (cs := #[.int .i64 0, .string (⟨#[]⟩ : ByteArray), .string (⟨#[]⟩ : ByteArray), .int .u64 0, .int .u64 0, .string (⟨#[]⟩ : ByteArray), .string (⟨#[]⟩ : ByteArray), .bool false]) ?_ 2 _ rfl; (with_reducible repeat (first | refine blk_drewN ?_ _ | refine blk_drew ?_ | refine blk_alloc ?_ _)); refine blk_put (cs := #[.int .i64 0, .string (⟨#[]⟩ : ByteArray), .string (⟨#[]⟩ : ByteArray), .int .u64 0, .int .u64 0, .string (⟨#[]⟩ : ByteArray), .string (⟨#[]⟩ : ByteArray), .bool false]) ?_ 1 _ rfl; (with_reducible repeat (first | refine blk_drewN ?_ _ | refine blk_drew ?_ | refine blk_alloc ?_ _)); refine blk_put (cs := #[.int .i64 0, .string (⟨#[]⟩ : ByteArray), .string (⟨#[]⟩ : ByteArray), .int .u64 0, .int .u64 0, .string (⟨#[]⟩ : ByteArray), .string (⟨#[]⟩ : ByteArray), .bool false]) ?_ 0 _ rfl; (with_reducible repeat (first | refine blk_drewN ?_ _ | refine blk_drew ?_ | refine blk_alloc ?_ _)); exact BK284.out) NB284_0.out (by simp)); have n2_ := Aside0.mk (KeepBut.trans (by repeat (first | (with_reducible first | exact HK.out | apply KeepBut.set_ | apply keep_drewN | apply keep_drew | apply keep_alloc | refine keep_far ?_ GW279.out _ | refine keep_far ?_ GW284.out _) | exact HK.out)) hk (.inl rfl)); have n3_ := Aside0.mk (hb); have n4_ := Aside0.mk (hi); clear BK279; clear BK284; clear HK; clear HB; clear HI0; have BK279 := n0_; have BK284 := n1_; have HK := n2_; have HB := n3_; have HI0 := n4_; clear n0_ n1_ n2_ n3_ n4_; (try clear hb); (try clear hb2); (try clear hk); (try clear hi)))
  (try simp only [Act.put, List.setIfInBounds_toArray, List.set_cons_zero, List.set_cons_succ])
  go_cut [] (fun wc => ∃ (kq : Nat) (x285000_3 : Int), Aside0 (block_takeRev.j0 kq t286 t287 t288 x285000_3 (⟨#[]⟩ : ByteArray) (⟨#[]⟩ : ByteArray) 0 0 (⟨#[]⟩ : ByteArray) (⟨#[]⟩ : ByteArray) false = some (r1, r2, r3, r4, r5, r6, r7, r8, r9, r10, r11)) ∧ Aside0 (kq ≤ k) ∧ Aside0 (wc.heap[gb279]? = some (.cells #[.int .i64 0, .string (⟨#[]⟩ : ByteArray), .string (⟨#[]⟩ : ByteArray), .int .u64 0, .int .u64 0, .string (⟨#[]⟩ : ByteArray), .string (⟨#[]⟩ : ByteArray), .bool false] 47 (0, 0))) ∧ Aside0 (wc.heap[gb284]? = some (.cells #[.int .i64 x285000_3, .string (⟨#[]⟩ : ByteArray), .string (⟨#[]⟩ : ByteArray), .int .u64 0, .int .u64 0, .string (⟨#[]⟩ : ByteArray), .string (⟨#[]⟩ : ByteArray), .bool false] 47 (0, 0))) ∧ Aside0 (IsS138 w0 wc g t286 t287 t288) ∧ Aside0 (KeepBut w wc g none) ∧ Aside0 (Below w0.heap.size w0 wc))
  case first =>
    have H := HC4.out
    clear HC4
    by_cases c12 : t285 = 0
    · rw [if_pos c12] at H
      have c12b0 : (t285 == 0) = true := beq_iff_eq.mpr c12
      have c12b1 : (t285 != 0) = false := bne_eq_false_iff_eq.mpr c12
      clear c12
      (first | rw [c12b0] | (simp only [i64_w, i32_w]; rw [c12b0]) | skip)
      by_cases c13 : 0 < (t280.size : Int)
      · rw [if_pos c13] at H
        have c13b0 : decide (0 < (t280.size : Int)) = true := decide_eq_true c13
        have c13b1 : decide (0 < t280.size) = true := decide_eq_true (by omega)
        clear c13
        have H' := Aside0.mk H
        clear H
        have p14 : 0 ≤ (0 : Int) := (by omega)
        have q14 : 0 < t280.size := (by have : (0 : Int) < (t280.size : Int) := of_decide_eq_true (by first | (with_reducible assumption) | assumption); omega)
        have hx14 : ∀ h : 0 < t280.size, ((t280[0]'h).toNat : Int) = bt t280 0 := bt_at t280 0
        clear p14
        have qi14 : (0 < (t280.size : Int)) = True := eq_true (of_decide_eq_true (by first | (with_reducible assumption) | assumption))
        replace q14 := eq_true q14
        have hnb15 := NB284_279.out
        have hnc15 := NB279_284.out
        have hnb16 := NB284_0.out
        have hnc16 := NB0_284.out
        have hcz17_0 : w11.cell? ⟨gb284, 0, none⟩ = some (.int .i64 0) := (blk_cell BK284.out 0).trans rfl
        have hcz17_1 : w11.cell? ⟨gb284, 1, none⟩ = some (.string (⟨#[]⟩ : ByteArray)) := (blk_cell BK284.out 1).trans rfl
        have hcz17_2 : w11.cell? ⟨gb284, 2, none⟩ = some (.string (⟨#[]⟩ : ByteArray)) := (blk_cell BK284.out 2).trans rfl
        have hcz17_3 : w11.cell? ⟨gb284, 3, none⟩ = some (.int .u64 0) := (blk_cell BK284.out 3).trans rfl
        have hcz17_4 : w11.cell? ⟨gb284, 4, none⟩ = some (.int .u64 0) := (blk_cell BK284.out 4).trans rfl
        have hcz17_5 : w11.cell? ⟨gb284, 5, none⟩ = some (.string (⟨#[]⟩ : ByteArray)) := (blk_cell BK284.out 5).trans rfl
        have hcz17_6 : w11.cell? ⟨gb284, 6, none⟩ = some (.string (⟨#[]⟩ : ByteArray)) := (blk_cell BK284.out 6).trans rfl
        have hcz17_7 : w11.cell? ⟨gb284, 7, none⟩ = some (.bool false) := (blk_cell BK284.out 7).trans rfl
        have hfz17_0 := blk_frozen BK284.out 0
        have hfz17_1 := blk_frozen BK284.out 1
        have hfz17_2 := blk_frozen BK284.out 2
        have hfz17_3 := blk_frozen BK284.out 3
        have hfz17_4 := blk_frozen BK284.out 4
        have hfz17_5 := blk_frozen BK284.out 5
        have hfz17_6 := blk_frozen BK284.out 6
        have hfz17_7 := blk_frozen BK284.out 7
        go_wp2
        go_meet
        case rel => exact ⟨_, (wrap64 (bt t280 0)), H', ⟨by first | omega | exact Nat.le_refl _⟩, ⟨by (with_reducible repeat (first | refine blk_drewN ?_ _ | refine blk_drew ?_ | refine blk_alloc ?_ _)); refine blk_far ?_ NB279_284.out _; (with_reducible repeat (first | refine blk_drewN ?_ _ | refine blk_drew ?_ | refine blk_alloc ?_ _)); exact BK279.out⟩, ⟨by (with_reducible repeat (first | refine blk_drewN ?_ _ | refine blk_drew ?_ | refine blk_alloc ?_ _)); refine blk_put (cs := #[.int .i64 0, .string (⟨#[]⟩ : ByteArray), .string (⟨#[]⟩ : ByteArray), .int .u64 0, .int .u64 0, .string (⟨#[]⟩ : ByteArray), .string (⟨#[]⟩ : ByteArray), .bool false]) ?_ 0 _ rfl; (with_reducible repeat (first | refine blk_drewN ?_ _ | refine blk_drew ?_ | refine blk_alloc ?_ _)); exact BK284.out⟩, ⟨by repeat (first | (with_reducible first | exact HI0.out | apply IsS138.alloc | apply IsS138.drewN | apply IsS138.drew | apply IsS138.set_0 | apply IsS138.set_1 | apply IsS138.set_2 | refine IsS138.far ?_ NB0_279.out _ | refine IsS138.far ?_ NB0_284.out _) | exact HI0.out)⟩, ⟨by repeat (first | (with_reducible first | exact HK.out | apply KeepBut.set_ | apply keep_drewN | apply keep_drew | apply keep_alloc | refine keep_far ?_ GW279.out _ | refine keep_far ?_ GW284.out _) | exact HK.out)⟩, ⟨by repeat (first | (with_reducible first | exact HB.out | apply below_alloc | apply pw_below_drewN | apply below_drew1 | refine below_set ?_ (IsS138.ge HI0.out) | refine below_set ?_ GE279.out | refine below_set ?_ GE284.out) | exact HB.out)⟩⟩
      · rw [if_neg c13] at H
        exact absurd H (by simp)
    · rw [if_neg c12] at H
      have c12b0 : (t285 == 0) = false := beq_eq_false_iff_ne.mpr c12
      have c12b1 : (t285 != 0) = true := bne_iff_ne.mpr c12
      (first | rw [c12b0] | (simp only [i64_w, i32_w]; rw [c12b0]) | skip)
      have H' := Aside0.mk H
      clear H
      go_wp2
      go_meet
      case rel => exact ⟨_, (0), H', ⟨by first | omega | exact Nat.le_refl _⟩, ⟨by (with_reducible repeat (first | refine blk_drewN ?_ _ | refine blk_drew ?_ | refine blk_alloc ?_ _)); exact BK279.out⟩, ⟨by (with_reducible repeat (first | refine blk_drewN ?_ _ | refine blk_drew ?_ | refine blk_alloc ?_ _)); exact BK284.out⟩, ⟨by repeat (first | (with_reducible first | exact HI0.out | apply IsS138.alloc | apply IsS138.drewN | apply IsS138.drew | apply IsS138.set_0 | apply IsS138.set_1 | apply IsS138.set_2 | refine IsS138.far ?_ NB0_279.out _ | refine IsS138.far ?_ NB0_284.out _) | exact HI0.out)⟩, ⟨by repeat (first | (with_reducible first | exact HK.out | apply KeepBut.set_ | apply keep_drewN | apply keep_drew | apply keep_alloc | refine keep_far ?_ GW279.out _ | refine keep_far ?_ GW284.out _) | exact HK.out)⟩, ⟨by repeat (first | (with_reducible first | exact HB.out | apply below_alloc | apply pw_below_drewN | apply below_drew1 | refine below_set ?_ (IsS138.ge HI0.out) | refine below_set ?_ GE279.out | refine below_set ?_ GE284.out) | exact HB.out)⟩⟩
  case rest =>
    clear HC4
    try clear c1
    try clear p1
    try clear q1
    try clear hx1
    try clear qi1
    try clear p2
    try clear c6
    try clear p6
    try clear c8
    try clear c9
    try clear c12
    try clear c12b0
    try clear c12b1
    try clear c13
    try clear c13b0
    try clear c13b1
    try clear p14
    try clear q14
    try clear hx14
    try clear qi14
    try clear c15
    try clear c16
    try clear hcz10_0
    try clear hcz10_1
    try clear hcz10_2
    try clear hcz10_3
    try clear hcz10_4
    try clear hcz10_5
    try clear hcz10_6
    try clear hcz10_7
    try clear hcz17_0
    try clear hcz17_1
    try clear hcz17_2
    try clear hcz17_3
    try clear hcz17_4
    try clear hcz17_5
    try clear hcz17_6
    try clear hcz17_7
    try clear hfz10_0
    try clear hfz10_1
    try clear hfz10_2
    try clear hfz10_3
    try clear hfz10_4
    try clear hfz10_5
    try clear hfz10_6
    try clear hfz10_7
    try clear hfz17_0
    try clear hfz17_1
    try clear hfz17_2
    try clear hfz17_3
    try clear hfz17_4
    try clear hfz17_5
    try clear hfz17_6
    try clear hfz17_7
    try clear p14
    try clear q14
    obtain ⟨kq, x285000_3, HA, HJ3, BK279, BK284, HI0, HK, HB⟩ := hcut
    cases kq with
    | zero => exact absurd HA.out (by simp [block_takeRev.j0])
    | succ kj3 =>
      have H := HA.out
      clear HA
      simp only [block_takeRev.j0] at H
      replace H := Option.bind_eq_some_iff.mp H
      obtain ⟨⟨t289, t290, t291, t292⟩, A180, H⟩ := H
      replace H : ((enc_Cursor_Text.f kj3 t290 t291 t292 16).bind fun bt293 => ((enc_Cursor_Uint.f kj3 bt293.2.1 bt293.2.2.1 bt293.2.2.2).bind fun bt297 => ((enc_Cursor_Uint.f kj3 bt297.2.1 bt297.2.2.1 bt297.2.2.2).bind fun bt301 => ((enc_Cursor_Text.f kj3 bt301.2.1 bt301.2.2.1 bt301.2.2.2 32).bind fun bt305 => (some (x285000_3, t289, bt293.1, bt297.1, bt301.1, bt305.1, (⟨#[]⟩ : ByteArray), false, bt305.2.1, bt305.2.2.1, bt305.2.2.2)))))) = some (r1, r2, r3, r4, r5, r6, r7, r8, r9, r10, r11) := H
      have A18 := Aside0.mk A180
      clear A180
      replace H := Option.bind_eq_some_iff.mp H
      obtain ⟨⟨t293, t294, t295, t296⟩, A190, H⟩ := H
      replace H : ((enc_Cursor_Uint.f kj3 t294 t295 t296).bind fun bt297 => ((enc_Cursor_Uint.f kj3 bt297.2.1 bt297.2.2.1 bt297.2.2.2).bind fun bt301 => ((enc_Cursor_Text.f kj3 bt301.2.1 bt301.2.2.1 bt301.2.2.2 32).bind fun bt305 => (some (x285000_3, t289, t293, bt297.1, bt301.1, bt305.1, (⟨#[]⟩ : ByteArray), false, bt305.2.1, bt305.2.2.1, bt305.2.2.2))))) = some (r1, r2, r3, r4, r5, r6, r7, r8, r9, r10, r11) := H
      have A19 := Aside0.mk A190
      clear A190
      replace H := Option.bind_eq_some_iff.mp H
      obtain ⟨⟨t297, t298, t299, t300⟩, A200, H⟩ := H
      replace H : ((enc_Cursor_Uint.f kj3 t298 t299 t300).bind fun bt301 => ((enc_Cursor_Text.f kj3 bt301.2.1 bt301.2.2.1 bt301.2.2.2 32).bind fun bt305 => (some (x285000_3, t289, t293, t297, bt301.1, bt305.1, (⟨#[]⟩ : ByteArray), false, bt305.2.1, bt305.2.2.1, bt305.2.2.2)))) = some (r1, r2, r3, r4, r5, r6, r7, r8, r9, r10, r11) := H
      have A20 := Aside0.mk A200
      clear A200
      replace H := Option.bind_eq_some_iff.mp H
      obtain ⟨⟨t301, t302, t303, t304⟩, A210, H⟩ := H
      replace H : ((enc_Cursor_Text.f kj3 t302 t303 t304 32).bind fun bt305 => (some (x285000_3, t289, t293, t297, t301, bt305.1, (⟨#[]⟩ : ByteArray), false, bt305.2.1, bt305.2.2.1, bt305.2.2.2))) = some (r1, r2, r3, r4, r5, r6, r7, r8, r9, r10, r11) := H
      have A21 := Aside0.mk A210
      clear A210
      replace H := Option.bind_eq_some_iff.mp H
      obtain ⟨⟨t305, t306, t307, t308⟩, A220, H⟩ := H
      replace H : (some (x285000_3, t289, t293, t297, t301, t305, (⟨#[]⟩ : ByteArray), false, t306, t307, t308)) = some (r1, r2, r3, r4, r5, r6, r7, r8, r9, r10, r11) := H
      have A22 := Aside0.mk A220
      clear A220
      simp only [Option.some.injEq, Prod.mk.injEq] at H
      obtain ⟨rfl, rfl, rfl, rfl, rfl, rfl, rfl, rfl, rfl, rfl, rfl⟩ := H
      go_wp2_with (first | ((with_reducible refine gate_callee (f := 63) rfl ?_); refine goesL_ (some 16) rfl rfl Try.func63 (by kernel_rfl) rfl #[.pointer (some ⟨g, 0, none⟩), .int .i64 16] rfl (by (try simp only [List.map_toArray, List.map_cons, List.map_nil]); first | done | rfl | (simp only [List.length_drop, List.length_take]; rfl)) ?_; (with_reducible refine (enc_Cursor_Text.calls kj3 g t286 t287 t288 16 t289 t290 t291 t292 w0 _ ?side1 ?side2 A18.out).mono ?_); (case side1 => repeat (first | (with_reducible first | exact HI0.out | apply IsS138.alloc | apply IsS138.drewN | apply IsS138.drew | apply IsS138.set_0 | apply IsS138.set_1 | apply IsS138.set_2 | refine IsS138.far ?_ NB0_279.out _ | refine IsS138.far ?_ NB0_284.out _) | exact HI0.out)); (case side2 => repeat (first | (with_reducible first | exact HB.out | apply below_alloc | apply pw_below_drewN | apply below_drew1 | refine below_set ?_ (IsS138.ge HI0.out) | refine below_set ?_ GE279.out | refine below_set ?_ GE284.out) | exact HB.out)); rintro e w23 ⟨rfl, hi, hb, hk⟩; refine ⟨_, rfl, ?_⟩; have n0_ := Aside0.mk (KeepBut.blk hk (g' := gb279) (o := .cells #[.int .i64 0, .string (⟨#[]⟩ : ByteArray), .string (⟨#[]⟩ : ByteArray), .int .u64 0, .int .u64 0, .string (⟨#[]⟩ : ByteArray), .string (⟨#[]⟩ : ByteArray), .bool false] 47 (0, 0)) (by (with_reducible repeat (first | refine blk_drewN ?_ _ | refine blk_drew ?_ | refine blk_alloc ?_ _)); exact BK279.out) NB279_0.out (by simp)); have n1_ := Aside0.mk (KeepBut.blk hk (g' := gb284) (o := .cells #[.int .i64 x285000_3, .string (⟨#[]⟩ : ByteArray), .string (⟨#[]⟩ : ByteArray), .int .u64 0, .int .u64 0, .string (⟨#[]⟩ : ByteArray), .string (⟨#[]⟩ : ByteArray), .bool false] 47 (0, 0)) (by (with_reducible repeat (first | refine blk_drewN ?_ _ | refine blk_drew ?_ | refine blk_alloc ?_ _)); exact BK284.out) NB284_0.out (by simp)); have n2_ := Aside0.mk (KeepBut.trans (by repeat (first | (with_reducible first | exact HK.out | apply KeepBut.set_ | apply keep_drewN | apply keep_drew | apply keep_alloc | refine keep_far ?_ GW279.out _ | refine keep_far ?_ GW284.out _) | exact HK.out)) hk (.inl rfl)); have n3_ := Aside0.mk (hb); have n4_ := Aside0.mk (hi); clear BK279; clear BK284; clear HK; clear HB; clear HI0; have BK279 := n0_; have BK284 := n1_; have HK := n2_; have HB := n3_; have HI0 := n4_; clear n0_ n1_ n2_ n3_ n4_; (try clear hb); (try clear hb2); (try clear hk); (try clear hi)) | ((with_reducible refine gate_callee (f := 63) rfl ?_); refine goesL_ (some 18) rfl rfl Try.func63 (by kernel_rfl) rfl #[.pointer (some ⟨g, 0, none⟩), .int .i64 16] rfl (by (try simp only [List.map_toArray, List.map_cons, List.map_nil]); first | done | rfl | (simp only [List.length_drop, List.length_take]; rfl)) ?_; (with_reducible refine (enc_Cursor_Text.calls kj3 g t290 t291 t292 16 t293 t294 t295 t296 w0 _ ?side1 ?side2 A19.out).mono ?_); (case side1 => repeat (first | (with_reducible first | exact HI0.out | apply IsS138.alloc | apply IsS138.drewN | apply IsS138.drew | apply IsS138.set_0 | apply IsS138.set_1 | apply IsS138.set_2 | refine IsS138.far ?_ NB0_279.out _ | refine IsS138.far ?_ NB0_284.out _) | exact HI0.out)); (case side2 => repeat (first | (with_reducible first | exact HB.out | apply below_alloc | apply pw_below_drewN | apply below_drew1 | refine below_set ?_ (IsS138.ge HI0.out) | refine below_set ?_ GE279.out | refine below_set ?_ GE284.out) | exact HB.out)); rintro e w24 ⟨rfl, hi, hb, hk⟩; refine ⟨_, rfl, ?_⟩; have n0_ := Aside0.mk (KeepBut.blk hk (g' := gb279) (o := .cells #[.int .i64 0, .string (⟨#[]⟩ : ByteArray), .string (⟨#[]⟩ : ByteArray), .int .u64 0, .int .u64 0, .string (⟨#[]⟩ : ByteArray), .string (⟨#[]⟩ : ByteArray), .bool false] 47 (0, 0)) (by (with_reducible repeat (first | refine blk_drewN ?_ _ | refine blk_drew ?_ | refine blk_alloc ?_ _)); exact BK279.out) NB279_0.out (by simp)); have n1_ := Aside0.mk (KeepBut.blk hk (g' := gb284) (o := .cells #[.int .i64 x285000_3, .string (⟨#[]⟩ : ByteArray), .string (⟨#[]⟩ : ByteArray), .int .u64 0, .int .u64 0, .string (⟨#[]⟩ : ByteArray), .string (⟨#[]⟩ : ByteArray), .bool false] 47 (0, 0)) (by (with_reducible repeat (first | refine blk_drewN ?_ _ | refine blk_drew ?_ | refine blk_alloc ?_ _)); exact BK284.out) NB284_0.out (by simp)); have n2_ := Aside0.mk (KeepBut.trans (by repeat (first | (with_reducible first | exact HK.out | apply KeepBut.set_ | apply keep_drewN | apply keep_drew | apply keep_alloc | refine keep_far ?_ GW279.out _ | refine keep_far ?_ GW284.out _) | exact HK.out)) hk (.inl rfl)); have n3_ := Aside0.mk (hb); have n4_ := Aside0.mk (hi); clear BK279; clear BK284; clear HK; clear HB; clear HI0; have BK279 := n0_; have BK284 := n1_; have HK := n2_; have HB := n3_; have HI0 := n4_; clear n0_ n1_ n2_ n3_ n4_; (try clear hb); (try clear hb2); (try clear hk); (try clear hi); have hnb25 := NB284_279.out; have hnc25 := NB279_284.out; have hnb26 := NB284_0.out; have hnc26 := NB0_284.out; have hcz27_0 : w24.cell? ⟨gb284, 0, none⟩ = some (.int .i64 x285000_3) := (blk_cell BK284.out 0).trans rfl; have hcz27_1 : w24.cell? ⟨gb284, 1, none⟩ = some (.string (⟨#[]⟩ : ByteArray)) := (blk_cell BK284.out 1).trans rfl; have hcz27_2 : w24.cell? ⟨gb284, 2, none⟩ = some (.string (⟨#[]⟩ : ByteArray)) := (blk_cell BK284.out 2).trans rfl; have hcz27_3 : w24.cell? ⟨gb284, 3, none⟩ = some (.int .u64 0) := (blk_cell BK284.out 3).trans rfl; have hcz27_4 : w24.cell? ⟨gb284, 4, none⟩ = some (.int .u64 0) := (blk_cell BK284.out 4).trans rfl; have hcz27_5 : w24.cell? ⟨gb284, 5, none⟩ = some (.string (⟨#[]⟩ : ByteArray)) := (blk_cell BK284.out 5).trans rfl; have hcz27_6 : w24.cell? ⟨gb284, 6, none⟩ = some (.string (⟨#[]⟩ : ByteArray)) := (blk_cell BK284.out 6).trans rfl; have hcz27_7 : w24.cell? ⟨gb284, 7, none⟩ = some (.bool false) := (blk_cell BK284.out 7).trans rfl; have hfz27_0 := blk_frozen BK284.out 0; have hfz27_1 := blk_frozen BK284.out 1; have hfz27_2 := blk_frozen BK284.out 2; have hfz27_3 := blk_frozen BK284.out 3; have hfz27_4 := blk_frozen BK284.out 4; have hfz27_5 := blk_frozen BK284.out 5; have hfz27_6 := blk_frozen BK284.out 6; have hfz27_7 := blk_frozen BK284.out 7) | ((with_reducible refine gate_callee (f := 62) rfl ?_); refine goesL_ (some 22) rfl rfl Try.func62 (by kernel_rfl) rfl #[.pointer (some ⟨g, 0, none⟩)] rfl (by (try simp only [List.map_toArray, List.map_cons, List.map_nil]); first | done | rfl | (simp only [List.length_drop, List.length_take]; rfl)) ?_; (with_reducible refine (enc_Cursor_Uint.calls kj3 g t294 t295 t296 t297 t298 t299 t300 w0 _ ?side1 ?side2 A20.out).mono ?_); (case side1 => repeat (first | (with_reducible first | exact HI0.out | apply IsS138.alloc | apply IsS138.drewN | apply IsS138.drew | apply IsS138.set_0 | apply IsS138.set_1 | apply IsS138.set_2 | refine IsS138.far ?_ NB0_279.out _ | refine IsS138.far ?_ NB0_284.out _) | exact HI0.out)); (case side2 => repeat (first | (with_reducible first | exact HB.out | apply below_alloc | apply pw_below_drewN | apply below_drew1 | refine below_set ?_ (IsS138.ge HI0.out) | refine below_set ?_ GE279.out | refine below_set ?_ GE284.out) | exact HB.out)); rintro e w28 ⟨rfl, hi, hb, hk⟩; refine ⟨_, rfl, ?_⟩; have n0_ := Aside0.mk (KeepBut.blk hk (g' := gb279) (o := .cells #[.int .i64 0, .string (⟨#[]⟩ : ByteArray), .string (⟨#[]⟩ : ByteArray), .int .u64 0, .int .u64 0, .string (⟨#[]⟩ : ByteArray), .string (⟨#[]⟩ : ByteArray), .bool false] 47 (0, 0)) (by (with_reducible repeat (first | refine blk_drewN ?_ _ | refine blk_drew ?_ | refine blk_alloc ?_ _)); refine blk_far ?_ NB279_284.out _; (with_reducible repeat (first | refine blk_drewN ?_ _ | refine blk_drew ?_ | refine blk_alloc ?_ _)); refine blk_far ?_ NB279_284.out _; (with_reducible repeat (first | refine blk_drewN ?_ _ | refine blk_drew ?_ | refine blk_alloc ?_ _)); exact BK279.out) NB279_0.out (by simp)); have n1_ := Aside0.mk (KeepBut.blk hk (g' := gb284) (o := .cells #[.int .i64 x285000_3, .string t289, .string t293, .int .u64 0, .int .u64 0, .string (⟨#[]⟩ : ByteArray), .string (⟨#[]⟩ : ByteArray), .bool false] 47 (0, 0)) (by (with_reducible repeat (first | refine blk_drewN ?_ _ | refine blk_drew ?_ | refine blk_alloc ?_ _)); refine blk_put (cs := #[.int .i64 x285000_3, .string t289, .string (⟨#[]⟩ : ByteArray), .int .u64 0, .int .u64 0, .string (⟨#[]⟩ : ByteArray), .string (⟨#[]⟩ : ByteArray), .bool false]) ?_ 2 _ rfl; (with_reducible repeat (first | refine blk_drewN ?_ _ | refine blk_drew ?_ | refine blk_alloc ?_ _)); refine blk_put (cs := #[.int .i64 x285000_3, .string (⟨#[]⟩ : ByteArray), .string (⟨#[]⟩ : ByteArray), .int .u64 0, .int .u64 0, .string (⟨#[]⟩ : ByteArray), .string (⟨#[]⟩ : ByteArray), .bool false]) ?_ 1 _ rfl; (with_reducible repeat (first | refine blk_drewN ?_ _ | refine blk_drew ?_ | refine blk_alloc ?_ _)); exact BK284.out) NB284_0.out (by simp)); have n2_ := Aside0.mk (KeepBut.trans (by repeat (first | (with_reducible first | exact HK.out | apply KeepBut.set_ | apply keep_drewN | apply keep_drew | apply keep_alloc | refine keep_far ?_ GW279.out _ | refine keep_far ?_ GW284.out _) | exact HK.out)) hk (.inl rfl)); have n3_ := Aside0.mk (hb); have n4_ := Aside0.mk (hi); clear BK279; clear BK284; clear HK; clear HB; clear HI0; have BK279 := n0_; have BK284 := n1_; have HK := n2_; have HB := n3_; have HI0 := n4_; clear n0_ n1_ n2_ n3_ n4_; (try clear hb); (try clear hb2); (try clear hk); (try clear hi)) | ((with_reducible refine gate_callee (f := 62) rfl ?_); refine goesL_ (some 24) rfl rfl Try.func62 (by kernel_rfl) rfl #[.pointer (some ⟨g, 0, none⟩)] rfl (by (try simp only [List.map_toArray, List.map_cons, List.map_nil]); first | done | rfl | (simp only [List.length_drop, List.length_take]; rfl)) ?_; (with_reducible refine (enc_Cursor_Uint.calls kj3 g t298 t299 t300 t301 t302 t303 t304 w0 _ ?side1 ?side2 A21.out).mono ?_); (case side1 => repeat (first | (with_reducible first | exact HI0.out | apply IsS138.alloc | apply IsS138.drewN | apply IsS138.drew | apply IsS138.set_0 | apply IsS138.set_1 | apply IsS138.set_2 | refine IsS138.far ?_ NB0_279.out _ | refine IsS138.far ?_ NB0_284.out _) | exact HI0.out)); (case side2 => repeat (first | (with_reducible first | exact HB.out | apply below_alloc | apply pw_below_drewN | apply below_drew1 | refine below_set ?_ (IsS138.ge HI0.out) | refine below_set ?_ GE279.out | refine below_set ?_ GE284.out) | exact HB.out)); rintro e w29 ⟨rfl, hi, hb, hk⟩; refine ⟨_, rfl, ?_⟩; have n0_ := Aside0.mk (KeepBut.blk hk (g' := gb279) (o := .cells #[.int .i64 0, .string (⟨#[]⟩ : ByteArray), .string (⟨#[]⟩ : ByteArray), .int .u64 0, .int .u64 0, .string (⟨#[]⟩ : ByteArray), .string (⟨#[]⟩ : ByteArray), .bool false] 47 (0, 0)) (by (with_reducible repeat (first | refine blk_drewN ?_ _ | refine blk_drew ?_ | refine blk_alloc ?_ _)); exact BK279.out) NB279_0.out (by simp)); have n1_ := Aside0.mk (KeepBut.blk hk (g' := gb284) (o := .cells #[.int .i64 x285000_3, .string t289, .string t293, .int .u64 0, .int .u64 0, .string (⟨#[]⟩ : ByteArray), .string (⟨#[]⟩ : ByteArray), .bool false] 47 (0, 0)) (by (with_reducible repeat (first | refine blk_drewN ?_ _ | refine blk_drew ?_ | refine blk_alloc ?_ _)); exact BK284.out) NB284_0.out (by simp)); have n2_ := Aside0.mk (KeepBut.trans (by repeat (first | (with_reducible first | exact HK.out | apply KeepBut.set_ | apply keep_drewN | apply keep_drew | apply keep_alloc | refine keep_far ?_ GW279.out _ | refine keep_far ?_ GW284.out _) | exact HK.out)) hk (.inl rfl)); have n3_ := Aside0.mk (hb); have n4_ := Aside0.mk (hi); clear BK279; clear BK284; clear HK; clear HB; clear HI0; have BK279 := n0_; have BK284 := n1_; have HK := n2_; have HB := n3_; have HI0 := n4_; clear n0_ n1_ n2_ n3_ n4_; (try clear hb); (try clear hb2); (try clear hk); (try clear hi); have hcz30_0 : w29.cell? ⟨gb284, 0, none⟩ = some (.int .i64 x285000_3) := (blk_cell BK284.out 0).trans rfl; have hcz30_1 : w29.cell? ⟨gb284, 1, none⟩ = some (.string t289) := (blk_cell BK284.out 1).trans rfl; have hcz30_2 : w29.cell? ⟨gb284, 2, none⟩ = some (.string t293) := (blk_cell BK284.out 2).trans rfl; have hcz30_3 : w29.cell? ⟨gb284, 3, none⟩ = some (.int .u64 0) := (blk_cell BK284.out 3).trans rfl; have hcz30_4 : w29.cell? ⟨gb284, 4, none⟩ = some (.int .u64 0) := (blk_cell BK284.out 4).trans rfl; have hcz30_5 : w29.cell? ⟨gb284, 5, none⟩ = some (.string (⟨#[]⟩ : ByteArray)) := (blk_cell BK284.out 5).trans rfl; have hcz30_6 : w29.cell? ⟨gb284, 6, none⟩ = some (.string (⟨#[]⟩ : ByteArray)) := (blk_cell BK284.out 6).trans rfl; have hcz30_7 : w29.cell? ⟨gb284, 7, none⟩ = some (.bool false) := (blk_cell BK284.out 7).trans rfl; have hfz30_0 := blk_frozen BK284.out 0; have hfz30_1 := blk_frozen BK284.out 1; have hfz30_2 := blk_frozen BK284.out 2; have hfz30_3 := blk_frozen BK284.out 3; have hfz30_4 := blk_frozen BK284.out 4; have hfz30_5 := blk_frozen BK284.out 5; have hfz30_6 := blk_frozen BK284.out 6; have hfz30_7 := blk_frozen BK284.out 7) | ((with_reducible refine gate_callee (f := 63) rfl ?_); refine goesL_ (some 28) rfl rfl Try.func63 (by kernel_rfl) rfl #[.pointer (some ⟨g, 0, none⟩), .int .i64 32] rfl (by (try simp only [List.map_toArray, List.map_cons, List.map_nil]); first | done | rfl | (simp only [List.length_drop, List.length_take]; rfl)) ?_; (with_reducible refine (enc_Cursor_Text.calls kj3 g t302 t303 t304 32 t305 t306 t307 t308 w0 _ ?side1 ?side2 A22.out).mono ?_); (case side1 => repeat (first | (with_reducible first | exact HI0.out | apply IsS138.alloc | apply IsS138.drewN | apply IsS138.drew | apply IsS138.set_0 | apply IsS138.set_1 | apply IsS138.set_2 | refine IsS138.far ?_ NB0_279.out _ | refine IsS138.far ?_ NB0_284.out _) | exact HI0.out)); (case side2 => repeat (first | (with_reducible first | exact HB.out | apply below_alloc | apply pw_below_drewN | apply below_drew1 | refine below_set ?_ (IsS138.ge HI0.out) | refine below_set ?_ GE279.out | refine below_set ?_ GE284.out) | exact HB.out)); rintro e w31 ⟨rfl, hi, hb, hk⟩; refine ⟨_, rfl, ?_⟩; have n0_ := Aside0.mk (KeepBut.blk hk (g' := gb279) (o := .cells #[.int .i64 0, .string (⟨#[]⟩ : ByteArray), .string (⟨#[]⟩ : ByteArray), .int .u64 0, .int .u64 0, .string (⟨#[]⟩ : ByteArray), .string (⟨#[]⟩ : ByteArray), .bool false] 47 (0, 0)) (by (with_reducible repeat (first | refine blk_drewN ?_ _ | refine blk_drew ?_ | refine blk_alloc ?_ _)); refine blk_far ?_ NB279_284.out _; (with_reducible repeat (first | refine blk_drewN ?_ _ | refine blk_drew ?_ | refine blk_alloc ?_ _)); refine blk_far ?_ NB279_284.out _; (with_reducible repeat (first | refine blk_drewN ?_ _ | refine blk_drew ?_ | refine blk_alloc ?_ _)); exact BK279.out) NB279_0.out (by simp)); have n1_ := Aside0.mk (KeepBut.blk hk (g' := gb284) (o := .cells #[.int .i64 x285000_3, .string t289, .string t293, .int .u64 t297, .int .u64 t301, .string (⟨#[]⟩ : ByteArray), .string (⟨#[]⟩ : ByteArray), .bool false] 47 (0, 0)) (by (with_reducible repeat (first | refine blk_drewN ?_ _ | refine blk_drew ?_ | refine blk_alloc ?_ _)); refine blk_put (cs := #[.int .i64 x285000_3, .string t289, .string t293, .int .u64 t297, .int .u64 0, .string (⟨#[]⟩ : ByteArray), .string (⟨#[]⟩ : ByteArray), .bool false]) ?_ 4 _ rfl; (with_reducible repeat (first | refine blk_drewN ?_ _ | refine blk_drew ?_ | refine blk_alloc ?_ _)); refine blk_put (cs := #[.int .i64 x285000_3, .string t289, .string t293, .int .u64 0, .int .u64 0, .string (⟨#[]⟩ : ByteArray), .string (⟨#[]⟩ : ByteArray), .bool false]) ?_ 3 _ rfl; (with_reducible repeat (first | refine blk_drewN ?_ _ | refine blk_drew ?_ | refine blk_alloc ?_ _)); exact BK284.out) NB284_0.out (by simp)); have n2_ := Aside0.mk (KeepBut.trans (by repeat (first | (with_reducible first | exact HK.out | apply KeepBut.set_ | apply keep_drewN | apply keep_drew | apply keep_alloc | refine keep_far ?_ GW279.out _ | refine keep_far ?_ GW284.out _) | exact HK.out)) hk (.inl rfl)); have n3_ := Aside0.mk (hb); have n4_ := Aside0.mk (hi); clear BK279; clear BK284; clear HK; clear HB; clear HI0; have BK279 := n0_; have BK284 := n1_; have HK := n2_; have HB := n3_; have HI0 := n4_; clear n0_ n1_ n2_ n3_ n4_; (try clear hb); (try clear hb2); (try clear hk); (try clear hi); have hcz32_0 : w31.cell? ⟨gb284, 0, none⟩ = some (.int .i64 x285000_3) := (blk_cell BK284.out 0).trans rfl; have hcz32_1 : w31.cell? ⟨gb284, 1, none⟩ = some (.string t289) := (blk_cell BK284.out 1).trans rfl; have hcz32_2 : w31.cell? ⟨gb284, 2, none⟩ = some (.string t293) := (blk_cell BK284.out 2).trans rfl; have hcz32_3 : w31.cell? ⟨gb284, 3, none⟩ = some (.int .u64 t297) := (blk_cell BK284.out 3).trans rfl; have hcz32_4 : w31.cell? ⟨gb284, 4, none⟩ = some (.int .u64 t301) := (blk_cell BK284.out 4).trans rfl; have hcz32_5 : w31.cell? ⟨gb284, 5, none⟩ = some (.string (⟨#[]⟩ : ByteArray)) := (blk_cell BK284.out 5).trans rfl; have hcz32_6 : w31.cell? ⟨gb284, 6, none⟩ = some (.string (⟨#[]⟩ : ByteArray)) := (blk_cell BK284.out 6).trans rfl; have hcz32_7 : w31.cell? ⟨gb284, 7, none⟩ = some (.bool false) := (blk_cell BK284.out 7).trans rfl; have hfz32_0 := blk_frozen BK284.out 0; have hfz32_1 := blk_frozen BK284.out 1; have hfz32_2 := blk_frozen BK284.out 2; have hfz32_3 := blk_frozen BK284.out 3; have hfz32_4 := blk_frozen BK284.out 4; have hfz32_5 := blk_frozen BK284.out 5; have hfz32_6 := blk_frozen BK284.out 6; have hfz32_7 := blk_frozen BK284.out 7; have hnb33 := NB279_0.out; have hnc33 := NB0_279.out; have hcz34_0 : w31.cell? ⟨gb279, 0, none⟩ = some (.int .i64 0) := (blk_cell BK279.out 0).trans rfl; have hcz34_1 : w31.cell? ⟨gb279, 1, none⟩ = some (.string (⟨#[]⟩ : ByteArray)) := (blk_cell BK279.out 1).trans rfl; have hcz34_2 : w31.cell? ⟨gb279, 2, none⟩ = some (.string (⟨#[]⟩ : ByteArray)) := (blk_cell BK279.out 2).trans rfl; have hcz34_3 : w31.cell? ⟨gb279, 3, none⟩ = some (.int .u64 0) := (blk_cell BK279.out 3).trans rfl; have hcz34_4 : w31.cell? ⟨gb279, 4, none⟩ = some (.int .u64 0) := (blk_cell BK279.out 4).trans rfl; have hcz34_5 : w31.cell? ⟨gb279, 5, none⟩ = some (.string (⟨#[]⟩ : ByteArray)) := (blk_cell BK279.out 5).trans rfl; have hcz34_6 : w31.cell? ⟨gb279, 6, none⟩ = some (.string (⟨#[]⟩ : ByteArray)) := (blk_cell BK279.out 6).trans rfl; have hcz34_7 : w31.cell? ⟨gb279, 7, none⟩ = some (.bool false) := (blk_cell BK279.out 7).trans rfl; have hfz34_0 := blk_frozen BK279.out 0; have hfz34_1 := blk_frozen BK279.out 1; have hfz34_2 := blk_frozen BK279.out 2; have hfz34_3 := blk_frozen BK279.out 3; have hfz34_4 := blk_frozen BK279.out 4; have hfz34_5 := blk_frozen BK279.out 5; have hfz34_6 := blk_frozen BK279.out 6; have hfz34_7 := blk_frozen BK279.out 7))
      refine bodyPost_ret (results_cell_row rfl _ _ gb279 47 #[.int .i64 x285000_3, .string t289, .string t293, .int .u64 t297, .int .u64 t301, .string t305, .string (⟨#[]⟩ : ByteArray), .bool false] (0, 0) _ rfl (by (with_reducible repeat (first | refine blk_drewN ?_ _ | refine blk_drew ?_ | refine blk_alloc ?_ _)); refine blk_put (cs := #[.int .i64 x285000_3, .string t289, .string t293, .int .u64 t297, .int .u64 t301, .string t305, .string (⟨#[]⟩ : ByteArray), .bool false]) ?_ 7 _ rfl; (with_reducible repeat (first | refine blk_drewN ?_ _ | refine blk_drew ?_ | refine blk_alloc ?_ _)); refine blk_put (cs := #[.int .i64 x285000_3, .string t289, .string t293, .int .u64 t297, .int .u64 t301, .string t305, .string (⟨#[]⟩ : ByteArray), .bool false]) ?_ 6 _ rfl; (with_reducible repeat (first | refine blk_drewN ?_ _ | refine blk_drew ?_ | refine blk_alloc ?_ _)); refine blk_put (cs := #[.int .i64 x285000_3, .string t289, .string t293, .int .u64 t297, .int .u64 t301, .string (⟨#[]⟩ : ByteArray), .string (⟨#[]⟩ : ByteArray), .bool false]) ?_ 5 _ rfl; (with_reducible repeat (first | refine blk_drewN ?_ _ | refine blk_drew ?_ | refine blk_alloc ?_ _)); refine blk_put (cs := #[.int .i64 x285000_3, .string t289, .string t293, .int .u64 t297, .int .u64 0, .string (⟨#[]⟩ : ByteArray), .string (⟨#[]⟩ : ByteArray), .bool false]) ?_ 4 _ rfl; (with_reducible repeat (first | refine blk_drewN ?_ _ | refine blk_drew ?_ | refine blk_alloc ?_ _)); refine blk_put (cs := #[.int .i64 x285000_3, .string t289, .string t293, .int .u64 0, .int .u64 0, .string (⟨#[]⟩ : ByteArray), .string (⟨#[]⟩ : ByteArray), .bool false]) ?_ 3 _ rfl; (with_reducible repeat (first | refine blk_drewN ?_ _ | refine blk_drew ?_ | refine blk_alloc ?_ _)); refine blk_put (cs := #[.int .i64 x285000_3, .string t289, .string (⟨#[]⟩ : ByteArray), .int .u64 0, .int .u64 0, .string (⟨#[]⟩ : ByteArray), .string (⟨#[]⟩ : ByteArray), .bool false]) ?_ 2 _ rfl; (with_reducible repeat (first | refine blk_drewN ?_ _ | refine blk_drew ?_ | refine blk_alloc ?_ _)); refine blk_put (cs := #[.int .i64 x285000_3, .string (⟨#[]⟩ : ByteArray), .string (⟨#[]⟩ : ByteArray), .int .u64 0, .int .u64 0, .string (⟨#[]⟩ : ByteArray), .string (⟨#[]⟩ : ByteArray), .bool false]) ?_ 1 _ rfl; (with_reducible repeat (first | refine blk_drewN ?_ _ | refine blk_drew ?_ | refine blk_alloc ?_ _)); refine blk_put (cs := #[.int .i64 0, .string (⟨#[]⟩ : ByteArray), .string (⟨#[]⟩ : ByteArray), .int .u64 0, .int .u64 0, .string (⟨#[]⟩ : ByteArray), .string (⟨#[]⟩ : ByteArray), .bool false]) ?_ 0 _ rfl; (with_reducible repeat (first | refine blk_drewN ?_ _ | refine blk_drew ?_ | refine blk_alloc ?_ _)); refine blk_far ?_ NB279_284.out _; (with_reducible repeat (first | refine blk_drewN ?_ _ | refine blk_drew ?_ | refine blk_alloc ?_ _)); exact BK279.out) Try.underlying47 rfl (by kernel_rfl)) rfl ?_
      exact ⟨by first | rfl | (simp [errW_none, errW_some] <;> rfl) | (simp [*, errW_none, errW_some] <;> rfl), by repeat (first | (with_reducible first | exact HI0.out | apply IsS138.alloc | apply IsS138.drewN | apply IsS138.drew | apply IsS138.set_0 | apply IsS138.set_1 | apply IsS138.set_2 | refine IsS138.far ?_ NB0_279.out _ | refine IsS138.far ?_ NB0_284.out _) | exact HI0.out), by repeat (first | (with_reducible first | exact HB.out | apply below_alloc | apply pw_below_drewN | apply below_drew1 | refine below_set ?_ (IsS138.ge HI0.out) | refine below_set ?_ GE279.out | refine below_set ?_ GE284.out) | exact HB.out), by repeat (first | (with_reducible first | exact HK.out | apply KeepBut.set_ | apply keep_drewN | apply keep_drew | apply keep_alloc | refine keep_far ?_ GW279.out _ | refine keep_far ?_ GW284.out _) | exact HK.out)⟩
/-! ### enc_Cursor_End: function 67 -/
def enc_Cursor_End.f (s0_0 : ByteArray) (s0_1 : Int) (s0_2 : Int) : Option (Int × ByteArray × Int × Int) := if s0_1 < (s0_0.size : Int) then ((enc_Cursor_stop.f s0_0 s0_1 s0_2 5).bind fun bt309 => (some (bt309.2.2, bt309.1, bt309.2.1, bt309.2.2))) else (some (s0_2, s0_0, s0_1, s0_2))
set_option maxHeartbeats 8000000 in
set_option maxRecDepth 100000 in
theorem enc_Cursor_End.calls (g : Nat) (s0_0 : ByteArray) (s0_1 : Int) (s0_2 : Int) (r1 : Int) (r2 : ByteArray) (r3 : Int) (r4 : Int) (w0 w : World) (hI : IsS138 w0 w g s0_0 s0_1 s0_2) (hB : Below w0.heap.size w0 w) (h : enc_Cursor_End.f s0_0 s0_1 s0_2 = some (r1, r2, r3, r4)) :
    Calls Try.prog 67 #[.pointer (some ⟨g, 0, none⟩)] w fun e w' => e = .returned (.int .i64 r1) ∧ IsS138 w0 w' g r2 r3 r4 ∧ Below w0.heap.size w0 w' ∧ KeepBut w w' g none := by
  have HI0 := Aside0.mk hI
  have HK := Aside0.mk (KeepBut.refl w g none)
  have HL := Aside0.mk hB.size
  clear hI
  have HW0 := Aside0.mk hB.size
  have HB := Aside0.mk hB
  clear hB
  have H : (if s0_1 < (s0_0.size : Int) then ((enc_Cursor_stop.f s0_0 s0_1 s0_2 5).bind fun bt309 => (some (bt309.2.2, bt309.1, bt309.2.1, bt309.2.2))) else (some (s0_2, s0_0, s0_1, s0_2))) = some (r1, r2, r3, r4) := h
  clear h
  by_cases c2 : s0_1 < (s0_0.size : Int)
  · rw [if_pos c2] at H
    have c2b0 : decide (s0_1 < (s0_0.size : Int)) = true := decide_eq_true c2
    clear c2
    replace H := Option.bind_eq_some_iff.mp H
    obtain ⟨⟨t309, t310, t311⟩, A30, H⟩ := H
    replace H : (some (t311, t309, t310, t311)) = some (r1, r2, r3, r4) := H
    have A3 := Aside0.mk A30
    clear A30
    simp only [Option.some.injEq, Prod.mk.injEq] at H
    obtain ⟨rfl, rfl, rfl, rfl⟩ := H
    obtain ⟨HGz4, hgz4⟩ := HI0.out
    have hcz4_0 := cellS138_0 HGz4
    have hcz4_1 := cellS138_1 HGz4
    have hcz4_2 := cellS138_2 HGz4
    have hfz4_0 := blk_frozen HGz4 0
    have hfz4_1 := blk_frozen HGz4 1
    have hfz4_2 := blk_frozen HGz4 2
    clear HGz4 hgz4
    go_enter Try.func67, Try.ntmps67
    go_wp2_with (first | (go_at_call 88; (with_reducible refine (enc_Cursor_stop.calls g s0_0 s0_1 s0_2 5 t309 t310 t311 w0 _ ?side1 ?side2 A3.out).mono ?_); (case side1 => repeat (first | (with_reducible first | exact HI0.out | apply IsS138.alloc | apply IsS138.drewN | apply IsS138.drew | apply IsS138.set_0 | apply IsS138.set_1 | apply IsS138.set_2) | exact HI0.out)); (case side2 => repeat (first | (with_reducible first | exact HB.out | apply below_alloc | apply pw_below_drewN | apply below_drew1 | refine below_set ?_ (IsS138.ge HI0.out)) | exact HB.out)); rintro e w5 ⟨rfl, hi, hb, hk⟩; have n0_ := Aside0.mk (KeepBut.trans (by repeat (first | (with_reducible first | exact HK.out | apply KeepBut.set_ | apply keep_drewN | apply keep_drew | apply keep_alloc) | exact HK.out)) hk (.inl rfl)); have n1_ := Aside0.mk (hb); have n2_ := Aside0.mk (hi); clear HK; clear HB; clear HI0; have HK := n0_; have HB := n1_; have HI0 := n2_; clear n0_ n1_ n2_; (try clear hb); (try clear hb2); (try clear hk); (try clear hi); obtain ⟨HGz6, hgz6⟩ := HI0.out; have hcz6_0 := cellS138_0 HGz6; have hcz6_1 := cellS138_1 HGz6; have hcz6_2 := cellS138_2 HGz6; have hfz6_0 := blk_frozen HGz6 0; have hfz6_1 := blk_frozen HGz6 1; have hfz6_2 := blk_frozen HGz6 2; clear HGz6 hgz6))
    repeat (go_quiet (first | (go_at_call 88; (with_reducible refine (enc_Cursor_stop.calls g s0_0 s0_1 s0_2 5 t309 t310 t311 w0 _ ?side1 ?side2 A3.out).mono ?_); (case side1 => repeat (first | (with_reducible first | exact HI0.out | apply IsS138.alloc | apply IsS138.drewN | apply IsS138.drew | apply IsS138.set_0 | apply IsS138.set_1 | apply IsS138.set_2) | exact HI0.out)); (case side2 => repeat (first | (with_reducible first | exact HB.out | apply below_alloc | apply pw_below_drewN | apply below_drew1 | refine below_set ?_ (IsS138.ge HI0.out)) | exact HB.out)); rintro e w5 ⟨rfl, hi, hb, hk⟩; have n0_ := Aside0.mk (KeepBut.trans (by repeat (first | (with_reducible first | exact HK.out | apply KeepBut.set_ | apply keep_drewN | apply keep_drew | apply keep_alloc) | exact HK.out)) hk (.inl rfl)); have n1_ := Aside0.mk (hb); have n2_ := Aside0.mk (hi); clear HK; clear HB; clear HI0; have HK := n0_; have HB := n1_; have HI0 := n2_; clear n0_ n1_ n2_; (try clear hb); (try clear hb2); (try clear hk); (try clear hi); obtain ⟨HGz6, hgz6⟩ := HI0.out; have hcz6_0 := cellS138_0 HGz6; have hcz6_1 := cellS138_1 HGz6; have hcz6_2 := cellS138_2 HGz6; have hfz6_0 := blk_frozen HGz6 0; have hfz6_1 := blk_frozen HGz6 1; have hfz6_2 := blk_frozen HGz6 2; clear HGz6 hgz6)); try go_wp2_with (first | (go_at_call 88; (with_reducible refine (enc_Cursor_stop.calls g s0_0 s0_1 s0_2 5 t309 t310 t311 w0 _ ?side1 ?side2 A3.out).mono ?_); (case side1 => repeat (first | (with_reducible first | exact HI0.out | apply IsS138.alloc | apply IsS138.drewN | apply IsS138.drew | apply IsS138.set_0 | apply IsS138.set_1 | apply IsS138.set_2) | exact HI0.out)); (case side2 => repeat (first | (with_reducible first | exact HB.out | apply below_alloc | apply pw_below_drewN | apply below_drew1 | refine below_set ?_ (IsS138.ge HI0.out)) | exact HB.out)); rintro e w5 ⟨rfl, hi, hb, hk⟩; have n0_ := Aside0.mk (KeepBut.trans (by repeat (first | (with_reducible first | exact HK.out | apply KeepBut.set_ | apply keep_drewN | apply keep_drew | apply keep_alloc) | exact HK.out)) hk (.inl rfl)); have n1_ := Aside0.mk (hb); have n2_ := Aside0.mk (hi); clear HK; clear HB; clear HI0; have HK := n0_; have HB := n1_; have HI0 := n2_; clear n0_ n1_ n2_; (try clear hb); (try clear hb2); (try clear hk); (try clear hi); obtain ⟨HGz6, hgz6⟩ := HI0.out; have hcz6_0 := cellS138_0 HGz6; have hcz6_1 := cellS138_1 HGz6; have hcz6_2 := cellS138_2 HGz6; have hfz6_0 := blk_frozen HGz6 0; have hfz6_1 := blk_frozen HGz6 1; have hfz6_2 := blk_frozen HGz6 2; clear HGz6 hgz6)))
    go_ret
    exact ⟨by first | rfl | (simp [errW_none, errW_some] <;> rfl) | (simp [*, errW_none, errW_some] <;> rfl), by repeat (first | (with_reducible first | exact HI0.out | apply IsS138.alloc | apply IsS138.drewN | apply IsS138.drew | apply IsS138.set_0 | apply IsS138.set_1 | apply IsS138.set_2) | exact HI0.out), by repeat (first | (with_reducible first | exact HB.out | apply below_alloc | apply pw_below_drewN | apply below_drew1 | refine below_set ?_ (IsS138.ge HI0.out)) | exact HB.out), by repeat (first | (with_reducible first | exact HK.out | apply KeepBut.set_ | apply keep_drewN | apply keep_drew | apply keep_alloc) | exact HK.out)⟩
  · rw [if_neg c2] at H
    have c2b0 : decide (s0_1 < (s0_0.size : Int)) = false := decide_eq_false c2
    clear c2
    simp only [Option.some.injEq, Prod.mk.injEq] at H
    obtain ⟨rfl, rfl, rfl, rfl⟩ := H
    obtain ⟨HGz7, hgz7⟩ := HI0.out
    have hcz7_0 := cellS138_0 HGz7
    have hcz7_1 := cellS138_1 HGz7
    have hcz7_2 := cellS138_2 HGz7
    have hfz7_0 := blk_frozen HGz7 0
    have hfz7_1 := blk_frozen HGz7 1
    have hfz7_2 := blk_frozen HGz7 2
    clear HGz7 hgz7
    go_enter Try.func67, Try.ntmps67
    go_wp2
    repeat (go_quiet (fail); try go_wp2)
    go_ret
    exact ⟨by first | rfl | (simp [errW_none, errW_some] <;> rfl) | (simp [*, errW_none, errW_some] <;> rfl), by repeat (first | (with_reducible first | exact HI0.out | apply IsS138.alloc | apply IsS138.drewN | apply IsS138.drew | apply IsS138.set_0 | apply IsS138.set_1 | apply IsS138.set_2) | exact HI0.out), by repeat (first | (with_reducible first | exact HB.out | apply below_alloc | apply pw_below_drewN | apply below_drew1 | refine below_set ?_ (IsS138.ge HI0.out)) | exact HB.out), by repeat (first | (with_reducible first | exact HK.out | apply KeepBut.set_ | apply keep_drewN | apply keep_drew | apply keep_alloc) | exact HK.out)⟩
/-! ### parchmentref02_Cursor_with: function 90 -/
def parchmentref02_Cursor_with.f (a0_0 : ByteArray) (a0_1 : Int) (a0_2 : Int) (a1 : Int) : Option (ByteArray × Int × Int) := some (a0_0, a0_1, a1)
set_option maxHeartbeats 8000000 in
set_option maxRecDepth 100000 in
theorem parchmentref02_Cursor_with.calls (a0_0 : ByteArray) (a0_1 : Int) (a0_2 : Int) (a1 : Int) (r1 : ByteArray) (r2 : Int) (r3 : Int) (w : World) (h : parchmentref02_Cursor_with.f a0_0 a0_1 a0_2 a1 = some (r1, r2, r3)) :
    Calls Try.prog 90 #[.agg #[.string a0_0, .int .i64 a0_1, .int .i64 a0_2], .int .i64 a1] w fun e w' => e = .returned (.agg #[.string r1, .int .i64 r2, .int .i64 r3]) ∧ Below w.heap.size w w' := by
  have hu112 := Try.underlying112
  have HB := Aside0.mk (Below.refl w.heap.size w)
  have H : (some (a0_0, a0_1, a1)) = some (r1, r2, r3) := h
  clear h
  simp only [Option.some.injEq, Prod.mk.injEq] at H
  obtain ⟨rfl, rfl, rfl⟩ := H
  go_enter Try.func90, Try.ntmps90
  go_wp2_with (first | ((with_reducible refine gate_dst (N := 2) rfl ?_); refine box_event ?hg (N := 2) ?hd (cs := #[.string a0_0, .int .i64 a0_1, .int .i64 a0_2]) (t := 112) ?hr ?_; (case hd => rfl); (case hg => rfl); (case hr => first | (go_simp; done) | (go_simp; rfl)); intro gb361 hg w3 hbox hb; have n0_ := Aside0.mk (below_step (by repeat (first | (with_reducible first | exact HB.out | apply below_alloc | apply pw_below_drewN | apply below_drew1) | exact HB.out)) hb); have n1_ := Aside0.mk (hbox); have n2_ := Aside0.mk ((by rw [hg]; exact (below_size (by repeat (first | (with_reducible first | exact HB.out | apply below_alloc | apply pw_below_drewN | apply below_drew1) | exact HB.out))) : w.heap.size ≤ gb361)); have n3_ := Aside0.mk ((by rw [hg]; exact (below_size (by repeat (first | (with_reducible first | exact HB.out | apply below_alloc | apply pw_below_drewN | apply below_drew1) | exact HB.out))) : w.heap.size ≤ gb361)); clear HB; have HB := n0_; have BK361 := n1_; have GW361 := n2_; have GE361 := n3_; clear n0_ n1_ n2_ n3_; clear hb hbox hg) | ((with_reducible refine gate_dst (N := 4) rfl ?_); refine box_event ?hg (N := 4) ?hd (cs := #[.string (⟨#[]⟩ : ByteArray), .int .i64 0, .int .i64 0]) (t := 112) ?hr ?_; (case hd => rfl); (case hg => rfl); (case hr => first | (go_simp; done) | (go_simp; rfl)); intro gb362 hg w4 hbox hb; have n0_ := Aside0.mk (blk_below (g := gb361) (o := .cells #[.string a0_0, .int .i64 a0_1, .int .i64 a0_2] 112 (0, 0)) (by (with_reducible repeat (first | refine blk_drewN ?_ _ | refine blk_drew ?_ | refine blk_alloc ?_ _)); exact BK361.out) hb); have n1_ := Aside0.mk (below_step (by repeat (first | (with_reducible first | exact HB.out | apply below_alloc | apply pw_below_drewN | apply below_drew1 | refine below_set ?_ GE361.out) | exact HB.out)) hb); have n2_ := Aside0.mk (hbox); have n3_ := Aside0.mk ((by rw [hg]; exact (below_size (by repeat (first | (with_reducible first | exact HB.out | apply below_alloc | apply pw_below_drewN | apply below_drew1 | refine below_set ?_ GE361.out) | exact HB.out))) : w.heap.size ≤ gb362)); have n4_ := Aside0.mk ((by rw [hg]; exact (below_size (by repeat (first | (with_reducible first | exact HB.out | apply below_alloc | apply pw_below_drewN | apply below_drew1 | refine below_set ?_ GE361.out) | exact HB.out))) : w.heap.size ≤ gb362)); have n5_ := Aside0.mk ((by rw [hg]; exact Nat.ne_of_lt (blk_lt (g := gb361) (o := .cells #[.string a0_0, .int .i64 a0_1, .int .i64 a0_2] 112 (0, 0)) (by (with_reducible repeat (first | refine blk_drewN ?_ _ | refine blk_drew ?_ | refine blk_alloc ?_ _)); exact BK361.out)) : gb361 ≠ gb362)); have n6_ := Aside0.mk ((by rw [hg]; exact Nat.ne_of_gt (blk_lt (g := gb361) (o := .cells #[.string a0_0, .int .i64 a0_1, .int .i64 a0_2] 112 (0, 0)) (by (with_reducible repeat (first | refine blk_drewN ?_ _ | refine blk_drew ?_ | refine blk_alloc ?_ _)); exact BK361.out)) : gb362 ≠ gb361)); clear BK361; clear HB; have BK361 := n0_; have HB := n1_; have BK362 := n2_; have GW362 := n3_; have GE362 := n4_; have NB361_362 := n5_; have NB362_361 := n6_; clear n0_ n1_ n2_ n3_ n4_ n5_ n6_; clear hb hbox hg; have hnb5 := NB361_362.out; have hnc5 := NB362_361.out; have hcz6_0 : w4.cell? ⟨gb361, 0, none⟩ = some (.string a0_0) := (blk_cell BK361.out 0).trans rfl; have hcz6_1 : w4.cell? ⟨gb361, 1, none⟩ = some (.int .i64 a0_1) := (blk_cell BK361.out 1).trans rfl; have hcz6_2 : w4.cell? ⟨gb361, 2, none⟩ = some (.int .i64 a0_2) := (blk_cell BK361.out 2).trans rfl; have hfz6_0 := blk_frozen BK361.out 0; have hfz6_1 := blk_frozen BK361.out 1; have hfz6_2 := blk_frozen BK361.out 2; have hcz7_0 : w4.cell? ⟨gb362, 0, none⟩ = some (.string (⟨#[]⟩ : ByteArray)) := (blk_cell BK362.out 0).trans rfl; have hcz7_1 : w4.cell? ⟨gb362, 1, none⟩ = some (.int .i64 0) := (blk_cell BK362.out 1).trans rfl; have hcz7_2 : w4.cell? ⟨gb362, 2, none⟩ = some (.int .i64 0) := (blk_cell BK362.out 2).trans rfl; have hfz7_0 := blk_frozen BK362.out 0; have hfz7_1 := blk_frozen BK362.out 1; have hfz7_2 := blk_frozen BK362.out 2))
  refine bodyPost_ret (results_cell_row rfl _ _ gb362 112 #[.string a0_0, .int .i64 a0_1, .int .i64 a1] (0, 0) _ rfl (by (with_reducible repeat (first | refine blk_drewN ?_ _ | refine blk_drew ?_ | refine blk_alloc ?_ _)); refine blk_put (cs := #[.string a0_0, .int .i64 a0_1, .int .i64 0]) ?_ 2 _ rfl; (with_reducible repeat (first | refine blk_drewN ?_ _ | refine blk_drew ?_ | refine blk_alloc ?_ _)); refine blk_put (cs := #[.string a0_0, .int .i64 0, .int .i64 0]) ?_ 1 _ rfl; (with_reducible repeat (first | refine blk_drewN ?_ _ | refine blk_drew ?_ | refine blk_alloc ?_ _)); refine blk_put (cs := #[.string (⟨#[]⟩ : ByteArray), .int .i64 0, .int .i64 0]) ?_ 0 _ rfl; (with_reducible repeat (first | refine blk_drewN ?_ _ | refine blk_drew ?_ | refine blk_alloc ?_ _)); exact BK362.out) Try.underlying112 rfl (by kernel_rfl)) rfl ?_
  exact ⟨by first | rfl | (simp [errW_none, errW_some] <;> rfl) | (simp [*, errW_none, errW_some] <;> rfl), by repeat (first | (with_reducible first | exact HB.out | apply below_alloc | apply pw_below_drewN | apply below_drew1 | refine below_set ?_ GE361.out | refine below_set ?_ GE362.out) | exact HB.out)⟩
end Go.Proofs.Ytdcbacbilncnnaa.PMk
end
