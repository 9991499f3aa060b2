/- Part 6 of what the proof of BlockUnlike stands on. -/
import Derived.Lib.Hide
import Derived.Test.YtdcbacbilncnnaaBun5
section
namespace Go.Proofs.Ytdcbacbilncnnaa.PMk
open Go.RowKit Go.Proofs.YtdcbacbilncnnaaW.PrintWords Go.Proofs.YtdcbacbilncnnaaW.PrintLast Go.Proofs.YtdcbacbilncnnaaW.PrintMore
attribute [local go_sem] max2_int min2_int max_two min_two max_three min_three max_four min_four   -- for this text's walks alone
set_option linter.unusedVariables false
set_option linter.unusedSimpArgs false
/-! ### parchmentref09_Meta: function 37 -/
def parchmentref09_Meta.f (k : Nat) (a0_0 : Int) (a0_1 : ByteArray) (a0_2 : ByteArray) (a0_3 : Int) (a0_4 : Int) (a0_5 : ByteArray) (a0_6 : ByteArray) (a0_7 : Bool) : Option (ByteArray) := (some (([(a0_0) % 256] : List Int) : List Int)).bind fun y207 => ((parchmentref02_Text.f k a0_1).bind fun t210 => (if (strOfNums y207).size + t210.size ≤ 9223372036854775807 then ((parchmentref02_Text.f k a0_2).bind fun t211 => (if ((strOfNums y207) ++ t210).size + t211.size ≤ 9223372036854775807 then ((parchmentref02_Uint.f k a0_3).bind fun t212 => (if (((strOfNums y207) ++ t210) ++ t211).size + t212.size ≤ 9223372036854775807 then ((parchmentref02_Uint.f k a0_4).bind fun t213 => (if ((((strOfNums y207) ++ t210) ++ t211) ++ t212).size + t213.size ≤ 9223372036854775807 then ((parchmentref02_Text.f k a0_5).bind fun t214 => (if (((((strOfNums y207) ++ t210) ++ t211) ++ t212) ++ t213).size + t214.size ≤ 9223372036854775807 then (some ((((((strOfNums y207) ++ t210) ++ t211) ++ t212) ++ t213) ++ t214)) else (none))) else (none))) else (none))) else (none))) else (none)))
def parchmentref09_Meta.T1 : Bool × List (List Nat × List Nat) := (true, [([], []), ([0], [0]), ([1], [1]), ([2], [2]), ([3], [3]), ([], []), ([5], [5]), ([6], [6]), ([4, 7], [4, 7]), ([], []), ([9], [9]), ([10, 7], [10]), ([8, 11], [8, 11]), ([], []), ([13], [13]), ([14, 11], [14]), ([12, 15], [12, 15]), ([], []), ([17], [17]), ([18, 15], [18]), ([16, 19], [16, 19]), ([], []), ([21], [21]), ([22, 19], [22]), ([20, 23], [20, 23]), ([24, 23, 0, 1, 2, 3, 4, 5, 6, 7, 8, 9, 10, 11, 12, 13, 14, 15, 16, 17, 18, 19, 20, 21, 22, 23, 24], [24])])
def parchmentref09_Meta.B1 : List Nat := [0, 1, 3, 7, 15, 0, 32, 96, 255, 0, 512, 1760, 4095, 0, 8192, 28384, 65535, 0, 131072, 454368, 1048575, 0, 2097152, 7270112, 16777215, 33554431]
theorem parchmentref09_Meta.tab1 : rtab .any (opsOf Try.f37 1) = parchmentref09_Meta.T1 := by kernel_rfl
theorem parchmentref09_Meta.bits1 : waitsOk parchmentref09_Meta.T1.2 parchmentref09_Meta.B1 = true := by kernel_rfl
set_option maxHeartbeats 8000000 in
set_option maxRecDepth 100000 in
theorem parchmentref09_Meta.calls (k : Nat) (a0_0 : Int) (a0_1 : ByteArray) (a0_2 : ByteArray) (a0_3 : Int) (a0_4 : Int) (a0_5 : ByteArray) (a0_6 : ByteArray) (a0_7 : Bool) (r : ByteArray) (w : World) (h : parchmentref09_Meta.f k a0_0 a0_1 a0_2 a0_3 a0_4 a0_5 a0_6 a0_7 = some r) :
  Calls Try.prog 37 #[.agg #[.int .i64 a0_0, .string a0_1, .string a0_2, .int .u64 a0_3, .int .u64 a0_4, .string a0_5, .string a0_6, .bool a0_7]] w fun e w' => e = .returned (.string r) ∧ Below w.heap.size w w' := by
 have hu44 := Try.underlying44
 have HB := Aside0.mk (Below.refl w.heap.size w)
 have H : ((some (([(a0_0) % 256] : List Int) : List Int)).bind fun y207 => ((parchmentref02_Text.f k a0_1).bind fun t210 => (if (strOfNums y207).size + t210.size ≤ 9223372036854775807 then ((parchmentref02_Text.f k a0_2).bind fun t211 => (if ((strOfNums y207) ++ t210).size + t211.size ≤ 9223372036854775807 then ((parchmentref02_Uint.f k a0_3).bind fun t212 => (if (((strOfNums y207) ++ t210) ++ t211).size + t212.size ≤ 9223372036854775807 then ((parchmentref02_Uint.f k a0_4).bind fun t213 => (if ((((strOfNums y207) ++ t210) ++ t211) ++ t212).size + t213.size ≤ 9223372036854775807 then ((parchmentref02_Text.f k a0_5).bind fun t214 => (if (((((strOfNums y207) ++ t210) ++ t211) ++ t212) ++ t213).size + t214.size ≤ 9223372036854775807 then (some ((((((strOfNums y207) ++ t210) ++ t211) ++ t212) ++ t213) ++ t214)) else (none))) else (none))) else (none))) else (none))) else (none)))) = some r := h
 clear h
 obtain ⟨y207, hy207⟩ : ∃ y_ : List Int, y_ = (([(a0_0) % 256] : List Int)) := ⟨_, rfl⟩
 replace H : ((parchmentref02_Text.f k a0_1).bind fun t210 => (if (strOfNums y207).size + t210.size ≤ 9223372036854775807 then ((parchmentref02_Text.f k a0_2).bind fun t211 => (if ((strOfNums y207) ++ t210).size + t211.size ≤ 9223372036854775807 then ((parchmentref02_Uint.f k a0_3).bind fun t212 => (if (((strOfNums y207) ++ t210) ++ t211).size + t212.size ≤ 9223372036854775807 then ((parchmentref02_Uint.f k a0_4).bind fun t213 => (if ((((strOfNums y207) ++ t210) ++ t211) ++ t212).size + t213.size ≤ 9223372036854775807 then ((parchmentref02_Text.f k a0_5).bind fun t214 => (if (((((strOfNums y207) ++ t210) ++ t211) ++ t212) ++ t213).size + t214.size ≤ 9223372036854775807 then (some ((((((strOfNums y207) ++ t210) ++ t211) ++ t212) ++ t213) ++ t214)) else (none))) else (none))) else (none))) else (none))) else (none))) = some r := by first | (rw [hy207]; with_reducible exact H) | (have H2_ := (Option.bind_some _ _).symm.trans H; rw [hy207]; with_reducible exact H2_) | (have H2_ := (Option.bind_some _ _).symm.trans H; with_reducible exact H2_) | with_reducible exact H | (rw [hy207]; exact H) | exact H
 have Ny207 := Aside0.mk hy207
 clear hy207
 replace H := Option.bind_eq_some_iff.mp H
 obtain ⟨t210, A20, H⟩ := H
 replace H : (if (strOfNums y207).size + t210.size ≤ 9223372036854775807 then ((parchmentref02_Text.f k a0_2).bind fun t211 => (if ((strOfNums y207) ++ t210).size + t211.size ≤ 9223372036854775807 then ((parchmentref02_Uint.f k a0_3).bind fun t212 => (if (((strOfNums y207) ++ t210) ++ t211).size + t212.size ≤ 9223372036854775807 then ((parchmentref02_Uint.f k a0_4).bind fun t213 => (if ((((strOfNums y207) ++ t210) ++ t211) ++ t212).size + t213.size ≤ 9223372036854775807 then ((parchmentref02_Text.f k a0_5).bind fun t214 => (if (((((strOfNums y207) ++ t210) ++ t211) ++ t212) ++ t213).size + t214.size ≤ 9223372036854775807 then (some ((((((strOfNums y207) ++ t210) ++ t211) ++ t212) ++ t213) ++ t214)) else (none))) else (none))) else (none))) else (none))) else (none)) = some r := H
 have A2 := Aside0.mk A20
 clear A20
 by_cases c3 : (strOfNums y207).size + t210.size ≤ 9223372036854775807
 ·rw [if_pos c3] at H
  have c3b0 := eq_true c3
  have c3b1 : decide ((strOfNums y207).size + t210.size ≤ 9223372036854775807) = true := decide_eq_true c3
  try have c3b2 : (9223372036854775807 < (strOfNums y207).size + t210.size) = False := eq_false (Nat.not_lt.2 c3)
  replace H := Option.bind_eq_some_iff.mp H
  obtain ⟨t211, A40, H⟩ := H
  replace H : (if ((strOfNums y207) ++ t210).size + t211.size ≤ 9223372036854775807 then ((parchmentref02_Uint.f k a0_3).bind fun t212 => (if (((strOfNums y207) ++ t210) ++ t211).size + t212.size ≤ 9223372036854775807 then ((parchmentref02_Uint.f k a0_4).bind fun t213 => (if ((((strOfNums y207) ++ t210) ++ t211) ++ t212).size + t213.size ≤ 9223372036854775807 then ((parchmentref02_Text.f k a0_5).bind fun t214 => (if (((((strOfNums y207) ++ t210) ++ t211) ++ t212) ++ t213).size + t214.size ≤ 9223372036854775807 then (some ((((((strOfNums y207) ++ t210) ++ t211) ++ t212) ++ t213) ++ t214)) else (none))) else (none))) else (none))) else (none)) = some r := H
  have A4 := Aside0.mk A40
  clear A40
  by_cases c5 : ((strOfNums y207) ++ t210).size + t211.size ≤ 9223372036854775807
  ·rw [if_pos c5] at H
   have c5b0 := eq_true c5
   have c5b1 : decide (((strOfNums y207) ++ t210).size + t211.size ≤ 9223372036854775807) = true := decide_eq_true c5
   try have c5b2 : (9223372036854775807 < ((strOfNums y207) ++ t210).size + t211.size) = False := eq_false (Nat.not_lt.2 c5)
   try (have c5b2x := c5b2; simp only [ByteArray.size_append] at c5b2x)
   replace H := Option.bind_eq_some_iff.mp H
   obtain ⟨t212, A60, H⟩ := H
   replace H : (if (((strOfNums y207) ++ t210) ++ t211).size + t212.size ≤ 9223372036854775807 then ((parchmentref02_Uint.f k a0_4).bind fun t213 => (if ((((strOfNums y207) ++ t210) ++ t211) ++ t212).size + t213.size ≤ 9223372036854775807 then ((parchmentref02_Text.f k a0_5).bind fun t214 => (if (((((strOfNums y207) ++ t210) ++ t211) ++ t212) ++ t213).size + t214.size ≤ 9223372036854775807 then (some ((((((strOfNums y207) ++ t210) ++ t211) ++ t212) ++ t213) ++ t214)) else (none))) else (none))) else (none)) = some r := H
   have A6 := Aside0.mk A60
   clear A60
   by_cases c7 : (((strOfNums y207) ++ t210) ++ t211).size + t212.size ≤ 9223372036854775807
   ·rw [if_pos c7] at H
    have c7b0 := eq_true c7
    have c7b1 : decide ((((strOfNums y207) ++ t210) ++ t211).size + t212.size ≤ 9223372036854775807) = true := decide_eq_true c7
    try have c7b2 : (9223372036854775807 < (((strOfNums y207) ++ t210) ++ t211).size + t212.size) = False := eq_false (Nat.not_lt.2 c7)
    try (have c7b2x := c7b2; simp only [ByteArray.size_append] at c7b2x)
    replace H := Option.bind_eq_some_iff.mp H
    obtain ⟨t213, A80, H⟩ := H
    replace H : (if ((((strOfNums y207) ++ t210) ++ t211) ++ t212).size + t213.size ≤ 9223372036854775807 then ((parchmentref02_Text.f k a0_5).bind fun t214 => (if (((((strOfNums y207) ++ t210) ++ t211) ++ t212) ++ t213).size + t214.size ≤ 9223372036854775807 then (some ((((((strOfNums y207) ++ t210) ++ t211) ++ t212) ++ t213) ++ t214)) else (none))) else (none)) = some r := H
    have A8 := Aside0.mk A80
    clear A80
    by_cases c9 : ((((strOfNums y207) ++ t210) ++ t211) ++ t212).size + t213.size ≤ 9223372036854775807
    ·rw [if_pos c9] at H
     have c9b0 := eq_true c9
     have c9b1 : decide (((((strOfNums y207) ++ t210) ++ t211) ++ t212).size + t213.size ≤ 9223372036854775807) = true := decide_eq_true c9
     try have c9b2 : (9223372036854775807 < ((((strOfNums y207) ++ t210) ++ t211) ++ t212).size + t213.size) = False := eq_false (Nat.not_lt.2 c9)
     try (have c9b2x := c9b2; simp only [ByteArray.size_append] at c9b2x)
     replace H := Option.bind_eq_some_iff.mp H
     obtain ⟨t214, A100, H⟩ := H
     replace H : (if (((((strOfNums y207) ++ t210) ++ t211) ++ t212) ++ t213).size + t214.size ≤ 9223372036854775807 then (some ((((((strOfNums y207) ++ t210) ++ t211) ++ t212) ++ t213) ++ t214)) else (none)) = some r := H
     have A10 := Aside0.mk A100
     clear A100
     by_cases c11 : (((((strOfNums y207) ++ t210) ++ t211) ++ t212) ++ t213).size + t214.size ≤ 9223372036854775807
     ·rw [if_pos c11] at H
      have c11b0 := eq_true c11
      have c11b1 : decide ((((((strOfNums y207) ++ t210) ++ t211) ++ t212) ++ t213).size + t214.size ≤ 9223372036854775807) = true := decide_eq_true c11
      try have c11b2 : (9223372036854775807 < (((((strOfNums y207) ++ t210) ++ t211) ++ t212) ++ t213).size + t214.size) = False := eq_false (Nat.not_lt.2 c11)
      try (have c11b2x := c11b2; simp only [ByteArray.size_append] at c11b2x)
      obtain rfl := Option.some.inj H
      go_enter Try.func37, Try.ntmps37
      try go_wp2_with (first | ((with_reducible refine gate_dst (N := 1) rfl ?_); refine box_event ?hg (N := 1) ?hd (cs := #[.int .i64 a0_0, .string a0_1, .string a0_2, .int .u64 a0_3, .int .u64 a0_4, .string a0_5, .string a0_6, .bool a0_7]) (t := 44) ?hr ?_; (case hd => rfl); (case hg => rfl); (case hr => first | (go_simp; done) | (go_simp; rfl)); intro gb206 hg w12 hbox hb; have n0_ := Aside0.mk (below_step (bh_ HB.out) hb); have n1_ := Aside0.mk (hbox); have n2_ := Aside0.mk ((by rw [hg]; exact (below_size (bh_ HB.out)) : w.heap.size ≤ gb206)); have n3_ := Aside0.mk ((by rw [hg]; exact (below_size (bh_ HB.out)) : w.heap.size ≤ gb206)); clear HB; have HB := n0_; have BK206 := n1_; have GW206 := n2_; have GE206 := n3_; clear n0_ n1_ n2_ n3_; clear hb hbox hg))
      replace BK206 := Aside0.mk (blk_drew BK206.out)
      replace HB := Aside0.mk (below_drew1 HB.out)
      refine start_ (n := 26) (S := fun w' => w'.cell? ⟨gb206, 0, none⟩ = some (.int .i64 a0_0) ∧ w'.cell? ⟨gb206, 1, none⟩ = some (.string a0_1) ∧ w'.cell? ⟨gb206, 2, none⟩ = some (.string a0_2) ∧ w'.cell? ⟨gb206, 3, none⟩ = some (.int .u64 a0_3) ∧ w'.cell? ⟨gb206, 4, none⟩ = some (.int .u64 a0_4) ∧ w'.cell? ⟨gb206, 5, none⟩ = some (.string a0_5) ∧ w'.cell? ⟨gb206, 6, none⟩ = some (.string a0_6) ∧ w'.cell? ⟨gb206, 7, none⟩ = some (.bool a0_7)) (ds := []) #[N_, N_, N_, N_, N_, N_, N_, N_, N_, N_, N_, N_, N_, N_, N_, N_, N_, N_, N_, N_, N_, N_, N_, N_, N_, N_] (by kernel_rfl) rfl rfl ⟨(blk_cell BK206.out 0).trans rfl, (blk_cell BK206.out 1).trans rfl, (blk_cell BK206.out 2).trans rfl, (blk_cell BK206.out 3).trans rfl, (blk_cell BK206.out 4).trans rfl, (blk_cell BK206.out 5).trans rfl, (blk_cell BK206.out 6).trans rfl, (blk_cell BK206.out 7).trans rfl⟩ (fun hHeld => ?_); refine with_tabW parchmentref09_Meta.tab1 parchmentref09_Meta.bits1 (fun HT_ HW_ => ?_)
      generalize w12.drew = w13 at BK206 HB hHeld ⊢
      refine pure_ (i := 0) (N := some 3) (v := ?_) (a' := ?_) #[Y_, N_, N_, N_, N_, N_, N_, N_, N_, N_, N_, N_, N_, N_, N_, N_, N_, N_, N_, N_, N_, N_, N_, N_, N_, N_] rfl rfl (any_of HT_.out (by kernel_rfl)) (fun _ _ _ h => h) (Or.inl ⟨by rfl, ?_⟩) ?_ ?_
      rotate_left; (intro w'; go_simp; with_reducible rfl); rotate_left; (simp only [Act.put, q1_, q2_, q3_, i64_w, i32_w]; rfl)
      refine pure_ (i := 5) (N := some 8) (v := ?_) (a' := ?_) #[Y_, N_, N_, N_, N_, Y_, N_, N_, N_, N_, N_, N_, N_, N_, N_, N_, N_, N_, N_, N_, N_, N_, N_, N_, N_, N_] rfl rfl (any_of HT_.out (by kernel_rfl)) (fun _ _ _ h => h) (Or.inl ⟨by rfl, ?_⟩) ?_ ?_
      rotate_left; (intro w'; go_simp; with_reducible rfl); rotate_left; (simp only [Act.put, q1_, q2_, q3_, i64_w, i32_w]; rfl)
      refine pure_ (i := 9) (N := some 12) (v := ?_) (a' := ?_) #[Y_, N_, N_, N_, N_, Y_, N_, N_, N_, Y_, N_, N_, N_, N_, N_, N_, N_, N_, N_, N_, N_, N_, N_, N_, N_, N_] rfl rfl (any_of HT_.out (by kernel_rfl)) (fun _ _ _ h => h) (Or.inl ⟨by rfl, ?_⟩) ?_ ?_
      rotate_left; (intro w'; go_simp; with_reducible rfl); rotate_left; (simp only [Act.put, q1_, q2_, q3_, i64_w, i32_w]; rfl)
      refine pure_ (i := 13) (N := some 16) (v := ?_) (a' := ?_) #[Y_, N_, N_, N_, N_, Y_, N_, N_, N_, Y_, N_, N_, N_, Y_, N_, N_, N_, N_, N_, N_, N_, N_, N_, N_, N_, N_] rfl rfl (any_of HT_.out (by kernel_rfl)) (fun _ _ _ h => h) (Or.inl ⟨by rfl, ?_⟩) ?_ ?_
      rotate_left; (intro w'; go_simp; with_reducible rfl); rotate_left; (simp only [Act.put, q1_, q2_, q3_, i64_w, i32_w]; rfl)
      refine pure_ (i := 17) (N := some 20) (v := ?_) (a' := ?_) #[Y_, N_, N_, N_, N_, Y_, N_, N_, N_, Y_, N_, N_, N_, Y_, N_, N_, N_, Y_, N_, N_, N_, N_, N_, N_, N_, N_] rfl rfl (any_of HT_.out (by kernel_rfl)) (fun _ _ _ h => h) (Or.inl ⟨by rfl, ?_⟩) ?_ ?_
      rotate_left; (intro w'; go_simp; with_reducible rfl); rotate_left; (simp only [Act.put, q1_, q2_, q3_, i64_w, i32_w]; rfl)
      refine pure_ (i := 21) (N := some 24) (v := ?_) (a' := ?_) #[Y_, N_, N_, N_, N_, Y_, N_, N_, N_, Y_, N_, N_, N_, Y_, N_, N_, N_, Y_, N_, N_, N_, Y_, N_, N_, N_, N_] rfl rfl (any_of HT_.out (by kernel_rfl)) (fun _ _ _ h => h) (Or.inl ⟨by rfl, ?_⟩) ?_ ?_
      rotate_left; (intro w'; go_simp; with_reducible rfl); rotate_left; (simp only [Act.put, q1_, q2_, q3_, i64_w, i32_w]; rfl)
      refine take_ (i := 1) (N := some 4) (v := ?_) (a' := ?_) #[Y_, Y_, N_, N_, N_, Y_, N_, N_, N_, Y_, N_, N_, N_, Y_, N_, N_, N_, Y_, N_, N_, N_, Y_, N_, N_, N_, N_] rfl rfl (take_ofW HT_.out HW_.out (by kernel_rfl)) (fun _ _ _ h => h) (Or.inl ⟨by rfl, ?_⟩) hHeld ?_ ?_
      rotate_left; (rintro w' ⟨s0, s1, s2, s3, s4, s5, s6, s7⟩; go_simp; with_reducible rfl); rotate_left; (simp only [Act.put, q1_, q2_, q3_, i64_w, i32_w]; rfl)
      refine pure_ (i := 2) (N := some 5) (v := ?_) (a' := ?_) #[Y_, Y_, Y_, N_, N_, Y_, N_, N_, N_, Y_, N_, N_, N_, Y_, N_, N_, N_, Y_, N_, N_, N_, Y_, N_, N_, N_, N_] rfl rfl (any_of HT_.out (by kernel_rfl)) (fun _ _ _ h => h) (Or.inl ⟨by rfl, ?_⟩) ?_ ?_
      rotate_left; (intro w'; go_simp; with_reducible rfl); rotate_left; (simp only [Act.put, q1_, q2_, q3_, i64_w, i32_w]; rfl)
      refine take_ (i := 6) (N := some 9) (v := ?_) (a' := ?_) #[Y_, Y_, Y_, N_, N_, Y_, Y_, N_, N_, Y_, N_, N_, N_, Y_, N_, N_, N_, Y_, N_, N_, N_, Y_, N_, N_, N_, N_] rfl rfl (take_ofW HT_.out HW_.out (by kernel_rfl)) (fun _ _ _ h => h) (Or.inl ⟨by rfl, ?_⟩) hHeld ?_ ?_
      rotate_left; (rintro w' ⟨s0, s1, s2, s3, s4, s5, s6, s7⟩; go_simp; with_reducible rfl); rotate_left; (simp only [Act.put, q1_, q2_, q3_, i64_w, i32_w]; rfl)
      refine take_ (i := 10) (N := some 13) (v := ?_) (a' := ?_) #[Y_, Y_, Y_, N_, N_, Y_, Y_, N_, N_, Y_, Y_, N_, N_, Y_, N_, N_, N_, Y_, N_, N_, N_, Y_, N_, N_, N_, N_] rfl rfl (take_ofW HT_.out HW_.out (by kernel_rfl)) (fun _ _ _ h => h) (Or.inl ⟨by rfl, ?_⟩) hHeld ?_ ?_
      rotate_left; (rintro w' ⟨s0, s1, s2, s3, s4, s5, s6, s7⟩; go_simp; with_reducible rfl); rotate_left; (simp only [Act.put, q1_, q2_, q3_, i64_w, i32_w]; rfl)
      refine take_ (i := 14) (N := some 17) (v := ?_) (a' := ?_) #[Y_, Y_, Y_, N_, N_, Y_, Y_, N_, N_, Y_, Y_, N_, N_, Y_, Y_, N_, N_, Y_, N_, N_, N_, Y_, N_, N_, N_, N_] rfl rfl (take_ofW HT_.out HW_.out (by kernel_rfl)) (fun _ _ _ h => h) (Or.inl ⟨by rfl, ?_⟩) hHeld ?_ ?_
      rotate_left; (rintro w' ⟨s0, s1, s2, s3, s4, s5, s6, s7⟩; go_simp; with_reducible rfl); rotate_left; (simp only [Act.put, q1_, q2_, q3_, i64_w, i32_w]; rfl)
      refine take_ (i := 18) (N := some 21) (v := ?_) (a' := ?_) #[Y_, Y_, Y_, N_, N_, Y_, Y_, N_, N_, Y_, Y_, N_, N_, Y_, Y_, N_, N_, Y_, Y_, N_, N_, Y_, N_, N_, N_, N_] rfl rfl (take_ofW HT_.out HW_.out (by kernel_rfl)) (fun _ _ _ h => h) (Or.inl ⟨by rfl, ?_⟩) hHeld ?_ ?_
      rotate_left; (rintro w' ⟨s0, s1, s2, s3, s4, s5, s6, s7⟩; go_simp; with_reducible rfl); rotate_left; (simp only [Act.put, q1_, q2_, q3_, i64_w, i32_w]; rfl)
      refine take_ (i := 22) (N := some 25) (v := ?_) (a' := ?_) #[Y_, Y_, Y_, N_, N_, Y_, Y_, N_, N_, Y_, Y_, N_, N_, Y_, Y_, N_, N_, Y_, Y_, N_, N_, Y_, Y_, N_, N_, N_] rfl rfl (take_ofW HT_.out HW_.out (by kernel_rfl)) (fun _ _ _ h => h) (Or.inl ⟨by rfl, ?_⟩) hHeld ?_ ?_
      rotate_left; (rintro w' ⟨s0, s1, s2, s3, s4, s5, s6, s7⟩; go_simp; with_reducible rfl); rotate_left; (simp only [Act.put, q1_, q2_, q3_, i64_w, i32_w]; rfl)
      refine join_ (σ := Value) 2 #[Y_, Y_, Y_, Y_, Y_, Y_, Y_, Y_, Y_, Y_, Y_, Y_, Y_, Y_, Y_, Y_, Y_, Y_, Y_, Y_, Y_, Y_, Y_, Y_, N_, N_] (fun s_ => [(6, s_), (7, .string (strOfNums y207)), (10, .string t210), (14, .string t211), (18, .string t212), (22, .string t213), (26, .string t214), (11, .string ((strOfNums y207) ++ t210)), (15, .string (((strOfNums y207) ++ t210) ++ t211)), (19, .string ((((strOfNums y207) ++ t210) ++ t211) ++ t212)), (23, .string (((((strOfNums y207) ++ t210) ++ t211) ++ t212) ++ t213))]) (fun s_ w' => (w'.cell? ⟨gb206, 0, none⟩ = some (.int .i64 a0_0) ∧ w'.cell? ⟨gb206, 1, none⟩ = some (.string a0_1) ∧ w'.cell? ⟨gb206, 2, none⟩ = some (.string a0_2) ∧ w'.cell? ⟨gb206, 3, none⟩ = some (.int .u64 a0_3) ∧ w'.cell? ⟨gb206, 4, none⟩ = some (.int .u64 a0_4) ∧ w'.cell? ⟨gb206, 5, none⟩ = some (.string a0_5) ∧ w'.cell? ⟨gb206, 6, none⟩ = some (.string a0_6) ∧ w'.cell? ⟨gb206, 7, none⟩ = some (.bool a0_7)) ∧ (Kd.R (Kd.int .u8) 5 w' w.heap.size (fun _ => True) s_ y207) ∧ (w'.heap[gb206]? = some (.cells #[.int .i64 a0_0, .string a0_1, .string a0_2, .int .u64 a0_3, .int .u64 a0_4, .string a0_5, .string a0_6, .bool a0_7] 44 (0, 0))) ∧ (Below w.heap.size w w')) ?_ ?_
      rotate_left
      ·intro hJ3_4_7_11_15_19_23
       refine join_ (σ := Value) 3 #[Y_, Y_, Y_, Y_, Y_, Y_, Y_, Y_, Y_, Y_, Y_, Y_, Y_, Y_, Y_, Y_, Y_, Y_, Y_, Y_, Y_, Y_, Y_, N_, N_, N_] (fun s_ => [(6, s_), (7, .string (strOfNums y207)), (10, .string t210), (14, .string t211), (18, .string t212), (22, .string t213), (11, .string ((strOfNums y207) ++ t210)), (15, .string (((strOfNums y207) ++ t210) ++ t211)), (19, .string ((((strOfNums y207) ++ t210) ++ t211) ++ t212)), (23, .string (((((strOfNums y207) ++ t210) ++ t211) ++ t212) ++ t213))]) (fun s_ w' => (w'.cell? ⟨gb206, 0, none⟩ = some (.int .i64 a0_0) ∧ w'.cell? ⟨gb206, 1, none⟩ = some (.string a0_1) ∧ w'.cell? ⟨gb206, 2, none⟩ = some (.string a0_2) ∧ w'.cell? ⟨gb206, 3, none⟩ = some (.int .u64 a0_3) ∧ w'.cell? ⟨gb206, 4, none⟩ = some (.int .u64 a0_4) ∧ w'.cell? ⟨gb206, 5, none⟩ = some (.string a0_5) ∧ w'.cell? ⟨gb206, 6, none⟩ = some (.string a0_6) ∧ w'.cell? ⟨gb206, 7, none⟩ = some (.bool a0_7)) ∧ (Kd.R (Kd.int .u8) 5 w' w.heap.size (fun _ => True) s_ y207) ∧ (w'.heap[gb206]? = some (.cells #[.int .i64 a0_0, .string a0_1, .string a0_2, .int .u64 a0_3, .int .u64 a0_4, .string a0_5, .string a0_6, .bool a0_7] 44 (0, 0))) ∧ (Below w.heap.size w w')) ?_ ?_
       rotate_left
       ·intro hJ3_4_7_11_15_19
        refine join_ (σ := Value) 7 #[Y_, Y_, Y_, Y_, N_, Y_, Y_, Y_, N_, Y_, Y_, Y_, N_, Y_, Y_, Y_, N_, Y_, Y_, Y_, N_, Y_, Y_, Y_, N_, N_] (fun s_ => [(6, s_), (10, .string t210), (14, .string t211), (18, .string t212), (22, .string t213), (26, .string t214)]) (fun s_ w' => (w'.cell? ⟨gb206, 0, none⟩ = some (.int .i64 a0_0) ∧ w'.cell? ⟨gb206, 1, none⟩ = some (.string a0_1) ∧ w'.cell? ⟨gb206, 2, none⟩ = some (.string a0_2) ∧ w'.cell? ⟨gb206, 3, none⟩ = some (.int .u64 a0_3) ∧ w'.cell? ⟨gb206, 4, none⟩ = some (.int .u64 a0_4) ∧ w'.cell? ⟨gb206, 5, none⟩ = some (.string a0_5) ∧ w'.cell? ⟨gb206, 6, none⟩ = some (.string a0_6) ∧ w'.cell? ⟨gb206, 7, none⟩ = some (.bool a0_7)) ∧ (Kd.R (Kd.int .u8) 5 w' w.heap.size (fun _ => True) s_ y207) ∧ (w'.heap[gb206]? = some (.cells #[.int .i64 a0_0, .string a0_1, .string a0_2, .int .u64 a0_3, .int .u64 a0_4, .string a0_5, .string a0_6, .bool a0_7] 44 (0, 0))) ∧ (Below w.heap.size w w')) ?_ ?_
        rotate_left
        ·intro hJ3_7_11_15_19_23
         refine join_ (σ := Value) 5 #[Y_, Y_, Y_, Y_, Y_, Y_, Y_, Y_, Y_, Y_, Y_, Y_, Y_, Y_, Y_, Y_, Y_, Y_, Y_, N_, N_, Y_, Y_, N_, N_, N_] (fun s_ => [(6, s_), (7, .string (strOfNums y207)), (10, .string t210), (14, .string t211), (18, .string t212), (11, .string ((strOfNums y207) ++ t210)), (15, .string (((strOfNums y207) ++ t210) ++ t211)), (19, .string ((((strOfNums y207) ++ t210) ++ t211) ++ t212))]) (fun s_ w' => (w'.cell? ⟨gb206, 0, none⟩ = some (.int .i64 a0_0) ∧ w'.cell? ⟨gb206, 1, none⟩ = some (.string a0_1) ∧ w'.cell? ⟨gb206, 2, none⟩ = some (.string a0_2) ∧ w'.cell? ⟨gb206, 3, none⟩ = some (.int .u64 a0_3) ∧ w'.cell? ⟨gb206, 4, none⟩ = some (.int .u64 a0_4) ∧ w'.cell? ⟨gb206, 5, none⟩ = some (.string a0_5) ∧ w'.cell? ⟨gb206, 6, none⟩ = some (.string a0_6) ∧ w'.cell? ⟨gb206, 7, none⟩ = some (.bool a0_7)) ∧ (Kd.R (Kd.int .u8) 5 w' w.heap.size (fun _ => True) s_ y207) ∧ (w'.heap[gb206]? = some (.cells #[.int .i64 a0_0, .string a0_1, .string a0_2, .int .u64 a0_3, .int .u64 a0_4, .string a0_5, .string a0_6, .bool a0_7] 44 (0, 0))) ∧ (Below w.heap.size w w')) ?_ ?_
         rotate_left
         ·intro hJ3_4_7_11_15
          refine join_ (σ := Value) 8 #[Y_, Y_, Y_, Y_, N_, Y_, Y_, Y_, N_, Y_, Y_, Y_, N_, Y_, Y_, Y_, N_, Y_, Y_, Y_, N_, Y_, Y_, N_, N_, N_] (fun s_ => [(6, s_), (10, .string t210), (14, .string t211), (18, .string t212), (22, .string t213)]) (fun s_ w' => (w'.cell? ⟨gb206, 0, none⟩ = some (.int .i64 a0_0) ∧ w'.cell? ⟨gb206, 1, none⟩ = some (.string a0_1) ∧ w'.cell? ⟨gb206, 2, none⟩ = some (.string a0_2) ∧ w'.cell? ⟨gb206, 3, none⟩ = some (.int .u64 a0_3) ∧ w'.cell? ⟨gb206, 4, none⟩ = some (.int .u64 a0_4) ∧ w'.cell? ⟨gb206, 5, none⟩ = some (.string a0_5) ∧ w'.cell? ⟨gb206, 6, none⟩ = some (.string a0_6) ∧ w'.cell? ⟨gb206, 7, none⟩ = some (.bool a0_7)) ∧ (Kd.R (Kd.int .u8) 5 w' w.heap.size (fun _ => True) s_ y207) ∧ (w'.heap[gb206]? = some (.cells #[.int .i64 a0_0, .string a0_1, .string a0_2, .int .u64 a0_3, .int .u64 a0_4, .string a0_5, .string a0_6, .bool a0_7] 44 (0, 0))) ∧ (Below w.heap.size w w')) ?_ ?_
          rotate_left
          ·intro hJ3_7_11_15_19
           refine join_ (σ := Unit) 8 #[Y_, Y_, Y_, N_, N_, Y_, Y_, Y_, N_, Y_, Y_, Y_, N_, Y_, Y_, Y_, N_, Y_, Y_, Y_, N_, Y_, Y_, Y_, N_, N_] (fun s_ => [(10, .string t210), (14, .string t211), (18, .string t212), (22, .string t213), (26, .string t214)]) (fun s_ w' => (w'.cell? ⟨gb206, 0, none⟩ = some (.int .i64 a0_0) ∧ w'.cell? ⟨gb206, 1, none⟩ = some (.string a0_1) ∧ w'.cell? ⟨gb206, 2, none⟩ = some (.string a0_2) ∧ w'.cell? ⟨gb206, 3, none⟩ = some (.int .u64 a0_3) ∧ w'.cell? ⟨gb206, 4, none⟩ = some (.int .u64 a0_4) ∧ w'.cell? ⟨gb206, 5, none⟩ = some (.string a0_5) ∧ w'.cell? ⟨gb206, 6, none⟩ = some (.string a0_6) ∧ w'.cell? ⟨gb206, 7, none⟩ = some (.bool a0_7)) ∧ (w'.heap[gb206]? = some (.cells #[.int .i64 a0_0, .string a0_1, .string a0_2, .int .u64 a0_3, .int .u64 a0_4, .string a0_5, .string a0_6, .bool a0_7] 44 (0, 0))) ∧ (Below w.heap.size w w')) ?_ ?_
           rotate_left
           ·intro hJ7_11_15_19_23
            refine join_ (σ := Value) 7 #[Y_, Y_, Y_, Y_, Y_, Y_, Y_, Y_, Y_, Y_, Y_, Y_, Y_, Y_, Y_, N_, N_, Y_, Y_, N_, N_, Y_, Y_, N_, N_, N_] (fun s_ => [(6, s_), (7, .string (strOfNums y207)), (10, .string t210), (14, .string t211), (11, .string ((strOfNums y207) ++ t210)), (15, .string (((strOfNums y207) ++ t210) ++ t211))]) (fun s_ w' => (w'.cell? ⟨gb206, 0, none⟩ = some (.int .i64 a0_0) ∧ w'.cell? ⟨gb206, 1, none⟩ = some (.string a0_1) ∧ w'.cell? ⟨gb206, 2, none⟩ = some (.string a0_2) ∧ w'.cell? ⟨gb206, 3, none⟩ = some (.int .u64 a0_3) ∧ w'.cell? ⟨gb206, 4, none⟩ = some (.int .u64 a0_4) ∧ w'.cell? ⟨gb206, 5, none⟩ = some (.string a0_5) ∧ w'.cell? ⟨gb206, 6, none⟩ = some (.string a0_6) ∧ w'.cell? ⟨gb206, 7, none⟩ = some (.bool a0_7)) ∧ (Kd.R (Kd.int .u8) 5 w' w.heap.size (fun _ => True) s_ y207) ∧ (w'.heap[gb206]? = some (.cells #[.int .i64 a0_0, .string a0_1, .string a0_2, .int .u64 a0_3, .int .u64 a0_4, .string a0_5, .string a0_6, .bool a0_7] 44 (0, 0))) ∧ (Below w.heap.size w w')) ?_ ?_
            rotate_left
            ·intro hJ3_4_7_11
             refine join_ (σ := Value) 9 #[Y_, Y_, Y_, Y_, N_, Y_, Y_, Y_, N_, Y_, Y_, Y_, N_, Y_, Y_, Y_, N_, Y_, Y_, N_, N_, Y_, Y_, N_, N_, N_] (fun s_ => [(6, s_), (10, .string t210), (14, .string t211), (18, .string t212)]) (fun s_ w' => (w'.cell? ⟨gb206, 0, none⟩ = some (.int .i64 a0_0) ∧ w'.cell? ⟨gb206, 1, none⟩ = some (.string a0_1) ∧ w'.cell? ⟨gb206, 2, none⟩ = some (.string a0_2) ∧ w'.cell? ⟨gb206, 3, none⟩ = some (.int .u64 a0_3) ∧ w'.cell? ⟨gb206, 4, none⟩ = some (.int .u64 a0_4) ∧ w'.cell? ⟨gb206, 5, none⟩ = some (.string a0_5) ∧ w'.cell? ⟨gb206, 6, none⟩ = some (.string a0_6) ∧ w'.cell? ⟨gb206, 7, none⟩ = some (.bool a0_7)) ∧ (Kd.R (Kd.int .u8) 5 w' w.heap.size (fun _ => True) s_ y207) ∧ (w'.heap[gb206]? = some (.cells #[.int .i64 a0_0, .string a0_1, .string a0_2, .int .u64 a0_3, .int .u64 a0_4, .string a0_5, .string a0_6, .bool a0_7] 44 (0, 0))) ∧ (Below w.heap.size w w')) ?_ ?_
             rotate_left
             ·intro hJ3_7_11_15
              refine join_ (σ := Unit) 9 #[Y_, Y_, Y_, N_, N_, Y_, Y_, Y_, N_, Y_, Y_, Y_, N_, Y_, Y_, Y_, N_, Y_, Y_, Y_, N_, Y_, Y_, N_, N_, N_] (fun s_ => [(10, .string t210), (14, .string t211), (18, .string t212), (22, .string t213)]) (fun s_ w' => (w'.cell? ⟨gb206, 0, none⟩ = some (.int .i64 a0_0) ∧ w'.cell? ⟨gb206, 1, none⟩ = some (.string a0_1) ∧ w'.cell? ⟨gb206, 2, none⟩ = some (.string a0_2) ∧ w'.cell? ⟨gb206, 3, none⟩ = some (.int .u64 a0_3) ∧ w'.cell? ⟨gb206, 4, none⟩ = some (.int .u64 a0_4) ∧ w'.cell? ⟨gb206, 5, none⟩ = some (.string a0_5) ∧ w'.cell? ⟨gb206, 6, none⟩ = some (.string a0_6) ∧ w'.cell? ⟨gb206, 7, none⟩ = some (.bool a0_7)) ∧ (w'.heap[gb206]? = some (.cells #[.int .i64 a0_0, .string a0_1, .string a0_2, .int .u64 a0_3, .int .u64 a0_4, .string a0_5, .string a0_6, .bool a0_7] 44 (0, 0))) ∧ (Below w.heap.size w w')) ?_ ?_
              rotate_left
              ·intro hJ7_11_15_19
               refine join_ (σ := Value) 9 #[Y_, Y_, Y_, Y_, Y_, Y_, Y_, Y_, Y_, Y_, Y_, N_, N_, Y_, Y_, N_, N_, Y_, Y_, N_, N_, Y_, Y_, N_, N_, N_] (fun s_ => [(6, s_), (7, .string (strOfNums y207)), (10, .string t210), (11, .string ((strOfNums y207) ++ t210))]) (fun s_ w' => (w'.cell? ⟨gb206, 0, none⟩ = some (.int .i64 a0_0) ∧ w'.cell? ⟨gb206, 1, none⟩ = some (.string a0_1) ∧ w'.cell? ⟨gb206, 2, none⟩ = some (.string a0_2) ∧ w'.cell? ⟨gb206, 3, none⟩ = some (.int .u64 a0_3) ∧ w'.cell? ⟨gb206, 4, none⟩ = some (.int .u64 a0_4) ∧ w'.cell? ⟨gb206, 5, none⟩ = some (.string a0_5) ∧ w'.cell? ⟨gb206, 6, none⟩ = some (.string a0_6) ∧ w'.cell? ⟨gb206, 7, none⟩ = some (.bool a0_7)) ∧ (Kd.R (Kd.int .u8) 5 w' w.heap.size (fun _ => True) s_ y207) ∧ (w'.heap[gb206]? = some (.cells #[.int .i64 a0_0, .string a0_1, .string a0_2, .int .u64 a0_3, .int .u64 a0_4, .string a0_5, .string a0_6, .bool a0_7] 44 (0, 0))) ∧ (Below w.heap.size w w')) ?_ ?_
               rotate_left
               ·intro hJ3_4_7
                refine join_ (σ := Value) 10 #[Y_, Y_, Y_, Y_, N_, Y_, Y_, Y_, N_, Y_, Y_, Y_, N_, Y_, Y_, N_, N_, Y_, Y_, N_, N_, Y_, Y_, N_, N_, N_] (fun s_ => [(6, s_), (10, .string t210), (14, .string t211)]) (fun s_ w' => (w'.cell? ⟨gb206, 0, none⟩ = some (.int .i64 a0_0) ∧ w'.cell? ⟨gb206, 1, none⟩ = some (.string a0_1) ∧ w'.cell? ⟨gb206, 2, none⟩ = some (.string a0_2) ∧ w'.cell? ⟨gb206, 3, none⟩ = some (.int .u64 a0_3) ∧ w'.cell? ⟨gb206, 4, none⟩ = some (.int .u64 a0_4) ∧ w'.cell? ⟨gb206, 5, none⟩ = some (.string a0_5) ∧ w'.cell? ⟨gb206, 6, none⟩ = some (.string a0_6) ∧ w'.cell? ⟨gb206, 7, none⟩ = some (.bool a0_7)) ∧ (Kd.R (Kd.int .u8) 5 w' w.heap.size (fun _ => True) s_ y207) ∧ (w'.heap[gb206]? = some (.cells #[.int .i64 a0_0, .string a0_1, .string a0_2, .int .u64 a0_3, .int .u64 a0_4, .string a0_5, .string a0_6, .bool a0_7] 44 (0, 0))) ∧ (Below w.heap.size w w')) ?_ ?_
                rotate_left
                ·intro hJ3_7_11
                 refine join_ (σ := Unit) 10 #[Y_, Y_, Y_, N_, N_, Y_, Y_, Y_, N_, Y_, Y_, Y_, N_, Y_, Y_, Y_, N_, Y_, Y_, N_, N_, Y_, Y_, N_, N_, N_] (fun s_ => [(10, .string t210), (14, .string t211), (18, .string t212)]) (fun s_ w' => (w'.cell? ⟨gb206, 0, none⟩ = some (.int .i64 a0_0) ∧ w'.cell? ⟨gb206, 1, none⟩ = some (.string a0_1) ∧ w'.cell? ⟨gb206, 2, none⟩ = some (.string a0_2) ∧ w'.cell? ⟨gb206, 3, none⟩ = some (.int .u64 a0_3) ∧ w'.cell? ⟨gb206, 4, none⟩ = some (.int .u64 a0_4) ∧ w'.cell? ⟨gb206, 5, none⟩ = some (.string a0_5) ∧ w'.cell? ⟨gb206, 6, none⟩ = some (.string a0_6) ∧ w'.cell? ⟨gb206, 7, none⟩ = some (.bool a0_7)) ∧ (w'.heap[gb206]? = some (.cells #[.int .i64 a0_0, .string a0_1, .string a0_2, .int .u64 a0_3, .int .u64 a0_4, .string a0_5, .string a0_6, .bool a0_7] 44 (0, 0))) ∧ (Below w.heap.size w w')) ?_ ?_
                 rotate_left
                 ·intro hJ7_11_15
                  refine join_ (σ := Value) 11 #[Y_, Y_, Y_, Y_, Y_, Y_, Y_, N_, N_, Y_, Y_, N_, N_, Y_, Y_, N_, N_, Y_, Y_, N_, N_, Y_, Y_, N_, N_, N_] (fun s_ => [(6, s_), (7, .string (strOfNums y207))]) (fun s_ w' => (w'.cell? ⟨gb206, 0, none⟩ = some (.int .i64 a0_0) ∧ w'.cell? ⟨gb206, 1, none⟩ = some (.string a0_1) ∧ w'.cell? ⟨gb206, 2, none⟩ = some (.string a0_2) ∧ w'.cell? ⟨gb206, 3, none⟩ = some (.int .u64 a0_3) ∧ w'.cell? ⟨gb206, 4, none⟩ = some (.int .u64 a0_4) ∧ w'.cell? ⟨gb206, 5, none⟩ = some (.string a0_5) ∧ w'.cell? ⟨gb206, 6, none⟩ = some (.string a0_6) ∧ w'.cell? ⟨gb206, 7, none⟩ = some (.bool a0_7)) ∧ (Kd.R (Kd.int .u8) 5 w' w.heap.size (fun _ => True) s_ y207) ∧ (w'.heap[gb206]? = some (.cells #[.int .i64 a0_0, .string a0_1, .string a0_2, .int .u64 a0_3, .int .u64 a0_4, .string a0_5, .string a0_6, .bool a0_7] 44 (0, 0))) ∧ (Below w.heap.size w w')) ?_ ?_
                  rotate_left
                  ·intro hJ3_4
                   refine join_ (σ := Value) 11 #[Y_, Y_, Y_, Y_, N_, Y_, Y_, Y_, N_, Y_, Y_, N_, N_, Y_, Y_, N_, N_, Y_, Y_, N_, N_, Y_, Y_, N_, N_, N_] (fun s_ => [(6, s_), (10, .string t210)]) (fun s_ w' => (w'.cell? ⟨gb206, 0, none⟩ = some (.int .i64 a0_0) ∧ w'.cell? ⟨gb206, 1, none⟩ = some (.string a0_1) ∧ w'.cell? ⟨gb206, 2, none⟩ = some (.string a0_2) ∧ w'.cell? ⟨gb206, 3, none⟩ = some (.int .u64 a0_3) ∧ w'.cell? ⟨gb206, 4, none⟩ = some (.int .u64 a0_4) ∧ w'.cell? ⟨gb206, 5, none⟩ = some (.string a0_5) ∧ w'.cell? ⟨gb206, 6, none⟩ = some (.string a0_6) ∧ w'.cell? ⟨gb206, 7, none⟩ = some (.bool a0_7)) ∧ (Kd.R (Kd.int .u8) 5 w' w.heap.size (fun _ => True) s_ y207) ∧ (w'.heap[gb206]? = some (.cells #[.int .i64 a0_0, .string a0_1, .string a0_2, .int .u64 a0_3, .int .u64 a0_4, .string a0_5, .string a0_6, .bool a0_7] 44 (0, 0))) ∧ (Below w.heap.size w w')) ?_ ?_
                   rotate_left
                   ·intro hJ3_7
                    refine join_ (σ := Unit) 11 #[Y_, Y_, Y_, N_, N_, Y_, Y_, Y_, N_, Y_, Y_, Y_, N_, Y_, Y_, N_, N_, Y_, Y_, N_, N_, Y_, Y_, N_, N_, N_] (fun s_ => [(10, .string t210), (14, .string t211)]) (fun s_ w' => (w'.cell? ⟨gb206, 0, none⟩ = some (.int .i64 a0_0) ∧ w'.cell? ⟨gb206, 1, none⟩ = some (.string a0_1) ∧ w'.cell? ⟨gb206, 2, none⟩ = some (.string a0_2) ∧ w'.cell? ⟨gb206, 3, none⟩ = some (.int .u64 a0_3) ∧ w'.cell? ⟨gb206, 4, none⟩ = some (.int .u64 a0_4) ∧ w'.cell? ⟨gb206, 5, none⟩ = some (.string a0_5) ∧ w'.cell? ⟨gb206, 6, none⟩ = some (.string a0_6) ∧ w'.cell? ⟨gb206, 7, none⟩ = some (.bool a0_7)) ∧ (w'.heap[gb206]? = some (.cells #[.int .i64 a0_0, .string a0_1, .string a0_2, .int .u64 a0_3, .int .u64 a0_4, .string a0_5, .string a0_6, .bool a0_7] 44 (0, 0))) ∧ (Below w.heap.size w w')) ?_ ?_
                    rotate_left
                    ·intro hJ7_11
                     refine join_ (σ := Value) 12 #[Y_, Y_, Y_, Y_, N_, Y_, Y_, N_, N_, Y_, Y_, N_, N_, Y_, Y_, N_, N_, Y_, Y_, N_, N_, Y_, Y_, N_, N_, N_] (fun s_ => [(6, s_)]) (fun s_ w' => (w'.cell? ⟨gb206, 0, none⟩ = some (.int .i64 a0_0) ∧ w'.cell? ⟨gb206, 1, none⟩ = some (.string a0_1) ∧ w'.cell? ⟨gb206, 2, none⟩ = some (.string a0_2) ∧ w'.cell? ⟨gb206, 3, none⟩ = some (.int .u64 a0_3) ∧ w'.cell? ⟨gb206, 4, none⟩ = some (.int .u64 a0_4) ∧ w'.cell? ⟨gb206, 5, none⟩ = some (.string a0_5) ∧ w'.cell? ⟨gb206, 6, none⟩ = some (.string a0_6) ∧ w'.cell? ⟨gb206, 7, none⟩ = some (.bool a0_7)) ∧ (Kd.R (Kd.int .u8) 5 w' w.heap.size (fun _ => True) s_ y207) ∧ (w'.heap[gb206]? = some (.cells #[.int .i64 a0_0, .string a0_1, .string a0_2, .int .u64 a0_3, .int .u64 a0_4, .string a0_5, .string a0_6, .bool a0_7] 44 (0, 0))) ∧ (Below w.heap.size w w')) ?_ ?_
                     rotate_left
                     ·intro hJ3
                      refine join_ (σ := Unit) 12 #[Y_, Y_, Y_, N_, N_, Y_, Y_, Y_, N_, Y_, Y_, N_, N_, Y_, Y_, N_, N_, Y_, Y_, N_, N_, Y_, Y_, N_, N_, N_] (fun s_ => [(10, .string t210)]) (fun s_ w' => (w'.cell? ⟨gb206, 0, none⟩ = some (.int .i64 a0_0) ∧ w'.cell? ⟨gb206, 1, none⟩ = some (.string a0_1) ∧ w'.cell? ⟨gb206, 2, none⟩ = some (.string a0_2) ∧ w'.cell? ⟨gb206, 3, none⟩ = some (.int .u64 a0_3) ∧ w'.cell? ⟨gb206, 4, none⟩ = some (.int .u64 a0_4) ∧ w'.cell? ⟨gb206, 5, none⟩ = some (.string a0_5) ∧ w'.cell? ⟨gb206, 6, none⟩ = some (.string a0_6) ∧ w'.cell? ⟨gb206, 7, none⟩ = some (.bool a0_7)) ∧ (w'.heap[gb206]? = some (.cells #[.int .i64 a0_0, .string a0_1, .string a0_2, .int .u64 a0_3, .int .u64 a0_4, .string a0_5, .string a0_6, .bool a0_7] 44 (0, 0))) ∧ (Below w.heap.size w w')) ?_ ?_
                      rotate_left
                      ·intro hJ7
                       refine two_ (i := 3) (j := 7) (Ni := some 6) (Nj := some 10) #[Y_, Y_, Y_, Y_, N_, Y_, Y_, N_, N_, Y_, Y_, N_, N_, Y_, Y_, N_, N_, Y_, Y_, N_, N_, Y_, Y_, N_, N_, N_] #[Y_, Y_, Y_, N_, N_, Y_, Y_, Y_, N_, Y_, Y_, N_, N_, Y_, Y_, N_, N_, Y_, Y_, N_, N_, Y_, Y_, N_, N_, N_] rfl rfl rfl rfl (two_of HT_.out (by kernel_rfl)) (by decide) (by decide) (fun K hK => ?_) (fun K hK => ?_)
                       ·skip
                        refine Kd.R_lit_step (Kd.int .u8) _ 5 ?hg (N := 6) ?hd (xs := ([(a0_0) % 256] : List Int)) (inner := [.int .u8 ((a0_0) % 256)]) (ok := fun _ => True) (okp := fun _ => True) ?hr ?hp (fun _ hk => hk) trivial (Below.refl _ _) (Nat.le_refl _) (by simp) ?_; (case hd => rfl); (case hg => rfl); (case hr => first | (go_simp; done) | (go_simp; rfl)); (case hp => exact (Reps.one (show Kd.M (Kd.int .u8) _ _ _ ((a0_0) % 256) [.int .u8 ((a0_0) % 256)] from rfl) (Reps.none _ _)))
                        intro v208 w14 ho15 hb hg_ hnew_
                        clear hg_ hnew_
                        (first | rw [← Ny207.out] at ho15 | (simp only [Int.reduceToNat] at ho15; rw [← Ny207.out] at ho15))
                        have HO209 := Aside0.mk (Kd.R_lower ho15 (below_size (bh_ HB.out)))
                        replace BK206 := Aside0.mk (bk_ BK206.out hb)
                        replace HB := Aside0.mk (below_step (bh_ HB.out) hb)
                        clear hb ho15
                        refine hK.out _ _ ⟨(blk_cell BK206.out 0).trans rfl, (blk_cell BK206.out 1).trans rfl, (blk_cell BK206.out 2).trans rfl, (blk_cell BK206.out 3).trans rfl, (blk_cell BK206.out 4).trans rfl, (blk_cell BK206.out 5).trans rfl, (blk_cell BK206.out 6).trans rfl, (blk_cell BK206.out 7).trans rfl⟩ (fun hHeld => ?_)
                        clear hK K
                        refine norm_ (a' := ?_) ?_ ?_
                        rotate_left
                        ·show Act.put _ (some 6) _ = _
                         simp only [Act.put, q1_, q2_, q3_, i64_w, i32_w]
                         rfl
                        exact norm_ (by first | (simp only [putAll, Act.put, q1_, q2_, q3_]; done) | (simp only [putAll, Act.put, q1_, q2_, q3_]; rfl)) (hJ3 (v208) _ ⟨hHeld, (br_ HO209.out), (bq_ BK206.out), (bh_ HB.out)⟩)
                       ·skip
                        refine goes_ Try.func42 (by kernel_rfl) rfl #[.string a0_1] (by rfl) rfl rfl (by (try simp only [List.map_toArray, List.map_cons, List.map_nil]); first | done | rfl | (simp only [List.length_drop, List.length_take]; rfl)) ?_
                        with_reducible refine (parchmentref02_Text.calls k a0_1 t210 _ A2.out).mono ?_
                        rintro e w14 ⟨rfl, hb⟩
                        refine ⟨_, rfl, ?_⟩
                        replace BK206 := Aside0.mk (bk_ BK206.out hb)
                        replace HB := Aside0.mk (below_step (bh_ HB.out) hb)
                        (try clear hb)
                        (try clear hb2)
                        (try clear hk)
                        (try clear hi)
                        refine hK.out _ _ ⟨(blk_cell BK206.out 0).trans rfl, (blk_cell BK206.out 1).trans rfl, (blk_cell BK206.out 2).trans rfl, (blk_cell BK206.out 3).trans rfl, (blk_cell BK206.out 4).trans rfl, (blk_cell BK206.out 5).trans rfl, (blk_cell BK206.out 6).trans rfl, (blk_cell BK206.out 7).trans rfl⟩ (fun hHeld => ?_)
                        clear hK K
                        refine norm_ (a' := ?_) ?_ ?_
                        rotate_left
                        ·show Act.put _ (some 10) _ = _
                         simp only [Act.put, q1_, q2_, q3_, i64_w, i32_w]
                         rfl
                        exact norm_ (by first | (simp only [putAll, Act.put, q1_, q2_, q3_]; done) | (simp only [putAll, Act.put, q1_, q2_, q3_]; rfl)) (hJ7 () _ ⟨hHeld, (bq_ BK206.out), (bh_ HB.out)⟩)
                      ·skip
                       rintro _ w15 ⟨hS_, h0_, h1_⟩
                       have n0_ : Aside0 (w15.heap[gb206]? = some (.cells #[.int .i64 a0_0, .string a0_1, .string a0_2, .int .u64 a0_3, .int .u64 a0_4, .string a0_5, .string a0_6, .bool a0_7] 44 (0, 0))) := ⟨h0_⟩
                       have n1_ : Aside0 (Below w.heap.size w w15) := ⟨h1_⟩
                       clear BK206
                       clear HB
                       clear h0_ h1_
                       have BK206 := n0_
                       have HB := n1_
                       clear n0_ n1_
                       have hHeld : w15.cell? ⟨gb206, 0, none⟩ = some (.int .i64 a0_0) ∧ w15.cell? ⟨gb206, 1, none⟩ = some (.string a0_1) ∧ w15.cell? ⟨gb206, 2, none⟩ = some (.string a0_2) ∧ w15.cell? ⟨gb206, 3, none⟩ = some (.int .u64 a0_3) ∧ w15.cell? ⟨gb206, 4, none⟩ = some (.int .u64 a0_4) ∧ w15.cell? ⟨gb206, 5, none⟩ = some (.string a0_5) ∧ w15.cell? ⟨gb206, 6, none⟩ = some (.string a0_6) ∧ w15.cell? ⟨gb206, 7, none⟩ = some (.bool a0_7) := hS_
                       refine norm_ (a' := ?_) ?_ ?_
                       rotate_left
                       ·simp only [putAll, Act.put, q1_, q2_, q3_]
                        rfl
                       refine two_ (i := 3) (j := 11) (Ni := some 6) (Nj := some 14) #[Y_, Y_, Y_, Y_, N_, Y_, Y_, Y_, N_, Y_, Y_, N_, N_, Y_, Y_, N_, N_, Y_, Y_, N_, N_, Y_, Y_, N_, N_, N_] #[Y_, Y_, Y_, N_, N_, Y_, Y_, Y_, N_, Y_, Y_, Y_, N_, Y_, Y_, N_, N_, Y_, Y_, N_, N_, Y_, Y_, N_, N_, N_] rfl rfl rfl rfl (two_of HT_.out (by kernel_rfl)) (by decide) (by decide) (fun K hK => ?_) (fun K hK => ?_)
                       ·skip
                        refine Kd.R_lit_step (Kd.int .u8) _ 5 ?hg (N := 6) ?hd (xs := ([(a0_0) % 256] : List Int)) (inner := [.int .u8 ((a0_0) % 256)]) (ok := fun _ => True) (okp := fun _ => True) ?hr ?hp (fun _ hk => hk) trivial (Below.refl _ _) (Nat.le_refl _) (by simp) ?_; (case hd => rfl); (case hg => rfl); (case hr => first | (go_simp; done) | (go_simp; rfl)); (case hp => exact (Reps.one (show Kd.M (Kd.int .u8) _ _ _ ((a0_0) % 256) [.int .u8 ((a0_0) % 256)] from rfl) (Reps.none _ _)))
                        intro v208 w16 ho17 hb hg_ hnew_
                        clear hg_ hnew_
                        (first | rw [← Ny207.out] at ho17 | (simp only [Int.reduceToNat] at ho17; rw [← Ny207.out] at ho17))
                        have HO209 := Aside0.mk (Kd.R_lower ho17 (below_size (bh_ HB.out)))
                        replace BK206 := Aside0.mk (bk_ BK206.out hb)
                        replace HB := Aside0.mk (below_step (bh_ HB.out) hb)
                        clear hb ho17
                        refine hK.out _ _ ⟨(blk_cell BK206.out 0).trans rfl, (blk_cell BK206.out 1).trans rfl, (blk_cell BK206.out 2).trans rfl, (blk_cell BK206.out 3).trans rfl, (blk_cell BK206.out 4).trans rfl, (blk_cell BK206.out 5).trans rfl, (blk_cell BK206.out 6).trans rfl, (blk_cell BK206.out 7).trans rfl⟩ (fun hHeld => ?_)
                        clear hK K
                        refine norm_ (a' := ?_) ?_ ?_
                        rotate_left
                        ·show Act.put _ (some 6) _ = _
                         simp only [Act.put, q1_, q2_, q3_, i64_w, i32_w]
                         rfl
                        exact norm_ (by first | (simp only [putAll, Act.put, q1_, q2_, q3_]; done) | (simp only [putAll, Act.put, q1_, q2_, q3_]; rfl)) (hJ3_7 (v208) _ ⟨hHeld, (br_ HO209.out), (bq_ BK206.out), (bh_ HB.out)⟩)
                       ·skip
                        refine goes_ Try.func42 (by kernel_rfl) rfl #[.string a0_2] (by rfl) rfl rfl (by (try simp only [List.map_toArray, List.map_cons, List.map_nil]); first | done | rfl | (simp only [List.length_drop, List.length_take]; rfl)) ?_
                        with_reducible refine (parchmentref02_Text.calls k a0_2 t211 _ A4.out).mono ?_
                        rintro e w16 ⟨rfl, hb⟩
                        refine ⟨_, rfl, ?_⟩
                        replace BK206 := Aside0.mk (bk_ BK206.out hb)
                        replace HB := Aside0.mk (below_step (bh_ HB.out) hb)
                        (try clear hb)
                        (try clear hb2)
                        (try clear hk)
                        (try clear hi)
                        refine hK.out _ _ ⟨(blk_cell BK206.out 0).trans rfl, (blk_cell BK206.out 1).trans rfl, (blk_cell BK206.out 2).trans rfl, (blk_cell BK206.out 3).trans rfl, (blk_cell BK206.out 4).trans rfl, (blk_cell BK206.out 5).trans rfl, (blk_cell BK206.out 6).trans rfl, (blk_cell BK206.out 7).trans rfl⟩ (fun hHeld => ?_)
                        clear hK K
                        refine norm_ (a' := ?_) ?_ ?_
                        rotate_left
                        ·show Act.put _ (some 14) _ = _
                         simp only [Act.put, q1_, q2_, q3_, i64_w, i32_w]
                         rfl
                        exact norm_ (by first | (simp only [putAll, Act.put, q1_, q2_, q3_]; done) | (simp only [putAll, Act.put, q1_, q2_, q3_]; rfl)) (hJ7_11 () _ ⟨hHeld, (bq_ BK206.out), (bh_ HB.out)⟩)
                     ·skip
                      rintro v208 w16 ⟨hS_, h0_, h1_, h2_⟩
                      have n0_ : Aside0 (Kd.R (Kd.int .u8) 5 w16 w.heap.size (fun _ => True) v208 y207) := ⟨h0_⟩
                      have n1_ : Aside0 (w16.heap[gb206]? = some (.cells #[.int .i64 a0_0, .string a0_1, .string a0_2, .int .u64 a0_3, .int .u64 a0_4, .string a0_5, .string a0_6, .bool a0_7] 44 (0, 0))) := ⟨h1_⟩
                      have n2_ : Aside0 (Below w.heap.size w w16) := ⟨h2_⟩
                      clear BK206
                      clear HB
                      clear h0_ h1_ h2_
                      have HO209 := n0_
                      have BK206 := n1_
                      have HB := n2_
                      clear n0_ n1_ n2_
                      have hHeld : w16.cell? ⟨gb206, 0, none⟩ = some (.int .i64 a0_0) ∧ w16.cell? ⟨gb206, 1, none⟩ = some (.string a0_1) ∧ w16.cell? ⟨gb206, 2, none⟩ = some (.string a0_2) ∧ w16.cell? ⟨gb206, 3, none⟩ = some (.int .u64 a0_3) ∧ w16.cell? ⟨gb206, 4, none⟩ = some (.int .u64 a0_4) ∧ w16.cell? ⟨gb206, 5, none⟩ = some (.string a0_5) ∧ w16.cell? ⟨gb206, 6, none⟩ = some (.string a0_6) ∧ w16.cell? ⟨gb206, 7, none⟩ = some (.bool a0_7) := hS_
                      refine norm_ (a' := ?_) ?_ ?_
                      rotate_left
                      ·simp only [putAll, Act.put, q1_, q2_, q3_]
                       rfl
                      refine two_ (i := 4) (j := 7) (Ni := some 7) (Nj := some 10) #[Y_, Y_, Y_, Y_, Y_, Y_, Y_, N_, N_, Y_, Y_, N_, N_, Y_, Y_, N_, N_, Y_, Y_, N_, N_, Y_, Y_, N_, N_, N_] #[Y_, Y_, Y_, Y_, N_, Y_, Y_, Y_, N_, Y_, Y_, N_, N_, Y_, Y_, N_, N_, Y_, Y_, N_, N_, Y_, Y_, N_, N_, N_] rfl rfl rfl rfl (two_of HT_.out (by kernel_rfl)) (by decide) (by decide) (fun K hK => ?_) (fun K hK => ?_)
                      ·skip
                       have hcv17 := own_string (P := Try.prog) Try.underlying99 Try.underlying5 Try.underlying9 (Kd.own_of_R HO209.out)
                       refine value_ (w1 := ?_) (v := ?_) (by rfl) rfl ?_ ?_
                       rotate_left 2
                       ·go_simp
                        constructor
                        ·rfl
                        ·rfl
                       clear hcv17
                       refine hK.out _ _ ⟨(blk_cell BK206.out 0).trans rfl, (blk_cell BK206.out 1).trans rfl, (blk_cell BK206.out 2).trans rfl, (blk_cell BK206.out 3).trans rfl, (blk_cell BK206.out 4).trans rfl, (blk_cell BK206.out 5).trans rfl, (blk_cell BK206.out 6).trans rfl, (blk_cell BK206.out 7).trans rfl⟩ (fun hHeld => ?_)
                       clear hK K
                       refine norm_ (a' := ?_) ?_ ?_
                       rotate_left
                       ·show Act.put _ (some 7) _ = _
                        simp only [Act.put, q1_, q2_, q3_, i64_w, i32_w]
                        rfl
                       exact norm_ (by first | (simp only [putAll, Act.put, q1_, q2_, q3_]; done) | (simp only [putAll, Act.put, q1_, q2_, q3_]; rfl)) (hJ3_4 (v208) _ ⟨hHeld, (br_ HO209.out), (bq_ BK206.out), (bh_ HB.out)⟩)
                      ·skip
                       refine goes_ Try.func42 (by kernel_rfl) rfl #[.string a0_1] (by rfl) rfl rfl (by (try simp only [List.map_toArray, List.map_cons, List.map_nil]); first | done | rfl | (simp only [List.length_drop, List.length_take]; rfl)) ?_
                       with_reducible refine (parchmentref02_Text.calls k a0_1 t210 _ A2.out).mono ?_
                       rintro e w17 ⟨rfl, hb⟩
                       refine ⟨_, rfl, ?_⟩
                       replace HO209 := Aside0.mk (Kd.R_below (br_ HO209.out) hb)
                       replace BK206 := Aside0.mk (bk_ BK206.out hb)
                       replace HB := Aside0.mk (below_step (bh_ HB.out) hb)
                       (try clear hb)
                       (try clear hb2)
                       (try clear hk)
                       (try clear hi)
                       refine hK.out _ _ ⟨(blk_cell BK206.out 0).trans rfl, (blk_cell BK206.out 1).trans rfl, (blk_cell BK206.out 2).trans rfl, (blk_cell BK206.out 3).trans rfl, (blk_cell BK206.out 4).trans rfl, (blk_cell BK206.out 5).trans rfl, (blk_cell BK206.out 6).trans rfl, (blk_cell BK206.out 7).trans rfl⟩ (fun hHeld => ?_)
                       clear hK K
                       refine norm_ (a' := ?_) ?_ ?_
                       rotate_left
                       ·show Act.put _ (some 10) _ = _
                        simp only [Act.put, q1_, q2_, q3_, i64_w, i32_w]
                        rfl
                       exact norm_ (by first | (simp only [putAll, Act.put, q1_, q2_, q3_]; done) | (simp only [putAll, Act.put, q1_, q2_, q3_]; rfl)) (hJ3_7 (v208) _ ⟨hHeld, (br_ HO209.out), (bq_ BK206.out), (bh_ HB.out)⟩)
                    ·skip
                     rintro _ w16 ⟨hS_, h0_, h1_⟩
                     have n0_ : Aside0 (w16.heap[gb206]? = some (.cells #[.int .i64 a0_0, .string a0_1, .string a0_2, .int .u64 a0_3, .int .u64 a0_4, .string a0_5, .string a0_6, .bool a0_7] 44 (0, 0))) := ⟨h0_⟩
                     have n1_ : Aside0 (Below w.heap.size w w16) := ⟨h1_⟩
                     clear BK206
                     clear HB
                     clear h0_ h1_
                     have BK206 := n0_
                     have HB := n1_
                     clear n0_ n1_
                     have hHeld : w16.cell? ⟨gb206, 0, none⟩ = some (.int .i64 a0_0) ∧ w16.cell? ⟨gb206, 1, none⟩ = some (.string a0_1) ∧ w16.cell? ⟨gb206, 2, none⟩ = some (.string a0_2) ∧ w16.cell? ⟨gb206, 3, none⟩ = some (.int .u64 a0_3) ∧ w16.cell? ⟨gb206, 4, none⟩ = some (.int .u64 a0_4) ∧ w16.cell? ⟨gb206, 5, none⟩ = some (.string a0_5) ∧ w16.cell? ⟨gb206, 6, none⟩ = some (.string a0_6) ∧ w16.cell? ⟨gb206, 7, none⟩ = some (.bool a0_7) := hS_
                     refine norm_ (a' := ?_) ?_ ?_
                     rotate_left
                     ·simp only [putAll, Act.put, q1_, q2_, q3_]
                      rfl
                     refine two_ (i := 3) (j := 15) (Ni := some 6) (Nj := some 18) #[Y_, Y_, Y_, Y_, N_, Y_, Y_, Y_, N_, Y_, Y_, Y_, N_, Y_, Y_, N_, N_, Y_, Y_, N_, N_, Y_, Y_, N_, N_, N_] #[Y_, Y_, Y_, N_, N_, Y_, Y_, Y_, N_, Y_, Y_, Y_, N_, Y_, Y_, Y_, N_, Y_, Y_, N_, N_, Y_, Y_, N_, N_, N_] rfl rfl rfl rfl (two_of HT_.out (by kernel_rfl)) (by decide) (by decide) (fun K hK => ?_) (fun K hK => ?_)
                     ·skip
                      refine Kd.R_lit_step (Kd.int .u8) _ 5 ?hg (N := 6) ?hd (xs := ([(a0_0) % 256] : List Int)) (inner := [.int .u8 ((a0_0) % 256)]) (ok := fun _ => True) (okp := fun _ => True) ?hr ?hp (fun _ hk => hk) trivial (Below.refl _ _) (Nat.le_refl _) (by simp) ?_; (case hd => rfl); (case hg => rfl); (case hr => first | (go_simp; done) | (go_simp; rfl)); (case hp => exact (Reps.one (show Kd.M (Kd.int .u8) _ _ _ ((a0_0) % 256) [.int .u8 ((a0_0) % 256)] from rfl) (Reps.none _ _)))
                      intro v208 w17 ho18 hb hg_ hnew_
                      clear hg_ hnew_
                      (first | rw [← Ny207.out] at ho18 | (simp only [Int.reduceToNat] at ho18; rw [← Ny207.out] at ho18))
                      have HO209 := Aside0.mk (Kd.R_lower ho18 (below_size (bh_ HB.out)))
                      replace BK206 := Aside0.mk (bk_ BK206.out hb)
                      replace HB := Aside0.mk (below_step (bh_ HB.out) hb)
                      clear hb ho18
                      refine hK.out _ _ ⟨(blk_cell BK206.out 0).trans rfl, (blk_cell BK206.out 1).trans rfl, (blk_cell BK206.out 2).trans rfl, (blk_cell BK206.out 3).trans rfl, (blk_cell BK206.out 4).trans rfl, (blk_cell BK206.out 5).trans rfl, (blk_cell BK206.out 6).trans rfl, (blk_cell BK206.out 7).trans rfl⟩ (fun hHeld => ?_)
                      clear hK K
                      refine norm_ (a' := ?_) ?_ ?_
                      rotate_left
                      ·show Act.put _ (some 6) _ = _
                       simp only [Act.put, q1_, q2_, q3_, i64_w, i32_w]
                       rfl
                      exact norm_ (by first | (simp only [putAll, Act.put, q1_, q2_, q3_]; done) | (simp only [putAll, Act.put, q1_, q2_, q3_]; rfl)) (hJ3_7_11 (v208) _ ⟨hHeld, (br_ HO209.out), (bq_ BK206.out), (bh_ HB.out)⟩)
                     ·skip
                      refine goes_ Try.func41 (by kernel_rfl) rfl #[.int .u64 a0_3] (by rfl) rfl rfl (by (try simp only [List.map_toArray, List.map_cons, List.map_nil]); first | done | rfl | (simp only [List.length_drop, List.length_take]; rfl)) ?_
                      with_reducible refine (parchmentref02_Uint.calls k a0_3 t212 _ A6.out).mono ?_
                      rintro e w17 ⟨rfl, hb⟩
                      refine ⟨_, rfl, ?_⟩
                      replace BK206 := Aside0.mk (bk_ BK206.out hb)
                      replace HB := Aside0.mk (below_step (bh_ HB.out) hb)
                      (try clear hb)
                      (try clear hb2)
                      (try clear hk)
                      (try clear hi)
                      refine hK.out _ _ ⟨(blk_cell BK206.out 0).trans rfl, (blk_cell BK206.out 1).trans rfl, (blk_cell BK206.out 2).trans rfl, (blk_cell BK206.out 3).trans rfl, (blk_cell BK206.out 4).trans rfl, (blk_cell BK206.out 5).trans rfl, (blk_cell BK206.out 6).trans rfl, (blk_cell BK206.out 7).trans rfl⟩ (fun hHeld => ?_)
                      clear hK K
                      refine norm_ (a' := ?_) ?_ ?_
                      rotate_left
                      ·show Act.put _ (some 18) _ = _
                       simp only [Act.put, q1_, q2_, q3_, i64_w, i32_w]
                       rfl
                      exact norm_ (by first | (simp only [putAll, Act.put, q1_, q2_, q3_]; done) | (simp only [putAll, Act.put, q1_, q2_, q3_]; rfl)) (hJ7_11_15 () _ ⟨hHeld, (bq_ BK206.out), (bh_ HB.out)⟩)
                   ·skip
                    rintro v208 w17 ⟨hS_, h0_, h1_, h2_⟩
                    have n0_ : Aside0 (Kd.R (Kd.int .u8) 5 w17 w.heap.size (fun _ => True) v208 y207) := ⟨h0_⟩
                    have n1_ : Aside0 (w17.heap[gb206]? = some (.cells #[.int .i64 a0_0, .string a0_1, .string a0_2, .int .u64 a0_3, .int .u64 a0_4, .string a0_5, .string a0_6, .bool a0_7] 44 (0, 0))) := ⟨h1_⟩
                    have n2_ : Aside0 (Below w.heap.size w w17) := ⟨h2_⟩
                    clear BK206
                    clear HB
                    clear h0_ h1_ h2_
                    have HO209 := n0_
                    have BK206 := n1_
                    have HB := n2_
                    clear n0_ n1_ n2_
                    have hHeld : w17.cell? ⟨gb206, 0, none⟩ = some (.int .i64 a0_0) ∧ w17.cell? ⟨gb206, 1, none⟩ = some (.string a0_1) ∧ w17.cell? ⟨gb206, 2, none⟩ = some (.string a0_2) ∧ w17.cell? ⟨gb206, 3, none⟩ = some (.int .u64 a0_3) ∧ w17.cell? ⟨gb206, 4, none⟩ = some (.int .u64 a0_4) ∧ w17.cell? ⟨gb206, 5, none⟩ = some (.string a0_5) ∧ w17.cell? ⟨gb206, 6, none⟩ = some (.string a0_6) ∧ w17.cell? ⟨gb206, 7, none⟩ = some (.bool a0_7) := hS_
                    refine norm_ (a' := ?_) ?_ ?_
                    rotate_left
                    ·simp only [putAll, Act.put, q1_, q2_, q3_]
                     rfl
                    refine two_ (i := 4) (j := 11) (Ni := some 7) (Nj := some 14) #[Y_, Y_, Y_, Y_, Y_, Y_, Y_, Y_, N_, Y_, Y_, N_, N_, Y_, Y_, N_, N_, Y_, Y_, N_, N_, Y_, Y_, N_, N_, N_] #[Y_, Y_, Y_, Y_, N_, Y_, Y_, Y_, N_, Y_, Y_, Y_, N_, Y_, Y_, N_, N_, Y_, Y_, N_, N_, Y_, Y_, N_, N_, N_] rfl rfl rfl rfl (two_of HT_.out (by kernel_rfl)) (by decide) (by decide) (fun K hK => ?_) (fun K hK => ?_)
                    ·skip
                     have hcv18 := own_string (P := Try.prog) Try.underlying99 Try.underlying5 Try.underlying9 (Kd.own_of_R HO209.out)
                     refine value_ (w1 := ?_) (v := ?_) (by rfl) rfl ?_ ?_
                     rotate_left 2
                     ·go_simp
                      constructor
                      ·rfl
                      ·rfl
                     clear hcv18
                     refine hK.out _ _ ⟨(blk_cell BK206.out 0).trans rfl, (blk_cell BK206.out 1).trans rfl, (blk_cell BK206.out 2).trans rfl, (blk_cell BK206.out 3).trans rfl, (blk_cell BK206.out 4).trans rfl, (blk_cell BK206.out 5).trans rfl, (blk_cell BK206.out 6).trans rfl, (blk_cell BK206.out 7).trans rfl⟩ (fun hHeld => ?_)
                     clear hK K
                     refine norm_ (a' := ?_) ?_ ?_
                     rotate_left
                     ·show Act.put _ (some 7) _ = _
                      simp only [Act.put, q1_, q2_, q3_, i64_w, i32_w]
                      rfl
                     refine pure_ (i := 8) (N := some 11) (v := ?_) (a' := ?_) #[Y_, Y_, Y_, Y_, Y_, Y_, Y_, Y_, Y_, Y_, Y_, N_, N_, Y_, Y_, N_, N_, Y_, Y_, N_, N_, Y_, Y_, N_, N_, N_] rfl rfl (any_of HT_.out (by kernel_rfl)) (fun _ _ _ h => h) (Or.inl ⟨by rfl, ?_⟩) ?_ ?_
                     rotate_left; (intro w'; go_simp; with_reducible rfl); rotate_left; (simp only [Act.put, q1_, q2_, q3_, i64_w, i32_w]; rfl)
                     exact norm_ (by first | (simp only [putAll, Act.put, q1_, q2_, q3_]; done) | (simp only [putAll, Act.put, q1_, q2_, q3_]; rfl)) (hJ3_4_7 (v208) _ ⟨hHeld, (br_ HO209.out), (bq_ BK206.out), (bh_ HB.out)⟩)
                    ·skip
                     refine goes_ Try.func42 (by kernel_rfl) rfl #[.string a0_2] (by rfl) rfl rfl (by (try simp only [List.map_toArray, List.map_cons, List.map_nil]); first | done | rfl | (simp only [List.length_drop, List.length_take]; rfl)) ?_
                     with_reducible refine (parchmentref02_Text.calls k a0_2 t211 _ A4.out).mono ?_
                     rintro e w18 ⟨rfl, hb⟩
                     refine ⟨_, rfl, ?_⟩
                     replace HO209 := Aside0.mk (Kd.R_below (br_ HO209.out) hb)
                     replace BK206 := Aside0.mk (bk_ BK206.out hb)
                     replace HB := Aside0.mk (below_step (bh_ HB.out) hb)
                     (try clear hb)
                     (try clear hb2)
                     (try clear hk)
                     (try clear hi)
                     refine hK.out _ _ ⟨(blk_cell BK206.out 0).trans rfl, (blk_cell BK206.out 1).trans rfl, (blk_cell BK206.out 2).trans rfl, (blk_cell BK206.out 3).trans rfl, (blk_cell BK206.out 4).trans rfl, (blk_cell BK206.out 5).trans rfl, (blk_cell BK206.out 6).trans rfl, (blk_cell BK206.out 7).trans rfl⟩ (fun hHeld => ?_)
                     clear hK K
                     refine norm_ (a' := ?_) ?_ ?_
                     rotate_left
                     ·show Act.put _ (some 14) _ = _
                      simp only [Act.put, q1_, q2_, q3_, i64_w, i32_w]
                      rfl
                     exact norm_ (by first | (simp only [putAll, Act.put, q1_, q2_, q3_]; done) | (simp only [putAll, Act.put, q1_, q2_, q3_]; rfl)) (hJ3_7_11 (v208) _ ⟨hHeld, (br_ HO209.out), (bq_ BK206.out), (bh_ HB.out)⟩)
                  ·skip
                   rintro v208 w17 ⟨hS_, h0_, h1_, h2_⟩
                   have n0_ : Aside0 (Kd.R (Kd.int .u8) 5 w17 w.heap.size (fun _ => True) v208 y207) := ⟨h0_⟩
                   have n1_ : Aside0 (w17.heap[gb206]? = some (.cells #[.int .i64 a0_0, .string a0_1, .string a0_2, .int .u64 a0_3, .int .u64 a0_4, .string a0_5, .string a0_6, .bool a0_7] 44 (0, 0))) := ⟨h1_⟩
                   have n2_ : Aside0 (Below w.heap.size w w17) := ⟨h2_⟩
                   clear BK206
                   clear HB
                   clear h0_ h1_ h2_
                   have HO209 := n0_
                   have BK206 := n1_
                   have HB := n2_
                   clear n0_ n1_ n2_
                   have hHeld : w17.cell? ⟨gb206, 0, none⟩ = some (.int .i64 a0_0) ∧ w17.cell? ⟨gb206, 1, none⟩ = some (.string a0_1) ∧ w17.cell? ⟨gb206, 2, none⟩ = some (.string a0_2) ∧ w17.cell? ⟨gb206, 3, none⟩ = some (.int .u64 a0_3) ∧ w17.cell? ⟨gb206, 4, none⟩ = some (.int .u64 a0_4) ∧ w17.cell? ⟨gb206, 5, none⟩ = some (.string a0_5) ∧ w17.cell? ⟨gb206, 6, none⟩ = some (.string a0_6) ∧ w17.cell? ⟨gb206, 7, none⟩ = some (.bool a0_7) := hS_
                   refine norm_ (a' := ?_) ?_ ?_
                   rotate_left
                   ·simp only [putAll, Act.put, q1_, q2_, q3_]
                    rfl
                   refine one_ (i := 7) (N := some 10) #[Y_, Y_, Y_, Y_, Y_, Y_, Y_, Y_, N_, Y_, Y_, N_, N_, Y_, Y_, N_, N_, Y_, Y_, N_, N_, Y_, Y_, N_, N_, N_] rfl rfl (one_of HT_.out (by kernel_rfl)) (by decide) (fun K hK => ?_)
                   refine goes_ Try.func42 (by kernel_rfl) rfl #[.string a0_1] (by rfl) rfl rfl (by (try simp only [List.map_toArray, List.map_cons, List.map_nil]); first | done | rfl | (simp only [List.length_drop, List.length_take]; rfl)) ?_
                   with_reducible refine (parchmentref02_Text.calls k a0_1 t210 _ A2.out).mono ?_
                   rintro e w18 ⟨rfl, hb⟩
                   refine ⟨_, rfl, ?_⟩
                   replace HO209 := Aside0.mk (Kd.R_below (br_ HO209.out) hb)
                   replace BK206 := Aside0.mk (bk_ BK206.out hb)
                   replace HB := Aside0.mk (below_step (bh_ HB.out) hb)
                   (try clear hb)
                   (try clear hb2)
                   (try clear hk)
                   (try clear hi)
                   refine hK.out _ _ ⟨(blk_cell BK206.out 0).trans rfl, (blk_cell BK206.out 1).trans rfl, (blk_cell BK206.out 2).trans rfl, (blk_cell BK206.out 3).trans rfl, (blk_cell BK206.out 4).trans rfl, (blk_cell BK206.out 5).trans rfl, (blk_cell BK206.out 6).trans rfl, (blk_cell BK206.out 7).trans rfl⟩ (fun hHeld => ?_)
                   clear hK K
                   refine norm_ (a' := ?_) ?_ ?_
                   rotate_left
                   ·show Act.put _ (some 10) _ = _
                    simp only [Act.put, q1_, q2_, q3_, i64_w, i32_w]
                    rfl
                   refine pure_ (i := 8) (N := some 11) (v := ?_) (a' := ?_) #[Y_, Y_, Y_, Y_, Y_, Y_, Y_, Y_, Y_, Y_, Y_, N_, N_, Y_, Y_, N_, N_, Y_, Y_, N_, N_, Y_, Y_, N_, N_, N_] rfl rfl (any_of HT_.out (by kernel_rfl)) (fun _ _ _ h => h) (Or.inl ⟨by rfl, ?_⟩) ?_ ?_
                   rotate_left; (intro w'; go_simp; with_reducible rfl); rotate_left; (simp only [Act.put, q1_, q2_, q3_, i64_w, i32_w]; rfl)
                   exact norm_ (by first | (simp only [putAll, Act.put, q1_, q2_, q3_]; done) | (simp only [putAll, Act.put, q1_, q2_, q3_]; rfl)) (hJ3_4_7 (v208) _ ⟨hHeld, (br_ HO209.out), (bq_ BK206.out), (bh_ HB.out)⟩)
                 ·skip
                  rintro _ w17 ⟨hS_, h0_, h1_⟩
                  have n0_ : Aside0 (w17.heap[gb206]? = some (.cells #[.int .i64 a0_0, .string a0_1, .string a0_2, .int .u64 a0_3, .int .u64 a0_4, .string a0_5, .string a0_6, .bool a0_7] 44 (0, 0))) := ⟨h0_⟩
                  have n1_ : Aside0 (Below w.heap.size w w17) := ⟨h1_⟩
                  clear BK206
                  clear HB
                  clear h0_ h1_
                  have BK206 := n0_
                  have HB := n1_
                  clear n0_ n1_
                  have hHeld : w17.cell? ⟨gb206, 0, none⟩ = some (.int .i64 a0_0) ∧ w17.cell? ⟨gb206, 1, none⟩ = some (.string a0_1) ∧ w17.cell? ⟨gb206, 2, none⟩ = some (.string a0_2) ∧ w17.cell? ⟨gb206, 3, none⟩ = some (.int .u64 a0_3) ∧ w17.cell? ⟨gb206, 4, none⟩ = some (.int .u64 a0_4) ∧ w17.cell? ⟨gb206, 5, none⟩ = some (.string a0_5) ∧ w17.cell? ⟨gb206, 6, none⟩ = some (.string a0_6) ∧ w17.cell? ⟨gb206, 7, none⟩ = some (.bool a0_7) := hS_
                  refine norm_ (a' := ?_) ?_ ?_
                  rotate_left
                  ·simp only [putAll, Act.put, q1_, q2_, q3_]
                   rfl
                  refine two_ (i := 3) (j := 19) (Ni := some 6) (Nj := some 22) #[Y_, Y_, Y_, Y_, N_, Y_, Y_, Y_, N_, Y_, Y_, Y_, N_, Y_, Y_, Y_, N_, Y_, Y_, N_, N_, Y_, Y_, N_, N_, N_] #[Y_, Y_, Y_, N_, N_, Y_, Y_, Y_, N_, Y_, Y_, Y_, N_, Y_, Y_, Y_, N_, Y_, Y_, Y_, N_, Y_, Y_, N_, N_, N_] rfl rfl rfl rfl (two_of HT_.out (by kernel_rfl)) (by decide) (by decide) (fun K hK => ?_) (fun K hK => ?_)
                  ·skip
                   refine Kd.R_lit_step (Kd.int .u8) _ 5 ?hg (N := 6) ?hd (xs := ([(a0_0) % 256] : List Int)) (inner := [.int .u8 ((a0_0) % 256)]) (ok := fun _ => True) (okp := fun _ => True) ?hr ?hp (fun _ hk => hk) trivial (Below.refl _ _) (Nat.le_refl _) (by simp) ?_; (case hd => rfl); (case hg => rfl); (case hr => first | (go_simp; done) | (go_simp; rfl)); (case hp => exact (Reps.one (show Kd.M (Kd.int .u8) _ _ _ ((a0_0) % 256) [.int .u8 ((a0_0) % 256)] from rfl) (Reps.none _ _)))
                   intro v208 w18 ho19 hb hg_ hnew_
                   clear hg_ hnew_
                   (first | rw [← Ny207.out] at ho19 | (simp only [Int.reduceToNat] at ho19; rw [← Ny207.out] at ho19))
                   have HO209 := Aside0.mk (Kd.R_lower ho19 (below_size (bh_ HB.out)))
                   replace BK206 := Aside0.mk (bk_ BK206.out hb)
                   replace HB := Aside0.mk (below_step (bh_ HB.out) hb)
                   clear hb ho19
                   refine hK.out _ _ ⟨(blk_cell BK206.out 0).trans rfl, (blk_cell BK206.out 1).trans rfl, (blk_cell BK206.out 2).trans rfl, (blk_cell BK206.out 3).trans rfl, (blk_cell BK206.out 4).trans rfl, (blk_cell BK206.out 5).trans rfl, (blk_cell BK206.out 6).trans rfl, (blk_cell BK206.out 7).trans rfl⟩ (fun hHeld => ?_)
                   clear hK K
                   refine norm_ (a' := ?_) ?_ ?_
                   rotate_left
                   ·show Act.put _ (some 6) _ = _
                    simp only [Act.put, q1_, q2_, q3_, i64_w, i32_w]
                    rfl
                   exact norm_ (by first | (simp only [putAll, Act.put, q1_, q2_, q3_]; done) | (simp only [putAll, Act.put, q1_, q2_, q3_]; rfl)) (hJ3_7_11_15 (v208) _ ⟨hHeld, (br_ HO209.out), (bq_ BK206.out), (bh_ HB.out)⟩)
                  ·skip
                   refine goes_ Try.func41 (by kernel_rfl) rfl #[.int .u64 a0_4] (by rfl) rfl rfl (by (try simp only [List.map_toArray, List.map_cons, List.map_nil]); first | done | rfl | (simp only [List.length_drop, List.length_take]; rfl)) ?_
                   with_reducible refine (parchmentref02_Uint.calls k a0_4 t213 _ A8.out).mono ?_
                   rintro e w18 ⟨rfl, hb⟩
                   refine ⟨_, rfl, ?_⟩
                   replace BK206 := Aside0.mk (bk_ BK206.out hb)
                   replace HB := Aside0.mk (below_step (bh_ HB.out) hb)
                   (try clear hb)
                   (try clear hb2)
                   (try clear hk)
                   (try clear hi)
                   refine hK.out _ _ ⟨(blk_cell BK206.out 0).trans rfl, (blk_cell BK206.out 1).trans rfl, (blk_cell BK206.out 2).trans rfl, (blk_cell BK206.out 3).trans rfl, (blk_cell BK206.out 4).trans rfl, (blk_cell BK206.out 5).trans rfl, (blk_cell BK206.out 6).trans rfl, (blk_cell BK206.out 7).trans rfl⟩ (fun hHeld => ?_)
                   clear hK K
                   refine norm_ (a' := ?_) ?_ ?_
                   rotate_left
                   ·show Act.put _ (some 22) _ = _
                    simp only [Act.put, q1_, q2_, q3_, i64_w, i32_w]
                    rfl
                   exact norm_ (by first | (simp only [putAll, Act.put, q1_, q2_, q3_]; done) | (simp only [putAll, Act.put, q1_, q2_, q3_]; rfl)) (hJ7_11_15_19 () _ ⟨hHeld, (bq_ BK206.out), (bh_ HB.out)⟩)
                ·skip
                 rintro v208 w18 ⟨hS_, h0_, h1_, h2_⟩
                 have n0_ : Aside0 (Kd.R (Kd.int .u8) 5 w18 w.heap.size (fun _ => True) v208 y207) := ⟨h0_⟩
                 have n1_ : Aside0 (w18.heap[gb206]? = some (.cells #[.int .i64 a0_0, .string a0_1, .string a0_2, .int .u64 a0_3, .int .u64 a0_4, .string a0_5, .string a0_6, .bool a0_7] 44 (0, 0))) := ⟨h1_⟩
                 have n2_ : Aside0 (Below w.heap.size w w18) := ⟨h2_⟩
                 clear BK206
                 clear HB
                 clear h0_ h1_ h2_
                 have HO209 := n0_
                 have BK206 := n1_
                 have HB := n2_
                 clear n0_ n1_ n2_
                 have hHeld : w18.cell? ⟨gb206, 0, none⟩ = some (.int .i64 a0_0) ∧ w18.cell? ⟨gb206, 1, none⟩ = some (.string a0_1) ∧ w18.cell? ⟨gb206, 2, none⟩ = some (.string a0_2) ∧ w18.cell? ⟨gb206, 3, none⟩ = some (.int .u64 a0_3) ∧ w18.cell? ⟨gb206, 4, none⟩ = some (.int .u64 a0_4) ∧ w18.cell? ⟨gb206, 5, none⟩ = some (.string a0_5) ∧ w18.cell? ⟨gb206, 6, none⟩ = some (.string a0_6) ∧ w18.cell? ⟨gb206, 7, none⟩ = some (.bool a0_7) := hS_
                 refine norm_ (a' := ?_) ?_ ?_
                 rotate_left
                 ·simp only [putAll, Act.put, q1_, q2_, q3_]
                  rfl
                 refine two_ (i := 4) (j := 15) (Ni := some 7) (Nj := some 18) #[Y_, Y_, Y_, Y_, Y_, Y_, Y_, Y_, N_, Y_, Y_, Y_, N_, Y_, Y_, N_, N_, Y_, Y_, N_, N_, Y_, Y_, N_, N_, N_] #[Y_, Y_, Y_, Y_, N_, Y_, Y_, Y_, N_, Y_, Y_, Y_, N_, Y_, Y_, Y_, N_, Y_, Y_, N_, N_, Y_, Y_, N_, N_, N_] rfl rfl rfl rfl (two_of HT_.out (by kernel_rfl)) (by decide) (by decide) (fun K hK => ?_) (fun K hK => ?_)
                 ·skip
                  have hcv19 := own_string (P := Try.prog) Try.underlying99 Try.underlying5 Try.underlying9 (Kd.own_of_R HO209.out)
                  refine value_ (w1 := ?_) (v := ?_) (by rfl) rfl ?_ ?_
                  rotate_left 2
                  ·go_simp
                   constructor
                   ·rfl
                   ·rfl
                  clear hcv19
                  refine hK.out _ _ ⟨(blk_cell BK206.out 0).trans rfl, (blk_cell BK206.out 1).trans rfl, (blk_cell BK206.out 2).trans rfl, (blk_cell BK206.out 3).trans rfl, (blk_cell BK206.out 4).trans rfl, (blk_cell BK206.out 5).trans rfl, (blk_cell BK206.out 6).trans rfl, (blk_cell BK206.out 7).trans rfl⟩ (fun hHeld => ?_)
                  clear hK K
                  refine norm_ (a' := ?_) ?_ ?_
                  rotate_left
                  ·show Act.put _ (some 7) _ = _
                   simp only [Act.put, q1_, q2_, q3_, i64_w, i32_w]
                   rfl
                  refine pure_ (i := 8) (N := some 11) (v := ?_) (a' := ?_) #[Y_, Y_, Y_, Y_, Y_, Y_, Y_, Y_, Y_, Y_, Y_, Y_, N_, Y_, Y_, N_, N_, Y_, Y_, N_, N_, Y_, Y_, N_, N_, N_] rfl rfl (any_of HT_.out (by kernel_rfl)) (fun _ _ _ h => h) (Or.inl ⟨by rfl, ?_⟩) ?_ ?_
                  rotate_left; (intro w'; go_simp; with_reducible rfl); rotate_left; (simp only [Act.put, q1_, q2_, q3_, i64_w, i32_w]; rfl)
                  refine pure_ (i := 12) (N := some 15) (v := ?_) (a' := ?_) #[Y_, Y_, Y_, Y_, Y_, Y_, Y_, Y_, Y_, Y_, Y_, Y_, Y_, Y_, Y_, N_, N_, Y_, Y_, N_, N_, Y_, Y_, N_, N_, N_] rfl rfl (any_of HT_.out (by kernel_rfl)) (fun _ _ _ h => h) (Or.inl ⟨by rfl, ?_⟩) ?_ ?_
                  rotate_left; (intro w'; go_simp; with_reducible rfl); rotate_left; (simp only [Act.put, q1_, q2_, q3_, i64_w, i32_w]; rfl)
                  exact norm_ (by first | (simp only [putAll, Act.put, q1_, q2_, q3_]; done) | (simp only [putAll, Act.put, q1_, q2_, q3_]; rfl)) (hJ3_4_7_11 (v208) _ ⟨hHeld, (br_ HO209.out), (bq_ BK206.out), (bh_ HB.out)⟩)
                 ·skip
                  refine goes_ Try.func41 (by kernel_rfl) rfl #[.int .u64 a0_3] (by rfl) rfl rfl (by (try simp only [List.map_toArray, List.map_cons, List.map_nil]); first | done | rfl | (simp only [List.length_drop, List.length_take]; rfl)) ?_
                  with_reducible refine (parchmentref02_Uint.calls k a0_3 t212 _ A6.out).mono ?_
                  rintro e w19 ⟨rfl, hb⟩
                  refine ⟨_, rfl, ?_⟩
                  replace HO209 := Aside0.mk (Kd.R_below (br_ HO209.out) hb)
                  replace BK206 := Aside0.mk (bk_ BK206.out hb)
                  replace HB := Aside0.mk (below_step (bh_ HB.out) hb)
                  (try clear hb)
                  (try clear hb2)
                  (try clear hk)
                  (try clear hi)
                  refine hK.out _ _ ⟨(blk_cell BK206.out 0).trans rfl, (blk_cell BK206.out 1).trans rfl, (blk_cell BK206.out 2).trans rfl, (blk_cell BK206.out 3).trans rfl, (blk_cell BK206.out 4).trans rfl, (blk_cell BK206.out 5).trans rfl, (blk_cell BK206.out 6).trans rfl, (blk_cell BK206.out 7).trans rfl⟩ (fun hHeld => ?_)
                  clear hK K
                  refine norm_ (a' := ?_) ?_ ?_
                  rotate_left
                  ·show Act.put _ (some 18) _ = _
                   simp only [Act.put, q1_, q2_, q3_, i64_w, i32_w]
                   rfl
                  exact norm_ (by first | (simp only [putAll, Act.put, q1_, q2_, q3_]; done) | (simp only [putAll, Act.put, q1_, q2_, q3_]; rfl)) (hJ3_7_11_15 (v208) _ ⟨hHeld, (br_ HO209.out), (bq_ BK206.out), (bh_ HB.out)⟩)
               ·skip
                rintro v208 w18 ⟨hS_, h0_, h1_, h2_⟩
                have n0_ : Aside0 (Kd.R (Kd.int .u8) 5 w18 w.heap.size (fun _ => True) v208 y207) := ⟨h0_⟩
                have n1_ : Aside0 (w18.heap[gb206]? = some (.cells #[.int .i64 a0_0, .string a0_1, .string a0_2, .int .u64 a0_3, .int .u64 a0_4, .string a0_5, .string a0_6, .bool a0_7] 44 (0, 0))) := ⟨h1_⟩
                have n2_ : Aside0 (Below w.heap.size w w18) := ⟨h2_⟩
                clear BK206
                clear HB
                clear h0_ h1_ h2_
                have HO209 := n0_
                have BK206 := n1_
                have HB := n2_
                clear n0_ n1_ n2_
                have hHeld : w18.cell? ⟨gb206, 0, none⟩ = some (.int .i64 a0_0) ∧ w18.cell? ⟨gb206, 1, none⟩ = some (.string a0_1) ∧ w18.cell? ⟨gb206, 2, none⟩ = some (.string a0_2) ∧ w18.cell? ⟨gb206, 3, none⟩ = some (.int .u64 a0_3) ∧ w18.cell? ⟨gb206, 4, none⟩ = some (.int .u64 a0_4) ∧ w18.cell? ⟨gb206, 5, none⟩ = some (.string a0_5) ∧ w18.cell? ⟨gb206, 6, none⟩ = some (.string a0_6) ∧ w18.cell? ⟨gb206, 7, none⟩ = some (.bool a0_7) := hS_
                refine norm_ (a' := ?_) ?_ ?_
                rotate_left
                ·simp only [putAll, Act.put, q1_, q2_, q3_]
                 rfl
                refine one_ (i := 11) (N := some 14) #[Y_, Y_, Y_, Y_, Y_, Y_, Y_, Y_, Y_, Y_, Y_, Y_, N_, Y_, Y_, N_, N_, Y_, Y_, N_, N_, Y_, Y_, N_, N_, N_] rfl rfl (one_of HT_.out (by kernel_rfl)) (by decide) (fun K hK => ?_)
                refine goes_ Try.func42 (by kernel_rfl) rfl #[.string a0_2] (by rfl) rfl rfl (by (try simp only [List.map_toArray, List.map_cons, List.map_nil]); first | done | rfl | (simp only [List.length_drop, List.length_take]; rfl)) ?_
                with_reducible refine (parchmentref02_Text.calls k a0_2 t211 _ A4.out).mono ?_
                rintro e w19 ⟨rfl, hb⟩
                refine ⟨_, rfl, ?_⟩
                replace HO209 := Aside0.mk (Kd.R_below (br_ HO209.out) hb)
                replace BK206 := Aside0.mk (bk_ BK206.out hb)
                replace HB := Aside0.mk (below_step (bh_ HB.out) hb)
                (try clear hb)
                (try clear hb2)
                (try clear hk)
                (try clear hi)
                refine hK.out _ _ ⟨(blk_cell BK206.out 0).trans rfl, (blk_cell BK206.out 1).trans rfl, (blk_cell BK206.out 2).trans rfl, (blk_cell BK206.out 3).trans rfl, (blk_cell BK206.out 4).trans rfl, (blk_cell BK206.out 5).trans rfl, (blk_cell BK206.out 6).trans rfl, (blk_cell BK206.out 7).trans rfl⟩ (fun hHeld => ?_)
                clear hK K
                refine norm_ (a' := ?_) ?_ ?_
                rotate_left
                ·show Act.put _ (some 14) _ = _
                 simp only [Act.put, q1_, q2_, q3_, i64_w, i32_w]
                 rfl
                refine pure_ (i := 12) (N := some 15) (v := ?_) (a' := ?_) #[Y_, Y_, Y_, Y_, Y_, Y_, Y_, Y_, Y_, Y_, Y_, Y_, Y_, Y_, Y_, N_, N_, Y_, Y_, N_, N_, Y_, Y_, N_, N_, N_] rfl rfl (any_of HT_.out (by kernel_rfl)) (fun _ _ _ h => h) (Or.inl ⟨by rfl, ?_⟩) ?_ ?_
                rotate_left; (intro w'; go_simp; with_reducible rfl); rotate_left; (simp only [Act.put, q1_, q2_, q3_, i64_w, i32_w]; rfl)
                exact norm_ (by first | (simp only [putAll, Act.put, q1_, q2_, q3_]; done) | (simp only [putAll, Act.put, q1_, q2_, q3_]; rfl)) (hJ3_4_7_11 (v208) _ ⟨hHeld, (br_ HO209.out), (bq_ BK206.out), (bh_ HB.out)⟩)
              ·skip
               rintro _ w18 ⟨hS_, h0_, h1_⟩
               have n0_ : Aside0 (w18.heap[gb206]? = some (.cells #[.int .i64 a0_0, .string a0_1, .string a0_2, .int .u64 a0_3, .int .u64 a0_4, .string a0_5, .string a0_6, .bool a0_7] 44 (0, 0))) := ⟨h0_⟩
               have n1_ : Aside0 (Below w.heap.size w w18) := ⟨h1_⟩
               clear BK206
               clear HB
               clear h0_ h1_
               have BK206 := n0_
               have HB := n1_
               clear n0_ n1_
               have hHeld : w18.cell? ⟨gb206, 0, none⟩ = some (.int .i64 a0_0) ∧ w18.cell? ⟨gb206, 1, none⟩ = some (.string a0_1) ∧ w18.cell? ⟨gb206, 2, none⟩ = some (.string a0_2) ∧ w18.cell? ⟨gb206, 3, none⟩ = some (.int .u64 a0_3) ∧ w18.cell? ⟨gb206, 4, none⟩ = some (.int .u64 a0_4) ∧ w18.cell? ⟨gb206, 5, none⟩ = some (.string a0_5) ∧ w18.cell? ⟨gb206, 6, none⟩ = some (.string a0_6) ∧ w18.cell? ⟨gb206, 7, none⟩ = some (.bool a0_7) := hS_
               refine norm_ (a' := ?_) ?_ ?_
               rotate_left
               ·simp only [putAll, Act.put, q1_, q2_, q3_]
                rfl
               refine two_ (i := 3) (j := 23) (Ni := some 6) (Nj := some 26) #[Y_, Y_, Y_, Y_, N_, Y_, Y_, Y_, N_, Y_, Y_, Y_, N_, Y_, Y_, Y_, N_, Y_, Y_, Y_, N_, Y_, Y_, N_, N_, N_] #[Y_, Y_, Y_, N_, N_, Y_, Y_, Y_, N_, Y_, Y_, Y_, N_, Y_, Y_, Y_, N_, Y_, Y_, Y_, N_, Y_, Y_, Y_, N_, N_] rfl rfl rfl rfl (two_of HT_.out (by kernel_rfl)) (by decide) (by decide) (fun K hK => ?_) (fun K hK => ?_)
               ·skip
                refine Kd.R_lit_step (Kd.int .u8) _ 5 ?hg (N := 6) ?hd (xs := ([(a0_0) % 256] : List Int)) (inner := [.int .u8 ((a0_0) % 256)]) (ok := fun _ => True) (okp := fun _ => True) ?hr ?hp (fun _ hk => hk) trivial (Below.refl _ _) (Nat.le_refl _) (by simp) ?_; (case hd => rfl); (case hg => rfl); (case hr => first | (go_simp; done) | (go_simp; rfl)); (case hp => exact (Reps.one (show Kd.M (Kd.int .u8) _ _ _ ((a0_0) % 256) [.int .u8 ((a0_0) % 256)] from rfl) (Reps.none _ _)))
                intro v208 w19 ho20 hb hg_ hnew_
                clear hg_ hnew_
                (first | rw [← Ny207.out] at ho20 | (simp only [Int.reduceToNat] at ho20; rw [← Ny207.out] at ho20))
                have HO209 := Aside0.mk (Kd.R_lower ho20 (below_size (bh_ HB.out)))
                replace BK206 := Aside0.mk (bk_ BK206.out hb)
                replace HB := Aside0.mk (below_step (bh_ HB.out) hb)
                clear hb ho20
                refine hK.out _ _ ⟨(blk_cell BK206.out 0).trans rfl, (blk_cell BK206.out 1).trans rfl, (blk_cell BK206.out 2).trans rfl, (blk_cell BK206.out 3).trans rfl, (blk_cell BK206.out 4).trans rfl, (blk_cell BK206.out 5).trans rfl, (blk_cell BK206.out 6).trans rfl, (blk_cell BK206.out 7).trans rfl⟩ (fun hHeld => ?_)
                clear hK K
                refine norm_ (a' := ?_) ?_ ?_
                rotate_left
                ·show Act.put _ (some 6) _ = _
                 simp only [Act.put, q1_, q2_, q3_, i64_w, i32_w]
                 rfl
                exact norm_ (by first | (simp only [putAll, Act.put, q1_, q2_, q3_]; done) | (simp only [putAll, Act.put, q1_, q2_, q3_]; rfl)) (hJ3_7_11_15_19 (v208) _ ⟨hHeld, (br_ HO209.out), (bq_ BK206.out), (bh_ HB.out)⟩)
               ·skip
                refine goes_ Try.func42 (by kernel_rfl) rfl #[.string a0_5] (by rfl) rfl rfl (by (try simp only [List.map_toArray, List.map_cons, List.map_nil]); first | done | rfl | (simp only [List.length_drop, List.length_take]; rfl)) ?_
                with_reducible refine (parchmentref02_Text.calls k a0_5 t214 _ A10.out).mono ?_
                rintro e w19 ⟨rfl, hb⟩
                refine ⟨_, rfl, ?_⟩
                replace BK206 := Aside0.mk (bk_ BK206.out hb)
                replace HB := Aside0.mk (below_step (bh_ HB.out) hb)
                (try clear hb)
                (try clear hb2)
                (try clear hk)
                (try clear hi)
                refine hK.out _ _ ⟨(blk_cell BK206.out 0).trans rfl, (blk_cell BK206.out 1).trans rfl, (blk_cell BK206.out 2).trans rfl, (blk_cell BK206.out 3).trans rfl, (blk_cell BK206.out 4).trans rfl, (blk_cell BK206.out 5).trans rfl, (blk_cell BK206.out 6).trans rfl, (blk_cell BK206.out 7).trans rfl⟩ (fun hHeld => ?_)
                clear hK K
                refine norm_ (a' := ?_) ?_ ?_
                rotate_left
                ·show Act.put _ (some 26) _ = _
                 simp only [Act.put, q1_, q2_, q3_, i64_w, i32_w]
                 rfl
                exact norm_ (by first | (simp only [putAll, Act.put, q1_, q2_, q3_]; done) | (simp only [putAll, Act.put, q1_, q2_, q3_]; rfl)) (hJ7_11_15_19_23 () _ ⟨hHeld, (bq_ BK206.out), (bh_ HB.out)⟩)
             ·skip
              rintro v208 w19 ⟨hS_, h0_, h1_, h2_⟩
              have n0_ : Aside0 (Kd.R (Kd.int .u8) 5 w19 w.heap.size (fun _ => True) v208 y207) := ⟨h0_⟩
              have n1_ : Aside0 (w19.heap[gb206]? = some (.cells #[.int .i64 a0_0, .string a0_1, .string a0_2, .int .u64 a0_3, .int .u64 a0_4, .string a0_5, .string a0_6, .bool a0_7] 44 (0, 0))) := ⟨h1_⟩
              have n2_ : Aside0 (Below w.heap.size w w19) := ⟨h2_⟩
              clear BK206
              clear HB
              clear h0_ h1_ h2_
              have HO209 := n0_
              have BK206 := n1_
              have HB := n2_
              clear n0_ n1_ n2_
              have hHeld : w19.cell? ⟨gb206, 0, none⟩ = some (.int .i64 a0_0) ∧ w19.cell? ⟨gb206, 1, none⟩ = some (.string a0_1) ∧ w19.cell? ⟨gb206, 2, none⟩ = some (.string a0_2) ∧ w19.cell? ⟨gb206, 3, none⟩ = some (.int .u64 a0_3) ∧ w19.cell? ⟨gb206, 4, none⟩ = some (.int .u64 a0_4) ∧ w19.cell? ⟨gb206, 5, none⟩ = some (.string a0_5) ∧ w19.cell? ⟨gb206, 6, none⟩ = some (.string a0_6) ∧ w19.cell? ⟨gb206, 7, none⟩ = some (.bool a0_7) := hS_
              refine norm_ (a' := ?_) ?_ ?_
              rotate_left
              ·simp only [putAll, Act.put, q1_, q2_, q3_]
               rfl
              refine two_ (i := 4) (j := 19) (Ni := some 7) (Nj := some 22) #[Y_, Y_, Y_, Y_, Y_, Y_, Y_, Y_, N_, Y_, Y_, Y_, N_, Y_, Y_, Y_, N_, Y_, Y_, N_, N_, Y_, Y_, N_, N_, N_] #[Y_, Y_, Y_, Y_, N_, Y_, Y_, Y_, N_, Y_, Y_, Y_, N_, Y_, Y_, Y_, N_, Y_, Y_, Y_, N_, Y_, Y_, N_, N_, N_] rfl rfl rfl rfl (two_of HT_.out (by kernel_rfl)) (by decide) (by decide) (fun K hK => ?_) (fun K hK => ?_)
              ·skip
               have hcv20 := own_string (P := Try.prog) Try.underlying99 Try.underlying5 Try.underlying9 (Kd.own_of_R HO209.out)
               refine value_ (w1 := ?_) (v := ?_) (by rfl) rfl ?_ ?_
               rotate_left 2
               ·go_simp
                constructor
                ·rfl
                ·rfl
               clear hcv20
               refine hK.out _ _ ⟨(blk_cell BK206.out 0).trans rfl, (blk_cell BK206.out 1).trans rfl, (blk_cell BK206.out 2).trans rfl, (blk_cell BK206.out 3).trans rfl, (blk_cell BK206.out 4).trans rfl, (blk_cell BK206.out 5).trans rfl, (blk_cell BK206.out 6).trans rfl, (blk_cell BK206.out 7).trans rfl⟩ (fun hHeld => ?_)
               clear hK K
               refine norm_ (a' := ?_) ?_ ?_
               rotate_left
               ·show Act.put _ (some 7) _ = _
                simp only [Act.put, q1_, q2_, q3_, i64_w, i32_w]
                rfl
               refine pure_ (i := 8) (N := some 11) (v := ?_) (a' := ?_) #[Y_, Y_, Y_, Y_, Y_, Y_, Y_, Y_, Y_, Y_, Y_, Y_, N_, Y_, Y_, Y_, N_, Y_, Y_, N_, N_, Y_, Y_, N_, N_, N_] rfl rfl (any_of HT_.out (by kernel_rfl)) (fun _ _ _ h => h) (Or.inl ⟨by rfl, ?_⟩) ?_ ?_
               rotate_left; (intro w'; go_simp; with_reducible rfl); rotate_left; (simp only [Act.put, q1_, q2_, q3_, i64_w, i32_w]; rfl)
               refine pure_ (i := 12) (N := some 15) (v := ?_) (a' := ?_) #[Y_, Y_, Y_, Y_, Y_, Y_, Y_, Y_, Y_, Y_, Y_, Y_, Y_, Y_, Y_, Y_, N_, Y_, Y_, N_, N_, Y_, Y_, N_, N_, N_] rfl rfl (any_of HT_.out (by kernel_rfl)) (fun _ _ _ h => h) (Or.inl ⟨by rfl, ?_⟩) ?_ ?_
               rotate_left; (intro w'; go_simp; with_reducible rfl); rotate_left; (simp only [Act.put, q1_, q2_, q3_, i64_w, i32_w]; rfl)
               refine pure_ (i := 16) (N := some 19) (v := ?_) (a' := ?_) #[Y_, Y_, Y_, Y_, Y_, Y_, Y_, Y_, Y_, Y_, Y_, Y_, Y_, Y_, Y_, Y_, Y_, Y_, Y_, N_, N_, Y_, Y_, N_, N_, N_] rfl rfl (any_of HT_.out (by kernel_rfl)) (fun _ _ _ h => h) (Or.inl ⟨by rfl, ?_⟩) ?_ ?_
               rotate_left; (intro w'; go_simp; with_reducible rfl); rotate_left; (simp only [Act.put, q1_, q2_, q3_, i64_w, i32_w]; rfl)
               exact norm_ (by first | (simp only [putAll, Act.put, q1_, q2_, q3_]; done) | (simp only [putAll, Act.put, q1_, q2_, q3_]; rfl)) (hJ3_4_7_11_15 (v208) _ ⟨hHeld, (br_ HO209.out), (bq_ BK206.out), (bh_ HB.out)⟩)
              ·skip
               refine goes_ Try.func41 (by kernel_rfl) rfl #[.int .u64 a0_4] (by rfl) rfl rfl (by (try simp only [List.map_toArray, List.map_cons, List.map_nil]); first | done | rfl | (simp only [List.length_drop, List.length_take]; rfl)) ?_
               with_reducible refine (parchmentref02_Uint.calls k a0_4 t213 _ A8.out).mono ?_
               rintro e w20 ⟨rfl, hb⟩
               refine ⟨_, rfl, ?_⟩
               replace HO209 := Aside0.mk (Kd.R_below (br_ HO209.out) hb)
               replace BK206 := Aside0.mk (bk_ BK206.out hb)
               replace HB := Aside0.mk (below_step (bh_ HB.out) hb)
               (try clear hb)
               (try clear hb2)
               (try clear hk)
               (try clear hi)
               refine hK.out _ _ ⟨(blk_cell BK206.out 0).trans rfl, (blk_cell BK206.out 1).trans rfl, (blk_cell BK206.out 2).trans rfl, (blk_cell BK206.out 3).trans rfl, (blk_cell BK206.out 4).trans rfl, (blk_cell BK206.out 5).trans rfl, (blk_cell BK206.out 6).trans rfl, (blk_cell BK206.out 7).trans rfl⟩ (fun hHeld => ?_)
               clear hK K
               refine norm_ (a' := ?_) ?_ ?_
               rotate_left
               ·show Act.put _ (some 22) _ = _
                simp only [Act.put, q1_, q2_, q3_, i64_w, i32_w]
                rfl
               exact norm_ (by first | (simp only [putAll, Act.put, q1_, q2_, q3_]; done) | (simp only [putAll, Act.put, q1_, q2_, q3_]; rfl)) (hJ3_7_11_15_19 (v208) _ ⟨hHeld, (br_ HO209.out), (bq_ BK206.out), (bh_ HB.out)⟩)
            ·skip
             rintro v208 w19 ⟨hS_, h0_, h1_, h2_⟩
             have n0_ : Aside0 (Kd.R (Kd.int .u8) 5 w19 w.heap.size (fun _ => True) v208 y207) := ⟨h0_⟩
             have n1_ : Aside0 (w19.heap[gb206]? = some (.cells #[.int .i64 a0_0, .string a0_1, .string a0_2, .int .u64 a0_3, .int .u64 a0_4, .string a0_5, .string a0_6, .bool a0_7] 44 (0, 0))) := ⟨h1_⟩
             have n2_ : Aside0 (Below w.heap.size w w19) := ⟨h2_⟩
             clear BK206
             clear HB
             clear h0_ h1_ h2_
             have HO209 := n0_
             have BK206 := n1_
             have HB := n2_
             clear n0_ n1_ n2_
             have hHeld : w19.cell? ⟨gb206, 0, none⟩ = some (.int .i64 a0_0) ∧ w19.cell? ⟨gb206, 1, none⟩ = some (.string a0_1) ∧ w19.cell? ⟨gb206, 2, none⟩ = some (.string a0_2) ∧ w19.cell? ⟨gb206, 3, none⟩ = some (.int .u64 a0_3) ∧ w19.cell? ⟨gb206, 4, none⟩ = some (.int .u64 a0_4) ∧ w19.cell? ⟨gb206, 5, none⟩ = some (.string a0_5) ∧ w19.cell? ⟨gb206, 6, none⟩ = some (.string a0_6) ∧ w19.cell? ⟨gb206, 7, none⟩ = some (.bool a0_7) := hS_
             refine norm_ (a' := ?_) ?_ ?_
             rotate_left
             ·simp only [putAll, Act.put, q1_, q2_, q3_]
              rfl
             refine one_ (i := 15) (N := some 18) #[Y_, Y_, Y_, Y_, Y_, Y_, Y_, Y_, Y_, Y_, Y_, Y_, Y_, Y_, Y_, Y_, N_, Y_, Y_, N_, N_, Y_, Y_, N_, N_, N_] rfl rfl (one_of HT_.out (by kernel_rfl)) (by decide) (fun K hK => ?_)
             refine goes_ Try.func41 (by kernel_rfl) rfl #[.int .u64 a0_3] (by rfl) rfl rfl (by (try simp only [List.map_toArray, List.map_cons, List.map_nil]); first | done | rfl | (simp only [List.length_drop, List.length_take]; rfl)) ?_
             with_reducible refine (parchmentref02_Uint.calls k a0_3 t212 _ A6.out).mono ?_
             rintro e w20 ⟨rfl, hb⟩
             refine ⟨_, rfl, ?_⟩
             replace HO209 := Aside0.mk (Kd.R_below (br_ HO209.out) hb)
             replace BK206 := Aside0.mk (bk_ BK206.out hb)
             replace HB := Aside0.mk (below_step (bh_ HB.out) hb)
             (try clear hb)
             (try clear hb2)
             (try clear hk)
             (try clear hi)
             refine hK.out _ _ ⟨(blk_cell BK206.out 0).trans rfl, (blk_cell BK206.out 1).trans rfl, (blk_cell BK206.out 2).trans rfl, (blk_cell BK206.out 3).trans rfl, (blk_cell BK206.out 4).trans rfl, (blk_cell BK206.out 5).trans rfl, (blk_cell BK206.out 6).trans rfl, (blk_cell BK206.out 7).trans rfl⟩ (fun hHeld => ?_)
             clear hK K
             refine norm_ (a' := ?_) ?_ ?_
             rotate_left
             ·show Act.put _ (some 18) _ = _
              simp only [Act.put, q1_, q2_, q3_, i64_w, i32_w]
              rfl
             refine pure_ (i := 16) (N := some 19) (v := ?_) (a' := ?_) #[Y_, Y_, Y_, Y_, Y_, Y_, Y_, Y_, Y_, Y_, Y_, Y_, Y_, Y_, Y_, Y_, Y_, Y_, Y_, N_, N_, Y_, Y_, N_, N_, N_] rfl rfl (any_of HT_.out (by kernel_rfl)) (fun _ _ _ h => h) (Or.inl ⟨by rfl, ?_⟩) ?_ ?_
             rotate_left; (intro w'; go_simp; with_reducible rfl); rotate_left; (simp only [Act.put, q1_, q2_, q3_, i64_w, i32_w]; rfl)
             exact norm_ (by first | (simp only [putAll, Act.put, q1_, q2_, q3_]; done) | (simp only [putAll, Act.put, q1_, q2_, q3_]; rfl)) (hJ3_4_7_11_15 (v208) _ ⟨hHeld, (br_ HO209.out), (bq_ BK206.out), (bh_ HB.out)⟩)
           ·skip
            rintro _ w19 ⟨hS_, h0_, h1_⟩
            have n0_ : Aside0 (w19.heap[gb206]? = some (.cells #[.int .i64 a0_0, .string a0_1, .string a0_2, .int .u64 a0_3, .int .u64 a0_4, .string a0_5, .string a0_6, .bool a0_7] 44 (0, 0))) := ⟨h0_⟩
            have n1_ : Aside0 (Below w.heap.size w w19) := ⟨h1_⟩
            clear BK206
            clear HB
            clear h0_ h1_
            have BK206 := n0_
            have HB := n1_
            clear n0_ n1_
            have hHeld : w19.cell? ⟨gb206, 0, none⟩ = some (.int .i64 a0_0) ∧ w19.cell? ⟨gb206, 1, none⟩ = some (.string a0_1) ∧ w19.cell? ⟨gb206, 2, none⟩ = some (.string a0_2) ∧ w19.cell? ⟨gb206, 3, none⟩ = some (.int .u64 a0_3) ∧ w19.cell? ⟨gb206, 4, none⟩ = some (.int .u64 a0_4) ∧ w19.cell? ⟨gb206, 5, none⟩ = some (.string a0_5) ∧ w19.cell? ⟨gb206, 6, none⟩ = some (.string a0_6) ∧ w19.cell? ⟨gb206, 7, none⟩ = some (.bool a0_7) := hS_
            refine norm_ (a' := ?_) ?_ ?_
            rotate_left
            ·simp only [putAll, Act.put, q1_, q2_, q3_]
             rfl
            refine one_ (i := 3) (N := some 6) #[Y_, Y_, Y_, Y_, N_, Y_, Y_, Y_, N_, Y_, Y_, Y_, N_, Y_, Y_, Y_, N_, Y_, Y_, Y_, N_, Y_, Y_, Y_, N_, N_] rfl rfl (one_of HT_.out (by kernel_rfl)) (by decide) (fun K hK => ?_)
            refine Kd.R_lit_step (Kd.int .u8) _ 5 ?hg (N := 6) ?hd (xs := ([(a0_0) % 256] : List Int)) (inner := [.int .u8 ((a0_0) % 256)]) (ok := fun _ => True) (okp := fun _ => True) ?hr ?hp (fun _ hk => hk) trivial (Below.refl _ _) (Nat.le_refl _) (by simp) ?_; (case hd => rfl); (case hg => rfl); (case hr => first | (go_simp; done) | (go_simp; rfl)); (case hp => exact (Reps.one (show Kd.M (Kd.int .u8) _ _ _ ((a0_0) % 256) [.int .u8 ((a0_0) % 256)] from rfl) (Reps.none _ _)))
            intro v208 w20 ho21 hb hg_ hnew_
            clear hg_ hnew_
            (first | rw [← Ny207.out] at ho21 | (simp only [Int.reduceToNat] at ho21; rw [← Ny207.out] at ho21))
            have HO209 := Aside0.mk (Kd.R_lower ho21 (below_size (bh_ HB.out)))
            replace BK206 := Aside0.mk (bk_ BK206.out hb)
            replace HB := Aside0.mk (below_step (bh_ HB.out) hb)
            clear hb ho21
            refine hK.out _ _ ⟨(blk_cell BK206.out 0).trans rfl, (blk_cell BK206.out 1).trans rfl, (blk_cell BK206.out 2).trans rfl, (blk_cell BK206.out 3).trans rfl, (blk_cell BK206.out 4).trans rfl, (blk_cell BK206.out 5).trans rfl, (blk_cell BK206.out 6).trans rfl, (blk_cell BK206.out 7).trans rfl⟩ (fun hHeld => ?_)
            clear hK K
            refine norm_ (a' := ?_) ?_ ?_
            rotate_left
            ·show Act.put _ (some 6) _ = _
             simp only [Act.put, q1_, q2_, q3_, i64_w, i32_w]
             rfl
            exact norm_ (by first | (simp only [putAll, Act.put, q1_, q2_, q3_]; done) | (simp only [putAll, Act.put, q1_, q2_, q3_]; rfl)) (hJ3_7_11_15_19_23 (v208) _ ⟨hHeld, (br_ HO209.out), (bq_ BK206.out), (bh_ HB.out)⟩)
          ·skip
           rintro v208 w20 ⟨hS_, h0_, h1_, h2_⟩
           have n0_ : Aside0 (Kd.R (Kd.int .u8) 5 w20 w.heap.size (fun _ => True) v208 y207) := ⟨h0_⟩
           have n1_ : Aside0 (w20.heap[gb206]? = some (.cells #[.int .i64 a0_0, .string a0_1, .string a0_2, .int .u64 a0_3, .int .u64 a0_4, .string a0_5, .string a0_6, .bool a0_7] 44 (0, 0))) := ⟨h1_⟩
           have n2_ : Aside0 (Below w.heap.size w w20) := ⟨h2_⟩
           clear BK206
           clear HB
           clear h0_ h1_ h2_
           have HO209 := n0_
           have BK206 := n1_
           have HB := n2_
           clear n0_ n1_ n2_
           have hHeld : w20.cell? ⟨gb206, 0, none⟩ = some (.int .i64 a0_0) ∧ w20.cell? ⟨gb206, 1, none⟩ = some (.string a0_1) ∧ w20.cell? ⟨gb206, 2, none⟩ = some (.string a0_2) ∧ w20.cell? ⟨gb206, 3, none⟩ = some (.int .u64 a0_3) ∧ w20.cell? ⟨gb206, 4, none⟩ = some (.int .u64 a0_4) ∧ w20.cell? ⟨gb206, 5, none⟩ = some (.string a0_5) ∧ w20.cell? ⟨gb206, 6, none⟩ = some (.string a0_6) ∧ w20.cell? ⟨gb206, 7, none⟩ = some (.bool a0_7) := hS_
           refine norm_ (a' := ?_) ?_ ?_
           rotate_left
           ·simp only [putAll, Act.put, q1_, q2_, q3_]
            rfl
           refine two_ (i := 4) (j := 23) (Ni := some 7) (Nj := some 26) #[Y_, Y_, Y_, Y_, Y_, Y_, Y_, Y_, N_, Y_, Y_, Y_, N_, Y_, Y_, Y_, N_, Y_, Y_, Y_, N_, Y_, Y_, N_, N_, N_] #[Y_, Y_, Y_, Y_, N_, Y_, Y_, Y_, N_, Y_, Y_, Y_, N_, Y_, Y_, Y_, N_, Y_, Y_, Y_, N_, Y_, Y_, Y_, N_, N_] rfl rfl rfl rfl (two_of HT_.out (by kernel_rfl)) (by decide) (by decide) (fun K hK => ?_) (fun K hK => ?_)
           ·skip
            have hcv21 := own_string (P := Try.prog) Try.underlying99 Try.underlying5 Try.underlying9 (Kd.own_of_R HO209.out)
            refine value_ (w1 := ?_) (v := ?_) (by rfl) rfl ?_ ?_
            rotate_left 2
            ·go_simp
             constructor
             ·rfl
             ·rfl
            clear hcv21
            refine hK.out _ _ ⟨(blk_cell BK206.out 0).trans rfl, (blk_cell BK206.out 1).trans rfl, (blk_cell BK206.out 2).trans rfl, (blk_cell BK206.out 3).trans rfl, (blk_cell BK206.out 4).trans rfl, (blk_cell BK206.out 5).trans rfl, (blk_cell BK206.out 6).trans rfl, (blk_cell BK206.out 7).trans rfl⟩ (fun hHeld => ?_)
            clear hK K
            refine norm_ (a' := ?_) ?_ ?_
            rotate_left
            ·show Act.put _ (some 7) _ = _
             simp only [Act.put, q1_, q2_, q3_, i64_w, i32_w]
             rfl
            refine pure_ (i := 8) (N := some 11) (v := ?_) (a' := ?_) #[Y_, Y_, Y_, Y_, Y_, Y_, Y_, Y_, Y_, Y_, Y_, Y_, N_, Y_, Y_, Y_, N_, Y_, Y_, Y_, N_, Y_, Y_, N_, N_, N_] rfl rfl (any_of HT_.out (by kernel_rfl)) (fun _ _ _ h => h) (Or.inl ⟨by rfl, ?_⟩) ?_ ?_
            rotate_left; (intro w'; go_simp; with_reducible rfl); rotate_left; (simp only [Act.put, q1_, q2_, q3_, i64_w, i32_w]; rfl)
            refine pure_ (i := 12) (N := some 15) (v := ?_) (a' := ?_) #[Y_, Y_, Y_, Y_, Y_, Y_, Y_, Y_, Y_, Y_, Y_, Y_, Y_, Y_, Y_, Y_, N_, Y_, Y_, Y_, N_, Y_, Y_, N_, N_, N_] rfl rfl (any_of HT_.out (by kernel_rfl)) (fun _ _ _ h => h) (Or.inl ⟨by rfl, ?_⟩) ?_ ?_
            rotate_left; (intro w'; go_simp; with_reducible rfl); rotate_left; (simp only [Act.put, q1_, q2_, q3_, i64_w, i32_w]; rfl)
            refine pure_ (i := 16) (N := some 19) (v := ?_) (a' := ?_) #[Y_, Y_, Y_, Y_, Y_, Y_, Y_, Y_, Y_, Y_, Y_, Y_, Y_, Y_, Y_, Y_, Y_, Y_, Y_, Y_, N_, Y_, Y_, N_, N_, N_] rfl rfl (any_of HT_.out (by kernel_rfl)) (fun _ _ _ h => h) (Or.inl ⟨by rfl, ?_⟩) ?_ ?_
            rotate_left; (intro w'; go_simp; with_reducible rfl); rotate_left; (simp only [Act.put, q1_, q2_, q3_, i64_w, i32_w]; rfl)
            refine pure_ (i := 20) (N := some 23) (v := ?_) (a' := ?_) #[Y_, Y_, Y_, Y_, Y_, Y_, Y_, Y_, Y_, Y_, Y_, Y_, Y_, Y_, Y_, Y_, Y_, Y_, Y_, Y_, Y_, Y_, Y_, N_, N_, N_] rfl rfl (any_of HT_.out (by kernel_rfl)) (fun _ _ _ h => h) (Or.inl ⟨by rfl, ?_⟩) ?_ ?_
            rotate_left; (intro w'; go_simp; with_reducible rfl); rotate_left; (simp only [Act.put, q1_, q2_, q3_, i64_w, i32_w]; rfl)
            exact norm_ (by first | (simp only [putAll, Act.put, q1_, q2_, q3_]; done) | (simp only [putAll, Act.put, q1_, q2_, q3_]; rfl)) (hJ3_4_7_11_15_19 (v208) _ ⟨hHeld, (br_ HO209.out), (bq_ BK206.out), (bh_ HB.out)⟩)
           ·skip
            refine goes_ Try.func42 (by kernel_rfl) rfl #[.string a0_5] (by rfl) rfl rfl (by (try simp only [List.map_toArray, List.map_cons, List.map_nil]); first | done | rfl | (simp only [List.length_drop, List.length_take]; rfl)) ?_
            with_reducible refine (parchmentref02_Text.calls k a0_5 t214 _ A10.out).mono ?_
            rintro e w21 ⟨rfl, hb⟩
            refine ⟨_, rfl, ?_⟩
            replace HO209 := Aside0.mk (Kd.R_below (br_ HO209.out) hb)
            replace BK206 := Aside0.mk (bk_ BK206.out hb)
            replace HB := Aside0.mk (below_step (bh_ HB.out) hb)
            (try clear hb)
            (try clear hb2)
            (try clear hk)
            (try clear hi)
            refine hK.out _ _ ⟨(blk_cell BK206.out 0).trans rfl, (blk_cell BK206.out 1).trans rfl, (blk_cell BK206.out 2).trans rfl, (blk_cell BK206.out 3).trans rfl, (blk_cell BK206.out 4).trans rfl, (blk_cell BK206.out 5).trans rfl, (blk_cell BK206.out 6).trans rfl, (blk_cell BK206.out 7).trans rfl⟩ (fun hHeld => ?_)
            clear hK K
            refine norm_ (a' := ?_) ?_ ?_
            rotate_left
            ·show Act.put _ (some 26) _ = _
             simp only [Act.put, q1_, q2_, q3_, i64_w, i32_w]
             rfl
            exact norm_ (by first | (simp only [putAll, Act.put, q1_, q2_, q3_]; done) | (simp only [putAll, Act.put, q1_, q2_, q3_]; rfl)) (hJ3_7_11_15_19_23 (v208) _ ⟨hHeld, (br_ HO209.out), (bq_ BK206.out), (bh_ HB.out)⟩)
         ·skip
          rintro v208 w20 ⟨hS_, h0_, h1_, h2_⟩
          have n0_ : Aside0 (Kd.R (Kd.int .u8) 5 w20 w.heap.size (fun _ => True) v208 y207) := ⟨h0_⟩
          have n1_ : Aside0 (w20.heap[gb206]? = some (.cells #[.int .i64 a0_0, .string a0_1, .string a0_2, .int .u64 a0_3, .int .u64 a0_4, .string a0_5, .string a0_6, .bool a0_7] 44 (0, 0))) := ⟨h1_⟩
          have n2_ : Aside0 (Below w.heap.size w w20) := ⟨h2_⟩
          clear BK206
          clear HB
          clear h0_ h1_ h2_
          have HO209 := n0_
          have BK206 := n1_
          have HB := n2_
          clear n0_ n1_ n2_
          have hHeld : w20.cell? ⟨gb206, 0, none⟩ = some (.int .i64 a0_0) ∧ w20.cell? ⟨gb206, 1, none⟩ = some (.string a0_1) ∧ w20.cell? ⟨gb206, 2, none⟩ = some (.string a0_2) ∧ w20.cell? ⟨gb206, 3, none⟩ = some (.int .u64 a0_3) ∧ w20.cell? ⟨gb206, 4, none⟩ = some (.int .u64 a0_4) ∧ w20.cell? ⟨gb206, 5, none⟩ = some (.string a0_5) ∧ w20.cell? ⟨gb206, 6, none⟩ = some (.string a0_6) ∧ w20.cell? ⟨gb206, 7, none⟩ = some (.bool a0_7) := hS_
          refine norm_ (a' := ?_) ?_ ?_
          rotate_left
          ·simp only [putAll, Act.put, q1_, q2_, q3_]
           rfl
          refine one_ (i := 19) (N := some 22) #[Y_, Y_, Y_, Y_, Y_, Y_, Y_, Y_, Y_, Y_, Y_, Y_, Y_, Y_, Y_, Y_, Y_, Y_, Y_, Y_, N_, Y_, Y_, N_, N_, N_] rfl rfl (one_of HT_.out (by kernel_rfl)) (by decide) (fun K hK => ?_)
          refine goes_ Try.func41 (by kernel_rfl) rfl #[.int .u64 a0_4] (by rfl) rfl rfl (by (try simp only [List.map_toArray, List.map_cons, List.map_nil]); first | done | rfl | (simp only [List.length_drop, List.length_take]; rfl)) ?_
          with_reducible refine (parchmentref02_Uint.calls k a0_4 t213 _ A8.out).mono ?_
          rintro e w21 ⟨rfl, hb⟩
          refine ⟨_, rfl, ?_⟩
          replace HO209 := Aside0.mk (Kd.R_below (br_ HO209.out) hb)
          replace BK206 := Aside0.mk (bk_ BK206.out hb)
          replace HB := Aside0.mk (below_step (bh_ HB.out) hb)
          (try clear hb)
          (try clear hb2)
          (try clear hk)
          (try clear hi)
          refine hK.out _ _ ⟨(blk_cell BK206.out 0).trans rfl, (blk_cell BK206.out 1).trans rfl, (blk_cell BK206.out 2).trans rfl, (blk_cell BK206.out 3).trans rfl, (blk_cell BK206.out 4).trans rfl, (blk_cell BK206.out 5).trans rfl, (blk_cell BK206.out 6).trans rfl, (blk_cell BK206.out 7).trans rfl⟩ (fun hHeld => ?_)
          clear hK K
          refine norm_ (a' := ?_) ?_ ?_
          rotate_left
          ·show Act.put _ (some 22) _ = _
           simp only [Act.put, q1_, q2_, q3_, i64_w, i32_w]
           rfl
          refine pure_ (i := 20) (N := some 23) (v := ?_) (a' := ?_) #[Y_, Y_, Y_, Y_, Y_, Y_, Y_, Y_, Y_, Y_, Y_, Y_, Y_, Y_, Y_, Y_, Y_, Y_, Y_, Y_, Y_, Y_, Y_, N_, N_, N_] rfl rfl (any_of HT_.out (by kernel_rfl)) (fun _ _ _ h => h) (Or.inl ⟨by rfl, ?_⟩) ?_ ?_
          rotate_left; (intro w'; go_simp; with_reducible rfl); rotate_left; (simp only [Act.put, q1_, q2_, q3_, i64_w, i32_w]; rfl)
          exact norm_ (by first | (simp only [putAll, Act.put, q1_, q2_, q3_]; done) | (simp only [putAll, Act.put, q1_, q2_, q3_]; rfl)) (hJ3_4_7_11_15_19 (v208) _ ⟨hHeld, (br_ HO209.out), (bq_ BK206.out), (bh_ HB.out)⟩)
        ·skip
         rintro v208 w21 ⟨hS_, h0_, h1_, h2_⟩
         have n0_ : Aside0 (Kd.R (Kd.int .u8) 5 w21 w.heap.size (fun _ => True) v208 y207) := ⟨h0_⟩
         have n1_ : Aside0 (w21.heap[gb206]? = some (.cells #[.int .i64 a0_0, .string a0_1, .string a0_2, .int .u64 a0_3, .int .u64 a0_4, .string a0_5, .string a0_6, .bool a0_7] 44 (0, 0))) := ⟨h1_⟩
         have n2_ : Aside0 (Below w.heap.size w w21) := ⟨h2_⟩
         clear BK206
         clear HB
         clear h0_ h1_ h2_
         have HO209 := n0_
         have BK206 := n1_
         have HB := n2_
         clear n0_ n1_ n2_
         have hHeld : w21.cell? ⟨gb206, 0, none⟩ = some (.int .i64 a0_0) ∧ w21.cell? ⟨gb206, 1, none⟩ = some (.string a0_1) ∧ w21.cell? ⟨gb206, 2, none⟩ = some (.string a0_2) ∧ w21.cell? ⟨gb206, 3, none⟩ = some (.int .u64 a0_3) ∧ w21.cell? ⟨gb206, 4, none⟩ = some (.int .u64 a0_4) ∧ w21.cell? ⟨gb206, 5, none⟩ = some (.string a0_5) ∧ w21.cell? ⟨gb206, 6, none⟩ = some (.string a0_6) ∧ w21.cell? ⟨gb206, 7, none⟩ = some (.bool a0_7) := hS_
         refine norm_ (a' := ?_) ?_ ?_
         rotate_left
         ·simp only [putAll, Act.put, q1_, q2_, q3_]
          rfl
         refine one_ (i := 4) (N := some 7) #[Y_, Y_, Y_, Y_, Y_, Y_, Y_, Y_, N_, Y_, Y_, Y_, N_, Y_, Y_, Y_, N_, Y_, Y_, Y_, N_, Y_, Y_, Y_, N_, N_] rfl rfl (one_of HT_.out (by kernel_rfl)) (by decide) (fun K hK => ?_)
         have hcv22 := own_string (P := Try.prog) Try.underlying99 Try.underlying5 Try.underlying9 (Kd.own_of_R HO209.out)
         refine value_ (w1 := ?_) (v := ?_) (by rfl) rfl ?_ ?_
         rotate_left 2
         ·go_simp
          constructor
          ·rfl
          ·rfl
         clear hcv22
         refine hK.out _ _ ⟨(blk_cell BK206.out 0).trans rfl, (blk_cell BK206.out 1).trans rfl, (blk_cell BK206.out 2).trans rfl, (blk_cell BK206.out 3).trans rfl, (blk_cell BK206.out 4).trans rfl, (blk_cell BK206.out 5).trans rfl, (blk_cell BK206.out 6).trans rfl, (blk_cell BK206.out 7).trans rfl⟩ (fun hHeld => ?_)
         clear hK K
         refine norm_ (a' := ?_) ?_ ?_
         rotate_left
         ·show Act.put _ (some 7) _ = _
          simp only [Act.put, q1_, q2_, q3_, i64_w, i32_w]
          rfl
         refine pure_ (i := 8) (N := some 11) (v := ?_) (a' := ?_) #[Y_, Y_, Y_, Y_, Y_, Y_, Y_, Y_, Y_, Y_, Y_, Y_, N_, Y_, Y_, Y_, N_, Y_, Y_, Y_, N_, Y_, Y_, Y_, N_, N_] rfl rfl (any_of HT_.out (by kernel_rfl)) (fun _ _ _ h => h) (Or.inl ⟨by rfl, ?_⟩) ?_ ?_
         rotate_left; (intro w'; go_simp; with_reducible rfl); rotate_left; (simp only [Act.put, q1_, q2_, q3_, i64_w, i32_w]; rfl)
         refine pure_ (i := 12) (N := some 15) (v := ?_) (a' := ?_) #[Y_, Y_, Y_, Y_, Y_, Y_, Y_, Y_, Y_, Y_, Y_, Y_, Y_, Y_, Y_, Y_, N_, Y_, Y_, Y_, N_, Y_, Y_, Y_, N_, N_] rfl rfl (any_of HT_.out (by kernel_rfl)) (fun _ _ _ h => h) (Or.inl ⟨by rfl, ?_⟩) ?_ ?_
         rotate_left; (intro w'; go_simp; with_reducible rfl); rotate_left; (simp only [Act.put, q1_, q2_, q3_, i64_w, i32_w]; rfl)
         refine pure_ (i := 16) (N := some 19) (v := ?_) (a' := ?_) #[Y_, Y_, Y_, Y_, Y_, Y_, Y_, Y_, Y_, Y_, Y_, Y_, Y_, Y_, Y_, Y_, Y_, Y_, Y_, Y_, N_, Y_, Y_, Y_, N_, N_] rfl rfl (any_of HT_.out (by kernel_rfl)) (fun _ _ _ h => h) (Or.inl ⟨by rfl, ?_⟩) ?_ ?_
         rotate_left; (intro w'; go_simp; with_reducible rfl); rotate_left; (simp only [Act.put, q1_, q2_, q3_, i64_w, i32_w]; rfl)
         refine pure_ (i := 20) (N := some 23) (v := ?_) (a' := ?_) #[Y_, Y_, Y_, Y_, Y_, Y_, Y_, Y_, Y_, Y_, Y_, Y_, Y_, Y_, Y_, Y_, Y_, Y_, Y_, Y_, Y_, Y_, Y_, Y_, N_, N_] rfl rfl (any_of HT_.out (by kernel_rfl)) (fun _ _ _ h => h) (Or.inl ⟨by rfl, ?_⟩) ?_ ?_
         rotate_left; (intro w'; go_simp; with_reducible rfl); rotate_left; (simp only [Act.put, q1_, q2_, q3_, i64_w, i32_w]; rfl)
         exact norm_ (by first | (simp only [putAll, Act.put, q1_, q2_, q3_]; done) | (simp only [putAll, Act.put, q1_, q2_, q3_]; rfl)) (hJ3_4_7_11_15_19_23 (v208) _ ⟨hHeld, (br_ HO209.out), (bq_ BK206.out), (bh_ HB.out)⟩)
       ·skip
        rintro v208 w21 ⟨hS_, h0_, h1_, h2_⟩
        have n0_ : Aside0 (Kd.R (Kd.int .u8) 5 w21 w.heap.size (fun _ => True) v208 y207) := ⟨h0_⟩
        have n1_ : Aside0 (w21.heap[gb206]? = some (.cells #[.int .i64 a0_0, .string a0_1, .string a0_2, .int .u64 a0_3, .int .u64 a0_4, .string a0_5, .string a0_6, .bool a0_7] 44 (0, 0))) := ⟨h1_⟩
        have n2_ : Aside0 (Below w.heap.size w w21) := ⟨h2_⟩
        clear BK206
        clear HB
        clear h0_ h1_ h2_
        have HO209 := n0_
        have BK206 := n1_
        have HB := n2_
        clear n0_ n1_ n2_
        have hHeld : w21.cell? ⟨gb206, 0, none⟩ = some (.int .i64 a0_0) ∧ w21.cell? ⟨gb206, 1, none⟩ = some (.string a0_1) ∧ w21.cell? ⟨gb206, 2, none⟩ = some (.string a0_2) ∧ w21.cell? ⟨gb206, 3, none⟩ = some (.int .u64 a0_3) ∧ w21.cell? ⟨gb206, 4, none⟩ = some (.int .u64 a0_4) ∧ w21.cell? ⟨gb206, 5, none⟩ = some (.string a0_5) ∧ w21.cell? ⟨gb206, 6, none⟩ = some (.string a0_6) ∧ w21.cell? ⟨gb206, 7, none⟩ = some (.bool a0_7) := hS_
        refine norm_ (a' := ?_) ?_ ?_
        rotate_left
        ·simp only [putAll, Act.put, q1_, q2_, q3_]
         rfl
        refine one_ (i := 23) (N := some 26) #[Y_, Y_, Y_, Y_, Y_, Y_, Y_, Y_, Y_, Y_, Y_, Y_, Y_, Y_, Y_, Y_, Y_, Y_, Y_, Y_, Y_, Y_, Y_, Y_, N_, N_] rfl rfl (one_of HT_.out (by kernel_rfl)) (by decide) (fun K hK => ?_)
        refine goes_ Try.func42 (by kernel_rfl) rfl #[.string a0_5] (by rfl) rfl rfl (by (try simp only [List.map_toArray, List.map_cons, List.map_nil]); first | done | rfl | (simp only [List.length_drop, List.length_take]; rfl)) ?_
        with_reducible refine (parchmentref02_Text.calls k a0_5 t214 _ A10.out).mono ?_
        rintro e w22 ⟨rfl, hb⟩
        refine ⟨_, rfl, ?_⟩
        replace HO209 := Aside0.mk (Kd.R_below (br_ HO209.out) hb)
        replace BK206 := Aside0.mk (bk_ BK206.out hb)
        replace HB := Aside0.mk (below_step (bh_ HB.out) hb)
        (try clear hb)
        (try clear hb2)
        (try clear hk)
        (try clear hi)
        refine hK.out _ _ ⟨(blk_cell BK206.out 0).trans rfl, (blk_cell BK206.out 1).trans rfl, (blk_cell BK206.out 2).trans rfl, (blk_cell BK206.out 3).trans rfl, (blk_cell BK206.out 4).trans rfl, (blk_cell BK206.out 5).trans rfl, (blk_cell BK206.out 6).trans rfl, (blk_cell BK206.out 7).trans rfl⟩ (fun hHeld => ?_)
        clear hK K
        refine norm_ (a' := ?_) ?_ ?_
        rotate_left
        ·show Act.put _ (some 26) _ = _
         simp only [Act.put, q1_, q2_, q3_, i64_w, i32_w]
         rfl
        exact norm_ (by first | (simp only [putAll, Act.put, q1_, q2_, q3_]; done) | (simp only [putAll, Act.put, q1_, q2_, q3_]; rfl)) (hJ3_4_7_11_15_19_23 (v208) _ ⟨hHeld, (br_ HO209.out), (bq_ BK206.out), (bh_ HB.out)⟩)
      rintro v208 w22 ⟨hS_, h0_, h1_, h2_⟩
      have n0_ : Aside0 (Kd.R (Kd.int .u8) 5 w22 w.heap.size (fun _ => True) v208 y207) := ⟨h0_⟩
      have n1_ : Aside0 (w22.heap[gb206]? = some (.cells #[.int .i64 a0_0, .string a0_1, .string a0_2, .int .u64 a0_3, .int .u64 a0_4, .string a0_5, .string a0_6, .bool a0_7] 44 (0, 0))) := ⟨h1_⟩
      have n2_ : Aside0 (Below w.heap.size w w22) := ⟨h2_⟩
      clear BK206
      clear HB
      clear h0_ h1_ h2_
      have HO209 := n0_
      have BK206 := n1_
      have HB := n2_
      clear n0_ n1_ n2_
      have hHeld : w22.cell? ⟨gb206, 0, none⟩ = some (.int .i64 a0_0) ∧ w22.cell? ⟨gb206, 1, none⟩ = some (.string a0_1) ∧ w22.cell? ⟨gb206, 2, none⟩ = some (.string a0_2) ∧ w22.cell? ⟨gb206, 3, none⟩ = some (.int .u64 a0_3) ∧ w22.cell? ⟨gb206, 4, none⟩ = some (.int .u64 a0_4) ∧ w22.cell? ⟨gb206, 5, none⟩ = some (.string a0_5) ∧ w22.cell? ⟨gb206, 6, none⟩ = some (.string a0_6) ∧ w22.cell? ⟨gb206, 7, none⟩ = some (.bool a0_7) := hS_
      refine norm_ (a' := ?_) ?_ ?_
      rotate_left
      ·simp only [putAll, Act.put, q1_, q2_, q3_]
       rfl
      refine pure_ (i := 24) (N := some 27) (v := ?_) (a' := ?_) #[Y_, Y_, Y_, Y_, Y_, Y_, Y_, Y_, Y_, Y_, Y_, Y_, Y_, Y_, Y_, Y_, Y_, Y_, Y_, Y_, Y_, Y_, Y_, Y_, Y_, N_] rfl rfl (any_of HT_.out (by kernel_rfl)) (fun _ _ _ h => h) (Or.inl ⟨by rfl, ?_⟩) ?_ ?_
      rotate_left; (intro w'; go_simp; with_reducible rfl); rotate_left; (simp only [Act.put, q1_, q2_, q3_, i64_w, i32_w]; rfl)
      refine pure_ (i := 25) (N := some 2) (v := ?_) (a' := ?_) #[Y_, Y_, Y_, Y_, Y_, Y_, Y_, Y_, Y_, Y_, Y_, Y_, Y_, Y_, Y_, Y_, Y_, Y_, Y_, Y_, Y_, Y_, Y_, Y_, Y_, Y_] rfl rfl (any_of HT_.out (by kernel_rfl)) (fun _ _ _ h => h) (Or.inl ⟨by rfl, ?_⟩) ?_ ?_
      rotate_left; (intro w'; go_simp; with_reducible rfl); rotate_left; (simp only [Act.put, q1_, q2_, q3_, i64_w, i32_w]; rfl)
      refine done_ (done_of HT_.out (by kernel_rfl)) ?_
      try go_wp2
      go_ret
      exact ⟨by first | rfl | (simp [errW_none, errW_some] <;> rfl) | (simp [*, errW_none, errW_some] <;> rfl), by repeat (first | (with_reducible first | exact HB.out | apply below_alloc | apply pw_below_drewN | apply below_drew1 | refine below_set ?_ GE206.out) | exact HB.out)⟩
     ·rw [if_neg c11] at H
      exact absurd H (by simp)
    ·rw [if_neg c9] at H
     exact absurd H (by simp)
   ·rw [if_neg c7] at H
    exact absurd H (by simp)
  ·rw [if_neg c5] at H
   exact absurd H (by simp)
 ·rw [if_neg c3] at H
  exact absurd H (by simp)
end Go.Proofs.Ytdcbacbilncnnaa.PMk
end
section
/- A revision's meta in plain bytes. -/
set_option linter.unusedVariables false
set_option linter.unusedSimpArgs false
namespace Go.Proofs.Ytdcbacbilncnnaa.T
open Go.RowKit Go.Proofs.Ytdcbacbilncnnaa.PMk Go.Proofs.Ytdcbacbilncnnaa.EncS Go.Proofs.Ytdcbacbilncnnaa.EncL Go.Proofs.YtdcbacbilncnnaaW.PrintWords Go.Proofs.YtdcbacbilncnnaaW.PrintLast
def txt (t : ByteArray) : List UInt8 := encU t.size ++ t.toList
def num (a : Int) : List UInt8 := encU a.toNat
def byt (a : Int) : UInt8 := UInt8.ofNat (a % 256).toNat
def mt (op : Int) (t f : ByteArray) (d v : Int) (h : ByteArray) : List UInt8 := byt op :: (txt t ++ (txt f ++ (num d ++ (num v ++ txt h))))
/-- A revision that a value can be. -/
structure Fits (d v : Int) (t f h : ByteArray) : Prop where
  d0 : 0 ≤ d
  d1 : d < 18446744073709551616
  v0 : 0 ≤ v
  v1 : v < 18446744073709551616
  t : t.size ≤ 1125899906842624
  f : f.size ≤ 1125899906842624
  h : h.size ≤ 1125899906842624
theorem byt_str (op : Int) : strOfNums [op % 256] = S [byt op] := by
  have h0 := Int.emod_nonneg op (show (256 : Int) ≠ 0 by decide)
  have h1 := Int.emod_lt_of_pos op (show (0 : Int) < 256 by decide)
  have e : [op % 256] = ints [byt op] := by
    simp only [ints, byt, List.map_cons, List.map_nil, List.cons.injEq, and_true]
    rw [UInt8.toNat_ofNat']
    omega
  rw [e, strOf_ints]
theorem num_ev (a : Int) (h0 : 0 ≤ a) (h1 : a < 18446744073709551616) : Ev (fun k => enc_Uint.f k a) (S (num a)) := by
  have := uint_f a.toNat (by omega)
  rw [Int.toNat_of_nonneg h0] at this
  exact this
theorem rnum_ev (a : Int) (h0 : 0 ≤ a) (h1 : a < 18446744073709551616) : Ev (fun k => parchmentref02_Uint.f k a) (S (num a)) := by
  have := ref_uint_f a.toNat a.toNat (Nat.le_refl _) (by omega)
  rw [Int.toNat_of_nonneg h0] at this
  exact this
theorem num_len (a : Int) (h0 : 0 ≤ a) (h1 : a < 18446744073709551616) : (num a).length ≤ 10 := encU_len _ (by omega)
theorem txt_len (t : ByteArray) (h : t.size ≤ 1125899906842624) : (txt t).length ≤ t.size + 10 := by
  unfold txt
  have := encU_len t.size (by omega)
  have hl : t.toList.length = t.size := by rw [ByteArray.toList_eq, Array.length_toList]; rfl
  rw [List.length_append, hl]; omega
theorem mt_len {op d v : Int} {t f h : ByteArray} (g : Fits d v t f h) : (mt op t f d v h).length ≤ 3377699720527973 := by
  have h1 := txt_len t g.t
  have h2 := txt_len f g.f
  have h3 := txt_len h g.h
  have h4 := num_len d g.d0 g.d1
  have h5 := num_len v g.v0 g.v1
  have := g.t
  have := g.f
  have := g.h
  unfold mt
  simp only [List.length_cons, List.length_append]
  omega
theorem meta_ev {op d v : Int} {t f h : ByteArray} (b : ByteArray) (q : Bool) (g : Fits d v t f h) : Ev (fun k => block_meta.f k op t f d v h b q) (S (mt op t f d v h)) := by
  have h1 := txt_len t g.t
  have h2 := txt_len f g.f
  have h3 := txt_len h g.h
  have h4 := num_len d g.d0 g.d1
  have h5 := num_len v g.v0 g.v1
  have := g.t
  have := g.f
  have := g.h
  unfold block_meta.f
  simp only [Option.bind_some, byt_str]
  refine Ev.bind (text_f t (by omega)) ?_
  refine Ev.congr (fun _ => if_pos (by rw [S_size, S_size]; unfold txt at h1; simp at *; omega)) ?_
  refine Ev.bind (text_f f (by omega)) ?_
  refine Ev.congr (fun _ => if_pos (by rw [S_append, S_size, S_size]; unfold txt at h1 h2; simp at *; omega)) ?_
  refine Ev.bind (num_ev d g.d0 g.d1) ?_
  refine Ev.congr (fun _ => if_pos (by rw [S_append, S_append, S_size, S_size]; unfold txt at h1 h2; simp at *; omega)) ?_
  refine Ev.bind (num_ev v g.v0 g.v1) ?_
  refine Ev.congr (fun _ => if_pos (by rw [S_append, S_append, S_append, S_size, S_size]; unfold txt at h1 h2; simp at *; omega)) ?_
  refine Ev.bind (text_f h (by omega)) ?_
  refine Ev.congr (fun _ => if_pos (by rw [S_append, S_append, S_append, S_append, S_size, S_size]; unfold txt at h1 h2 h3; simp at *; omega)) ?_
  rw [S_append, S_append, S_append, S_append, S_append]
  have e : mt op t f d v h = [byt op] ++ (encU t.size ++ t.toList) ++ (encU f.size ++ f.toList) ++ num d ++ num v ++ (encU h.size ++ h.toList) := by simp [mt, txt]
  rw [e]
  exact Ev.now _
theorem rmeta_ev {op d v : Int} {t f h : ByteArray} (b : ByteArray) (q : Bool) (g : Fits d v t f h) : Ev (fun k => parchmentref09_Meta.f k op t f d v h b q) (S (mt op t f d v h)) := by
  have h1 := txt_len t g.t
  have h2 := txt_len f g.f
  have h3 := txt_len h g.h
  have h4 := num_len d g.d0 g.d1
  have h5 := num_len v g.v0 g.v1
  have := g.t
  have := g.f
  have := g.h
  unfold parchmentref09_Meta.f
  simp only [Option.bind_some, byt_str]
  refine Ev.bind (ref_text_f t (by omega)) ?_
  refine Ev.congr (fun _ => if_pos (by rw [S_size, S_size]; unfold txt at h1; simp at *; omega)) ?_
  refine Ev.bind (ref_text_f f (by omega)) ?_
  refine Ev.congr (fun _ => if_pos (by rw [S_append, S_size, S_size]; unfold txt at h1 h2; simp at *; omega)) ?_
  refine Ev.bind (rnum_ev d g.d0 g.d1) ?_
  refine Ev.congr (fun _ => if_pos (by rw [S_append, S_append, S_size, S_size]; unfold txt at h1 h2; simp at *; omega)) ?_
  refine Ev.bind (rnum_ev v g.v0 g.v1) ?_
  refine Ev.congr (fun _ => if_pos (by rw [S_append, S_append, S_append, S_size, S_size]; unfold txt at h1 h2; simp at *; omega)) ?_
  refine Ev.bind (ref_text_f h (by omega)) ?_
  refine Ev.congr (fun _ => if_pos (by rw [S_append, S_append, S_append, S_append, S_size, S_size]; unfold txt at h1 h2 h3; simp at *; omega)) ?_
  rw [S_append, S_append, S_append, S_append, S_append]
  have e : mt op t f d v h = [byt op] ++ (encU t.size ++ t.toList) ++ (encU f.size ++ f.toList) ++ num d ++ num v ++ (encU h.size ++ h.toList) := by simp [mt, txt]
  rw [e]
  exact Ev.now _
end Go.Proofs.Ytdcbacbilncnnaa.T
end
section
/- A block's header: its numbers, the block ahead, and its revisions' root. -/
set_option linter.unusedVariables false
set_option linter.unusedSimpArgs false
namespace Go.Proofs.Ytdcbacbilncnnaa.T
open Go.RowKit Go.Proofs.Ytdcbacbilncnnaa.PMk Go.Proofs.Ytdcbacbilncnnaa.M Go.Proofs.YtdcbacbilncnnaaW.PrintWords Go.Proofs.YtdcbacbilncnnaaW.PrintLast
theorem len_any (w : World) (base g n : Nat) (vl vp : Value) (L P : List ByteArray) (hA : At w base g vl vp L P) (hn : L.length = n) :
    Calls Try.prog 57 #[.pointer (some ⟨g, 0, none⟩)] w fun e w' => e = .returned (.int .i64 n) ∧ Below w.heap.size w w' := by
  subst hn
  refine (len_raw w base g vl vp L P hA).mono ?_
  rintro e w' ⟨rfl, h⟩
  rw [h]
  exact ⟨rfl, Below.refl _ _⟩
theorem sum_empty : Dig.hash_Sum.f ⟨#[]⟩ = some (Dig.dig ⟨#[]⟩) := rfl
theorem root_nil (w : World) (base g : Nat) (vl vp : Value) (P : List ByteArray) (hA : At w base g vl vp [] P) :
    Calls Try.prog 48 #[.pointer (some ⟨g, 0, none⟩)] w fun e w' => e = .returned (.string (mroot [])) ∧ Below w.heap.size w w' := by
  have HA := Lib.hid hA
  clear hA
  obtain ⟨d, hd⟩ : ∃ d, Dig.dig ⟨#[]⟩ = d := ⟨_, rfl⟩
  have hm : mroot [] = d := mroot_nil.trans hd
  have HS := Lib.hid (fun w' => Dig.hash_Sum.calls ⟨#[]⟩ d w' (sum_empty.trans (congrArg some hd)))
  rw [hm]
  clear hd hm
  go_enter Try.func48, Try.ntmps48
  go_wp2_with (first
    | (go_at_call 57; refine (len_any _ _ _ 0 _ _ _ _ HA.out rfl).mono ?_; rintro e w1 ⟨rfl, hb1⟩; have HB1 := Lib.hid hb1; clear hb1)
    | (go_at_call 44; refine (HS.out _).mono ?_; rintro e w2 ⟨rfl, hb1⟩; have HB2 := Lib.hid (HB1.out.trans (hb1.mono HB1.out.size)); clear hb1))
  go_ret
  exact ⟨rfl, HB2.out⟩
theorem root_all (w : World) (base g : Nat) (vl vp : Value) (L : List ByteArray) (hA : At w base g vl vp L (pk L)) (hw : W32 L) (hn : L.length < 1000000) :
    Calls Try.prog 48 #[.pointer (some ⟨g, 0, none⟩)] w fun e w' => e = .returned (.string (mroot L)) ∧ Below w.heap.size w w' := by
  by_cases h : L = []
  · subst h
    exact root_nil w base g vl vp _ hA
  · exact root_tree w base g vl vp L hA h hw hn
set_option maxRecDepth 100000 in
set_option maxHeartbeats 4000000 in
theorem header_raw (a0 : Int) (a1 : ByteArray) (a2 : Int) (A : Option Addr) (c len : Nat) (L : List ByteArray) (t1 t2 t3 t4 r : ByteArray) (w : World)
    (H1 : Hid (∀ w, Calls Try.prog 45 #[.int .u64 a0] w fun e w' => e = .returned (.string t1) ∧ Below w.heap.size w w'))
    (H2 : Hid (∀ w, Calls Try.prog 46 #[.string a1] w fun e w' => e = .returned (.string t2) ∧ Below w.heap.size w w'))
    (H3 : Hid (∀ w, Calls Try.prog 45 #[.int .u64 a2] w fun e w' => e = .returned (.string t3) ∧ Below w.heap.size w w'))
    (H4 : Hid (∀ w, Calls Try.prog 45 #[.int .u64 (IntKind.u64.wrap len)] w fun e w' => e = .returned (.string t4) ∧ Below w.heap.size w w'))
    (H5 : Hid (∀ w', Below w.heap.size w w' → Calls Try.prog 47 #[.agg #[.int .u64 a0, .string a1, .int .u64 a2, .slice A len c]] w' fun e w2 => ∃ g vl vp, e = .returned (.pointer (some ⟨g, 0, none⟩)) ∧ At w2 w'.heap.size g vl vp L (pk L) ∧ Below w'.heap.size w' w2))
    (H6 : Hid (∀ w base g vl vp, At w base g vl vp L (pk L) → Calls Try.prog 48 #[.pointer (some ⟨g, 0, none⟩)] w fun e w' => e = .returned (.string r) ∧ Below w.heap.size w w'))
    (hs : t1.size + t2.size + t3.size + t4.size + r.size ≤ 9223372036854775807) :
    Calls Try.prog 16 #[.agg #[.int .u64 a0, .string a1, .int .u64 a2, .slice A len c]] w fun e w' => e = .returned (.string ((((t1 ++ t2) ++ t3) ++ t4) ++ r)) ∧ Below w.heap.size w w' := by
  have s1 : (9223372036854775807 < t1.size + t2.size) = False := eq_false (by omega)
  have s2 : (9223372036854775807 < t1.size + t2.size + t3.size) = False := eq_false (by omega)
  have s3 : (9223372036854775807 < t1.size + t2.size + t3.size + t4.size) = False := eq_false (by omega)
  have s4 : (9223372036854775807 < t1.size + t2.size + t3.size + t4.size + r.size) = False := eq_false (by omega)
  clear hs
  go_enter Try.func16, Try.ntmps16
  go_wp2_with fail
  have BK : Hid ((w.alloc (.cells #[.int .u64 a0, .string a1, .int .u64 a2, .slice A len c] 25)).heap[w.heap.size]? = some (.cells #[.int .u64 a0, .string a1, .int .u64 a2, .slice A len c] 25 (0, 0))) := Lib.hid (heap_alloc_new w _)
  have HB : Hid (Below w.heap.size w (w.alloc (.cells #[.int .u64 a0, .string a1, .int .u64 a2, .slice A len c] 25))) := Lib.hid ((Below.refl _ _).alloc (Nat.le_refl _) _)
  generalize w.alloc (.cells #[.int .u64 a0, .string a1, .int .u64 a2, .slice A len c] 25) = W at BK HB ⊢
  refine start_ (n := 22) (S := fun w' => w'.cell? ⟨w.heap.size, 0, none⟩ = some (.int .u64 a0) ∧ w'.cell? ⟨w.heap.size, 1, none⟩ = some (.string a1) ∧ w'.cell? ⟨w.heap.size, 2, none⟩ = some (.int .u64 a2) ∧ w'.cell? ⟨w.heap.size, 3, none⟩ = some (.slice A len c)) (ds := []) #[false, false, false, false, false, false, false, false, false, false, false, false, false, false, false, false, false, false, false, false, false, false] (by kernel_rfl) rfl rfl ⟨(blk_cell BK.out 0).trans rfl, (blk_cell BK.out 1).trans rfl, (blk_cell BK.out 2).trans rfl, (blk_cell BK.out 3).trans rfl⟩ (fun hHeld => ?_)
  refine pure_ (i := 0) (N := some 3) (v := ?_) (a' := ?_) #[true, false, false, false, false, false, false, false, false, false, false, false, false, false, false, false, false, false, false, false, false, false] rfl rfl (by kernel_rfl) (fun _ _ _ h => h) (Or.inl ⟨by rfl, ?_⟩) ?_ ?_
  rotate_left
  · intro w'
    go_simp
    with_reducible rfl
  rotate_left
  · simp only [Act.put, List.setIfInBounds_toArray, List.set_cons_zero, List.set_cons_succ, i64_w, i32_w]
    rfl
  refine pure_ (i := 3) (N := some 6) (v := ?_) (a' := ?_) #[true, false, false, true, false, false, false, false, false, false, false, false, false, false, false, false, false, false, false, false, false, false] rfl rfl (by kernel_rfl) (fun _ _ _ h => h) (Or.inl ⟨by rfl, ?_⟩) ?_ ?_
  rotate_left
  · intro w'
    go_simp
    with_reducible rfl
  rotate_left
  · simp only [Act.put, List.setIfInBounds_toArray, List.set_cons_zero, List.set_cons_succ, i64_w, i32_w]
    rfl
  refine pure_ (i := 7) (N := some 10) (v := ?_) (a' := ?_) #[true, false, false, true, false, false, false, true, false, false, false, false, false, false, false, false, false, false, false, false, false, false] rfl rfl (by kernel_rfl) (fun _ _ _ h => h) (Or.inl ⟨by rfl, ?_⟩) ?_ ?_
  rotate_left
  · intro w'
    go_simp
    with_reducible rfl
  rotate_left
  · simp only [Act.put, List.setIfInBounds_toArray, List.set_cons_zero, List.set_cons_succ, i64_w, i32_w]
    rfl
  refine pure_ (i := 11) (N := some 14) (v := ?_) (a' := ?_) #[true, false, false, true, false, false, false, true, false, false, false, true, false, false, false, false, false, false, false, false, false, false] rfl rfl (by kernel_rfl) (fun _ _ _ h => h) (Or.inl ⟨by rfl, ?_⟩) ?_ ?_
  rotate_left
  · intro w'
    go_simp
    with_reducible rfl
  rotate_left
  · simp only [Act.put, List.setIfInBounds_toArray, List.set_cons_zero, List.set_cons_succ, i64_w, i32_w]
    rfl
  refine take_ (i := 1) (N := some 4) (v := ?_) (a' := ?_) #[true, true, false, true, false, false, false, true, false, false, false, true, false, false, false, false, false, false, false, false, false, false] rfl rfl (by kernel_rfl) (fun _ _ _ h => h) (Or.inl ⟨by rfl, ?_⟩) hHeld ?_ ?_
  rotate_left
  · rintro w' ⟨s0, s1, s2, s3⟩
    go_simp
    with_reducible rfl
  rotate_left
  · simp only [Act.put, List.setIfInBounds_toArray, List.set_cons_zero, List.set_cons_succ, i64_w, i32_w]
    rfl
  refine take_ (i := 4) (N := some 7) (v := ?_) (a' := ?_) #[true, true, false, true, true, false, false, true, false, false, false, true, false, false, false, false, false, false, false, false, false, false] rfl rfl (by kernel_rfl) (fun _ _ _ h => h) (Or.inl ⟨by rfl, ?_⟩) hHeld ?_ ?_
  rotate_left
  · rintro w' ⟨s0, s1, s2, s3⟩
    go_simp
    with_reducible rfl
  rotate_left
  · simp only [Act.put, List.setIfInBounds_toArray, List.set_cons_zero, List.set_cons_succ, i64_w, i32_w]
    rfl
  refine take_ (i := 8) (N := some 11) (v := ?_) (a' := ?_) #[true, true, false, true, true, false, false, true, true, false, false, true, false, false, false, false, false, false, false, false, false, false] rfl rfl (by kernel_rfl) (fun _ _ _ h => h) (Or.inl ⟨by rfl, ?_⟩) hHeld ?_ ?_
  rotate_left
  · rintro w' ⟨s0, s1, s2, s3⟩
    go_simp
    with_reducible rfl
  rotate_left
  · simp only [Act.put, List.setIfInBounds_toArray, List.set_cons_zero, List.set_cons_succ, i64_w, i32_w]
    rfl
  refine take_ (i := 12) (N := some 15) (v := ?_) (a' := ?_) #[true, true, false, true, true, false, false, true, true, false, false, true, true, false, false, false, false, false, false, false, false, false] rfl rfl (by kernel_rfl) (fun _ _ _ h => h) (Or.inl ⟨by rfl, ?_⟩) hHeld ?_ ?_
  rotate_left
  · rintro w' ⟨s0, s1, s2, s3⟩
    go_simp
    with_reducible rfl
  rotate_left
  · simp only [Act.put, List.setIfInBounds_toArray, List.set_cons_zero, List.set_cons_succ, i64_w, i32_w]
    rfl
  refine pure_ (i := 13) (N := some 16) (v := ?_) (a' := ?_) #[true, true, false, true, true, false, false, true, true, false, false, true, true, true, false, false, false, false, false, false, false, false] rfl rfl (by kernel_rfl) (fun _ _ _ h => h) (Or.inl ⟨by rfl, ?_⟩) ?_ ?_
  rotate_left
  · intro w'
    go_simp
    with_reducible rfl
  rotate_left
  · simp only [Act.put, List.setIfInBounds_toArray, List.set_cons_zero, List.set_cons_succ, i64_w, i32_w]
    rfl
  refine pure_ (i := 14) (N := some 17) (v := ?_) (a' := ?_) #[true, true, false, true, true, false, false, true, true, false, false, true, true, true, true, false, false, false, false, false, false, false] rfl rfl (by kernel_rfl) (fun _ _ _ h => h) (Or.inl ⟨by rfl, ?_⟩) ?_ ?_
  rotate_left
  · intro w'
    go_simp
    with_reducible rfl
  rotate_left
  · simp only [Act.put, List.setIfInBounds_toArray, List.set_cons_zero, List.set_cons_succ, i64_w, i32_w]
    rfl
  refine take_ (i := 17) (N := some 20) (v := ?_) (a' := ?_) #[true, true, false, true, true, false, false, true, true, false, false, true, true, true, true, false, false, true, false, false, false, false] rfl rfl (by kernel_rfl) (fun _ _ _ h => h) (Or.inl ⟨by rfl, ?_⟩) hHeld ?_ ?_
  rotate_left
  · rintro w' ⟨s0, s1, s2, s3⟩
    go_simp
    with_reducible rfl
  rotate_left
  · simp only [Act.put, List.setIfInBounds_toArray, List.set_cons_zero, List.set_cons_succ, i64_w, i32_w]
    rfl
  refine one_ (i := 2) (N := some 5) #[true, true, true, true, true, false, false, true, true, false, false, true, true, true, true, false, false, true, false, false, false, false] rfl rfl (by kernel_rfl) (by decide) (fun K hK => ?_)
  refine goes_ Try.func45 (by kernel_rfl) rfl #[.int .u64 a0] (by rfl) rfl rfl (by simp only [List.map_toArray, List.map_cons, List.map_nil]; rfl) ?_
  with_reducible refine (H1.out _).mono ?_
  rintro e w2 ⟨rfl, hb⟩
  refine ⟨_, rfl, ?_⟩
  have BK2 := Lib.hid (blk_below BK.out (below_drew hb))
  have HB2 := Lib.hid (HB.out.trans ((below_drew hb).mono HB.out.size))
  clear hb
  refine hK.out _ _ ⟨(blk_cell BK2.out 0).trans rfl, (blk_cell BK2.out 1).trans rfl, (blk_cell BK2.out 2).trans rfl, (blk_cell BK2.out 3).trans rfl⟩ (fun hHeld => ?_)
  clear hK K
  refine norm_ (a' := ?_) ?_ ?_
  rotate_left
  · show Act.put _ (some 5) _ = _
    simp only [Act.put, List.setIfInBounds_toArray, List.set_cons_zero, List.set_cons_succ, i64_w, i32_w]
    rfl
  refine one_ (i := 5) (N := some 8) #[true, true, true, true, true, true, false, true, true, false, false, true, true, true, true, false, false, true, false, false, false, false] rfl rfl (by kernel_rfl) (by decide) (fun K hK => ?_)
  refine goes_ Try.func46 (by kernel_rfl) rfl #[.string a1] (by rfl) rfl rfl (by simp only [List.map_toArray, List.map_cons, List.map_nil]; rfl) ?_
  with_reducible refine (H2.out _).mono ?_
  rintro e w3 ⟨rfl, hb⟩
  refine ⟨_, rfl, ?_⟩
  have BK3 := Lib.hid (blk_below BK2.out hb)
  have HB3 := Lib.hid (HB2.out.trans (hb.mono HB2.out.size))
  clear hb
  refine hK.out _ _ ⟨(blk_cell BK3.out 0).trans rfl, (blk_cell BK3.out 1).trans rfl, (blk_cell BK3.out 2).trans rfl, (blk_cell BK3.out 3).trans rfl⟩ (fun hHeld => ?_)
  clear hK K
  refine norm_ (a' := ?_) ?_ ?_
  rotate_left
  · show Act.put _ (some 8) _ = _
    simp only [Act.put, List.setIfInBounds_toArray, List.set_cons_zero, List.set_cons_succ, i64_w, i32_w]
    rfl
  refine pure_ (i := 6) (N := some 9) (v := ?_) (a' := ?_) #[true, true, true, true, true, true, true, true, true, false, false, true, true, true, true, false, false, true, false, false, false, false] rfl rfl (by kernel_rfl) (fun _ _ _ h => h) (Or.inl ⟨by rfl, ?_⟩) ?_ ?_
  rotate_left
  · intro w'
    go_simp
    with_reducible rfl
  rotate_left
  · simp only [Act.put, List.setIfInBounds_toArray, List.set_cons_zero, List.set_cons_succ, i64_w, i32_w]
    rfl
  refine one_ (i := 9) (N := some 12) #[true, true, true, true, true, true, true, true, true, true, false, true, true, true, true, false, false, true, false, false, false, false] rfl rfl (by kernel_rfl) (by decide) (fun K hK => ?_)
  refine goes_ Try.func45 (by kernel_rfl) rfl #[.int .u64 a2] (by rfl) rfl rfl (by simp only [List.map_toArray, List.map_cons, List.map_nil]; rfl) ?_
  with_reducible refine (H3.out _).mono ?_
  rintro e w4 ⟨rfl, hb⟩
  refine ⟨_, rfl, ?_⟩
  have BK4 := Lib.hid (blk_below BK3.out hb)
  have HB4 := Lib.hid (HB3.out.trans (hb.mono HB3.out.size))
  clear hb
  refine hK.out _ _ ⟨(blk_cell BK4.out 0).trans rfl, (blk_cell BK4.out 1).trans rfl, (blk_cell BK4.out 2).trans rfl, (blk_cell BK4.out 3).trans rfl⟩ (fun hHeld => ?_)
  clear hK K
  refine norm_ (a' := ?_) ?_ ?_
  rotate_left
  · show Act.put _ (some 12) _ = _
    simp only [Act.put, List.setIfInBounds_toArray, List.set_cons_zero, List.set_cons_succ, i64_w, i32_w]
    rfl
  refine pure_ (i := 10) (N := some 13) (v := ?_) (a' := ?_) #[true, true, true, true, true, true, true, true, true, true, true, true, true, true, true, false, false, true, false, false, false, false] rfl rfl (by kernel_rfl) (fun _ _ _ h => h) (Or.inl ⟨by rfl, ?_⟩) ?_ ?_
  rotate_left
  · intro w'
    go_simp
    with_reducible rfl
  rotate_left
  · simp only [Act.put, List.setIfInBounds_toArray, List.set_cons_zero, List.set_cons_succ, i64_w, i32_w]
    rfl
  refine one_ (i := 15) (N := some 18) #[true, true, true, true, true, true, true, true, true, true, true, true, true, true, true, true, false, true, false, false, false, false] rfl rfl (by kernel_rfl) (by decide) (fun K hK => ?_)
  refine goes_ Try.func45 (by kernel_rfl) rfl #[.int .u64 (IntKind.u64.wrap len)] (by rfl) rfl rfl (by simp only [List.map_toArray, List.map_cons, List.map_nil]; rfl) ?_
  with_reducible refine (H4.out _).mono ?_
  rintro e w5 ⟨rfl, hb⟩
  refine ⟨_, rfl, ?_⟩
  have BK5 := Lib.hid (blk_below BK4.out hb)
  have HB5 := Lib.hid (HB4.out.trans (hb.mono HB4.out.size))
  clear hb
  refine hK.out _ _ ⟨(blk_cell BK5.out 0).trans rfl, (blk_cell BK5.out 1).trans rfl, (blk_cell BK5.out 2).trans rfl, (blk_cell BK5.out 3).trans rfl⟩ (fun hHeld => ?_)
  clear hK K
  refine norm_ (a' := ?_) ?_ ?_
  rotate_left
  · show Act.put _ (some 18) _ = _
    simp only [Act.put, List.setIfInBounds_toArray, List.set_cons_zero, List.set_cons_succ, i64_w, i32_w]
    rfl
  refine pure_ (i := 16) (N := some 19) (v := ?_) (a' := ?_) #[true, true, true, true, true, true, true, true, true, true, true, true, true, true, true, true, true, true, false, false, false, false] rfl rfl (by kernel_rfl) (fun _ _ _ h => h) (Or.inl ⟨by rfl, ?_⟩) ?_ ?_
  rotate_left
  · intro w'
    go_simp
    with_reducible rfl
  rotate_left
  · simp only [Act.put, List.setIfInBounds_toArray, List.set_cons_zero, List.set_cons_succ, i64_w, i32_w]
    rfl
  refine one_ (i := 18) (N := some 21) #[true, true, true, true, true, true, true, true, true, true, true, true, true, true, true, true, true, true, true, false, false, false] rfl rfl (by kernel_rfl) (by decide) (fun K hK => ?_)
  refine goes_ Try.func47 (by kernel_rfl) rfl #[.agg #[.int .u64 a0, .string a1, .int .u64 a2, .slice A len c]] (by rfl) rfl rfl (by simp only [List.map_toArray, List.map_cons, List.map_nil]; rfl) ?_
  with_reducible refine (H5.out _ HB5.out).mono ?_
  rintro e w6 ⟨gt, vl, vp, rfl, hA, hb⟩
  refine ⟨_, rfl, ?_⟩
  have BK6 := Lib.hid (blk_below BK5.out hb)
  have HB6 := Lib.hid (HB5.out.trans (hb.mono HB5.out.size))
  have HA := Lib.hid hA
  clear hb hA
  refine hK.out _ _ ⟨(blk_cell BK6.out 0).trans rfl, (blk_cell BK6.out 1).trans rfl, (blk_cell BK6.out 2).trans rfl, (blk_cell BK6.out 3).trans rfl⟩ (fun hHeld => ?_)
  clear hK K
  refine norm_ (a' := ?_) ?_ ?_
  rotate_left
  · show Act.put _ (some 21) _ = _
    simp only [Act.put, List.setIfInBounds_toArray, List.set_cons_zero, List.set_cons_succ, i64_w, i32_w]
    rfl
  refine one_ (i := 19) (N := some 22) #[true, true, true, true, true, true, true, true, true, true, true, true, true, true, true, true, true, true, true, true, false, false] rfl rfl (by kernel_rfl) (by decide) (fun K hK => ?_)
  refine goes_ Try.func48 (by kernel_rfl) rfl #[.pointer (some ⟨gt, 0, none⟩)] (by rfl) rfl rfl (by simp only [List.map_toArray, List.map_cons, List.map_nil]; rfl) ?_
  with_reducible refine (H6.out _ _ _ _ _ HA.out).mono ?_
  rintro e w7 ⟨rfl, hb⟩
  refine ⟨_, rfl, ?_⟩
  have BK7 := Lib.hid (blk_below BK6.out hb)
  have HB7 := Lib.hid (HB6.out.trans (hb.mono HB6.out.size))
  clear hb
  refine hK.out _ _ ⟨(blk_cell BK7.out 0).trans rfl, (blk_cell BK7.out 1).trans rfl, (blk_cell BK7.out 2).trans rfl, (blk_cell BK7.out 3).trans rfl⟩ (fun hHeld => ?_)
  clear hK K
  refine norm_ (a' := ?_) ?_ ?_
  rotate_left
  · show Act.put _ (some 22) _ = _
    simp only [Act.put, List.setIfInBounds_toArray, List.set_cons_zero, List.set_cons_succ, i64_w, i32_w]
    rfl
  refine pure_ (i := 20) (N := some 23) (v := ?_) (a' := ?_) #[true, true, true, true, true, true, true, true, true, true, true, true, true, true, true, true, true, true, true, true, true, false] rfl rfl (by kernel_rfl) (fun _ _ _ h => h) (Or.inl ⟨by rfl, ?_⟩) ?_ ?_
  rotate_left
  · intro w'
    go_simp
    with_reducible rfl
  rotate_left
  · simp only [Act.put, List.setIfInBounds_toArray, List.set_cons_zero, List.set_cons_succ, i64_w, i32_w]
    rfl
  refine pure_ (i := 21) (N := some 2) (v := ?_) (a' := ?_) #[true, true, true, true, true, true, true, true, true, true, true, true, true, true, true, true, true, true, true, true, true, true] rfl rfl (by kernel_rfl) (fun _ _ _ h => h) (Or.inl ⟨by rfl, ?_⟩) ?_ ?_
  rotate_left
  · intro w'
    go_simp
    with_reducible rfl
  rotate_left
  · simp only [Act.put, List.setIfInBounds_toArray, List.set_cons_zero, List.set_cons_succ, i64_w, i32_w]
    rfl
  refine done_ (by kernel_rfl) ?_
  go_wp2
  go_ret
  exact ⟨rfl, HB7.out⟩
end Go.Proofs.Ytdcbacbilncnnaa.T
end
section
/- A block's header and digest: what the program comes to. -/
set_option linter.unusedVariables false
set_option linter.unusedSimpArgs false
namespace Go.Proofs.Ytdcbacbilncnnaa.T
open Go.RowKit Go.Proofs.Ytdcbacbilncnnaa.PMk Go.Proofs.Ytdcbacbilncnnaa.M Go.Proofs.Ytdcbacbilncnnaa.EncS Go.Proofs.Ytdcbacbilncnnaa.EncL Go.Proofs.YtdcbacbilncnnaaW.PrintWords Go.Proofs.YtdcbacbilncnnaaW.PrintLast
def mx (x : S47) : List UInt8 := mt x.f0 x.f1 x.f2 x.f3 x.f4 x.f5
def FitsL (l : List S47) : Prop := ∀ x ∈ l, Fits x.f3 x.f4 x.f1 x.f2 x.f5
def ms (l : List S47) : List ByteArray := l.map fun x => S (mx x)
theorem metas_ev : ∀ {l : List S47}, FitsL l → Ev (fun k => metas k l) (ms l)
  | [], _ => Ev.now _
  | x :: l, h => by
    have hx := h x (by simp)
    have hl := mt_len (op := x.f0) hx
    show Ev (fun k => (metaOf k x).bind fun m => if m.size < 1152921504606846000 then (metas k l).bind fun M => some (m :: M) else none) _
    refine Ev.bind (meta_ev x.f6 x.f7 hx) ?_
    refine Ev.congr (fun _ => if_pos (by rw [S_size]; omega)) ?_
    exact Ev.bind (metas_ev fun y hy => h y (by simp [hy])) (Ev.now _)
structure FitsB (a0 : Int) (a1 : ByteArray) (a2 : Int) (l : List S47) : Prop where
  p0 : 0 ≤ a0
  p1 : a0 < 18446744073709551616
  s : a1.size ≤ 1125899906842624
  q0 : 0 ≤ a2
  q1 : a2 < 18446744073709551616
  ls : FitsL l
  n : l.length < 1000
/-- A block's leaves. -/
def lvs (l : List S47) : List ByteArray := lv (ms l) (ms l).length
def pre (a0 : Int) (a1 : ByteArray) (a2 : Int) (n : Nat) : ByteArray := ((S (num a0) ++ S (txt a1)) ++ S (num a2)) ++ S (encU n)
def hdr (a0 : Int) (a1 : ByteArray) (a2 : Int) (l : List S47) : ByteArray := pre a0 a1 a2 l.length ++ mroot (lvs l)
theorem ms_len (l : List S47) : (ms l).length = l.length := by simp [ms]
theorem lvs_w32 (l : List S47) : W32 (lvs l) := lv_w32 _ _
theorem lvs_len (l : List S47) : (lvs l).length = l.length := by unfold lvs; rw [lv_len (Nat.le_refl _), ms_len]
theorem pre_size {a0 : Int} {a1 : ByteArray} {a2 : Int} {l : List S47} (g : FitsB a0 a1 a2 l) : (S (num a0)).size ≤ 10 ∧ (S (txt a1)).size ≤ 1125899906842634 ∧ (S (num a2)).size ≤ 10 ∧ (S (encU l.length)).size ≤ 10 := by
  have h1 := num_len a0 g.p0 g.p1
  have h2 := txt_len a1 g.s
  have h3 := num_len a2 g.q0 g.q1
  have := g.n
  have h4 := encU_len l.length (by omega)
  have := g.s
  rw [S_size, S_size, S_size, S_size]
  omega
theorem hdr_size {a0 : Int} {a1 : ByteArray} {a2 : Int} {l : List S47} (g : FitsB a0 a1 a2 l) : (hdr a0 a1 a2 l).size ≤ 1125899906842700 := by
  obtain ⟨h1, h2, h3, h4⟩ := pre_size g
  unfold hdr pre
  rw [ByteArray.size_append, ByteArray.size_append, ByteArray.size_append, ByteArray.size_append, mroot_size (lvs_w32 l)]
  omega
theorem header_any (a0 : Int) (a1 : ByteArray) (a2 : Int) (A : Option Addr) (c : Nat) (l : List S47) (g : FitsB a0 a1 a2 l) (w : World) (hC : Kd.C k47 w A l.length l) :
    Calls Try.prog 16 #[.agg #[.int .u64 a0, .string a1, .int .u64 a2, .slice A l.length c]] w fun e w' => e = .returned (.string (hdr a0 a1 a2 l)) ∧ Below w.heap.size w w' := by
  obtain ⟨k1, e1⟩ := (num_ev a0 g.p0 g.p1).rounds
  obtain ⟨k2, e2⟩ := (text_f a1 (by have := g.s; omega)).rounds
  obtain ⟨k3, e3⟩ := (num_ev a2 g.q0 g.q1).rounds
  have hn := g.n
  have hw := u64_in (l.length : Int) (by omega) (by omega)
  obtain ⟨k4, e4⟩ := (uint_f l.length (by omega)).rounds
  obtain ⟨k5, e5⟩ := (metas_ev g.ls).rounds
  obtain ⟨h1, h2, h3, h4⟩ := pre_size g
  have hz := mroot_size (lvs_w32 l)
  refine header_raw a0 a1 a2 A c l.length (lvs l) (S (num a0)) (S (txt a1)) (S (num a2)) (S (encU l.length)) (mroot (lvs l)) w (Lib.hid fun w => enc_Uint.calls k1 a0 _ w e1) (Lib.hid fun w => enc_Text.calls k2 a1 _ w e2) (Lib.hid fun w => enc_Uint.calls k3 a2 _ w e3)
    (Lib.hid fun w => ?_) (Lib.hid fun w' hb => tree_raw k5 a0 a1 a2 A c l (ms l) w' (Kd.C_below hC hb) e5 hn) (Lib.hid fun w base g vl vp hA => root_all w base g vl vp (lvs l) hA (lvs_w32 l) (by rw [lvs_len]; omega)) (by omega)
  rw [hw]
  exact enc_Uint.calls k4 (l.length : Int) _ w e4
theorem hash_raw (a0 : Int) (a1 : ByteArray) (a2 : Int) (A : Option Addr) (c n : Nat) (h d : ByteArray) (w : World)
    (H : Hid (∀ w', Below w.heap.size w w' → Calls Try.prog 16 #[.agg #[.int .u64 a0, .string a1, .int .u64 a2, .slice A n c]] w' fun e w2 => e = .returned (.string h) ∧ Below w'.heap.size w' w2))
    (HD : Hid (∀ w, Calls Try.prog 44 #[.string ((⟨#[2]⟩ : ByteArray) ++ h)] w fun e w' => e = .returned (.string d) ∧ Below w.heap.size w w')) (hs : 1 + h.size ≤ 9223372036854775807) :
    Calls Try.prog 14 #[.agg #[.int .u64 a0, .string a1, .int .u64 a2, .slice A n c]] w fun e w' => e = .returned (.string d) ∧ Below w.heap.size w w' := by
  have s1 : (9223372036854775807 < 1 + h.size) = False := eq_false (by omega)
  have HB := Lib.hid ((Below.refl w.heap.size w).alloc (Nat.le_refl _) (.cells #[.int .u64 a0, .string a1, .int .u64 a2, .slice A n c] 25))
  go_enter Try.func14, Try.ntmps14
  go_wp2_with (first
    | (go_at_call 16; refine (H.out _ HB.out).mono ?_; rintro e w1 ⟨rfl, hb⟩; have HB1 := Lib.hid (HB.out.trans (hb.mono HB.out.size)); clear hb)
    | (go_at_call 44; refine (HD.out _).mono ?_; rintro e w2 ⟨rfl, hb⟩; have HB2 := Lib.hid (HB1.out.trans (hb.mono HB1.out.size)); clear hb))
  go_ret
  exact ⟨rfl, HB2.out⟩
/-- A block's digest. -/
def bhash (a0 : Int) (a1 : ByteArray) (a2 : Int) (l : List S47) : ByteArray := Dig.dig ((⟨#[2]⟩ : ByteArray) ++ hdr a0 a1 a2 l)
theorem two_size (h : ByteArray) : ((⟨#[2]⟩ : ByteArray) ++ h).size = 1 + h.size := by rw [ByteArray.size_append]; rfl
theorem sum_f (s : ByteArray) (h : s.size < 1152921504606846970) : Dig.hash_Sum.f s = some (Dig.dig s) := by
  unfold Dig.hash_Sum.f
  rw [if_pos (by omega)]
theorem hash_any (a0 : Int) (a1 : ByteArray) (a2 : Int) (A : Option Addr) (c : Nat) (l : List S47) (g : FitsB a0 a1 a2 l) (w : World) (hC : Kd.C k47 w A l.length l) :
    Calls Try.prog 14 #[.agg #[.int .u64 a0, .string a1, .int .u64 a2, .slice A l.length c]] w fun e w' => e = .returned (.string (bhash a0 a1 a2 l)) ∧ Below w.heap.size w w' := by
  have hs := hdr_size g
  exact hash_raw a0 a1 a2 A c l.length (hdr a0 a1 a2 l) _ w (Lib.hid fun w' hb => header_any a0 a1 a2 A c l g w' (Kd.C_below hC hb)) (Lib.hid fun w => Dig.hash_Sum.calls _ _ w (sum_f _ (by rw [two_size]; omega))) (by omega)
end Go.Proofs.Ytdcbacbilncnnaa.T
end
section
/- Names and what a revision may be: the program's and the reference's answers are one plain function's. -/
set_option linter.unusedVariables false
set_option linter.unusedSimpArgs false
namespace Go.Proofs.Ytdcbacbilncnnaa.T
open Go.RowKit Go.Proofs.Ytdcbacbilncnnaa.PMk Go.Proofs.Ytdcbacbilncnnaa.EncS Go.Proofs.Ytdcbacbilncnnaa.EncL Go.Proofs.YtdcbacbilncnnaaW.PrintWords Go.Proofs.YtdcbacbilncnnaaW.PrintLast
def good (i : Nat) (c : Int) : Prop := (97 ≤ c ∧ c ≤ 122) ∨ (65 ≤ c ∧ c ≤ 90) ∨ c = 95 ∨ (i ≠ 0 ∧ 48 ≤ c ∧ c ≤ 57)
instance (i : Nat) (c : Int) : Decidable (good i c) := by unfold good; infer_instance
def nameAt (s : ByteArray) : Nat → Nat → Bool
  | 0, _ => decide (1 ≤ s.size) && decide (s.size ≤ 16)
  | m + 1, i => decide (good i (bt s i)) && nameAt s m (i + 1)
def nameS (s : ByteArray) : Bool := nameAt s s.size 0
theorem wr1 (i n : Nat) (h : i < n) (hn : n < 4611686018427387904) : wrap64 ((i : Int) + 1) = ((i + 1 : Nat) : Int) := by
  rw [wrap64_in _ (by omega) (by omega)]; omega
theorem rname_l0 (s : ByteArray) (hs : s.size < 4611686018427387904) : ∀ (m i : Nat), i + m = s.size → Ev (fun k => parchmentref03_Name.l0 k s (i : Int)) (nameAt s m i) := by
  intro m
  induction m with
  | zero =>
    intro i hi
    refine Ev.step (f := fun _ => some (nameAt s 0 i)) (fun k => ?_) (Ev.now _)
    simp only [parchmentref03_Name.l0]
    rw [if_neg (by omega), nameAt]
    by_cases h : 1 ≤ s.size
    · rw [if_pos (by omega), decide_eq_true h, Bool.true_and]
      congr 1
      exact decide_eq_decide.2 (by omega)
    · rw [if_neg (by omega), decide_eq_false h]; rfl
  | succ m ih =>
    intro i hi
    have h1 := ih (i + 1) (by omega)
    rw [nameAt]
    by_cases g : good i (bt s i)
    · rw [decide_eq_true g, Bool.true_and]
      refine Ev.step (fun k => ?_) h1
      simp only [parchmentref03_Name.l0]
      rw [if_pos (by omega), if_pos (by omega), wr1 i s.size (by omega) hs]
      generalize parchmentref03_Name.l0 k s ((i + 1 : Nat) : Int) = R
      unfold good at g
      repeat' split
      all_goals first | rfl | (exfalso; omega)
    · rw [decide_eq_false g, Bool.false_and]
      refine Ev.step (f := fun _ => some false) (fun k => ?_) (Ev.now _)
      simp only [parchmentref03_Name.l0]
      rw [if_pos (by omega), if_pos (by omega)]
      generalize parchmentref03_Name.l0 k s (wrap64 (↑i + 1)) = R
      unfold good at g
      repeat' split
      all_goals first | rfl | (exfalso; omega)
theorem r_name (s : ByteArray) (hs : s.size < 4611686018427387904) : Ev (fun k => parchmentref03_Name.f k s) (nameS s) := rname_l0 s hs s.size 0 (by omega)
/-- What a revision may be. -/
def numsOk (x : S47) : Prop := if x.f0 < 3 then x.f3 = 0 ∧ x.f4 = 0 else 1 ≤ x.f3 ∧ (x.f0 = 3 ↔ x.f4 = 0)
def bytesOk (x : S47) : Prop :=
  if x.f0 = 3 ∨ x.f0 = 4 then (if x.f7 = true then x.f5.size = 32 ∧ x.f6.toList = [] else x.f5.toList = (leaf x.f6).toList ∧ x.f6.size ≤ 1024)
  else x.f5.toList = [] ∧ x.f6.toList = [] ∧ x.f7 = false
instance (x : S47) : Decidable (numsOk x) := by unfold numsOk; infer_instance
instance (x : S47) : Decidable (bytesOk x) := by unfold bytesOk; infer_instance
abbrev okRev (x : S47) : Prop := 1 ≤ x.f0 ∧ x.f0 ≤ 5 ∧ nameS x.f1 = true ∧ (if x.f0 = 2 then nameS x.f2 = true else x.f2.toList = []) ∧ numsOk x ∧ bytesOk x
def chk (x : S47) : Int := if okRev x then 0 else 6
structure Small (x : S47) : Prop where
  s1 : x.f1.size < 4611686018427387904
  s2 : x.f2.size < 4611686018427387904
  s6 : x.f6.size < 1152921504606846000
  n4 : 0 ≤ x.f4
theorem evc {g : Nat → Option Int} {P : Prop} [Decidable P] (h : (P ∧ Ev g 0) ∨ (¬ P ∧ Ev g 6)) : Ev g (if P then 0 else 6) := by
  rcases h with ⟨h, e⟩ | ⟨h, e⟩
  · rw [if_pos h]; exact e
  · rw [if_neg h]; exact e
theorem r_check_j3 (x : S47) (hs : Small x) (b c : Bool) (hc : c = !(decide (x.f0 = 3 ∨ x.f0 = 4))) : Ev (fun k => parchmentref09_Check.j3 k b c x.f0 x.f1 x.f2 x.f3 x.f4 x.f5 x.f6 x.f7) (if b = true ∧ bytesOk x then 0 else 6) := by
  subst hc
  refine Ev.step (f := fun k => _) (fun k => by rw [parchmentref09_Check.j3]) ?_
  by_cases h34 : x.f0 = 3 ∨ x.f0 = 4
  · rw [decide_eq_true h34]
    simp only [Bool.not_true, Bool.false_eq_true, if_false]
    by_cases h7 : x.f7 = true
    · simp only [if_pos h7]
      by_cases hb : b = true
      · simp only [if_pos hb]
        by_cases h5 : x.f5.size = 32
        · simp only [if_pos (show (x.f5.size : Int) = 32 by omega)]
          by_cases h6 : x.f6.toList = []
          · simp only [if_pos h6]; exact evc (.inl ⟨by simp [bytesOk, *], Ev.now _⟩)
          · simp only [if_neg h6]; exact evc (.inr ⟨by simp [bytesOk, *], Ev.now _⟩)
        · simp only [if_neg (show ¬ (x.f5.size : Int) = 32 by omega)]; exact evc (.inr ⟨by simp [bytesOk, *], Ev.now _⟩)
      · simp only [if_neg hb]; exact evc (.inr ⟨by simp [bytesOk, *], Ev.now _⟩)
    · simp only [if_neg h7]
      by_cases hb : b = true
      · simp only [if_pos hb]
        by_cases h6 : (x.f6.size : Int) ≤ 1024
        · simp only [if_pos h6, rleaf_f _ hs.s6, Option.bind_some]
          by_cases h5 : x.f5.toList = (leaf x.f6).toList
          · simp only [if_pos h5]; exact evc (.inl ⟨⟨hb, by unfold bytesOk; rw [if_pos h34, if_neg h7]; exact ⟨h5, by omega⟩⟩, Ev.now _⟩)
          · simp only [if_neg h5]; exact evc (.inr ⟨by simp [bytesOk, *], Ev.now _⟩)
        · simp only [if_neg h6]; exact evc (.inr ⟨fun h => h6 (by have h' := h.2; unfold bytesOk at h'; rw [if_pos h34, if_neg h7] at h'; omega), Ev.now _⟩)
      · simp only [if_neg hb]; exact evc (.inr ⟨by simp [bytesOk, *], Ev.now _⟩)
  · rw [decide_eq_false h34]
    simp only [Bool.not_false, if_true]
    by_cases hb : b = true
    · simp only [if_pos hb]
      by_cases h5 : x.f5.toList = []
      · simp only [if_pos h5]
        by_cases h6 : x.f6.toList = []
        · simp only [if_pos h6]
          cases h7 : x.f7
          · exact evc (.inl ⟨by simp [bytesOk, *], Ev.now _⟩)
          · exact evc (.inr ⟨by simp [bytesOk, *], Ev.now _⟩)
        · simp only [if_neg h6]; exact evc (.inr ⟨by simp [bytesOk, *], Ev.now _⟩)
      · simp only [if_neg h5]; exact evc (.inr ⟨by simp [bytesOk, *], Ev.now _⟩)
    · simp only [if_neg hb]; exact evc (.inr ⟨by simp [bytesOk, *], Ev.now _⟩)
theorem r_check_j2 (x : S47) (hs : Small x) (b : Bool) : Ev (fun k => parchmentref09_Check.j2 k b x.f0 x.f1 x.f2 x.f3 x.f4 x.f5 x.f6 x.f7) (if b = true ∧ bytesOk x then 0 else 6) := by
  refine Ev.step (f := fun k => _) (fun k => by rw [parchmentref09_Check.j2]) ?_
  by_cases h3 : x.f0 = 3
  · simp only [if_pos h3]; exact r_check_j3 x hs b false (by rw [decide_eq_true (.inl h3)]; rfl)
  · simp only [if_neg h3]
    refine r_check_j3 x hs b _ ?_
    by_cases h4 : x.f0 = 4
    · rw [decide_eq_true (.inr h4), h4]; rfl
    · rw [decide_eq_false (fun h => h.elim h3 h4)]; simp [h4]
theorem r_check_j1 (x : S47) (hs : Small x) (b : Bool) : Ev (fun k => parchmentref09_Check.j1 k b x.f0 x.f1 x.f2 x.f3 x.f4 x.f5 x.f6 x.f7) (if b = true ∧ numsOk x ∧ bytesOk x then 0 else 6) := by
  refine Ev.step (f := fun k => _) (fun k => by rw [parchmentref09_Check.j1]) ?_
  have n4 := hs.n4
  have key : ∀ q : Bool, (q = true ↔ b = true ∧ numsOk x) → Ev (fun k => parchmentref09_Check.j2 k q x.f0 x.f1 x.f2 x.f3 x.f4 x.f5 x.f6 x.f7) (if b = true ∧ numsOk x ∧ bytesOk x then 0 else 6) := by
    intro q hq
    have h := r_check_j2 x hs q
    simp only [hq, and_assoc] at h
    exact h
  unfold numsOk at key ⊢
  by_cases h3 : x.f0 < 3
  · simp only [if_pos h3] at key ⊢
    by_cases hb : b = true
    · simp only [if_pos hb]
      by_cases hd : x.f3 = 0
      · simp only [if_pos hd]; exact key _ (by simp [hb, hd])
      · simp only [if_neg hd]; exact key _ (by simp [hb, hd])
    · simp only [if_neg hb]; exact key _ (by simp [hb])
  · simp only [if_neg h3] at key ⊢
    by_cases h0 : x.f0 = 3
    · simp only [if_pos h0]
      by_cases hb : b = true
      · simp only [if_pos hb]
        by_cases hd : x.f3 > 0
        · simp only [if_pos hd]; exact key _ (by simp [hb, h0]; omega)
        · simp only [if_neg hd]; exact key _ (by simp [hb, h0]; omega)
      · simp only [if_neg hb]; exact key _ (by simp [hb])
    · simp only [if_neg h0]
      by_cases hb : b = true
      · simp only [if_pos hb]
        by_cases hd : x.f3 > 0
        · simp only [if_pos hd]; exact key _ (by simp [hb, h0]; omega)
        · simp only [if_neg hd]; exact key _ (by simp [hb, h0]; omega)
      · simp only [if_neg hb]; exact key _ (by simp [hb])
theorem r_check_j0 (x : S47) (hs : Small x) (b : Bool) : Ev (fun k => parchmentref09_Check.j0 k b x.f0 x.f1 x.f2 x.f3 x.f4 x.f5 x.f6 x.f7) (if b = true ∧ (if x.f0 = 2 then nameS x.f2 = true else x.f2.toList = []) ∧ numsOk x ∧ bytesOk x then 0 else 6) := by
  refine Ev.step (f := fun k => _) (fun k => by rw [parchmentref09_Check.j0]) ?_
  by_cases h2 : x.f0 = 2
  · simp only [if_pos h2]
    by_cases hb : b = true
    · simp only [if_pos hb, hb, true_and]
      exact Ev.bind (r_name _ hs.s2) (r_check_j1 x hs _)
    · simp only [if_neg hb]
      have h := r_check_j1 x hs false
      simp only [Bool.false_eq_true, false_and, if_false] at h
      rw [if_neg (fun h => hb h.1)]; exact h
  · simp only [if_neg h2]
    by_cases hb : b = true
    · simp only [if_pos hb, hb, true_and]
      have h := r_check_j1 x hs (x.f2.toList == ([] : List UInt8))
      simp only [beq_iff_eq] at h
      exact h
    · simp only [if_neg hb]
      have h := r_check_j1 x hs false
      simp only [Bool.false_eq_true, false_and, if_false] at h
      rw [if_neg (fun h => hb h.1)]; exact h
theorem r_check (x : S47) (hs : Small x) : Ev (fun k => parchmentref09_Check.f k x.f0 x.f1 x.f2 x.f3 x.f4 x.f5 x.f6 x.f7) (chk x) := by
  unfold parchmentref09_Check.f chk okRev
  have hf := r_check_j0 x hs false
  simp only [Bool.false_eq_true, false_and, if_false] at hf
  by_cases h1 : x.f0 ≥ 1
  · simp only [if_pos h1]
    by_cases h5 : x.f0 ≤ 5
    · simp only [if_pos h5]
      refine Ev.bind (r_name _ hs.s1) ?_
      have h := r_check_j0 x hs (nameS x.f1)
      have e : (1 ≤ x.f0 ∧ x.f0 ≤ 5 ∧ nameS x.f1 = true ∧ (if x.f0 = 2 then nameS x.f2 = true else x.f2.toList = []) ∧ numsOk x ∧ bytesOk x) ↔ (nameS x.f1 = true ∧ (if x.f0 = 2 then nameS x.f2 = true else x.f2.toList = []) ∧ numsOk x ∧ bytesOk x) := ⟨fun h => h.2.2, fun h => ⟨h1, h5, h⟩⟩
      simp only [e]
      exact h
    · simp only [if_neg h5]; rw [if_neg (fun h => h5 h.2.1)]; exact hf
  · simp only [if_neg h1]; rw [if_neg (fun h => h1 h.1)]; exact hf
end Go.Proofs.Ytdcbacbilncnnaa.T
end
section
/- A block without the bytes of a revision's document. -/
set_option linter.unusedVariables false
set_option linter.unusedSimpArgs false
namespace Go.Proofs.Ytdcbacbilncnnaa.T
open Go.RowKit Go.Proofs.Ytdcbacbilncnnaa.PMk Go.Proofs.YtdcbacbilncnnaaW.PrintWords Go.Proofs.YtdcbacbilncnnaaW.PrintLast
def bod (op : Int) : Bool := if op = 3 then true else op == 4
theorem bod_f (op : Int) : block_bodied.f op = some (bod op) := by unfold block_bodied.f bod; split <;> rfl
theorem bod_calls (op : Int) (w : World) : Calls Try.prog 49 #[.int .i64 op] w fun e w' => e = .returned (.bool (bod op)) ∧ Drawn0 w w' := block_bodied.calls op (bod op) w (bod_f op)
theorem put4 {W : World} {g : Nat} {x0 x1 x2 x3 y0 y1 y2 y3 : Value} (h : W.heap[g]? = some (.cells #[x0, x1, x2, x3] 25 (0, 0))) : ((((W.setCell ⟨g, 0, none⟩ y0).setCell ⟨g, 1, none⟩ y1).setCell ⟨g, 2, none⟩ y2).setCell ⟨g, 3, none⟩ y3).heap[g]? = some (.cells #[y0, y1, y2, y3] 25 (0, 0)) :=
  blk_put (blk_put (blk_put (blk_put h 0 y0 rfl) 1 y1 rfl) 2 y2 rfl) 3 y3 rfl
theorem below4 {w W : World} {g n : Nat} {y0 y1 y2 y3 : Value} (h : Below n w W) (hg : n ≤ g) : Below n w ((((W.setCell ⟨g, 0, none⟩ y0).setCell ⟨g, 1, none⟩ y1).setCell ⟨g, 2, none⟩ y2).setCell ⟨g, 3, none⟩ y3) :=
  (((h.setCell hg _).setCell hg _).setCell hg _).setCell hg _
theorem rows4 {W : World} {g n : Nat} {v x0 x1 x2 x3 y0 y1 y2 y3 : Value} {l : List S47} (hR : Kd.R k47 47 W n (fun _ => True) v l) (h : W.heap[g]? = some (.cells #[x0, x1, x2, x3] 25 (0, 0))) :
    Kd.R k47 47 ((((W.setCell ⟨g, 0, none⟩ y0).setCell ⟨g, 1, none⟩ y1).setCell ⟨g, 2, none⟩ y2).setCell ⟨g, 3, none⟩ y3) n (fun _ => True) v l :=
  Kd.R_set (Kd.R_set (Kd.R_set (Kd.R_set hR h (by decide) 0 y0) (blk_put h 0 y0 rfl) (by decide) 1 y1) (blk_put (blk_put h 0 y0 rfl) 1 y1 rfl) (by decide) 2 y2) (blk_put (blk_put (blk_put h 0 y0 rfl) 1 y1 rfl) 2 y2 rfl) (by decide) 3 y3
/-- What Without refuses. -/
def wo (l : List S47) (i : Int) : Bool := decide (0 ≤ i) && decide (i < l.length) && bod (rd_T47 l i).f0 && !(rd_T47 l i).f7
def dropBody (x : S47) : S47 := ⟨x.f0, x.f1, x.f2, x.f3, x.f4, x.f5, ⟨#[]⟩, x.f7⟩
def bare (x : S47) : S47 := ⟨x.f0, x.f1, x.f2, x.f3, x.f4, x.f5, ⟨#[]⟩, true⟩
set_option maxRecDepth 100000 in
set_option maxHeartbeats 2000000 in
theorem without_ok (a0 : Int) (a1 : ByteArray) (a2 : Int) (A : Option Addr) (c : Nat) (l : List S47) (i : Int) (w : World) (hC : Kd.C k47 w A l.length l) (hb : wo l i = true) (hn : l.length < 1000000) :
    Calls Try.prog 19 #[.agg #[.int .u64 a0, .string a1, .int .u64 a2, .slice A l.length c], .int .i64 i] w fun e w' => ∃ v, e = .returned (.tuple #[.agg #[.int .u64 a0, .string a1, .int .u64 a2, v], .int .i64 0]) ∧ Kd.R k47 47 w' w.heap.size (fun _ => True) v (l.set i.toNat (bare (rd_T47 l i))) ∧ Below w.heap.size w w' := by
  obtain ⟨len, hlen⟩ : ∃ n, l.length = n := ⟨_, rfl⟩
  unfold wo at hb
  rw [hlen] at hC hb hn ⊢
  have HC := Lib.hid hC
  have HL := Lib.hid hlen
  clear hC hlen
  simp only [Bool.and_eq_true, decide_eq_true_eq, Bool.not_eq_true'] at hb
  obtain ⟨⟨⟨h2, h3⟩, hbx⟩, h7⟩ := hb
  obtain ⟨ad, hA, hx0, hx1, hx2, hx3, hx4, hx5, hx6, hx7⟩ := at_T47 HC.out i h2 h3
  subst hA
  clear hx1 hx2 hx3 hx4 hx5 hx6
  rw [h7] at hx7
  have hB2 : Below w.heap.size w ((w.alloc (.cells #[.int .u64 a0, .string a1, .int .u64 a2, .slice (some ad) len c] 25)).alloc (.cells #[.int .u64 0, .string ⟨#[]⟩, .int .u64 0, .slice none 0 0] 25)) := ((Below.refl _ _).alloc (Nat.le_refl _) _).alloc (by simp) _
  replace hx0 := (hB2.cell (World.block_lt_of_cell? w _ hx0)).trans hx0
  replace hx7 := (hB2.cell (World.block_lt_of_cell? w _ hx7)).trans hx7
  have HB2 := Lib.hid hB2
  have hi0 : ¬ i < 0 := by omega
  have hi1 : ¬ (len : Int) ≤ i := by omega
  have hd1 : decide ((len : Int) ≤ i) = false := decide_eq_false hi1
  clear hB2
  have HBC := Lib.hid (fun w' => bod_calls (rd_T47 l i).f0 w')
  rw [hbx] at HBC
  go_enter Try.func19, Try.ntmps19
  go_wp2_with (first
    | (go_at_call 49; refine (HBC.out _).mono ?_; rintro e w2 ⟨rfl, ⟨nd, rfl⟩⟩)
    | (at_builtin; refine Kd.R_append_rows k47 (Rr := k47.K _) (w0 := w) w.heap.size rfl (.const (.slice none 0 0)) (.tmp 35) 23 47 _ 96 rfl Try.underlying23 info47 rfl (by decide) (by decide) (.slice none 0 0) [] l (some ad) len c (fun _ => True) (fun _ => False) rfl rfl (Kd.R_nil _ _ _ _ _) (Kd.C_below HC.out (pw_below_drewN HB2.out nd)) (fun x cs h => by obtain rfl := k47_open h; exact k47_mkM _ _ _ x) (fun _ h => h.elim) (fun _ _ => trivial) (pw_below_drewN HB2.out nd) (by simp; omega) (by simp; omega) ?_))
  intro v1 w1 hR hB hg hat
  have G0 : w1.heap[w.heap.size]? = some (.cells #[.int .u64 a0, .string a1, .int .u64 a2, .slice (some ad) len c] 25 (0, 0)) := blk_grown (blk_drewN (blk_alloc (heap_alloc_new w _) _) nd) hg (by simp [Value.ownBlock])
  have G1 : w1.heap[w.heap.size + 1]? = some (.cells #[.int .u64 0, .string ⟨#[]⟩, .int .u64 0, .slice none 0 0] 25 (0, 0)) := blk_grown (blk_drewN (by simpa using heap_alloc_new (w.alloc (.cells #[.int .u64 a0, .string a1, .int .u64 a2, .slice (some ad) len c] 25)) _) nd) hg (by simp [Value.ownBlock])
  obtain ⟨g, cap, rfl, hgb, hgl, _⟩ := Kd.R_form hR (by have := HL.out; simp; omega)
  rw [HL.out] at hR ⊢
  have f0 := blk_frozen G0 3
  have c3 : w1.cell? ⟨w.heap.size, 3, none⟩ = some (.slice (some ad) len c) := (blk_cell G0 3).trans rfl
  have HR1 := Kd.R_set hR G0 (by decide) 3 (.slice (some ⟨g, 0, none⟩) len cap)
  have hG0 := blk_put G0 3 (.slice (some ⟨g, 0, none⟩) len cap) rfl
  have hG1 := blk_far (p := ⟨w.heap.size, 3, none⟩) G1 (by simp) (.slice (some ⟨g, 0, none⟩) len cap)
  have hBB := hB.setCell (p := ⟨w.heap.size, 3, none⟩) (Nat.le_refl _) (.slice (some ⟨g, 0, none⟩) len cap)
  have hne : w.heap.size ≠ g := fun e => Kd.R_ne hR G0 (by decide) (by rw [e]; rfl)
  have hne1 : w.heap.size + 1 ≠ g := fun e => Kd.R_ne hR G1 (by decide) (by rw [e]; rfl)
  clear hat hg hx0 hx7 hR
  go_wp2_with fail
  clear f0 c3 G0 G1 hB
  generalize w1.setCell ⟨w.heap.size, 3, none⟩ (.slice (some ⟨g, 0, none⟩) len cap) = W at HR1 hG0 hG1 hBB ⊢
  have G0 := Lib.hid hG0
  have G1 := Lib.hid hG1
  have HB := Lib.hid hBB
  clear hG0 hG1 hBB
  obtain ⟨cf, hcl, hN, hcc, hfr⟩ := Kd.R_elem HR1 z47 i h2 h3
  obtain rfl := k47_openM hN
  have e6 : W.cell? ⟨g, i.toNat * 8 + 6, none⟩ = some _ := hcc 6 _ rfl
  have q6 : W.frozen? ⟨g, i.toNat * 8 + 6, none⟩ = false := hfr 6
  have e7 : W.cell? ⟨g, i.toNat * 8 + 7, none⟩ = some _ := hcc 7 _ rfl
  have q7 : W.frozen? ⟨g, i.toNat * 8 + 7, none⟩ = false := hfr 7
  have hgd : (l.set i.toNat (dropBody (l.getD i.toNat z47))).getD i.toNat z47 = dropBody (l.getD i.toNat z47) := by
    have := HL.out
    rw [List.getD_eq_getElem?_getD, List.getElem?_set_self (by omega)]
    rfl
  refine start_ (n := 12) (S := fun w' => w'.cell? ⟨w.heap.size, 3, none⟩ = some (.slice (some ⟨g, 0, none⟩) len cap)) (ds := []) #[false, false, false, false, false, false, false, false, false, false, false, false] (by kernel_rfl) rfl rfl ((blk_cell G0.out 3).trans rfl) (fun hHeld => ?_)
  refine pure_ (i := 0) (N := some 38) (v := ?_) (a' := ?_) #[true, false, false, false, false, false, false, false, false, false, false, false] rfl rfl (by kernel_rfl) (fun _ _ _ h => h) (Or.inl ⟨by rfl, ?_⟩) ?_ ?_
  rotate_left
  · intro w'
    go_simp
    with_reducible rfl
  rotate_left
  · simp only [Act.put, List.setIfInBounds_toArray, List.set_cons_zero, List.set_cons_succ, i64_w, i32_w]
    rfl
  refine pure_ (i := 2) (N := some 40) (v := ?_) (a' := ?_) #[true, false, true, false, false, false, false, false, false, false, false, false] rfl rfl (by kernel_rfl) (fun _ _ _ h => h) (Or.inl ⟨by rfl, ?_⟩) ?_ ?_
  rotate_left
  · intro w'
    go_simp
    with_reducible rfl
  rotate_left
  · simp only [Act.put, List.setIfInBounds_toArray, List.set_cons_zero, List.set_cons_succ, i64_w, i32_w]
    rfl
  refine pure_ (i := 3) (N := some 41) (v := ?_) (a' := ?_) #[true, false, true, true, false, false, false, false, false, false, false, false] rfl rfl (by kernel_rfl) (fun _ _ _ h => h) (Or.inl ⟨by rfl, ?_⟩) ?_ ?_
  rotate_left
  · intro w'
    go_simp
    with_reducible rfl
  rotate_left
  · simp only [Act.put, List.setIfInBounds_toArray, List.set_cons_zero, List.set_cons_succ, i64_w, i32_w]
    rfl
  refine pure_ (i := 5) (N := some 43) (v := ?_) (a' := ?_) #[true, false, true, true, false, true, false, false, false, false, false, false] rfl rfl (by kernel_rfl) (fun _ _ _ h => h) (Or.inl ⟨by rfl, ?_⟩) ?_ ?_
  rotate_left
  · intro w'
    go_simp
    with_reducible rfl
  rotate_left
  · simp only [Act.put, List.setIfInBounds_toArray, List.set_cons_zero, List.set_cons_succ, i64_w, i32_w]
    rfl
  refine take_ (i := 1) (N := some 39) (v := ?_) (a' := ?_) #[true, true, true, true, false, true, false, false, false, false, false, false] rfl rfl (by kernel_rfl) (fun _ _ _ h => h) (Or.inl ⟨by rfl, ?_⟩) hHeld ?_ ?_
  rotate_left
  · intro w' s0
    go_simp
    with_reducible rfl
  rotate_left
  · simp only [Act.put, List.setIfInBounds_toArray, List.set_cons_zero, List.set_cons_succ, i64_w, i32_w]
    rfl
  refine pure_ (i := 6) (N := some 44) (v := ?_) (a' := ?_) #[true, true, true, true, false, true, true, false, false, false, false, false] rfl rfl (by kernel_rfl) (fun _ _ _ h => h) (Or.inl ⟨by rfl, ?_⟩) ?_ ?_
  rotate_left
  · intro w'
    go_simp
    with_reducible rfl
  rotate_left
  · simp only [Act.put, List.setIfInBounds_toArray, List.set_cons_zero, List.set_cons_succ, i64_w, i32_w]
    rfl
  refine pure_ (i := 7) (N := some 45) (v := ?_) (a' := ?_) #[true, true, true, true, false, true, true, true, false, false, false, false] rfl rfl (by kernel_rfl) (fun _ _ _ h => h) (Or.inl ⟨by rfl, ?_⟩) ?_ ?_
  rotate_left
  · intro w'
    go_simp
    with_reducible rfl
  rotate_left
  · simp only [Act.put, List.setIfInBounds_toArray, List.set_cons_zero, List.set_cons_succ, i64_w, i32_w]
    rfl
  refine take_ (i := 4) (N := some 42) (v := ?_) (a' := ?_) #[true, true, true, true, true, true, true, true, false, false, false, false] rfl rfl (by kernel_rfl) (fun _ _ _ h => h) (Or.inl ⟨by rfl, ?_⟩) hHeld ?_ ?_
  rotate_left
  · intro w' s0
    go_simp
    with_reducible rfl
  rotate_left
  · simp only [Act.put, List.setIfInBounds_toArray, List.set_cons_zero, List.set_cons_succ, i64_w, i32_w]
    rfl
  refine one_ (i := 8) (N := none) #[true, true, true, true, true, true, true, true, true, false, false, false] rfl rfl (by kernel_rfl) (by decide) (fun K hK => ?_)
  refine skip_ (w1 := ?_) (by rfl) rfl ?_ ?_
  rotate_left
  · go_simp
    rfl
  have G2 : Hid ((W.setCell ⟨g, i.toNat * 8 + 6, none⟩ (.string ⟨#[]⟩)).heap[w.heap.size]? = some (Obj.cells #[.int .u64 a0, .string a1, .int .u64 a2, .slice (some ⟨g, 0, none⟩) len cap] 25 (0, 0))) := Lib.hid (blk_far (p := ⟨g, i.toNat * 8 + 6, none⟩) G0.out hne (.string ⟨#[]⟩))
  have P8 := (Kd.R_seg HR1 i h2 h3 (seg := [.string ⟨#[]⟩]) (j := 6) hcl hcc (show 7 ≤ 8 from by decide) (x' := dropBody (l.getD i.toNat z47)) (k47_mkM _ _ _ (dropBody (l.getD i.toNat z47))) (fun _ hk => hk)).1
  replace P8 : Kd.R k47 47 (W.setCell ⟨g, i.toNat * 8 + 6, none⟩ (.string ⟨#[]⟩)) w.heap.size (fun _ => True) (.slice (some ⟨g, 0, none⟩) len cap) (l.set i.toNat (dropBody (l.getD i.toNat z47))) := P8
  clear hcl hcc hfr hN e6 q6
  obtain ⟨cf, hcl, hN, hcc, hfr⟩ := Kd.R_elem P8 z47 i h2 h3
  obtain rfl := k47_openM hN
  rw [hgd] at hcl hcc
  refine hK.out _ _ ((blk_cell G2.out 3).trans rfl) (fun hHeld => ?_)
  clear hK K
  refine pure_ (i := 9) (N := some 46) (v := ?_) (a' := ?_) #[true, true, true, true, true, true, true, true, true, true, false, false] rfl rfl (by kernel_rfl) (fun _ _ _ h => h) (Or.inl ⟨by rfl, ?_⟩) ?_ ?_
  rotate_left
  · intro w'
    go_simp
    with_reducible rfl
  rotate_left
  · simp only [Act.put, List.setIfInBounds_toArray, List.set_cons_zero, List.set_cons_succ, i64_w, i32_w]
    rfl
  refine pure_ (i := 10) (N := some 47) (v := ?_) (a' := ?_) #[true, true, true, true, true, true, true, true, true, true, true, false] rfl rfl (by kernel_rfl) (fun _ _ _ h => h) (Or.inl ⟨by rfl, ?_⟩) ?_ ?_
  rotate_left
  · intro w'
    go_simp
    with_reducible rfl
  rotate_left
  · simp only [Act.put, List.setIfInBounds_toArray, List.set_cons_zero, List.set_cons_succ, i64_w, i32_w]
    rfl
  refine one_ (i := 11) (N := none) #[true, true, true, true, true, true, true, true, true, true, true, true] rfl rfl (by kernel_rfl) (by decide) (fun K hK => ?_)
  refine skip_ (w1 := ?_) (by rfl) rfl ?_ ?_
  rotate_left
  · go_simp
    rfl
  have P11 := (Kd.R_seg P8 i h2 h3 (seg := [.bool true]) (j := 7) hcl hcc (show 8 ≤ 8 from by decide) (x' := bare (l.getD i.toNat z47)) (k47_mkM _ _ _ (bare (l.getD i.toNat z47))) (fun _ hk => hk)).1
  have G3 : Hid (((W.setCell ⟨g, i.toNat * 8 + 6, none⟩ (.string ⟨#[]⟩)).setCell ⟨g, i.toNat * 8 + 7, none⟩ (.bool true)).heap[w.heap.size]? = some (Obj.cells #[.int .u64 a0, .string a1, .int .u64 a2, .slice (some ⟨g, 0, none⟩) len cap] 25 (0, 0))) := Lib.hid (blk_far (p := ⟨g, i.toNat * 8 + 7, none⟩) G2.out hne (.bool true))
  refine hK.out _ _ ((blk_cell G3.out 3).trans rfl) (fun hHeld => ?_)
  clear hK K
  refine done_ (by kernel_rfl) ?_
  have G4 : ((W.setCell ⟨g, i.toNat * 8 + 6, none⟩ (.string ⟨#[]⟩)).setCell ⟨g, i.toNat * 8 + 7, none⟩ (.bool true)).heap[w.heap.size + 1]? = some (.cells #[.int .u64 0, .string ⟨#[]⟩, .int .u64 0, .slice none 0 0] 25 (0, 0)) :=
    blk_far (p := ⟨g, i.toNat * 8 + 7, none⟩) (blk_far (p := ⟨g, i.toNat * 8 + 6, none⟩) G1.out hne1 _) hne1 _
  have HB5 := (HB.out.setCell (p := ⟨g, i.toNat * 8 + 6, none⟩) hgb (.string ⟨#[]⟩)).setCell (p := ⟨g, i.toNat * 8 + 7, none⟩) hgb (.bool true)
  have HB6 : Below w.heap.size w ((W.setCell ⟨g, i.toNat * 8 + 6, none⟩ (.string ⟨#[]⟩)).setCell ⟨g, i.toNat * 8 + 7, none⟩ (.bool true)).drew := below_drew1 HB5
  rw [List.set_set] at P11
  replace P11 : Kd.R k47 47 ((W.setCell ⟨g, i.toNat * 8 + 6, none⟩ (.string ⟨#[]⟩)).setCell ⟨g, i.toNat * 8 + 7, none⟩ (.bool true)).drew w.heap.size (fun _ => True) (.slice (some ⟨g, 0, none⟩) len cap) (l.set i.toNat (bare (l.getD i.toNat z47))) := P11
  have G5 : ((W.setCell ⟨g, i.toNat * 8 + 6, none⟩ (.string ⟨#[]⟩)).setCell ⟨g, i.toNat * 8 + 7, none⟩ (.bool true)).drew.heap[w.heap.size]? = some (.cells #[.int .u64 a0, .string a1, .int .u64 a2, .slice (some ⟨g, 0, none⟩) len cap] 25 (0, 0)) := G3.out
  have G6 : ((W.setCell ⟨g, i.toNat * 8 + 6, none⟩ (.string ⟨#[]⟩)).setCell ⟨g, i.toNat * 8 + 7, none⟩ (.bool true)).drew.heap[w.heap.size + 1]? = some (.cells #[.int .u64 0, .string ⟨#[]⟩, .int .u64 0, .slice none 0 0] 25 (0, 0)) := G4
  clear hHeld P8 hfr hcl hN hcc e7 q7 G0 G1 G2 G3 G4 HB HB5 HR1
  generalize ((W.setCell ⟨g, i.toNat * 8 + 6, none⟩ (.string ⟨#[]⟩)).setCell ⟨g, i.toNat * 8 + 7, none⟩ (.bool true)).drew = V at P11 G5 G6 HB6 ⊢
  have b0 : V.cell? ⟨w.heap.size, 0, none⟩ = some (.int .u64 a0) := (blk_cell G5 0).trans rfl
  have b1 : V.cell? ⟨w.heap.size, 1, none⟩ = some (.string a1) := (blk_cell G5 1).trans rfl
  have b2 : V.cell? ⟨w.heap.size, 2, none⟩ = some (.int .u64 a2) := (blk_cell G5 2).trans rfl
  have b3 : V.cell? ⟨w.heap.size, 3, none⟩ = some (.slice (some ⟨g, 0, none⟩) len cap) := (blk_cell G5 3).trans rfl
  have r0 : V.cell? ⟨w.heap.size + 1, 0, none⟩ = some (.int .u64 0) := (blk_cell G6 0).trans rfl
  have r1 : V.cell? ⟨w.heap.size + 1, 1, none⟩ = some (.string ⟨#[]⟩) := (blk_cell G6 1).trans rfl
  have r2 : V.cell? ⟨w.heap.size + 1, 2, none⟩ = some (.int .u64 0) := (blk_cell G6 2).trans rfl
  have r3 : V.cell? ⟨w.heap.size + 1, 3, none⟩ = some (.slice none 0 0) := (blk_cell G6 3).trans rfl
  have f0 := blk_frozen G6 0
  have f1 := blk_frozen G6 1
  have f2 := blk_frozen G6 2
  have f3 := blk_frozen G6 3
  have HG6 := Lib.hid G6
  have HP := Lib.hid P11
  have HB7 := Lib.hid HB6
  clear P11 G5 G6 HB6
  go_wp2_with fail
  exact bodyPost_ret (results_ct rfl _ _ (w.heap.size + 1) 25 _ (0, 0) _ rfl (put4 HG6.out) Try.underlying25 rfl (by kernel_rfl)) rfl ⟨_, rfl, rows4 HP.out HG6.out, below4 HB7.out (by omega)⟩
end Go.Proofs.Ytdcbacbilncnnaa.T
end
section
/- The laws' block beside the reference's. -/
set_option linter.unusedVariables false
set_option linter.unusedSimpArgs false
namespace Go.Proofs.Ytdcbacbilncnnaa.T
open Go.RowKit Go.Proofs.Ytdcbacbilncnnaa.PMk Go.Proofs.YtdcbacbilncnnaaW.PrintWords Go.Proofs.YtdcbacbilncnnaaW.PrintLast
/-- A revision as the reference has it. -/
def rf (x : S47) : S44 := ⟨x.f0, x.f1, x.f2, x.f3, x.f4, x.f5, x.f6, x.f7⟩
theorem ref_any (x : S47) (w : World) : Calls Try.prog 21 #[.agg #[.int .i64 x.f0, .string x.f1, .string x.f2, .int .u64 x.f3, .int .u64 x.f4, .string x.f5, .string x.f6, .bool x.f7]] w fun e w' => e = .returned (.agg #[.int .i64 x.f0, .string x.f1, .string x.f2, .int .u64 x.f3, .int .u64 x.f4, .string x.f5, .string x.f6, .bool x.f7]) ∧ Below w.heap.size w w' :=
  parchmentlaw09_Ref.calls _ _ _ _ _ _ _ _ _ _ _ _ _ _ _ _ w rfl
/-- What holds in Block's loop: its four variables in memory, and the revisions that were put behind. -/
structure BL (w wr : World) (a0 : Int) (a1 : ByteArray) (a2 : Int) (sl v : Value) (l : List S44) : Prop where
  g0 : wr.heap[w.heap.size]? = some (.cells #[.int .u64 a0, .string a1, .int .u64 a2, sl] 25 (0, 0))
  g1 : wr.heap[w.heap.size + 1]? = some (.cells #[.int .u64 0, .string ⟨#[]⟩, .int .u64 0, .slice none 0 0] 25 (0, 0))
  g2 : wr.heap[w.heap.size + 1 + 1]? = some (.cells #[.int .u64 0, .string ⟨#[]⟩, .int .u64 0, .slice none 0 0] 28 (0, 0))
  g3 : wr.heap[w.heap.size + 3]? = some (.cells #[.int .u64 a0, .string a1, .int .u64 a2, v] 28 (0, 0))
  r : Kd.R k44 44 wr w.heap.size (fun _ => True) v l
  b : Below w.heap.size w wr
theorem BL.below {w wr w1 : World} {a0 : Int} {a1 : ByteArray} {a2 : Int} {sl v : Value} {l : List S44} (h : BL w wr a0 a1 a2 sl v l) (hb : Below wr.heap.size wr w1) : BL w w1 a0 a1 a2 sl v l :=
  ⟨blk_below h.g0 hb, blk_below h.g1 hb, blk_below h.g2 hb, blk_below h.g3 hb, Kd.R_below h.r hb, h.b.trans (hb.mono h.b.size)⟩
/-- A revision was put behind, the variable still holds the elder row. -/
structure BM (w wr : World) (a0 : Int) (a1 : ByteArray) (a2 : Int) (sl v v1 : Value) (l : List S44) : Prop where
  g0 : wr.heap[w.heap.size]? = some (.cells #[.int .u64 a0, .string a1, .int .u64 a2, sl] 25 (0, 0))
  g1 : wr.heap[w.heap.size + 1]? = some (.cells #[.int .u64 0, .string ⟨#[]⟩, .int .u64 0, .slice none 0 0] 25 (0, 0))
  g2 : wr.heap[w.heap.size + 1 + 1]? = some (.cells #[.int .u64 0, .string ⟨#[]⟩, .int .u64 0, .slice none 0 0] 28 (0, 0))
  g3 : wr.heap[w.heap.size + 3]? = some (.cells #[.int .u64 a0, .string a1, .int .u64 a2, v] 28 (0, 0))
  r : Kd.R k44 44 wr w.heap.size (fun _ => True) v1 l
  b : Below w.heap.size w wr
theorem BL.app {w wr w1 : World} {a0 : Int} {a1 : ByteArray} {a2 : Int} {sl v v1 : Value} {l l1 : List S44} (h : BL w wr a0 a1 a2 sl v l) (hr : Kd.R k44 44 w1 w.heap.size (fun _ => True) v1 l1) (hb : Below w.heap.size w w1) (hg : wr.grownBy w1 v.ownBlock) : BM w w1 a0 a1 a2 sl v v1 l1 :=
  ⟨blk_grown h.g0 hg (Kd.R_ne h.r h.g0 (by decide)), blk_grown h.g1 hg (Kd.R_ne h.r h.g1 (by decide)), blk_grown h.g2 hg (Kd.R_ne h.r h.g2 (by decide)), blk_grown h.g3 hg (Kd.R_ne h.r h.g3 (by decide)), hr, hb⟩
theorem BM.put {w wr : World} {a0 : Int} {a1 : ByteArray} {a2 : Int} {sl v v1 : Value} {l : List S44} (h : BM w wr a0 a1 a2 sl v v1 l) : BL w (wr.setCell ⟨w.heap.size + 3, 3, none⟩ v1) a0 a1 a2 sl v1 l :=
  ⟨blk_far h.g0 (by simp) _, blk_far h.g1 (by simp) _, blk_far h.g2 (by simp) _, blk_put h.g3 3 v1 rfl, Kd.R_set h.r h.g3 (by decide) 3 v1, h.b.setCell (by simp) _⟩
/-- The first result is written. -/
structure BE (w wr : World) (a0 : Int) (a1 : ByteArray) (a2 : Int) (sl v : Value) (l : List S44) : Prop where
  g0 : wr.heap[w.heap.size]? = some (.cells #[.int .u64 a0, .string a1, .int .u64 a2, sl] 25 (0, 0))
  g1 : wr.heap[w.heap.size + 1]? = some (.cells #[.int .u64 a0, .string a1, .int .u64 a2, sl] 25 (0, 0))
  g2 : wr.heap[w.heap.size + 1 + 1]? = some (.cells #[.int .u64 0, .string ⟨#[]⟩, .int .u64 0, .slice none 0 0] 28 (0, 0))
  g3 : wr.heap[w.heap.size + 3]? = some (.cells #[.int .u64 a0, .string a1, .int .u64 a2, v] 28 (0, 0))
  r : Kd.R k44 44 wr w.heap.size (fun _ => True) v l
  b : Below w.heap.size w wr
theorem far4 {W : World} {g g' t : Nat} {cs : Array Value} {y0 y1 y2 y3 : Value} (h : W.heap[g]? = some (.cells cs t (0, 0))) (hne : g ≠ g') : ((((W.setCell ⟨g', 0, none⟩ y0).setCell ⟨g', 1, none⟩ y1).setCell ⟨g', 2, none⟩ y2).setCell ⟨g', 3, none⟩ y3).heap[g]? = some (.cells cs t (0, 0)) :=
  blk_far (blk_far (blk_far (blk_far h hne _) hne _) hne _) hne _
theorem rows44 {W : World} {g n t : Nat} {v x0 x1 x2 x3 y0 y1 y2 y3 : Value} {l : List S44} (ht : ∀ q, q ∈ 44 :: k44.E → q ≠ t) (hR : Kd.R k44 44 W n (fun _ => True) v l) (h : W.heap[g]? = some (.cells #[x0, x1, x2, x3] t (0, 0))) :
    Kd.R k44 44 ((((W.setCell ⟨g, 0, none⟩ y0).setCell ⟨g, 1, none⟩ y1).setCell ⟨g, 2, none⟩ y2).setCell ⟨g, 3, none⟩ y3) n (fun _ => True) v l :=
  Kd.R_set (Kd.R_set (Kd.R_set (Kd.R_set hR h ht 0 y0) (blk_put h 0 y0 rfl) ht 1 y1) (blk_put (blk_put h 0 y0 rfl) 1 y1 rfl) ht 2 y2) (blk_put (blk_put (blk_put h 0 y0 rfl) 1 y1 rfl) 2 y2 rfl) ht 3 y3
theorem put4' {W : World} {g t : Nat} {x0 x1 x2 x3 y0 y1 y2 y3 : Value} (h : W.heap[g]? = some (.cells #[x0, x1, x2, x3] t (0, 0))) : ((((W.setCell ⟨g, 0, none⟩ y0).setCell ⟨g, 1, none⟩ y1).setCell ⟨g, 2, none⟩ y2).setCell ⟨g, 3, none⟩ y3).heap[g]? = some (.cells #[y0, y1, y2, y3] t (0, 0)) :=
  blk_put (blk_put (blk_put (blk_put h 0 y0 rfl) 1 y1 rfl) 2 y2 rfl) 3 y3 rfl
theorem BL.first {w wr : World} {a0 : Int} {a1 : ByteArray} {a2 : Int} {sl v : Value} {l : List S44} (h : BL w wr a0 a1 a2 sl v l) :
    BE w ((((wr.setCell ⟨w.heap.size + 1, 0, none⟩ (.int .u64 a0)).setCell ⟨w.heap.size + 1, 1, none⟩ (.string a1)).setCell ⟨w.heap.size + 1, 2, none⟩ (.int .u64 a2)).setCell ⟨w.heap.size + 1, 3, none⟩ sl) a0 a1 a2 sl v l :=
  ⟨far4 h.g0 (by simp), put4' h.g1, far4 h.g2 (by simp), far4 h.g3 (by simp), rows44 (by decide) h.r h.g1, below4 h.b (by simp)⟩
theorem BE.second {w wr : World} {a0 : Int} {a1 : ByteArray} {a2 : Int} {sl v : Value} {l : List S44} (h : BE w wr a0 a1 a2 sl v l) :
    ((((wr.setCell ⟨w.heap.size + 1 + 1, 0, none⟩ (.int .u64 a0)).setCell ⟨w.heap.size + 1 + 1, 1, none⟩ (.string a1)).setCell ⟨w.heap.size + 1 + 1, 2, none⟩ (.int .u64 a2)).setCell ⟨w.heap.size + 1 + 1, 3, none⟩ v).heap[w.heap.size + 1]? = some (.cells #[.int .u64 a0, .string a1, .int .u64 a2, sl] 25 (0, 0)) ∧
    ((((wr.setCell ⟨w.heap.size + 1 + 1, 0, none⟩ (.int .u64 a0)).setCell ⟨w.heap.size + 1 + 1, 1, none⟩ (.string a1)).setCell ⟨w.heap.size + 1 + 1, 2, none⟩ (.int .u64 a2)).setCell ⟨w.heap.size + 1 + 1, 3, none⟩ v).heap[w.heap.size + 1 + 1]? = some (.cells #[.int .u64 a0, .string a1, .int .u64 a2, v] 28 (0, 0)) ∧
    Kd.R k44 44 ((((wr.setCell ⟨w.heap.size + 1 + 1, 0, none⟩ (.int .u64 a0)).setCell ⟨w.heap.size + 1 + 1, 1, none⟩ (.string a1)).setCell ⟨w.heap.size + 1 + 1, 2, none⟩ (.int .u64 a2)).setCell ⟨w.heap.size + 1 + 1, 3, none⟩ v) w.heap.size (fun _ => True) v l ∧
    Below w.heap.size w ((((wr.setCell ⟨w.heap.size + 1 + 1, 0, none⟩ (.int .u64 a0)).setCell ⟨w.heap.size + 1 + 1, 1, none⟩ (.string a1)).setCell ⟨w.heap.size + 1 + 1, 2, none⟩ (.int .u64 a2)).setCell ⟨w.heap.size + 1 + 1, 3, none⟩ v) :=
  ⟨far4 h.g1 (by simp), put4' h.g2, rows44 (by decide) h.r h.g2, below4 h.b (by omega)⟩
set_option maxRecDepth 100000 in
set_option maxHeartbeats 4000000 in
theorem block_raw (a0 : Int) (a1 : ByteArray) (a2 : Int) (A : Option Addr) (c : Nat) (l : List S47) (w : World) (hC : Kd.C k47 w A l.length l) (hc : l.length ≤ c) :
    Calls Try.prog 10 #[.agg #[.int .u64 a0, .string a1, .int .u64 a2, .slice A l.length c]] w fun e w' => ∃ v, e = .returned (.tuple #[.agg #[.int .u64 a0, .string a1, .int .u64 a2, .slice A (min l.length 66) c], .agg #[.int .u64 a0, .string a1, .int .u64 a2, v]]) ∧ Kd.R k44 44 w' w.heap.size (fun _ => True) v ((l.take 66).map rf) ∧ Below w.heap.size w w' := by
  obtain ⟨len, hlen⟩ : ∃ n, l.length = n := ⟨_, rfl⟩
  rw [hlen] at hC hc ⊢
  have HC := Lib.hid hC
  have HL := Lib.hid hlen
  clear hC hlen
  go_enter Try.func10, Try.ntmps10
  go_upto_if 9 with fail
  go_cut [10, 11, 12, 13] (fun v10 v11 v12 v13 wc => wc = (((w.alloc (.cells #[.int .u64 a0, .string a1, .int .u64 a2, .slice A (min len 66) c] 25)).alloc (.cells #[.int .u64 0, .string ⟨#[]⟩, .int .u64 0, .slice none 0 0] 25)).alloc (.cells #[.int .u64 0, .string ⟨#[]⟩, .int .u64 0, .slice none 0 0] 28)))
  case first =>
    by_cases h66 : (len : Int) > 66
    · have hm : min len 66 = 66 := by omega
      have hs : (66 : Nat) < len := by omega
      have hd : decide ((66 : Int) < (len : Int)) = true := decide_eq_true h66
      have hd2 : decide ((66 : Nat) < len) = true := decide_eq_true hs
      have hc66 : (66 : Nat) ≤ c := by omega
      have hc67 : (66 : Int) ≤ (c : Int) := by omega
      go_wp2_with fail
      go_meet
      case rel => rw [hm]
    · have hm : min len 66 = len := by omega
      go_wp2_with fail
      go_meet
      case rel => rw [hm]
  case rest =>
    subst hcut
    obtain ⟨t, ht⟩ : ∃ t, min len 66 = t := ⟨_, rfl⟩
    rw [ht]
    have hB0 : Hid (Below w.heap.size w (((w.alloc (.cells #[.int .u64 a0, .string a1, .int .u64 a2, .slice A t c] 25)).alloc (.cells #[.int .u64 0, .string ⟨#[]⟩, .int .u64 0, .slice none 0 0] 25)).alloc (.cells #[.int .u64 0, .string ⟨#[]⟩, .int .u64 0, .slice none 0 0] 28))) :=
      Lib.hid ((((Below.refl _ _).alloc (Nat.le_refl _) _).alloc (by simp) _).alloc (by simp; omega) _)
    have G0 : Hid ((((w.alloc (.cells #[.int .u64 a0, .string a1, .int .u64 a2, .slice A t c] 25)).alloc (.cells #[.int .u64 0, .string ⟨#[]⟩, .int .u64 0, .slice none 0 0] 25)).alloc (.cells #[.int .u64 0, .string ⟨#[]⟩, .int .u64 0, .slice none 0 0] 28)).heap[w.heap.size]? = some (.cells #[.int .u64 a0, .string a1, .int .u64 a2, .slice A t c] 25 (0, 0))) :=
      Lib.hid (blk_alloc (blk_alloc (heap_alloc_new w _) _) _)
    have G1 : Hid ((((w.alloc (.cells #[.int .u64 a0, .string a1, .int .u64 a2, .slice A t c] 25)).alloc (.cells #[.int .u64 0, .string ⟨#[]⟩, .int .u64 0, .slice none 0 0] 25)).alloc (.cells #[.int .u64 0, .string ⟨#[]⟩, .int .u64 0, .slice none 0 0] 28)).heap[w.heap.size + 1]? = some (.cells #[.int .u64 0, .string ⟨#[]⟩, .int .u64 0, .slice none 0 0] 25 (0, 0))) :=
      Lib.hid (blk_alloc (by simpa using heap_alloc_new (w.alloc _) _) _)
    have G2 : Hid ((((w.alloc (.cells #[.int .u64 a0, .string a1, .int .u64 a2, .slice A t c] 25)).alloc (.cells #[.int .u64 0, .string ⟨#[]⟩, .int .u64 0, .slice none 0 0] 25)).alloc (.cells #[.int .u64 0, .string ⟨#[]⟩, .int .u64 0, .slice none 0 0] 28)).heap[w.heap.size + 1 + 1]? = some (.cells #[.int .u64 0, .string ⟨#[]⟩, .int .u64 0, .slice none 0 0] 28 (0, 0))) :=
      Lib.hid (by simpa using heap_alloc_new ((w.alloc _).alloc _) _)
    have hz : (((w.alloc (.cells #[.int .u64 a0, .string a1, .int .u64 a2, .slice A t c] 25)).alloc (.cells #[.int .u64 0, .string ⟨#[]⟩, .int .u64 0, .slice none 0 0] 25)).alloc (.cells #[.int .u64 0, .string ⟨#[]⟩, .int .u64 0, .slice none 0 0] 28)).heap.size = w.heap.size + 3 := by simp
    generalize ((w.alloc (.cells #[.int .u64 a0, .string a1, .int .u64 a2, .slice A t c] 25)).alloc (.cells #[.int .u64 0, .string ⟨#[]⟩, .int .u64 0, .slice none 0 0] 25)).alloc (.cells #[.int .u64 0, .string ⟨#[]⟩, .int .u64 0, .slice none 0 0] 28) = W at hB0 G0 G1 G2 hz ⊢
    have b0 : W.cell? ⟨w.heap.size, 0, none⟩ = some (.int .u64 a0) := (blk_cell G0.out 0).trans rfl
    have b1 : W.cell? ⟨w.heap.size, 1, none⟩ = some (.string a1) := (blk_cell G0.out 1).trans rfl
    have b2 : W.cell? ⟨w.heap.size, 2, none⟩ = some (.int .u64 a2) := (blk_cell G0.out 2).trans rfl
    go_wp2_with fail
    have HQ0 : Hid (BL w (W.alloc (.cells #[.int .u64 a0, .string a1, .int .u64 a2, .slice none 0 0] 28)) a0 a1 a2 (.slice A t c) (.slice none 0 0) ((l.take 0).map rf)) :=
      Lib.hid ⟨blk_alloc G0.out _, blk_alloc G1.out _, blk_alloc G2.out _, by rw [← hz]; exact heap_alloc_new W _, Kd.R_nil _ _ _ _ _, hB0.out.alloc (by omega) _⟩
    clear G0 G1 G2 hB0 b0 b1 b2 hz
    go_loopw [5] (fun v5 wr => ∃ (i : Nat) (v : Value), i ≤ t ∧ v5 = .int .i64 i ∧ Hid (BL w wr a0 a1 a2 (.slice A t c) v ((l.take i).map rf))) (fun v5 _ => (t - intOf v5).toNat)
    case atStart => exact ⟨0, _, Nat.zero_le _, rfl, HQ0⟩
    case round =>
      obtain ⟨i, v, hi1, rfl, HQ⟩ := hrel
      clear HQ0
      have ht66 : t ≤ 66 := by omega
      have htl : t ≤ len := by omega
      have b3 : wr.cell? ⟨w.heap.size, 3, none⟩ = some (.slice A t c) := (blk_cell HQ.out.g0 3).trans rfl
      by_cases h1 : i < t
      · obtain ⟨ad, hA, hx0, hx1, hx2, hx3, hx4, hx5, hx6, hx7⟩ := at_T47 HC.out (i : Int) (by omega) (by omega)
        subst hA
        replace hx0 := (HQ.out.b.cell (World.block_lt_of_cell? w _ hx0)).trans hx0
        replace hx1 := (HQ.out.b.cell (World.block_lt_of_cell? w _ hx1)).trans hx1
        replace hx2 := (HQ.out.b.cell (World.block_lt_of_cell? w _ hx2)).trans hx2
        replace hx3 := (HQ.out.b.cell (World.block_lt_of_cell? w _ hx3)).trans hx3
        replace hx4 := (HQ.out.b.cell (World.block_lt_of_cell? w _ hx4)).trans hx4
        replace hx5 := (HQ.out.b.cell (World.block_lt_of_cell? w _ hx5)).trans hx5
        replace hx6 := (HQ.out.b.cell (World.block_lt_of_cell? w _ hx6)).trans hx6
        replace hx7 := (HQ.out.b.cell (World.block_lt_of_cell? w _ hx7)).trans hx7
        have q3 : wr.cell? ⟨w.heap.size + 3, 3, none⟩ = some v := (blk_cell HQ.out.g3 3).trans rfl
        simp only [Int.toNat_natCast] at hx0 hx1 hx2 hx3 hx4 hx5 hx6 hx7
        obtain ⟨x, hx⟩ : ∃ x, rd_T47 l (i : Int) = x := ⟨_, rfl⟩
        rw [hx] at hx0 hx1 hx2 hx3 hx4 hx5 hx6 hx7
        have HSU : Hid ((l.take i).map rf ++ [rf x] = (l.take (i + 1)).map rf) := Lib.hid (by
          have hl := HL.out
          rw [List.take_succ_eq_append_getElem (show i < l.length by omega), List.map_append, ← hx]
          simp [rd_T47, List.getD_eq_getElem?_getD, List.getElem?_eq_getElem (show i < l.length by omega)])
        have hlen6 : ((l.take i).map rf).length = i := by
          have hl := HL.out
          simp; omega
        have hln1 : ((l.take (i + 1)).map rf).length = i + 1 := by
          have hl := HL.out
          simp; omega
        clear hx
        go_upto_region 7 with fail
        refine start_ (n := 12) (S := fun w' => w'.cell? ⟨w.heap.size, 3, none⟩ = some (.slice (some ad) t c) ∧ w'.cell? ⟨w.heap.size + 3, 3, none⟩ = some v ∧ w'.cell? (ad.add (i * 8)) = some (.int .i64 x.f0) ∧ w'.cell? ⟨(ad.add (i * 8)).block, (ad.add (i * 8)).off + 1, none⟩ = some (.string x.f1) ∧ w'.cell? ⟨(ad.add (i * 8)).block, (ad.add (i * 8)).off + 2, none⟩ = some (.string x.f2) ∧ w'.cell? ⟨(ad.add (i * 8)).block, (ad.add (i * 8)).off + 3, none⟩ = some (.int .u64 x.f3) ∧ w'.cell? ⟨(ad.add (i * 8)).block, (ad.add (i * 8)).off + 4, none⟩ = some (.int .u64 x.f4) ∧ w'.cell? ⟨(ad.add (i * 8)).block, (ad.add (i * 8)).off + 5, none⟩ = some (.string x.f5) ∧ w'.cell? ⟨(ad.add (i * 8)).block, (ad.add (i * 8)).off + 6, none⟩ = some (.string x.f6) ∧ w'.cell? ⟨(ad.add (i * 8)).block, (ad.add (i * 8)).off + 7, none⟩ = some (.bool x.f7)) (ds := [9, 11]) #[false, false, false, false, false, false, false, false, false, false, false, false] (by kernel_rfl) rfl rfl ⟨b3, q3, hx0, hx1, hx2, hx3, hx4, hx5, hx6, hx7⟩ (fun hHeld => ?_)
        refine pure_ (i := 0) (N := some 28) (v := ?_) (a' := ?_) #[true, false, false, false, false, false, false, false, false, false, false, false] rfl rfl (by kernel_rfl) (fun _ _ _ h => h) (Or.inl ⟨by rfl, ?_⟩) ?_ ?_
        rotate_left
        · intro w'
          go_simp
          with_reducible rfl
        rotate_left
        · simp only [Act.put, List.setIfInBounds_toArray, List.set_cons_zero, List.set_cons_succ, i64_w, i32_w]
          rfl
        refine pure_ (i := 2) (N := some 30) (v := ?_) (a' := ?_) #[true, false, true, false, false, false, false, false, false, false, false, false] rfl rfl (by kernel_rfl) (fun _ _ _ h => h) (Or.inl ⟨by rfl, ?_⟩) ?_ ?_
        rotate_left
        · intro w'
          go_simp
          with_reducible rfl
        rotate_left
        · simp only [Act.put, List.setIfInBounds_toArray, List.set_cons_zero, List.set_cons_succ, i64_w, i32_w]
          rfl
        refine pure_ (i := 4) (N := some 32) (v := ?_) (a' := ?_) #[true, false, true, false, true, false, false, false, false, false, false, false] rfl rfl (by kernel_rfl) (fun _ _ _ h => h) (Or.inl ⟨by rfl, ?_⟩) ?_ ?_
        rotate_left
        · intro w'
          go_simp
          with_reducible rfl
        rotate_left
        · simp only [Act.put, List.setIfInBounds_toArray, List.set_cons_zero, List.set_cons_succ, i64_w, i32_w]
          rfl
        refine take_ (i := 1) (N := some 29) (v := ?_) (a' := ?_) #[true, true, true, false, true, false, false, false, false, false, false, false] rfl rfl (by kernel_rfl) (fun _ _ _ h => h) (Or.inl ⟨by rfl, ?_⟩) hHeld ?_ ?_
        rotate_left
        · rintro w' ⟨s0, s1, s2, s3, s4, s5, s6, s7, s8, s9⟩
          go_simp
          with_reducible rfl
        rotate_left
        · simp only [Act.put, List.setIfInBounds_toArray, List.set_cons_zero, List.set_cons_succ, i64_w, i32_w]
          rfl
        refine take_ (i := 3) (N := some 31) (v := ?_) (a' := ?_) #[true, true, true, true, true, false, false, false, false, false, false, false] rfl rfl (by kernel_rfl) (fun _ _ _ h => h) (Or.inl ⟨by rfl, ?_⟩) hHeld ?_ ?_
        rotate_left
        · rintro w' ⟨s0, s1, s2, s3, s4, s5, s6, s7, s8, s9⟩
          go_simp
          with_reducible rfl
        rotate_left
        · simp only [Act.put, List.setIfInBounds_toArray, List.set_cons_zero, List.set_cons_succ, i64_w, i32_w]
          rfl
        refine pure_ (i := 5) (N := some 33) (v := ?_) (a' := ?_) #[true, true, true, true, true, true, false, false, false, false, false, false] rfl rfl (by kernel_rfl) (fun _ _ _ h => h) (Or.inl ⟨by rfl, ?_⟩) ?_ ?_
        rotate_left
        · intro w'
          go_simp
          with_reducible rfl
        rotate_left
        · simp only [Act.put, List.setIfInBounds_toArray, List.set_cons_zero, List.set_cons_succ, i64_w, i32_w]
          rfl
        refine take_ (i := 6) (N := some 34) (v := ?_) (a' := ?_) #[true, true, true, true, true, true, true, false, false, false, false, false] rfl rfl (by kernel_rfl) (fun _ _ _ h => h) (Or.inl ⟨by rfl, ?_⟩) hHeld ?_ ?_
        rotate_left
        · rintro w' ⟨s0, s1, s2, s3, s4, s5, s6, s7, s8, s9⟩
          go_simp
          with_reducible rfl
        rotate_left
        · simp only [Act.put, List.setIfInBounds_toArray, List.set_cons_zero, List.set_cons_succ, i64_w, i32_w]
          rfl
        refine one_ (i := 7) (N := some 35) #[true, true, true, true, true, true, true, true, false, false, false, false] rfl rfl (by kernel_rfl) (by decide) (fun K hK => ?_)
        refine goes_ Try.func21 (by kernel_rfl) rfl #[.agg #[.int .i64 x.f0, .string x.f1, .string x.f2, .int .u64 x.f3, .int .u64 x.f4, .string x.f5, .string x.f6, .bool x.f7]] (by rfl) rfl rfl (by simp only [List.map_toArray, List.map_cons, List.map_nil]; rfl) ?_
        with_reducible refine (ref_any x _).mono ?_
        rintro e w3 ⟨rfl, hb⟩
        refine ⟨_, rfl, ?_⟩
        have hb' : Below wr.heap.size wr w3 := ⟨hb.os, hb.tape, hb.output, hb.size, hb.block⟩
        have HQ3 := Lib.hid (HQ.out.below hb')
        clear hb'
        refine hK.out _ _ ⟨(hb.cell (World.block_lt_of_cell? _ _ b3)).trans b3, (hb.cell (World.block_lt_of_cell? _ _ q3)).trans q3, (hb.cell (World.block_lt_of_cell? _ _ hx0)).trans hx0, (hb.cell (World.block_lt_of_cell? _ _ hx1)).trans hx1, (hb.cell (World.block_lt_of_cell? _ _ hx2)).trans hx2, (hb.cell (World.block_lt_of_cell? _ _ hx3)).trans hx3, (hb.cell (World.block_lt_of_cell? _ _ hx4)).trans hx4, (hb.cell (World.block_lt_of_cell? _ _ hx5)).trans hx5, (hb.cell (World.block_lt_of_cell? _ _ hx6)).trans hx6, (hb.cell (World.block_lt_of_cell? _ _ hx7)).trans hx7⟩ (fun hHeld => ?_)
        clear hK K
        refine norm_ (a' := ?_) ?_ ?_
        rotate_left
        · show Act.put _ (some 35) _ = _
          simp only [Act.put, List.setIfInBounds_toArray, List.set_cons_zero, List.set_cons_succ, i64_w, i32_w]
          rfl
        refine one_ (i := 8) (N := some 36) #[true, true, true, true, true, true, true, true, true, false, false, false] rfl rfl (by kernel_rfl) (by decide) (fun K hK => ?_)
        refine value_ (w1 := ?_) (v := ?_) (by rfl) rfl ?_ ?_
        rotate_left 2
        · go_simp
          constructor
          · rfl
          · rfl
        have hb4 := hb.alloc hb.size (.cells #[.int .i64 x.f0, .string x.f1, .string x.f2, .int .u64 x.f3, .int .u64 x.f4, .string x.f5, .string x.f6, .bool x.f7] 44)
        refine hK.out _ _ ⟨(hb4.cell (World.block_lt_of_cell? _ _ b3)).trans b3, (hb4.cell (World.block_lt_of_cell? _ _ q3)).trans q3, (hb4.cell (World.block_lt_of_cell? _ _ hx0)).trans hx0, (hb4.cell (World.block_lt_of_cell? _ _ hx1)).trans hx1, (hb4.cell (World.block_lt_of_cell? _ _ hx2)).trans hx2, (hb4.cell (World.block_lt_of_cell? _ _ hx3)).trans hx3, (hb4.cell (World.block_lt_of_cell? _ _ hx4)).trans hx4, (hb4.cell (World.block_lt_of_cell? _ _ hx5)).trans hx5, (hb4.cell (World.block_lt_of_cell? _ _ hx6)).trans hx6, (hb4.cell (World.block_lt_of_cell? _ _ hx7)).trans hx7⟩ (fun hHeld => ?_)
        clear hK K
        refine norm_ (a' := ?_) ?_ ?_
        rotate_left
        · show Act.put _ (some 36) _ = _
          simp only [Act.put, List.setIfInBounds_toArray, List.set_cons_zero, List.set_cons_succ, i64_w, i32_w]
          rfl
        refine last_ (i := 9) (N := some 37) #[true, true, true, true, true, true, true, true, true, true, false, false] rfl rfl (by kernel_rfl) (by decide) (fun K hK => ?_)
        refine Kd.R_append_step k44 (w0 := w) w.heap.size (by rfl) (.tmp 29) (.tmp 36) 26 44 _ 96 rfl Try.underlying26 info44 rfl (by decide) (by decide) v ((l.take i).map rf) (rf x) [.int .i64 x.f0, .string x.f1, .string x.f2, .int .u64 x.f3, .int .u64 x.f4, .string x.f5, .string x.f6, .bool x.f7] (fun _ => True) (fun _ => False) (by rfl) (by rfl) (k44_mkM _ _ _ (rf x)) (fun _ h => h.elim) (fun _ _ => trivial) HQ3.out.r HQ3.out.b HQ3.out.b.size (by simp; omega) ?_
        intro v1 w4 hR4 hB4 hg4 hat4
        rw [HSU.out] at hR4
        obtain ⟨A1, c1, e1⟩ := Kd.R_slice hR4
        rw [hln1] at e1
        subst e1
        have HQ4 := Lib.hid (HQ3.out.app hR4 hB4 hg4)
        have q4 := (blk_cell HQ4.out.g3 3).trans rfl
        have qf4 := blk_frozen HQ4.out.g3 3
        refine hK.out _ _ ?_
        clear hK K
        refine norm_ (a' := ?_) ?_ ?_
        rotate_left
        · show Act.put _ (some 37) _ = _
          simp only [Act.put, List.setIfInBounds_toArray, List.set_cons_zero, List.set_cons_succ, i64_w, i32_w]
          rfl
        refine pure_ (i := 10) (N := some 38) (v := ?_) (a' := ?_) #[true, true, true, true, true, true, true, true, true, true, true, false] rfl rfl (by kernel_rfl) (fun _ _ _ h => h) (Or.inl ⟨by rfl, ?_⟩) ?_ ?_
        rotate_left
        · intro w'
          go_simp
          with_reducible rfl
        rotate_left
        · simp only [Act.put, List.setIfInBounds_toArray, List.set_cons_zero, List.set_cons_succ, i64_w, i32_w]
          rfl
        refine last_ (i := 11) (N := none) #[true, true, true, true, true, true, true, true, true, true, true, true] rfl rfl (by kernel_rfl) (by decide) (fun K hK => ?_)
        refine skip_ (w1 := ?_) (by rfl) rfl ?_ ?_
        rotate_left
        · go_simp
          rfl
        refine hK.out _ _ ?_
        clear hK K
        refine done_ (by kernel_rfl) ?_
        go_wp2
        go_roundw
        case rel => exact ⟨i + 1, _, by omega, by go_num, Lib.hid HQ4.out.put⟩
        case measure => simp [intOf]; omega
      · obtain rfl : i = t := by omega
        have hln : ((l.take i).map rf).length = i := by
          have hl := HL.out
          simp; omega
        obtain ⟨Av, cv, e1⟩ := Kd.R_slice HQ.out.r
        rw [hln] at e1
        subst e1
        go_upto_region 8 with fail
        have y0 := (blk_cell HQ.out.g1 0).trans rfl
        have y1 := (blk_cell HQ.out.g1 1).trans rfl
        have y2 := (blk_cell HQ.out.g1 2).trans rfl
        have y3 := (blk_cell HQ.out.g1 3).trans rfl
        have yf0 := blk_frozen HQ.out.g1 0
        have yf1 := blk_frozen HQ.out.g1 1
        have yf2 := blk_frozen HQ.out.g1 2
        have yf3 := blk_frozen HQ.out.g1 3
        refine start_ (n := 4) (S := fun w' => w'.cell? ⟨w.heap.size, 0, none⟩ = some (.int .u64 a0) ∧ w'.cell? ⟨w.heap.size, 1, none⟩ = some (.string a1) ∧ w'.cell? ⟨w.heap.size, 2, none⟩ = some (.int .u64 a2) ∧ w'.cell? ⟨w.heap.size, 3, none⟩ = some (.slice A i c) ∧ w'.cell? ⟨w.heap.size + 3, 0, none⟩ = some (.int .u64 a0) ∧ w'.cell? ⟨w.heap.size + 3, 1, none⟩ = some (.string a1) ∧ w'.cell? ⟨w.heap.size + 3, 2, none⟩ = some (.int .u64 a2) ∧ w'.cell? ⟨w.heap.size + 3, 3, none⟩ = some (.slice Av i cv)) (ds := [3]) #[false, false, false, false] (by kernel_rfl) rfl rfl ⟨(blk_cell HQ.out.g0 0).trans rfl, (blk_cell HQ.out.g0 1).trans rfl, (blk_cell HQ.out.g0 2).trans rfl, (blk_cell HQ.out.g0 3).trans rfl, (blk_cell HQ.out.g3 0).trans rfl, (blk_cell HQ.out.g3 1).trans rfl, (blk_cell HQ.out.g3 2).trans rfl, (blk_cell HQ.out.g3 3).trans rfl⟩ (fun hHeld => ?_)
        refine take_ (i := 0) (N := some 39) (v := ?_) (a' := ?_) #[true, false, false, false] rfl rfl (by kernel_rfl) (fun _ _ _ h => h) (Or.inl ⟨by rfl, ?_⟩) hHeld ?_ ?_
        rotate_left
        · rintro w' ⟨s0, s1, s2, s3, s4, s5, s6, s7⟩
          go_simp
          with_reducible rfl
        rotate_left
        · simp only [Act.put, List.setIfInBounds_toArray, List.set_cons_zero, List.set_cons_succ, i64_w, i32_w]
          rfl
        refine take_ (i := 1) (N := some 40) (v := ?_) (a' := ?_) #[true, true, false, false] rfl rfl (by kernel_rfl) (fun _ _ _ h => h) (Or.inl ⟨by rfl, ?_⟩) hHeld ?_ ?_
        rotate_left
        · rintro w' ⟨s0, s1, s2, s3, s4, s5, s6, s7⟩
          go_simp
          with_reducible rfl
        rotate_left
        · simp only [Act.put, List.setIfInBounds_toArray, List.set_cons_zero, List.set_cons_succ, i64_w, i32_w]
          rfl
        refine one_ (i := 2) (N := none) #[true, true, true, false] rfl rfl (by kernel_rfl) (by decide) (fun K hK => ?_)
        refine skip_ (w1 := ?_) (by rfl) rfl ?_ ?_
        rotate_left
        · go_simp
          rfl
        have HE := Lib.hid HQ.out.first
        have z0 := (blk_cell HE.out.g2 0).trans rfl
        have z1 := (blk_cell HE.out.g2 1).trans rfl
        have z2 := (blk_cell HE.out.g2 2).trans rfl
        have z3 := (blk_cell HE.out.g2 3).trans rfl
        have zf0 := blk_frozen HE.out.g2 0
        have zf1 := blk_frozen HE.out.g2 1
        have zf2 := blk_frozen HE.out.g2 2
        have zf3 := blk_frozen HE.out.g2 3
        refine hK.out _ _ ⟨(blk_cell HE.out.g0 0).trans rfl, (blk_cell HE.out.g0 1).trans rfl, (blk_cell HE.out.g0 2).trans rfl, (blk_cell HE.out.g0 3).trans rfl, (blk_cell HE.out.g3 0).trans rfl, (blk_cell HE.out.g3 1).trans rfl, (blk_cell HE.out.g3 2).trans rfl, (blk_cell HE.out.g3 3).trans rfl⟩ (fun hHeld => ?_)
        clear hK K
        refine last_ (i := 3) (N := none) #[true, true, true, true] rfl rfl (by kernel_rfl) (by decide) (fun K hK => ?_)
        refine skip_ (w1 := ?_) (by rfl) rfl ?_ ?_
        rotate_left
        · go_simp
          rfl
        refine hK.out _ _ ?_
        clear hK K
        refine done_ (by kernel_rfl) ?_
        go_wp2
        obtain ⟨k1, k2, k3, k4⟩ := HE.out.second
        clear HE HQ
        generalize ((((((((wr.setCell ⟨w.heap.size + 1, 0, none⟩ (.int .u64 a0)).setCell ⟨w.heap.size + 1, 1, none⟩ (.string a1)).setCell ⟨w.heap.size + 1, 2, none⟩ (.int .u64 a2)).setCell ⟨w.heap.size + 1, 3, none⟩ (.slice A i c)).setCell ⟨w.heap.size + 1 + 1, 0, none⟩ (.int .u64 a0)).setCell ⟨w.heap.size + 1 + 1, 1, none⟩ (.string a1)).setCell ⟨w.heap.size + 1 + 1, 2, none⟩ (.int .u64 a2)).setCell ⟨w.heap.size + 1 + 1, 3, none⟩ (.slice Av i cv)) = V at k1 k2 k3 k4 ⊢
        have htk : (l.take 66).map rf = (l.take i).map rf := by
          have hl := HL.out
          congr 1
          rw [← ht, ← hl]
          rcases Nat.le_total l.length 66 with h | h
          · rw [Nat.min_eq_left h, List.take_of_length_le h, List.take_length]
          · rw [Nat.min_eq_right h]
        rw [htk, ht]
        exact bodyPost_ret (results_cc rfl _ _ (w.heap.size + 1) (w.heap.size + 1 + 1) 25 28 _ _ (0, 0) (0, 0) _ _ rfl k1 Try.underlying25 rfl (by kernel_rfl) rfl k2 Try.underlying28 rfl (by kernel_rfl)) rfl ⟨_, rfl, k3, below_drew1 k4⟩
end Go.Proofs.Ytdcbacbilncnnaa.T
end
section
namespace Go.Proofs.Ytdcbacbilncnnaa.PMk
open Go.RowKit Go.Proofs.YtdcbacbilncnnaaW.PrintWords Go.Proofs.YtdcbacbilncnnaaW.PrintLast Go.Proofs.YtdcbacbilncnnaaW.PrintMore
attribute [local go_sem] max2_int min2_int max_two min_two max_three min_three max_four min_four   -- for this text's walks alone
set_option linter.unusedVariables false
set_option linter.unusedSimpArgs false
/-! ### parchmentref09_Root: function 43 -/
def parchmentref09_Root.l0 : Nat → List ByteArray → Int → Int → ByteArray → Int → List (S44) → Option (ByteArray)
 | 0, _, _, _, _, _, _ => none
 | k + 1, x3, x4, x216000, x216001, x216002, x216003 => if x4 < (x216003.length : Int) then (if 0 ≤ x4 then ((parchmentref09_Meta.f k ((rd_T44 x216003 x4).f0) ((rd_T44 x216003 x4).f1) ((rd_T44 x216003 x4).f2) ((rd_T44 x216003 x4).f3) ((rd_T44 x216003 x4).f4) ((rd_T44 x216003 x4).f5) ((rd_T44 x216003 x4).f6) ((rd_T44 x216003 x4).f7)).bind fun t220 => ((parchmentref01_Leaf.f t220).bind fun t221 => (if x3.length < 8796093022208 then (parchmentref09_Root.l0 k (x3 ++ [t221]) (wrap64 (x4 + 1)) x216000 x216001 x216002 x216003) else (none)))) else (none)) else ((parchmentref08_Root.f k x3).bind fun t225 => (some t225))
def parchmentref09_Root.f (k : Nat) (a0_0 : Int) (a0_1 : ByteArray) (a0_2 : Int) (l0_3 : List (S44)) : Option (ByteArray) := parchmentref09_Root.l0 k (([] : List ByteArray)) 0 a0_0 a0_1 a0_2 l0_3
set_option maxHeartbeats 8000000 in
set_option maxRecDepth 100000 in
theorem parchmentref09_Root.calls (k : Nat) (a0_0 : Int) (a0_1 : ByteArray) (a0_2 : Int) (A0_3 : Option Addr) (c0_3 : Nat) (l0_3 : List (S44)) (r : ByteArray) (w : World) (hr0_3 : Kd.C k44 w A0_3 l0_3.length l0_3) (hc0_3 : l0_3.length ≤ c0_3) (h : parchmentref09_Root.f k a0_0 a0_1 a0_2 l0_3 = some r) :
  Calls Try.prog 43 #[.agg #[.int .u64 a0_0, .string a0_1, .int .u64 a0_2, .slice A0_3 l0_3.length c0_3]] w fun e w' => e = .returned (.string r) ∧ Below w.heap.size w w' := by
 have hu28 := Try.underlying28
 have hu44 := Try.underlying44
 have HR0_3 := Aside0.mk hr0_3
 have HC0_3 := Aside0.mk hc0_3
 clear hr0_3 hc0_3
 have HB := Aside0.mk (Below.refl w.heap.size w)
 have H : (parchmentref09_Root.l0 k (([] : List ByteArray)) 0 a0_0 a0_1 a0_2 l0_3) = some r := h
 clear h
 obtain ⟨y216, hy216⟩ : ∃ y_ : List ByteArray, y_ = (([] : List ByteArray)) := ⟨_, rfl⟩
 replace H : (parchmentref09_Root.l0 k y216 0 a0_0 a0_1 a0_2 l0_3) = some r := by first | (rw [hy216]; with_reducible exact H) | (have H2_ := (Option.bind_some _ _).symm.trans H; rw [hy216]; with_reducible exact H2_) | (have H2_ := (Option.bind_some _ _).symm.trans H; with_reducible exact H2_) | with_reducible exact H | (rw [hy216]; exact H) | exact H
 have Ny216 := Aside0.mk hy216
 clear hy216
 have H' := Aside0.mk H
 clear H
 go_enter Try.func43, Try.ntmps43
 go_wp2_with (first | ((with_reducible refine gate_dst (N := 1) rfl ?_); refine box_event ?hg (N := 1) ?hd (cs := #[.int .u64 a0_0, .string a0_1, .int .u64 a0_2, .slice A0_3 l0_3.length c0_3]) (t := 28) ?hr ?_; (case hd => rfl); (case hg => rfl); (case hr => first | (go_simp; done) | (go_simp; rfl)); intro gb215 hg w2 hbox hb; have n0_ := Aside0.mk (below_step (bh_ HB.out) hb); have n1_ := Aside0.mk (hbox); have n2_ := Aside0.mk ((by rw [hg]; exact (below_size (bh_ HB.out)) : w.heap.size ≤ gb215)); have n3_ := Aside0.mk ((by rw [hg]; exact (below_size (bh_ HB.out)) : w.heap.size ≤ gb215)); clear HB; have HB := n0_; have BK215 := n1_; have GW215 := n2_; have GE215 := n3_; clear n0_ n1_ n2_ n3_; clear hb hbox hg) | ((with_reducible refine gate_dst (N := 5) rfl ?_); refine Kd.R_lit Kd.string _ 9 ?hg (N := 5) ?hd (xs := ([] : List ByteArray)) (inner := []) (ok := fun _ => True) (okp := fun _ => True) ?hr ?hp (fun _ hk => hk) trivial (Below.refl _ _) (Nat.le_refl _) (by simp) ?_; (case hd => rfl); (case hg => rfl); (case hr => first | (go_simp; done) | (go_simp; rfl)); (case hp => exact (Reps.none _ _)); intro v217 w3 ho4 hb hg_ hnew_; clear hg_ hnew_; (first | rw [← Ny216.out] at ho4 | (simp only [Int.reduceToNat] at ho4; rw [← Ny216.out] at ho4)); have HO218 := Aside0.mk (Kd.R_lower ho4 (below_size (bh_ HB.out))); replace BK215 := Aside0.mk (bk_ BK215.out hb); replace HB := Aside0.mk (below_step (bh_ HB.out) hb); clear hb ho4))
 go_loopg [3, 4] k (fun kq v3 v4 w' => ∃ (x3_1 : List ByteArray) (x4_1 : Int), v4 = .int .i64 x4_1 ∧ Aside0 (parchmentref09_Root.l0 kq x3_1 x4_1 a0_0 a0_1 a0_2 l0_3 = some r) ∧ Aside0 (kq ≤ k) ∧ Aside0 (Kd.R Kd.string 9 w' w.heap.size (fun _ => True) v3 x3_1) ∧ Aside0 (w'.heap[gb215]? = some (.cells #[.int .u64 a0_0, .string a0_1, .int .u64 a0_2, (.slice A0_3 l0_3.length c0_3)] 28 (0, 0))) ∧ Aside0 (Below w.heap.size w w'))
 case atStart => exact ⟨(y216), (0), (by first | rfl | (simp; done) | (simp [*]; done)), H', ⟨Nat.le_refl _⟩, ⟨br_ HO218.out⟩, ⟨bq_ BK215.out⟩, ⟨bh_ HB.out⟩⟩
 case round =>
  clear H'
  try clear p2
  try clear c4
  obtain ⟨x3_1, x4_1, rfl, HA, HK1, HO_3, BK215, HB⟩ := hrel
  cases gk with
  | zero => exact absurd HA.out (by simp [parchmentref09_Root.l0])
  | succ k1 =>
   have H := HA.out
   clear HA
   simp only [parchmentref09_Root.l0] at H
   by_cases c5 : x4_1 < (l0_3.length : Int)
   ·rw [if_pos c5] at H
    have c5b0 : decide (x4_1 < (l0_3.length : Int)) = true := decide_eq_true c5
    clear c5
    by_cases c6 : 0 ≤ x4_1
    ·rw [if_pos c6] at H
     have c6b0 : decide (0 ≤ x4_1) = true := decide_eq_true c6
     clear c6
     replace H := Option.bind_eq_some_iff.mp H
     obtain ⟨t220, A70, H⟩ := H
     replace H : ((parchmentref01_Leaf.f t220).bind fun t221 => (if x3_1.length < 8796093022208 then (parchmentref09_Root.l0 k1 (x3_1 ++ [t221]) (wrap64 (x4_1 + 1)) a0_0 a0_1 a0_2 l0_3) else (none))) = some r := H
     have A7 := Aside0.mk A70
     clear A70
     replace H := Option.bind_eq_some_iff.mp H
     obtain ⟨t221, A80, H⟩ := H
     replace H : (if x3_1.length < 8796093022208 then (parchmentref09_Root.l0 k1 (x3_1 ++ [t221]) (wrap64 (x4_1 + 1)) a0_0 a0_1 a0_2 l0_3) else (none)) = some r := H
     have A8 := Aside0.mk A80
     clear A80
     by_cases c9 : x3_1.length < 8796093022208
     ·rw [if_pos c9] at H
      have LMc9 := Aside0.mk c9
      clear c9
      obtain ⟨y222, hy222⟩ : ∃ y_ : List ByteArray, y_ = (x3_1 ++ [t221]) := ⟨_, rfl⟩
      replace H : (parchmentref09_Root.l0 k1 y222 (wrap64 (x4_1 + 1)) a0_0 a0_1 a0_2 l0_3) = some r := by first | (rw [hy222]; with_reducible exact H) | (have H2_ := (Option.bind_some _ _).symm.trans H; rw [hy222]; with_reducible exact H2_) | (have H2_ := (Option.bind_some _ _).symm.trans H; with_reducible exact H2_) | with_reducible exact H | (rw [hy222]; exact H) | exact H
      have Ny222 := Aside0.mk hy222
      clear hy222
      have H' := Aside0.mk H
      clear H
      obtain ⟨z10_0, z10_1, z10_2, z10_3, f10_0, f10_1, f10_2, f10_3⟩ := bc4_ BK215.out
      have p219 : 0 ≤ (x4_1 : Int) := of_decide_eq_true (by first | (with_reducible assumption) | assumption)
      have q219 : x4_1 < (l0_3.length : Int) := of_decide_eq_true (by first | (with_reducible assumption) | assumption)
      obtain ⟨ad219, e219, hx219_0, hx219_1, hx219_2, hx219_3, hx219_4, hx219_5, hx219_6, hx219_7⟩ := at_T44 HR0_3.out x4_1 p219 q219
      cases e219
      replace hx219_0 := (HB.out.cell (World.block_lt_of_cell? w _ hx219_0)).trans hx219_0
      replace hx219_1 := (HB.out.cell (World.block_lt_of_cell? w _ hx219_1)).trans hx219_1
      replace hx219_2 := (HB.out.cell (World.block_lt_of_cell? w _ hx219_2)).trans hx219_2
      replace hx219_3 := (HB.out.cell (World.block_lt_of_cell? w _ hx219_3)).trans hx219_3
      replace hx219_4 := (HB.out.cell (World.block_lt_of_cell? w _ hx219_4)).trans hx219_4
      replace hx219_5 := (HB.out.cell (World.block_lt_of_cell? w _ hx219_5)).trans hx219_5
      replace hx219_6 := (HB.out.cell (World.block_lt_of_cell? w _ hx219_6)).trans hx219_6
      replace hx219_7 := (HB.out.cell (World.block_lt_of_cell? w _ hx219_7)).trans hx219_7
      replace p219 := eq_true p219
      replace q219 := eq_true q219
      go_wp2_with (first | ((with_reducible refine gate_callee (f := 37) rfl ?_); refine goesL_ (some 19) rfl rfl Try.func37 (by kernel_rfl) rfl #[.agg #[.int .i64 ((rd_T44 l0_3 x4_1).f0), .string ((rd_T44 l0_3 x4_1).f1), .string ((rd_T44 l0_3 x4_1).f2), .int .u64 ((rd_T44 l0_3 x4_1).f3), .int .u64 ((rd_T44 l0_3 x4_1).f4), .string ((rd_T44 l0_3 x4_1).f5), .string ((rd_T44 l0_3 x4_1).f6), .bool ((rd_T44 l0_3 x4_1).f7)]] rfl (by (try simp only [List.map_toArray, List.map_cons, List.map_nil]); first | done | rfl | (simp only [List.length_drop, List.length_take]; rfl)) ?_; (with_reducible refine (parchmentref09_Meta.calls k1 ((rd_T44 l0_3 x4_1).f0) ((rd_T44 l0_3 x4_1).f1) ((rd_T44 l0_3 x4_1).f2) ((rd_T44 l0_3 x4_1).f3) ((rd_T44 l0_3 x4_1).f4) ((rd_T44 l0_3 x4_1).f5) ((rd_T44 l0_3 x4_1).f6) ((rd_T44 l0_3 x4_1).f7) t220 _ A7.out).mono ?_); rintro e w11 ⟨rfl, hb⟩; refine ⟨_, rfl, ?_⟩; replace HO_3 := Aside0.mk (Kd.R_below (br_ HO_3.out) hb); replace BK215 := Aside0.mk (bk_ BK215.out hb); replace HB := Aside0.mk (below_step (bh_ HB.out) hb); (try clear hb)) | ((with_reducible refine gate_callee (f := 53) rfl ?_); refine goesL_ (some 20) rfl rfl Try.func53 (by kernel_rfl) rfl #[.string t220] rfl (by (try simp only [List.map_toArray, List.map_cons, List.map_nil]); first | done | rfl | (simp only [List.length_drop, List.length_take]; rfl)) ?_; (with_reducible refine (parchmentref01_Leaf.calls t220 t221 _ A8.out).mono ?_); rintro e w12 ⟨rfl, hb⟩; refine ⟨_, rfl, ?_⟩; replace HO_3 := Aside0.mk (Kd.R_below (br_ HO_3.out) hb); replace BK215 := Aside0.mk (bk_ BK215.out hb); replace HB := Aside0.mk (below_step (bh_ HB.out) hb); (try clear hb)) | ((with_reducible refine gate_builtin (b := .append) (xs := #[.tmp 13, .tmp 21]) rfl ?_); at_builtin; refine Kd.R_append Kd.string (w0 := w) w.heap.size rfl (.tmp 13) (.tmp 21) 51 9 (.string ⟨#[]⟩) 16 rfl Try.underlying51 info9 rfl (by decide) (by omega) u3 x3_1 t221 [.string t221] (fun _ => True) (fun _ => False) rfl rfl ?aP (fun _ hk => hk.elim) ?aF ?aO ?aB ?aS ?aL ?_; (case aP => exact rfl); (case aB => exact (bh_ HB.out)); (case aF => exact (fun _ _ => trivial)); (case aO => exact (br_ HO_3.out)); (case aS => exact (below_size (bh_ HB.out))); (case aL => have := LMc9.out; omega); intro v223 w13 ho hb hg hat; rw [← Ny222.out] at ho; have n0_ := Aside0.mk (blk_grown (g := gb215) (o := .cells #[.int .u64 a0_0, .string a0_1, .int .u64 a0_2, .slice (some ad219) l0_3.length c0_3] 28 (0, 0)) (bq_ BK215.out) hg (Kd.R_ne HO_3.out BK215.out (by decide))); have n1_ := Aside0.mk (hb); have n2_ := Aside0.mk (ho); clear BK215; clear HB; clear HO_3; have BK215 := n0_; have HB := n1_; have HO224 := n2_; clear n0_ n1_ n2_; clear ho hb hg hat))
      go_roundg k1
      case measure => have := HK1.out; omega
      case rel => exact ⟨(y222), (wrap64 (x4_1 + 1)), (by first | rfl | (simp; done) | (simp [*]; done)), H', ⟨by have := HK1.out; omega⟩, ⟨br_ HO224.out⟩, ⟨bq_ BK215.out⟩, ⟨bh_ HB.out⟩⟩
     ·rw [if_neg c9] at H
      exact absurd H (by simp)
    ·rw [if_neg c6] at H
     exact absurd H (by simp)
   ·rw [if_neg c5] at H
    have c5b0 : decide (x4_1 < (l0_3.length : Int)) = false := decide_eq_false c5
    clear c5
    replace H := Option.bind_eq_some_iff.mp H
    obtain ⟨t225, A140, H⟩ := H
    replace H : (some t225) = some r := H
    have A14 := Aside0.mk A140
    clear A140
    obtain rfl := Option.some.inj H
    obtain ⟨z15_0, z15_1, z15_2, z15_3, f15_0, f15_1, f15_2, f15_3⟩ := bc4_ BK215.out
    obtain ⟨Ao16, co16, eo16⟩ := Kd.R_slice HO_3.out
    subst eo16
    go_wp2_with (first | ((with_reducible refine gate_callee (f := 31) rfl ?_); refine goesL_ (some 24) rfl rfl Try.func31 (by kernel_rfl) rfl #[.slice Ao16 x3_1.length co16] rfl (by (try simp only [List.map_toArray, List.map_cons, List.map_nil]); first | done | rfl | (simp only [List.length_drop, List.length_take]; rfl)) ?_; (with_reducible refine (parchmentref08_Root.calls k1 _ _ x3_1 t225 _ ?side1 ?side2 A14.out).mono ?_); (case side1 => repeat (first | exact (Kd.R_reads' HO_3.out).2.2 | (with_reducible refine Kd.C_alloc ?_ _) | (with_reducible refine Kd.C_drewN ?_ _) | (with_reducible refine Kd.C_drew ?_))); (case side2 => exact (Kd.R_reads' HO_3.out).2.1); rintro e w17 ⟨rfl, hb⟩; refine ⟨_, rfl, ?_⟩; replace HO_3 := Aside0.mk (Kd.R_below (br_ HO_3.out) hb); replace BK215 := Aside0.mk (bk_ BK215.out hb); replace HB := Aside0.mk (below_step (bh_ HB.out) hb); (try clear hb)))
    go_ret
    exact ⟨by first | rfl | (simp [errW_none, errW_some] <;> rfl) | (simp [*, errW_none, errW_some] <;> rfl), by repeat (first | (with_reducible first | exact HB.out | apply below_alloc | apply pw_below_drewN | apply below_drew1 | refine below_set ?_ GE215.out) | exact HB.out)⟩
/-! ### parchmentref09_Header: function 13 -/
def parchmentref09_Header.f (k : Nat) (a0_0 : Int) (a0_1 : ByteArray) (a0_2 : Int) (l0_3 : List (S44)) : Option (ByteArray) := (parchmentref02_Uint.f k a0_0).bind fun t227 => ((parchmentref02_Text.f k a0_1).bind fun t228 => (if t227.size + t228.size ≤ 9223372036854775807 then ((parchmentref02_Uint.f k a0_2).bind fun t229 => (if (t227 ++ t228).size + t229.size ≤ 9223372036854775807 then ((parchmentref02_Uint.f k (IntKind.u64.wrap ((l0_3.length : Int)))).bind fun t230 => (if ((t227 ++ t228) ++ t229).size + t230.size ≤ 9223372036854775807 then ((parchmentref09_Root.f k a0_0 a0_1 a0_2 l0_3).bind fun t231 => (if (((t227 ++ t228) ++ t229) ++ t230).size + t231.size ≤ 9223372036854775807 then (some ((((t227 ++ t228) ++ t229) ++ t230) ++ t231)) else (none))) else (none))) else (none))) else (none)))
def parchmentref09_Header.T1 : Bool × List (List Nat × List Nat) := (true, [([], []), ([0], [0]), ([1], [1]), ([], []), ([3], [3]), ([4, 2], [4]), ([2, 5], [2, 5]), ([], []), ([7], [7]), ([8, 5], [8]), ([6, 9], [6, 9]), ([], []), ([11], [11]), ([12], [12]), ([13], [13]), ([14, 9], [14]), ([10, 15], [10, 15]), ([], []), ([17, 15], [17]), ([16, 18], [16, 18]), ([19, 18, 0, 1, 2, 3, 4, 5, 6, 7, 8, 9, 10, 11, 12, 13, 14, 15, 16, 17, 18, 19], [19])])
def parchmentref09_Header.B1 : List Nat := [0, 1, 3, 0, 8, 31, 63, 0, 128, 447, 1023, 0, 2048, 6144, 14336, 31679, 65535, 0, 195519, 524287, 1048575]
theorem parchmentref09_Header.tab1 : rtab .any (opsOf Try.f13 1) = parchmentref09_Header.T1 := by kernel_rfl
theorem parchmentref09_Header.bits1 : waitsOk parchmentref09_Header.T1.2 parchmentref09_Header.B1 = true := by kernel_rfl
set_option maxHeartbeats 8000000 in
set_option maxRecDepth 100000 in
theorem parchmentref09_Header.calls (k : Nat) (a0_0 : Int) (a0_1 : ByteArray) (a0_2 : Int) (A0_3 : Option Addr) (c0_3 : Nat) (l0_3 : List (S44)) (r : ByteArray) (w : World) (hr0_3 : Kd.C k44 w A0_3 l0_3.length l0_3) (hc0_3 : l0_3.length ≤ c0_3) (h : parchmentref09_Header.f k a0_0 a0_1 a0_2 l0_3 = some r) :
  Calls Try.prog 13 #[.agg #[.int .u64 a0_0, .string a0_1, .int .u64 a0_2, .slice A0_3 l0_3.length c0_3]] w fun e w' => e = .returned (.string r) ∧ Below w.heap.size w w' := by
 have hu28 := Try.underlying28
 have HR0_3 := Aside0.mk hr0_3
 have HC0_3 := Aside0.mk hc0_3
 clear hr0_3 hc0_3
 have HB := Aside0.mk (Below.refl w.heap.size w)
 have H : ((parchmentref02_Uint.f k a0_0).bind fun t227 => ((parchmentref02_Text.f k a0_1).bind fun t228 => (if t227.size + t228.size ≤ 9223372036854775807 then ((parchmentref02_Uint.f k a0_2).bind fun t229 => (if (t227 ++ t228).size + t229.size ≤ 9223372036854775807 then ((parchmentref02_Uint.f k (IntKind.u64.wrap ((l0_3.length : Int)))).bind fun t230 => (if ((t227 ++ t228) ++ t229).size + t230.size ≤ 9223372036854775807 then ((parchmentref09_Root.f k a0_0 a0_1 a0_2 l0_3).bind fun t231 => (if (((t227 ++ t228) ++ t229) ++ t230).size + t231.size ≤ 9223372036854775807 then (some ((((t227 ++ t228) ++ t229) ++ t230) ++ t231)) else (none))) else (none))) else (none))) else (none)))) = some r := h
 clear h
 replace H := Option.bind_eq_some_iff.mp H
 obtain ⟨t227, A20, H⟩ := H
 replace H : ((parchmentref02_Text.f k a0_1).bind fun t228 => (if t227.size + t228.size ≤ 9223372036854775807 then ((parchmentref02_Uint.f k a0_2).bind fun t229 => (if (t227 ++ t228).size + t229.size ≤ 9223372036854775807 then ((parchmentref02_Uint.f k (IntKind.u64.wrap ((l0_3.length : Int)))).bind fun t230 => (if ((t227 ++ t228) ++ t229).size + t230.size ≤ 9223372036854775807 then ((parchmentref09_Root.f k a0_0 a0_1 a0_2 l0_3).bind fun t231 => (if (((t227 ++ t228) ++ t229) ++ t230).size + t231.size ≤ 9223372036854775807 then (some ((((t227 ++ t228) ++ t229) ++ t230) ++ t231)) else (none))) else (none))) else (none))) else (none))) = some r := H
 have A2 := Aside0.mk A20
 clear A20
 replace H := Option.bind_eq_some_iff.mp H
 obtain ⟨t228, A30, H⟩ := H
 replace H : (if t227.size + t228.size ≤ 9223372036854775807 then ((parchmentref02_Uint.f k a0_2).bind fun t229 => (if (t227 ++ t228).size + t229.size ≤ 9223372036854775807 then ((parchmentref02_Uint.f k (IntKind.u64.wrap ((l0_3.length : Int)))).bind fun t230 => (if ((t227 ++ t228) ++ t229).size + t230.size ≤ 9223372036854775807 then ((parchmentref09_Root.f k a0_0 a0_1 a0_2 l0_3).bind fun t231 => (if (((t227 ++ t228) ++ t229) ++ t230).size + t231.size ≤ 9223372036854775807 then (some ((((t227 ++ t228) ++ t229) ++ t230) ++ t231)) else (none))) else (none))) else (none))) else (none)) = some r := H
 have A3 := Aside0.mk A30
 clear A30
 by_cases c4 : t227.size + t228.size ≤ 9223372036854775807
 ·rw [if_pos c4] at H
  have c4b0 := eq_true c4
  have c4b1 : decide (t227.size + t228.size ≤ 9223372036854775807) = true := decide_eq_true c4
  try have c4b2 : (9223372036854775807 < t227.size + t228.size) = False := eq_false (Nat.not_lt.2 c4)
  replace H := Option.bind_eq_some_iff.mp H
  obtain ⟨t229, A50, H⟩ := H
  replace H : (if (t227 ++ t228).size + t229.size ≤ 9223372036854775807 then ((parchmentref02_Uint.f k (IntKind.u64.wrap ((l0_3.length : Int)))).bind fun t230 => (if ((t227 ++ t228) ++ t229).size + t230.size ≤ 9223372036854775807 then ((parchmentref09_Root.f k a0_0 a0_1 a0_2 l0_3).bind fun t231 => (if (((t227 ++ t228) ++ t229) ++ t230).size + t231.size ≤ 9223372036854775807 then (some ((((t227 ++ t228) ++ t229) ++ t230) ++ t231)) else (none))) else (none))) else (none)) = some r := H
  have A5 := Aside0.mk A50
  clear A50
  by_cases c6 : (t227 ++ t228).size + t229.size ≤ 9223372036854775807
  ·rw [if_pos c6] at H
   have c6b0 := eq_true c6
   have c6b1 : decide ((t227 ++ t228).size + t229.size ≤ 9223372036854775807) = true := decide_eq_true c6
   try have c6b2 : (9223372036854775807 < (t227 ++ t228).size + t229.size) = False := eq_false (Nat.not_lt.2 c6)
   try (have c6b2x := c6b2; simp only [ByteArray.size_append] at c6b2x)
   replace H := Option.bind_eq_some_iff.mp H
   obtain ⟨t230, A70, H⟩ := H
   replace H : (if ((t227 ++ t228) ++ t229).size + t230.size ≤ 9223372036854775807 then ((parchmentref09_Root.f k a0_0 a0_1 a0_2 l0_3).bind fun t231 => (if (((t227 ++ t228) ++ t229) ++ t230).size + t231.size ≤ 9223372036854775807 then (some ((((t227 ++ t228) ++ t229) ++ t230) ++ t231)) else (none))) else (none)) = some r := H
   have A7 := Aside0.mk A70
   clear A70
   by_cases c8 : ((t227 ++ t228) ++ t229).size + t230.size ≤ 9223372036854775807
   ·rw [if_pos c8] at H
    have c8b0 := eq_true c8
    have c8b1 : decide (((t227 ++ t228) ++ t229).size + t230.size ≤ 9223372036854775807) = true := decide_eq_true c8
    try have c8b2 : (9223372036854775807 < ((t227 ++ t228) ++ t229).size + t230.size) = False := eq_false (Nat.not_lt.2 c8)
    try (have c8b2x := c8b2; simp only [ByteArray.size_append] at c8b2x)
    replace H := Option.bind_eq_some_iff.mp H
    obtain ⟨t231, A90, H⟩ := H
    replace H : (if (((t227 ++ t228) ++ t229) ++ t230).size + t231.size ≤ 9223372036854775807 then (some ((((t227 ++ t228) ++ t229) ++ t230) ++ t231)) else (none)) = some r := H
    have A9 := Aside0.mk A90
    clear A90
    by_cases c10 : (((t227 ++ t228) ++ t229) ++ t230).size + t231.size ≤ 9223372036854775807
    ·rw [if_pos c10] at H
     have c10b0 := eq_true c10
     have c10b1 : decide ((((t227 ++ t228) ++ t229) ++ t230).size + t231.size ≤ 9223372036854775807) = true := decide_eq_true c10
     try have c10b2 : (9223372036854775807 < (((t227 ++ t228) ++ t229) ++ t230).size + t231.size) = False := eq_false (Nat.not_lt.2 c10)
     try (have c10b2x := c10b2; simp only [ByteArray.size_append] at c10b2x)
     obtain rfl := Option.some.inj H
     go_enter Try.func13, Try.ntmps13
     try go_wp2_with (first | ((with_reducible refine gate_dst (N := 1) rfl ?_); refine box_event ?hg (N := 1) ?hd (cs := #[.int .u64 a0_0, .string a0_1, .int .u64 a0_2, .slice A0_3 l0_3.length c0_3]) (t := 28) ?hr ?_; (case hd => rfl); (case hg => rfl); (case hr => first | (go_simp; done) | (go_simp; rfl)); intro gb226 hg w11 hbox hb; have n0_ := Aside0.mk (below_step (bh_ HB.out) hb); have n1_ := Aside0.mk (hbox); have n2_ := Aside0.mk ((by rw [hg]; exact (below_size (bh_ HB.out)) : w.heap.size ≤ gb226)); have n3_ := Aside0.mk ((by rw [hg]; exact (below_size (bh_ HB.out)) : w.heap.size ≤ gb226)); clear HB; have HB := n0_; have BK226 := n1_; have GW226 := n2_; have GE226 := n3_; clear n0_ n1_ n2_ n3_; clear hb hbox hg))
     replace BK226 := Aside0.mk (blk_drew BK226.out)
     replace HB := Aside0.mk (below_drew1 HB.out)
     refine start_ (n := 21) (S := fun w' => w'.cell? ⟨gb226, 0, none⟩ = some (.int .u64 a0_0) ∧ w'.cell? ⟨gb226, 1, none⟩ = some (.string a0_1) ∧ w'.cell? ⟨gb226, 2, none⟩ = some (.int .u64 a0_2) ∧ w'.cell? ⟨gb226, 3, none⟩ = some (.slice A0_3 l0_3.length c0_3)) (ds := []) #[N_, N_, N_, N_, N_, N_, N_, N_, N_, N_, N_, N_, N_, N_, N_, N_, N_, N_, N_, N_, N_] (by kernel_rfl) rfl rfl ⟨(blk_cell BK226.out 0).trans rfl, (blk_cell BK226.out 1).trans rfl, (blk_cell BK226.out 2).trans rfl, (blk_cell BK226.out 3).trans rfl⟩ (fun hHeld => ?_); refine with_tabW parchmentref09_Header.tab1 parchmentref09_Header.bits1 (fun HT_ HW_ => ?_)
     generalize w11.drew = w12 at BK226 HB hHeld ⊢
     refine pure_ (i := 0) (N := some 3) (v := ?_) (a' := ?_) #[Y_, N_, N_, N_, N_, N_, N_, N_, N_, N_, N_, N_, N_, N_, N_, N_, N_, N_, N_, N_, N_] rfl rfl (any_of HT_.out (by kernel_rfl)) (fun _ _ _ h => h) (Or.inl ⟨by rfl, ?_⟩) ?_ ?_
     rotate_left; (intro w'; go_simp; with_reducible rfl); rotate_left; (simp only [Act.put, q1_, q2_, q3_, i64_w, i32_w]; rfl)
     refine pure_ (i := 3) (N := some 6) (v := ?_) (a' := ?_) #[Y_, N_, N_, Y_, N_, N_, N_, N_, N_, N_, N_, N_, N_, N_, N_, N_, N_, N_, N_, N_, N_] rfl rfl (any_of HT_.out (by kernel_rfl)) (fun _ _ _ h => h) (Or.inl ⟨by rfl, ?_⟩) ?_ ?_
     rotate_left; (intro w'; go_simp; with_reducible rfl); rotate_left; (simp only [Act.put, q1_, q2_, q3_, i64_w, i32_w]; rfl)
     refine pure_ (i := 7) (N := some 10) (v := ?_) (a' := ?_) #[Y_, N_, N_, Y_, N_, N_, N_, Y_, N_, N_, N_, N_, N_, N_, N_, N_, N_, N_, N_, N_, N_] rfl rfl (any_of HT_.out (by kernel_rfl)) (fun _ _ _ h => h) (Or.inl ⟨by rfl, ?_⟩) ?_ ?_
     rotate_left; (intro w'; go_simp; with_reducible rfl); rotate_left; (simp only [Act.put, q1_, q2_, q3_, i64_w, i32_w]; rfl)
     refine pure_ (i := 11) (N := some 14) (v := ?_) (a' := ?_) #[Y_, N_, N_, Y_, N_, N_, N_, Y_, N_, N_, N_, Y_, N_, N_, N_, N_, N_, N_, N_, N_, N_] rfl rfl (any_of HT_.out (by kernel_rfl)) (fun _ _ _ h => h) (Or.inl ⟨by rfl, ?_⟩) ?_ ?_
     rotate_left; (intro w'; go_simp; with_reducible rfl); rotate_left; (simp only [Act.put, q1_, q2_, q3_, i64_w, i32_w]; rfl)
     refine take_ (i := 1) (N := some 4) (v := ?_) (a' := ?_) #[Y_, Y_, N_, Y_, N_, N_, N_, Y_, N_, N_, N_, Y_, N_, N_, N_, N_, N_, N_, N_, N_, N_] rfl rfl (take_ofW HT_.out HW_.out (by kernel_rfl)) (fun _ _ _ h => h) (Or.inl ⟨by rfl, ?_⟩) hHeld ?_ ?_
     rotate_left; (rintro w' ⟨s0, s1, s2, s3⟩; go_simp; with_reducible rfl); rotate_left; (simp only [Act.put, q1_, q2_, q3_, i64_w, i32_w]; rfl)
     refine take_ (i := 4) (N := some 7) (v := ?_) (a' := ?_) #[Y_, Y_, N_, Y_, Y_, N_, N_, Y_, N_, N_, N_, Y_, N_, N_, N_, N_, N_, N_, N_, N_, N_] rfl rfl (take_ofW HT_.out HW_.out (by kernel_rfl)) (fun _ _ _ h => h) (Or.inl ⟨by rfl, ?_⟩) hHeld ?_ ?_
     rotate_left; (rintro w' ⟨s0, s1, s2, s3⟩; go_simp; with_reducible rfl); rotate_left; (simp only [Act.put, q1_, q2_, q3_, i64_w, i32_w]; rfl)
     refine take_ (i := 8) (N := some 11) (v := ?_) (a' := ?_) #[Y_, Y_, N_, Y_, Y_, N_, N_, Y_, Y_, N_, N_, Y_, N_, N_, N_, N_, N_, N_, N_, N_, N_] rfl rfl (take_ofW HT_.out HW_.out (by kernel_rfl)) (fun _ _ _ h => h) (Or.inl ⟨by rfl, ?_⟩) hHeld ?_ ?_
     rotate_left; (rintro w' ⟨s0, s1, s2, s3⟩; go_simp; with_reducible rfl); rotate_left; (simp only [Act.put, q1_, q2_, q3_, i64_w, i32_w]; rfl)
     refine take_ (i := 12) (N := some 15) (v := ?_) (a' := ?_) #[Y_, Y_, N_, Y_, Y_, N_, N_, Y_, Y_, N_, N_, Y_, Y_, N_, N_, N_, N_, N_, N_, N_, N_] rfl rfl (take_ofW HT_.out HW_.out (by kernel_rfl)) (fun _ _ _ h => h) (Or.inl ⟨by rfl, ?_⟩) hHeld ?_ ?_
     rotate_left; (rintro w' ⟨s0, s1, s2, s3⟩; go_simp; with_reducible rfl); rotate_left; (simp only [Act.put, q1_, q2_, q3_, i64_w, i32_w]; rfl)
     refine pure_ (i := 13) (N := some 16) (v := ?_) (a' := ?_) #[Y_, Y_, N_, Y_, Y_, N_, N_, Y_, Y_, N_, N_, Y_, Y_, Y_, N_, N_, N_, N_, N_, N_, N_] rfl rfl (any_of HT_.out (by kernel_rfl)) (fun _ _ _ h => h) (Or.inl ⟨by rfl, ?_⟩) ?_ ?_
     rotate_left; (intro w'; go_simp; with_reducible rfl); rotate_left; (simp only [Act.put, q1_, q2_, q3_, i64_w, i32_w]; rfl)
     refine pure_ (i := 14) (N := some 17) (v := ?_) (a' := ?_) #[Y_, Y_, N_, Y_, Y_, N_, N_, Y_, Y_, N_, N_, Y_, Y_, Y_, Y_, N_, N_, N_, N_, N_, N_] rfl rfl (any_of HT_.out (by kernel_rfl)) (fun _ _ _ h => h) (Or.inl ⟨by rfl, ?_⟩) ?_ ?_
     rotate_left; (intro w'; go_simp; with_reducible rfl); rotate_left; (simp only [Act.put, q1_, q2_, q3_, i64_w, i32_w]; rfl)
     refine take_ (i := 17) (N := some 20) (v := ?_) (a' := ?_) #[Y_, Y_, N_, Y_, Y_, N_, N_, Y_, Y_, N_, N_, Y_, Y_, Y_, Y_, N_, N_, Y_, N_, N_, N_] rfl rfl (take_ofW HT_.out HW_.out (by kernel_rfl)) (fun _ _ _ h => h) (Or.inl ⟨by rfl, ?_⟩) hHeld ?_ ?_
     rotate_left; (rintro w' ⟨s0, s1, s2, s3⟩; go_simp; with_reducible rfl); rotate_left; (simp only [Act.put, q1_, q2_, q3_, i64_w, i32_w]; rfl)
     refine one_ (i := 2) (N := some 5) #[Y_, Y_, Y_, Y_, Y_, N_, N_, Y_, Y_, N_, N_, Y_, Y_, Y_, Y_, N_, N_, Y_, N_, N_, N_] rfl rfl (one_of HT_.out (by kernel_rfl)) (by decide) (fun K hK => ?_)
     refine goes_ Try.func41 (by kernel_rfl) rfl #[.int .u64 a0_0] (by rfl) rfl rfl (by (try simp only [List.map_toArray, List.map_cons, List.map_nil]); first | done | rfl | (simp only [List.length_drop, List.length_take]; rfl)) ?_
     with_reducible refine (parchmentref02_Uint.calls k a0_0 t227 _ A2.out).mono ?_
     rintro e w13 ⟨rfl, hb⟩
     refine ⟨_, rfl, ?_⟩
     replace BK226 := Aside0.mk (bk_ BK226.out hb)
     replace HB := Aside0.mk (below_step (bh_ HB.out) hb)
     (try clear hb)
     (try clear hb2)
     (try clear hk)
     (try clear hi)
     refine hK.out _ _ ⟨(blk_cell BK226.out 0).trans rfl, (blk_cell BK226.out 1).trans rfl, (blk_cell BK226.out 2).trans rfl, (blk_cell BK226.out 3).trans rfl⟩ (fun hHeld => ?_)
     clear hK K
     refine norm_ (a' := ?_) ?_ ?_
     rotate_left
     ·show Act.put _ (some 5) _ = _
      simp only [Act.put, q1_, q2_, q3_, i64_w, i32_w]
      rfl
     refine one_ (i := 5) (N := some 8) #[Y_, Y_, Y_, Y_, Y_, Y_, N_, Y_, Y_, N_, N_, Y_, Y_, Y_, Y_, N_, N_, Y_, N_, N_, N_] rfl rfl (one_of HT_.out (by kernel_rfl)) (by decide) (fun K hK => ?_)
     refine goes_ Try.func42 (by kernel_rfl) rfl #[.string a0_1] (by rfl) rfl rfl (by (try simp only [List.map_toArray, List.map_cons, List.map_nil]); first | done | rfl | (simp only [List.length_drop, List.length_take]; rfl)) ?_
     with_reducible refine (parchmentref02_Text.calls k a0_1 t228 _ A3.out).mono ?_
     rintro e w14 ⟨rfl, hb⟩
     refine ⟨_, rfl, ?_⟩
     replace BK226 := Aside0.mk (bk_ BK226.out hb)
     replace HB := Aside0.mk (below_step (bh_ HB.out) hb)
     (try clear hb)
     (try clear hb2)
     (try clear hk)
     (try clear hi)
     refine hK.out _ _ ⟨(blk_cell BK226.out 0).trans rfl, (blk_cell BK226.out 1).trans rfl, (blk_cell BK226.out 2).trans rfl, (blk_cell BK226.out 3).trans rfl⟩ (fun hHeld => ?_)
     clear hK K
     refine norm_ (a' := ?_) ?_ ?_
     rotate_left
     ·show Act.put _ (some 8) _ = _
      simp only [Act.put, q1_, q2_, q3_, i64_w, i32_w]
      rfl
     refine pure_ (i := 6) (N := some 9) (v := ?_) (a' := ?_) #[Y_, Y_, Y_, Y_, Y_, Y_, Y_, Y_, Y_, N_, N_, Y_, Y_, Y_, Y_, N_, N_, Y_, N_, N_, N_] rfl rfl (any_of HT_.out (by kernel_rfl)) (fun _ _ _ h => h) (Or.inl ⟨by rfl, ?_⟩) ?_ ?_
     rotate_left; (intro w'; go_simp; with_reducible rfl); rotate_left; (simp only [Act.put, q1_, q2_, q3_, i64_w, i32_w]; rfl)
     refine one_ (i := 9) (N := some 12) #[Y_, Y_, Y_, Y_, Y_, Y_, Y_, Y_, Y_, Y_, N_, Y_, Y_, Y_, Y_, N_, N_, Y_, N_, N_, N_] rfl rfl (one_of HT_.out (by kernel_rfl)) (by decide) (fun K hK => ?_)
     refine goes_ Try.func41 (by kernel_rfl) rfl #[.int .u64 a0_2] (by rfl) rfl rfl (by (try simp only [List.map_toArray, List.map_cons, List.map_nil]); first | done | rfl | (simp only [List.length_drop, List.length_take]; rfl)) ?_
     with_reducible refine (parchmentref02_Uint.calls k a0_2 t229 _ A5.out).mono ?_
     rintro e w15 ⟨rfl, hb⟩
     refine ⟨_, rfl, ?_⟩
     replace BK226 := Aside0.mk (bk_ BK226.out hb)
     replace HB := Aside0.mk (below_step (bh_ HB.out) hb)
     (try clear hb)
     (try clear hb2)
     (try clear hk)
     (try clear hi)
     refine hK.out _ _ ⟨(blk_cell BK226.out 0).trans rfl, (blk_cell BK226.out 1).trans rfl, (blk_cell BK226.out 2).trans rfl, (blk_cell BK226.out 3).trans rfl⟩ (fun hHeld => ?_)
     clear hK K
     refine norm_ (a' := ?_) ?_ ?_
     rotate_left
     ·show Act.put _ (some 12) _ = _
      simp only [Act.put, q1_, q2_, q3_, i64_w, i32_w]
      rfl
     refine pure_ (i := 10) (N := some 13) (v := ?_) (a' := ?_) #[Y_, Y_, Y_, Y_, Y_, Y_, Y_, Y_, Y_, Y_, Y_, Y_, Y_, Y_, Y_, N_, N_, Y_, N_, N_, N_] rfl rfl (any_of HT_.out (by kernel_rfl)) (fun _ _ _ h => h) (Or.inl ⟨by rfl, ?_⟩) ?_ ?_
     rotate_left; (intro w'; go_simp; with_reducible rfl); rotate_left; (simp only [Act.put, q1_, q2_, q3_, i64_w, i32_w]; rfl)
     refine one_ (i := 15) (N := some 18) #[Y_, Y_, Y_, Y_, Y_, Y_, Y_, Y_, Y_, Y_, Y_, Y_, Y_, Y_, Y_, Y_, N_, Y_, N_, N_, N_] rfl rfl (one_of HT_.out (by kernel_rfl)) (by decide) (fun K hK => ?_)
     refine goes_ Try.func41 (by kernel_rfl) rfl #[.int .u64 (IntKind.u64.wrap ((l0_3.length : Int)))] (by rfl) rfl rfl (by (try simp only [List.map_toArray, List.map_cons, List.map_nil]); first | done | rfl | (simp only [List.length_drop, List.length_take]; rfl)) ?_
     with_reducible refine (parchmentref02_Uint.calls k (IntKind.u64.wrap ((l0_3.length : Int))) t230 _ A7.out).mono ?_
     rintro e w16 ⟨rfl, hb⟩
     refine ⟨_, rfl, ?_⟩
     replace BK226 := Aside0.mk (bk_ BK226.out hb)
     replace HB := Aside0.mk (below_step (bh_ HB.out) hb)
     (try clear hb)
     (try clear hb2)
     (try clear hk)
     (try clear hi)
     refine hK.out _ _ ⟨(blk_cell BK226.out 0).trans rfl, (blk_cell BK226.out 1).trans rfl, (blk_cell BK226.out 2).trans rfl, (blk_cell BK226.out 3).trans rfl⟩ (fun hHeld => ?_)
     clear hK K
     refine norm_ (a' := ?_) ?_ ?_
     rotate_left
     ·show Act.put _ (some 18) _ = _
      simp only [Act.put, q1_, q2_, q3_, i64_w, i32_w]
      rfl
     refine pure_ (i := 16) (N := some 19) (v := ?_) (a' := ?_) #[Y_, Y_, Y_, Y_, Y_, Y_, Y_, Y_, Y_, Y_, Y_, Y_, Y_, Y_, Y_, Y_, Y_, Y_, N_, N_, N_] rfl rfl (any_of HT_.out (by kernel_rfl)) (fun _ _ _ h => h) (Or.inl ⟨by rfl, ?_⟩) ?_ ?_
     rotate_left; (intro w'; go_simp; with_reducible rfl); rotate_left; (simp only [Act.put, q1_, q2_, q3_, i64_w, i32_w]; rfl)
     refine one_ (i := 18) (N := some 21) #[Y_, Y_, Y_, Y_, Y_, Y_, Y_, Y_, Y_, Y_, Y_, Y_, Y_, Y_, Y_, Y_, Y_, Y_, Y_, N_, N_] rfl rfl (one_of HT_.out (by kernel_rfl)) (by decide) (fun K hK => ?_)
     refine goes_ Try.func43 (by kernel_rfl) rfl #[.agg #[.int .u64 a0_0, .string a0_1, .int .u64 a0_2, .slice A0_3 l0_3.length c0_3]] (by rfl) rfl rfl (by (try simp only [List.map_toArray, List.map_cons, List.map_nil]); first | done | rfl | (simp only [List.length_drop, List.length_take]; rfl)) ?_
     with_reducible refine (parchmentref09_Root.calls k a0_0 a0_1 a0_2 _ _ l0_3 t231 _ ?side1 ?side2 A9.out).mono ?_
     (case side1 => repeat (first | exact (Kd.C_below HR0_3.out HB.out) | (with_reducible refine Kd.C_alloc ?_ _) | (with_reducible refine Kd.C_drewN ?_ _) | (with_reducible refine Kd.C_drew ?_)))
     (case side2 => exact HC0_3.out)
     rintro e w17 ⟨rfl, hb⟩
     refine ⟨_, rfl, ?_⟩
     replace BK226 := Aside0.mk (bk_ BK226.out hb)
     replace HB := Aside0.mk (below_step (bh_ HB.out) hb)
     (try clear hb)
     (try clear hb2)
     (try clear hk)
     (try clear hi)
     refine hK.out _ _ ⟨(blk_cell BK226.out 0).trans rfl, (blk_cell BK226.out 1).trans rfl, (blk_cell BK226.out 2).trans rfl, (blk_cell BK226.out 3).trans rfl⟩ (fun hHeld => ?_)
     clear hK K
     refine norm_ (a' := ?_) ?_ ?_
     rotate_left
     ·show Act.put _ (some 21) _ = _
      simp only [Act.put, q1_, q2_, q3_, i64_w, i32_w]
      rfl
     refine pure_ (i := 19) (N := some 22) (v := ?_) (a' := ?_) #[Y_, Y_, Y_, Y_, Y_, Y_, Y_, Y_, Y_, Y_, Y_, Y_, Y_, Y_, Y_, Y_, Y_, Y_, Y_, Y_, N_] rfl rfl (any_of HT_.out (by kernel_rfl)) (fun _ _ _ h => h) (Or.inl ⟨by rfl, ?_⟩) ?_ ?_
     rotate_left; (intro w'; go_simp; with_reducible rfl); rotate_left; (simp only [Act.put, q1_, q2_, q3_, i64_w, i32_w]; rfl)
     refine pure_ (i := 20) (N := some 2) (v := ?_) (a' := ?_) #[Y_, Y_, Y_, Y_, Y_, Y_, Y_, Y_, Y_, Y_, Y_, Y_, Y_, Y_, Y_, Y_, Y_, Y_, Y_, Y_, Y_] rfl rfl (any_of HT_.out (by kernel_rfl)) (fun _ _ _ h => h) (Or.inl ⟨by rfl, ?_⟩) ?_ ?_
     rotate_left; (intro w'; go_simp; with_reducible rfl); rotate_left; (simp only [Act.put, q1_, q2_, q3_, i64_w, i32_w]; rfl)
     refine done_ (done_of HT_.out (by kernel_rfl)) ?_
     try go_wp2
     go_ret
     exact ⟨by first | rfl | (simp [errW_none, errW_some] <;> rfl) | (simp [*, errW_none, errW_some] <;> rfl), by repeat (first | (with_reducible first | exact HB.out | apply below_alloc | apply pw_below_drewN | apply below_drew1 | refine below_set ?_ GE226.out) | exact HB.out)⟩
    ·rw [if_neg c10] at H
     exact absurd H (by simp)
   ·rw [if_neg c8] at H
    exact absurd H (by simp)
  ·rw [if_neg c6] at H
   exact absurd H (by simp)
 ·rw [if_neg c4] at H
  exact absurd H (by simp)
/-! ### hash_Collides: function 15 -/
def hash_Collides.f (a0_0 : ByteArray) (a0_1 : ByteArray) : Option (Bool) := if a0_0.toList = a0_1.toList then (some false) else ((Dig.hash_Sum.f a0_0).bind fun t233 => ((Dig.hash_Sum.f a0_1).bind fun t234 => (some (t233.toList == t234.toList))))
def hash_Collides.T1 : Bool × List (List Nat × List Nat) := (true, [([], []), ([0], [0]), ([], []), ([2], [2]), ([1, 3], [1, 3]), ([4], [4]), ([5], [5]), ([6, 5], [5, 6]), ([7, 5, 5], [5, 7]), ([5], [5]), ([9, 5], [5, 9]), ([10, 8, 5], [5, 10]), ([8, 11, 5], [5, 8, 11]), ([5, 12], [5, 12]), ([13, 11, 0, 1, 2, 3, 4, 5, 6, 7, 8, 9, 10, 11, 12, 13], [13])])
def hash_Collides.B1 : List Nat := [0, 1, 0, 4, 15, 31, 63, 127, 255, 63, 575, 2047, 4095, 8191, 16383]
theorem hash_Collides.tab1 : rtab .any (opsOf Try.f15 1) = hash_Collides.T1 := by kernel_rfl
theorem hash_Collides.bits1 : waitsOk hash_Collides.T1.2 hash_Collides.B1 = true := by kernel_rfl
set_option maxHeartbeats 8000000 in
set_option maxRecDepth 100000 in
theorem hash_Collides.calls (a0_0 : ByteArray) (a0_1 : ByteArray) (r : Bool) (w : World) (h : hash_Collides.f a0_0 a0_1 = some r) :
  Calls Try.prog 15 #[.agg #[.string a0_0, .string a0_1]] w fun e w' => e = .returned (.bool r) ∧ Below w.heap.size w w' := by
 have hu37 := Try.underlying37
 have HB := Aside0.mk (Below.refl w.heap.size w)
 have H : (if a0_0.toList = a0_1.toList then (some false) else ((Dig.hash_Sum.f a0_0).bind fun t233 => ((Dig.hash_Sum.f a0_1).bind fun t234 => (some (t233.toList == t234.toList))))) = some r := h
 clear h
 by_cases c2 : a0_0.toList = a0_1.toList
 ·rw [if_pos c2] at H
  have c2b0 : (a0_0.toList == a0_1.toList) = true := beq_iff_eq.mpr c2
  have c2b1 : (a0_0.toList != a0_1.toList) = false := bne_eq_false_iff_eq.mpr c2
  clear c2
  obtain rfl := Option.some.inj H
  go_enter Try.func15, Try.ntmps15
  try go_wp2_with (first | ((with_reducible refine gate_dst (N := 1) rfl ?_); refine box_event ?hg (N := 1) ?hd (cs := #[.string a0_0, .string a0_1]) (t := 37) ?hr ?_; (case hd => rfl); (case hg => rfl); (case hr => first | (go_simp; done) | (go_simp; rfl)); intro gb232 hg w3 hbox hb; have n0_ := Aside0.mk (below_step (bh_ HB.out) hb); have n1_ := Aside0.mk (hbox); have n2_ := Aside0.mk ((by rw [hg]; exact (below_size (bh_ HB.out)) : w.heap.size ≤ gb232)); have n3_ := Aside0.mk ((by rw [hg]; exact (below_size (bh_ HB.out)) : w.heap.size ≤ gb232)); clear HB; have HB := n0_; have BK232 := n1_; have GW232 := n2_; have GE232 := n3_; clear n0_ n1_ n2_ n3_; clear hb hbox hg))
  replace BK232 := Aside0.mk (blk_drew BK232.out)
  replace HB := Aside0.mk (below_drew1 HB.out)
  refine start_ (n := 15) (S := fun w' => w'.cell? ⟨gb232, 0, none⟩ = some (.string a0_0) ∧ w'.cell? ⟨gb232, 1, none⟩ = some (.string a0_1)) (ds := []) #[N_, N_, N_, N_, N_, N_, N_, N_, N_, N_, N_, N_, N_, N_, N_] (by kernel_rfl) rfl rfl ⟨(blk_cell BK232.out 0).trans rfl, (blk_cell BK232.out 1).trans rfl⟩ (fun hHeld => ?_); refine with_tabW hash_Collides.tab1 hash_Collides.bits1 (fun HT_ HW_ => ?_)
  generalize w3.drew = w4 at BK232 HB hHeld ⊢
  refine pure_ (i := 0) (N := some 3) (v := ?_) (a' := ?_) #[Y_, N_, N_, N_, N_, N_, N_, N_, N_, N_, N_, N_, N_, N_, N_] rfl rfl (any_of HT_.out (by kernel_rfl)) (fun _ _ _ h => h) (Or.inl ⟨by rfl, ?_⟩) ?_ ?_
  rotate_left; (intro w'; go_simp; with_reducible rfl); rotate_left; (simp only [Act.put, q1_, q2_, q3_, i64_w, i32_w]; rfl)
  refine pure_ (i := 2) (N := some 5) (v := ?_) (a' := ?_) #[Y_, N_, Y_, N_, N_, N_, N_, N_, N_, N_, N_, N_, N_, N_, N_] rfl rfl (any_of HT_.out (by kernel_rfl)) (fun _ _ _ h => h) (Or.inl ⟨by rfl, ?_⟩) ?_ ?_
  rotate_left; (intro w'; go_simp; with_reducible rfl); rotate_left; (simp only [Act.put, q1_, q2_, q3_, i64_w, i32_w]; rfl)
  refine take_ (i := 1) (N := some 4) (v := ?_) (a' := ?_) #[Y_, Y_, Y_, N_, N_, N_, N_, N_, N_, N_, N_, N_, N_, N_, N_] rfl rfl (take_ofW HT_.out HW_.out (by kernel_rfl)) (fun _ _ _ h => h) (Or.inl ⟨by rfl, ?_⟩) hHeld ?_ ?_
  rotate_left; (rintro w' ⟨s0, s1⟩; go_simp; with_reducible rfl); rotate_left; (simp only [Act.put, q1_, q2_, q3_, i64_w, i32_w]; rfl)
  refine take_ (i := 3) (N := some 6) (v := ?_) (a' := ?_) #[Y_, Y_, Y_, Y_, N_, N_, N_, N_, N_, N_, N_, N_, N_, N_, N_] rfl rfl (take_ofW HT_.out HW_.out (by kernel_rfl)) (fun _ _ _ h => h) (Or.inl ⟨by rfl, ?_⟩) hHeld ?_ ?_
  rotate_left; (rintro w' ⟨s0, s1⟩; go_simp; with_reducible rfl); rotate_left; (simp only [Act.put, q1_, q2_, q3_, i64_w, i32_w]; rfl)
  refine pure_ (i := 4) (N := some 7) (v := ?_) (a' := ?_) #[Y_, Y_, Y_, Y_, Y_, N_, N_, N_, N_, N_, N_, N_, N_, N_, N_] rfl rfl (any_of HT_.out (by kernel_rfl)) (fun _ _ _ h => h) (Or.inl ⟨by rfl, ?_⟩) ?_ ?_
  rotate_left; (intro w'; go_simp; with_reducible rfl); rotate_left; (simp only [Act.put, q1_, q2_, q3_, i64_w, i32_w]; rfl)
  refine pure_ (i := 5) (N := some 8) (v := ?_) (a' := ?_) #[Y_, Y_, Y_, Y_, Y_, Y_, N_, N_, N_, N_, N_, N_, N_, N_, N_] rfl rfl (any_of HT_.out (by kernel_rfl)) (fun _ _ _ h => h) (Or.inl ⟨by rfl, ?_⟩) ?_ ?_
  rotate_left; (intro w'; go_simp; with_reducible rfl); rotate_left; (simp only [Act.put, q1_, q2_, q3_, i64_w, i32_w]; rfl)
  refine pure_ (i := 6) (N := some 9) (v := undef) (a' := ?_) #[Y_, Y_, Y_, Y_, Y_, Y_, Y_, N_, N_, N_, N_, N_, N_, N_, N_] rfl rfl (any_of HT_.out (by kernel_rfl)) (fun _ _ _ h => h) (Or.inr ⟨by rfl, rfl⟩) ?_ ?_
  rotate_left
  ·simp only [Act.put, q1_, q2_, q3_, i64_w, i32_w]
   rfl
  refine pure_ (i := 7) (N := some 10) (v := undef) (a' := ?_) #[Y_, Y_, Y_, Y_, Y_, Y_, Y_, Y_, N_, N_, N_, N_, N_, N_, N_] rfl rfl (any_of HT_.out (by kernel_rfl)) (fun _ _ _ h => h) (Or.inr ⟨by rfl, rfl⟩) ?_ ?_
  rotate_left
  ·simp only [Act.put, q1_, q2_, q3_, i64_w, i32_w]
   rfl
  refine pure_ (i := 8) (N := some 11) (v := undef) (a' := ?_) #[Y_, Y_, Y_, Y_, Y_, Y_, Y_, Y_, Y_, N_, N_, N_, N_, N_, N_] rfl rfl (any_of HT_.out (by kernel_rfl)) (fun _ _ _ h => h) (Or.inr ⟨by rfl, rfl⟩) ?_ ?_
  rotate_left
  ·simp only [Act.put, q1_, q2_, q3_, i64_w, i32_w]
   rfl
  refine pure_ (i := 9) (N := some 12) (v := undef) (a' := ?_) #[Y_, Y_, Y_, Y_, Y_, Y_, Y_, Y_, Y_, Y_, N_, N_, N_, N_, N_] rfl rfl (any_of HT_.out (by kernel_rfl)) (fun _ _ _ h => h) (Or.inr ⟨by rfl, rfl⟩) ?_ ?_
  rotate_left
  ·simp only [Act.put, q1_, q2_, q3_, i64_w, i32_w]
   rfl
  refine pure_ (i := 10) (N := some 13) (v := undef) (a' := ?_) #[Y_, Y_, Y_, Y_, Y_, Y_, Y_, Y_, Y_, Y_, Y_, N_, N_, N_, N_] rfl rfl (any_of HT_.out (by kernel_rfl)) (fun _ _ _ h => h) (Or.inr ⟨by rfl, rfl⟩) ?_ ?_
  rotate_left
  ·simp only [Act.put, q1_, q2_, q3_, i64_w, i32_w]
   rfl
  refine pure_ (i := 11) (N := some 14) (v := undef) (a' := ?_) #[Y_, Y_, Y_, Y_, Y_, Y_, Y_, Y_, Y_, Y_, Y_, Y_, N_, N_, N_] rfl rfl (any_of HT_.out (by kernel_rfl)) (fun _ _ _ h => h) (Or.inr ⟨by rfl, rfl⟩) ?_ ?_
  rotate_left
  ·simp only [Act.put, q1_, q2_, q3_, i64_w, i32_w]
   rfl
  refine pure_ (i := 12) (N := some 15) (v := undef) (a' := ?_) #[Y_, Y_, Y_, Y_, Y_, Y_, Y_, Y_, Y_, Y_, Y_, Y_, Y_, N_, N_] rfl rfl (any_of HT_.out (by kernel_rfl)) (fun _ _ _ h => h) (Or.inr ⟨by rfl, rfl⟩) ?_ ?_
  rotate_left
  ·simp only [Act.put, q1_, q2_, q3_, i64_w, i32_w]
   rfl
  refine pure_ (i := 13) (N := some 16) (v := ?_) (a' := ?_) #[Y_, Y_, Y_, Y_, Y_, Y_, Y_, Y_, Y_, Y_, Y_, Y_, Y_, Y_, N_] rfl rfl (any_of HT_.out (by kernel_rfl)) (fun _ _ _ h => h) (Or.inl ⟨by rfl, ?_⟩) ?_ ?_
  rotate_left; (intro w'; go_simp; with_reducible rfl); rotate_left; (simp only [Act.put, q1_, q2_, q3_, i64_w, i32_w]; rfl)
  refine pure_ (i := 14) (N := some 2) (v := ?_) (a' := ?_) #[Y_, Y_, Y_, Y_, Y_, Y_, Y_, Y_, Y_, Y_, Y_, Y_, Y_, Y_, Y_] rfl rfl (any_of HT_.out (by kernel_rfl)) (fun _ _ _ h => h) (Or.inl ⟨by rfl, ?_⟩) ?_ ?_
  rotate_left; (intro w'; go_simp; with_reducible rfl); rotate_left; (simp only [Act.put, q1_, q2_, q3_, i64_w, i32_w]; rfl)
  refine done_ (done_of HT_.out (by kernel_rfl)) ?_
  try go_wp2
  go_ret
  exact ⟨by first | rfl | (simp [errW_none, errW_some] <;> rfl) | (simp [*, errW_none, errW_some] <;> rfl), by repeat (first | (with_reducible first | exact HB.out | apply below_alloc | apply pw_below_drewN | apply below_drew1 | refine below_set ?_ GE232.out) | exact HB.out)⟩
 ·rw [if_neg c2] at H
  have c2b0 : (a0_0.toList == a0_1.toList) = false := beq_eq_false_iff_ne.mpr c2
  have c2b1 : (a0_0.toList != a0_1.toList) = true := bne_iff_ne.mpr c2
  replace H := Option.bind_eq_some_iff.mp H
  obtain ⟨t233, A50, H⟩ := H
  replace H : ((Dig.hash_Sum.f a0_1).bind fun t234 => (some (t233.toList == t234.toList))) = some r := H
  have A5 := Aside0.mk A50
  clear A50
  replace H := Option.bind_eq_some_iff.mp H
  obtain ⟨t234, A60, H⟩ := H
  replace H : (some (t233.toList == t234.toList)) = some r := H
  have A6 := Aside0.mk A60
  clear A60
  obtain rfl := Option.some.inj H
  go_enter Try.func15, Try.ntmps15
  try go_wp2_with (first | ((with_reducible refine gate_dst (N := 1) rfl ?_); refine box_event ?hg (N := 1) ?hd (cs := #[.string a0_0, .string a0_1]) (t := 37) ?hr ?_; (case hd => rfl); (case hg => rfl); (case hr => first | (go_simp; done) | (go_simp; rfl)); intro gb232 hg w7 hbox hb; have n0_ := Aside0.mk (below_step (bh_ HB.out) hb); have n1_ := Aside0.mk (hbox); have n2_ := Aside0.mk ((by rw [hg]; exact (below_size (bh_ HB.out)) : w.heap.size ≤ gb232)); have n3_ := Aside0.mk ((by rw [hg]; exact (below_size (bh_ HB.out)) : w.heap.size ≤ gb232)); clear HB; have HB := n0_; have BK232 := n1_; have GW232 := n2_; have GE232 := n3_; clear n0_ n1_ n2_ n3_; clear hb hbox hg))
  replace BK232 := Aside0.mk (blk_drew BK232.out)
  replace HB := Aside0.mk (below_drew1 HB.out)
  refine start_ (n := 15) (S := fun w' => w'.cell? ⟨gb232, 0, none⟩ = some (.string a0_0) ∧ w'.cell? ⟨gb232, 1, none⟩ = some (.string a0_1)) (ds := []) #[N_, N_, N_, N_, N_, N_, N_, N_, N_, N_, N_, N_, N_, N_, N_] (by kernel_rfl) rfl rfl ⟨(blk_cell BK232.out 0).trans rfl, (blk_cell BK232.out 1).trans rfl⟩ (fun hHeld => ?_); refine with_tabW hash_Collides.tab1 hash_Collides.bits1 (fun HT_ HW_ => ?_)
  generalize w7.drew = w8 at BK232 HB hHeld ⊢
  refine pure_ (i := 0) (N := some 3) (v := ?_) (a' := ?_) #[Y_, N_, N_, N_, N_, N_, N_, N_, N_, N_, N_, N_, N_, N_, N_] rfl rfl (any_of HT_.out (by kernel_rfl)) (fun _ _ _ h => h) (Or.inl ⟨by rfl, ?_⟩) ?_ ?_
  rotate_left; (intro w'; go_simp; with_reducible rfl); rotate_left; (simp only [Act.put, q1_, q2_, q3_, i64_w, i32_w]; rfl)
  refine pure_ (i := 2) (N := some 5) (v := ?_) (a' := ?_) #[Y_, N_, Y_, N_, N_, N_, N_, N_, N_, N_, N_, N_, N_, N_, N_] rfl rfl (any_of HT_.out (by kernel_rfl)) (fun _ _ _ h => h) (Or.inl ⟨by rfl, ?_⟩) ?_ ?_
  rotate_left; (intro w'; go_simp; with_reducible rfl); rotate_left; (simp only [Act.put, q1_, q2_, q3_, i64_w, i32_w]; rfl)
  refine take_ (i := 1) (N := some 4) (v := ?_) (a' := ?_) #[Y_, Y_, Y_, N_, N_, N_, N_, N_, N_, N_, N_, N_, N_, N_, N_] rfl rfl (take_ofW HT_.out HW_.out (by kernel_rfl)) (fun _ _ _ h => h) (Or.inl ⟨by rfl, ?_⟩) hHeld ?_ ?_
  rotate_left; (rintro w' ⟨s0, s1⟩; go_simp; with_reducible rfl); rotate_left; (simp only [Act.put, q1_, q2_, q3_, i64_w, i32_w]; rfl)
  refine take_ (i := 3) (N := some 6) (v := ?_) (a' := ?_) #[Y_, Y_, Y_, Y_, N_, N_, N_, N_, N_, N_, N_, N_, N_, N_, N_] rfl rfl (take_ofW HT_.out HW_.out (by kernel_rfl)) (fun _ _ _ h => h) (Or.inl ⟨by rfl, ?_⟩) hHeld ?_ ?_
  rotate_left; (rintro w' ⟨s0, s1⟩; go_simp; with_reducible rfl); rotate_left; (simp only [Act.put, q1_, q2_, q3_, i64_w, i32_w]; rfl)
  refine pure_ (i := 4) (N := some 7) (v := ?_) (a' := ?_) #[Y_, Y_, Y_, Y_, Y_, N_, N_, N_, N_, N_, N_, N_, N_, N_, N_] rfl rfl (any_of HT_.out (by kernel_rfl)) (fun _ _ _ h => h) (Or.inl ⟨by rfl, ?_⟩) ?_ ?_
  rotate_left; (intro w'; go_simp; with_reducible rfl); rotate_left; (simp only [Act.put, q1_, q2_, q3_, i64_w, i32_w]; rfl)
  refine pure_ (i := 5) (N := some 8) (v := ?_) (a' := ?_) #[Y_, Y_, Y_, Y_, Y_, Y_, N_, N_, N_, N_, N_, N_, N_, N_, N_] rfl rfl (any_of HT_.out (by kernel_rfl)) (fun _ _ _ h => h) (Or.inl ⟨by rfl, ?_⟩) ?_ ?_
  rotate_left; (intro w'; go_simp; with_reducible rfl); rotate_left; (simp only [Act.put, q1_, q2_, q3_, i64_w, i32_w]; rfl)
  refine pure_ (i := 6) (N := some 9) (v := ?_) (a' := ?_) #[Y_, Y_, Y_, Y_, Y_, Y_, Y_, N_, N_, N_, N_, N_, N_, N_, N_] rfl rfl (any_of HT_.out (by kernel_rfl)) (fun _ _ _ h => h) (Or.inl ⟨by rfl, ?_⟩) ?_ ?_
  rotate_left; (intro w'; go_simp; with_reducible rfl); rotate_left; (simp only [Act.put, q1_, q2_, q3_, i64_w, i32_w]; rfl)
  refine pure_ (i := 9) (N := some 12) (v := ?_) (a' := ?_) #[Y_, Y_, Y_, Y_, Y_, Y_, Y_, N_, N_, Y_, N_, N_, N_, N_, N_] rfl rfl (any_of HT_.out (by kernel_rfl)) (fun _ _ _ h => h) (Or.inl ⟨by rfl, ?_⟩) ?_ ?_
  rotate_left; (intro w'; go_simp; with_reducible rfl); rotate_left; (simp only [Act.put, q1_, q2_, q3_, i64_w, i32_w]; rfl)
  refine take_ (i := 7) (N := some 10) (v := ?_) (a' := ?_) #[Y_, Y_, Y_, Y_, Y_, Y_, Y_, Y_, N_, Y_, N_, N_, N_, N_, N_] rfl rfl (take_ofW HT_.out HW_.out (by kernel_rfl)) (fun _ _ _ h => h) (Or.inl ⟨by rfl, ?_⟩) hHeld ?_ ?_
  rotate_left; (rintro w' ⟨s0, s1⟩; go_simp; with_reducible rfl); rotate_left; (simp only [Act.put, q1_, q2_, q3_, i64_w, i32_w]; rfl)
  refine take_ (i := 10) (N := some 13) (v := ?_) (a' := ?_) #[Y_, Y_, Y_, Y_, Y_, Y_, Y_, Y_, N_, Y_, Y_, N_, N_, N_, N_] rfl rfl (take_ofW HT_.out HW_.out (by kernel_rfl)) (fun _ _ _ h => h) (Or.inl ⟨by rfl, ?_⟩) hHeld ?_ ?_
  rotate_left; (rintro w' ⟨s0, s1⟩; go_simp; with_reducible rfl); rotate_left; (simp only [Act.put, q1_, q2_, q3_, i64_w, i32_w]; rfl)
  refine one_ (i := 8) (N := some 11) #[Y_, Y_, Y_, Y_, Y_, Y_, Y_, Y_, Y_, Y_, Y_, N_, N_, N_, N_] rfl rfl (one_of HT_.out (by kernel_rfl)) (by decide) (fun K hK => ?_)
  refine goes_ Try.func44 (by kernel_rfl) rfl #[.string a0_0] (by rfl) rfl rfl (by (try simp only [List.map_toArray, List.map_cons, List.map_nil]); first | done | rfl | (simp only [List.length_drop, List.length_take]; rfl)) ?_
  with_reducible refine (Dig.hash_Sum.calls a0_0 t233 _ A5.out).mono ?_
  rintro e w9 ⟨rfl, hb⟩
  refine ⟨_, rfl, ?_⟩
  replace BK232 := Aside0.mk (bk_ BK232.out hb)
  replace HB := Aside0.mk (below_step (bh_ HB.out) hb)
  (try clear hb)
  (try clear hb2)
  (try clear hk)
  (try clear hi)
  refine hK.out _ _ ⟨(blk_cell BK232.out 0).trans rfl, (blk_cell BK232.out 1).trans rfl⟩ (fun hHeld => ?_)
  clear hK K
  refine norm_ (a' := ?_) ?_ ?_
  rotate_left
  ·show Act.put _ (some 11) _ = _
   simp only [Act.put, q1_, q2_, q3_, i64_w, i32_w]
   rfl
  refine one_ (i := 11) (N := some 14) #[Y_, Y_, Y_, Y_, Y_, Y_, Y_, Y_, Y_, Y_, Y_, Y_, N_, N_, N_] rfl rfl (one_of HT_.out (by kernel_rfl)) (by decide) (fun K hK => ?_)
  refine goes_ Try.func44 (by kernel_rfl) rfl #[.string a0_1] (by rfl) rfl rfl (by (try simp only [List.map_toArray, List.map_cons, List.map_nil]); first | done | rfl | (simp only [List.length_drop, List.length_take]; rfl)) ?_
  with_reducible refine (Dig.hash_Sum.calls a0_1 t234 _ A6.out).mono ?_
  rintro e w10 ⟨rfl, hb⟩
  refine ⟨_, rfl, ?_⟩
  replace BK232 := Aside0.mk (bk_ BK232.out hb)
  replace HB := Aside0.mk (below_step (bh_ HB.out) hb)
  (try clear hb)
  (try clear hb2)
  (try clear hk)
  (try clear hi)
  refine hK.out _ _ ⟨(blk_cell BK232.out 0).trans rfl, (blk_cell BK232.out 1).trans rfl⟩ (fun hHeld => ?_)
  clear hK K
  refine norm_ (a' := ?_) ?_ ?_
  rotate_left
  ·show Act.put _ (some 14) _ = _
   simp only [Act.put, q1_, q2_, q3_, i64_w, i32_w]
   rfl
  refine pure_ (i := 12) (N := some 15) (v := ?_) (a' := ?_) #[Y_, Y_, Y_, Y_, Y_, Y_, Y_, Y_, Y_, Y_, Y_, Y_, Y_, N_, N_] rfl rfl (any_of HT_.out (by kernel_rfl)) (fun _ _ _ h => h) (Or.inl ⟨by rfl, ?_⟩) ?_ ?_
  rotate_left; (intro w'; go_simp; with_reducible rfl); rotate_left; (simp only [Act.put, q1_, q2_, q3_, i64_w, i32_w]; rfl)
  refine pure_ (i := 13) (N := some 16) (v := ?_) (a' := ?_) #[Y_, Y_, Y_, Y_, Y_, Y_, Y_, Y_, Y_, Y_, Y_, Y_, Y_, Y_, N_] rfl rfl (any_of HT_.out (by kernel_rfl)) (fun _ _ _ h => h) (Or.inl ⟨by rfl, ?_⟩) ?_ ?_
  rotate_left; (intro w'; go_simp; with_reducible rfl); rotate_left; (simp only [Act.put, q1_, q2_, q3_, i64_w, i32_w]; rfl)
  refine pure_ (i := 14) (N := some 2) (v := ?_) (a' := ?_) #[Y_, Y_, Y_, Y_, Y_, Y_, Y_, Y_, Y_, Y_, Y_, Y_, Y_, Y_, Y_] rfl rfl (any_of HT_.out (by kernel_rfl)) (fun _ _ _ h => h) (Or.inl ⟨by rfl, ?_⟩) ?_ ?_
  rotate_left; (intro w'; go_simp; with_reducible rfl); rotate_left; (simp only [Act.put, q1_, q2_, q3_, i64_w, i32_w]; rfl)
  refine done_ (done_of HT_.out (by kernel_rfl)) ?_
  try go_wp2
  go_ret
  exact ⟨by first | rfl | (simp [errW_none, errW_some] <;> rfl) | (simp [*, errW_none, errW_some] <;> rfl), by repeat (first | (with_reducible first | exact HB.out | apply below_alloc | apply pw_below_drewN | apply below_drew1 | refine below_set ?_ GE232.out) | exact HB.out)⟩
end Go.Proofs.Ytdcbacbilncnnaa.PMk
end
section
namespace Go.Proofs.Ytdcbacbilncnnaa.PMk
open Go.RowKit Go.Proofs.YtdcbacbilncnnaaW.PrintWords Go.Proofs.YtdcbacbilncnnaaW.PrintLast Go.Proofs.YtdcbacbilncnnaaW.PrintMore
attribute [local go_sem] max2_int min2_int max_two min_two max_three min_three max_four min_four   -- for this text's walks alone
set_option linter.unusedVariables false
set_option linter.unusedSimpArgs false
/-! ### parchmentref09_Frame: function 17 -/
def parchmentref09_Frame.l0 : Nat → ByteArray → Int → Int → ByteArray → Int → List (S44) → Option (ByteArray)
 | 0, _, _, _, _, _, _ => none
 | k + 1, x3, x4, x236000, x236001, x236002, x236003 => if x4 < (x236003.length : Int) then (if 0 ≤ x4 then ((parchmentref09_Meta.f k ((rd_T44 x236003 x4).f0) ((rd_T44 x236003 x4).f1) ((rd_T44 x236003 x4).f2) ((rd_T44 x236003 x4).f3) ((rd_T44 x236003 x4).f4) ((rd_T44 x236003 x4).f5) ((rd_T44 x236003 x4).f6) ((rd_T44 x236003 x4).f7)).bind fun t241 => (if x3.size + t241.size ≤ 9223372036854775807 then (parchmentref09_Frame.l0 k (x3 ++ t241) (wrap64 (x4 + 1)) x236000 x236001 x236002 x236003) else (none))) else (none)) else (some x3)
def parchmentref09_Frame.f (k : Nat) (a0_0 : Int) (a0_1 : ByteArray) (a0_2 : Int) (l0_3 : List (S44)) : Option (ByteArray) := (parchmentref02_Uint.f k a0_0).bind fun t236 => ((parchmentref02_Text.f k a0_1).bind fun t237 => (if t236.size + t237.size ≤ 9223372036854775807 then ((parchmentref02_Uint.f k a0_2).bind fun t238 => (if (t236 ++ t237).size + t238.size ≤ 9223372036854775807 then ((parchmentref02_Uint.f k (IntKind.u64.wrap ((l0_3.length : Int)))).bind fun t239 => (if ((t236 ++ t237) ++ t238).size + t239.size ≤ 9223372036854775807 then (parchmentref09_Frame.l0 k (((t236 ++ t237) ++ t238) ++ t239) 0 a0_0 a0_1 a0_2 l0_3) else (none))) else (none))) else (none)))
def parchmentref09_Frame.T1 : Bool × List (List Nat × List Nat) := (true, [([], []), ([0], [0]), ([1], [1]), ([], []), ([3], [3]), ([4, 2], [4]), ([2, 5], [2, 5]), ([], []), ([7], [7]), ([8, 5], [8]), ([6, 9], [6, 9]), ([], []), ([11], [11]), ([12], [12]), ([13], [13]), ([14, 9], [14]), ([10, 15], [10, 15]), ([16, 15, 0, 1, 2, 3, 4, 5, 6, 7, 8, 9, 10, 11, 12, 13, 14, 15, 16], [16])])
def parchmentref09_Frame.B1 : List Nat := [0, 1, 3, 0, 8, 31, 63, 0, 128, 447, 1023, 0, 2048, 6144, 14336, 31679, 65535, 131071]
theorem parchmentref09_Frame.tab1 : rtab .any (opsOf Try.f17 1) = parchmentref09_Frame.T1 := by kernel_rfl
theorem parchmentref09_Frame.bits1 : waitsOk parchmentref09_Frame.T1.2 parchmentref09_Frame.B1 = true := by kernel_rfl
set_option maxHeartbeats 8000000 in
set_option maxRecDepth 100000 in
theorem parchmentref09_Frame.calls (k : Nat) (a0_0 : Int) (a0_1 : ByteArray) (a0_2 : Int) (A0_3 : Option Addr) (c0_3 : Nat) (l0_3 : List (S44)) (r : ByteArray) (w : World) (hr0_3 : Kd.C k44 w A0_3 l0_3.length l0_3) (hc0_3 : l0_3.length ≤ c0_3) (h : parchmentref09_Frame.f k a0_0 a0_1 a0_2 l0_3 = some r) :
  Calls Try.prog 17 #[.agg #[.int .u64 a0_0, .string a0_1, .int .u64 a0_2, .slice A0_3 l0_3.length c0_3]] w fun e w' => e = .returned (.string r) ∧ Below w.heap.size w w' := by
 have hu28 := Try.underlying28
 have hu44 := Try.underlying44
 have HR0_3 := Aside0.mk hr0_3
 have HC0_3 := Aside0.mk hc0_3
 clear hr0_3 hc0_3
 have HB := Aside0.mk (Below.refl w.heap.size w)
 have H : ((parchmentref02_Uint.f k a0_0).bind fun t236 => ((parchmentref02_Text.f k a0_1).bind fun t237 => (if t236.size + t237.size ≤ 9223372036854775807 then ((parchmentref02_Uint.f k a0_2).bind fun t238 => (if (t236 ++ t237).size + t238.size ≤ 9223372036854775807 then ((parchmentref02_Uint.f k (IntKind.u64.wrap ((l0_3.length : Int)))).bind fun t239 => (if ((t236 ++ t237) ++ t238).size + t239.size ≤ 9223372036854775807 then (parchmentref09_Frame.l0 k (((t236 ++ t237) ++ t238) ++ t239) 0 a0_0 a0_1 a0_2 l0_3) else (none))) else (none))) else (none)))) = some r := h
 clear h
 replace H := Option.bind_eq_some_iff.mp H
 obtain ⟨t236, A20, H⟩ := H
 replace H : ((parchmentref02_Text.f k a0_1).bind fun t237 => (if t236.size + t237.size ≤ 9223372036854775807 then ((parchmentref02_Uint.f k a0_2).bind fun t238 => (if (t236 ++ t237).size + t238.size ≤ 9223372036854775807 then ((parchmentref02_Uint.f k (IntKind.u64.wrap ((l0_3.length : Int)))).bind fun t239 => (if ((t236 ++ t237) ++ t238).size + t239.size ≤ 9223372036854775807 then (parchmentref09_Frame.l0 k (((t236 ++ t237) ++ t238) ++ t239) 0 a0_0 a0_1 a0_2 l0_3) else (none))) else (none))) else (none))) = some r := H
 have A2 := Aside0.mk A20
 clear A20
 replace H := Option.bind_eq_some_iff.mp H
 obtain ⟨t237, A30, H⟩ := H
 replace H : (if t236.size + t237.size ≤ 9223372036854775807 then ((parchmentref02_Uint.f k a0_2).bind fun t238 => (if (t236 ++ t237).size + t238.size ≤ 9223372036854775807 then ((parchmentref02_Uint.f k (IntKind.u64.wrap ((l0_3.length : Int)))).bind fun t239 => (if ((t236 ++ t237) ++ t238).size + t239.size ≤ 9223372036854775807 then (parchmentref09_Frame.l0 k (((t236 ++ t237) ++ t238) ++ t239) 0 a0_0 a0_1 a0_2 l0_3) else (none))) else (none))) else (none)) = some r := H
 have A3 := Aside0.mk A30
 clear A30
 by_cases c4 : t236.size + t237.size ≤ 9223372036854775807
 ·rw [if_pos c4] at H
  have c4b0 := eq_true c4
  have c4b1 : decide (t236.size + t237.size ≤ 9223372036854775807) = true := decide_eq_true c4
  try have c4b2 : (9223372036854775807 < t236.size + t237.size) = False := eq_false (Nat.not_lt.2 c4)
  replace H := Option.bind_eq_some_iff.mp H
  obtain ⟨t238, A50, H⟩ := H
  replace H : (if (t236 ++ t237).size + t238.size ≤ 9223372036854775807 then ((parchmentref02_Uint.f k (IntKind.u64.wrap ((l0_3.length : Int)))).bind fun t239 => (if ((t236 ++ t237) ++ t238).size + t239.size ≤ 9223372036854775807 then (parchmentref09_Frame.l0 k (((t236 ++ t237) ++ t238) ++ t239) 0 a0_0 a0_1 a0_2 l0_3) else (none))) else (none)) = some r := H
  have A5 := Aside0.mk A50
  clear A50
  by_cases c6 : (t236 ++ t237).size + t238.size ≤ 9223372036854775807
  ·rw [if_pos c6] at H
   have c6b0 := eq_true c6
   have c6b1 : decide ((t236 ++ t237).size + t238.size ≤ 9223372036854775807) = true := decide_eq_true c6
   try have c6b2 : (9223372036854775807 < (t236 ++ t237).size + t238.size) = False := eq_false (Nat.not_lt.2 c6)
   try (have c6b2x := c6b2; simp only [ByteArray.size_append] at c6b2x)
   replace H := Option.bind_eq_some_iff.mp H
   obtain ⟨t239, A70, H⟩ := H
   replace H : (if ((t236 ++ t237) ++ t238).size + t239.size ≤ 9223372036854775807 then (parchmentref09_Frame.l0 k (((t236 ++ t237) ++ t238) ++ t239) 0 a0_0 a0_1 a0_2 l0_3) else (none)) = some r := H
   have A7 := Aside0.mk A70
   clear A70
   by_cases c8 : ((t236 ++ t237) ++ t238).size + t239.size ≤ 9223372036854775807
   ·rw [if_pos c8] at H
    have c8b0 := eq_true c8
    have c8b1 : decide (((t236 ++ t237) ++ t238).size + t239.size ≤ 9223372036854775807) = true := decide_eq_true c8
    try have c8b2 : (9223372036854775807 < ((t236 ++ t237) ++ t238).size + t239.size) = False := eq_false (Nat.not_lt.2 c8)
    try (have c8b2x := c8b2; simp only [ByteArray.size_append] at c8b2x)
    have H' := Aside0.mk H
    clear H
    go_enter Try.func17, Try.ntmps17
    try go_wp2_with (first | ((with_reducible refine gate_dst (N := 1) rfl ?_); refine box_event ?hg (N := 1) ?hd (cs := #[.int .u64 a0_0, .string a0_1, .int .u64 a0_2, .slice A0_3 l0_3.length c0_3]) (t := 28) ?hr ?_; (case hd => rfl); (case hg => rfl); (case hr => first | (go_simp; done) | (go_simp; rfl)); intro gb235 hg w9 hbox hb; have n0_ := Aside0.mk (below_step (bh_ HB.out) hb); have n1_ := Aside0.mk (hbox); have n2_ := Aside0.mk ((by rw [hg]; exact (below_size (bh_ HB.out)) : w.heap.size ≤ gb235)); have n3_ := Aside0.mk ((by rw [hg]; exact (below_size (bh_ HB.out)) : w.heap.size ≤ gb235)); clear HB; have HB := n0_; have BK235 := n1_; have GW235 := n2_; have GE235 := n3_; clear n0_ n1_ n2_ n3_; clear hb hbox hg))
    replace BK235 := Aside0.mk (blk_drew BK235.out)
    replace HB := Aside0.mk (below_drew1 HB.out)
    refine start_ (n := 18) (S := fun w' => w'.cell? ⟨gb235, 0, none⟩ = some (.int .u64 a0_0) ∧ w'.cell? ⟨gb235, 1, none⟩ = some (.string a0_1) ∧ w'.cell? ⟨gb235, 2, none⟩ = some (.int .u64 a0_2) ∧ w'.cell? ⟨gb235, 3, none⟩ = some (.slice A0_3 l0_3.length c0_3)) (ds := []) #[N_, N_, N_, N_, N_, N_, N_, N_, N_, N_, N_, N_, N_, N_, N_, N_, N_, N_] (by kernel_rfl) rfl rfl ⟨(blk_cell BK235.out 0).trans rfl, (blk_cell BK235.out 1).trans rfl, (blk_cell BK235.out 2).trans rfl, (blk_cell BK235.out 3).trans rfl⟩ (fun hHeld => ?_); refine with_tabW parchmentref09_Frame.tab1 parchmentref09_Frame.bits1 (fun HT_ HW_ => ?_)
    generalize w9.drew = w10 at BK235 HB hHeld ⊢
    refine pure_ (i := 0) (N := some 5) (v := ?_) (a' := ?_) #[Y_, N_, N_, N_, N_, N_, N_, N_, N_, N_, N_, N_, N_, N_, N_, N_, N_, N_] rfl rfl (any_of HT_.out (by kernel_rfl)) (fun _ _ _ h => h) (Or.inl ⟨by rfl, ?_⟩) ?_ ?_
    rotate_left; (intro w'; go_simp; with_reducible rfl); rotate_left; (simp only [Act.put, q1_, q2_, q3_, i64_w, i32_w]; rfl)
    refine pure_ (i := 3) (N := some 8) (v := ?_) (a' := ?_) #[Y_, N_, N_, Y_, N_, N_, N_, N_, N_, N_, N_, N_, N_, N_, N_, N_, N_, N_] rfl rfl (any_of HT_.out (by kernel_rfl)) (fun _ _ _ h => h) (Or.inl ⟨by rfl, ?_⟩) ?_ ?_
    rotate_left; (intro w'; go_simp; with_reducible rfl); rotate_left; (simp only [Act.put, q1_, q2_, q3_, i64_w, i32_w]; rfl)
    refine pure_ (i := 7) (N := some 12) (v := ?_) (a' := ?_) #[Y_, N_, N_, Y_, N_, N_, N_, Y_, N_, N_, N_, N_, N_, N_, N_, N_, N_, N_] rfl rfl (any_of HT_.out (by kernel_rfl)) (fun _ _ _ h => h) (Or.inl ⟨by rfl, ?_⟩) ?_ ?_
    rotate_left; (intro w'; go_simp; with_reducible rfl); rotate_left; (simp only [Act.put, q1_, q2_, q3_, i64_w, i32_w]; rfl)
    refine pure_ (i := 11) (N := some 16) (v := ?_) (a' := ?_) #[Y_, N_, N_, Y_, N_, N_, N_, Y_, N_, N_, N_, Y_, N_, N_, N_, N_, N_, N_] rfl rfl (any_of HT_.out (by kernel_rfl)) (fun _ _ _ h => h) (Or.inl ⟨by rfl, ?_⟩) ?_ ?_
    rotate_left; (intro w'; go_simp; with_reducible rfl); rotate_left; (simp only [Act.put, q1_, q2_, q3_, i64_w, i32_w]; rfl)
    refine take_ (i := 1) (N := some 6) (v := ?_) (a' := ?_) #[Y_, Y_, N_, Y_, N_, N_, N_, Y_, N_, N_, N_, Y_, N_, N_, N_, N_, N_, N_] rfl rfl (take_ofW HT_.out HW_.out (by kernel_rfl)) (fun _ _ _ h => h) (Or.inl ⟨by rfl, ?_⟩) hHeld ?_ ?_
    rotate_left; (rintro w' ⟨s0, s1, s2, s3⟩; go_simp; with_reducible rfl); rotate_left; (simp only [Act.put, q1_, q2_, q3_, i64_w, i32_w]; rfl)
    refine take_ (i := 4) (N := some 9) (v := ?_) (a' := ?_) #[Y_, Y_, N_, Y_, Y_, N_, N_, Y_, N_, N_, N_, Y_, N_, N_, N_, N_, N_, N_] rfl rfl (take_ofW HT_.out HW_.out (by kernel_rfl)) (fun _ _ _ h => h) (Or.inl ⟨by rfl, ?_⟩) hHeld ?_ ?_
    rotate_left; (rintro w' ⟨s0, s1, s2, s3⟩; go_simp; with_reducible rfl); rotate_left; (simp only [Act.put, q1_, q2_, q3_, i64_w, i32_w]; rfl)
    refine take_ (i := 8) (N := some 13) (v := ?_) (a' := ?_) #[Y_, Y_, N_, Y_, Y_, N_, N_, Y_, Y_, N_, N_, Y_, N_, N_, N_, N_, N_, N_] rfl rfl (take_ofW HT_.out HW_.out (by kernel_rfl)) (fun _ _ _ h => h) (Or.inl ⟨by rfl, ?_⟩) hHeld ?_ ?_
    rotate_left; (rintro w' ⟨s0, s1, s2, s3⟩; go_simp; with_reducible rfl); rotate_left; (simp only [Act.put, q1_, q2_, q3_, i64_w, i32_w]; rfl)
    refine take_ (i := 12) (N := some 17) (v := ?_) (a' := ?_) #[Y_, Y_, N_, Y_, Y_, N_, N_, Y_, Y_, N_, N_, Y_, Y_, N_, N_, N_, N_, N_] rfl rfl (take_ofW HT_.out HW_.out (by kernel_rfl)) (fun _ _ _ h => h) (Or.inl ⟨by rfl, ?_⟩) hHeld ?_ ?_
    rotate_left; (rintro w' ⟨s0, s1, s2, s3⟩; go_simp; with_reducible rfl); rotate_left; (simp only [Act.put, q1_, q2_, q3_, i64_w, i32_w]; rfl)
    refine pure_ (i := 13) (N := some 18) (v := ?_) (a' := ?_) #[Y_, Y_, N_, Y_, Y_, N_, N_, Y_, Y_, N_, N_, Y_, Y_, Y_, N_, N_, N_, N_] rfl rfl (any_of HT_.out (by kernel_rfl)) (fun _ _ _ h => h) (Or.inl ⟨by rfl, ?_⟩) ?_ ?_
    rotate_left; (intro w'; go_simp; with_reducible rfl); rotate_left; (simp only [Act.put, q1_, q2_, q3_, i64_w, i32_w]; rfl)
    refine pure_ (i := 14) (N := some 19) (v := ?_) (a' := ?_) #[Y_, Y_, N_, Y_, Y_, N_, N_, Y_, Y_, N_, N_, Y_, Y_, Y_, Y_, N_, N_, N_] rfl rfl (any_of HT_.out (by kernel_rfl)) (fun _ _ _ h => h) (Or.inl ⟨by rfl, ?_⟩) ?_ ?_
    rotate_left; (intro w'; go_simp; with_reducible rfl); rotate_left; (simp only [Act.put, q1_, q2_, q3_, i64_w, i32_w]; rfl)
    refine one_ (i := 2) (N := some 7) #[Y_, Y_, Y_, Y_, Y_, N_, N_, Y_, Y_, N_, N_, Y_, Y_, Y_, Y_, N_, N_, N_] rfl rfl (one_of HT_.out (by kernel_rfl)) (by decide) (fun K hK => ?_)
    refine goes_ Try.func41 (by kernel_rfl) rfl #[.int .u64 a0_0] (by rfl) rfl rfl (by (try simp only [List.map_toArray, List.map_cons, List.map_nil]); first | done | rfl | (simp only [List.length_drop, List.length_take]; rfl)) ?_
    with_reducible refine (parchmentref02_Uint.calls k a0_0 t236 _ A2.out).mono ?_
    rintro e w11 ⟨rfl, hb⟩
    refine ⟨_, rfl, ?_⟩
    replace BK235 := Aside0.mk (bk_ BK235.out hb)
    replace HB := Aside0.mk (below_step (bh_ HB.out) hb)
    (try clear hb)
    (try clear hb2)
    (try clear hk)
    (try clear hi)
    refine hK.out _ _ ⟨(blk_cell BK235.out 0).trans rfl, (blk_cell BK235.out 1).trans rfl, (blk_cell BK235.out 2).trans rfl, (blk_cell BK235.out 3).trans rfl⟩ (fun hHeld => ?_)
    clear hK K
    refine norm_ (a' := ?_) ?_ ?_
    rotate_left
    ·show Act.put _ (some 7) _ = _
     simp only [Act.put, q1_, q2_, q3_, i64_w, i32_w]
     rfl
    refine one_ (i := 5) (N := some 10) #[Y_, Y_, Y_, Y_, Y_, Y_, N_, Y_, Y_, N_, N_, Y_, Y_, Y_, Y_, N_, N_, N_] rfl rfl (one_of HT_.out (by kernel_rfl)) (by decide) (fun K hK => ?_)
    refine goes_ Try.func42 (by kernel_rfl) rfl #[.string a0_1] (by rfl) rfl rfl (by (try simp only [List.map_toArray, List.map_cons, List.map_nil]); first | done | rfl | (simp only [List.length_drop, List.length_take]; rfl)) ?_
    with_reducible refine (parchmentref02_Text.calls k a0_1 t237 _ A3.out).mono ?_
    rintro e w12 ⟨rfl, hb⟩
    refine ⟨_, rfl, ?_⟩
    replace BK235 := Aside0.mk (bk_ BK235.out hb)
    replace HB := Aside0.mk (below_step (bh_ HB.out) hb)
    (try clear hb)
    (try clear hb2)
    (try clear hk)
    (try clear hi)
    refine hK.out _ _ ⟨(blk_cell BK235.out 0).trans rfl, (blk_cell BK235.out 1).trans rfl, (blk_cell BK235.out 2).trans rfl, (blk_cell BK235.out 3).trans rfl⟩ (fun hHeld => ?_)
    clear hK K
    refine norm_ (a' := ?_) ?_ ?_
    rotate_left
    ·show Act.put _ (some 10) _ = _
     simp only [Act.put, q1_, q2_, q3_, i64_w, i32_w]
     rfl
    refine pure_ (i := 6) (N := some 11) (v := ?_) (a' := ?_) #[Y_, Y_, Y_, Y_, Y_, Y_, Y_, Y_, Y_, N_, N_, Y_, Y_, Y_, Y_, N_, N_, N_] rfl rfl (any_of HT_.out (by kernel_rfl)) (fun _ _ _ h => h) (Or.inl ⟨by rfl, ?_⟩) ?_ ?_
    rotate_left; (intro w'; go_simp; with_reducible rfl); rotate_left; (simp only [Act.put, q1_, q2_, q3_, i64_w, i32_w]; rfl)
    refine one_ (i := 9) (N := some 14) #[Y_, Y_, Y_, Y_, Y_, Y_, Y_, Y_, Y_, Y_, N_, Y_, Y_, Y_, Y_, N_, N_, N_] rfl rfl (one_of HT_.out (by kernel_rfl)) (by decide) (fun K hK => ?_)
    refine goes_ Try.func41 (by kernel_rfl) rfl #[.int .u64 a0_2] (by rfl) rfl rfl (by (try simp only [List.map_toArray, List.map_cons, List.map_nil]); first | done | rfl | (simp only [List.length_drop, List.length_take]; rfl)) ?_
    with_reducible refine (parchmentref02_Uint.calls k a0_2 t238 _ A5.out).mono ?_
    rintro e w13 ⟨rfl, hb⟩
    refine ⟨_, rfl, ?_⟩
    replace BK235 := Aside0.mk (bk_ BK235.out hb)
    replace HB := Aside0.mk (below_step (bh_ HB.out) hb)
    (try clear hb)
    (try clear hb2)
    (try clear hk)
    (try clear hi)
    refine hK.out _ _ ⟨(blk_cell BK235.out 0).trans rfl, (blk_cell BK235.out 1).trans rfl, (blk_cell BK235.out 2).trans rfl, (blk_cell BK235.out 3).trans rfl⟩ (fun hHeld => ?_)
    clear hK K
    refine norm_ (a' := ?_) ?_ ?_
    rotate_left
    ·show Act.put _ (some 14) _ = _
     simp only [Act.put, q1_, q2_, q3_, i64_w, i32_w]
     rfl
    refine pure_ (i := 10) (N := some 15) (v := ?_) (a' := ?_) #[Y_, Y_, Y_, Y_, Y_, Y_, Y_, Y_, Y_, Y_, Y_, Y_, Y_, Y_, Y_, N_, N_, N_] rfl rfl (any_of HT_.out (by kernel_rfl)) (fun _ _ _ h => h) (Or.inl ⟨by rfl, ?_⟩) ?_ ?_
    rotate_left; (intro w'; go_simp; with_reducible rfl); rotate_left; (simp only [Act.put, q1_, q2_, q3_, i64_w, i32_w]; rfl)
    refine one_ (i := 15) (N := some 20) #[Y_, Y_, Y_, Y_, Y_, Y_, Y_, Y_, Y_, Y_, Y_, Y_, Y_, Y_, Y_, Y_, N_, N_] rfl rfl (one_of HT_.out (by kernel_rfl)) (by decide) (fun K hK => ?_)
    refine goes_ Try.func41 (by kernel_rfl) rfl #[.int .u64 (IntKind.u64.wrap ((l0_3.length : Int)))] (by rfl) rfl rfl (by (try simp only [List.map_toArray, List.map_cons, List.map_nil]); first | done | rfl | (simp only [List.length_drop, List.length_take]; rfl)) ?_
    with_reducible refine (parchmentref02_Uint.calls k (IntKind.u64.wrap ((l0_3.length : Int))) t239 _ A7.out).mono ?_
    rintro e w14 ⟨rfl, hb⟩
    refine ⟨_, rfl, ?_⟩
    replace BK235 := Aside0.mk (bk_ BK235.out hb)
    replace HB := Aside0.mk (below_step (bh_ HB.out) hb)
    (try clear hb)
    (try clear hb2)
    (try clear hk)
    (try clear hi)
    refine hK.out _ _ ⟨(blk_cell BK235.out 0).trans rfl, (blk_cell BK235.out 1).trans rfl, (blk_cell BK235.out 2).trans rfl, (blk_cell BK235.out 3).trans rfl⟩ (fun hHeld => ?_)
    clear hK K
    refine norm_ (a' := ?_) ?_ ?_
    rotate_left
    ·show Act.put _ (some 20) _ = _
     simp only [Act.put, q1_, q2_, q3_, i64_w, i32_w]
     rfl
    refine pure_ (i := 16) (N := some 21) (v := ?_) (a' := ?_) #[Y_, Y_, Y_, Y_, Y_, Y_, Y_, Y_, Y_, Y_, Y_, Y_, Y_, Y_, Y_, Y_, Y_, N_] rfl rfl (any_of HT_.out (by kernel_rfl)) (fun _ _ _ h => h) (Or.inl ⟨by rfl, ?_⟩) ?_ ?_
    rotate_left; (intro w'; go_simp; with_reducible rfl); rotate_left; (simp only [Act.put, q1_, q2_, q3_, i64_w, i32_w]; rfl)
    refine pure_ (i := 17) (N := some 3) (v := ?_) (a' := ?_) #[Y_, Y_, Y_, Y_, Y_, Y_, Y_, Y_, Y_, Y_, Y_, Y_, Y_, Y_, Y_, Y_, Y_, Y_] rfl rfl (any_of HT_.out (by kernel_rfl)) (fun _ _ _ h => h) (Or.inl ⟨by rfl, ?_⟩) ?_ ?_
    rotate_left; (intro w'; go_simp; with_reducible rfl); rotate_left; (simp only [Act.put, q1_, q2_, q3_, i64_w, i32_w]; rfl)
    refine done_ (done_of HT_.out (by kernel_rfl)) ?_
    try go_wp2
    go_loopg [3, 4] k (fun kq v3 v4 w' => ∃ (x3_1 : ByteArray) (x4_1 : Int), v3 = .string x3_1 ∧ v4 = .int .i64 x4_1 ∧ Aside0 (parchmentref09_Frame.l0 kq x3_1 x4_1 a0_0 a0_1 a0_2 l0_3 = some r) ∧ Aside0 (kq ≤ k) ∧ Aside0 (w'.heap[gb235]? = some (.cells #[.int .u64 a0_0, .string a0_1, .int .u64 a0_2, (.slice A0_3 l0_3.length c0_3)] 28 (0, 0))) ∧ Aside0 (Below w.heap.size w w'))
    case atStart => exact ⟨(((t236 ++ t237) ++ t238) ++ t239), (0), (by first | rfl | (simp; done) | (simp [*]; done)), (by first | rfl | (simp; done) | (simp [*]; done)), H', ⟨Nat.le_refl _⟩, ⟨bq_ BK235.out⟩, ⟨bh_ HB.out⟩⟩
    case round =>
     clear H'
     try clear c1
     try clear p2
     try clear c4
     try clear c4b0
     try clear c4b1
     try clear c4b2
     try clear c6
     try clear c6b0
     try clear c6b1
     try clear c6b2
     try clear c8
     try clear c8b0
     try clear c8b1
     try clear c8b2
     obtain ⟨x3_1, x4_1, rfl, rfl, HA, HK1, BK235, HB⟩ := hrel
     cases gk with
     | zero => exact absurd HA.out (by simp [parchmentref09_Frame.l0])
     | succ k1 =>
      have H := HA.out
      clear HA
      simp only [parchmentref09_Frame.l0] at H
      by_cases c15 : x4_1 < (l0_3.length : Int)
      ·rw [if_pos c15] at H
       have c15b0 : decide (x4_1 < (l0_3.length : Int)) = true := decide_eq_true c15
       clear c15
       by_cases c16 : 0 ≤ x4_1
       ·rw [if_pos c16] at H
        have c16b0 : decide (0 ≤ x4_1) = true := decide_eq_true c16
        clear c16
        replace H := Option.bind_eq_some_iff.mp H
        obtain ⟨t241, A170, H⟩ := H
        replace H : (if x3_1.size + t241.size ≤ 9223372036854775807 then (parchmentref09_Frame.l0 k1 (x3_1 ++ t241) (wrap64 (x4_1 + 1)) a0_0 a0_1 a0_2 l0_3) else (none)) = some r := H
        have A17 := Aside0.mk A170
        clear A170
        by_cases c18 : x3_1.size + t241.size ≤ 9223372036854775807
        ·rw [if_pos c18] at H
         have c18b0 := eq_true c18
         have c18b1 : decide (x3_1.size + t241.size ≤ 9223372036854775807) = true := decide_eq_true c18
         try have c18b2 : (9223372036854775807 < x3_1.size + t241.size) = False := eq_false (Nat.not_lt.2 c18)
         have H' := Aside0.mk H
         clear H
         obtain ⟨z19_0, z19_1, z19_2, z19_3, f19_0, f19_1, f19_2, f19_3⟩ := bc4_ BK235.out
         have p240 : 0 ≤ (x4_1 : Int) := of_decide_eq_true (by first | (with_reducible assumption) | assumption)
         have q240 : x4_1 < (l0_3.length : Int) := of_decide_eq_true (by first | (with_reducible assumption) | assumption)
         obtain ⟨ad240, e240, hx240_0, hx240_1, hx240_2, hx240_3, hx240_4, hx240_5, hx240_6, hx240_7⟩ := at_T44 HR0_3.out x4_1 p240 q240
         cases e240
         replace hx240_0 := (HB.out.cell (World.block_lt_of_cell? w _ hx240_0)).trans hx240_0
         replace hx240_1 := (HB.out.cell (World.block_lt_of_cell? w _ hx240_1)).trans hx240_1
         replace hx240_2 := (HB.out.cell (World.block_lt_of_cell? w _ hx240_2)).trans hx240_2
         replace hx240_3 := (HB.out.cell (World.block_lt_of_cell? w _ hx240_3)).trans hx240_3
         replace hx240_4 := (HB.out.cell (World.block_lt_of_cell? w _ hx240_4)).trans hx240_4
         replace hx240_5 := (HB.out.cell (World.block_lt_of_cell? w _ hx240_5)).trans hx240_5
         replace hx240_6 := (HB.out.cell (World.block_lt_of_cell? w _ hx240_6)).trans hx240_6
         replace hx240_7 := (HB.out.cell (World.block_lt_of_cell? w _ hx240_7)).trans hx240_7
         replace p240 := eq_true p240
         replace q240 := eq_true q240
         go_wp2_with (first | ((with_reducible refine gate_callee (f := 37) rfl ?_); refine goesL_ (some 35) rfl rfl Try.func37 (by kernel_rfl) rfl #[.agg #[.int .i64 ((rd_T44 l0_3 x4_1).f0), .string ((rd_T44 l0_3 x4_1).f1), .string ((rd_T44 l0_3 x4_1).f2), .int .u64 ((rd_T44 l0_3 x4_1).f3), .int .u64 ((rd_T44 l0_3 x4_1).f4), .string ((rd_T44 l0_3 x4_1).f5), .string ((rd_T44 l0_3 x4_1).f6), .bool ((rd_T44 l0_3 x4_1).f7)]] rfl (by (try simp only [List.map_toArray, List.map_cons, List.map_nil]); first | done | rfl | (simp only [List.length_drop, List.length_take]; rfl)) ?_; (with_reducible refine (parchmentref09_Meta.calls k1 ((rd_T44 l0_3 x4_1).f0) ((rd_T44 l0_3 x4_1).f1) ((rd_T44 l0_3 x4_1).f2) ((rd_T44 l0_3 x4_1).f3) ((rd_T44 l0_3 x4_1).f4) ((rd_T44 l0_3 x4_1).f5) ((rd_T44 l0_3 x4_1).f6) ((rd_T44 l0_3 x4_1).f7) t241 _ A17.out).mono ?_); rintro e w20 ⟨rfl, hb⟩; refine ⟨_, rfl, ?_⟩; replace BK235 := Aside0.mk (bk_ BK235.out hb); replace HB := Aside0.mk (below_step (bh_ HB.out) hb); (try clear hb)))
         go_roundg k1
         case measure => have := HK1.out; omega
         case rel => exact ⟨(x3_1 ++ t241), (wrap64 (x4_1 + 1)), (by first | rfl | (simp; done) | (simp [*]; done)), (by first | rfl | (simp; done) | (simp [*]; done)), H', ⟨by have := HK1.out; omega⟩, ⟨bq_ BK235.out⟩, ⟨bh_ HB.out⟩⟩
        ·rw [if_neg c18] at H
         exact absurd H (by simp)
       ·rw [if_neg c16] at H
        exact absurd H (by simp)
      ·rw [if_neg c15] at H
       have c15b0 : decide (x4_1 < (l0_3.length : Int)) = false := decide_eq_false c15
       clear c15
       obtain rfl := Option.some.inj H
       obtain ⟨z21_0, z21_1, z21_2, z21_3, f21_0, f21_1, f21_2, f21_3⟩ := bc4_ BK235.out
       go_wp2
       go_ret
       exact ⟨by first | rfl | (simp [errW_none, errW_some] <;> rfl) | (simp [*, errW_none, errW_some] <;> rfl), by repeat (first | (with_reducible first | exact HB.out | apply below_alloc | apply pw_below_drewN | apply below_drew1 | refine below_set ?_ GE235.out) | exact HB.out)⟩
   ·rw [if_neg c8] at H
    exact absurd H (by simp)
  ·rw [if_neg c6] at H
   exact absurd H (by simp)
 ·rw [if_neg c4] at H
  exact absurd H (by simp)
/-- A state of type 138 at block g of W; what its slices lead to came in by w0. -/
def IsS138 (w0 W : World) (g : Nat) (f0 : ByteArray) (f1 : Int) (f2 : Int) : Prop := W.heap[g]? = some (.cells #[.string f0, .int .i64 f1, .int .i64 f2] 138 (0, 0)) ∧ w0.heap.size ≤ g
theorem IsS138.grown {w0 W : World} {g : Nat} {f0 : ByteArray} {f1 : Int} {f2 : Int} {W1 : World} {row : Option Nat} (h : IsS138 w0 W g f0 f1 f2) (hw : W.grownBy W1 row) (hne : some g ≠ row) : IsS138 w0 W1 g f0 f1 f2 := by
 obtain ⟨hb, hg⟩ := h
 exact ⟨blk_grown hb hw hne, hg⟩
theorem IsS138.kept {w0 W : World} {g : Nat} {f0 : ByteArray} {f1 : Int} {f2 : Int} {W1 : World} {S : Nat → Prop} (h : IsS138 w0 W g f0 f1 f2) (hk : Kept W W1 S) (hne : ¬ S g) : IsS138 w0 W1 g f0 f1 f2 := by
 obtain ⟨hb, hg⟩ := h
 exact ⟨blk_kept hb hk hne, hg⟩
theorem IsS138.below {w0 W : World} {g : Nat} {f0 : ByteArray} {f1 : Int} {f2 : Int} {W1 : World} (h : IsS138 w0 W g f0 f1 f2) (hw : Below W.heap.size W W1) : IsS138 w0 W1 g f0 f1 f2 := h.grown (grown_of_below hw none) (by simp)
theorem IsS138.alloc {w0 W : World} {g : Nat} {f0 : ByteArray} {f1 : Int} {f2 : Int} (h : IsS138 w0 W g f0 f1 f2) (o : Obj) : IsS138 w0 (W.alloc o) g f0 f1 f2 := h.below (below_alloc (Below.refl _ _) o)
theorem IsS138.drewN {w0 W : World} {g : Nat} {f0 : ByteArray} {f1 : Int} {f2 : Int} (h : IsS138 w0 W g f0 f1 f2) (m : Nat) : IsS138 w0 (W.drewN m) g f0 f1 f2 := h
theorem IsS138.drew {w0 W : World} {g : Nat} {f0 : ByteArray} {f1 : Int} {f2 : Int} (h : IsS138 w0 W g f0 f1 f2) : IsS138 w0 W.drew g f0 f1 f2 := h
theorem IsS138.at_ {w0 W : World} {g : Nat} {f0 : ByteArray} {f1 : Int} {f2 : Int} {w' : World} {m : Nat} (hq : W.drewN m = w') (h : IsS138 w0 W g f0 f1 f2) : IsS138 w0 w' g f0 f1 f2 := by subst hq; exact IsS138.drewN h m
theorem IsS138.apart {w0 W : World} {g : Nat} {f0 : ByteArray} {f1 : Int} {f2 : Int} {α : Type} {d : Kd α} {e : Nat} {base : Nat} {ok : Nat → Prop} {v : Value} {xs : List α} (h : IsS138 w0 W g f0 f1 f2) (ho : d.R e W base ok v xs) (ht : ∀ q, q ∈ e :: d.E → q ≠ 138) : d.R e W base (fun k => ok k ∧ k ≠ g) v xs := by
 obtain ⟨hb, hg⟩ := h
 exact Kd.R_types ho hb ht
theorem IsS138.own_ne {w0 W : World} {g : Nat} {f0 : ByteArray} {f1 : Int} {f2 : Int} {α : Type} {d : Kd α} {e : Nat} {base : Nat} {ok : Nat → Prop} {v : Value} {xs : List α} (h : IsS138 w0 W g f0 f1 f2) (ho : d.R e W base ok v xs) (ht : e ≠ 138) : some g ≠ v.ownBlock := by
 obtain ⟨hb, hg⟩ := h
 exact Kd.R_ne ho hb ht
theorem IsS138.lt {w0 W : World} {g : Nat} {f0 : ByteArray} {f1 : Int} {f2 : Int} (h : IsS138 w0 W g f0 f1 f2) : g < W.heap.size := by
 obtain ⟨hb, hg⟩ := h
 exact blk_lt hb
theorem IsS138.far {w0 W : World} {g : Nat} {f0 : ByteArray} {f1 : Int} {f2 : Int} {p : Addr} (h : IsS138 w0 W g f0 f1 f2) (hne : g ≠ p.block) (u : Value) : IsS138 w0 (W.setCell p u) g f0 f1 f2 := by
 obtain ⟨hb, hg⟩ := h
 exact ⟨blk_far hb hne u, hg⟩
theorem IsS138.new (w0 W : World) (f0 : ByteArray) (f1 : Int) (f2 : Int) (hB : Below w0.heap.size w0 W) : IsS138 w0 (W.alloc (.cells #[.string f0, .int .i64 f1, .int .i64 f2] 138)) W.heap.size f0 f1 f2 := ⟨by simpa using heap_alloc_new W _, hB.size⟩
/-! ### enc_At: function 61 -/
/-! ### enc_Cursor_stop: function 88 -/
end Go.Proofs.Ytdcbacbilncnnaa.PMk
end
