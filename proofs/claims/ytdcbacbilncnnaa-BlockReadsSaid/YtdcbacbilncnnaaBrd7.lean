/- Part 7 of what the proof of BlockReads stands on. -/
import Derived.Lib.Hide
import Derived.Test.YtdcbacbilncnnaaBrd6
section
/- A block's header: its numbers, the block ahead, and its revisions' root. -/
set_option linter.unusedVariables false
set_option linter.unusedSimpArgs false
namespace Go.Proofs.Ytdcbacbilncnnaa.T
open Go.RowKit Go.Proofs.Ytdcbacbilncnnaa.PMk Go.Proofs.Ytdcbacbilncnnaa.M Go.Proofs.YtdcbacbilncnnaaW.PrintWords Go.Proofs.YtdcbacbilncnnaaW.PrintLast
theorem len_any (w : World) (base g n : Nat) (vl vp : Value) (L P : List ByteArray) (hA : At w base g vl vp L P) (hn : L.length = n) :
    Calls Try.prog 57 #[.pointer (some ⟨g, 0, none⟩)] w fun e w' => e = .returned (.int .i64 n) ∧ Below w.heap.size w w' := by
  subst hn
  refine (len_raw w base g vl vp L P hA).mono ?_
  rintro e w' ⟨rfl, h⟩
  rw [h]
  exact ⟨rfl, Below.refl _ _⟩
theorem sum_empty : Dig.hash_Sum.f ⟨#[]⟩ = some (Dig.dig ⟨#[]⟩) := rfl
theorem root_nil (w : World) (base g : Nat) (vl vp : Value) (P : List ByteArray) (hA : At w base g vl vp [] P) :
    Calls Try.prog 48 #[.pointer (some ⟨g, 0, none⟩)] w fun e w' => e = .returned (.string (mroot [])) ∧ Below w.heap.size w w' := by
  have HA := Lib.hid hA
  clear hA
  obtain ⟨d, hd⟩ : ∃ d, Dig.dig ⟨#[]⟩ = d := ⟨_, rfl⟩
  have hm : mroot [] = d := mroot_nil.trans hd
  have HS := Lib.hid (fun w' => Dig.hash_Sum.calls ⟨#[]⟩ d w' (sum_empty.trans (congrArg some hd)))
  rw [hm]
  clear hd hm
  go_enter Try.func48, Try.ntmps48
  go_wp2_with (first
    | (go_at_call 57; refine (len_any _ _ _ 0 _ _ _ _ HA.out rfl).mono ?_; rintro e w1 ⟨rfl, hb1⟩; have HB1 := Lib.hid hb1; clear hb1)
    | (go_at_call 44; refine (HS.out _).mono ?_; rintro e w2 ⟨rfl, hb1⟩; have HB2 := Lib.hid (HB1.out.trans (hb1.mono HB1.out.size)); clear hb1))
  go_ret
  exact ⟨rfl, HB2.out⟩
theorem root_all (w : World) (base g : Nat) (vl vp : Value) (L : List ByteArray) (hA : At w base g vl vp L (pk L)) (hw : W32 L) (hn : L.length < 1000000) :
    Calls Try.prog 48 #[.pointer (some ⟨g, 0, none⟩)] w fun e w' => e = .returned (.string (mroot L)) ∧ Below w.heap.size w w' := by
  by_cases h : L = []
  · subst h
    exact root_nil w base g vl vp _ hA
  · exact root_tree w base g vl vp L hA h hw hn
set_option maxRecDepth 100000 in
set_option maxHeartbeats 4000000 in
theorem header_raw (a0 : Int) (a1 : ByteArray) (a2 : Int) (A : Option Addr) (c len : Nat) (L : List ByteArray) (t1 t2 t3 t4 r : ByteArray) (w : World)
    (H1 : Hid (∀ w, Calls Try.prog 45 #[.int .u64 a0] w fun e w' => e = .returned (.string t1) ∧ Below w.heap.size w w'))
    (H2 : Hid (∀ w, Calls Try.prog 46 #[.string a1] w fun e w' => e = .returned (.string t2) ∧ Below w.heap.size w w'))
    (H3 : Hid (∀ w, Calls Try.prog 45 #[.int .u64 a2] w fun e w' => e = .returned (.string t3) ∧ Below w.heap.size w w'))
    (H4 : Hid (∀ w, Calls Try.prog 45 #[.int .u64 (IntKind.u64.wrap len)] w fun e w' => e = .returned (.string t4) ∧ Below w.heap.size w w'))
    (H5 : Hid (∀ w', Below w.heap.size w w' → Calls Try.prog 47 #[.agg #[.int .u64 a0, .string a1, .int .u64 a2, .slice A len c]] w' fun e w2 => ∃ g vl vp, e = .returned (.pointer (some ⟨g, 0, none⟩)) ∧ At w2 w'.heap.size g vl vp L (pk L) ∧ Below w'.heap.size w' w2))
    (H6 : Hid (∀ w base g vl vp, At w base g vl vp L (pk L) → Calls Try.prog 48 #[.pointer (some ⟨g, 0, none⟩)] w fun e w' => e = .returned (.string r) ∧ Below w.heap.size w w'))
    (hs : t1.size + t2.size + t3.size + t4.size + r.size ≤ 9223372036854775807) :
    Calls Try.prog 16 #[.agg #[.int .u64 a0, .string a1, .int .u64 a2, .slice A len c]] w fun e w' => e = .returned (.string ((((t1 ++ t2) ++ t3) ++ t4) ++ r)) ∧ Below w.heap.size w w' := by
  have s1 : (9223372036854775807 < t1.size + t2.size) = False := eq_false (by omega)
  have s2 : (9223372036854775807 < t1.size + t2.size + t3.size) = False := eq_false (by omega)
  have s3 : (9223372036854775807 < t1.size + t2.size + t3.size + t4.size) = False := eq_false (by omega)
  have s4 : (9223372036854775807 < t1.size + t2.size + t3.size + t4.size + r.size) = False := eq_false (by omega)
  clear hs
  go_enter Try.func16, Try.ntmps16
  go_wp2_with fail
  have BK : Hid ((w.alloc (.cells #[.int .u64 a0, .string a1, .int .u64 a2, .slice A len c] 25)).heap[w.heap.size]? = some (.cells #[.int .u64 a0, .string a1, .int .u64 a2, .slice A len c] 25 (0, 0))) := Lib.hid (heap_alloc_new w _)
  have HB : Hid (Below w.heap.size w (w.alloc (.cells #[.int .u64 a0, .string a1, .int .u64 a2, .slice A len c] 25))) := Lib.hid ((Below.refl _ _).alloc (Nat.le_refl _) _)
  generalize w.alloc (.cells #[.int .u64 a0, .string a1, .int .u64 a2, .slice A len c] 25) = W at BK HB ⊢
  refine start_ (n := 22) (S := fun w' => w'.cell? ⟨w.heap.size, 0, none⟩ = some (.int .u64 a0) ∧ w'.cell? ⟨w.heap.size, 1, none⟩ = some (.string a1) ∧ w'.cell? ⟨w.heap.size, 2, none⟩ = some (.int .u64 a2) ∧ w'.cell? ⟨w.heap.size, 3, none⟩ = some (.slice A len c)) (ds := []) #[false, false, false, false, false, false, false, false, false, false, false, false, false, false, false, false, false, false, false, false, false, false] (by kernel_rfl) rfl rfl ⟨(blk_cell BK.out 0).trans rfl, (blk_cell BK.out 1).trans rfl, (blk_cell BK.out 2).trans rfl, (blk_cell BK.out 3).trans rfl⟩ (fun hHeld => ?_)
  refine pure_ (i := 0) (N := some 3) (v := ?_) (a' := ?_) #[true, false, false, false, false, false, false, false, false, false, false, false, false, false, false, false, false, false, false, false, false, false] rfl rfl (by kernel_rfl) (fun _ _ _ h => h) (Or.inl ⟨by rfl, ?_⟩) ?_ ?_
  rotate_left
  · intro w'
    go_simp
    with_reducible rfl
  rotate_left
  · simp only [Act.put, List.setIfInBounds_toArray, List.set_cons_zero, List.set_cons_succ, i64_w, i32_w]
    rfl
  refine pure_ (i := 3) (N := some 6) (v := ?_) (a' := ?_) #[true, false, false, true, false, false, false, false, false, false, false, false, false, false, false, false, false, false, false, false, false, false] rfl rfl (by kernel_rfl) (fun _ _ _ h => h) (Or.inl ⟨by rfl, ?_⟩) ?_ ?_
  rotate_left
  · intro w'
    go_simp
    with_reducible rfl
  rotate_left
  · simp only [Act.put, List.setIfInBounds_toArray, List.set_cons_zero, List.set_cons_succ, i64_w, i32_w]
    rfl
  refine pure_ (i := 7) (N := some 10) (v := ?_) (a' := ?_) #[true, false, false, true, false, false, false, true, false, false, false, false, false, false, false, false, false, false, false, false, false, false] rfl rfl (by kernel_rfl) (fun _ _ _ h => h) (Or.inl ⟨by rfl, ?_⟩) ?_ ?_
  rotate_left
  · intro w'
    go_simp
    with_reducible rfl
  rotate_left
  · simp only [Act.put, List.setIfInBounds_toArray, List.set_cons_zero, List.set_cons_succ, i64_w, i32_w]
    rfl
  refine pure_ (i := 11) (N := some 14) (v := ?_) (a' := ?_) #[true, false, false, true, false, false, false, true, false, false, false, true, false, false, false, false, false, false, false, false, false, false] rfl rfl (by kernel_rfl) (fun _ _ _ h => h) (Or.inl ⟨by rfl, ?_⟩) ?_ ?_
  rotate_left
  · intro w'
    go_simp
    with_reducible rfl
  rotate_left
  · simp only [Act.put, List.setIfInBounds_toArray, List.set_cons_zero, List.set_cons_succ, i64_w, i32_w]
    rfl
  refine take_ (i := 1) (N := some 4) (v := ?_) (a' := ?_) #[true, true, false, true, false, false, false, true, false, false, false, true, false, false, false, false, false, false, false, false, false, false] rfl rfl (by kernel_rfl) (fun _ _ _ h => h) (Or.inl ⟨by rfl, ?_⟩) hHeld ?_ ?_
  rotate_left
  · rintro w' ⟨s0, s1, s2, s3⟩
    go_simp
    with_reducible rfl
  rotate_left
  · simp only [Act.put, List.setIfInBounds_toArray, List.set_cons_zero, List.set_cons_succ, i64_w, i32_w]
    rfl
  refine take_ (i := 4) (N := some 7) (v := ?_) (a' := ?_) #[true, true, false, true, true, false, false, true, false, false, false, true, false, false, false, false, false, false, false, false, false, false] rfl rfl (by kernel_rfl) (fun _ _ _ h => h) (Or.inl ⟨by rfl, ?_⟩) hHeld ?_ ?_
  rotate_left
  · rintro w' ⟨s0, s1, s2, s3⟩
    go_simp
    with_reducible rfl
  rotate_left
  · simp only [Act.put, List.setIfInBounds_toArray, List.set_cons_zero, List.set_cons_succ, i64_w, i32_w]
    rfl
  refine take_ (i := 8) (N := some 11) (v := ?_) (a' := ?_) #[true, true, false, true, true, false, false, true, true, false, false, true, false, false, false, false, false, false, false, false, false, false] rfl rfl (by kernel_rfl) (fun _ _ _ h => h) (Or.inl ⟨by rfl, ?_⟩) hHeld ?_ ?_
  rotate_left
  · rintro w' ⟨s0, s1, s2, s3⟩
    go_simp
    with_reducible rfl
  rotate_left
  · simp only [Act.put, List.setIfInBounds_toArray, List.set_cons_zero, List.set_cons_succ, i64_w, i32_w]
    rfl
  refine take_ (i := 12) (N := some 15) (v := ?_) (a' := ?_) #[true, true, false, true, true, false, false, true, true, false, false, true, true, false, false, false, false, false, false, false, false, false] rfl rfl (by kernel_rfl) (fun _ _ _ h => h) (Or.inl ⟨by rfl, ?_⟩) hHeld ?_ ?_
  rotate_left
  · rintro w' ⟨s0, s1, s2, s3⟩
    go_simp
    with_reducible rfl
  rotate_left
  · simp only [Act.put, List.setIfInBounds_toArray, List.set_cons_zero, List.set_cons_succ, i64_w, i32_w]
    rfl
  refine pure_ (i := 13) (N := some 16) (v := ?_) (a' := ?_) #[true, true, false, true, true, false, false, true, true, false, false, true, true, true, false, false, false, false, false, false, false, false] rfl rfl (by kernel_rfl) (fun _ _ _ h => h) (Or.inl ⟨by rfl, ?_⟩) ?_ ?_
  rotate_left
  · intro w'
    go_simp
    with_reducible rfl
  rotate_left
  · simp only [Act.put, List.setIfInBounds_toArray, List.set_cons_zero, List.set_cons_succ, i64_w, i32_w]
    rfl
  refine pure_ (i := 14) (N := some 17) (v := ?_) (a' := ?_) #[true, true, false, true, true, false, false, true, true, false, false, true, true, true, true, false, false, false, false, false, false, false] rfl rfl (by kernel_rfl) (fun _ _ _ h => h) (Or.inl ⟨by rfl, ?_⟩) ?_ ?_
  rotate_left
  · intro w'
    go_simp
    with_reducible rfl
  rotate_left
  · simp only [Act.put, List.setIfInBounds_toArray, List.set_cons_zero, List.set_cons_succ, i64_w, i32_w]
    rfl
  refine take_ (i := 17) (N := some 20) (v := ?_) (a' := ?_) #[true, true, false, true, true, false, false, true, true, false, false, true, true, true, true, false, false, true, false, false, false, false] rfl rfl (by kernel_rfl) (fun _ _ _ h => h) (Or.inl ⟨by rfl, ?_⟩) hHeld ?_ ?_
  rotate_left
  · rintro w' ⟨s0, s1, s2, s3⟩
    go_simp
    with_reducible rfl
  rotate_left
  · simp only [Act.put, List.setIfInBounds_toArray, List.set_cons_zero, List.set_cons_succ, i64_w, i32_w]
    rfl
  refine one_ (i := 2) (N := some 5) #[true, true, true, true, true, false, false, true, true, false, false, true, true, true, true, false, false, true, false, false, false, false] rfl rfl (by kernel_rfl) (by decide) (fun K hK => ?_)
  refine goes_ Try.func45 (by kernel_rfl) rfl #[.int .u64 a0] (by rfl) rfl rfl (by simp only [List.map_toArray, List.map_cons, List.map_nil]; rfl) ?_
  with_reducible refine (H1.out _).mono ?_
  rintro e w2 ⟨rfl, hb⟩
  refine ⟨_, rfl, ?_⟩
  have BK2 := Lib.hid (blk_below BK.out (below_drew hb))
  have HB2 := Lib.hid (HB.out.trans ((below_drew hb).mono HB.out.size))
  clear hb
  refine hK.out _ _ ⟨(blk_cell BK2.out 0).trans rfl, (blk_cell BK2.out 1).trans rfl, (blk_cell BK2.out 2).trans rfl, (blk_cell BK2.out 3).trans rfl⟩ (fun hHeld => ?_)
  clear hK K
  refine norm_ (a' := ?_) ?_ ?_
  rotate_left
  · show Act.put _ (some 5) _ = _
    simp only [Act.put, List.setIfInBounds_toArray, List.set_cons_zero, List.set_cons_succ, i64_w, i32_w]
    rfl
  refine one_ (i := 5) (N := some 8) #[true, true, true, true, true, true, false, true, true, false, false, true, true, true, true, false, false, true, false, false, false, false] rfl rfl (by kernel_rfl) (by decide) (fun K hK => ?_)
  refine goes_ Try.func46 (by kernel_rfl) rfl #[.string a1] (by rfl) rfl rfl (by simp only [List.map_toArray, List.map_cons, List.map_nil]; rfl) ?_
  with_reducible refine (H2.out _).mono ?_
  rintro e w3 ⟨rfl, hb⟩
  refine ⟨_, rfl, ?_⟩
  have BK3 := Lib.hid (blk_below BK2.out hb)
  have HB3 := Lib.hid (HB2.out.trans (hb.mono HB2.out.size))
  clear hb
  refine hK.out _ _ ⟨(blk_cell BK3.out 0).trans rfl, (blk_cell BK3.out 1).trans rfl, (blk_cell BK3.out 2).trans rfl, (blk_cell BK3.out 3).trans rfl⟩ (fun hHeld => ?_)
  clear hK K
  refine norm_ (a' := ?_) ?_ ?_
  rotate_left
  · show Act.put _ (some 8) _ = _
    simp only [Act.put, List.setIfInBounds_toArray, List.set_cons_zero, List.set_cons_succ, i64_w, i32_w]
    rfl
  refine pure_ (i := 6) (N := some 9) (v := ?_) (a' := ?_) #[true, true, true, true, true, true, true, true, true, false, false, true, true, true, true, false, false, true, false, false, false, false] rfl rfl (by kernel_rfl) (fun _ _ _ h => h) (Or.inl ⟨by rfl, ?_⟩) ?_ ?_
  rotate_left
  · intro w'
    go_simp
    with_reducible rfl
  rotate_left
  · simp only [Act.put, List.setIfInBounds_toArray, List.set_cons_zero, List.set_cons_succ, i64_w, i32_w]
    rfl
  refine one_ (i := 9) (N := some 12) #[true, true, true, true, true, true, true, true, true, true, false, true, true, true, true, false, false, true, false, false, false, false] rfl rfl (by kernel_rfl) (by decide) (fun K hK => ?_)
  refine goes_ Try.func45 (by kernel_rfl) rfl #[.int .u64 a2] (by rfl) rfl rfl (by simp only [List.map_toArray, List.map_cons, List.map_nil]; rfl) ?_
  with_reducible refine (H3.out _).mono ?_
  rintro e w4 ⟨rfl, hb⟩
  refine ⟨_, rfl, ?_⟩
  have BK4 := Lib.hid (blk_below BK3.out hb)
  have HB4 := Lib.hid (HB3.out.trans (hb.mono HB3.out.size))
  clear hb
  refine hK.out _ _ ⟨(blk_cell BK4.out 0).trans rfl, (blk_cell BK4.out 1).trans rfl, (blk_cell BK4.out 2).trans rfl, (blk_cell BK4.out 3).trans rfl⟩ (fun hHeld => ?_)
  clear hK K
  refine norm_ (a' := ?_) ?_ ?_
  rotate_left
  · show Act.put _ (some 12) _ = _
    simp only [Act.put, List.setIfInBounds_toArray, List.set_cons_zero, List.set_cons_succ, i64_w, i32_w]
    rfl
  refine pure_ (i := 10) (N := some 13) (v := ?_) (a' := ?_) #[true, true, true, true, true, true, true, true, true, true, true, true, true, true, true, false, false, true, false, false, false, false] rfl rfl (by kernel_rfl) (fun _ _ _ h => h) (Or.inl ⟨by rfl, ?_⟩) ?_ ?_
  rotate_left
  · intro w'
    go_simp
    with_reducible rfl
  rotate_left
  · simp only [Act.put, List.setIfInBounds_toArray, List.set_cons_zero, List.set_cons_succ, i64_w, i32_w]
    rfl
  refine one_ (i := 15) (N := some 18) #[true, true, true, true, true, true, true, true, true, true, true, true, true, true, true, true, false, true, false, false, false, false] rfl rfl (by kernel_rfl) (by decide) (fun K hK => ?_)
  refine goes_ Try.func45 (by kernel_rfl) rfl #[.int .u64 (IntKind.u64.wrap len)] (by rfl) rfl rfl (by simp only [List.map_toArray, List.map_cons, List.map_nil]; rfl) ?_
  with_reducible refine (H4.out _).mono ?_
  rintro e w5 ⟨rfl, hb⟩
  refine ⟨_, rfl, ?_⟩
  have BK5 := Lib.hid (blk_below BK4.out hb)
  have HB5 := Lib.hid (HB4.out.trans (hb.mono HB4.out.size))
  clear hb
  refine hK.out _ _ ⟨(blk_cell BK5.out 0).trans rfl, (blk_cell BK5.out 1).trans rfl, (blk_cell BK5.out 2).trans rfl, (blk_cell BK5.out 3).trans rfl⟩ (fun hHeld => ?_)
  clear hK K
  refine norm_ (a' := ?_) ?_ ?_
  rotate_left
  · show Act.put _ (some 18) _ = _
    simp only [Act.put, List.setIfInBounds_toArray, List.set_cons_zero, List.set_cons_succ, i64_w, i32_w]
    rfl
  refine pure_ (i := 16) (N := some 19) (v := ?_) (a' := ?_) #[true, true, true, true, true, true, true, true, true, true, true, true, true, true, true, true, true, true, false, false, false, false] rfl rfl (by kernel_rfl) (fun _ _ _ h => h) (Or.inl ⟨by rfl, ?_⟩) ?_ ?_
  rotate_left
  · intro w'
    go_simp
    with_reducible rfl
  rotate_left
  · simp only [Act.put, List.setIfInBounds_toArray, List.set_cons_zero, List.set_cons_succ, i64_w, i32_w]
    rfl
  refine one_ (i := 18) (N := some 21) #[true, true, true, true, true, true, true, true, true, true, true, true, true, true, true, true, true, true, true, false, false, false] rfl rfl (by kernel_rfl) (by decide) (fun K hK => ?_)
  refine goes_ Try.func47 (by kernel_rfl) rfl #[.agg #[.int .u64 a0, .string a1, .int .u64 a2, .slice A len c]] (by rfl) rfl rfl (by simp only [List.map_toArray, List.map_cons, List.map_nil]; rfl) ?_
  with_reducible refine (H5.out _ HB5.out).mono ?_
  rintro e w6 ⟨gt, vl, vp, rfl, hA, hb⟩
  refine ⟨_, rfl, ?_⟩
  have BK6 := Lib.hid (blk_below BK5.out hb)
  have HB6 := Lib.hid (HB5.out.trans (hb.mono HB5.out.size))
  have HA := Lib.hid hA
  clear hb hA
  refine hK.out _ _ ⟨(blk_cell BK6.out 0).trans rfl, (blk_cell BK6.out 1).trans rfl, (blk_cell BK6.out 2).trans rfl, (blk_cell BK6.out 3).trans rfl⟩ (fun hHeld => ?_)
  clear hK K
  refine norm_ (a' := ?_) ?_ ?_
  rotate_left
  · show Act.put _ (some 21) _ = _
    simp only [Act.put, List.setIfInBounds_toArray, List.set_cons_zero, List.set_cons_succ, i64_w, i32_w]
    rfl
  refine one_ (i := 19) (N := some 22) #[true, true, true, true, true, true, true, true, true, true, true, true, true, true, true, true, true, true, true, true, false, false] rfl rfl (by kernel_rfl) (by decide) (fun K hK => ?_)
  refine goes_ Try.func48 (by kernel_rfl) rfl #[.pointer (some ⟨gt, 0, none⟩)] (by rfl) rfl rfl (by simp only [List.map_toArray, List.map_cons, List.map_nil]; rfl) ?_
  with_reducible refine (H6.out _ _ _ _ _ HA.out).mono ?_
  rintro e w7 ⟨rfl, hb⟩
  refine ⟨_, rfl, ?_⟩
  have BK7 := Lib.hid (blk_below BK6.out hb)
  have HB7 := Lib.hid (HB6.out.trans (hb.mono HB6.out.size))
  clear hb
  refine hK.out _ _ ⟨(blk_cell BK7.out 0).trans rfl, (blk_cell BK7.out 1).trans rfl, (blk_cell BK7.out 2).trans rfl, (blk_cell BK7.out 3).trans rfl⟩ (fun hHeld => ?_)
  clear hK K
  refine norm_ (a' := ?_) ?_ ?_
  rotate_left
  · show Act.put _ (some 22) _ = _
    simp only [Act.put, List.setIfInBounds_toArray, List.set_cons_zero, List.set_cons_succ, i64_w, i32_w]
    rfl
  refine pure_ (i := 20) (N := some 23) (v := ?_) (a' := ?_) #[true, true, true, true, true, true, true, true, true, true, true, true, true, true, true, true, true, true, true, true, true, false] rfl rfl (by kernel_rfl) (fun _ _ _ h => h) (Or.inl ⟨by rfl, ?_⟩) ?_ ?_
  rotate_left
  · intro w'
    go_simp
    with_reducible rfl
  rotate_left
  · simp only [Act.put, List.setIfInBounds_toArray, List.set_cons_zero, List.set_cons_succ, i64_w, i32_w]
    rfl
  refine pure_ (i := 21) (N := some 2) (v := ?_) (a' := ?_) #[true, true, true, true, true, true, true, true, true, true, true, true, true, true, true, true, true, true, true, true, true, true] rfl rfl (by kernel_rfl) (fun _ _ _ h => h) (Or.inl ⟨by rfl, ?_⟩) ?_ ?_
  rotate_left
  · intro w'
    go_simp
    with_reducible rfl
  rotate_left
  · simp only [Act.put, List.setIfInBounds_toArray, List.set_cons_zero, List.set_cons_succ, i64_w, i32_w]
    rfl
  refine done_ (by kernel_rfl) ?_
  go_wp2
  go_ret
  exact ⟨rfl, HB7.out⟩
end Go.Proofs.Ytdcbacbilncnnaa.T
end
section
/- A block's header and digest: what the program comes to. -/
set_option linter.unusedVariables false
set_option linter.unusedSimpArgs false
namespace Go.Proofs.Ytdcbacbilncnnaa.T
open Go.RowKit Go.Proofs.Ytdcbacbilncnnaa.PMk Go.Proofs.Ytdcbacbilncnnaa.M Go.Proofs.Ytdcbacbilncnnaa.EncS Go.Proofs.Ytdcbacbilncnnaa.EncL Go.Proofs.YtdcbacbilncnnaaW.PrintWords Go.Proofs.YtdcbacbilncnnaaW.PrintLast
def mx (x : S47) : List UInt8 := mt x.f0 x.f1 x.f2 x.f3 x.f4 x.f5
def FitsL (l : List S47) : Prop := ∀ x ∈ l, Fits x.f3 x.f4 x.f1 x.f2 x.f5
def ms (l : List S47) : List ByteArray := l.map fun x => S (mx x)
theorem metas_ev : ∀ {l : List S47}, FitsL l → Ev (fun k => metas k l) (ms l)
  | [], _ => Ev.now _
  | x :: l, h => by
    have hx := h x (by simp)
    have hl := mt_len (op := x.f0) hx
    show Ev (fun k => (metaOf k x).bind fun m => if m.size < 1152921504606846000 then (metas k l).bind fun M => some (m :: M) else none) _
    refine Ev.bind (meta_ev x.f6 x.f7 hx) ?_
    refine Ev.congr (fun _ => if_pos (by rw [S_size]; omega)) ?_
    exact Ev.bind (metas_ev fun y hy => h y (by simp [hy])) (Ev.now _)
structure FitsB (a0 : Int) (a1 : ByteArray) (a2 : Int) (l : List S47) : Prop where
  p0 : 0 ≤ a0
  p1 : a0 < 18446744073709551616
  s : a1.size ≤ 1125899906842624
  q0 : 0 ≤ a2
  q1 : a2 < 18446744073709551616
  ls : FitsL l
  n : l.length < 1000
/-- A block's leaves. -/
def lvs (l : List S47) : List ByteArray := lv (ms l) (ms l).length
def pre (a0 : Int) (a1 : ByteArray) (a2 : Int) (n : Nat) : ByteArray := ((S (num a0) ++ S (txt a1)) ++ S (num a2)) ++ S (encU n)
def hdr (a0 : Int) (a1 : ByteArray) (a2 : Int) (l : List S47) : ByteArray := pre a0 a1 a2 l.length ++ mroot (lvs l)
theorem ms_len (l : List S47) : (ms l).length = l.length := by simp [ms]
theorem lvs_w32 (l : List S47) : W32 (lvs l) := lv_w32 _ _
theorem lvs_len (l : List S47) : (lvs l).length = l.length := by unfold lvs; rw [lv_len (Nat.le_refl _), ms_len]
theorem pre_size {a0 : Int} {a1 : ByteArray} {a2 : Int} {l : List S47} (g : FitsB a0 a1 a2 l) : (S (num a0)).size ≤ 10 ∧ (S (txt a1)).size ≤ 1125899906842634 ∧ (S (num a2)).size ≤ 10 ∧ (S (encU l.length)).size ≤ 10 := by
  have h1 := num_len a0 g.p0 g.p1
  have h2 := txt_len a1 g.s
  have h3 := num_len a2 g.q0 g.q1
  have := g.n
  have h4 := encU_len l.length (by omega)
  have := g.s
  rw [S_size, S_size, S_size, S_size]
  omega
theorem hdr_size {a0 : Int} {a1 : ByteArray} {a2 : Int} {l : List S47} (g : FitsB a0 a1 a2 l) : (hdr a0 a1 a2 l).size ≤ 1125899906842700 := by
  obtain ⟨h1, h2, h3, h4⟩ := pre_size g
  unfold hdr pre
  rw [ByteArray.size_append, ByteArray.size_append, ByteArray.size_append, ByteArray.size_append, mroot_size (lvs_w32 l)]
  omega
theorem header_any (a0 : Int) (a1 : ByteArray) (a2 : Int) (A : Option Addr) (c : Nat) (l : List S47) (g : FitsB a0 a1 a2 l) (w : World) (hC : Kd.C k47 w A l.length l) :
    Calls Try.prog 16 #[.agg #[.int .u64 a0, .string a1, .int .u64 a2, .slice A l.length c]] w fun e w' => e = .returned (.string (hdr a0 a1 a2 l)) ∧ Below w.heap.size w w' := by
  obtain ⟨k1, e1⟩ := (num_ev a0 g.p0 g.p1).rounds
  obtain ⟨k2, e2⟩ := (text_f a1 (by have := g.s; omega)).rounds
  obtain ⟨k3, e3⟩ := (num_ev a2 g.q0 g.q1).rounds
  have hn := g.n
  have hw := u64_in (l.length : Int) (by omega) (by omega)
  obtain ⟨k4, e4⟩ := (uint_f l.length (by omega)).rounds
  obtain ⟨k5, e5⟩ := (metas_ev g.ls).rounds
  obtain ⟨h1, h2, h3, h4⟩ := pre_size g
  have hz := mroot_size (lvs_w32 l)
  refine header_raw a0 a1 a2 A c l.length (lvs l) (S (num a0)) (S (txt a1)) (S (num a2)) (S (encU l.length)) (mroot (lvs l)) w (Lib.hid fun w => enc_Uint.calls k1 a0 _ w e1) (Lib.hid fun w => enc_Text.calls k2 a1 _ w e2) (Lib.hid fun w => enc_Uint.calls k3 a2 _ w e3)
    (Lib.hid fun w => ?_) (Lib.hid fun w' hb => tree_raw k5 a0 a1 a2 A c l (ms l) w' (Kd.C_below hC hb) e5 hn) (Lib.hid fun w base g vl vp hA => root_all w base g vl vp (lvs l) hA (lvs_w32 l) (by rw [lvs_len]; omega)) (by omega)
  rw [hw]
  exact enc_Uint.calls k4 (l.length : Int) _ w e4
theorem hash_raw (a0 : Int) (a1 : ByteArray) (a2 : Int) (A : Option Addr) (c n : Nat) (h d : ByteArray) (w : World)
    (H : Hid (∀ w', Below w.heap.size w w' → Calls Try.prog 16 #[.agg #[.int .u64 a0, .string a1, .int .u64 a2, .slice A n c]] w' fun e w2 => e = .returned (.string h) ∧ Below w'.heap.size w' w2))
    (HD : Hid (∀ w, Calls Try.prog 44 #[.string ((⟨#[2]⟩ : ByteArray) ++ h)] w fun e w' => e = .returned (.string d) ∧ Below w.heap.size w w')) (hs : 1 + h.size ≤ 9223372036854775807) :
    Calls Try.prog 14 #[.agg #[.int .u64 a0, .string a1, .int .u64 a2, .slice A n c]] w fun e w' => e = .returned (.string d) ∧ Below w.heap.size w w' := by
  have s1 : (9223372036854775807 < 1 + h.size) = False := eq_false (by omega)
  have HB := Lib.hid ((Below.refl w.heap.size w).alloc (Nat.le_refl _) (.cells #[.int .u64 a0, .string a1, .int .u64 a2, .slice A n c] 25))
  go_enter Try.func14, Try.ntmps14
  go_wp2_with (first
    | (go_at_call 16; refine (H.out _ HB.out).mono ?_; rintro e w1 ⟨rfl, hb⟩; have HB1 := Lib.hid (HB.out.trans (hb.mono HB.out.size)); clear hb)
    | (go_at_call 44; refine (HD.out _).mono ?_; rintro e w2 ⟨rfl, hb⟩; have HB2 := Lib.hid (HB1.out.trans (hb.mono HB1.out.size)); clear hb))
  go_ret
  exact ⟨rfl, HB2.out⟩
/-- A block's digest. -/
def bhash (a0 : Int) (a1 : ByteArray) (a2 : Int) (l : List S47) : ByteArray := Dig.dig ((⟨#[2]⟩ : ByteArray) ++ hdr a0 a1 a2 l)
theorem two_size (h : ByteArray) : ((⟨#[2]⟩ : ByteArray) ++ h).size = 1 + h.size := by rw [ByteArray.size_append]; rfl
theorem sum_f (s : ByteArray) (h : s.size < 1152921504606846970) : Dig.hash_Sum.f s = some (Dig.dig s) := by
  unfold Dig.hash_Sum.f
  rw [if_pos (by omega)]
theorem hash_any (a0 : Int) (a1 : ByteArray) (a2 : Int) (A : Option Addr) (c : Nat) (l : List S47) (g : FitsB a0 a1 a2 l) (w : World) (hC : Kd.C k47 w A l.length l) :
    Calls Try.prog 14 #[.agg #[.int .u64 a0, .string a1, .int .u64 a2, .slice A l.length c]] w fun e w' => e = .returned (.string (bhash a0 a1 a2 l)) ∧ Below w.heap.size w w' := by
  have hs := hdr_size g
  exact hash_raw a0 a1 a2 A c l.length (hdr a0 a1 a2 l) _ w (Lib.hid fun w' hb => header_any a0 a1 a2 A c l g w' (Kd.C_below hC hb)) (Lib.hid fun w => Dig.hash_Sum.calls _ _ w (sum_f _ (by rw [two_size]; omega))) (by omega)
end Go.Proofs.Ytdcbacbilncnnaa.T
end
section
/- A block without the bytes of a revision's document. -/
set_option linter.unusedVariables false
set_option linter.unusedSimpArgs false
namespace Go.Proofs.Ytdcbacbilncnnaa.T
open Go.RowKit Go.Proofs.Ytdcbacbilncnnaa.PMk Go.Proofs.YtdcbacbilncnnaaW.PrintWords Go.Proofs.YtdcbacbilncnnaaW.PrintLast
def bod (op : Int) : Bool := if op = 3 then true else op == 4
theorem bod_f (op : Int) : block_bodied.f op = some (bod op) := by unfold block_bodied.f bod; split <;> rfl
theorem bod_calls (op : Int) (w : World) : Calls Try.prog 49 #[.int .i64 op] w fun e w' => e = .returned (.bool (bod op)) ∧ Drawn0 w w' := block_bodied.calls op (bod op) w (bod_f op)
theorem put4 {W : World} {g : Nat} {x0 x1 x2 x3 y0 y1 y2 y3 : Value} (h : W.heap[g]? = some (.cells #[x0, x1, x2, x3] 25 (0, 0))) : ((((W.setCell ⟨g, 0, none⟩ y0).setCell ⟨g, 1, none⟩ y1).setCell ⟨g, 2, none⟩ y2).setCell ⟨g, 3, none⟩ y3).heap[g]? = some (.cells #[y0, y1, y2, y3] 25 (0, 0)) :=
  blk_put (blk_put (blk_put (blk_put h 0 y0 rfl) 1 y1 rfl) 2 y2 rfl) 3 y3 rfl
theorem below4 {w W : World} {g n : Nat} {y0 y1 y2 y3 : Value} (h : Below n w W) (hg : n ≤ g) : Below n w ((((W.setCell ⟨g, 0, none⟩ y0).setCell ⟨g, 1, none⟩ y1).setCell ⟨g, 2, none⟩ y2).setCell ⟨g, 3, none⟩ y3) :=
  (((h.setCell hg _).setCell hg _).setCell hg _).setCell hg _
theorem rows4 {W : World} {g n : Nat} {v x0 x1 x2 x3 y0 y1 y2 y3 : Value} {l : List S47} (hR : Kd.R k47 47 W n (fun _ => True) v l) (h : W.heap[g]? = some (.cells #[x0, x1, x2, x3] 25 (0, 0))) :
    Kd.R k47 47 ((((W.setCell ⟨g, 0, none⟩ y0).setCell ⟨g, 1, none⟩ y1).setCell ⟨g, 2, none⟩ y2).setCell ⟨g, 3, none⟩ y3) n (fun _ => True) v l :=
  Kd.R_set (Kd.R_set (Kd.R_set (Kd.R_set hR h (by decide) 0 y0) (blk_put h 0 y0 rfl) (by decide) 1 y1) (blk_put (blk_put h 0 y0 rfl) 1 y1 rfl) (by decide) 2 y2) (blk_put (blk_put (blk_put h 0 y0 rfl) 1 y1 rfl) 2 y2 rfl) (by decide) 3 y3
/-- What Without refuses. -/
def wo (l : List S47) (i : Int) : Bool := decide (0 ≤ i) && decide (i < l.length) && bod (rd_T47 l i).f0 && !(rd_T47 l i).f7
def dropBody (x : S47) : S47 := ⟨x.f0, x.f1, x.f2, x.f3, x.f4, x.f5, ⟨#[]⟩, x.f7⟩
def bare (x : S47) : S47 := ⟨x.f0, x.f1, x.f2, x.f3, x.f4, x.f5, ⟨#[]⟩, true⟩
set_option maxRecDepth 100000 in
set_option maxHeartbeats 2000000 in
theorem without_ok (a0 : Int) (a1 : ByteArray) (a2 : Int) (A : Option Addr) (c : Nat) (l : List S47) (i : Int) (w : World) (hC : Kd.C k47 w A l.length l) (hb : wo l i = true) (hn : l.length < 1000000) :
    Calls Try.prog 19 #[.agg #[.int .u64 a0, .string a1, .int .u64 a2, .slice A l.length c], .int .i64 i] w fun e w' => ∃ v, e = .returned (.tuple #[.agg #[.int .u64 a0, .string a1, .int .u64 a2, v], .int .i64 0]) ∧ Kd.R k47 47 w' w.heap.size (fun _ => True) v (l.set i.toNat (bare (rd_T47 l i))) ∧ Below w.heap.size w w' := by
  obtain ⟨len, hlen⟩ : ∃ n, l.length = n := ⟨_, rfl⟩
  unfold wo at hb
  rw [hlen] at hC hb hn ⊢
  have HC := Lib.hid hC
  have HL := Lib.hid hlen
  clear hC hlen
  simp only [Bool.and_eq_true, decide_eq_true_eq, Bool.not_eq_true'] at hb
  obtain ⟨⟨⟨h2, h3⟩, hbx⟩, h7⟩ := hb
  obtain ⟨ad, hA, hx0, hx1, hx2, hx3, hx4, hx5, hx6, hx7⟩ := at_T47 HC.out i h2 h3
  subst hA
  clear hx1 hx2 hx3 hx4 hx5 hx6
  rw [h7] at hx7
  have hB2 : Below w.heap.size w ((w.alloc (.cells #[.int .u64 a0, .string a1, .int .u64 a2, .slice (some ad) len c] 25)).alloc (.cells #[.int .u64 0, .string ⟨#[]⟩, .int .u64 0, .slice none 0 0] 25)) := ((Below.refl _ _).alloc (Nat.le_refl _) _).alloc (by simp) _
  replace hx0 := (hB2.cell (World.block_lt_of_cell? w _ hx0)).trans hx0
  replace hx7 := (hB2.cell (World.block_lt_of_cell? w _ hx7)).trans hx7
  have HB2 := Lib.hid hB2
  have hi0 : ¬ i < 0 := by omega
  have hi1 : ¬ (len : Int) ≤ i := by omega
  have hd1 : decide ((len : Int) ≤ i) = false := decide_eq_false hi1
  clear hB2
  have HBC := Lib.hid (fun w' => bod_calls (rd_T47 l i).f0 w')
  rw [hbx] at HBC
  go_enter Try.func19, Try.ntmps19
  go_wp2_with (first
    | (go_at_call 49; refine (HBC.out _).mono ?_; rintro e w2 ⟨rfl, ⟨nd, rfl⟩⟩)
    | (at_builtin; refine Kd.R_append_rows k47 (Rr := k47.K _) (w0 := w) w.heap.size rfl (.const (.slice none 0 0)) (.tmp 35) 23 47 _ 96 rfl Try.underlying23 info47 rfl (by decide) (by decide) (.slice none 0 0) [] l (some ad) len c (fun _ => True) (fun _ => False) rfl rfl (Kd.R_nil _ _ _ _ _) (Kd.C_below HC.out (pw_below_drewN HB2.out nd)) (fun x cs h => by obtain rfl := k47_open h; exact k47_mkM _ _ _ x) (fun _ h => h.elim) (fun _ _ => trivial) (pw_below_drewN HB2.out nd) (by simp; omega) (by simp; omega) ?_))
  intro v1 w1 hR hB hg hat
  have G0 : w1.heap[w.heap.size]? = some (.cells #[.int .u64 a0, .string a1, .int .u64 a2, .slice (some ad) len c] 25 (0, 0)) := blk_grown (blk_drewN (blk_alloc (heap_alloc_new w _) _) nd) hg (by simp [Value.ownBlock])
  have G1 : w1.heap[w.heap.size + 1]? = some (.cells #[.int .u64 0, .string ⟨#[]⟩, .int .u64 0, .slice none 0 0] 25 (0, 0)) := blk_grown (blk_drewN (by simpa using heap_alloc_new (w.alloc (.cells #[.int .u64 a0, .string a1, .int .u64 a2, .slice (some ad) len c] 25)) _) nd) hg (by simp [Value.ownBlock])
  obtain ⟨g, cap, rfl, hgb, hgl, _⟩ := Kd.R_form hR (by have := HL.out; simp; omega)
  rw [HL.out] at hR ⊢
  have f0 := blk_frozen G0 3
  have c3 : w1.cell? ⟨w.heap.size, 3, none⟩ = some (.slice (some ad) len c) := (blk_cell G0 3).trans rfl
  have HR1 := Kd.R_set hR G0 (by decide) 3 (.slice (some ⟨g, 0, none⟩) len cap)
  have hG0 := blk_put G0 3 (.slice (some ⟨g, 0, none⟩) len cap) rfl
  have hG1 := blk_far (p := ⟨w.heap.size, 3, none⟩) G1 (by simp) (.slice (some ⟨g, 0, none⟩) len cap)
  have hBB := hB.setCell (p := ⟨w.heap.size, 3, none⟩) (Nat.le_refl _) (.slice (some ⟨g, 0, none⟩) len cap)
  have hne : w.heap.size ≠ g := fun e => Kd.R_ne hR G0 (by decide) (by rw [e]; rfl)
  have hne1 : w.heap.size + 1 ≠ g := fun e => Kd.R_ne hR G1 (by decide) (by rw [e]; rfl)
  clear hat hg hx0 hx7 hR
  go_wp2_with fail
  clear f0 c3 G0 G1 hB
  generalize w1.setCell ⟨w.heap.size, 3, none⟩ (.slice (some ⟨g, 0, none⟩) len cap) = W at HR1 hG0 hG1 hBB ⊢
  have G0 := Lib.hid hG0
  have G1 := Lib.hid hG1
  have HB := Lib.hid hBB
  clear hG0 hG1 hBB
  obtain ⟨cf, hcl, hN, hcc, hfr⟩ := Kd.R_elem HR1 z47 i h2 h3
  obtain rfl := k47_openM hN
  have e6 : W.cell? ⟨g, i.toNat * 8 + 6, none⟩ = some _ := hcc 6 _ rfl
  have q6 : W.frozen? ⟨g, i.toNat * 8 + 6, none⟩ = false := hfr 6
  have e7 : W.cell? ⟨g, i.toNat * 8 + 7, none⟩ = some _ := hcc 7 _ rfl
  have q7 : W.frozen? ⟨g, i.toNat * 8 + 7, none⟩ = false := hfr 7
  have hgd : (l.set i.toNat (dropBody (l.getD i.toNat z47))).getD i.toNat z47 = dropBody (l.getD i.toNat z47) := by
    have := HL.out
    rw [List.getD_eq_getElem?_getD, List.getElem?_set_self (by omega)]
    rfl
  refine start_ (n := 12) (S := fun w' => w'.cell? ⟨w.heap.size, 3, none⟩ = some (.slice (some ⟨g, 0, none⟩) len cap)) (ds := []) #[false, false, false, false, false, false, false, false, false, false, false, false] (by kernel_rfl) rfl rfl ((blk_cell G0.out 3).trans rfl) (fun hHeld => ?_)
  refine pure_ (i := 0) (N := some 38) (v := ?_) (a' := ?_) #[true, false, false, false, false, false, false, false, false, false, false, false] rfl rfl (by kernel_rfl) (fun _ _ _ h => h) (Or.inl ⟨by rfl, ?_⟩) ?_ ?_
  rotate_left
  · intro w'
    go_simp
    with_reducible rfl
  rotate_left
  · simp only [Act.put, List.setIfInBounds_toArray, List.set_cons_zero, List.set_cons_succ, i64_w, i32_w]
    rfl
  refine pure_ (i := 2) (N := some 40) (v := ?_) (a' := ?_) #[true, false, true, false, false, false, false, false, false, false, false, false] rfl rfl (by kernel_rfl) (fun _ _ _ h => h) (Or.inl ⟨by rfl, ?_⟩) ?_ ?_
  rotate_left
  · intro w'
    go_simp
    with_reducible rfl
  rotate_left
  · simp only [Act.put, List.setIfInBounds_toArray, List.set_cons_zero, List.set_cons_succ, i64_w, i32_w]
    rfl
  refine pure_ (i := 3) (N := some 41) (v := ?_) (a' := ?_) #[true, false, true, true, false, false, false, false, false, false, false, false] rfl rfl (by kernel_rfl) (fun _ _ _ h => h) (Or.inl ⟨by rfl, ?_⟩) ?_ ?_
  rotate_left
  · intro w'
    go_simp
    with_reducible rfl
  rotate_left
  · simp only [Act.put, List.setIfInBounds_toArray, List.set_cons_zero, List.set_cons_succ, i64_w, i32_w]
    rfl
  refine pure_ (i := 5) (N := some 43) (v := ?_) (a' := ?_) #[true, false, true, true, false, true, false, false, false, false, false, false] rfl rfl (by kernel_rfl) (fun _ _ _ h => h) (Or.inl ⟨by rfl, ?_⟩) ?_ ?_
  rotate_left
  · intro w'
    go_simp
    with_reducible rfl
  rotate_left
  · simp only [Act.put, List.setIfInBounds_toArray, List.set_cons_zero, List.set_cons_succ, i64_w, i32_w]
    rfl
  refine take_ (i := 1) (N := some 39) (v := ?_) (a' := ?_) #[true, true, true, true, false, true, false, false, false, false, false, false] rfl rfl (by kernel_rfl) (fun _ _ _ h => h) (Or.inl ⟨by rfl, ?_⟩) hHeld ?_ ?_
  rotate_left
  · intro w' s0
    go_simp
    with_reducible rfl
  rotate_left
  · simp only [Act.put, List.setIfInBounds_toArray, List.set_cons_zero, List.set_cons_succ, i64_w, i32_w]
    rfl
  refine pure_ (i := 6) (N := some 44) (v := ?_) (a' := ?_) #[true, true, true, true, false, true, true, false, false, false, false, false] rfl rfl (by kernel_rfl) (fun _ _ _ h => h) (Or.inl ⟨by rfl, ?_⟩) ?_ ?_
  rotate_left
  · intro w'
    go_simp
    with_reducible rfl
  rotate_left
  · simp only [Act.put, List.setIfInBounds_toArray, List.set_cons_zero, List.set_cons_succ, i64_w, i32_w]
    rfl
  refine pure_ (i := 7) (N := some 45) (v := ?_) (a' := ?_) #[true, true, true, true, false, true, true, true, false, false, false, false] rfl rfl (by kernel_rfl) (fun _ _ _ h => h) (Or.inl ⟨by rfl, ?_⟩) ?_ ?_
  rotate_left
  · intro w'
    go_simp
    with_reducible rfl
  rotate_left
  · simp only [Act.put, List.setIfInBounds_toArray, List.set_cons_zero, List.set_cons_succ, i64_w, i32_w]
    rfl
  refine take_ (i := 4) (N := some 42) (v := ?_) (a' := ?_) #[true, true, true, true, true, true, true, true, false, false, false, false] rfl rfl (by kernel_rfl) (fun _ _ _ h => h) (Or.inl ⟨by rfl, ?_⟩) hHeld ?_ ?_
  rotate_left
  · intro w' s0
    go_simp
    with_reducible rfl
  rotate_left
  · simp only [Act.put, List.setIfInBounds_toArray, List.set_cons_zero, List.set_cons_succ, i64_w, i32_w]
    rfl
  refine one_ (i := 8) (N := none) #[true, true, true, true, true, true, true, true, true, false, false, false] rfl rfl (by kernel_rfl) (by decide) (fun K hK => ?_)
  refine skip_ (w1 := ?_) (by rfl) rfl ?_ ?_
  rotate_left
  · go_simp
    rfl
  have G2 : Hid ((W.setCell ⟨g, i.toNat * 8 + 6, none⟩ (.string ⟨#[]⟩)).heap[w.heap.size]? = some (Obj.cells #[.int .u64 a0, .string a1, .int .u64 a2, .slice (some ⟨g, 0, none⟩) len cap] 25 (0, 0))) := Lib.hid (blk_far (p := ⟨g, i.toNat * 8 + 6, none⟩) G0.out hne (.string ⟨#[]⟩))
  have P8 := (Kd.R_seg HR1 i h2 h3 (seg := [.string ⟨#[]⟩]) (j := 6) hcl hcc (show 7 ≤ 8 from by decide) (x' := dropBody (l.getD i.toNat z47)) (k47_mkM _ _ _ (dropBody (l.getD i.toNat z47))) (fun _ hk => hk)).1
  replace P8 : Kd.R k47 47 (W.setCell ⟨g, i.toNat * 8 + 6, none⟩ (.string ⟨#[]⟩)) w.heap.size (fun _ => True) (.slice (some ⟨g, 0, none⟩) len cap) (l.set i.toNat (dropBody (l.getD i.toNat z47))) := P8
  clear hcl hcc hfr hN e6 q6
  obtain ⟨cf, hcl, hN, hcc, hfr⟩ := Kd.R_elem P8 z47 i h2 h3
  obtain rfl := k47_openM hN
  rw [hgd] at hcl hcc
  refine hK.out _ _ ((blk_cell G2.out 3).trans rfl) (fun hHeld => ?_)
  clear hK K
  refine pure_ (i := 9) (N := some 46) (v := ?_) (a' := ?_) #[true, true, true, true, true, true, true, true, true, true, false, false] rfl rfl (by kernel_rfl) (fun _ _ _ h => h) (Or.inl ⟨by rfl, ?_⟩) ?_ ?_
  rotate_left
  · intro w'
    go_simp
    with_reducible rfl
  rotate_left
  · simp only [Act.put, List.setIfInBounds_toArray, List.set_cons_zero, List.set_cons_succ, i64_w, i32_w]
    rfl
  refine pure_ (i := 10) (N := some 47) (v := ?_) (a' := ?_) #[true, true, true, true, true, true, true, true, true, true, true, false] rfl rfl (by kernel_rfl) (fun _ _ _ h => h) (Or.inl ⟨by rfl, ?_⟩) ?_ ?_
  rotate_left
  · intro w'
    go_simp
    with_reducible rfl
  rotate_left
  · simp only [Act.put, List.setIfInBounds_toArray, List.set_cons_zero, List.set_cons_succ, i64_w, i32_w]
    rfl
  refine one_ (i := 11) (N := none) #[true, true, true, true, true, true, true, true, true, true, true, true] rfl rfl (by kernel_rfl) (by decide) (fun K hK => ?_)
  refine skip_ (w1 := ?_) (by rfl) rfl ?_ ?_
  rotate_left
  · go_simp
    rfl
  have P11 := (Kd.R_seg P8 i h2 h3 (seg := [.bool true]) (j := 7) hcl hcc (show 8 ≤ 8 from by decide) (x' := bare (l.getD i.toNat z47)) (k47_mkM _ _ _ (bare (l.getD i.toNat z47))) (fun _ hk => hk)).1
  have G3 : Hid (((W.setCell ⟨g, i.toNat * 8 + 6, none⟩ (.string ⟨#[]⟩)).setCell ⟨g, i.toNat * 8 + 7, none⟩ (.bool true)).heap[w.heap.size]? = some (Obj.cells #[.int .u64 a0, .string a1, .int .u64 a2, .slice (some ⟨g, 0, none⟩) len cap] 25 (0, 0))) := Lib.hid (blk_far (p := ⟨g, i.toNat * 8 + 7, none⟩) G2.out hne (.bool true))
  refine hK.out _ _ ((blk_cell G3.out 3).trans rfl) (fun hHeld => ?_)
  clear hK K
  refine done_ (by kernel_rfl) ?_
  have G4 : ((W.setCell ⟨g, i.toNat * 8 + 6, none⟩ (.string ⟨#[]⟩)).setCell ⟨g, i.toNat * 8 + 7, none⟩ (.bool true)).heap[w.heap.size + 1]? = some (.cells #[.int .u64 0, .string ⟨#[]⟩, .int .u64 0, .slice none 0 0] 25 (0, 0)) :=
    blk_far (p := ⟨g, i.toNat * 8 + 7, none⟩) (blk_far (p := ⟨g, i.toNat * 8 + 6, none⟩) G1.out hne1 _) hne1 _
  have HB5 := (HB.out.setCell (p := ⟨g, i.toNat * 8 + 6, none⟩) hgb (.string ⟨#[]⟩)).setCell (p := ⟨g, i.toNat * 8 + 7, none⟩) hgb (.bool true)
  have HB6 : Below w.heap.size w ((W.setCell ⟨g, i.toNat * 8 + 6, none⟩ (.string ⟨#[]⟩)).setCell ⟨g, i.toNat * 8 + 7, none⟩ (.bool true)).drew := below_drew1 HB5
  rw [List.set_set] at P11
  replace P11 : Kd.R k47 47 ((W.setCell ⟨g, i.toNat * 8 + 6, none⟩ (.string ⟨#[]⟩)).setCell ⟨g, i.toNat * 8 + 7, none⟩ (.bool true)).drew w.heap.size (fun _ => True) (.slice (some ⟨g, 0, none⟩) len cap) (l.set i.toNat (bare (l.getD i.toNat z47))) := P11
  have G5 : ((W.setCell ⟨g, i.toNat * 8 + 6, none⟩ (.string ⟨#[]⟩)).setCell ⟨g, i.toNat * 8 + 7, none⟩ (.bool true)).drew.heap[w.heap.size]? = some (.cells #[.int .u64 a0, .string a1, .int .u64 a2, .slice (some ⟨g, 0, none⟩) len cap] 25 (0, 0)) := G3.out
  have G6 : ((W.setCell ⟨g, i.toNat * 8 + 6, none⟩ (.string ⟨#[]⟩)).setCell ⟨g, i.toNat * 8 + 7, none⟩ (.bool true)).drew.heap[w.heap.size + 1]? = some (.cells #[.int .u64 0, .string ⟨#[]⟩, .int .u64 0, .slice none 0 0] 25 (0, 0)) := G4
  clear hHeld P8 hfr hcl hN hcc e7 q7 G0 G1 G2 G3 G4 HB HB5 HR1
  generalize ((W.setCell ⟨g, i.toNat * 8 + 6, none⟩ (.string ⟨#[]⟩)).setCell ⟨g, i.toNat * 8 + 7, none⟩ (.bool true)).drew = V at P11 G5 G6 HB6 ⊢
  have b0 : V.cell? ⟨w.heap.size, 0, none⟩ = some (.int .u64 a0) := (blk_cell G5 0).trans rfl
  have b1 : V.cell? ⟨w.heap.size, 1, none⟩ = some (.string a1) := (blk_cell G5 1).trans rfl
  have b2 : V.cell? ⟨w.heap.size, 2, none⟩ = some (.int .u64 a2) := (blk_cell G5 2).trans rfl
  have b3 : V.cell? ⟨w.heap.size, 3, none⟩ = some (.slice (some ⟨g, 0, none⟩) len cap) := (blk_cell G5 3).trans rfl
  have r0 : V.cell? ⟨w.heap.size + 1, 0, none⟩ = some (.int .u64 0) := (blk_cell G6 0).trans rfl
  have r1 : V.cell? ⟨w.heap.size + 1, 1, none⟩ = some (.string ⟨#[]⟩) := (blk_cell G6 1).trans rfl
  have r2 : V.cell? ⟨w.heap.size + 1, 2, none⟩ = some (.int .u64 0) := (blk_cell G6 2).trans rfl
  have r3 : V.cell? ⟨w.heap.size + 1, 3, none⟩ = some (.slice none 0 0) := (blk_cell G6 3).trans rfl
  have f0 := blk_frozen G6 0
  have f1 := blk_frozen G6 1
  have f2 := blk_frozen G6 2
  have f3 := blk_frozen G6 3
  have HG6 := Lib.hid G6
  have HP := Lib.hid P11
  have HB7 := Lib.hid HB6
  clear P11 G5 G6 HB6
  go_wp2_with fail
  exact bodyPost_ret (results_ct rfl _ _ (w.heap.size + 1) 25 _ (0, 0) _ rfl (put4 HG6.out) Try.underlying25 rfl (by kernel_rfl)) rfl ⟨_, rfl, rows4 HP.out HG6.out, below4 HB7.out (by omega)⟩
end Go.Proofs.Ytdcbacbilncnnaa.T
end
section
/- The laws' block beside the reference's. -/
set_option linter.unusedVariables false
set_option linter.unusedSimpArgs false
namespace Go.Proofs.Ytdcbacbilncnnaa.T
open Go.RowKit Go.Proofs.Ytdcbacbilncnnaa.PMk Go.Proofs.YtdcbacbilncnnaaW.PrintWords Go.Proofs.YtdcbacbilncnnaaW.PrintLast
/-- A revision as the reference has it. -/
def rf (x : S47) : S44 := ⟨x.f0, x.f1, x.f2, x.f3, x.f4, x.f5, x.f6, x.f7⟩
/-- What holds in Block's loop: its four variables in memory, and the revisions that were put behind. -/
structure BL (w wr : World) (a0 : Int) (a1 : ByteArray) (a2 : Int) (sl v : Value) (l : List S44) : Prop where
  g0 : wr.heap[w.heap.size]? = some (.cells #[.int .u64 a0, .string a1, .int .u64 a2, sl] 25 (0, 0))
  g1 : wr.heap[w.heap.size + 1]? = some (.cells #[.int .u64 0, .string ⟨#[]⟩, .int .u64 0, .slice none 0 0] 25 (0, 0))
  g2 : wr.heap[w.heap.size + 1 + 1]? = some (.cells #[.int .u64 0, .string ⟨#[]⟩, .int .u64 0, .slice none 0 0] 28 (0, 0))
  g3 : wr.heap[w.heap.size + 3]? = some (.cells #[.int .u64 a0, .string a1, .int .u64 a2, v] 28 (0, 0))
  r : Kd.R k44 44 wr w.heap.size (fun _ => True) v l
  b : Below w.heap.size w wr
theorem BL.below {w wr w1 : World} {a0 : Int} {a1 : ByteArray} {a2 : Int} {sl v : Value} {l : List S44} (h : BL w wr a0 a1 a2 sl v l) (hb : Below wr.heap.size wr w1) : BL w w1 a0 a1 a2 sl v l :=
  ⟨blk_below h.g0 hb, blk_below h.g1 hb, blk_below h.g2 hb, blk_below h.g3 hb, Kd.R_below h.r hb, h.b.trans (hb.mono h.b.size)⟩
/-- A revision was put behind, the variable still holds the elder row. -/
structure BM (w wr : World) (a0 : Int) (a1 : ByteArray) (a2 : Int) (sl v v1 : Value) (l : List S44) : Prop where
  g0 : wr.heap[w.heap.size]? = some (.cells #[.int .u64 a0, .string a1, .int .u64 a2, sl] 25 (0, 0))
  g1 : wr.heap[w.heap.size + 1]? = some (.cells #[.int .u64 0, .string ⟨#[]⟩, .int .u64 0, .slice none 0 0] 25 (0, 0))
  g2 : wr.heap[w.heap.size + 1 + 1]? = some (.cells #[.int .u64 0, .string ⟨#[]⟩, .int .u64 0, .slice none 0 0] 28 (0, 0))
  g3 : wr.heap[w.heap.size + 3]? = some (.cells #[.int .u64 a0, .string a1, .int .u64 a2, v] 28 (0, 0))
  r : Kd.R k44 44 wr w.heap.size (fun _ => True) v1 l
  b : Below w.heap.size w wr
theorem BL.app {w wr w1 : World} {a0 : Int} {a1 : ByteArray} {a2 : Int} {sl v v1 : Value} {l l1 : List S44} (h : BL w wr a0 a1 a2 sl v l) (hr : Kd.R k44 44 w1 w.heap.size (fun _ => True) v1 l1) (hb : Below w.heap.size w w1) (hg : wr.grownBy w1 v.ownBlock) : BM w w1 a0 a1 a2 sl v v1 l1 :=
  ⟨blk_grown h.g0 hg (Kd.R_ne h.r h.g0 (by decide)), blk_grown h.g1 hg (Kd.R_ne h.r h.g1 (by decide)), blk_grown h.g2 hg (Kd.R_ne h.r h.g2 (by decide)), blk_grown h.g3 hg (Kd.R_ne h.r h.g3 (by decide)), hr, hb⟩
theorem BM.put {w wr : World} {a0 : Int} {a1 : ByteArray} {a2 : Int} {sl v v1 : Value} {l : List S44} (h : BM w wr a0 a1 a2 sl v v1 l) : BL w (wr.setCell ⟨w.heap.size + 3, 3, none⟩ v1) a0 a1 a2 sl v1 l :=
  ⟨blk_far h.g0 (by simp) _, blk_far h.g1 (by simp) _, blk_far h.g2 (by simp) _, blk_put h.g3 3 v1 rfl, Kd.R_set h.r h.g3 (by decide) 3 v1, h.b.setCell (by simp) _⟩
/-- The first result is written. -/
structure BE (w wr : World) (a0 : Int) (a1 : ByteArray) (a2 : Int) (sl v : Value) (l : List S44) : Prop where
  g0 : wr.heap[w.heap.size]? = some (.cells #[.int .u64 a0, .string a1, .int .u64 a2, sl] 25 (0, 0))
  g1 : wr.heap[w.heap.size + 1]? = some (.cells #[.int .u64 a0, .string a1, .int .u64 a2, sl] 25 (0, 0))
  g2 : wr.heap[w.heap.size + 1 + 1]? = some (.cells #[.int .u64 0, .string ⟨#[]⟩, .int .u64 0, .slice none 0 0] 28 (0, 0))
  g3 : wr.heap[w.heap.size + 3]? = some (.cells #[.int .u64 a0, .string a1, .int .u64 a2, v] 28 (0, 0))
  r : Kd.R k44 44 wr w.heap.size (fun _ => True) v l
  b : Below w.heap.size w wr
theorem far4 {W : World} {g g' t : Nat} {cs : Array Value} {y0 y1 y2 y3 : Value} (h : W.heap[g]? = some (.cells cs t (0, 0))) (hne : g ≠ g') : ((((W.setCell ⟨g', 0, none⟩ y0).setCell ⟨g', 1, none⟩ y1).setCell ⟨g', 2, none⟩ y2).setCell ⟨g', 3, none⟩ y3).heap[g]? = some (.cells cs t (0, 0)) :=
  blk_far (blk_far (blk_far (blk_far h hne _) hne _) hne _) hne _
theorem rows44 {W : World} {g n t : Nat} {v x0 x1 x2 x3 y0 y1 y2 y3 : Value} {l : List S44} (ht : ∀ q, q ∈ 44 :: k44.E → q ≠ t) (hR : Kd.R k44 44 W n (fun _ => True) v l) (h : W.heap[g]? = some (.cells #[x0, x1, x2, x3] t (0, 0))) :
    Kd.R k44 44 ((((W.setCell ⟨g, 0, none⟩ y0).setCell ⟨g, 1, none⟩ y1).setCell ⟨g, 2, none⟩ y2).setCell ⟨g, 3, none⟩ y3) n (fun _ => True) v l :=
  Kd.R_set (Kd.R_set (Kd.R_set (Kd.R_set hR h ht 0 y0) (blk_put h 0 y0 rfl) ht 1 y1) (blk_put (blk_put h 0 y0 rfl) 1 y1 rfl) ht 2 y2) (blk_put (blk_put (blk_put h 0 y0 rfl) 1 y1 rfl) 2 y2 rfl) ht 3 y3
theorem put4' {W : World} {g t : Nat} {x0 x1 x2 x3 y0 y1 y2 y3 : Value} (h : W.heap[g]? = some (.cells #[x0, x1, x2, x3] t (0, 0))) : ((((W.setCell ⟨g, 0, none⟩ y0).setCell ⟨g, 1, none⟩ y1).setCell ⟨g, 2, none⟩ y2).setCell ⟨g, 3, none⟩ y3).heap[g]? = some (.cells #[y0, y1, y2, y3] t (0, 0)) :=
  blk_put (blk_put (blk_put (blk_put h 0 y0 rfl) 1 y1 rfl) 2 y2 rfl) 3 y3 rfl
theorem BL.first {w wr : World} {a0 : Int} {a1 : ByteArray} {a2 : Int} {sl v : Value} {l : List S44} (h : BL w wr a0 a1 a2 sl v l) :
    BE w ((((wr.setCell ⟨w.heap.size + 1, 0, none⟩ (.int .u64 a0)).setCell ⟨w.heap.size + 1, 1, none⟩ (.string a1)).setCell ⟨w.heap.size + 1, 2, none⟩ (.int .u64 a2)).setCell ⟨w.heap.size + 1, 3, none⟩ sl) a0 a1 a2 sl v l :=
  ⟨far4 h.g0 (by simp), put4' h.g1, far4 h.g2 (by simp), far4 h.g3 (by simp), rows44 (by decide) h.r h.g1, below4 h.b (by simp)⟩
end Go.Proofs.Ytdcbacbilncnnaa.T
end
section
/- Root, Header, Frame and Follows of a block: what the reference comes to, and the program's Frame. -/
set_option linter.unusedVariables false
set_option linter.unusedSimpArgs false
namespace Go.Proofs.Ytdcbacbilncnnaa.T
open Go.RowKit Go.Proofs.Ytdcbacbilncnnaa.PMk Go.Proofs.Ytdcbacbilncnnaa.M Go.Proofs.Ytdcbacbilncnnaa.EncS Go.Proofs.Ytdcbacbilncnnaa.EncL Go.Proofs.YtdcbacbilncnnaaW.PrintWords Go.Proofs.YtdcbacbilncnnaaW.PrintLast
theorem rd_map (l : List S47) (i : Nat) (h : i < l.length) : rd_T44 (l.map rf) (i : Int) = rf (rd_T47 l (i : Int)) := by
  unfold rd_T44 rd_T47
  simp [List.getD_eq_getElem?_getD, List.getElem?_eq_getElem h]
theorem rd_mem (l : List S47) (i : Nat) (h : i < l.length) : rd_T47 l (i : Int) ∈ l := by
  unfold rd_T47
  simp [List.getD_eq_getElem?_getD, List.getElem?_eq_getElem h]
theorem rd_drop (l : List S47) (i : Nat) (h : i < l.length) : l.drop i = rd_T47 l (i : Int) :: l.drop (i + 1) := by
  unfold rd_T47
  rw [List.drop_eq_getElem_cons h]
  simp [List.getD_eq_getElem?_getD, List.getElem?_eq_getElem h]
def chks : List S47 → Int
  | [] => 0
  | x :: l => if chk x = 0 then chks l else chk x
theorem toList_len (s : ByteArray) : s.toList.length = s.size := by rw [ByteArray.toList_eq, Array.length_toList]; rfl
/-- A block's bytes. -/
def frm (a0 : Int) (a1 : ByteArray) (a2 : Int) (l : List S47) : ByteArray := pre a0 a1 a2 l.length ++ S (l.flatMap mx)
theorem flat_len {l : List S47} (g : FitsL l) : (l.flatMap mx).length ≤ l.length * 3377699720527973 := by
  induction l with
  | nil => simp
  | cons x l ih =>
    have h1 := ih fun y hy => g y (by simp [hy])
    have h2 := mt_len (op := x.f0) (g x (by simp))
    rw [List.flatMap_cons, List.length_append, List.length_cons]
    show (mt _ _ _ _ _ _).length + _ ≤ _
    omega
theorem rfrm_l0 (a0 : Int) (a1 : ByteArray) (a2 : Int) (l : List S47) (g : FitsL l) (hn : l.length < 1000) (P : ByteArray) (hP : P.size ≤ 1125899906842700) : ∀ (m i : Nat), i + m = l.length →
    Ev (fun k => parchmentref09_Frame.l0 k (P ++ S ((l.take i).flatMap mx)) (i : Int) a0 a1 a2 (l.map rf)) (P ++ S (l.flatMap mx)) := by
  intro m
  induction m with
  | zero =>
    intro i hi
    refine Ev.step (f := fun k => some (P ++ S (l.flatMap mx))) (fun k => ?_) (Ev.now _)
    rw [parchmentref09_Frame.l0, if_neg (by rw [List.length_map]; omega), List.take_of_length_le (by omega)]
  | succ m ih =>
    intro i hi
    have hlt : i < l.length := by omega
    refine Ev.step (f := fun k => _) (fun k => by rw [parchmentref09_Frame.l0, if_pos (by rw [List.length_map]; omega), if_pos (by omega), rd_map l i hlt, wr1 i l.length hlt (by omega)]) ?_
    have gx := g _ (rd_mem l i hlt)
    refine Ev.bind (rmeta_ev _ _ gx) ?_
    have hz := mt_len (op := (rd_T47 l (i : Int)).f0) gx
    have hf := flat_len (l := l.take i) (fun y hy => g y (List.mem_of_mem_take hy))
    rw [List.length_take] at hf
    have e : (P ++ S ((l.take i).flatMap mx)) ++ S (mx (rd_T47 l (i : Int))) = P ++ S ((l.take (i + 1)).flatMap mx) := by
      rw [ByteArray.append_assoc, S_append]
      congr 2
      rw [List.take_succ_eq_append_getElem hlt, List.flatMap_append]
      unfold rd_T47
      simp [List.getD_eq_getElem?_getD, List.getElem?_eq_getElem hlt]
    have hmin : (min i l.length) * 3377699720527973 ≤ 1000 * 3377699720527973 := Nat.mul_le_mul_right _ (by omega)
    refine Ev.congr (fun k => if_pos ?_) ?_
    · rw [ByteArray.size_append, S_size]
      show P.size + _ + (S (mt _ _ _ _ _ _)).size ≤ _
      rw [S_size]
      have hz' : (mt (rf (rd_T47 l (i : Int))).f0 (rf (rd_T47 l (i : Int))).f1 (rf (rd_T47 l (i : Int))).f2 (rf (rd_T47 l (i : Int))).f3 (rf (rd_T47 l (i : Int))).f4 (rf (rd_T47 l (i : Int))).f5).length ≤ 3377699720527973 := hz
      omega
    · refine Ev.congr (fun k => ?_) (ih (i + 1) (by omega))
      rw [← e]
      rfl
theorem r_frame (a0 : Int) (a1 : ByteArray) (a2 : Int) (l : List S47) (g : FitsB a0 a1 a2 l) : Ev (fun k => parchmentref09_Frame.f k a0 a1 a2 (l.map rf)) (frm a0 a1 a2 l) := by
  obtain ⟨h1, h2, h3, h4⟩ := pre_size g
  have hn := g.n
  have hw := u64_in (l.length : Int) (by omega) (by omega)
  unfold parchmentref09_Frame.f
  rw [List.length_map, hw]
  refine Ev.bind (rnum_ev a0 g.p0 g.p1) ?_
  refine Ev.bind (ref_text_f a1 (by have := g.s; omega)) ?_
  show Ev (fun k => if (S (num a0)).size + (S (txt a1)).size ≤ 9223372036854775807 then _ else none) _
  refine Ev.congr (fun k => if_pos (by omega)) ?_
  refine Ev.bind (rnum_ev a2 g.q0 g.q1) ?_
  refine Ev.congr (fun k => if_pos (by show (S (num a0) ++ S (txt a1)).size + _ ≤ _; rw [ByteArray.size_append]; omega)) ?_
  refine Ev.bind (ref_uint_f l.length l.length (Nat.le_refl _) (by omega)) ?_
  refine Ev.congr (fun k => if_pos (by show ((S (num a0) ++ S (txt a1)) ++ S (num a2)).size + _ ≤ _; rw [ByteArray.size_append, ByteArray.size_append]; omega)) ?_
  have hp : (pre a0 a1 a2 l.length).size ≤ 1125899906842700 := by
    unfold pre
    rw [ByteArray.size_append, ByteArray.size_append, ByteArray.size_append]
    omega
  have h := rfrm_l0 a0 a1 a2 l g.ls hn (pre a0 a1 a2 l.length) hp l.length 0 (by omega)
  refine Ev.congr (fun k => ?_) h
  show parchmentref09_Frame.l0 k (pre a0 a1 a2 l.length) 0 a0 a1 a2 (l.map rf) = parchmentref09_Frame.l0 k (pre a0 a1 a2 l.length ++ S []) 0 a0 a1 a2 (l.map rf)
  congr 1
  exact (ByteArray.append_empty).symm
theorem frm_toList (a0 : Int) (a1 : ByteArray) (a2 : Int) (l : List S47) : (frm a0 a1 a2 l).toList = num a0 ++ (txt a1 ++ (num a2 ++ (encU l.length ++ l.flatMap mx))) := by
  unfold frm pre
  rw [S_append, S_append, S_append, S_append, S_toList]
  simp only [List.append_assoc]
theorem eq_toList {a b : ByteArray} : a.toList = b.toList ↔ a = b := ⟨fun h => by rw [← S_of a, ← S_of b, h], fun h => by rw [h]⟩
end Go.Proofs.Ytdcbacbilncnnaa.T
end
section
namespace Go.Proofs.Ytdcbacbilncnnaa.PMk
open Go.RowKit Go.Proofs.YtdcbacbilncnnaaW.PrintWords Go.Proofs.YtdcbacbilncnnaaW.PrintLast Go.Proofs.YtdcbacbilncnnaaW.PrintMore
attribute [local go_sem] max2_int min2_int max_two min_two max_three min_three max_four min_four   -- for this text's walks alone
set_option linter.unusedVariables false
set_option linter.unusedSimpArgs false
/-! ### parchmentref09_Read: function 33 -/
mutual
def parchmentref09_Read.l0 : Nat → Int → Int → Int → ByteArray → Int → List (S44) → ByteArray → Int → Int → Option (Int × ByteArray × Int × (List (S44)) × Int)
 | 0, _, _, _, _, _, _, _, _, _ => none
 | k + 1, x7, x8, x417000, x417001, x417002, x417003, x422000, x422001, x422002 => if x8 < x7 then (parchmentref09_Read.j1 k x7 x8 (x422002 == 0) x417000 x417001 x417002 x417003 x422000 x422001 x422002) else (parchmentref09_Read.j1 k x7 x8 false x417000 x417001 x417002 x417003 x422000 x422001 x422002)
def parchmentref09_Read.j1 : Nat → Int → Int → Bool → Int → ByteArray → Int → List (S44) → ByteArray → Int → Int → Option (Int × ByteArray × Int × (List (S44)) × Int)
 | 0, _, _, _, _, _, _, _, _, _, _ => none
 | k + 1, x7, x8, x46, x417000, x417001, x417002, x417003, x422000, x422001, x422002 => if x46 = true then ((parchmentref02_Cursor_Bytes.f x422000 x422001 x422002 1).bind fun bt435 => (if bt435.2.2.1 = 0 then (if 0 < (bt435.2.2.2.size : Int) then (parchmentref09_Read.j2 k x7 x8 x417000 x417001 x417002 x417003 (wrap64 (bt bt435.2.2.2 0)) (⟨#[]⟩ : ByteArray) (⟨#[]⟩ : ByteArray) 0 0 (⟨#[]⟩ : ByteArray) (⟨#[]⟩ : ByteArray) false bt435.1 bt435.2.1 bt435.2.2.1) else (none)) else (parchmentref09_Read.j2 k x7 x8 x417000 x417001 x417002 x417003 0 (⟨#[]⟩ : ByteArray) (⟨#[]⟩ : ByteArray) 0 0 (⟨#[]⟩ : ByteArray) (⟨#[]⟩ : ByteArray) false bt435.1 bt435.2.1 bt435.2.2.1))) else ((parchmentref02_Cursor_End.f x422000 x422001 x422002).bind fun bt466 => (parchmentref09_Read.l1 k 0 x417000 x417001 x417002 x417003 bt466.1 bt466.2.1 bt466.2.2))
def parchmentref09_Read.j2 : Nat → Int → Int → Int → ByteArray → Int → List (S44) → Int → ByteArray → ByteArray → Int → Int → ByteArray → ByteArray → Bool → ByteArray → Int → Int → Option (Int × ByteArray × Int × (List (S44)) × Int)
 | 0, _, _, _, _, _, _, _, _, _, _, _, _, _, _, _, _, _ => none
 | k + 1, x7, x8, x417000, x417001, x417002, x417003, x435000, x435001, x435002, x435003, x435004, x435005, x435006, x435007, x440000, x440001, x440002 => (parchmentref02_Cursor_Text.f k x440000 x440001 x440002 16).bind fun bt440 => ((parchmentref02_Cursor_Text.f k bt440.1 bt440.2.1 bt440.2.2.1 16).bind fun bt444 => ((parchmentref02_Cursor_Uint.f k bt444.1 bt444.2.1 bt444.2.2.1).bind fun bt448 => ((parchmentref02_Cursor_Uint.f k bt448.1 bt448.2.1 bt448.2.2.1).bind fun bt452 => ((parchmentref02_Cursor_Text.f k bt452.1 bt452.2.1 bt452.2.2.1 32).bind fun bt456 => (if x435000 = 3 then (if x417003.length < 1466015503701 then (parchmentref09_Read.l0 k x7 (wrap64 (x8 + 1)) x417000 x417001 x417002 (x417003 ++ [(⟨x435000, bt440.2.2.2, bt444.2.2.2, bt448.2.2.2, bt452.2.2.2, bt456.2.2.2, x435006, true⟩ : S44)]) bt456.1 bt456.2.1 bt456.2.2.1) else (none)) else (if x417003.length < 1466015503701 then (parchmentref09_Read.l0 k x7 (wrap64 (x8 + 1)) x417000 x417001 x417002 (x417003 ++ [(⟨x435000, bt440.2.2.2, bt444.2.2.2, bt448.2.2.2, bt452.2.2.2, bt456.2.2.2, x435006, (x435000 == 4)⟩ : S44)]) bt456.1 bt456.2.1 bt456.2.2.1) else (none)))))))
def parchmentref09_Read.l1 : Nat → Int → Int → ByteArray → Int → List (S44) → ByteArray → Int → Int → Option (Int × ByteArray × Int × (List (S44)) × Int)
 | 0, _, _, _, _, _, _, _, _ => none
 | k + 1, x12, x417000, x417001, x417002, x417003, x422000, x422001, x422002 => if x12 < (x417003.length : Int) then (if x422002 = 0 then (if 0 ≤ x12 then ((parchmentref09_Check.f k ((rd_T44 x417003 x12).f0) ((rd_T44 x417003 x12).f1) ((rd_T44 x417003 x12).f2) ((rd_T44 x417003 x12).f3) ((rd_T44 x417003 x12).f4) ((rd_T44 x417003 x12).f5) ((rd_T44 x417003 x12).f6) ((rd_T44 x417003 x12).f7)).bind fun t470 => (parchmentref09_Read.l1 k (wrap64 (x12 + 1)) x417000 x417001 x417002 x417003 x422000 x422001 t470)) else (none)) else (some (0, (⟨#[]⟩ : ByteArray), 0, ([] : List (S44)), x422002))) else (if x422002 = 0 then (some (x417000, x417001, x417002, x417003, 0)) else (some (0, (⟨#[]⟩ : ByteArray), 0, ([] : List (S44)), x422002)))
end
def parchmentref09_Read.f (k : Nat) (a0 : ByteArray) : Option (Int × ByteArray × Int × (List (S44)) × Int) := (parchmentref02_Cursor_Uint.f k a0 0 0).bind fun bt417 => ((parchmentref02_Cursor_Text.f k bt417.1 bt417.2.1 bt417.2.2.1 32).bind fun bt422 => ((parchmentref02_Cursor_Uint.f k bt422.1 bt422.2.1 bt422.2.2.1).bind fun bt426 => ((parchmentref02_Cursor_Count.f k bt426.1 bt426.2.1 bt426.2.2.1 64).bind fun bt430 => (parchmentref09_Read.l0 k bt430.2.2.2 0 bt417.2.2.2 bt422.2.2.2 bt426.2.2.2 ([] : List (S44)) bt430.1 bt430.2.1 bt430.2.2.1))))
set_option maxHeartbeats 8000000 in
set_option maxRecDepth 100000 in
theorem parchmentref09_Read.calls (k : Nat) (a0 : ByteArray) (r1 : Int) (r2 : ByteArray) (r3 : Int) (r4 : List (S44)) (r5 : Int) (w : World) (h : parchmentref09_Read.f k a0 = some (r1, r2, r3, r4, r5)) :
  Calls Try.prog 33 #[.string a0] w fun e w' => ∃ v3_ : Value, e = .returned (.tuple #[.agg #[.int .u64 r1, .string r2, .int .u64 r3, v3_], .int .i64 r5]) ∧ Kd.R k44 44 w' w.heap.size (fun _ => True) v3_ r4 ∧ Below w.heap.size w w' := by
 have hu28 := Try.underlying28
 have hu112 := Try.underlying112
 have hu44 := Try.underlying44
 have HB := Aside0.mk (Below.refl w.heap.size w)
 have H : ((parchmentref02_Cursor_Uint.f k a0 0 0).bind fun bt417 => ((parchmentref02_Cursor_Text.f k bt417.1 bt417.2.1 bt417.2.2.1 32).bind fun bt422 => ((parchmentref02_Cursor_Uint.f k bt422.1 bt422.2.1 bt422.2.2.1).bind fun bt426 => ((parchmentref02_Cursor_Count.f k bt426.1 bt426.2.1 bt426.2.2.1 64).bind fun bt430 => (parchmentref09_Read.l0 k bt430.2.2.2 0 bt417.2.2.2 bt422.2.2.2 bt426.2.2.2 ([] : List (S44)) bt430.1 bt430.2.1 bt430.2.2.1))))) = some (r1, r2, r3, r4, r5) := h
 clear h
 replace H := Option.bind_eq_some_iff.mp H
 obtain ⟨⟨t417, t418, t419, t420⟩, A20, H⟩ := H
 replace H : ((parchmentref02_Cursor_Text.f k t417 t418 t419 32).bind fun bt422 => ((parchmentref02_Cursor_Uint.f k bt422.1 bt422.2.1 bt422.2.2.1).bind fun bt426 => ((parchmentref02_Cursor_Count.f k bt426.1 bt426.2.1 bt426.2.2.1 64).bind fun bt430 => (parchmentref09_Read.l0 k bt430.2.2.2 0 t420 bt422.2.2.2 bt426.2.2.2 ([] : List (S44)) bt430.1 bt430.2.1 bt430.2.2.1)))) = some (r1, r2, r3, r4, r5) := H
 have A2 := Aside0.mk A20
 clear A20
 replace H := Option.bind_eq_some_iff.mp H
 obtain ⟨⟨t422, t423, t424, t425⟩, A30, H⟩ := H
 replace H : ((parchmentref02_Cursor_Uint.f k t422 t423 t424).bind fun bt426 => ((parchmentref02_Cursor_Count.f k bt426.1 bt426.2.1 bt426.2.2.1 64).bind fun bt430 => (parchmentref09_Read.l0 k bt430.2.2.2 0 t420 t425 bt426.2.2.2 ([] : List (S44)) bt430.1 bt430.2.1 bt430.2.2.1))) = some (r1, r2, r3, r4, r5) := H
 have A3 := Aside0.mk A30
 clear A30
 replace H := Option.bind_eq_some_iff.mp H
 obtain ⟨⟨t426, t427, t428, t429⟩, A40, H⟩ := H
 replace H : ((parchmentref02_Cursor_Count.f k t426 t427 t428 64).bind fun bt430 => (parchmentref09_Read.l0 k bt430.2.2.2 0 t420 t425 t429 ([] : List (S44)) bt430.1 bt430.2.1 bt430.2.2.1)) = some (r1, r2, r3, r4, r5) := H
 have A4 := Aside0.mk A40
 clear A40
 replace H := Option.bind_eq_some_iff.mp H
 obtain ⟨⟨t430, t431, t432, t433⟩, A50, H⟩ := H
 replace H : (parchmentref09_Read.l0 k t433 0 t420 t425 t429 ([] : List (S44)) t430 t431 t432) = some (r1, r2, r3, r4, r5) := H
 have A5 := Aside0.mk A50
 clear A50
 have H' := Aside0.mk H
 clear H
 go_enter Try.func33, Try.ntmps33
 go_wp2_with (first | ((with_reducible refine gate_dst (N := 2) rfl ?_); refine box_event ?hg (N := 2) ?hd (cs := #[.int .u64 0, .string (⟨#[]⟩ : ByteArray), .int .u64 0, .slice none 0 0]) (t := 28) ?hr ?_; (case hd => rfl); (case hg => rfl); (case hr => first | (go_simp; done) | (go_simp; rfl)); intro gb415 hg w6 hbox hb; have n0_ := Aside0.mk (below_step (bh_ HB.out) hb); have n1_ := Aside0.mk (hbox); have n2_ := Aside0.mk ((by rw [hg]; exact (below_size (bh_ HB.out)) : w.heap.size ≤ gb415)); have n3_ := Aside0.mk ((by rw [hg]; exact (below_size (bh_ HB.out)) : w.heap.size ≤ gb415)); clear HB; have HB := n0_; have BK415 := n1_; have GW415 := n2_; have GE415 := n3_; clear n0_ n1_ n2_ n3_; clear hb hbox hg) | ((with_reducible refine gate_dst (N := 4) rfl ?_); refine box_event ?hg (N := 4) ?hd (cs := #[.int .u64 0, .string (⟨#[]⟩ : ByteArray), .int .u64 0, .slice none 0 0]) (t := 28) ?hr ?_; (case hd => rfl); (case hg => rfl); (case hr => first | (go_simp; done) | (go_simp; rfl)); intro gb416 hg w7 hbox hb; have n0_ := Aside0.mk (bk_ BK415.out hb); have n1_ := Aside0.mk (below_step (bh_ HB.out) hb); have n2_ := Aside0.mk (hbox); have n3_ := Aside0.mk ((by rw [hg]; exact (below_size (bh_ HB.out)) : w.heap.size ≤ gb416)); have n4_ := Aside0.mk ((by rw [hg]; exact (below_size (bh_ HB.out)) : w.heap.size ≤ gb416)); have n5_ := Aside0.mk ((by rw [hg]; exact Nat.ne_of_lt (blk_lt (g := gb415) (o := .cells #[.int .u64 0, .string (⟨#[]⟩ : ByteArray), .int .u64 0, .slice none 0 0] 28 (0, 0)) (bz_ BK415.out)) : gb415 ≠ gb416)); have n6_ := Aside0.mk ((by rw [hg]; exact Nat.ne_of_gt (blk_lt (g := gb415) (o := .cells #[.int .u64 0, .string (⟨#[]⟩ : ByteArray), .int .u64 0, .slice none 0 0] 28 (0, 0)) (bz_ BK415.out)) : gb416 ≠ gb415)); clear BK415; clear HB; have BK415 := n0_; have HB := n1_; have BK416 := n2_; have GW416 := n3_; have GE416 := n4_; have NB415_416 := n5_; have NB416_415 := n6_; clear n0_ n1_ n2_ n3_ n4_ n5_ n6_; clear hb hbox hg; have hnb8 := NB416_415.out; have hnc8 := NB415_416.out; obtain ⟨z9_0, z9_1, z9_2, z9_3, f9_0, f9_1, f9_2, f9_3⟩ := bc4_ BK416.out) | ((with_reducible refine gate_callee (f := 68) rfl ?_); refine gl_ (some 17) Try.func68 #[.agg #[.string a0, .int .i64 0, .int .i64 0]] ?_; (with_reducible refine (parchmentref02_Cursor_Uint.calls k a0 0 0 t417 t418 t419 t420 _ A2.out).mono ?_); rintro e w10 ⟨rfl, hb⟩; refine ⟨_, rfl, ?_⟩; replace BK415 := Aside0.mk (bf_ BK415.out hb); replace BK416 := Aside0.mk (bp_ (o' := .cells #[.int .u64 0, .string (⟨#[]⟩ : ByteArray), .int .u64 0, .slice none 0 0] 28 (0, 0)) BK416.out hb); replace HB := Aside0.mk (below_step (bh_ HB.out) hb); (try clear hb)) | ((with_reducible refine gate_dst (N := 5) rfl ?_); refine box_event ?hg (N := 5) ?hd (cs := #[.string (⟨#[]⟩ : ByteArray), .int .i64 0, .int .i64 0]) (t := 112) ?hr ?_; (case hd => rfl); (case hg => rfl); (case hr => first | (go_simp; done) | (go_simp; rfl)); intro gb421 hg w11 hbox hb; have n0_ := Aside0.mk (bk_ BK415.out hb); have n1_ := Aside0.mk (bk_ BK416.out hb); have n2_ := Aside0.mk (below_step (bh_ HB.out) hb); have n3_ := Aside0.mk (hbox); have n4_ := Aside0.mk ((by rw [hg]; exact (below_size (bh_ HB.out)) : w.heap.size ≤ gb421)); have n5_ := Aside0.mk ((by rw [hg]; exact (below_size (bh_ HB.out)) : w.heap.size ≤ gb421)); have n6_ := Aside0.mk ((by rw [hg]; exact Nat.ne_of_lt (blk_lt (g := gb415) (o := .cells #[.int .u64 0, .string (⟨#[]⟩ : ByteArray), .int .u64 0, .slice none 0 0] 28 (0, 0)) (bz_ BK415.out)) : gb415 ≠ gb421)); have n7_ := Aside0.mk ((by rw [hg]; exact Nat.ne_of_gt (blk_lt (g := gb415) (o := .cells #[.int .u64 0, .string (⟨#[]⟩ : ByteArray), .int .u64 0, .slice none 0 0] 28 (0, 0)) (bz_ BK415.out)) : gb421 ≠ gb415)); have n8_ := Aside0.mk ((by rw [hg]; exact Nat.ne_of_lt (blk_lt (g := gb416) (o := .cells #[.int .u64 0, .string (⟨#[]⟩ : ByteArray), .int .u64 0, .slice none 0 0] 28 (0, 0)) (bz_ BK416.out)) : gb416 ≠ gb421)); have n9_ := Aside0.mk ((by rw [hg]; exact Nat.ne_of_gt (blk_lt (g := gb416) (o := .cells #[.int .u64 0, .string (⟨#[]⟩ : ByteArray), .int .u64 0, .slice none 0 0] 28 (0, 0)) (bz_ BK416.out)) : gb421 ≠ gb416)); clear BK415; clear BK416; clear HB; have BK415 := n0_; have BK416 := n1_; have HB := n2_; have BK421 := n3_; have GW421 := n4_; have GE421 := n5_; have NB415_421 := n6_; have NB421_415 := n7_; have NB416_421 := n8_; have NB421_416 := n9_; clear n0_ n1_ n2_ n3_ n4_ n5_ n6_ n7_ n8_ n9_; clear hb hbox hg; have hnb12 := NB421_415.out; have hnc12 := NB415_421.out; have hnb13 := NB421_416.out; have hnc13 := NB416_421.out; obtain ⟨z14_0, z14_1, z14_2, f14_0, f14_1, f14_2⟩ := bc3_ BK421.out; obtain ⟨z15_0, z15_1, z15_2, z15_3, f15_0, f15_1, f15_2, f15_3⟩ := bc4_ BK416.out) | ((with_reducible refine gate_callee (f := 69) rfl ?_); refine gl_ (some 24) Try.func69 #[.agg #[.string t417, .int .i64 t418, .int .i64 t419], .int .i64 32] ?_; (with_reducible refine (parchmentref02_Cursor_Text.calls k t417 t418 t419 32 t422 t423 t424 t425 _ A3.out).mono ?_); rintro e w16 ⟨rfl, hb⟩; refine ⟨_, rfl, ?_⟩; replace BK415 := Aside0.mk (bf_ BK415.out hb); replace BK416 := Aside0.mk (bp_ (o' := .cells #[.int .u64 t420, .string (⟨#[]⟩ : ByteArray), .int .u64 0, .slice none 0 0] 28 (0, 0)) BK416.out hb); replace BK421 := Aside0.mk (bp_ (o' := .cells #[.string t417, .int .i64 t418, .int .i64 t419] 112 (0, 0)) BK421.out hb); replace HB := Aside0.mk (below_step (bh_ HB.out) hb); (try clear hb); obtain ⟨z17_0, z17_1, z17_2, f17_0, f17_1, f17_2⟩ := bc3_ BK421.out; obtain ⟨z18_0, z18_1, z18_2, z18_3, f18_0, f18_1, f18_2, f18_3⟩ := bc4_ BK416.out) | ((with_reducible refine gate_callee (f := 68) rfl ?_); refine gl_ (some 30) Try.func68 #[.agg #[.string t422, .int .i64 t423, .int .i64 t424]] ?_; (with_reducible refine (parchmentref02_Cursor_Uint.calls k t422 t423 t424 t426 t427 t428 t429 _ A4.out).mono ?_); rintro e w19 ⟨rfl, hb⟩; refine ⟨_, rfl, ?_⟩; replace BK415 := Aside0.mk (bf_ BK415.out hb); replace BK416 := Aside0.mk (bp_ (o' := .cells #[.int .u64 t420, .string t425, .int .u64 0, .slice none 0 0] 28 (0, 0)) BK416.out hb); replace BK421 := Aside0.mk (bp_ (o' := .cells #[.string t422, .int .i64 t423, .int .i64 t424] 112 (0, 0)) BK421.out hb); replace HB := Aside0.mk (below_step (bh_ HB.out) hb); (try clear hb); obtain ⟨z20_0, z20_1, z20_2, f20_0, f20_1, f20_2⟩ := bc3_ BK421.out; obtain ⟨z21_0, z21_1, z21_2, z21_3, f21_0, f21_1, f21_2, f21_3⟩ := bc4_ BK416.out) | ((with_reducible refine gate_callee (f := 70) rfl ?_); refine gl_ (some 36) Try.func70 #[.agg #[.string t426, .int .i64 t427, .int .i64 t428], .int .i64 64] ?_; (with_reducible refine (parchmentref02_Cursor_Count.calls k t426 t427 t428 64 t430 t431 t432 t433 _ A5.out).mono ?_); rintro e w22 ⟨rfl, hb⟩; refine ⟨_, rfl, ?_⟩; replace BK415 := Aside0.mk (bf_ BK415.out hb); replace BK416 := Aside0.mk (bp_ (o' := .cells #[.int .u64 t420, .string t425, .int .u64 t429, .slice none 0 0] 28 (0, 0)) BK416.out hb); replace BK421 := Aside0.mk (bp_ (o' := .cells #[.string t426, .int .i64 t427, .int .i64 t428] 112 (0, 0)) BK421.out hb); replace HB := Aside0.mk (below_step (bh_ HB.out) hb); (try clear hb); obtain ⟨z23_0, z23_1, z23_2, f23_0, f23_1, f23_2⟩ := bc3_ BK421.out))
 go_loopg [8] k (fun kq v8 w' => ∃ (x8_1 : Int) (x417003_1 : List (S44)) (x422000_1 : ByteArray) (x422001_1 : Int) (x422002_1 : Int) (u417003 : Value), v8 = .int .i64 x8_1 ∧ Aside0 (parchmentref09_Read.l0 kq t433 x8_1 t420 t425 t429 x417003_1 x422000_1 x422001_1 x422002_1 = some (r1, r2, r3, r4, r5)) ∧ Aside0 (kq ≤ k) ∧ Aside0 (Kd.R k44 44 w' w.heap.size (fun _ => True) u417003 x417003_1) ∧ Aside0 (w'.heap[gb415]? = some (.cells #[.int .u64 0, .string (⟨#[]⟩ : ByteArray), .int .u64 0, (.slice none 0 0)] 28 (0, 0))) ∧ Aside0 (w'.heap[gb416]? = some (.cells #[.int .u64 t420, .string t425, .int .u64 t429, u417003] 28 (0, 0))) ∧ Aside0 (w'.heap[gb421]? = some (.cells #[.string x422000_1, .int .i64 x422001_1, .int .i64 x422002_1] 112 (0, 0))) ∧ Aside0 (Below w.heap.size w w'))
 case atStart => exact ⟨(0), (([] : List (S44))), (t430), (t431), (t432), (.slice none 0 0), (by first | rfl | (simp; done) | (simp [*]; done)), H', ⟨Nat.le_refl _⟩, ⟨by first | exact Kd.R_nil _ _ _ _ _ | exact Kd.N_nil _ _ _ _ _ | exact Kd.V_nil _ _ _ _ _ | exact Kd.Q_nil _ _ _ _ _ | exact Kd.S_nil _ _ _ _ _⟩, ⟨bz_ BK415.out⟩, ⟨bz_ BK416.out⟩, ⟨bz_ BK421.out⟩, ⟨bh_ HB.out⟩⟩
 case round =>
  clear H'
  try clear c1
  try clear p2
  try clear c3
  try clear c6
  try clear c7
  try clear c8
  try clear c12
  try clear c13
  try clear z14_0 z14_1 z14_2
  try clear z15_0 z15_1 z15_2 z15_3
  try clear z17_0 z17_1 z17_2
  try clear z18_0 z18_1 z18_2 z18_3
  try clear z20_0 z20_1 z20_2
  try clear z21_0 z21_1 z21_2 z21_3
  try clear z23_0 z23_1 z23_2
  try clear z9_0 z9_1 z9_2 z9_3
  try clear f14_0 f14_1 f14_2
  try clear f15_0 f15_1 f15_2 f15_3
  try clear f17_0 f17_1 f17_2
  try clear f18_0 f18_1 f18_2 f18_3
  try clear f20_0 f20_1 f20_2
  try clear f21_0 f21_1 f21_2 f21_3
  try clear f23_0 f23_1 f23_2
  try clear f9_0 f9_1 f9_2 f9_3
  obtain ⟨x8_1, x417003_1, x422000_1, x422001_1, x422002_1, u417003, rfl, HA, HK1, HO_417003, BK415, BK416, BK421, HB⟩ := hrel
  cases gk with
  | zero => exact absurd HA.out (by simp [parchmentref09_Read.l0])
  | succ k1 =>
   have H := HA.out
   clear HA
   simp only [parchmentref09_Read.l0] at H
   have HC24 := Aside0.mk H
   clear H
   go_upto_region 8 with (fail)
   go_cut [46] (fun v46 wc => ∃ (kq : Nat) (x46_23 : Bool), v46 = .bool x46_23 ∧ Aside0 (parchmentref09_Read.j1 kq t433 x8_1 x46_23 t420 t425 t429 x417003_1 x422000_1 x422001_1 x422002_1 = some (r1, r2, r3, r4, r5)) ∧ Aside0 (kq ≤ k1) ∧ Aside0 (Kd.R k44 44 wc w.heap.size (fun _ => True) u417003 x417003_1) ∧ Aside0 (wc.heap[gb415]? = some (.cells #[.int .u64 0, .string (⟨#[]⟩ : ByteArray), .int .u64 0, (.slice none 0 0)] 28 (0, 0))) ∧ Aside0 (wc.heap[gb416]? = some (.cells #[.int .u64 t420, .string t425, .int .u64 t429, u417003] 28 (0, 0))) ∧ Aside0 (wc.heap[gb421]? = some (.cells #[.string x422000_1, .int .i64 x422001_1, .int .i64 x422002_1] 112 (0, 0))) ∧ Aside0 (Below w.heap.size w wc))
   case first =>
    have H := HC24.out
    clear HC24
    by_cases c25 : x8_1 < t433
    ·rw [if_pos c25] at H
     have c25b0 : decide (x8_1 < t433) = true := decide_eq_true c25
     clear c25
     (first | rw [c25b0] | (simp only [i64_w, i32_w]; rw [c25b0]) | skip)
     have H' := Aside0.mk H
     clear H
     have hnb26 := NB421_415.out
     have hnc26 := NB415_421.out
     have hnb27 := NB421_416.out
     have hnc27 := NB416_421.out
     obtain ⟨z28_0, z28_1, z28_2, f28_0, f28_1, f28_2⟩ := bc3_ BK421.out
     go_wp2
     go_meet
     case rel => exact ⟨_, ((x422002_1 == 0)), (by first | rfl | (simp; done) | (simp [*]; done)), H', ⟨by have := HK1.out; first | omega | exact Nat.le_refl _⟩, ⟨br_ HO_417003.out⟩, ⟨bz_ BK415.out⟩, ⟨bz_ BK416.out⟩, ⟨bz_ BK421.out⟩, ⟨bh_ HB.out⟩⟩
    ·rw [if_neg c25] at H
     have c25b0 : decide (x8_1 < t433) = false := decide_eq_false c25
     clear c25
     (first | rw [c25b0] | (simp only [i64_w, i32_w]; rw [c25b0]) | skip)
     have H' := Aside0.mk H
     clear H
     go_wp2
     go_meet
     case rel => exact ⟨_, (false), (by first | rfl | (simp; done) | (simp [*]; done)), H', ⟨by have := HK1.out; first | omega | exact Nat.le_refl _⟩, ⟨br_ HO_417003.out⟩, ⟨bz_ BK415.out⟩, ⟨bz_ BK416.out⟩, ⟨bz_ BK421.out⟩, ⟨bh_ HB.out⟩⟩
   case rest =>
    clear HC24
    try clear c1
    try clear c2
    try clear p2
    try clear c3
    try clear c6
    try clear c7
    try clear c8
    try clear c12
    try clear c13
    try clear c25
    try clear c25b0
    try clear c26
    try clear c27
    try clear z14_0 z14_1 z14_2
    try clear z15_0 z15_1 z15_2 z15_3
    try clear z17_0 z17_1 z17_2
    try clear z18_0 z18_1 z18_2 z18_3
    try clear z20_0 z20_1 z20_2
    try clear z21_0 z21_1 z21_2 z21_3
    try clear z23_0 z23_1 z23_2
    try clear z28_0 z28_1 z28_2
    try clear z9_0 z9_1 z9_2 z9_3
    try clear f14_0 f14_1 f14_2
    try clear f15_0 f15_1 f15_2 f15_3
    try clear f17_0 f17_1 f17_2
    try clear f18_0 f18_1 f18_2 f18_3
    try clear f20_0 f20_1 f20_2
    try clear f21_0 f21_1 f21_2 f21_3
    try clear f23_0 f23_1 f23_2
    try clear f28_0 f28_1 f28_2
    try clear f9_0 f9_1 f9_2 f9_3
    try clear p2
    obtain ⟨kq, x46_23, rfl, HA, HJ23, HO_417003, BK415, BK416, BK421, HB⟩ := hcut
    cases kq with
    | zero => exact absurd HA.out (by simp [parchmentref09_Read.j1])
    | succ kj23 =>
     have H := HA.out
     clear HA
     simp only [parchmentref09_Read.j1] at H
     by_cases c29 : x46_23 = true
     ·subst c29
      have H1 : ((parchmentref02_Cursor_Bytes.f x422000_1 x422001_1 x422002_1 1).bind fun bt435 => (if bt435.2.2.1 = 0 then (if 0 < (bt435.2.2.2.size : Int) then (parchmentref09_Read.j2 kj23 t433 x8_1 t420 t425 t429 x417003_1 (wrap64 (bt bt435.2.2.2 0)) (⟨#[]⟩ : ByteArray) (⟨#[]⟩ : ByteArray) 0 0 (⟨#[]⟩ : ByteArray) (⟨#[]⟩ : ByteArray) false bt435.1 bt435.2.1 bt435.2.2.1) else (none)) else (parchmentref09_Read.j2 kj23 t433 x8_1 t420 t425 t429 x417003_1 0 (⟨#[]⟩ : ByteArray) (⟨#[]⟩ : ByteArray) 0 0 (⟨#[]⟩ : ByteArray) (⟨#[]⟩ : ByteArray) false bt435.1 bt435.2.1 bt435.2.2.1))) = some (r1, r2, r3, r4, r5) := by rw [if_pos rfl] at H; exact H
      clear H
      have H := H1
      clear H1
      replace H := Option.bind_eq_some_iff.mp H
      obtain ⟨⟨t435, t436, t437, t438⟩, A300, H⟩ := H
      replace H : (if t437 = 0 then (if 0 < (t438.size : Int) then (parchmentref09_Read.j2 kj23 t433 x8_1 t420 t425 t429 x417003_1 (wrap64 (bt t438 0)) (⟨#[]⟩ : ByteArray) (⟨#[]⟩ : ByteArray) 0 0 (⟨#[]⟩ : ByteArray) (⟨#[]⟩ : ByteArray) false t435 t436 t437) else (none)) else (parchmentref09_Read.j2 kj23 t433 x8_1 t420 t425 t429 x417003_1 0 (⟨#[]⟩ : ByteArray) (⟨#[]⟩ : ByteArray) 0 0 (⟨#[]⟩ : ByteArray) (⟨#[]⟩ : ByteArray) false t435 t436 t437)) = some (r1, r2, r3, r4, r5) := H
      have A30 := Aside0.mk A300
      clear A300
      have HC31 := Aside0.mk H
      clear H
      go_upto_if 57 with (first | ((with_reducible refine gate_dst (N := 9) rfl ?_); refine box_event ?hg (N := 9) ?hd (cs := #[.int .i64 0, .string (⟨#[]⟩ : ByteArray), .string (⟨#[]⟩ : ByteArray), .int .u64 0, .int .u64 0, .string (⟨#[]⟩ : ByteArray), .string (⟨#[]⟩ : ByteArray), .bool false]) (t := 44) ?hr ?_; (case hd => rfl); (case hg => rfl); (case hr => first | (go_simp; done) | (go_simp; rfl)); intro gb434 hg w32 hbox hb; have n0_ := Aside0.mk (Kd.R_below (Kd.R_elderB (br_ HO_417003.out) gb434 (Nat.le_of_eq hg.symm)) hb); have n1_ := Aside0.mk (bk_ BK415.out hb); have n2_ := Aside0.mk (bk_ BK416.out hb); have n3_ := Aside0.mk (bk_ BK421.out hb); have n4_ := Aside0.mk (below_step (bh_ HB.out) hb); have n5_ := Aside0.mk (hbox); have n6_ := Aside0.mk ((by rw [hg]; exact (below_size (bh_ HB.out)) : w.heap.size ≤ gb434)); have n7_ := Aside0.mk ((by rw [hg]; exact (below_size (bh_ HB.out)) : w.heap.size ≤ gb434)); have n8_ := Aside0.mk ((by rw [hg]; exact Nat.ne_of_lt (blk_lt (g := gb415) (o := .cells #[.int .u64 0, .string (⟨#[]⟩ : ByteArray), .int .u64 0, .slice none 0 0] 28 (0, 0)) (bz_ BK415.out)) : gb415 ≠ gb434)); have n9_ := Aside0.mk ((by rw [hg]; exact Nat.ne_of_gt (blk_lt (g := gb415) (o := .cells #[.int .u64 0, .string (⟨#[]⟩ : ByteArray), .int .u64 0, .slice none 0 0] 28 (0, 0)) (bz_ BK415.out)) : gb434 ≠ gb415)); have n10_ := Aside0.mk ((by rw [hg]; exact Nat.ne_of_lt (blk_lt (g := gb416) (o := .cells #[.int .u64 t420, .string t425, .int .u64 t429, u417003] 28 (0, 0)) (bz_ BK416.out)) : gb416 ≠ gb434)); have n11_ := Aside0.mk ((by rw [hg]; exact Nat.ne_of_gt (blk_lt (g := gb416) (o := .cells #[.int .u64 t420, .string t425, .int .u64 t429, u417003] 28 (0, 0)) (bz_ BK416.out)) : gb434 ≠ gb416)); have n12_ := Aside0.mk ((by rw [hg]; exact Nat.ne_of_lt (blk_lt (g := gb421) (o := .cells #[.string x422000_1, .int .i64 x422001_1, .int .i64 x422002_1] 112 (0, 0)) (bz_ BK421.out)) : gb421 ≠ gb434)); have n13_ := Aside0.mk ((by rw [hg]; exact Nat.ne_of_gt (blk_lt (g := gb421) (o := .cells #[.string x422000_1, .int .i64 x422001_1, .int .i64 x422002_1] 112 (0, 0)) (bz_ BK421.out)) : gb434 ≠ gb421)); clear HO_417003; clear BK415; clear BK416; clear BK421; clear HB; have HO_417003 := n0_; have BK415 := n1_; have BK416 := n2_; have BK421 := n3_; have HB := n4_; have BK434 := n5_; have GW434 := n6_; have GE434 := n7_; have NB415_434 := n8_; have NB434_415 := n9_; have NB416_434 := n10_; have NB434_416 := n11_; have NB421_434 := n12_; have NB434_421 := n13_; clear n0_ n1_ n2_ n3_ n4_ n5_ n6_ n7_ n8_ n9_ n10_ n11_ n12_ n13_; clear hb hbox hg; have hnb33 := NB434_415.out; have hnc33 := NB415_434.out; have hnb34 := NB434_416.out; have hnc34 := NB416_434.out; have hnb35 := NB434_421.out; have hnc35 := NB421_434.out; obtain ⟨z36_0, z36_1, z36_2, z36_3, z36_4, z36_5, z36_6, z36_7, f36_0, f36_1, f36_2, f36_3, f36_4, f36_5, f36_6, f36_7⟩ := bc8_ BK434.out; have hnb37 := NB421_415.out; have hnc37 := NB415_421.out; have hnb38 := NB421_416.out; have hnc38 := NB416_421.out; obtain ⟨z39_0, z39_1, z39_2, f39_0, f39_1, f39_2⟩ := bc3_ BK421.out) | ((with_reducible refine gate_callee (f := 71) rfl ?_); refine gl_ (some 52) Try.func71 #[.agg #[.string x422000_1, .int .i64 x422001_1, .int .i64 x422002_1], .int .i64 1] ?_; (with_reducible refine (parchmentref02_Cursor_Bytes.calls x422000_1 x422001_1 x422002_1 1 t435 t436 t437 t438 _ A30.out).mono ?_); rintro e w40 ⟨rfl, hb⟩; refine ⟨_, rfl, ?_⟩; replace HO_417003 := Aside0.mk (Kd.R_below (by (with_reducible repeat (first | apply Kd.R_alloc | apply Kd.R_drewN | apply Kd.R_drew)); exact (Kd.R_mono (Kd.R_far (p := ⟨gb434, 7, none⟩) (Kd.R_far (p := ⟨gb434, 6, none⟩) (Kd.R_far (p := ⟨gb434, 5, none⟩) (Kd.R_far (p := ⟨gb434, 4, none⟩) (Kd.R_far (p := ⟨gb434, 3, none⟩) (Kd.R_far (p := ⟨gb434, 2, none⟩) (Kd.R_far (p := ⟨gb434, 1, none⟩) (Kd.R_far (p := ⟨gb434, 0, none⟩) (Kd.R_mono HO_417003.out (fun k_ hk => (⟨hk, hk.2⟩ : _ ∧ k_ ≠ gb434))) (fun _ hk => hk.2) (.int .i64 0)) (fun _ hk => hk.2) (.string (⟨#[]⟩ : ByteArray))) (fun _ hk => hk.2) (.string (⟨#[]⟩ : ByteArray))) (fun _ hk => hk.2) (.int .u64 0)) (fun _ hk => hk.2) (.int .u64 0)) (fun _ hk => hk.2) (.string (⟨#[]⟩ : ByteArray))) (fun _ hk => hk.2) (.string (⟨#[]⟩ : ByteArray))) (fun _ hk => hk.2) (.bool false)) (fun _ h_ => h_.1))) hb); replace BK415 := Aside0.mk (bf_ BK415.out hb); replace BK416 := Aside0.mk (bf_ BK416.out hb); replace BK421 := Aside0.mk (bf_ BK421.out hb); replace BK434 := Aside0.mk (bp_ (o' := .cells #[.int .i64 0, .string (⟨#[]⟩ : ByteArray), .string (⟨#[]⟩ : ByteArray), .int .u64 0, .int .u64 0, .string (⟨#[]⟩ : ByteArray), .string (⟨#[]⟩ : ByteArray), .bool false] 44 (0, 0)) BK434.out hb); replace HB := Aside0.mk (below_step (bh_ HB.out) hb); (try clear hb)) | ((with_reducible refine gate_dst (N := 10) rfl ?_); refine box_event ?hg (N := 10) ?hd (cs := #[.string (⟨#[]⟩ : ByteArray), .int .i64 0, .int .i64 0]) (t := 112) ?hr ?_; (case hd => rfl); (case hg => rfl); (case hr => first | (go_simp; done) | (go_simp; rfl)); intro gb439 hg w41 hbox hb; have n0_ := Aside0.mk (Kd.R_below (br_ HO_417003.out) hb); have n1_ := Aside0.mk (bk_ BK415.out hb); have n2_ := Aside0.mk (bk_ BK416.out hb); have n3_ := Aside0.mk (bk_ BK421.out hb); have n4_ := Aside0.mk (bk_ BK434.out hb); have n5_ := Aside0.mk (below_step (bh_ HB.out) hb); have n6_ := Aside0.mk (hbox); have n7_ := Aside0.mk ((by rw [hg]; exact (below_size (bh_ HB.out)) : w.heap.size ≤ gb439)); have n8_ := Aside0.mk ((by rw [hg]; exact (below_size (bh_ HB.out)) : w.heap.size ≤ gb439)); have n9_ := Aside0.mk ((by rw [hg]; exact Nat.ne_of_lt (blk_lt (g := gb415) (o := .cells #[.int .u64 0, .string (⟨#[]⟩ : ByteArray), .int .u64 0, .slice none 0 0] 28 (0, 0)) (bz_ BK415.out)) : gb415 ≠ gb439)); have n10_ := Aside0.mk ((by rw [hg]; exact Nat.ne_of_gt (blk_lt (g := gb415) (o := .cells #[.int .u64 0, .string (⟨#[]⟩ : ByteArray), .int .u64 0, .slice none 0 0] 28 (0, 0)) (bz_ BK415.out)) : gb439 ≠ gb415)); have n11_ := Aside0.mk ((by rw [hg]; exact Nat.ne_of_lt (blk_lt (g := gb416) (o := .cells #[.int .u64 t420, .string t425, .int .u64 t429, u417003] 28 (0, 0)) (bz_ BK416.out)) : gb416 ≠ gb439)); have n12_ := Aside0.mk ((by rw [hg]; exact Nat.ne_of_gt (blk_lt (g := gb416) (o := .cells #[.int .u64 t420, .string t425, .int .u64 t429, u417003] 28 (0, 0)) (bz_ BK416.out)) : gb439 ≠ gb416)); have n13_ := Aside0.mk ((by rw [hg]; exact Nat.ne_of_lt (blk_lt (g := gb421) (o := .cells #[.string x422000_1, .int .i64 x422001_1, .int .i64 x422002_1] 112 (0, 0)) (bz_ BK421.out)) : gb421 ≠ gb439)); have n14_ := Aside0.mk ((by rw [hg]; exact Nat.ne_of_gt (blk_lt (g := gb421) (o := .cells #[.string x422000_1, .int .i64 x422001_1, .int .i64 x422002_1] 112 (0, 0)) (bz_ BK421.out)) : gb439 ≠ gb421)); have n15_ := Aside0.mk ((by rw [hg]; exact Nat.ne_of_lt (blk_lt (g := gb434) (o := .cells #[.int .i64 0, .string (⟨#[]⟩ : ByteArray), .string (⟨#[]⟩ : ByteArray), .int .u64 0, .int .u64 0, .string (⟨#[]⟩ : ByteArray), .string (⟨#[]⟩ : ByteArray), .bool false] 44 (0, 0)) (bz_ BK434.out)) : gb434 ≠ gb439)); have n16_ := Aside0.mk ((by rw [hg]; exact Nat.ne_of_gt (blk_lt (g := gb434) (o := .cells #[.int .i64 0, .string (⟨#[]⟩ : ByteArray), .string (⟨#[]⟩ : ByteArray), .int .u64 0, .int .u64 0, .string (⟨#[]⟩ : ByteArray), .string (⟨#[]⟩ : ByteArray), .bool false] 44 (0, 0)) (bz_ BK434.out)) : gb439 ≠ gb434)); clear HO_417003; clear BK415; clear BK416; clear BK421; clear BK434; clear HB; have HO_417003 := n0_; have BK415 := n1_; have BK416 := n2_; have BK421 := n3_; have BK434 := n4_; have HB := n5_; have BK439 := n6_; have GW439 := n7_; have GE439 := n8_; have NB415_439 := n9_; have NB439_415 := n10_; have NB416_439 := n11_; have NB439_416 := n12_; have NB421_439 := n13_; have NB439_421 := n14_; have NB434_439 := n15_; have NB439_434 := n16_; clear n0_ n1_ n2_ n3_ n4_ n5_ n6_ n7_ n8_ n9_ n10_ n11_ n12_ n13_ n14_ n15_ n16_; clear hb hbox hg; have hnb42 := NB439_415.out; have hnc42 := NB415_439.out; have hnb43 := NB439_416.out; have hnc43 := NB416_439.out; have hnb44 := NB439_421.out; have hnc44 := NB421_439.out; have hnb45 := NB439_434.out; have hnc45 := NB434_439.out; obtain ⟨z46_0, z46_1, z46_2, f46_0, f46_1, f46_2⟩ := bc3_ BK439.out))
      (try simp only [Act.put, q1_, q2_, q3_])
      go_cut [] (fun wc => ∃ (kq : Nat) (x435000_30 : Int), Aside0 (parchmentref09_Read.j2 kq t433 x8_1 t420 t425 t429 x417003_1 x435000_30 (⟨#[]⟩ : ByteArray) (⟨#[]⟩ : ByteArray) 0 0 (⟨#[]⟩ : ByteArray) (⟨#[]⟩ : ByteArray) false t435 t436 t437 = some (r1, r2, r3, r4, r5)) ∧ Aside0 (kq ≤ kj23) ∧ Aside0 (Kd.R k44 44 wc w.heap.size (fun k_ => k_ ≠ gb434) u417003 x417003_1) ∧ Aside0 (wc.heap[gb415]? = some (.cells #[.int .u64 0, .string (⟨#[]⟩ : ByteArray), .int .u64 0, (.slice none 0 0)] 28 (0, 0))) ∧ Aside0 (wc.heap[gb416]? = some (.cells #[.int .u64 t420, .string t425, .int .u64 t429, u417003] 28 (0, 0))) ∧ Aside0 (wc.heap[gb421]? = some (.cells #[.string x422000_1, .int .i64 x422001_1, .int .i64 x422002_1] 112 (0, 0))) ∧ Aside0 (wc.heap[gb434]? = some (.cells #[.int .i64 x435000_30, .string (⟨#[]⟩ : ByteArray), .string (⟨#[]⟩ : ByteArray), .int .u64 0, .int .u64 0, .string (⟨#[]⟩ : ByteArray), .string (⟨#[]⟩ : ByteArray), .bool false] 44 (0, 0))) ∧ Aside0 (wc.heap[gb439]? = some (.cells #[.string t435, .int .i64 t436, .int .i64 t437] 112 (0, 0))) ∧ Aside0 (Below w.heap.size w wc))
      case first =>
       have H := HC31.out
       clear HC31
       by_cases c47 : t437 = 0
       ·rw [if_pos c47] at H
        have c47b0 : (t437 == 0) = true := beq_iff_eq.mpr c47
        have c47b1 : (t437 != 0) = false := bne_eq_false_iff_eq.mpr c47
        clear c47
        (first | rw [c47b0] | (simp only [i64_w, i32_w]; rw [c47b0]) | skip)
        by_cases c48 : 0 < (t438.size : Int)
        ·rw [if_pos c48] at H
         have c48b0 : decide (0 < (t438.size : Int)) = true := decide_eq_true c48
         have c48b1 : decide (0 < t438.size) = true := decide_eq_true (by omega)
         clear c48
         have H' := Aside0.mk H
         clear H
         have p49 : 0 ≤ (0 : Int) := (by omega)
         have q49 : 0 < t438.size := (by have : (0 : Int) < (t438.size : Int) := of_decide_eq_true (by first | (with_reducible assumption) | assumption); omega)
         have hx49 : ∀ h : 0 < t438.size, ((t438[0]'h).toNat : Int) = bt t438 0 := bt_at t438 0
         clear p49
         have qi49 : (0 < (t438.size : Int)) = True := eq_true (of_decide_eq_true (by first | (with_reducible assumption) | assumption))
         replace q49 := eq_true q49
         have hnb50 := NB434_415.out
         have hnc50 := NB415_434.out
         have hnb51 := NB434_416.out
         have hnc51 := NB416_434.out
         have hnb52 := NB434_421.out
         have hnc52 := NB421_434.out
         have hnb53 := NB434_439.out
         have hnc53 := NB439_434.out
         obtain ⟨z54_0, z54_1, z54_2, z54_3, z54_4, z54_5, z54_6, z54_7, f54_0, f54_1, f54_2, f54_3, f54_4, f54_5, f54_6, f54_7⟩ := bc8_ BK434.out
         go_wp2
         go_meet
         case rel => exact ⟨_, (wrap64 (bt t438 0)), H', ⟨by have := HK1.out; have := HJ23.out; first | omega | exact Nat.le_refl _⟩, ⟨by (with_reducible repeat (first | apply Kd.R_alloc | apply Kd.R_drewN | apply Kd.R_drew)); exact Kd.R_mono (Kd.R_far (p := ⟨gb434, 0, none⟩) (Kd.R_far (p := ⟨gb439, 2, none⟩) (Kd.R_far (p := ⟨gb439, 1, none⟩) (Kd.R_far (p := ⟨gb439, 0, none⟩) (Kd.R_mono (Kd.R_types HO_417003.out BK439.out (by decide)) (fun k_ hk => (⟨hk, hk.1.2⟩ : _ ∧ k_ ≠ gb434))) (fun _ hk => hk.1.2) (.string t435)) (fun _ hk => hk.1.2) (.int .i64 t436)) (fun _ hk => hk.1.2) (.int .i64 t437)) (fun _ hk => hk.2) (.int .i64 (wrap64 (bt t438 0)))) (fun _ hk => hk.1.1.2)⟩, ⟨bz_ BK415.out⟩, ⟨bz_ BK416.out⟩, ⟨bz_ BK421.out⟩, ⟨bz_ BK434.out⟩, ⟨bz_ BK439.out⟩, ⟨bh_ HB.out⟩⟩
        ·rw [if_neg c48] at H
         exact absurd H (by simp)
       ·rw [if_neg c47] at H
        have c47b0 : (t437 == 0) = false := beq_eq_false_iff_ne.mpr c47
        have c47b1 : (t437 != 0) = true := bne_iff_ne.mpr c47
        (first | rw [c47b0] | (simp only [i64_w, i32_w]; rw [c47b0]) | skip)
        have H' := Aside0.mk H
        clear H
        go_wp2
        go_meet
        case rel => exact ⟨_, (0), H', ⟨by have := HK1.out; have := HJ23.out; first | omega | exact Nat.le_refl _⟩, ⟨by (with_reducible repeat (first | apply Kd.R_alloc | apply Kd.R_drewN | apply Kd.R_drew)); exact Kd.R_mono (Kd.R_far (p := ⟨gb439, 2, none⟩) (Kd.R_far (p := ⟨gb439, 1, none⟩) (Kd.R_far (p := ⟨gb439, 0, none⟩) (Kd.R_types HO_417003.out BK439.out (by decide)) (fun _ hk => hk.2) (.string t435)) (fun _ hk => hk.2) (.int .i64 t436)) (fun _ hk => hk.2) (.int .i64 t437)) (fun _ hk => hk.1.2)⟩, ⟨bz_ BK415.out⟩, ⟨bz_ BK416.out⟩, ⟨bz_ BK421.out⟩, ⟨bz_ BK434.out⟩, ⟨bz_ BK439.out⟩, ⟨bh_ HB.out⟩⟩
      case rest =>
       clear HC31
       try clear c1
       try clear c2
       try clear p2
       try clear c3
       try clear c4
       try clear p4
       try clear q4
       try clear hx4
       try clear qi4
       try clear c5
       try clear c6
       try clear p6
       try clear c7
       try clear c8
       try clear c12
       try clear c13
       try clear c25
       try clear c25b0
       try clear c26
       try clear c27
       try clear c29
       try clear c33
       try clear c34
       try clear c35
       try clear c37
       try clear c38
       try clear c42
       try clear c43
       try clear c44
       try clear c45
       try clear c47
       try clear c47b0
       try clear c47b1
       try clear c48
       try clear c48b0
       try clear c48b1
       try clear p49
       try clear q49
       try clear hx49
       try clear qi49
       try clear c50
       try clear c51
       try clear c52
       try clear c53
       try clear z14_0 z14_1 z14_2
       try clear z15_0 z15_1 z15_2 z15_3
       try clear z17_0 z17_1 z17_2
       try clear z18_0 z18_1 z18_2 z18_3
       try clear z20_0 z20_1 z20_2
       try clear z21_0 z21_1 z21_2 z21_3
       try clear z23_0 z23_1 z23_2
       try clear z28_0 z28_1 z28_2
       try clear z36_0 z36_1 z36_2 z36_3 z36_4 z36_5 z36_6 z36_7
       try clear z39_0 z39_1 z39_2
       try clear z46_0 z46_1 z46_2
       try clear z54_0 z54_1 z54_2 z54_3 z54_4 z54_5 z54_6 z54_7
       try clear z9_0 z9_1 z9_2 z9_3
       try clear f14_0 f14_1 f14_2
       try clear f15_0 f15_1 f15_2 f15_3
       try clear f17_0 f17_1 f17_2
       try clear f18_0 f18_1 f18_2 f18_3
       try clear f20_0 f20_1 f20_2
       try clear f21_0 f21_1 f21_2 f21_3
       try clear f23_0 f23_1 f23_2
       try clear f28_0 f28_1 f28_2
       try clear f36_0 f36_1 f36_2 f36_3 f36_4 f36_5 f36_6 f36_7
       try clear f39_0 f39_1 f39_2
       try clear f46_0 f46_1 f46_2
       try clear f54_0 f54_1 f54_2 f54_3 f54_4 f54_5 f54_6 f54_7
       try clear f9_0 f9_1 f9_2 f9_3
       try clear p2
       try clear p49
       try clear q49
       obtain ⟨kq, x435000_30, HA, HJ30, HO_417003, BK415, BK416, BK421, BK434, BK439, HB⟩ := hcut
       cases kq with
       | zero => exact absurd HA.out (by simp [parchmentref09_Read.j2])
       | succ kj30 =>
        have H := HA.out
        clear HA
        simp only [parchmentref09_Read.j2] at H
        replace H := Option.bind_eq_some_iff.mp H
        obtain ⟨⟨t440, t441, t442, t443⟩, A550, H⟩ := H
        replace H : ((parchmentref02_Cursor_Text.f kj30 t440 t441 t442 16).bind fun bt444 => ((parchmentref02_Cursor_Uint.f kj30 bt444.1 bt444.2.1 bt444.2.2.1).bind fun bt448 => ((parchmentref02_Cursor_Uint.f kj30 bt448.1 bt448.2.1 bt448.2.2.1).bind fun bt452 => ((parchmentref02_Cursor_Text.f kj30 bt452.1 bt452.2.1 bt452.2.2.1 32).bind fun bt456 => (if x435000_30 = 3 then (if x417003_1.length < 1466015503701 then (parchmentref09_Read.l0 kj30 t433 (wrap64 (x8_1 + 1)) t420 t425 t429 (x417003_1 ++ [(⟨x435000_30, t443, bt444.2.2.2, bt448.2.2.2, bt452.2.2.2, bt456.2.2.2, (⟨#[]⟩ : ByteArray), true⟩ : S44)]) bt456.1 bt456.2.1 bt456.2.2.1) else (none)) else (if x417003_1.length < 1466015503701 then (parchmentref09_Read.l0 kj30 t433 (wrap64 (x8_1 + 1)) t420 t425 t429 (x417003_1 ++ [(⟨x435000_30, t443, bt444.2.2.2, bt448.2.2.2, bt452.2.2.2, bt456.2.2.2, (⟨#[]⟩ : ByteArray), (x435000_30 == 4)⟩ : S44)]) bt456.1 bt456.2.1 bt456.2.2.1) else (none))))))) = some (r1, r2, r3, r4, r5) := H
        have A55 := Aside0.mk A550
        clear A550
        replace H := Option.bind_eq_some_iff.mp H
        obtain ⟨⟨t444, t445, t446, t447⟩, A560, H⟩ := H
        replace H : ((parchmentref02_Cursor_Uint.f kj30 t444 t445 t446).bind fun bt448 => ((parchmentref02_Cursor_Uint.f kj30 bt448.1 bt448.2.1 bt448.2.2.1).bind fun bt452 => ((parchmentref02_Cursor_Text.f kj30 bt452.1 bt452.2.1 bt452.2.2.1 32).bind fun bt456 => (if x435000_30 = 3 then (if x417003_1.length < 1466015503701 then (parchmentref09_Read.l0 kj30 t433 (wrap64 (x8_1 + 1)) t420 t425 t429 (x417003_1 ++ [(⟨x435000_30, t443, t447, bt448.2.2.2, bt452.2.2.2, bt456.2.2.2, (⟨#[]⟩ : ByteArray), true⟩ : S44)]) bt456.1 bt456.2.1 bt456.2.2.1) else (none)) else (if x417003_1.length < 1466015503701 then (parchmentref09_Read.l0 kj30 t433 (wrap64 (x8_1 + 1)) t420 t425 t429 (x417003_1 ++ [(⟨x435000_30, t443, t447, bt448.2.2.2, bt452.2.2.2, bt456.2.2.2, (⟨#[]⟩ : ByteArray), (x435000_30 == 4)⟩ : S44)]) bt456.1 bt456.2.1 bt456.2.2.1) else (none)))))) = some (r1, r2, r3, r4, r5) := H
        have A56 := Aside0.mk A560
        clear A560
        replace H := Option.bind_eq_some_iff.mp H
        obtain ⟨⟨t448, t449, t450, t451⟩, A570, H⟩ := H
        replace H : ((parchmentref02_Cursor_Uint.f kj30 t448 t449 t450).bind fun bt452 => ((parchmentref02_Cursor_Text.f kj30 bt452.1 bt452.2.1 bt452.2.2.1 32).bind fun bt456 => (if x435000_30 = 3 then (if x417003_1.length < 1466015503701 then (parchmentref09_Read.l0 kj30 t433 (wrap64 (x8_1 + 1)) t420 t425 t429 (x417003_1 ++ [(⟨x435000_30, t443, t447, t451, bt452.2.2.2, bt456.2.2.2, (⟨#[]⟩ : ByteArray), true⟩ : S44)]) bt456.1 bt456.2.1 bt456.2.2.1) else (none)) else (if x417003_1.length < 1466015503701 then (parchmentref09_Read.l0 kj30 t433 (wrap64 (x8_1 + 1)) t420 t425 t429 (x417003_1 ++ [(⟨x435000_30, t443, t447, t451, bt452.2.2.2, bt456.2.2.2, (⟨#[]⟩ : ByteArray), (x435000_30 == 4)⟩ : S44)]) bt456.1 bt456.2.1 bt456.2.2.1) else (none))))) = some (r1, r2, r3, r4, r5) := H
        have A57 := Aside0.mk A570
        clear A570
        replace H := Option.bind_eq_some_iff.mp H
        obtain ⟨⟨t452, t453, t454, t455⟩, A580, H⟩ := H
        replace H : ((parchmentref02_Cursor_Text.f kj30 t452 t453 t454 32).bind fun bt456 => (if x435000_30 = 3 then (if x417003_1.length < 1466015503701 then (parchmentref09_Read.l0 kj30 t433 (wrap64 (x8_1 + 1)) t420 t425 t429 (x417003_1 ++ [(⟨x435000_30, t443, t447, t451, t455, bt456.2.2.2, (⟨#[]⟩ : ByteArray), true⟩ : S44)]) bt456.1 bt456.2.1 bt456.2.2.1) else (none)) else (if x417003_1.length < 1466015503701 then (parchmentref09_Read.l0 kj30 t433 (wrap64 (x8_1 + 1)) t420 t425 t429 (x417003_1 ++ [(⟨x435000_30, t443, t447, t451, t455, bt456.2.2.2, (⟨#[]⟩ : ByteArray), (x435000_30 == 4)⟩ : S44)]) bt456.1 bt456.2.1 bt456.2.2.1) else (none)))) = some (r1, r2, r3, r4, r5) := H
        have A58 := Aside0.mk A580
        clear A580
        replace H := Option.bind_eq_some_iff.mp H
        obtain ⟨⟨t456, t457, t458, t459⟩, A590, H⟩ := H
        replace H : (if x435000_30 = 3 then (if x417003_1.length < 1466015503701 then (parchmentref09_Read.l0 kj30 t433 (wrap64 (x8_1 + 1)) t420 t425 t429 (x417003_1 ++ [(⟨x435000_30, t443, t447, t451, t455, t459, (⟨#[]⟩ : ByteArray), true⟩ : S44)]) t456 t457 t458) else (none)) else (if x417003_1.length < 1466015503701 then (parchmentref09_Read.l0 kj30 t433 (wrap64 (x8_1 + 1)) t420 t425 t429 (x417003_1 ++ [(⟨x435000_30, t443, t447, t451, t455, t459, (⟨#[]⟩ : ByteArray), (x435000_30 == 4)⟩ : S44)]) t456 t457 t458) else (none))) = some (r1, r2, r3, r4, r5) := H
        have A59 := Aside0.mk A590
        clear A590
        by_cases c60 : x435000_30 = 3
        ·rw [if_pos c60] at H
         have c60b0 : (x435000_30 == 3) = true := beq_iff_eq.mpr c60
         have c60b1 : (x435000_30 != 3) = false := bne_eq_false_iff_eq.mpr c60
         clear c60
         by_cases c61 : x417003_1.length < 1466015503701
         ·rw [if_pos c61] at H
          have LMc61 := Aside0.mk c61
          clear c61
          obtain ⟨y460, hy460⟩ : ∃ y_ : List (S44), y_ = (x417003_1 ++ [(⟨x435000_30, t443, t447, t451, t455, t459, (⟨#[]⟩ : ByteArray), true⟩ : S44)]) := ⟨_, rfl⟩
          replace H : (parchmentref09_Read.l0 kj30 t433 (wrap64 (x8_1 + 1)) t420 t425 t429 y460 t456 t457 t458) = some (r1, r2, r3, r4, r5) := by first | (rw [hy460]; with_reducible exact H) | (have H2_ := (Option.bind_some _ _).symm.trans H; rw [hy460]; with_reducible exact H2_) | (have H2_ := (Option.bind_some _ _).symm.trans H; with_reducible exact H2_) | with_reducible exact H | (rw [hy460]; exact H) | exact H
          have Ny460 := Aside0.mk hy460
          clear hy460
          have H' := Aside0.mk H
          clear H
          have hnb62 := NB439_415.out
          have hnc62 := NB415_439.out
          have hnb63 := NB439_416.out
          have hnc63 := NB416_439.out
          have hnb64 := NB439_421.out
          have hnc64 := NB421_439.out
          have hnb65 := NB439_434.out
          have hnc65 := NB434_439.out
          obtain ⟨z66_0, z66_1, z66_2, f66_0, f66_1, f66_2⟩ := bc3_ BK439.out
          go_wp2_with (first | ((with_reducible refine gate_callee (f := 69) rfl ?_); refine gl_ (some 64) Try.func69 #[.agg #[.string t435, .int .i64 t436, .int .i64 t437], .int .i64 16] ?_; (with_reducible refine (parchmentref02_Cursor_Text.calls kj30 t435 t436 t437 16 t440 t441 t442 t443 _ A55.out).mono ?_); rintro e w67 ⟨rfl, hb⟩; refine ⟨_, rfl, ?_⟩; replace HO_417003 := Aside0.mk (Kd.R_below (br_ HO_417003.out) hb); replace BK415 := Aside0.mk (bk_ BK415.out hb); replace BK416 := Aside0.mk (bk_ BK416.out hb); replace BK421 := Aside0.mk (bk_ BK421.out hb); replace BK434 := Aside0.mk (bk_ BK434.out hb); replace BK439 := Aside0.mk (bk_ BK439.out hb); replace HB := Aside0.mk (below_step (bh_ HB.out) hb); (try clear hb); obtain ⟨z68_0, z68_1, z68_2, f68_0, f68_1, f68_2⟩ := bc3_ BK439.out; have hnb69 := NB434_415.out; have hnc69 := NB415_434.out; have hnb70 := NB434_416.out; have hnc70 := NB416_434.out; have hnb71 := NB434_421.out; have hnc71 := NB421_434.out; obtain ⟨z72_0, z72_1, z72_2, z72_3, z72_4, z72_5, z72_6, z72_7, f72_0, f72_1, f72_2, f72_3, f72_4, f72_5, f72_6, f72_7⟩ := bc8_ BK434.out) | ((with_reducible refine gate_callee (f := 69) rfl ?_); refine gl_ (some 70) Try.func69 #[.agg #[.string t440, .int .i64 t441, .int .i64 t442], .int .i64 16] ?_; (with_reducible refine (parchmentref02_Cursor_Text.calls kj30 t440 t441 t442 16 t444 t445 t446 t447 _ A56.out).mono ?_); rintro e w73 ⟨rfl, hb⟩; refine ⟨_, rfl, ?_⟩; replace HO_417003 := Aside0.mk (Kd.R_below (by (with_reducible repeat (first | apply Kd.R_alloc | apply Kd.R_drewN | apply Kd.R_drew)); exact (Kd.R_mono (Kd.R_mono (Kd.R_far (p := ⟨gb434, 1, none⟩) (Kd.R_far (p := ⟨gb439, 2, none⟩) (Kd.R_far (p := ⟨gb439, 1, none⟩) (Kd.R_far (p := ⟨gb439, 0, none⟩) (Kd.R_mono (Kd.R_types HO_417003.out BK439.out (by decide)) (fun k_ hk => (⟨hk, hk.1⟩ : _ ∧ k_ ≠ gb434))) (fun _ hk => hk.1.2) (.string t440)) (fun _ hk => hk.1.2) (.int .i64 t441)) (fun _ hk => hk.1.2) (.int .i64 t442)) (fun _ hk => hk.2) (.string t443)) (fun _ h_ => h_.1)) (fun _ h_ => h_.1))) hb); replace BK415 := Aside0.mk (bf_ BK415.out hb); replace BK416 := Aside0.mk (bf_ BK416.out hb); replace BK421 := Aside0.mk (bf_ BK421.out hb); replace BK434 := Aside0.mk (bp_ (o' := .cells #[.int .i64 x435000_30, .string t443, .string (⟨#[]⟩ : ByteArray), .int .u64 0, .int .u64 0, .string (⟨#[]⟩ : ByteArray), .string (⟨#[]⟩ : ByteArray), .bool false] 44 (0, 0)) BK434.out hb); replace BK439 := Aside0.mk (bp_ (o' := .cells #[.string t440, .int .i64 t441, .int .i64 t442] 112 (0, 0)) BK439.out hb); replace HB := Aside0.mk (below_step (bh_ HB.out) hb); (try clear hb); obtain ⟨z74_0, z74_1, z74_2, f74_0, f74_1, f74_2⟩ := bc3_ BK439.out; obtain ⟨z75_0, z75_1, z75_2, z75_3, z75_4, z75_5, z75_6, z75_7, f75_0, f75_1, f75_2, f75_3, f75_4, f75_5, f75_6, f75_7⟩ := bc8_ BK434.out) | ((with_reducible refine gate_callee (f := 68) rfl ?_); refine gl_ (some 76) Try.func68 #[.agg #[.string t444, .int .i64 t445, .int .i64 t446]] ?_; (with_reducible refine (parchmentref02_Cursor_Uint.calls kj30 t444 t445 t446 t448 t449 t450 t451 _ A57.out).mono ?_); rintro e w76 ⟨rfl, hb⟩; refine ⟨_, rfl, ?_⟩; replace HO_417003 := Aside0.mk (Kd.R_below (by (with_reducible repeat (first | apply Kd.R_alloc | apply Kd.R_drewN | apply Kd.R_drew)); exact (Kd.R_mono (Kd.R_mono (Kd.R_far (p := ⟨gb434, 2, none⟩) (Kd.R_far (p := ⟨gb439, 2, none⟩) (Kd.R_far (p := ⟨gb439, 1, none⟩) (Kd.R_far (p := ⟨gb439, 0, none⟩) (Kd.R_mono (Kd.R_types HO_417003.out BK439.out (by decide)) (fun k_ hk => (⟨hk, hk.1⟩ : _ ∧ k_ ≠ gb434))) (fun _ hk => hk.1.2) (.string t444)) (fun _ hk => hk.1.2) (.int .i64 t445)) (fun _ hk => hk.1.2) (.int .i64 t446)) (fun _ hk => hk.2) (.string t447)) (fun _ h_ => h_.1)) (fun _ h_ => h_.1))) hb); replace BK415 := Aside0.mk (bf_ BK415.out hb); replace BK416 := Aside0.mk (bf_ BK416.out hb); replace BK421 := Aside0.mk (bf_ BK421.out hb); replace BK434 := Aside0.mk (bp_ (o' := .cells #[.int .i64 x435000_30, .string t443, .string t447, .int .u64 0, .int .u64 0, .string (⟨#[]⟩ : ByteArray), .string (⟨#[]⟩ : ByteArray), .bool false] 44 (0, 0)) BK434.out hb); replace BK439 := Aside0.mk (bp_ (o' := .cells #[.string t444, .int .i64 t445, .int .i64 t446] 112 (0, 0)) BK439.out hb); replace HB := Aside0.mk (below_step (bh_ HB.out) hb); (try clear hb); obtain ⟨z77_0, z77_1, z77_2, f77_0, f77_1, f77_2⟩ := bc3_ BK439.out; obtain ⟨z78_0, z78_1, z78_2, z78_3, z78_4, z78_5, z78_6, z78_7, f78_0, f78_1, f78_2, f78_3, f78_4, f78_5, f78_6, f78_7⟩ := bc8_ BK434.out) | ((with_reducible refine gate_callee (f := 68) rfl ?_); refine gl_ (some 82) Try.func68 #[.agg #[.string t448, .int .i64 t449, .int .i64 t450]] ?_; (with_reducible refine (parchmentref02_Cursor_Uint.calls kj30 t448 t449 t450 t452 t453 t454 t455 _ A58.out).mono ?_); rintro e w79 ⟨rfl, hb⟩; refine ⟨_, rfl, ?_⟩; replace HO_417003 := Aside0.mk (Kd.R_below (by (with_reducible repeat (first | apply Kd.R_alloc | apply Kd.R_drewN | apply Kd.R_drew)); exact (Kd.R_mono (Kd.R_mono (Kd.R_far (p := ⟨gb434, 3, none⟩) (Kd.R_far (p := ⟨gb439, 2, none⟩) (Kd.R_far (p := ⟨gb439, 1, none⟩) (Kd.R_far (p := ⟨gb439, 0, none⟩) (Kd.R_mono (Kd.R_types HO_417003.out BK439.out (by decide)) (fun k_ hk => (⟨hk, hk.1⟩ : _ ∧ k_ ≠ gb434))) (fun _ hk => hk.1.2) (.string t448)) (fun _ hk => hk.1.2) (.int .i64 t449)) (fun _ hk => hk.1.2) (.int .i64 t450)) (fun _ hk => hk.2) (.int .u64 t451)) (fun _ h_ => h_.1)) (fun _ h_ => h_.1))) hb); replace BK415 := Aside0.mk (bf_ BK415.out hb); replace BK416 := Aside0.mk (bf_ BK416.out hb); replace BK421 := Aside0.mk (bf_ BK421.out hb); replace BK434 := Aside0.mk (bp_ (o' := .cells #[.int .i64 x435000_30, .string t443, .string t447, .int .u64 t451, .int .u64 0, .string (⟨#[]⟩ : ByteArray), .string (⟨#[]⟩ : ByteArray), .bool false] 44 (0, 0)) BK434.out hb); replace BK439 := Aside0.mk (bp_ (o' := .cells #[.string t448, .int .i64 t449, .int .i64 t450] 112 (0, 0)) BK439.out hb); replace HB := Aside0.mk (below_step (bh_ HB.out) hb); (try clear hb); obtain ⟨z80_0, z80_1, z80_2, f80_0, f80_1, f80_2⟩ := bc3_ BK439.out; obtain ⟨z81_0, z81_1, z81_2, z81_3, z81_4, z81_5, z81_6, z81_7, f81_0, f81_1, f81_2, f81_3, f81_4, f81_5, f81_6, f81_7⟩ := bc8_ BK434.out) | ((with_reducible refine gate_callee (f := 69) rfl ?_); refine gl_ (some 88) Try.func69 #[.agg #[.string t452, .int .i64 t453, .int .i64 t454], .int .i64 32] ?_; (with_reducible refine (parchmentref02_Cursor_Text.calls kj30 t452 t453 t454 32 t456 t457 t458 t459 _ A59.out).mono ?_); rintro e w82 ⟨rfl, hb⟩; refine ⟨_, rfl, ?_⟩; replace HO_417003 := Aside0.mk (Kd.R_below (by (with_reducible repeat (first | apply Kd.R_alloc | apply Kd.R_drewN | apply Kd.R_drew)); exact (Kd.R_mono (Kd.R_mono (Kd.R_far (p := ⟨gb434, 4, none⟩) (Kd.R_far (p := ⟨gb439, 2, none⟩) (Kd.R_far (p := ⟨gb439, 1, none⟩) (Kd.R_far (p := ⟨gb439, 0, none⟩) (Kd.R_mono (Kd.R_types HO_417003.out BK439.out (by decide)) (fun k_ hk => (⟨hk, hk.1⟩ : _ ∧ k_ ≠ gb434))) (fun _ hk => hk.1.2) (.string t452)) (fun _ hk => hk.1.2) (.int .i64 t453)) (fun _ hk => hk.1.2) (.int .i64 t454)) (fun _ hk => hk.2) (.int .u64 t455)) (fun _ h_ => h_.1)) (fun _ h_ => h_.1))) hb); replace BK415 := Aside0.mk (bf_ BK415.out hb); replace BK416 := Aside0.mk (bf_ BK416.out hb); replace BK421 := Aside0.mk (bf_ BK421.out hb); replace BK434 := Aside0.mk (bp_ (o' := .cells #[.int .i64 x435000_30, .string t443, .string t447, .int .u64 t451, .int .u64 t455, .string (⟨#[]⟩ : ByteArray), .string (⟨#[]⟩ : ByteArray), .bool false] 44 (0, 0)) BK434.out hb); replace BK439 := Aside0.mk (bp_ (o' := .cells #[.string t452, .int .i64 t453, .int .i64 t454] 112 (0, 0)) BK439.out hb); replace HB := Aside0.mk (below_step (bh_ HB.out) hb); (try clear hb); obtain ⟨z83_0, z83_1, z83_2, f83_0, f83_1, f83_2⟩ := bc3_ BK439.out; obtain ⟨z84_0, z84_1, z84_2, z84_3, z84_4, z84_5, z84_6, z84_7, f84_0, f84_1, f84_2, f84_3, f84_4, f84_5, f84_6, f84_7⟩ := bc8_ BK434.out; have hnb85 := NB421_415.out; have hnc85 := NB415_421.out; have hnb86 := NB421_416.out; have hnc86 := NB416_421.out; obtain ⟨z87_0, z87_1, z87_2, f87_0, f87_1, f87_2⟩ := bc3_ BK421.out; have hnb88 := NB416_415.out; have hnc88 := NB415_416.out; obtain ⟨z89_0, z89_1, z89_2, z89_3, f89_0, f89_1, f89_2, f89_3⟩ := bc4_ BK416.out) | ((with_reducible refine gate_builtin (b := .append) (xs := #[.tmp 103, .tmp 105]) rfl ?_); at_builtin; refine Kd.R_append k44 (w0 := w) w.heap.size rfl (.tmp 103) (.tmp 105) 26 44 (.agg #[(.int .i64 0), (.string ⟨#[]⟩), (.string ⟨#[]⟩), (.int .u64 0), (.int .u64 0), (.string ⟨#[]⟩), (.string ⟨#[]⟩), (.bool false)]) 96 rfl Try.underlying26 info44 rfl (by decide) (by omega) u417003 x417003_1 (⟨x435000_30, t443, t447, t451, t455, t459, (⟨#[]⟩ : ByteArray), true⟩ : S44) [.int .i64 x435000_30, .string t443, .string t447, .int .u64 t451, .int .u64 t455, .string t459, .string (⟨#[]⟩ : ByteArray), .bool true] (fun k_ => k_ ≠ gb434) (fun _ => False) rfl (by first | (go_simp; done) | (go_simp; rfl)) ?aP (fun _ hk => hk.elim) ?aF ?aO ?aB ?aS ?aL ?_; (case aP => exact k44_mkM _ _ _ (⟨x435000_30, t443, t447, t451, t455, t459, (⟨#[]⟩ : ByteArray), true⟩ : S44)); (case aB => exact (bh_ HB.out)); (case aF => exact (fun k_ hk => Kd.freshB (g := gb434) (o := .cells #[.int .i64 x435000_30, .string t443, .string t447, .int .u64 t451, .int .u64 t455, .string t459, .string (⟨#[]⟩ : ByteArray), .bool true] 44 (0, 0)) (bz_ BK434.out) k_ hk)); (case aO => exact (by (with_reducible repeat (first | apply Kd.R_alloc | apply Kd.R_drewN | apply Kd.R_drew)); exact Kd.R_mono (Kd.R_far (p := ⟨gb434, 7, none⟩) (Kd.R_far (p := ⟨gb421, 2, none⟩) (Kd.R_far (p := ⟨gb421, 1, none⟩) (Kd.R_far (p := ⟨gb421, 0, none⟩) (Kd.R_far (p := ⟨gb434, 5, none⟩) (Kd.R_far (p := ⟨gb439, 2, none⟩) (Kd.R_far (p := ⟨gb439, 1, none⟩) (Kd.R_far (p := ⟨gb439, 0, none⟩) (Kd.R_types (Kd.R_mono (Kd.R_types HO_417003.out BK439.out (by decide)) (fun k_ hk => (⟨hk, hk.1⟩ : _ ∧ k_ ≠ gb434))) BK421.out (by decide)) (fun _ hk => hk.1.1.2) (.string t456)) (fun _ hk => hk.1.1.2) (.int .i64 t457)) (fun _ hk => hk.1.1.2) (.int .i64 t458)) (fun _ hk => hk.1.2) (.string t459)) (fun _ hk => hk.2) (.string t456)) (fun _ hk => hk.2) (.int .i64 t457)) (fun _ hk => hk.2) (.int .i64 t458)) (fun _ hk => hk.1.2) (.bool true)) (fun _ hk => hk.1.1.1))); (case aS => exact (below_size (bh_ HB.out))); (case aL => have := LMc61.out; omega); intro v461 w90 ho hb hg hat; rw [← Ny460.out] at ho; have n0_ := Aside0.mk (blk_grown (g := gb415) (o := .cells #[.int .u64 0, .string (⟨#[]⟩ : ByteArray), .int .u64 0, .slice none 0 0] 28 (0, 0)) (bz_ BK415.out) hg (Kd.R_ne HO_417003.out BK415.out (by decide))); have n1_ := Aside0.mk (blk_grown (g := gb416) (o := .cells #[.int .u64 t420, .string t425, .int .u64 t429, u417003] 28 (0, 0)) (bz_ BK416.out) hg (Kd.R_ne HO_417003.out BK416.out (by decide))); have n2_ := Aside0.mk (blk_grown (g := gb421) (o := .cells #[.string t456, .int .i64 t457, .int .i64 t458] 112 (0, 0)) (bz_ BK421.out) hg (Kd.R_ne HO_417003.out BK421.out (by decide))); have n3_ := Aside0.mk (blk_grown (g := gb434) (o := .cells #[.int .i64 x435000_30, .string t443, .string t447, .int .u64 t451, .int .u64 t455, .string t459, .string (⟨#[]⟩ : ByteArray), .bool true] 44 (0, 0)) (bz_ BK434.out) hg (Kd.R_away HO_417003.out (fun _ hk => hk))); have n4_ := Aside0.mk (blk_grown (g := gb439) (o := .cells #[.string t456, .int .i64 t457, .int .i64 t458] 112 (0, 0)) (bz_ BK439.out) hg (Kd.R_ne HO_417003.out BK439.out (by decide))); have n5_ := Aside0.mk (hb); have n6_ := Aside0.mk (ho); clear BK415; clear BK416; clear BK421; clear BK434; clear BK439; clear HB; clear HO_417003; have BK415 := n0_; have BK416 := n1_; have BK421 := n2_; have BK434 := n3_; have BK439 := n4_; have HB := n5_; have HO462 := n6_; clear n0_ n1_ n2_ n3_ n4_ n5_ n6_; clear ho hb hg hat; obtain ⟨Ao91, co91, eo91⟩ := Kd.R_slice HO462.out; subst eo91; obtain ⟨z92_0, z92_1, z92_2, z92_3, f92_0, f92_1, f92_2, f92_3⟩ := bc4_ BK416.out))
          go_roundg kj30
          case measure => have := HK1.out; have := HJ23.out; have := HJ30.out; omega
          case rel => exact ⟨(wrap64 (x8_1 + 1)), (y460), (t456), (t457), (t458), (.slice Ao91 y460.length co91), (by first | rfl | (simp; done) | (simp [*]; done)), H', ⟨by have := HK1.out; have := HJ23.out; have := HJ30.out; omega⟩, ⟨by (with_reducible repeat (first | apply Kd.R_alloc | apply Kd.R_drewN | apply Kd.R_drew)); exact Kd.R_mono (Kd.R_far (p := ⟨gb416, 3, none⟩) (Kd.R_types HO462.out BK416.out (by decide)) (fun _ hk => hk.2) (.slice Ao91 y460.length co91)) (fun _ hk => trivial)⟩, ⟨bz_ BK415.out⟩, ⟨bz_ BK416.out⟩, ⟨bz_ BK421.out⟩, ⟨bh_ HB.out⟩⟩
         ·rw [if_neg c61] at H
          exact absurd H (by simp)
        ·rw [if_neg c60] at H
         have c60b0 : (x435000_30 == 3) = false := beq_eq_false_iff_ne.mpr c60
         have c60b1 : (x435000_30 != 3) = true := bne_iff_ne.mpr c60
         by_cases c93 : x417003_1.length < 1466015503701
         ·rw [if_pos c93] at H
          have LMc93 := Aside0.mk c93
          clear c93
          obtain ⟨y463, hy463⟩ : ∃ y_ : List (S44), y_ = (x417003_1 ++ [(⟨x435000_30, t443, t447, t451, t455, t459, (⟨#[]⟩ : ByteArray), (x435000_30 == 4)⟩ : S44)]) := ⟨_, rfl⟩
          replace H : (parchmentref09_Read.l0 kj30 t433 (wrap64 (x8_1 + 1)) t420 t425 t429 y463 t456 t457 t458) = some (r1, r2, r3, r4, r5) := by first | (rw [hy463]; with_reducible exact H) | (have H2_ := (Option.bind_some _ _).symm.trans H; rw [hy463]; with_reducible exact H2_) | (have H2_ := (Option.bind_some _ _).symm.trans H; with_reducible exact H2_) | with_reducible exact H | (rw [hy463]; exact H) | exact H
          have Ny463 := Aside0.mk hy463
          clear hy463
          have H' := Aside0.mk H
          clear H
          have hnb94 := NB439_415.out
          have hnc94 := NB415_439.out
          have hnb95 := NB439_416.out
          have hnc95 := NB416_439.out
          have hnb96 := NB439_421.out
          have hnc96 := NB421_439.out
          have hnb97 := NB439_434.out
          have hnc97 := NB434_439.out
          obtain ⟨z98_0, z98_1, z98_2, f98_0, f98_1, f98_2⟩ := bc3_ BK439.out
          go_wp2_with (first | ((with_reducible refine gate_callee (f := 69) rfl ?_); refine gl_ (some 64) Try.func69 #[.agg #[.string t435, .int .i64 t436, .int .i64 t437], .int .i64 16] ?_; (with_reducible refine (parchmentref02_Cursor_Text.calls kj30 t435 t436 t437 16 t440 t441 t442 t443 _ A55.out).mono ?_); rintro e w99 ⟨rfl, hb⟩; refine ⟨_, rfl, ?_⟩; replace HO_417003 := Aside0.mk (Kd.R_below (br_ HO_417003.out) hb); replace BK415 := Aside0.mk (bk_ BK415.out hb); replace BK416 := Aside0.mk (bk_ BK416.out hb); replace BK421 := Aside0.mk (bk_ BK421.out hb); replace BK434 := Aside0.mk (bk_ BK434.out hb); replace BK439 := Aside0.mk (bk_ BK439.out hb); replace HB := Aside0.mk (below_step (bh_ HB.out) hb); (try clear hb); obtain ⟨z100_0, z100_1, z100_2, f100_0, f100_1, f100_2⟩ := bc3_ BK439.out; have hnb101 := NB434_415.out; have hnc101 := NB415_434.out; have hnb102 := NB434_416.out; have hnc102 := NB416_434.out; have hnb103 := NB434_421.out; have hnc103 := NB421_434.out; obtain ⟨z104_0, z104_1, z104_2, z104_3, z104_4, z104_5, z104_6, z104_7, f104_0, f104_1, f104_2, f104_3, f104_4, f104_5, f104_6, f104_7⟩ := bc8_ BK434.out) | ((with_reducible refine gate_callee (f := 69) rfl ?_); refine gl_ (some 70) Try.func69 #[.agg #[.string t440, .int .i64 t441, .int .i64 t442], .int .i64 16] ?_; (with_reducible refine (parchmentref02_Cursor_Text.calls kj30 t440 t441 t442 16 t444 t445 t446 t447 _ A56.out).mono ?_); rintro e w105 ⟨rfl, hb⟩; refine ⟨_, rfl, ?_⟩; replace HO_417003 := Aside0.mk (Kd.R_below (by (with_reducible repeat (first | apply Kd.R_alloc | apply Kd.R_drewN | apply Kd.R_drew)); exact (Kd.R_mono (Kd.R_mono (Kd.R_far (p := ⟨gb434, 1, none⟩) (Kd.R_far (p := ⟨gb439, 2, none⟩) (Kd.R_far (p := ⟨gb439, 1, none⟩) (Kd.R_far (p := ⟨gb439, 0, none⟩) (Kd.R_mono (Kd.R_types HO_417003.out BK439.out (by decide)) (fun k_ hk => (⟨hk, hk.1⟩ : _ ∧ k_ ≠ gb434))) (fun _ hk => hk.1.2) (.string t440)) (fun _ hk => hk.1.2) (.int .i64 t441)) (fun _ hk => hk.1.2) (.int .i64 t442)) (fun _ hk => hk.2) (.string t443)) (fun _ h_ => h_.1)) (fun _ h_ => h_.1))) hb); replace BK415 := Aside0.mk (bf_ BK415.out hb); replace BK416 := Aside0.mk (bf_ BK416.out hb); replace BK421 := Aside0.mk (bf_ BK421.out hb); replace BK434 := Aside0.mk (bp_ (o' := .cells #[.int .i64 x435000_30, .string t443, .string (⟨#[]⟩ : ByteArray), .int .u64 0, .int .u64 0, .string (⟨#[]⟩ : ByteArray), .string (⟨#[]⟩ : ByteArray), .bool false] 44 (0, 0)) BK434.out hb); replace BK439 := Aside0.mk (bp_ (o' := .cells #[.string t440, .int .i64 t441, .int .i64 t442] 112 (0, 0)) BK439.out hb); replace HB := Aside0.mk (below_step (bh_ HB.out) hb); (try clear hb); obtain ⟨z106_0, z106_1, z106_2, f106_0, f106_1, f106_2⟩ := bc3_ BK439.out; obtain ⟨z107_0, z107_1, z107_2, z107_3, z107_4, z107_5, z107_6, z107_7, f107_0, f107_1, f107_2, f107_3, f107_4, f107_5, f107_6, f107_7⟩ := bc8_ BK434.out) | ((with_reducible refine gate_callee (f := 68) rfl ?_); refine gl_ (some 76) Try.func68 #[.agg #[.string t444, .int .i64 t445, .int .i64 t446]] ?_; (with_reducible refine (parchmentref02_Cursor_Uint.calls kj30 t444 t445 t446 t448 t449 t450 t451 _ A57.out).mono ?_); rintro e w108 ⟨rfl, hb⟩; refine ⟨_, rfl, ?_⟩; replace HO_417003 := Aside0.mk (Kd.R_below (by (with_reducible repeat (first | apply Kd.R_alloc | apply Kd.R_drewN | apply Kd.R_drew)); exact (Kd.R_mono (Kd.R_mono (Kd.R_far (p := ⟨gb434, 2, none⟩) (Kd.R_far (p := ⟨gb439, 2, none⟩) (Kd.R_far (p := ⟨gb439, 1, none⟩) (Kd.R_far (p := ⟨gb439, 0, none⟩) (Kd.R_mono (Kd.R_types HO_417003.out BK439.out (by decide)) (fun k_ hk => (⟨hk, hk.1⟩ : _ ∧ k_ ≠ gb434))) (fun _ hk => hk.1.2) (.string t444)) (fun _ hk => hk.1.2) (.int .i64 t445)) (fun _ hk => hk.1.2) (.int .i64 t446)) (fun _ hk => hk.2) (.string t447)) (fun _ h_ => h_.1)) (fun _ h_ => h_.1))) hb); replace BK415 := Aside0.mk (bf_ BK415.out hb); replace BK416 := Aside0.mk (bf_ BK416.out hb); replace BK421 := Aside0.mk (bf_ BK421.out hb); replace BK434 := Aside0.mk (bp_ (o' := .cells #[.int .i64 x435000_30, .string t443, .string t447, .int .u64 0, .int .u64 0, .string (⟨#[]⟩ : ByteArray), .string (⟨#[]⟩ : ByteArray), .bool false] 44 (0, 0)) BK434.out hb); replace BK439 := Aside0.mk (bp_ (o' := .cells #[.string t444, .int .i64 t445, .int .i64 t446] 112 (0, 0)) BK439.out hb); replace HB := Aside0.mk (below_step (bh_ HB.out) hb); (try clear hb); obtain ⟨z109_0, z109_1, z109_2, f109_0, f109_1, f109_2⟩ := bc3_ BK439.out; obtain ⟨z110_0, z110_1, z110_2, z110_3, z110_4, z110_5, z110_6, z110_7, f110_0, f110_1, f110_2, f110_3, f110_4, f110_5, f110_6, f110_7⟩ := bc8_ BK434.out) | ((with_reducible refine gate_callee (f := 68) rfl ?_); refine gl_ (some 82) Try.func68 #[.agg #[.string t448, .int .i64 t449, .int .i64 t450]] ?_; (with_reducible refine (parchmentref02_Cursor_Uint.calls kj30 t448 t449 t450 t452 t453 t454 t455 _ A58.out).mono ?_); rintro e w111 ⟨rfl, hb⟩; refine ⟨_, rfl, ?_⟩; replace HO_417003 := Aside0.mk (Kd.R_below (by (with_reducible repeat (first | apply Kd.R_alloc | apply Kd.R_drewN | apply Kd.R_drew)); exact (Kd.R_mono (Kd.R_mono (Kd.R_far (p := ⟨gb434, 3, none⟩) (Kd.R_far (p := ⟨gb439, 2, none⟩) (Kd.R_far (p := ⟨gb439, 1, none⟩) (Kd.R_far (p := ⟨gb439, 0, none⟩) (Kd.R_mono (Kd.R_types HO_417003.out BK439.out (by decide)) (fun k_ hk => (⟨hk, hk.1⟩ : _ ∧ k_ ≠ gb434))) (fun _ hk => hk.1.2) (.string t448)) (fun _ hk => hk.1.2) (.int .i64 t449)) (fun _ hk => hk.1.2) (.int .i64 t450)) (fun _ hk => hk.2) (.int .u64 t451)) (fun _ h_ => h_.1)) (fun _ h_ => h_.1))) hb); replace BK415 := Aside0.mk (bf_ BK415.out hb); replace BK416 := Aside0.mk (bf_ BK416.out hb); replace BK421 := Aside0.mk (bf_ BK421.out hb); replace BK434 := Aside0.mk (bp_ (o' := .cells #[.int .i64 x435000_30, .string t443, .string t447, .int .u64 t451, .int .u64 0, .string (⟨#[]⟩ : ByteArray), .string (⟨#[]⟩ : ByteArray), .bool false] 44 (0, 0)) BK434.out hb); replace BK439 := Aside0.mk (bp_ (o' := .cells #[.string t448, .int .i64 t449, .int .i64 t450] 112 (0, 0)) BK439.out hb); replace HB := Aside0.mk (below_step (bh_ HB.out) hb); (try clear hb); obtain ⟨z112_0, z112_1, z112_2, f112_0, f112_1, f112_2⟩ := bc3_ BK439.out; obtain ⟨z113_0, z113_1, z113_2, z113_3, z113_4, z113_5, z113_6, z113_7, f113_0, f113_1, f113_2, f113_3, f113_4, f113_5, f113_6, f113_7⟩ := bc8_ BK434.out) | ((with_reducible refine gate_callee (f := 69) rfl ?_); refine gl_ (some 88) Try.func69 #[.agg #[.string t452, .int .i64 t453, .int .i64 t454], .int .i64 32] ?_; (with_reducible refine (parchmentref02_Cursor_Text.calls kj30 t452 t453 t454 32 t456 t457 t458 t459 _ A59.out).mono ?_); rintro e w114 ⟨rfl, hb⟩; refine ⟨_, rfl, ?_⟩; replace HO_417003 := Aside0.mk (Kd.R_below (by (with_reducible repeat (first | apply Kd.R_alloc | apply Kd.R_drewN | apply Kd.R_drew)); exact (Kd.R_mono (Kd.R_mono (Kd.R_far (p := ⟨gb434, 4, none⟩) (Kd.R_far (p := ⟨gb439, 2, none⟩) (Kd.R_far (p := ⟨gb439, 1, none⟩) (Kd.R_far (p := ⟨gb439, 0, none⟩) (Kd.R_mono (Kd.R_types HO_417003.out BK439.out (by decide)) (fun k_ hk => (⟨hk, hk.1⟩ : _ ∧ k_ ≠ gb434))) (fun _ hk => hk.1.2) (.string t452)) (fun _ hk => hk.1.2) (.int .i64 t453)) (fun _ hk => hk.1.2) (.int .i64 t454)) (fun _ hk => hk.2) (.int .u64 t455)) (fun _ h_ => h_.1)) (fun _ h_ => h_.1))) hb); replace BK415 := Aside0.mk (bf_ BK415.out hb); replace BK416 := Aside0.mk (bf_ BK416.out hb); replace BK421 := Aside0.mk (bf_ BK421.out hb); replace BK434 := Aside0.mk (bp_ (o' := .cells #[.int .i64 x435000_30, .string t443, .string t447, .int .u64 t451, .int .u64 t455, .string (⟨#[]⟩ : ByteArray), .string (⟨#[]⟩ : ByteArray), .bool false] 44 (0, 0)) BK434.out hb); replace BK439 := Aside0.mk (bp_ (o' := .cells #[.string t452, .int .i64 t453, .int .i64 t454] 112 (0, 0)) BK439.out hb); replace HB := Aside0.mk (below_step (bh_ HB.out) hb); (try clear hb); obtain ⟨z115_0, z115_1, z115_2, f115_0, f115_1, f115_2⟩ := bc3_ BK439.out; obtain ⟨z116_0, z116_1, z116_2, z116_3, z116_4, z116_5, z116_6, z116_7, f116_0, f116_1, f116_2, f116_3, f116_4, f116_5, f116_6, f116_7⟩ := bc8_ BK434.out; have hnb117 := NB421_415.out; have hnc117 := NB415_421.out; have hnb118 := NB421_416.out; have hnc118 := NB416_421.out; obtain ⟨z119_0, z119_1, z119_2, f119_0, f119_1, f119_2⟩ := bc3_ BK421.out; have hnb120 := NB416_415.out; have hnc120 := NB415_416.out; obtain ⟨z121_0, z121_1, z121_2, z121_3, f121_0, f121_1, f121_2, f121_3⟩ := bc4_ BK416.out) | ((with_reducible refine gate_builtin (b := .append) (xs := #[.tmp 103, .tmp 105]) rfl ?_); at_builtin; refine Kd.R_append k44 (w0 := w) w.heap.size rfl (.tmp 103) (.tmp 105) 26 44 (.agg #[(.int .i64 0), (.string ⟨#[]⟩), (.string ⟨#[]⟩), (.int .u64 0), (.int .u64 0), (.string ⟨#[]⟩), (.string ⟨#[]⟩), (.bool false)]) 96 rfl Try.underlying26 info44 rfl (by decide) (by omega) u417003 x417003_1 (⟨x435000_30, t443, t447, t451, t455, t459, (⟨#[]⟩ : ByteArray), (x435000_30 == 4)⟩ : S44) [.int .i64 x435000_30, .string t443, .string t447, .int .u64 t451, .int .u64 t455, .string t459, .string (⟨#[]⟩ : ByteArray), .bool (x435000_30 == 4)] (fun k_ => k_ ≠ gb434) (fun _ => False) rfl (by first | (go_simp; done) | (go_simp; rfl)) ?aP (fun _ hk => hk.elim) ?aF ?aO ?aB ?aS ?aL ?_; (case aP => exact k44_mkM _ _ _ (⟨x435000_30, t443, t447, t451, t455, t459, (⟨#[]⟩ : ByteArray), (x435000_30 == 4)⟩ : S44)); (case aB => exact (bh_ HB.out)); (case aF => exact (fun k_ hk => Kd.freshB (g := gb434) (o := .cells #[.int .i64 x435000_30, .string t443, .string t447, .int .u64 t451, .int .u64 t455, .string t459, .string (⟨#[]⟩ : ByteArray), .bool (x435000_30 == 4)] 44 (0, 0)) (bz_ BK434.out) k_ hk)); (case aO => exact (by (with_reducible repeat (first | apply Kd.R_alloc | apply Kd.R_drewN | apply Kd.R_drew)); exact Kd.R_mono (Kd.R_far (p := ⟨gb434, 7, none⟩) (Kd.R_far (p := ⟨gb421, 2, none⟩) (Kd.R_far (p := ⟨gb421, 1, none⟩) (Kd.R_far (p := ⟨gb421, 0, none⟩) (Kd.R_far (p := ⟨gb434, 5, none⟩) (Kd.R_far (p := ⟨gb439, 2, none⟩) (Kd.R_far (p := ⟨gb439, 1, none⟩) (Kd.R_far (p := ⟨gb439, 0, none⟩) (Kd.R_types (Kd.R_mono (Kd.R_types HO_417003.out BK439.out (by decide)) (fun k_ hk => (⟨hk, hk.1⟩ : _ ∧ k_ ≠ gb434))) BK421.out (by decide)) (fun _ hk => hk.1.1.2) (.string t456)) (fun _ hk => hk.1.1.2) (.int .i64 t457)) (fun _ hk => hk.1.1.2) (.int .i64 t458)) (fun _ hk => hk.1.2) (.string t459)) (fun _ hk => hk.2) (.string t456)) (fun _ hk => hk.2) (.int .i64 t457)) (fun _ hk => hk.2) (.int .i64 t458)) (fun _ hk => hk.1.2) (.bool (x435000_30 == 4))) (fun _ hk => hk.1.1.1))); (case aS => exact (below_size (bh_ HB.out))); (case aL => have := LMc93.out; omega); intro v464 w122 ho hb hg hat; rw [← Ny463.out] at ho; have n0_ := Aside0.mk (blk_grown (g := gb415) (o := .cells #[.int .u64 0, .string (⟨#[]⟩ : ByteArray), .int .u64 0, .slice none 0 0] 28 (0, 0)) (bz_ BK415.out) hg (Kd.R_ne HO_417003.out BK415.out (by decide))); have n1_ := Aside0.mk (blk_grown (g := gb416) (o := .cells #[.int .u64 t420, .string t425, .int .u64 t429, u417003] 28 (0, 0)) (bz_ BK416.out) hg (Kd.R_ne HO_417003.out BK416.out (by decide))); have n2_ := Aside0.mk (blk_grown (g := gb421) (o := .cells #[.string t456, .int .i64 t457, .int .i64 t458] 112 (0, 0)) (bz_ BK421.out) hg (Kd.R_ne HO_417003.out BK421.out (by decide))); have n3_ := Aside0.mk (blk_grown (g := gb434) (o := .cells #[.int .i64 x435000_30, .string t443, .string t447, .int .u64 t451, .int .u64 t455, .string t459, .string (⟨#[]⟩ : ByteArray), .bool (x435000_30 == 4)] 44 (0, 0)) (bz_ BK434.out) hg (Kd.R_away HO_417003.out (fun _ hk => hk))); have n4_ := Aside0.mk (blk_grown (g := gb439) (o := .cells #[.string t456, .int .i64 t457, .int .i64 t458] 112 (0, 0)) (bz_ BK439.out) hg (Kd.R_ne HO_417003.out BK439.out (by decide))); have n5_ := Aside0.mk (hb); have n6_ := Aside0.mk (ho); clear BK415; clear BK416; clear BK421; clear BK434; clear BK439; clear HB; clear HO_417003; have BK415 := n0_; have BK416 := n1_; have BK421 := n2_; have BK434 := n3_; have BK439 := n4_; have HB := n5_; have HO465 := n6_; clear n0_ n1_ n2_ n3_ n4_ n5_ n6_; clear ho hb hg hat; obtain ⟨Ao123, co123, eo123⟩ := Kd.R_slice HO465.out; subst eo123; obtain ⟨z124_0, z124_1, z124_2, z124_3, f124_0, f124_1, f124_2, f124_3⟩ := bc4_ BK416.out))
          go_roundg kj30
          case measure => have := HK1.out; have := HJ23.out; have := HJ30.out; omega
          case rel => exact ⟨(wrap64 (x8_1 + 1)), (y463), (t456), (t457), (t458), (.slice Ao123 y463.length co123), (by first | rfl | (simp; done) | (simp [*]; done)), H', ⟨by have := HK1.out; have := HJ23.out; have := HJ30.out; omega⟩, ⟨by (with_reducible repeat (first | apply Kd.R_alloc | apply Kd.R_drewN | apply Kd.R_drew)); exact Kd.R_mono (Kd.R_far (p := ⟨gb416, 3, none⟩) (Kd.R_types HO465.out BK416.out (by decide)) (fun _ hk => hk.2) (.slice Ao123 y463.length co123)) (fun _ hk => trivial)⟩, ⟨bz_ BK415.out⟩, ⟨bz_ BK416.out⟩, ⟨bz_ BK421.out⟩, ⟨bh_ HB.out⟩⟩
         ·rw [if_neg c93] at H
          exact absurd H (by simp)
     ·replace c29 := Bool.eq_false_iff.mpr c29
      subst c29
      have H1 : ((parchmentref02_Cursor_End.f x422000_1 x422001_1 x422002_1).bind fun bt466 => (parchmentref09_Read.l1 kj23 0 t420 t425 t429 x417003_1 bt466.1 bt466.2.1 bt466.2.2)) = some (r1, r2, r3, r4, r5) := by rw [if_neg (show ¬ (false = true) by decide)] at H; exact H
      clear H
      have H := H1
      clear H1
      replace H := Option.bind_eq_some_iff.mp H
      obtain ⟨⟨t466, t467, t468⟩, A1250, H⟩ := H
      replace H : (parchmentref09_Read.l1 kj23 0 t420 t425 t429 x417003_1 t466 t467 t468) = some (r1, r2, r3, r4, r5) := H
      have A125 := Aside0.mk A1250
      clear A1250
      have H' := Aside0.mk H
      clear H
      have hnb126 := NB421_415.out
      have hnc126 := NB415_421.out
      have hnb127 := NB421_416.out
      have hnc127 := NB416_421.out
      obtain ⟨z128_0, z128_1, z128_2, f128_0, f128_1, f128_2⟩ := bc3_ BK421.out
      go_wp2_with (first | ((with_reducible refine gate_callee (f := 72) rfl ?_); refine gl_ (some 109) Try.func72 #[.agg #[.string x422000_1, .int .i64 x422001_1, .int .i64 x422002_1]] ?_; (with_reducible refine (parchmentref02_Cursor_End.calls x422000_1 x422001_1 x422002_1 t466 t467 t468 _ A125.out).mono ?_); rintro e w129 ⟨rfl, hb⟩; refine ⟨_, rfl, ?_⟩; replace HO_417003 := Aside0.mk (Kd.R_below (br_ HO_417003.out) hb); replace BK415 := Aside0.mk (bk_ BK415.out hb); replace BK416 := Aside0.mk (bk_ BK416.out hb); replace BK421 := Aside0.mk (bk_ BK421.out hb); replace HB := Aside0.mk (below_step (bh_ HB.out) hb); (try clear hb); obtain ⟨z130_0, z130_1, z130_2, f130_0, f130_1, f130_2⟩ := bc3_ BK421.out))
      go_loopg [12] kj23 (fun kq v12 w' => ∃ (x12_3 : Int) (x422002_3 : Int), v12 = .int .i64 x12_3 ∧ Aside0 (parchmentref09_Read.l1 kq x12_3 t420 t425 t429 x417003_1 t466 t467 x422002_3 = some (r1, r2, r3, r4, r5)) ∧ Aside0 (kq ≤ kj23) ∧ Aside0 (Kd.R k44 44 w' w.heap.size (fun _ => True) u417003 x417003_1) ∧ Aside0 (w'.heap[gb415]? = some (.cells #[.int .u64 0, .string (⟨#[]⟩ : ByteArray), .int .u64 0, (.slice none 0 0)] 28 (0, 0))) ∧ Aside0 (w'.heap[gb416]? = some (.cells #[.int .u64 t420, .string t425, .int .u64 t429, u417003] 28 (0, 0))) ∧ Aside0 (w'.heap[gb421]? = some (.cells #[.string t466, .int .i64 t467, .int .i64 x422002_3] 112 (0, 0))) ∧ Aside0 (Below w.heap.size w w'))
      case atStart => exact ⟨(0), (t468), (by first | rfl | (simp; done) | (simp [*]; done)), H', ⟨Nat.le_refl _⟩, ⟨by (with_reducible repeat (first | apply Kd.R_alloc | apply Kd.R_drewN | apply Kd.R_drew)); exact Kd.R_mono (Kd.R_far (p := ⟨gb421, 2, none⟩) (Kd.R_far (p := ⟨gb421, 1, none⟩) (Kd.R_far (p := ⟨gb421, 0, none⟩) (Kd.R_types HO_417003.out BK421.out (by decide)) (fun _ hk => hk.2) (.string t466)) (fun _ hk => hk.2) (.int .i64 t467)) (fun _ hk => hk.2) (.int .i64 t468)) (fun _ hk => trivial)⟩, ⟨bz_ BK415.out⟩, ⟨bz_ BK416.out⟩, ⟨bz_ BK421.out⟩, ⟨bh_ HB.out⟩⟩
      case round =>
       clear H'
       try clear c1
       try clear c2
       try clear p2
       try clear c3
       try clear c4
       try clear p4
       try clear q4
       try clear hx4
       try clear qi4
       try clear c5
       try clear c6
       try clear p6
       try clear c7
       try clear c8
       try clear c9
       try clear c10
       try clear c11
       try clear c12
       try clear c13
       try clear c25
       try clear c25b0
       try clear c26
       try clear c27
       try clear c29
       try clear c33
       try clear c34
       try clear c35
       try clear c37
       try clear c38
       try clear c42
       try clear c43
       try clear c44
       try clear c45
       try clear c47
       try clear c47b0
       try clear c47b1
       try clear c48
       try clear c48b0
       try clear c48b1
       try clear p49
       try clear q49
       try clear hx49
       try clear qi49
       try clear c50
       try clear c51
       try clear c52
       try clear c53
       try clear c60
       try clear c60b0
       try clear c60b1
       try clear c61
       try clear c62
       try clear c63
       try clear c64
       try clear p64
       try clear c65
       try clear c68
       try clear c69
       try clear c70
       try clear c71
       try clear c72
       try clear c85
       try clear c86
       try clear c88
       try clear c93
       try clear c94
       try clear c95
       try clear c96
       try clear c97
       try clear c101
       try clear c102
       try clear c103
       try clear c117
       try clear c118
       try clear c120
       try clear c126
       try clear c127
       try clear z100_0 z100_1 z100_2
       try clear z104_0 z104_1 z104_2 z104_3 z104_4 z104_5 z104_6 z104_7
       try clear z106_0 z106_1 z106_2
       try clear z107_0 z107_1 z107_2 z107_3 z107_4 z107_5 z107_6 z107_7
       try clear z109_0 z109_1 z109_2
       try clear z110_0 z110_1 z110_2 z110_3 z110_4 z110_5 z110_6 z110_7
       try clear z112_0 z112_1 z112_2
       try clear z113_0 z113_1 z113_2 z113_3 z113_4 z113_5 z113_6 z113_7
       try clear z115_0 z115_1 z115_2
       try clear z116_0 z116_1 z116_2 z116_3 z116_4 z116_5 z116_6 z116_7
       try clear z119_0 z119_1 z119_2
       try clear z121_0 z121_1 z121_2 z121_3
       try clear z124_0 z124_1 z124_2 z124_3
       try clear z128_0 z128_1 z128_2
       try clear z130_0 z130_1 z130_2
       try clear z14_0 z14_1 z14_2
       try clear z15_0 z15_1 z15_2 z15_3
       try clear z17_0 z17_1 z17_2
       try clear z18_0 z18_1 z18_2 z18_3
       try clear z20_0 z20_1 z20_2
       try clear z21_0 z21_1 z21_2 z21_3
       try clear z23_0 z23_1 z23_2
       try clear z28_0 z28_1 z28_2
       try clear z36_0 z36_1 z36_2 z36_3 z36_4 z36_5 z36_6 z36_7
       try clear z39_0 z39_1 z39_2
       try clear z46_0 z46_1 z46_2
       try clear z54_0 z54_1 z54_2 z54_3 z54_4 z54_5 z54_6 z54_7
       try clear z66_0 z66_1 z66_2
       try clear z68_0 z68_1 z68_2
       try clear z72_0 z72_1 z72_2 z72_3 z72_4 z72_5 z72_6 z72_7
       try clear z74_0 z74_1 z74_2
       try clear z75_0 z75_1 z75_2 z75_3 z75_4 z75_5 z75_6 z75_7
       try clear z77_0 z77_1 z77_2
       try clear z78_0 z78_1 z78_2 z78_3 z78_4 z78_5 z78_6 z78_7
       try clear z80_0 z80_1 z80_2
       try clear z81_0 z81_1 z81_2 z81_3 z81_4 z81_5 z81_6 z81_7
       try clear z83_0 z83_1 z83_2
       try clear z84_0 z84_1 z84_2 z84_3 z84_4 z84_5 z84_6 z84_7
       try clear z87_0 z87_1 z87_2
       try clear z89_0 z89_1 z89_2 z89_3
       try clear z92_0 z92_1 z92_2 z92_3
       try clear z98_0 z98_1 z98_2
       try clear z9_0 z9_1 z9_2 z9_3
       try clear f100_0 f100_1 f100_2
       try clear f104_0 f104_1 f104_2 f104_3 f104_4 f104_5 f104_6 f104_7
       try clear f106_0 f106_1 f106_2
       try clear f107_0 f107_1 f107_2 f107_3 f107_4 f107_5 f107_6 f107_7
       try clear f109_0 f109_1 f109_2
       try clear f110_0 f110_1 f110_2 f110_3 f110_4 f110_5 f110_6 f110_7
       try clear f112_0 f112_1 f112_2
       try clear f113_0 f113_1 f113_2 f113_3 f113_4 f113_5 f113_6 f113_7
       try clear f115_0 f115_1 f115_2
       try clear f116_0 f116_1 f116_2 f116_3 f116_4 f116_5 f116_6 f116_7
       try clear f119_0 f119_1 f119_2
       try clear f121_0 f121_1 f121_2 f121_3
       try clear f124_0 f124_1 f124_2 f124_3
       try clear f128_0 f128_1 f128_2
       try clear f130_0 f130_1 f130_2
       try clear f14_0 f14_1 f14_2
       try clear f15_0 f15_1 f15_2 f15_3
       try clear f17_0 f17_1 f17_2
       try clear f18_0 f18_1 f18_2 f18_3
       try clear f20_0 f20_1 f20_2
       try clear f21_0 f21_1 f21_2 f21_3
       try clear f23_0 f23_1 f23_2
       try clear f28_0 f28_1 f28_2
       try clear f36_0 f36_1 f36_2 f36_3 f36_4 f36_5 f36_6 f36_7
       try clear f39_0 f39_1 f39_2
       try clear f46_0 f46_1 f46_2
       try clear f54_0 f54_1 f54_2 f54_3 f54_4 f54_5 f54_6 f54_7
       try clear f66_0 f66_1 f66_2
       try clear f68_0 f68_1 f68_2
       try clear f72_0 f72_1 f72_2 f72_3 f72_4 f72_5 f72_6 f72_7
       try clear f74_0 f74_1 f74_2
       try clear f75_0 f75_1 f75_2 f75_3 f75_4 f75_5 f75_6 f75_7
       try clear f77_0 f77_1 f77_2
       try clear f78_0 f78_1 f78_2 f78_3 f78_4 f78_5 f78_6 f78_7
       try clear f80_0 f80_1 f80_2
       try clear f81_0 f81_1 f81_2 f81_3 f81_4 f81_5 f81_6 f81_7
       try clear f83_0 f83_1 f83_2
       try clear f84_0 f84_1 f84_2 f84_3 f84_4 f84_5 f84_6 f84_7
       try clear f87_0 f87_1 f87_2
       try clear f89_0 f89_1 f89_2 f89_3
       try clear f92_0 f92_1 f92_2 f92_3
       try clear f98_0 f98_1 f98_2
       try clear f9_0 f9_1 f9_2 f9_3
       try clear p2
       try clear p4
       try clear p49
       try clear p6
       try clear q4
       try clear q49
       obtain ⟨x12_3, x422002_3, rfl, HA, HK3, HO_417003, BK415, BK416, BK421, HB⟩ := hrel
       cases gk with
       | zero => exact absurd HA.out (by simp [parchmentref09_Read.l1])
       | succ k3 =>
        have H := HA.out
        clear HA
        simp only [parchmentref09_Read.l1] at H
        by_cases c131 : x12_3 < (x417003_1.length : Int)
        ·rw [if_pos c131] at H
         have c131b0 : decide (x12_3 < (x417003_1.length : Int)) = true := decide_eq_true c131
         clear c131
         by_cases c132 : x422002_3 = 0
         ·rw [if_pos c132] at H
          have c132b0 : (x422002_3 == 0) = true := beq_iff_eq.mpr c132
          have c132b1 : (x422002_3 != 0) = false := bne_eq_false_iff_eq.mpr c132
          clear c132
          by_cases c133 : 0 ≤ x12_3
          ·rw [if_pos c133] at H
           have c133b0 : decide (0 ≤ x12_3) = true := decide_eq_true c133
           clear c133
           replace H := Option.bind_eq_some_iff.mp H
           obtain ⟨t470, A1340, H⟩ := H
           replace H : (parchmentref09_Read.l1 k3 (wrap64 (x12_3 + 1)) t420 t425 t429 x417003_1 t466 t467 t470) = some (r1, r2, r3, r4, r5) := H
           have A134 := Aside0.mk A1340
           clear A1340
           have H' := Aside0.mk H
           clear H
           have hnb135 := NB416_415.out
           have hnc135 := NB415_416.out
           have hnb136 := NB416_421.out
           have hnc136 := NB421_416.out
           obtain ⟨z137_0, z137_1, z137_2, z137_3, f137_0, f137_1, f137_2, f137_3⟩ := bc4_ BK416.out
           obtain ⟨Ao138, co138, eo138⟩ := Kd.R_slice HO_417003.out
           subst eo138
           have hnb139 := NB421_415.out
           have hnc139 := NB415_421.out
           obtain ⟨z140_0, z140_1, z140_2, f140_0, f140_1, f140_2⟩ := bc3_ BK421.out
           have p469 : 0 ≤ (x12_3 : Int) := of_decide_eq_true (by first | (with_reducible assumption) | assumption)
           have q469 : x12_3 < (x417003_1.length : Int) := of_decide_eq_true (by first | (with_reducible assumption) | assumption)
           obtain ⟨ad469, e469, hx469_0, hx469_1, hx469_2, hx469_3, hx469_4, hx469_5, hx469_6, hx469_7⟩ := at_T44 (Kd.R_reads' HO_417003.out).2.2 x12_3 p469 q469
           cases e469
           replace p469 := eq_true p469
           replace q469 := eq_true q469
           go_wp2_with (first | ((with_reducible refine gate_callee (f := 39) rfl ?_); refine gl_ (some 127) Try.func39 #[.agg #[.int .i64 ((rd_T44 x417003_1 x12_3).f0), .string ((rd_T44 x417003_1 x12_3).f1), .string ((rd_T44 x417003_1 x12_3).f2), .int .u64 ((rd_T44 x417003_1 x12_3).f3), .int .u64 ((rd_T44 x417003_1 x12_3).f4), .string ((rd_T44 x417003_1 x12_3).f5), .string ((rd_T44 x417003_1 x12_3).f6), .bool ((rd_T44 x417003_1 x12_3).f7)]] ?_; (with_reducible refine (parchmentref09_Check.calls k3 ((rd_T44 x417003_1 x12_3).f0) ((rd_T44 x417003_1 x12_3).f1) ((rd_T44 x417003_1 x12_3).f2) ((rd_T44 x417003_1 x12_3).f3) ((rd_T44 x417003_1 x12_3).f4) ((rd_T44 x417003_1 x12_3).f5) ((rd_T44 x417003_1 x12_3).f6) ((rd_T44 x417003_1 x12_3).f7) t470 _ A134.out).mono ?_); rintro e w141 ⟨rfl, hb⟩; refine ⟨_, rfl, ?_⟩; replace HO_417003 := Aside0.mk (Kd.R_below (br_ HO_417003.out) hb); replace BK415 := Aside0.mk (bk_ BK415.out hb); replace BK416 := Aside0.mk (bk_ BK416.out hb); replace BK421 := Aside0.mk (bk_ BK421.out hb); replace HB := Aside0.mk (below_step (bh_ HB.out) hb); (try clear hb); obtain ⟨z142_0, z142_1, z142_2, f142_0, f142_1, f142_2⟩ := bc3_ BK421.out))
           go_roundg k3
           case measure => have := HK1.out; have := HJ23.out; have := HK3.out; omega
           case rel => exact ⟨(wrap64 (x12_3 + 1)), (t470), (by first | rfl | (simp; done) | (simp [*]; done)), H', ⟨by have := HK1.out; have := HJ23.out; have := HK3.out; omega⟩, ⟨by (with_reducible repeat (first | apply Kd.R_alloc | apply Kd.R_drewN | apply Kd.R_drew)); exact Kd.R_mono (Kd.R_far (p := ⟨gb421, 2, none⟩) (Kd.R_types HO_417003.out BK421.out (by decide)) (fun _ hk => hk.2) (.int .i64 t470)) (fun _ hk => trivial)⟩, ⟨bz_ BK415.out⟩, ⟨bz_ BK416.out⟩, ⟨bz_ BK421.out⟩, ⟨bh_ HB.out⟩⟩
          ·rw [if_neg c133] at H
           exact absurd H (by simp)
         ·rw [if_neg c132] at H
          have c132b0 : (x422002_3 == 0) = false := beq_eq_false_iff_ne.mpr c132
          have c132b1 : (x422002_3 != 0) = true := bne_iff_ne.mpr c132
          simp only [Option.some.injEq, Prod.mk.injEq] at H
          obtain ⟨rfl, rfl, rfl, rfl, rfl⟩ := H
          have hnb143 := NB416_415.out
          have hnc143 := NB415_416.out
          have hnb144 := NB416_421.out
          have hnc144 := NB421_416.out
          obtain ⟨z145_0, z145_1, z145_2, z145_3, f145_0, f145_1, f145_2, f145_3⟩ := bc4_ BK416.out
          obtain ⟨Ao146, co146, eo146⟩ := Kd.R_slice HO_417003.out
          subst eo146
          have hnb147 := NB421_415.out
          have hnc147 := NB415_421.out
          obtain ⟨z148_0, z148_1, z148_2, f148_0, f148_1, f148_2⟩ := bc3_ BK421.out
          try go_wp2
          replace HO_417003 := Aside0.mk (Kd.R_drew HO_417003.out)
          replace BK415 := Aside0.mk (blk_drew BK415.out)
          replace BK416 := Aside0.mk (blk_drew BK416.out)
          replace BK421 := Aside0.mk (blk_drew BK421.out)
          replace HB := Aside0.mk (below_drew1 HB.out)
          refine start_ (n := 5) (S := fun w' => w'.cell? ⟨gb421, 0, none⟩ = some (.string t466) ∧ w'.cell? ⟨gb421, 1, none⟩ = some (.int .i64 t467) ∧ w'.cell? ⟨gb421, 2, none⟩ = some (.int .i64 x422002_3)) (ds := []) #[N_, N_, N_, N_, N_] (by kernel_rfl) rfl rfl ⟨(blk_cell BK421.out 0).trans rfl, (blk_cell BK421.out 1).trans rfl, (blk_cell BK421.out 2).trans rfl⟩ (fun hHeld => ?_)
          generalize wr.drew = w149 at HO_417003 BK415 BK416 BK421 HB hHeld ⊢
          refine pure_ (i := 0) (N := some 132) (v := ?_) (a' := ?_) #[Y_, N_, N_, N_, N_] rfl rfl (by kernel_rfl) (fun _ _ _ h => h) (Or.inl ⟨by rfl, ?_⟩) ?_ ?_
          rotate_left; (intro w'; go_simp; with_reducible rfl); rotate_left; (simp only [Act.put, q1_, q2_, q3_, i64_w, i32_w]; rfl)
          refine pure_ (i := 1) (N := some 133) (v := ?_) (a' := ?_) #[Y_, Y_, N_, N_, N_] rfl rfl (by kernel_rfl) (fun _ _ _ h => h) (Or.inl ⟨by rfl, ?_⟩) ?_ ?_
          rotate_left; (intro w'; go_simp; with_reducible rfl); rotate_left; (simp only [Act.put, q1_, q2_, q3_, i64_w, i32_w]; rfl)
          refine take_ (i := 2) (N := some 134) (v := ?_) (a' := ?_) #[Y_, Y_, Y_, N_, N_] rfl rfl (by kernel_rfl) (fun _ _ _ h => h) (Or.inl ⟨by rfl, ?_⟩) hHeld ?_ ?_
          rotate_left; (rintro w' ⟨s0, s1, s2⟩; go_simp; with_reducible rfl); rotate_left; (simp only [Act.put, q1_, q2_, q3_, i64_w, i32_w]; rfl)
          refine one_ (i := 3) (N := none) #[Y_, Y_, Y_, Y_, N_] rfl rfl (by kernel_rfl) (by decide) (fun K hK => ?_)
          have hs150 : w149.cell? ⟨gb415, 0, none⟩ = some (.int .u64 0) := (blk_cell BK415.out 0).trans rfl
          have hfs150 := blk_frozen BK415.out 0
          have hns150_1 := NB416_415.out
          have hns150_2 := NB421_415.out
          have hms150_1 := NB415_416.out
          have hms150_2 := NB415_421.out
          have hs151 : w149.cell? ⟨gb415, 1, none⟩ = some (.string (⟨#[]⟩ : ByteArray)) := (blk_cell BK415.out 1).trans rfl
          have hfs151 := blk_frozen BK415.out 1
          have hns151_1 := NB416_415.out
          have hns151_2 := NB421_415.out
          have hms151_1 := NB415_416.out
          have hms151_2 := NB415_421.out
          have hs152 : w149.cell? ⟨gb415, 2, none⟩ = some (.int .u64 0) := (blk_cell BK415.out 2).trans rfl
          have hfs152 := blk_frozen BK415.out 2
          have hns152_1 := NB416_415.out
          have hns152_2 := NB421_415.out
          have hms152_1 := NB415_416.out
          have hms152_2 := NB415_421.out
          have hs153 : w149.cell? ⟨gb415, 3, none⟩ = some (.slice none 0 0) := (blk_cell BK415.out 3).trans rfl
          have hfs153 := blk_frozen BK415.out 3
          have hns153_1 := NB416_415.out
          have hns153_2 := NB421_415.out
          have hms153_1 := NB415_416.out
          have hms153_2 := NB415_421.out
          refine skip_ (w1 := ?_) (by rfl) rfl ?_ ?_
          rotate_left
          ·go_simp
           rfl
          refine hK.out _ _ ⟨((cell_far (p := ⟨gb415, _, none⟩) NB421_415.out _).trans (((cell_far (p := ⟨gb415, _, none⟩) NB421_415.out _).trans (((cell_far (p := ⟨gb415, _, none⟩) NB421_415.out _).trans (((cell_far (p := ⟨gb415, _, none⟩) NB421_415.out _).trans (hHeld.1)))))))), ((cell_far (p := ⟨gb415, _, none⟩) NB421_415.out _).trans (((cell_far (p := ⟨gb415, _, none⟩) NB421_415.out _).trans (((cell_far (p := ⟨gb415, _, none⟩) NB421_415.out _).trans (((cell_far (p := ⟨gb415, _, none⟩) NB421_415.out _).trans (hHeld.2.1)))))))), ((cell_far (p := ⟨gb415, _, none⟩) NB421_415.out _).trans (((cell_far (p := ⟨gb415, _, none⟩) NB421_415.out _).trans (((cell_far (p := ⟨gb415, _, none⟩) NB421_415.out _).trans (((cell_far (p := ⟨gb415, _, none⟩) NB421_415.out _).trans (hHeld.2.2))))))))⟩ (fun hHeld => ?_)
          clear hK K
          refine pure_ (i := 4) (N := some 3) (v := ?_) (a' := ?_) #[Y_, Y_, Y_, Y_, Y_] rfl rfl (by kernel_rfl) (fun _ _ _ h => h) (Or.inl ⟨by rfl, ?_⟩) ?_ ?_
          rotate_left; (intro w'; go_simp; with_reducible rfl); rotate_left; (simp only [Act.put, q1_, q2_, q3_, i64_w, i32_w]; rfl)
          refine done_ (by kernel_rfl) ?_
          try go_wp2
          refine bodyPost_ret (results_ct rfl _ _ gb415 28 #[.int .u64 0, .string (⟨#[]⟩ : ByteArray), .int .u64 0, .slice none 0 0] (0, 0) _ rfl (bz_ BK415.out) Try.underlying28 rfl (by kernel_rfl)) rfl ?_
          exact ⟨_, by first | rfl | (simp [errW_none, errW_some] <;> rfl) | (simp [*, errW_none, errW_some] <;> rfl), by first | exact Kd.R_nil _ _ _ _ _ | exact Kd.N_nil _ _ _ _ _ | exact Kd.V_nil _ _ _ _ _ | exact Kd.Q_nil _ _ _ _ _ | exact Kd.S_nil _ _ _ _ _, by repeat (first | (with_reducible first | exact HB.out | apply below_alloc | apply pw_below_drewN | apply below_drew1 | refine below_set ?_ GE415.out | refine below_set ?_ GE416.out | refine below_set ?_ GE421.out) | exact HB.out)⟩
        ·rw [if_neg c131] at H
         have c131b0 : decide (x12_3 < (x417003_1.length : Int)) = false := decide_eq_false c131
         clear c131
         by_cases c154 : x422002_3 = 0
         ·rw [if_pos c154] at H
          have c154b0 : (x422002_3 == 0) = true := beq_iff_eq.mpr c154
          have c154b1 : (x422002_3 != 0) = false := bne_eq_false_iff_eq.mpr c154
          clear c154
          simp only [Option.some.injEq, Prod.mk.injEq] at H
          obtain ⟨rfl, rfl, rfl, rfl, rfl⟩ := H
          have hnb155 := NB416_415.out
          have hnc155 := NB415_416.out
          have hnb156 := NB416_421.out
          have hnc156 := NB421_416.out
          obtain ⟨z157_0, z157_1, z157_2, z157_3, f157_0, f157_1, f157_2, f157_3⟩ := bc4_ BK416.out
          obtain ⟨Ao158, co158, eo158⟩ := Kd.R_slice HO_417003.out
          subst eo158
          have hnb159 := NB421_415.out
          have hnc159 := NB415_421.out
          obtain ⟨z160_0, z160_1, z160_2, f160_0, f160_1, f160_2⟩ := bc3_ BK421.out
          obtain ⟨z161_0, z161_1, z161_2, z161_3, f161_0, f161_1, f161_2, f161_3⟩ := bc4_ BK415.out
          go_wp2
          refine bodyPost_ret (results_ct rfl _ _ gb415 28 #[.int .u64 t420, .string t425, .int .u64 t429, .slice Ao158 x417003_1.length co158] (0, 0) _ rfl (bz_ BK415.out) Try.underlying28 rfl (by kernel_rfl)) rfl ?_
          exact ⟨_, by first | rfl | (simp [errW_none, errW_some] <;> rfl) | (simp [*, errW_none, errW_some] <;> rfl), by (with_reducible repeat (first | apply Kd.R_alloc | apply Kd.R_drewN | apply Kd.R_drew)); exact Kd.R_mono (Kd.R_far (p := ⟨gb415, 3, none⟩) (Kd.R_far (p := ⟨gb415, 2, none⟩) (Kd.R_far (p := ⟨gb415, 1, none⟩) (Kd.R_far (p := ⟨gb415, 0, none⟩) (Kd.R_types HO_417003.out BK415.out (by decide)) (fun _ hk => hk.2) (.int .u64 t420)) (fun _ hk => hk.2) (.string t425)) (fun _ hk => hk.2) (.int .u64 t429)) (fun _ hk => hk.2) (.slice Ao158 x417003_1.length co158)) (fun _ hk => trivial), by repeat (first | (with_reducible first | exact HB.out | apply below_alloc | apply pw_below_drewN | apply below_drew1 | refine below_set ?_ GE415.out | refine below_set ?_ GE416.out | refine below_set ?_ GE421.out) | exact HB.out)⟩
         ·rw [if_neg c154] at H
          have c154b0 : (x422002_3 == 0) = false := beq_eq_false_iff_ne.mpr c154
          have c154b1 : (x422002_3 != 0) = true := bne_iff_ne.mpr c154
          simp only [Option.some.injEq, Prod.mk.injEq] at H
          obtain ⟨rfl, rfl, rfl, rfl, rfl⟩ := H
          have hnb162 := NB416_415.out
          have hnc162 := NB415_416.out
          have hnb163 := NB416_421.out
          have hnc163 := NB421_416.out
          obtain ⟨z164_0, z164_1, z164_2, z164_3, f164_0, f164_1, f164_2, f164_3⟩ := bc4_ BK416.out
          obtain ⟨Ao165, co165, eo165⟩ := Kd.R_slice HO_417003.out
          subst eo165
          have hnb166 := NB421_415.out
          have hnc166 := NB415_421.out
          obtain ⟨z167_0, z167_1, z167_2, f167_0, f167_1, f167_2⟩ := bc3_ BK421.out
          try go_wp2
          replace HO_417003 := Aside0.mk (Kd.R_drew HO_417003.out)
          replace BK415 := Aside0.mk (blk_drew BK415.out)
          replace BK416 := Aside0.mk (blk_drew BK416.out)
          replace BK421 := Aside0.mk (blk_drew BK421.out)
          replace HB := Aside0.mk (below_drew1 HB.out)
          refine start_ (n := 5) (S := fun w' => w'.cell? ⟨gb421, 0, none⟩ = some (.string t466) ∧ w'.cell? ⟨gb421, 1, none⟩ = some (.int .i64 t467) ∧ w'.cell? ⟨gb421, 2, none⟩ = some (.int .i64 x422002_3)) (ds := []) #[N_, N_, N_, N_, N_] (by kernel_rfl) rfl rfl ⟨(blk_cell BK421.out 0).trans rfl, (blk_cell BK421.out 1).trans rfl, (blk_cell BK421.out 2).trans rfl⟩ (fun hHeld => ?_)
          generalize wr.drew = w168 at HO_417003 BK415 BK416 BK421 HB hHeld ⊢
          refine pure_ (i := 0) (N := some 132) (v := ?_) (a' := ?_) #[Y_, N_, N_, N_, N_] rfl rfl (by kernel_rfl) (fun _ _ _ h => h) (Or.inl ⟨by rfl, ?_⟩) ?_ ?_
          rotate_left; (intro w'; go_simp; with_reducible rfl); rotate_left; (simp only [Act.put, q1_, q2_, q3_, i64_w, i32_w]; rfl)
          refine pure_ (i := 1) (N := some 133) (v := ?_) (a' := ?_) #[Y_, Y_, N_, N_, N_] rfl rfl (by kernel_rfl) (fun _ _ _ h => h) (Or.inl ⟨by rfl, ?_⟩) ?_ ?_
          rotate_left; (intro w'; go_simp; with_reducible rfl); rotate_left; (simp only [Act.put, q1_, q2_, q3_, i64_w, i32_w]; rfl)
          refine take_ (i := 2) (N := some 134) (v := ?_) (a' := ?_) #[Y_, Y_, Y_, N_, N_] rfl rfl (by kernel_rfl) (fun _ _ _ h => h) (Or.inl ⟨by rfl, ?_⟩) hHeld ?_ ?_
          rotate_left; (rintro w' ⟨s0, s1, s2⟩; go_simp; with_reducible rfl); rotate_left; (simp only [Act.put, q1_, q2_, q3_, i64_w, i32_w]; rfl)
          refine one_ (i := 3) (N := none) #[Y_, Y_, Y_, Y_, N_] rfl rfl (by kernel_rfl) (by decide) (fun K hK => ?_)
          have hs169 : w168.cell? ⟨gb415, 0, none⟩ = some (.int .u64 0) := (blk_cell BK415.out 0).trans rfl
          have hfs169 := blk_frozen BK415.out 0
          have hns169_1 := NB416_415.out
          have hns169_2 := NB421_415.out
          have hms169_1 := NB415_416.out
          have hms169_2 := NB415_421.out
          have hs170 : w168.cell? ⟨gb415, 1, none⟩ = some (.string (⟨#[]⟩ : ByteArray)) := (blk_cell BK415.out 1).trans rfl
          have hfs170 := blk_frozen BK415.out 1
          have hns170_1 := NB416_415.out
          have hns170_2 := NB421_415.out
          have hms170_1 := NB415_416.out
          have hms170_2 := NB415_421.out
          have hs171 : w168.cell? ⟨gb415, 2, none⟩ = some (.int .u64 0) := (blk_cell BK415.out 2).trans rfl
          have hfs171 := blk_frozen BK415.out 2
          have hns171_1 := NB416_415.out
          have hns171_2 := NB421_415.out
          have hms171_1 := NB415_416.out
          have hms171_2 := NB415_421.out
          have hs172 : w168.cell? ⟨gb415, 3, none⟩ = some (.slice none 0 0) := (blk_cell BK415.out 3).trans rfl
          have hfs172 := blk_frozen BK415.out 3
          have hns172_1 := NB416_415.out
          have hns172_2 := NB421_415.out
          have hms172_1 := NB415_416.out
          have hms172_2 := NB415_421.out
          refine skip_ (w1 := ?_) (by rfl) rfl ?_ ?_
          rotate_left
          ·go_simp
           rfl
          refine hK.out _ _ ⟨((cell_far (p := ⟨gb415, _, none⟩) NB421_415.out _).trans (((cell_far (p := ⟨gb415, _, none⟩) NB421_415.out _).trans (((cell_far (p := ⟨gb415, _, none⟩) NB421_415.out _).trans (((cell_far (p := ⟨gb415, _, none⟩) NB421_415.out _).trans (hHeld.1)))))))), ((cell_far (p := ⟨gb415, _, none⟩) NB421_415.out _).trans (((cell_far (p := ⟨gb415, _, none⟩) NB421_415.out _).trans (((cell_far (p := ⟨gb415, _, none⟩) NB421_415.out _).trans (((cell_far (p := ⟨gb415, _, none⟩) NB421_415.out _).trans (hHeld.2.1)))))))), ((cell_far (p := ⟨gb415, _, none⟩) NB421_415.out _).trans (((cell_far (p := ⟨gb415, _, none⟩) NB421_415.out _).trans (((cell_far (p := ⟨gb415, _, none⟩) NB421_415.out _).trans (((cell_far (p := ⟨gb415, _, none⟩) NB421_415.out _).trans (hHeld.2.2))))))))⟩ (fun hHeld => ?_)
          clear hK K
          refine pure_ (i := 4) (N := some 3) (v := ?_) (a' := ?_) #[Y_, Y_, Y_, Y_, Y_] rfl rfl (by kernel_rfl) (fun _ _ _ h => h) (Or.inl ⟨by rfl, ?_⟩) ?_ ?_
          rotate_left; (intro w'; go_simp; with_reducible rfl); rotate_left; (simp only [Act.put, q1_, q2_, q3_, i64_w, i32_w]; rfl)
          refine done_ (by kernel_rfl) ?_
          try go_wp2
          refine bodyPost_ret (results_ct rfl _ _ gb415 28 #[.int .u64 0, .string (⟨#[]⟩ : ByteArray), .int .u64 0, .slice none 0 0] (0, 0) _ rfl (bz_ BK415.out) Try.underlying28 rfl (by kernel_rfl)) rfl ?_
          exact ⟨_, by first | rfl | (simp [errW_none, errW_some] <;> rfl) | (simp [*, errW_none, errW_some] <;> rfl), by first | exact Kd.R_nil _ _ _ _ _ | exact Kd.N_nil _ _ _ _ _ | exact Kd.V_nil _ _ _ _ _ | exact Kd.Q_nil _ _ _ _ _ | exact Kd.S_nil _ _ _ _ _, by repeat (first | (with_reducible first | exact HB.out | apply below_alloc | apply pw_below_drewN | apply below_drew1 | refine below_set ?_ GE415.out | refine below_set ?_ GE416.out | refine below_set ?_ GE421.out) | exact HB.out)⟩
end Go.Proofs.Ytdcbacbilncnnaa.PMk
end
section
/- What Read takes of bytes, plain: the program's revision and the reference's block. -/
set_option linter.unusedVariables false
set_option linter.unusedSimpArgs false
namespace Go.Proofs.Ytdcbacbilncnnaa.T
open Go.RowKit Go.Proofs.Ytdcbacbilncnnaa.PMk Go.Proofs.Ytdcbacbilncnnaa.EncS Go.Proofs.Ytdcbacbilncnnaa.EncL Go.Proofs.YtdcbacbilncnnaaW.PrintWords Go.Proofs.YtdcbacbilncnnaaW.PrintLast
def opS (b : ByteArray × Nat × Int) : Int := if b.2.2 = 0 then bt b.1 0 else 0
def rB (s : ByteArray) (p : Nat) (e : Int) := bytesS s p e 1
def rT (s : ByteArray) (p : Nat) (e : Int) := textS s (rB s p e).2.1 (rB s p e).2.2 16
def rF (s : ByteArray) (p : Nat) (e : Int) := textS s (rT s p e).2.1 (rT s p e).2.2 16
def rD (s : ByteArray) (p : Nat) (e : Int) := uintS s (rF s p e).2.1 (rF s p e).2.2
def rV (s : ByteArray) (p : Nat) (e : Int) := uintS s (rD s p e).2.1 (rD s p e).2.2
def rH (s : ByteArray) (p : Nat) (e : Int) := textS s (rV s p e).2.1 (rV s p e).2.2 32
def rX (s : ByteArray) (p : Nat) (e : Int) : S47 := ⟨opS (rB s p e), (rT s p e).1, (rF s p e).1, ((rD s p e).1 : Int), ((rV s p e).1 : Int), (rH s p e).1, ⟨#[]⟩, bod (opS (rB s p e))⟩
theorem textS_ok (s : ByteArray) (p : Nat) (e m : Int) (hp : p ≤ s.size) : (textS s p e m).2.1 ≤ s.size ∧ (textS s p e m).1.size ≤ s.size := by
  obtain ⟨h1, _⟩ := countS_ok s p e (mn m 1048576) hp
  unfold textS
  split
  · obtain ⟨h2, _⟩ := bytesS_ok s _ (countS s p e (mn m 1048576)).2.2 (countS s p e (mn m 1048576)).1 h1
    refine ⟨h2, ?_⟩
    unfold bytesS
    split
    · split
      · exact Nat.zero_le _
      · split
        · exact Nat.zero_le _
        · show (s.extract _ _).size ≤ s.size
          rw [ByteArray.size_extract]; omega
    · exact Nat.zero_le _
  · exact ⟨hp, Nat.zero_le _⟩
structure Ps (s : ByteArray) (p : Nat) (e : Int) : Prop where
  b : (rB s p e).2.1 ≤ s.size
  t : (rT s p e).2.1 ≤ s.size
  f : (rF s p e).2.1 ≤ s.size
  d : (rD s p e).2.1 ≤ s.size
  v : (rV s p e).2.1 ≤ s.size
  h : (rH s p e).2.1 ≤ s.size
theorem ps (s : ByteArray) (p : Nat) (e : Int) (hp : p ≤ s.size) : Ps s p e := by
  have b := (bytesS_ok s p e 1 hp).1
  have t := (textS_ok s (rB s p e).2.1 (rB s p e).2.2 16 b).1
  have f := (textS_ok s (rT s p e).2.1 (rT s p e).2.2 16 t).1
  have d := (uintS_ok s (rF s p e).2.1 (rF s p e).2.2 f).1
  have v := (uintS_ok s (rD s p e).2.1 (rD s p e).2.2 d).1
  have h := (textS_ok s (rV s p e).2.1 (rV s p e).2.2 32 v).1
  exact ⟨b, t, f, d, v, h⟩
theorem bt_w (s : ByteArray) (i : Int) : wrap64 (bt s i) = bt s i := by
  have := bt_range s i
  exact wrap64_in _ (by omega) (by omega)
theorem size_one {s : ByteArray} {p : Nat} {e : Int} (hp : p ≤ s.size) (h : (rB s p e).2.2 = 0) : (rB s p e).1.size = 1 := ((bytesS_ok s p e 1 hp).2.2.2 h).2.2
theorem p_rev_j0 (s : ByteArray) (p : Nat) (e : Int) (hs : s.size < 4611686018427387904) (hp : p ≤ s.size) (o : Int) (b : ByteArray) :
    Ev (fun k => block_takeRev.j0 k s ((rB s p e).2.1 : Int) (rB s p e).2.2 o ⟨#[]⟩ ⟨#[]⟩ 0 0 ⟨#[]⟩ b false) (o, (rT s p e).1, (rF s p e).1, ((rD s p e).1 : Int), ((rV s p e).1 : Int), (rH s p e).1, b, false, s, ((rH s p e).2.1 : Int), (rH s p e).2.2) := by
  have P := ps s p e hp
  refine Ev.step (f := fun k => _) (fun k => by rw [block_takeRev.j0]) ?_
  refine Ev.bind (p_text s _ _ 16 hs P.b (by omega)) ?_
  refine Ev.bind (p_text s _ _ 16 hs P.t (by omega)) ?_
  refine Ev.bind (p_uint s _ _ hs P.f) ?_
  refine Ev.bind (p_uint s _ _ hs P.d) ?_
  refine Ev.bind (p_text s _ _ 32 hs P.v (by omega)) ?_
  exact Ev.now _
theorem p_rev (s : ByteArray) (p : Nat) (e : Int) (hs : s.size < 4611686018427387904) (hp : p ≤ s.size) :
    Ev (fun k => block_takeRev.f k s (p : Int) e) ((rX s p e).f0, (rX s p e).f1, (rX s p e).f2, (rX s p e).f3, (rX s p e).f4, (rX s p e).f5, ⟨#[]⟩, false, s, ((rH s p e).2.1 : Int), (rH s p e).2.2) := by
  refine Ev.congr (fun k => by unfold block_takeRev.f; rw [p_bytes s p e 1 hs hp, Option.bind_some]) ?_
  show Ev (fun k => (enc_Cursor_Err.f s ((rB s p e).2.1 : Int) (rB s p e).2.2).bind _) _
  simp only [enc_Cursor_Err.f, Option.bind_some]
  by_cases h : (rB s p e).2.2 = 0
  · have h1 := size_one hp h
    have e1 : (rX s p e).f0 = bt (rB s p e).1 0 := by show opS _ = _; unfold opS; rw [if_pos h]
    simp only [if_pos h]
    refine Ev.congr (fun k => if_pos (show (0 : Int) < ((rB s p e).1.size : Int) by omega)) ?_
    have hj := p_rev_j0 s p e hs hp (wrap64 (bt (rB s p e).1 0)) ⟨#[]⟩
    rw [bt_w] at hj
    rw [e1]
    refine Ev.congr (fun k => ?_) hj
    show block_takeRev.j0 k s ((rB s p e).2.1 : Int) (rB s p e).2.2 (wrap64 (bt (rB s p e).1 0)) ⟨#[]⟩ ⟨#[]⟩ 0 0 ⟨#[]⟩ ⟨#[]⟩ false = _
    rw [bt_w]
  · have e1 : (rX s p e).f0 = 0 := by show opS _ = _; unfold opS; rw [if_neg h]
    simp only [if_neg h]
    rw [e1]
    exact p_rev_j0 s p e hs hp 0 ⟨#[]⟩
/-- The loop over the revisions. -/
def loopS (s : ByteArray) : Nat → Nat → Int → List S47 → List S47 × Nat × Int
  | 0, p, e, acc => (acc, p, e)
  | n + 1, p, e, acc => if e = 0 then loopS s n (rH s p e).2.1 (rH s p e).2.2 (acc ++ [rX s p e]) else (acc, p, e)
def qQ (s : ByteArray) := uintS s 0 0
def qP (s : ByteArray) := textS s (qQ s).2.1 (qQ s).2.2 32
def qX (s : ByteArray) := uintS s (qP s).2.1 (qP s).2.2
def qC (s : ByteArray) := countS s (qX s).2.1 (qX s).2.2 64
def qL (s : ByteArray) := loopS s (qC s).1.toNat (qC s).2.1 (qC s).2.2 []
def qE (s : ByteArray) : Int := if (qL s).2.2 = 0 ∧ (qL s).2.1 < s.size then 5 else (qL s).2.2
def readS (s : ByteArray) : Int × ByteArray × Int × List S47 × Int :=
  if qE s = 0 then (if chks (qL s).1 = 0 then (((qQ s).1 : Int), (qP s).1, ((qX s).1 : Int), (qL s).1, 0) else (0, ⟨#[]⟩, 0, [], chks (qL s).1)) else (0, ⟨#[]⟩, 0, [], qE s)
structure Pq (s : ByteArray) : Prop where
  q : (qQ s).2.1 ≤ s.size
  p : (qP s).2.1 ≤ s.size
  x : (qX s).2.1 ≤ s.size
  c : (qC s).2.1 ≤ s.size
  n0 : 0 ≤ (qC s).1
  n1 : (qC s).1 ≤ 64
theorem pq (s : ByteArray) : Pq s := by
  have q := (uintS_ok s 0 0 (Nat.zero_le _)).1
  have p := (textS_ok s (qQ s).2.1 (qQ s).2.2 32 q).1
  have x := (uintS_ok s (qP s).2.1 (qP s).2.2 p).1
  obtain ⟨c, _, n0, n1, _⟩ := countS_ok s (qX s).2.1 (qX s).2.2 64 x
  exact ⟨q, p, x, c, n0, by unfold qC; rcases n1 with n1 | n1 <;> omega⟩
theorem rX_small (s : ByteArray) (p : Nat) (e : Int) (hs : s.size < 1152921504606846000) (hp : p ≤ s.size) : Small (rX s p e) := by
  have P := ps s p e hp
  have t := (textS_ok s (rB s p e).2.1 (rB s p e).2.2 16 P.b).2
  have f := (textS_ok s (rT s p e).2.1 (rT s p e).2.2 16 P.t).2
  exact ⟨by show (rT s p e).1.size < _; unfold rT; omega, by show (rF s p e).1.size < _; unfold rF; omega, by show (0 : Nat) < _; omega, Int.natCast_nonneg _⟩
theorem ref_l1_err (s : ByteArray) (p e : Int) (he : ¬ e = 0) (l : List S44) (i : Nat) (hi : i ≤ l.length) (q : Int) (t : ByteArray) (x : Int) : Ev (fun k => parchmentref09_Read.l1 k (i : Int) q t x l s p e) (0, ⟨#[]⟩, 0, [], e) := by
  refine Ev.step (f := fun k => some (0, ⟨#[]⟩, 0, [], e)) (fun k => ?_) (Ev.now _)
  rw [parchmentref09_Read.l1]
  simp only [if_neg he, ite_self]
theorem ref_l1 (s : ByteArray) (p : Int) (l : List S47) (hl : l.length < 4611686018427387904) (hsm : ∀ x ∈ l, Small x) (q : Int) (t : ByteArray) (x : Int) : ∀ (m i : Nat), i + m = l.length →
    Ev (fun k => parchmentref09_Read.l1 k (i : Int) q t x (l.map rf) s p 0) (if chks (l.drop i) = 0 then (q, t, x, l.map rf, 0) else (0, ⟨#[]⟩, 0, [], chks (l.drop i))) := by
  intro m
  induction m with
  | zero =>
    intro i hi
    refine Ev.step (f := fun k => some (q, t, x, l.map rf, 0)) (fun k => ?_) ?_
    · rw [parchmentref09_Read.l1, if_neg (by rw [List.length_map]; omega), if_pos rfl]
    · rw [List.drop_eq_nil_of_le (by omega), chks, if_pos rfl]; exact Ev.now _
  | succ m ih =>
    intro i hi
    have hlt : i < l.length := by omega
    refine Ev.step (f := fun k => _) (fun k => by rw [parchmentref09_Read.l1, if_pos (by rw [List.length_map]; omega), if_pos rfl, if_pos (by omega), rd_map l i hlt, wr1 i l.length hlt hl]) ?_
    refine Ev.bind (r_check (rd_T47 l (i : Int)) (hsm _ (rd_mem l i hlt))) ?_
    rw [rd_drop l i hlt, chks]
    by_cases hc : chk (rd_T47 l (i : Int)) = 0
    · rw [if_pos hc, hc]; exact ih (i + 1) (by omega)
    · simp only [if_neg hc]
      exact ref_l1_err s p _ hc (l.map rf) (i + 1) (by rw [List.length_map]; omega) q t x
def tail5 (s : ByteArray) (q : Int) (t : ByteArray) (x : Int) (r : List S47 × Nat × Int) : Int × ByteArray × Int × List S44 × Int :=
  if (if r.2.2 = 0 ∧ r.2.1 < s.size then (5 : Int) else r.2.2) = 0 then (if chks r.1 = 0 then (q, t, x, r.1.map rf, 0) else (0, ⟨#[]⟩, 0, [], chks r.1)) else (0, ⟨#[]⟩, 0, [], if r.2.2 = 0 ∧ r.2.1 < s.size then (5 : Int) else r.2.2)
theorem ref_end (s : ByteArray) (p : Nat) (e : Int) (l : List S47) (hl : l.length < 4611686018427387904) (hsm : ∀ x ∈ l, Small x) (q : Int) (t : ByteArray) (x : Int) (n i : Int) :
    Ev (fun k => parchmentref09_Read.j1 k n i false q t x (l.map rf) s (p : Int) e) (tail5 s q t x (l, p, e)) := by
  refine Ev.step (f := fun k => _) (fun k => by rw [parchmentref09_Read.j1, if_neg (by decide), r_end, Option.bind_some]) ?_
  unfold tail5
  generalize (if e = 0 ∧ p < s.size then (5 : Int) else e) = e'
  by_cases he : e' = 0
  · subst he
    rw [if_pos rfl]
    have h := ref_l1 s p l hl hsm q t x l.length 0 (by omega)
    rw [List.drop_zero] at h
    exact h
  · rw [if_neg he]
    exact ref_l1_err s p e' he (l.map rf) 0 (Nat.zero_le _) q t x
theorem ref_j2 (s : ByteArray) (p : Nat) (e : Int) (hs : s.size < 1152921504606846000) (hp : p ≤ s.size) (n i : Int) (q : Int) (t : ByteArray) (x : Int) (l : List S47) (hl : l.length < 1000) (he : e = 0) (R : Int × ByteArray × Int × List S44 × Int)
    (hR : Ev (fun k => parchmentref09_Read.l0 k n (wrap64 (i + 1)) q t x ((l ++ [rX s p e]).map rf) s ((rH s p e).2.1 : Int) (rH s p e).2.2) R) :
    Ev (fun k => parchmentref09_Read.j2 k n i q t x (l.map rf) (rX s p e).f0 ⟨#[]⟩ ⟨#[]⟩ 0 0 ⟨#[]⟩ ⟨#[]⟩ false s ((rB s p e).2.1 : Int) (rB s p e).2.2) R := by
  have P := ps s p e hp
  have hs' : s.size < 4611686018427387904 := by omega
  refine Ev.step (f := fun k => _) (fun k => by rw [parchmentref09_Read.j2]) ?_
  refine Ev.bind (r_text s _ _ 16 hs' P.b (by omega)) ?_
  refine Ev.bind (r_text s _ _ 16 hs' P.t (by omega)) ?_
  refine Ev.bind (r_uint s _ _ hs' P.f) ?_
  refine Ev.bind (r_uint s _ _ hs' P.d) ?_
  refine Ev.bind (r_text s _ _ 32 hs' P.v (by omega)) ?_
  have hg : (l.map rf).length < 1466015503701 := by rw [List.length_map]; omega
  rw [List.map_append] at hR
  by_cases h3 : (rX s p e).f0 = 3
  · simp only [if_pos h3, if_pos hg]
    refine Ev.congr (fun k => ?_) hR
    have e7 : (rX s p e).f7 = true := by show bod (rX s p e).f0 = true; unfold bod; rw [if_pos h3]
    simp only [List.map_cons, List.map_nil, rf, e7]
    rfl
  · simp only [if_neg h3, if_pos hg]
    refine Ev.congr (fun k => ?_) hR
    have e7 : (rX s p e).f7 = ((rX s p e).f0 == 4) := by show bod (rX s p e).f0 = _; unfold bod; rw [if_neg h3]
    simp only [List.map_cons, List.map_nil, rf, e7]
    rfl
theorem ref_l0 (s : ByteArray) (hs : s.size < 1152921504606846000) (q : Int) (t : ByteArray) (x : Int) (N : Nat) (hN : N ≤ 64) : ∀ (m i : Nat) (p : Nat) (e : Int) (l : List S47), i + m = N → p ≤ s.size → l.length ≤ i → (∀ y ∈ l, Small y) →
    Ev (fun k => parchmentref09_Read.l0 k (N : Int) (i : Int) q t x (l.map rf) s (p : Int) e) (tail5 s q t x (loopS s m p e l)) := by
  intro m
  induction m with
  | zero =>
    intro i p e l hi hp hl hsm
    refine Ev.step (f := fun k => _) (fun k => by rw [parchmentref09_Read.l0, if_neg (by omega)]) ?_
    exact ref_end s p e l (by omega) hsm q t x _ _
  | succ m ih =>
    intro i p e l hi hp hl hsm
    refine Ev.step (f := fun k => _) (fun k => by rw [parchmentref09_Read.l0, if_pos (by omega)]) ?_
    rw [loopS]
    by_cases he : e = 0
    · rw [if_pos he]
      subst he
      refine Ev.step (f := fun k => _) (fun k => by rw [parchmentref09_Read.j1, if_pos (by decide), r_bytes s p 0 1 (by omega) hp, Option.bind_some]) ?_
      have h2 := ref_j2 s p 0 hs hp (N : Int) (i : Int) q t x l (by omega) rfl _ (by
        rw [wr1 i N (by omega) (by omega)]
        exact ih (i + 1) _ _ _ (by omega) (ps s p 0 hp).h (by simp only [List.length_append, List.length_singleton]; omega) (fun y hy => (List.mem_append.1 hy).elim (hsm y) (fun h => by obtain rfl := List.mem_singleton.1 h; exact rX_small s p 0 hs hp)))
      by_cases h : (rB s p 0).2.2 = 0
      · have h1 := size_one hp h
        have e1 : (rX s p 0).f0 = bt (rB s p 0).1 0 := by show opS _ = _; unfold opS; rw [if_pos h]
        refine Ev.congr (fun k => ?_) h2
        show (if (rB s p 0).2.2 = 0 then (if 0 < ((rB s p 0).1.size : Int) then _ else none) else _) = _
        rw [if_pos h, if_pos (by omega), bt_w, e1]
        rfl
      · have e1 : (rX s p 0).f0 = 0 := by show opS _ = _; unfold opS; rw [if_neg h]
        refine Ev.congr (fun k => ?_) h2
        show (if (rB s p 0).2.2 = 0 then (if 0 < ((rB s p 0).1.size : Int) then _ else none) else _) = _
        rw [if_neg h, e1]
        rfl
    · rw [if_neg he]
      refine Ev.congr (fun k => ?_) (ref_end s p e l (by omega) hsm q t x (N : Int) (i : Int))
      rw [beq_eq_false_iff_ne.2 he]
def rfT (r : Int × ByteArray × Int × List S47 × Int) : Int × ByteArray × Int × List S44 × Int := (r.1, r.2.1, r.2.2.1, r.2.2.2.1.map rf, r.2.2.2.2)
theorem r_read (s : ByteArray) (hs : s.size < 1152921504606846000) : Ev (fun k => parchmentref09_Read.f k s) (rfT (readS s)) := by
  have P := pq s
  have hs' : s.size < 4611686018427387904 := by omega
  unfold parchmentref09_Read.f
  refine Ev.bind (r_uint s 0 0 hs' (Nat.zero_le _)) ?_
  refine Ev.bind (r_text s _ _ 32 hs' P.q (by omega)) ?_
  refine Ev.bind (r_uint s _ _ hs' P.p) ?_
  refine Ev.bind (r_count s _ _ 64 hs' P.x (by omega)) ?_
  have n0 := P.n0
  have n1 := P.n1
  have h := ref_l0 s hs ((qQ s).1 : Int) (qP s).1 ((qX s).1 : Int) (qC s).1.toNat (by omega) (qC s).1.toNat 0 (qC s).2.1 (qC s).2.2 [] (by omega) P.c (Nat.le_refl _) (fun y hy => absurd hy (by simp))
  have e1 : tail5 s ((qQ s).1 : Int) (qP s).1 ((qX s).1 : Int) (loopS s (qC s).1.toNat (qC s).2.1 (qC s).2.2 []) = rfT (readS s) := by
    show tail5 s ((qQ s).1 : Int) (qP s).1 ((qX s).1 : Int) (qL s) = _
    unfold tail5 readS
    show (if qE s = 0 then _ else _) = rfT _
    by_cases h1 : qE s = 0
    · rw [if_pos h1, if_pos h1]
      by_cases h2 : chks (qL s).1 = 0
      · rw [if_pos h2, if_pos h2]; rfl
      · rw [if_neg h2, if_neg h2]; rfl
    · rw [if_neg h1, if_neg h1]; rfl
  rw [e1, Int.toNat_of_nonneg n0] at h
  exact h
end Go.Proofs.Ytdcbacbilncnnaa.T
end
section
/- Read of a block, walked. -/
set_option linter.unusedVariables false
set_option linter.unusedSimpArgs false
namespace Go.Proofs.Ytdcbacbilncnnaa.T
open Go.RowKit Go.Proofs.Ytdcbacbilncnnaa.PMk Go.Proofs.Ytdcbacbilncnnaa.EncS Go.Proofs.Ytdcbacbilncnnaa.EncL Go.Proofs.YtdcbacbilncnnaaW.PrintWords Go.Proofs.YtdcbacbilncnnaaW.PrintLast
/-- What holds while a block is read: the cursor, the result's variable, the block's. -/
structure RL (w wr : World) (gc gb : Nat) (s : ByteArray) (p : Nat) (e : Int) (q : Int) (t : ByteArray) (x : Int) (v : Value) (l : List S47) : Prop where
  c : IsS138 w wr gc s (p : Int) e
  z : wr.heap[w.heap.size]? = some (.cells #[.int .u64 0, .string ⟨#[]⟩, .int .u64 0, .slice none 0 0] 25 (0, 0))
  g : wr.heap[gb]? = some (.cells #[.int .u64 q, .string t, .int .u64 x, v] 25 (0, 0))
  r : Kd.R k47 47 wr w.heap.size (fun _ => True) v l
  b : Below w.heap.size w wr
  n1 : w.heap.size ≠ gb
  n2 : w.heap.size ≤ gb
theorem RL.keep {w wr w1 : World} {gc gb : Nat} {s : ByteArray} {p p' : Nat} {e e' : Int} {q : Int} {t : ByteArray} {x : Int} {v : Value} {l : List S47} (h : RL w wr gc gb s p e q t x v l) (hc : IsS138 w w1 gc s (p' : Int) e') (hb : Below w.heap.size w w1) (hk : KeepBut wr w1 gc none) : RL w w1 gc gb s p' e' q t x v l :=
  ⟨hc, (hk.2 _ (blk_lt h.z) (Ne.symm (h.c.ne_blk h.z (by decide))) (by simp)).trans h.z, (hk.2 _ (blk_lt h.g) (Ne.symm (h.c.ne_blk h.g (by decide))) (by simp)).trans h.g,
   Kd.R_mono (Kd.R_keep (h.c.apart h.r (by decide)) hk (fun _ hk => hk.2)) (fun _ _ => trivial), hb, h.n1, h.n2⟩
theorem RL.below {w wr w1 : World} {gc gb : Nat} {s : ByteArray} {p : Nat} {e : Int} {q : Int} {t : ByteArray} {x : Int} {v : Value} {l : List S47} (h : RL w wr gc gb s p e q t x v l) (hb : Below wr.heap.size wr w1) : RL w w1 gc gb s p e q t x v l :=
  ⟨h.c.below hb, blk_below h.z hb, blk_below h.g hb, Kd.R_below h.r hb, h.b.trans (hb.mono h.b.size), h.n1, h.n2⟩
/-- A revision in a variable of its own beside it. -/
structure RM (w wr : World) (gc gb gx : Nat) (s : ByteArray) (p : Nat) (e : Int) (q : Int) (t : ByteArray) (x : Int) (v : Value) (l : List S47) (y : S47) : Prop where
  c : IsS138 w wr gc s (p : Int) e
  z : wr.heap[w.heap.size]? = some (.cells #[.int .u64 0, .string ⟨#[]⟩, .int .u64 0, .slice none 0 0] 25 (0, 0))
  g : wr.heap[gb]? = some (.cells #[.int .u64 q, .string t, .int .u64 x, v] 25 (0, 0))
  y : wr.heap[gx]? = some (.cells #[.int .i64 y.f0, .string y.f1, .string y.f2, .int .u64 y.f3, .int .u64 y.f4, .string y.f5, .string y.f6, .bool y.f7] 47 (0, 0))
  r : Kd.R k47 47 wr w.heap.size (fun k => k ≠ gx) v l
  b : Below w.heap.size w wr
  n1 : w.heap.size ≠ gb
  n2 : w.heap.size ≤ gb
  n3 : w.heap.size ≤ gx
theorem RL.new {w wr : World} {gc gb : Nat} {s : ByteArray} {p : Nat} {e : Int} {q : Int} {t : ByteArray} {x : Int} {v : Value} {l : List S47} (h : RL w wr gc gb s p e q t x v l) (y : S47) :
    RM w (wr.alloc (.cells #[.int .i64 y.f0, .string y.f1, .string y.f2, .int .u64 y.f3, .int .u64 y.f4, .string y.f5, .string y.f6, .bool y.f7] 47 (0, 0))) gc gb wr.heap.size s p e q t x v l y :=
  ⟨h.c.alloc _, blk_alloc h.z _, blk_alloc h.g _, heap_alloc_new wr _, Kd.R_alloc (Kd.R_mono (Kd.R_bound h.r) (fun k hk => by have := hk.2.2.1; omega)) _, h.b.alloc h.b.size _, h.n1, h.n2, h.b.size⟩
theorem ne_type {W : World} {a b : Nat} {c d : Array Value} {t u : TypeId} {f f' : Nat × Nat} (h : W.heap[a]? = some (.cells c t f)) (h' : W.heap[b]? = some (.cells d u f')) (n : t ≠ u) : a ≠ b := by
  rintro rfl
  rw [h] at h'
  injection h' with h'
  injection h' with _ h'
  exact n h'
theorem RM.drewN {w wr : World} {gc gb gx : Nat} {s : ByteArray} {p : Nat} {e : Int} {q : Int} {t : ByteArray} {x : Int} {v : Value} {l : List S47} {y : S47} (h : RM w wr gc gb gx s p e q t x v l y) (n : Nat) : RM w (wr.drewN n) gc gb gx s p e q t x v l y :=
  ⟨h.c.drewN n, blk_drewN h.z n, blk_drewN h.g n, blk_drewN h.y n, Kd.R_drewN h.r n, pw_below_drewN h.b n, h.n1, h.n2, h.n3⟩
theorem RM.put {w wr : World} {gc gb gx : Nat} {s : ByteArray} {p : Nat} {e : Int} {q : Int} {t : ByteArray} {x : Int} {v : Value} {l : List S47} {y : S47} (h : RM w wr gc gb gx s p e q t x v l y) (b : Bool) :
    RM w (wr.setCell ⟨gx, 7, none⟩ (.bool b)) gc gb gx s p e q t x v l ⟨y.f0, y.f1, y.f2, y.f3, y.f4, y.f5, y.f6, b⟩ :=
  ⟨h.c.far (h.c.ne_blk h.y (by decide)) _, blk_far h.z (ne_type h.z h.y (by decide)) _, blk_far h.g (ne_type h.g h.y (by decide)) _, blk_put h.y 7 _ rfl, Kd.R_far h.r (fun _ hk => hk) _, h.b.setCell h.n3 _, h.n1, h.n2, h.n3⟩
theorem RM.app {w wr w1 : World} {gc gb gx : Nat} {s : ByteArray} {p : Nat} {e : Int} {q : Int} {t : ByteArray} {x : Int} {v v1 : Value} {l : List S47} {y : S47} (h : RM w wr gc gb gx s p e q t x v l y) (hr : Kd.R k47 47 w1 w.heap.size (fun k => k ≠ gx) v1 (l ++ [y])) (hb : Below w.heap.size w w1) (hg : wr.grownBy w1 v.ownBlock) :
    RL w (w1.setCell ⟨gb, 3, none⟩ v1) gc gb s p e q t x v1 (l ++ [y]) := by
  have hz := blk_grown h.z hg (Kd.R_ne h.r h.z (by decide))
  have hg' := blk_grown h.g hg (Kd.R_ne h.r h.g (by decide))
  have hc := h.c.grown hg (h.c.own_ne h.r (by decide))
  exact ⟨hc.far (hc.ne_blk hg' (by decide)) _, blk_far hz h.n1 _, blk_put hg' 3 v1 rfl, Kd.R_set (Kd.R_mono hr (fun _ _ => trivial)) hg' (by decide) 3 v1, hb.setCell h.n2 _, h.n1, h.n2⟩
/-- What Read tells, of what the loop left. -/
def endS (s : ByteArray) (q : Int) (t : ByteArray) (x : Int) (r : List S47 × Nat × Int) : Int × ByteArray × Int × List S47 × Int :=
  if (if r.2.2 = 0 ∧ r.2.1 < s.size then (5 : Int) else r.2.2) = 0 then (if chks r.1 = 0 then (q, t, x, r.1, 0) else (0, ⟨#[]⟩, 0, [], chks r.1)) else (0, ⟨#[]⟩, 0, [], if r.2.2 = 0 ∧ r.2.1 < s.size then (5 : Int) else r.2.2)
theorem readS_end (s : ByteArray) : readS s = endS s ((qQ s).1 : Int) (qP s).1 ((qX s).1 : Int) (qL s) := rfl
theorem loopS_acc (s : ByteArray) (n p : Nat) (e : Int) (acc : List S47) : loopS s (n + 1) p e acc = if e = 0 then loopS s n (rH s p e).2.1 (rH s p e).2.2 (acc ++ [rX s p e]) else (acc, p, e) := rfl
set_option maxRecDepth 100000 in
set_option maxHeartbeats 4000000 in
theorem read_raw (s : ByteArray) (hs : s.size < 1152921504606846000) (w : World) :
    Calls Try.prog 32 #[.string s] w fun e w' => ∃ v, e = .returned (.tuple #[.agg #[.int .u64 (readS s).1, .string (readS s).2.1, .int .u64 (readS s).2.2.1, v], .int .i64 (readS s).2.2.2.2]) ∧ Kd.R k47 47 w' w.heap.size (fun _ => True) v (readS s).2.2.2.1 ∧ Below w.heap.size w w' := by
  have P := pq s
  have hs' : s.size < 4611686018427387904 := by omega
  have HA := Lib.hid (fun w1 hb => enc_At.calls s s 0 0 w w1 hb rfl)
  obtain ⟨k1, e1⟩ := (show Ev (fun k => enc_Cursor_Uint.f k s 0 0) (((qQ s).1 : Int), s, ((qQ s).2.1 : Int), (qQ s).2.2) from p_uint s 0 0 hs' (Nat.zero_le _)).rounds
  obtain ⟨k2, e2⟩ := (show Ev (fun k => enc_Cursor_Text.f k s ((qQ s).2.1 : Int) (qQ s).2.2 32) ((qP s).1, s, ((qP s).2.1 : Int), (qP s).2.2) from p_text s _ _ 32 hs' P.q (by omega)).rounds
  obtain ⟨k3, e3⟩ := (show Ev (fun k => enc_Cursor_Uint.f k s ((qP s).2.1 : Int) (qP s).2.2) (((qX s).1 : Int), s, ((qX s).2.1 : Int), (qX s).2.2) from p_uint s _ _ hs' P.p).rounds
  obtain ⟨k4, e4⟩ := (show Ev (fun k => enc_Cursor_Count.f k s ((qX s).2.1 : Int) (qX s).2.2 64) ((qC s).1, s, ((qC s).2.1 : Int), (qC s).2.2) from p_count s _ _ 64 hs' P.x (by omega)).rounds
  have H1 := Lib.hid (fun g w1 hI hb => enc_Cursor_Uint.calls k1 g s 0 0 _ _ _ _ w w1 hI hb e1)
  have H2 := Lib.hid (fun g w1 hI hb => enc_Cursor_Text.calls k2 g s _ _ 32 _ _ _ _ w w1 hI hb e2)
  have H3 := Lib.hid (fun g w1 hI hb => enc_Cursor_Uint.calls k3 g s _ _ _ _ _ _ w w1 hI hb e3)
  have H4 := Lib.hid (fun g w1 hI hb => enc_Cursor_Count.calls k4 g s _ _ 64 _ _ _ _ w w1 hI hb e4)
  clear e1 e2 e3 e4
  have HB0 := Lib.hid ((Below.refl w.heap.size w).alloc (Nat.le_refl _) (.cells #[.int .u64 0, .string ⟨#[]⟩, .int .u64 0, .slice none 0 0] 25))
  have HZ0 := Lib.hid (heap_alloc_new w (.cells #[.int .u64 0, .string ⟨#[]⟩, .int .u64 0, .slice none 0 0] 25 (0, 0)))
  go_enter Try.func32, Try.ntmps32
  go_wp2_with (first
    | (go_at_call 61; refine (HA.out _ HB0.out).mono ?_; rintro e w1 ⟨gc, rfl, hc, hb, hbs⟩; have HC1 := Lib.hid hc; have HB1 := Lib.hid hb; have HZ1 := Lib.hid (blk_below HZ0.out hbs); clear hc hb hbs HA HB0 HZ0)
    | (go_at_call 62; refine (H1.out _ _ HC1.out HB1.out).mono ?_; rintro e w2 ⟨rfl, hc, hb, hk⟩; have HC2 := Lib.hid hc; have HB2 := Lib.hid hb; have HZ2 := Lib.hid ((hk.2 _ (blk_lt HZ1.out) (Ne.symm (HC1.out.ne_blk HZ1.out (by decide))) (by simp)).trans HZ1.out); clear hc hb hk H1 HC1 HB1 HZ1)
    | (go_at_call 63; refine (H2.out _ _ HC2.out HB2.out).mono ?_; rintro e w3 ⟨rfl, hc, hb, hk⟩; have HC3 := Lib.hid hc; have HB3 := Lib.hid hb; have HZ3 := Lib.hid ((hk.2 _ (blk_lt HZ2.out) (Ne.symm (HC2.out.ne_blk HZ2.out (by decide))) (by simp)).trans HZ2.out); clear hc hb hk H2 HC2 HB2 HZ2)
    | (go_at_call 62; refine (H3.out _ _ HC3.out HB3.out).mono ?_; rintro e w4 ⟨rfl, hc, hb, hk⟩; have HC4 := Lib.hid hc; have HB4 := Lib.hid hb; have HZ4 := Lib.hid ((hk.2 _ (blk_lt HZ3.out) (Ne.symm (HC3.out.ne_blk HZ3.out (by decide))) (by simp)).trans HZ3.out); clear hc hb hk H3 HC3 HB3 HZ3)
    | (go_at_call 64; refine (H4.out _ _ (HC4.out.alloc _) (HB4.out.alloc HB4.out.size _)).mono ?_; rintro e w5 ⟨rfl, hc, hb, hk⟩; have HC5 := Lib.hid hc; have HB5 := Lib.hid hb; have HK5 := Lib.hid hk; clear hc hb hk H4))
  have HL5 : Hid (RL w w5 gc w4.heap.size s (qC s).2.1 (qC s).2.2 ((qQ s).1 : Int) (qP s).1 ((qX s).1 : Int) (.slice none 0 0) []) := Lib.hid (RL.keep (wr := w4.alloc (.cells #[.int .u64 ((qQ s).1 : Int), .string (qP s).1, .int .u64 ((qX s).1 : Int), .slice none 0 0] 25 (0, 0))) (p := (qX s).2.1) (e := (qX s).2.2)
    ⟨HC4.out.alloc _, blk_alloc HZ4.out _, heap_alloc_new w4 _, Kd.R_nil _ _ _ _ _, HB4.out.alloc HB4.out.size _, by have := blk_lt HZ4.out; omega, HB4.out.size⟩ HC5.out HB5.out HK5.out)
  clear HC4 HB4 HZ4 HC5 HB5 HK5
  have n0 := P.n0
  have n1 := P.n1
  have pc := P.c
  obtain ⟨n, hn⟩ : ∃ n : Nat, (qC s).1 = n := ⟨(qC s).1.toNat, by omega⟩
  have HQ : Hid (readS s = endS s ((qQ s).1 : Int) (qP s).1 ((qX s).1 : Int) (loopS s n (qC s).2.1 (qC s).2.2 [])) := Lib.hid (by rw [readS_end]; unfold qL; rw [hn]; rfl)
  rw [hn]
  rw [hn] at n0 n1
  clear hn P
  obtain ⟨R, hRe⟩ : ∃ R, readS s = R := ⟨_, rfl⟩
  have HRE := Lib.hid hRe
  rw [hRe] at HQ
  clear hRe
  generalize ((qQ s).1 : Int) = q at HL5 HQ ⊢
  generalize (qP s).1 = t at HL5 HQ ⊢
  generalize ((qX s).1 : Int) = x at HL5 HQ ⊢
  generalize (qC s).2.1 = p0 at HL5 HQ pc
  generalize (qC s).2.2 = e0 at HL5 HQ
  generalize w4.heap.size = gb at HL5 ⊢
  go_loopw [6] (fun v6 wr => ∃ (n p : Nat) (e : Int) (v : Value) (l : List S47), v6 = .int .i64 n ∧ p ≤ s.size ∧ l.length + n ≤ 64 ∧ (∀ y ∈ l, Small y) ∧ R = endS s q t x (loopS s n p e l) ∧ Hid (RL w wr gc gb s p e q t x v l)) (fun v6 _ => (intOf v6).toNat)
  case atStart => exact ⟨n, p0, e0, _, [], by go_num, pc, by simp; omega, fun y hy => absurd hy (by simp), HQ.out, HL5⟩
  case round =>
    obtain ⟨m, p, e, v, l, rfl, hp, hlm, hsm, hR, HL⟩ := hrel
    have HSM := Lib.hid hsm
    clear hsm
    clear HL5 HQ
    have H5 := Lib.hid (fun w1 hI hb => enc_Cursor_Err.calls gc s (p : Int) e _ _ _ _ w w1 hI hb rfl)
    go_upto_region 4 with fail
    go_cut [29] (fun v29 wc => v29 = .bool (decide (0 < m ∧ e = 0)) ∧ Hid (RL w wc gc gb s p e q t x v l))
    case first =>
      by_cases hm1 : (0 : Int) < (m : Int)
      · have hm2 : decide ((0 : Int) < (m : Int)) = true := decide_eq_true hm1
        go_wp2_with (go_at_call 65; refine (H5.out _ HL.out.c HL.out.b).mono ?_; rintro e w6 ⟨rfl, hc, hb, hk⟩; have HL6 := Lib.hid (HL.out.keep hc hb hk); clear hc hb hk)
        go_meet
        case rel =>
          refine ⟨?_, HL6⟩
          congr 1
          by_cases he : e = 0
          · rw [he]; simp; omega
          · simp [he]
      · have hm2 : decide ((0 : Int) < (m : Int)) = false := decide_eq_false hm1
        go_wp2
        go_meet
        case rel => exact ⟨by congr 1; exact (decide_eq_false (fun h => by omega)).symm, HL⟩
    obtain ⟨rfl, HL⟩ := hcut
    clear H5
    by_cases hA : 0 < m ∧ e = 0
    · rw [decide_eq_true hA]
      obtain ⟨hm, rfl⟩ := hA
      obtain ⟨m, rfl⟩ : ∃ m', m = m' + 1 := ⟨m - 1, by omega⟩
      rw [loopS_acc, if_pos rfl] at hR
      have HR := Lib.hid hR
      clear hR
      obtain ⟨k6, e6⟩ := (p_rev s p 0 hs' hp).rounds
      have H6 := Lib.hid (fun w1 hI hb => block_takeRev.calls k6 gc s _ _ _ _ _ _ _ _ _ _ _ _ _ w w1 hI hb e6)
      clear e6
      have HBD := Lib.hid (fun w' => bod_calls (rX s p 0).f0 w')
      go_upto_region 8 with (first
        | (go_at_call 66; refine (H6.out _ HL.out.c HL.out.b).mono ?_; rintro e w7 ⟨rfl, hc, hb, hk⟩; have HL7 := Lib.hid (HL.out.keep hc hb hk); clear hc hb hk H6)
        | (go_at_call 49; refine (HBD.out _).mono ?_; rintro e w8 ⟨rfl, ⟨nd, rfl⟩⟩; have HM8 := Lib.hid ((HL7.out.new ⟨(rX s p 0).f0, (rX s p 0).f1, (rX s p 0).f2, (rX s p 0).f3, (rX s p 0).f4, (rX s p 0).f5, ⟨#[]⟩, false⟩).drewN nd); have ry := (blk_cell HM8.out.y 7).trans rfl; have rf' := blk_frozen HM8.out.y 7))
      have HM9 : Hid (RM w _ gc gb w7.heap.size s (rH s p 0).2.1 (rH s p 0).2.2 q t x v l (rX s p 0)) := Lib.hid (HM8.out.put (bod (rX s p 0).f0))
      have hvl : (l.length + 1) * 96 ≤ 140737488355328 := by omega
      clear HM8 HL7 ry rf' HBD HL
      generalize (World.setCell _ _ _) = w9 at HM9 ⊢
      generalize w7.heap.size = gx at HM9 ⊢
      obtain ⟨y, hy⟩ : ∃ y, rX s p 0 = y := ⟨_, rfl⟩
      have HSY := Lib.hid (hy ▸ rX_small s p 0 hs hp)
      rw [hy] at HM9 HR ⊢
      have hp' := (ps s p 0 hp).h
      generalize (rH s p 0).2.1 = p' at HM9 HR hp'
      generalize (rH s p 0).2.2 = e' at HM9 HR
      clear hy hp
      have g3 : w9.cell? ⟨gb, 3, none⟩ = some v := (blk_cell HM9.out.g 3).trans rfl
      have y0 : w9.cell? ⟨gx, 0, none⟩ = some (.int .i64 y.f0) := (blk_cell HM9.out.y 0).trans rfl
      have y1 : w9.cell? ⟨gx, 1, none⟩ = some (.string y.f1) := (blk_cell HM9.out.y 1).trans rfl
      have y2 : w9.cell? ⟨gx, 2, none⟩ = some (.string y.f2) := (blk_cell HM9.out.y 2).trans rfl
      have y3 : w9.cell? ⟨gx, 3, none⟩ = some (.int .u64 y.f3) := (blk_cell HM9.out.y 3).trans rfl
      have y4 : w9.cell? ⟨gx, 4, none⟩ = some (.int .u64 y.f4) := (blk_cell HM9.out.y 4).trans rfl
      have y5 : w9.cell? ⟨gx, 5, none⟩ = some (.string y.f5) := (blk_cell HM9.out.y 5).trans rfl
      have y6 : w9.cell? ⟨gx, 6, none⟩ = some (.string y.f6) := (blk_cell HM9.out.y 6).trans rfl
      have y7 : w9.cell? ⟨gx, 7, none⟩ = some (.bool y.f7) := (blk_cell HM9.out.y 7).trans rfl
      go_wp2_with (at_builtin; refine Kd.R_append k47 (w0 := w) w.heap.size rfl (.tmp 39) (.tmp 41) 23 47 (.agg #[.int .i64 0, .string ⟨#[]⟩, .string ⟨#[]⟩, .int .u64 0, .int .u64 0, .string ⟨#[]⟩, .string ⟨#[]⟩, .bool false]) 96 rfl Try.underlying23 info47 rfl (by decide) (by omega) v l y [.int .i64 y.f0, .string y.f1, .string y.f2, .int .u64 y.f3, .int .u64 y.f4, .string y.f5, .string y.f6, .bool y.f7] (fun k => k ≠ gx) (fun _ => False) rfl ?h2 ?h3 ?h4 ?h5 ?h6 ?h7 ?h8 ?h9 ?_; (case h2 => first | (go_simp; done) | (go_simp; rfl)); (case h3 => exact k47_mkM _ _ _ y); (case h4 => exact (fun _ hk => hk.elim)); (case h5 => exact (fun k hk => Kd.freshB HM9.out.y k hk)); (case h6 => exact HM9.out.r); (case h7 => exact HM9.out.b); (case h8 => exact HM9.out.b.size); (case h9 => exact hvl); intro v1 w10 hR10 hB10 hg10 hat10; obtain ⟨A1, c1, ev1⟩ := Kd.R_slice hR10; subst ev1; have HR10 := Lib.hid hR10; have HB10 := Lib.hid hB10; have HG10 := Lib.hid hg10; have hq10 := blk_grown HM9.out.g hg10 (Kd.R_ne HM9.out.r HM9.out.g (by decide)); have g4 : w10.cell? ⟨gb, 3, none⟩ = some v := (blk_cell hq10 3).trans rfl; have g4f := blk_frozen hq10 3; clear hR10 hB10 hg10 hat10 hq10)
      have HL11 := Lib.hid (HM9.out.app HR10.out HB10.out HG10.out)
      rw [show (l ++ [y]).length = l.length + 1 by simp] at HL11
      go_roundw
      case rel => exact ⟨m, p', e', _, l ++ [y], by go_num, hp', by simp; omega, fun z hz => (List.mem_append.1 hz).elim (HSM.out z) (fun h => by obtain rfl := List.mem_singleton.1 h; exact HSY.out), HR.out, HL11⟩
      case measure => (simp [intOf] <;> omega)
    · rw [decide_eq_false hA]
      have hS : loopS s m p e l = (l, p, e) := by
        cases m with
        | zero => rfl
        | succ m => rw [loopS_acc, if_neg (fun h => hA ⟨by omega, h⟩)]
      rw [hS] at hR
      have H7 := Lib.hid (fun w1 hI hb => enc_Cursor_End.calls gc s (p : Int) e _ _ _ _ w w1 hI hb (p_end s p e))
      unfold endS at hR
      generalize (if e = 0 ∧ p < s.size then (5 : Int) else e) = e2 at hR H7
      clear hS hA
      go_upto_region 10 with (go_at_call 67; refine (H7.out _ HL.out.c HL.out.b).mono ?_; rintro e w7 ⟨rfl, hc, hb, hk⟩; have HL7 := Lib.hid (HL.out.keep hc hb hk); clear hc hb hk H7)
      have z0 := (blk_cell HL7.out.z 0).trans rfl
      have z1 := (blk_cell HL7.out.z 1).trans rfl
      have z2 := (blk_cell HL7.out.z 2).trans rfl
      have z3 := (blk_cell HL7.out.z 3).trans rfl
      have zf0 := blk_frozen HL7.out.z 0
      have zf1 := blk_frozen HL7.out.z 1
      have zf2 := blk_frozen HL7.out.z 2
      have zf3 := blk_frozen HL7.out.z 3
      by_cases he2 : e2 = 0
      · subst he2
        rw [if_pos rfl] at hR
        have HR := Lib.hid hR
        clear hR z0 z1 z2 z3 zf0 zf1 zf2 zf3
        obtain ⟨A, c, rfl⟩ := Kd.R_slice HL7.out.r
        have g3 : w7.cell? ⟨gb, 3, none⟩ = some (.slice A l.length c) := (blk_cell HL7.out.g 3).trans rfl
        have hl64 : l.length ≤ 64 := by omega
        obtain ⟨len, hlen⟩ : ∃ n, l.length = n := ⟨_, rfl⟩
        rw [hlen] at HL7 g3 hl64
        have HLN := Lib.hid hlen
        clear hlen HL hlm
        go_wp2_with fail
        go_loopw [53] (fun v53 wr => ∃ i : Nat, v53 = .int .i64 i ∧ i ≤ len ∧ chks (l.drop i) = chks l ∧ Hid (RL w wr gc gb s p 0 q t x (.slice A len c) l)) (fun v53 _ => (len - intOf v53).toNat)
        case atStart => exact ⟨0, by go_num, Nat.zero_le _, by rw [List.drop_zero], HL7⟩
        case round =>
          obtain ⟨i, rfl, hi, hck, HL⟩ := hrel
          by_cases h1 : i < len
          · have hil : i < l.length := by have := HLN.out; omega
            obtain ⟨ad, hA, hx0, hx1, hx2, hx3, hx4, hx5, hx6, hx7⟩ := at_T47 (Kd.R_reads' HL.out.r).2.2 (i : Int) (by omega) (by omega)
            subst hA
            have hd := rd_drop l i hil
            rw [hd, chks] at hck
            have hsy := HSM.out _ (rd_mem l i hil)
            obtain ⟨k8, e8⟩ := (p_check _ hsy).rounds
            simp only [Int.toNat_natCast] at hx0 hx1 hx2 hx3 hx4 hx5 hx6 hx7
            have H8 := Lib.hid (fun w' => block_Check.calls k8 _ _ _ _ _ _ _ _ _ w' e8)
            clear e8 hsy hd
            generalize rd_T47 l (i : Int) = y at hx0 hx1 hx2 hx3 hx4 hx5 hx6 hx7 hck H8
            by_cases hc : chk y = 0
            · rw [if_pos hc] at hck
              rw [hc] at H8
              go_wp2_with (go_at_call 50; refine (H8.out _).mono ?_; rintro e w8 ⟨rfl, hb⟩; have HL8 := Lib.hid (HL.out.below (((Below.refl wr.heap.size wr).alloc (Nat.le_refl _) _).trans (hb.mono (by simp)))); clear hb)
              go_roundw
              case rel => exact ⟨i + 1, by go_num, by omega, hck, HL8⟩
              case measure => (simp [intOf] <;> omega)
            · rw [if_neg hc] at hck
              have hb1 : (chk y == 0) = false := beq_eq_false_iff_ne.2 hc
              have hb2 : (chk y != 0) = true := bne_iff_ne.2 hc
              go_wp2_with (go_at_call 50; refine (H8.out _).mono ?_; rintro e w8 ⟨rfl, hb⟩; have HL8 := Lib.hid (HL.out.below (((Below.refl wr.heap.size wr).alloc (Nat.le_refl _) _).trans (hb.mono (by simp)))); have z0 := (blk_cell HL8.out.z 0).trans rfl; have z1 := (blk_cell HL8.out.z 1).trans rfl; have z2 := (blk_cell HL8.out.z 2).trans rfl; have z3 := (blk_cell HL8.out.z 3).trans rfl; have zf0 := blk_frozen HL8.out.z 0; have zf1 := blk_frozen HL8.out.z 1; have zf2 := blk_frozen HL8.out.z 2; have zf3 := blk_frozen HL8.out.z 3; clear hb)
              refine bodyPost_ret (results_ct rfl _ _ w.heap.size 25 _ (0, 0) _ rfl (put4 HL8.out.z) Try.underlying25 rfl (by kernel_rfl)) rfl ?_
              rw [HRE.out, HR.out, if_neg (by rw [← hck]; exact hc), ← hck]
              exact ⟨_, rfl, Kd.R_nil _ _ _ _ _, below4 HL8.out.b (Nat.le_refl _)⟩
          · obtain rfl : i = len := by omega
            rw [List.drop_eq_nil_of_le (by have := HLN.out; omega), chks] at hck
            have z0 := (blk_cell HL.out.z 0).trans rfl
            have z1 := (blk_cell HL.out.z 1).trans rfl
            have z2 := (blk_cell HL.out.z 2).trans rfl
            have z3 := (blk_cell HL.out.z 3).trans rfl
            have zf0 := blk_frozen HL.out.z 0
            have zf1 := blk_frozen HL.out.z 1
            have zf2 := blk_frozen HL.out.z 2
            have zf3 := blk_frozen HL.out.z 3
            have g0 : wr.cell? ⟨gb, 0, none⟩ = some (.int .u64 q) := (blk_cell HL.out.g 0).trans rfl
            have g1 : wr.cell? ⟨gb, 1, none⟩ = some (.string t) := (blk_cell HL.out.g 1).trans rfl
            have g2 : wr.cell? ⟨gb, 2, none⟩ = some (.int .u64 x) := (blk_cell HL.out.g 2).trans rfl
            have g3' : wr.cell? ⟨gb, 3, none⟩ = some (.slice A i c) := (blk_cell HL.out.g 3).trans rfl
            go_wp2_with fail
            refine bodyPost_ret (results_ct rfl _ _ w.heap.size 25 _ (0, 0) _ rfl (put4 HL.out.z) Try.underlying25 rfl (by kernel_rfl)) rfl ?_
            rw [HRE.out, HR.out, if_pos hck.symm]
            exact ⟨_, rfl, rows4 HL.out.r HL.out.z, below4 HL.out.b (Nat.le_refl _)⟩
      · have hb1 : (e2 == 0) = false := beq_eq_false_iff_ne.2 he2
        have hb2 : (e2 != 0) = true := bne_iff_ne.2 he2
        rw [if_neg he2] at hR
        go_wp2_with fail
        refine bodyPost_ret (results_ct rfl _ _ w.heap.size 25 _ (0, 0) _ rfl (put4 HL7.out.z) Try.underlying25 rfl (by kernel_rfl)) rfl ?_
        rw [HRE.out, hR]
        exact ⟨_, rfl, Kd.R_nil _ _ _ _ _, below4 HL7.out.b (Nat.le_refl _)⟩
end Go.Proofs.Ytdcbacbilncnnaa.T
end
section
/- Read of a block, in the printed form. -/
set_option linter.unusedVariables false
namespace Go.Proofs.Ytdcbacbilncnnaa.Blk
open Go.RowKit Go.Proofs.Ytdcbacbilncnnaa.PMk Go.Proofs.Ytdcbacbilncnnaa.T Go.Proofs.YtdcbacbilncnnaaW.PrintWords Go.Proofs.YtdcbacbilncnnaaW.PrintLast
def block_Read.f (k : Nat) (s : ByteArray) : Option (Int × ByteArray × Int × (List (S47)) × Int) := if s.size < 1152921504606846000 then some (readS s) else none
theorem block_Read.calls (k : Nat) (a0 : ByteArray) (r1 : Int) (r2 : ByteArray) (r3 : Int) (r4 : List (S47)) (r5 : Int) (w : World) (h : block_Read.f k a0 = some (r1, r2, r3, r4, r5)) :
    Calls Try.prog 32 #[.string a0] w fun e w' => ∃ v3_ : Value, e = .returned (.tuple #[.agg #[.int .u64 r1, .string r2, .int .u64 r3, v3_], .int .i64 r5]) ∧ Kd.R k47 47 w' w.heap.size (fun _ => True) v3_ r4 ∧ Below w.heap.size w w' := by
  unfold block_Read.f at h
  split at h
  · next hs =>
    have h := Option.some.inj h
    refine (read_raw a0 hs w).mono ?_
    rintro e w' ⟨v, rfl, hR, hb⟩
    rw [h] at hR ⊢
    exact ⟨v, rfl, hR, hb⟩
  · cases h
end Go.Proofs.Ytdcbacbilncnnaa.Blk
end
section
/- The laws' guard: a block's digest does not hang on whether a body is gone. -/
set_option linter.unusedVariables false
set_option linter.unusedSimpArgs false
namespace Go.Proofs.Ytdcbacbilncnnaa.T
open Go.RowKit Go.Proofs.Ytdcbacbilncnnaa.PMk Go.Proofs.Ytdcbacbilncnnaa.M Go.Proofs.Ytdcbacbilncnnaa.EncS Go.Proofs.Ytdcbacbilncnnaa.EncL Go.Proofs.YtdcbacbilncnnaaW.PrintWords Go.Proofs.YtdcbacbilncnnaaW.PrintLast
theorem C_one {W : World} {g : Nat} {x : S47} {fr : Nat × Nat} (h : W.heap[g]? = some (.cells #[.int .i64 x.f0, .string x.f1, .string x.f2, .int .u64 x.f3, .int .u64 x.f4, .string x.f5, .string x.f6, .bool x.f7] 47 fr)) : Kd.C k47 W (some ⟨g, 0, none⟩) 1 [x] := by
  refine ⟨rfl, by decide, fun _ => ⟨⟨g, 0, none⟩, rfl, fun j p hj => ?_⟩⟩
  have hj0 : j = 0 := by
    have := (List.getElem?_eq_some_iff.1 hj).1
    simp at this
    exact this
  subst hj0
  simp only [List.getElem?_cons_zero, Option.some.injEq] at hj
  subst hj
  refine ⟨_, rfl, k47_mk W x, fun i u hu => ?_⟩
  rw [show 0 * k47.sz + i = i by omega]
  exact World.news_of_block h i u hu
def awx (H : ByteArray) : S47 := ⟨3, ⟨#[116]⟩, ⟨#[]⟩, 1, 0, H, ⟨#[120]⟩, false⟩
theorem aw_fits (H : ByteArray) (hH : H.size = 32) : Fits 1 0 ⟨#[116]⟩ ⟨#[]⟩ H := ⟨by decide, by decide, by decide, by decide, by decide, by decide, by omega⟩
theorem name_t : value_Name.f 9 ⟨#[116]⟩ = some true := by decide +kernel
theorem aw_check (H : ByteArray) (h : hash_Leaf.f ⟨#[120]⟩ = some H) : block_Check.f 10 3 ⟨#[116]⟩ ⟨#[]⟩ 1 0 H ⟨#[120]⟩ false = some 0 := by
  have e : ((⟨#[]⟩ : ByteArray).toList == ([] : List UInt8)) = true := by decide +kernel
  have hn : block_numbers.f 3 ⟨#[116]⟩ ⟨#[]⟩ 1 0 H ⟨#[120]⟩ false = some true := rfl
  have hb : block_bytes.f 3 ⟨#[116]⟩ ⟨#[]⟩ 1 0 H ⟨#[120]⟩ false = some true := by
    unfold block_bytes.f
    rw [show block_bodied.f 3 = some true from rfl, Option.bind_some, if_pos rfl, if_neg (by decide), h, Option.bind_some, if_pos rfl]
    rfl
  show block_Check.j0 (9 + 1) ((⟨#[]⟩ : ByteArray).toList == ([] : List UInt8)) 3 ⟨#[116]⟩ ⟨#[]⟩ 1 0 H ⟨#[120]⟩ false = some 0
  rw [e, block_Check.j0]
  rw [if_neg (by decide), if_neg (by decide), name_t, Option.bind_some, if_pos rfl, if_pos rfl, hn, Option.bind_some, if_pos rfl, hb, Option.bind_some, if_pos rfl]
theorem aw_follows (H : ByteArray) (h : hash_Leaf.f ⟨#[120]⟩ = some H) : block_Follows.f 13 0 ⟨#[]⟩ 0 [awx H] 0 ⟨#[]⟩ = some 0 := by
  have hc := aw_check H h
  have h1 : block_Follows.l0 (10 + 1) 0 ⟨#[]⟩ [awx H] 1 (wrap64 (0 + 1)) 0 ⟨#[]⟩ 0 [awx H] = some 0 := by
    rw [block_Follows.l0]
    rw [if_neg (by decide +kernel), if_pos rfl, if_pos rfl]
  have h0 : block_Follows.l0 (11 + 1) 0 ⟨#[]⟩ [awx H] 1 0 0 ⟨#[]⟩ 0 [awx H] = some 0 := by
    rw [block_Follows.l0]
    have hc' : block_Check.f 11 3 ⟨#[116]⟩ ⟨#[]⟩ 1 0 H ⟨#[120]⟩ false = some 0 := block_Check.mono _ _ _ _ _ _ _ _ 10 _ hc
    rw [if_pos (by decide), if_pos (by decide), if_pos (by show (0 : Int) < 1; decide)]
    show (block_Check.f 11 3 ⟨#[116]⟩ ⟨#[]⟩ 1 0 H ⟨#[120]⟩ false).bind _ = _
    rw [hc', Option.bind_some, if_pos rfl]
    exact h1
  show block_Follows.j0 (12 + 1) 0 ⟨#[]⟩ false 0 ⟨#[]⟩ 0 [awx H] = some 0
  rw [block_Follows.j0]
  rw [if_neg (by decide)]
  exact h0
/-- What holds ahead of the guard's comparisons: two blocks in memory. -/
structure AW (w wr : World) (gb gs gc gr cr : Nat) (H : ByteArray) : Prop where
  b0 : wr.cell? ⟨gb, 0, none⟩ = some (.int .u64 0)
  b1 : wr.cell? ⟨gb, 1, none⟩ = some (.string ⟨#[]⟩)
  b2 : wr.cell? ⟨gb, 2, none⟩ = some (.int .u64 0)
  b3 : wr.cell? ⟨gb, 3, none⟩ = some (.slice (some ⟨gs, 0, none⟩) 1 1)
  c0 : wr.cell? ⟨gc, 0, none⟩ = some (.int .u64 0)
  c1 : wr.cell? ⟨gc, 1, none⟩ = some (.string ⟨#[]⟩)
  c2 : wr.cell? ⟨gc, 2, none⟩ = some (.int .u64 0)
  c3 : wr.cell? ⟨gc, 3, none⟩ = some (.slice (some ⟨gr, 0, none⟩) 1 cr)
  r7 : wr.cell? ⟨gr, 7, none⟩ = some (.bool true)
  k1 : Kd.C k47 wr (some ⟨gs, 0, none⟩) 1 [awx H]
  k2 : Kd.C k47 wr (some ⟨gr, 0, none⟩) 1 [bare (awx H)]
  b : Below w.heap.size w wr
theorem AW.below {w wr w1 : World} {gb gs gc gr cr : Nat} {H : ByteArray} (h : AW w wr gb gs gc gr cr H) (hb : Below wr.heap.size wr w1) : AW w w1 gb gs gc gr cr H :=
  ⟨(hb.cell (World.block_lt_of_cell? _ _ h.b0)).trans h.b0, (hb.cell (World.block_lt_of_cell? _ _ h.b1)).trans h.b1, (hb.cell (World.block_lt_of_cell? _ _ h.b2)).trans h.b2, (hb.cell (World.block_lt_of_cell? _ _ h.b3)).trans h.b3,
   (hb.cell (World.block_lt_of_cell? _ _ h.c0)).trans h.c0, (hb.cell (World.block_lt_of_cell? _ _ h.c1)).trans h.c1, (hb.cell (World.block_lt_of_cell? _ _ h.c2)).trans h.c2, (hb.cell (World.block_lt_of_cell? _ _ h.c3)).trans h.c3, (hb.cell (World.block_lt_of_cell? _ _ h.r7)).trans h.r7,
   Kd.C_below h.k1 hb, Kd.C_below h.k2 hb, h.b.trans (hb.mono h.b.size)⟩
theorem sealed_aw (H : ByteArray) (h : hash_Leaf.f ⟨#[120]⟩ = some H) (w : World) : Calls Try.prog 30 #[.agg #[.int .i64 3, .string ⟨#[116]⟩, .string ⟨#[]⟩, .int .u64 1, .int .u64 0, .string ⟨#[]⟩, .string ⟨#[120]⟩, .bool false]] w fun e w' => e = .returned (.agg #[.int .i64 3, .string ⟨#[116]⟩, .string ⟨#[]⟩, .int .u64 1, .int .u64 0, .string H, .string ⟨#[120]⟩, .bool false]) ∧ Below w.heap.size w w' := by
  refine block_Sealed.calls 3 ⟨#[116]⟩ ⟨#[]⟩ 1 0 ⟨#[]⟩ ⟨#[120]⟩ false 3 ⟨#[116]⟩ ⟨#[]⟩ 1 0 H ⟨#[120]⟩ false w ?_
  unfold block_Sealed.f
  rw [show block_bodied.f 3 = some true from rfl, Option.bind_some, if_pos rfl, h]
  rfl
theorem follows_any (k : Nat) (a0 : Int) (a1 : ByteArray) (a2 : Int) (A : Option Addr) (c n : Nat) (l : List S47) (x : Int) (y : ByteArray) (r : Int) (w : World) (hn : l.length = n) (hC : Kd.C k47 w A n l) (hc : n ≤ c) (h : block_Follows.f k a0 a1 a2 l x y = some r) :
    Calls Try.prog 40 #[.agg #[.int .u64 a0, .string a1, .int .u64 a2, .slice A n c], .int .u64 x, .string y] w fun e w' => e = .returned (.int .i64 r) ∧ Below w.heap.size w w' := by
  subst hn
  exact block_Follows.calls k a0 a1 a2 A c l x y r w hC hc h
theorem hash_n (a0 : Int) (a1 : ByteArray) (a2 : Int) (A : Option Addr) (c n : Nat) (l : List S47) (d : ByteArray) (hn : l.length = n) (g : FitsB a0 a1 a2 l) (hd : bhash a0 a1 a2 l = d) (w : World) (hC : Kd.C k47 w A n l) :
    Calls Try.prog 14 #[.agg #[.int .u64 a0, .string a1, .int .u64 a2, .slice A n c]] w fun e w' => e = .returned (.string d) ∧ Below w.heap.size w w' := by
  subst hn
  subst hd
  exact hash_any a0 a1 a2 A c l g w hC
theorem aw_fitsB (H : ByteArray) (hH : H.size = 32) (x : S47) (hx : x = awx H ∨ x = bare (awx H)) : FitsB 0 ⟨#[]⟩ 0 [x] := by
  refine ⟨by decide, by decide, by decide, by decide, by decide, ?_, by simp⟩
  intro y hy
  simp at hy
  subst hy
  rcases hx with rfl | rfl <;> exact aw_fits H hH
theorem without_n (a0 : Int) (a1 : ByteArray) (a2 : Int) (A : Option Addr) (c n : Nat) (l : List S47) (i : Int) (w : World) (hl : l.length = n) (hC : Kd.C k47 w A n l) (hb : wo l i = true) (hn : n < 1000000) :
    Calls Try.prog 19 #[.agg #[.int .u64 a0, .string a1, .int .u64 a2, .slice A n c], .int .i64 i] w fun e w' => ∃ v, e = .returned (.tuple #[.agg #[.int .u64 a0, .string a1, .int .u64 a2, v], .int .i64 0]) ∧ Kd.R k47 47 w' w.heap.size (fun _ => True) v (l.set i.toNat (bare (rd_T47 l i))) ∧ Below w.heap.size w w' := by
  subst hl
  exact without_ok a0 a1 a2 A c l i w hC hb hn
set_option maxRecDepth 100000 in
set_option maxHeartbeats 4000000 in
theorem awake_raw (w : World) : Calls Try.prog 12 #[] w fun e w' => e = .returned (.bool true) ∧ Below w.heap.size w w' := by
  obtain ⟨H, hH⟩ : ∃ H, leaf ⟨#[120]⟩ = H := ⟨_, rfl⟩
  have hH32 : H.size = 32 := hH ▸ leaf_size _
  have hL : hash_Leaf.f ⟨#[120]⟩ = some H := hH ▸ leaf_f _ (by decide)
  obtain ⟨d, hd⟩ : ∃ d, bhash 0 ⟨#[]⟩ 0 [awx H] = d := ⟨_, rfl⟩
  have hd2 : bhash 0 ⟨#[]⟩ 0 [bare (awx H)] = d := hd ▸ rfl
  have hd32 : d.size = 32 := hd ▸ Dig.dig_size _
  have HS := Lib.hid (sealed_aw H hL)
  have HF := Lib.hid (fun w' gs hC => follows_any 13 0 ⟨#[]⟩ 0 (some ⟨gs, 0, none⟩) 1 1 [awx H] 0 ⟨#[]⟩ 0 w' rfl hC (Nat.le_refl _) (aw_follows H hL))
  have HH := Lib.hid (fun A c w' hC => hash_n 0 ⟨#[]⟩ 0 A c 1 [awx H] d rfl (aw_fitsB H hH32 _ (.inl rfl)) hd w' hC)
  have HG := Lib.hid (fun A c w' hC => hash_n 0 ⟨#[]⟩ 0 A c 1 [bare (awx H)] d rfl (aw_fitsB H hH32 _ (.inr rfl)) hd2 w' hC)
  have hdz : ((d.size : Int) == 32) = true := by rw [hd32]; rfl
  have HW := Lib.hid (fun A c w' hC => without_n 0 ⟨#[]⟩ 0 A c 1 [awx H] 0 w' rfl hC rfl (by decide))
  clear hd hd2 hL hH
  go_enter Try.func12, Try.ntmps12
  go_wp2_with (first
    | (go_at_call 30; refine (HS.out _).mono ?_; rintro e w1 ⟨rfl, hb⟩; have HB1 := Lib.hid hb; clear hb)
    | (go_at_call 19; refine (HW.out _ _ _ (C_one (x := awx H) (blk_alloc (heap_alloc_new w1 _) _))).mono ?_; rintro e w2 ⟨v, rfl, hR, hb⟩; replace hR : Kd.R k47 47 w2 _ (fun _ => True) v [bare (awx H)] := hR; obtain ⟨gr, cr, rfl, hg1, hg2, _⟩ := Kd.R_form hR (by simp); have HR := Lib.hid hR; have HB2 := Lib.hid hb; clear hR hb))
  have HQ : Hid (AW w (w2.alloc (.cells #[.int .u64 0, .string ⟨#[]⟩, .int .u64 0, .slice (some ⟨gr, 0, none⟩) 1 cr] 25)) (w1.heap.size + 1) w1.heap.size w2.heap.size gr cr H) := by
    have hb2 := HB2.out
    have hb3 := (Below.refl w2.heap.size w2).alloc (Nat.le_refl _) (.cells #[.int .u64 0, .string ⟨#[]⟩, .int .u64 0, .slice (some ⟨gr, 0, none⟩) 1 cr] 25)
    have Gb := blk_below (blk_below (g := w1.heap.size + 1) (by have h := heap_alloc_new (w1.alloc (.cells #[.int .i64 3, .string ⟨#[116]⟩, .string ⟨#[]⟩, .int .u64 1, .int .u64 0, .string H, .string ⟨#[120]⟩, .bool false] 47)) (.cells #[.int .u64 0, .string ⟨#[]⟩, .int .u64 0, .slice (some ⟨w1.heap.size, 0, none⟩) 1 1] 25); rw [World.size_alloc] at h; exact h) hb2) hb3
    have Gc := heap_alloc_new w2 (.cells #[.int .u64 0, .string ⟨#[]⟩, .int .u64 0, .slice (some ⟨gr, 0, none⟩) 1 cr] 25)
    obtain ⟨cf, hcl, hN, hcc, hfr⟩ := Kd.R_elem HR.out z47 0 (by decide) (by simp)
    obtain rfl := k47_openM hN
    have h7 : w2.cell? ⟨gr, 7, none⟩ = some (.bool true) := hcc 7 _ rfl
    exact Lib.hid ⟨(blk_cell Gb 0).trans rfl, (blk_cell Gb 1).trans rfl, (blk_cell Gb 2).trans rfl, (blk_cell Gb 3).trans rfl, (blk_cell Gc 0).trans rfl, (blk_cell Gc 1).trans rfl, (blk_cell Gc 2).trans rfl, (blk_cell Gc 3).trans rfl,
      (hb3.cell (World.block_lt_of_cell? _ _ h7)).trans h7, Kd.C_below (Kd.C_below (C_one (x := awx H) (blk_alloc (heap_alloc_new w1 _) _)) hb2) hb3, Kd.C_below (Kd.R_reads' HR.out).2.2 hb3,
      ((((HB1.out.alloc HB1.out.size _).alloc (by have := HB1.out.size; simp; omega) _).trans (hb2.mono (by have := HB1.out.size; simp; omega))).alloc (by have := HB1.out.size; have := hb2.size; simp at *; omega) _)⟩
  clear HR HB1 HB2 HS HW hg1 hg2
  generalize w2.alloc (.cells #[.int .u64 0, .string ⟨#[]⟩, .int .u64 0, .slice (some ⟨gr, 0, none⟩) 1 cr] 25) = W at HQ ⊢
  generalize w1.heap.size + 1 = gb at HQ ⊢
  generalize w1.heap.size = gs at HQ ⊢
  generalize w2.heap.size = gc at HQ ⊢
  refine start_ (n := 34) (S := fun w' => w'.cell? ⟨gb, 0, none⟩ = some (.int .u64 0) ∧ w'.cell? ⟨gb, 1, none⟩ = some (.string ⟨#[]⟩) ∧ w'.cell? ⟨gb, 2, none⟩ = some (.int .u64 0) ∧ w'.cell? ⟨gb, 3, none⟩ = some (.slice (some ⟨gs, 0, none⟩) 1 1) ∧ w'.cell? ⟨gc, 0, none⟩ = some (.int .u64 0) ∧ w'.cell? ⟨gc, 1, none⟩ = some (.string ⟨#[]⟩) ∧ w'.cell? ⟨gc, 2, none⟩ = some (.int .u64 0) ∧ w'.cell? ⟨gc, 3, none⟩ = some (.slice (some ⟨gr, 0, none⟩) 1 cr) ∧ w'.cell? ⟨gr, 7, none⟩ = some (.bool true)) (ds := []) #[false, false, false, false, false, false, false, false, false, false, false, false, false, false, false, false, false, false, false, false, false, false, false, false, false, false, false, false, false, false, false, false, false, false] (by kernel_rfl) rfl rfl ⟨HQ.out.b0, HQ.out.b1, HQ.out.b2, HQ.out.b3, HQ.out.c0, HQ.out.c1, HQ.out.c2, HQ.out.c3, HQ.out.r7⟩ (fun hHeld => ?_)
  refine pure_ (i := 0) (N := some 13) (v := ?_) (a' := ?_) #[true, false, false, false, false, false, false, false, false, false, false, false, false, false, false, false, false, false, false, false, false, false, false, false, false, false, false, false, false, false, false, false, false, false] rfl rfl (by kernel_rfl) (fun _ _ _ h => h) (Or.inl ⟨by rfl, ?_⟩) ?_ ?_
  rotate_left
  · intro w'
    go_simp
    with_reducible rfl
  rotate_left
  · simp only [Act.put, List.setIfInBounds_toArray, List.set_cons_zero, List.set_cons_succ, i64_w, i32_w]
    rfl
  refine pure_ (i := 1) (N := some 14) (v := ?_) (a' := ?_) #[true, true, false, false, false, false, false, false, false, false, false, false, false, false, false, false, false, false, false, false, false, false, false, false, false, false, false, false, false, false, false, false, false, false] rfl rfl (by kernel_rfl) (fun _ _ _ h => h) (Or.inl ⟨by rfl, ?_⟩) ?_ ?_
  rotate_left
  · intro w'
    go_simp
    with_reducible rfl
  rotate_left
  · simp only [Act.put, List.setIfInBounds_toArray, List.set_cons_zero, List.set_cons_succ, i64_w, i32_w]
    rfl
  refine pure_ (i := 2) (N := some 15) (v := ?_) (a' := ?_) #[true, true, true, false, false, false, false, false, false, false, false, false, false, false, false, false, false, false, false, false, false, false, false, false, false, false, false, false, false, false, false, false, false, false] rfl rfl (by kernel_rfl) (fun _ _ _ h => h) (Or.inl ⟨by rfl, ?_⟩) ?_ ?_
  rotate_left
  · intro w'
    go_simp
    with_reducible rfl
  rotate_left
  · simp only [Act.put, List.setIfInBounds_toArray, List.set_cons_zero, List.set_cons_succ, i64_w, i32_w]
    rfl
  refine pure_ (i := 3) (N := some 16) (v := ?_) (a' := ?_) #[true, true, true, true, false, false, false, false, false, false, false, false, false, false, false, false, false, false, false, false, false, false, false, false, false, false, false, false, false, false, false, false, false, false] rfl rfl (by kernel_rfl) (fun _ _ _ h => h) (Or.inl ⟨by rfl, ?_⟩) ?_ ?_
  rotate_left
  · intro w'
    go_simp
    with_reducible rfl
  rotate_left
  · simp only [Act.put, List.setIfInBounds_toArray, List.set_cons_zero, List.set_cons_succ, i64_w, i32_w]
    rfl
  refine take_ (i := 4) (N := some 17) (v := ?_) (a' := ?_) #[true, true, true, true, true, false, false, false, false, false, false, false, false, false, false, false, false, false, false, false, false, false, false, false, false, false, false, false, false, false, false, false, false, false] rfl rfl (by kernel_rfl) (fun _ _ _ h => h) (Or.inl ⟨by rfl, ?_⟩) hHeld ?_ ?_
  rotate_left
  · rintro w' ⟨s0, s1, s2, s3, s4, s5, s6, s7, s8⟩
    go_simp
    with_reducible rfl
  rotate_left
  · simp only [Act.put, List.setIfInBounds_toArray, List.set_cons_zero, List.set_cons_succ, i64_w, i32_w]
    rfl
  refine pure_ (i := 5) (N := some 18) (v := ?_) (a' := ?_) #[true, true, true, true, true, true, false, false, false, false, false, false, false, false, false, false, false, false, false, false, false, false, false, false, false, false, false, false, false, false, false, false, false, false] rfl rfl (by kernel_rfl) (fun _ _ _ h => h) (Or.inl ⟨by rfl, ?_⟩) ?_ ?_
  rotate_left
  · intro w'
    go_simp
    with_reducible rfl
  rotate_left
  · simp only [Act.put, List.setIfInBounds_toArray, List.set_cons_zero, List.set_cons_succ, i64_w, i32_w]
    rfl
  refine pure_ (i := 6) (N := some 19) (v := ?_) (a' := ?_) #[true, true, true, true, true, true, true, false, false, false, false, false, false, false, false, false, false, false, false, false, false, false, false, false, false, false, false, false, false, false, false, false, false, false] rfl rfl (by kernel_rfl) (fun _ _ _ h => h) (Or.inl ⟨by rfl, ?_⟩) ?_ ?_
  rotate_left
  · intro w'
    go_simp
    with_reducible rfl
  rotate_left
  · simp only [Act.put, List.setIfInBounds_toArray, List.set_cons_zero, List.set_cons_succ, i64_w, i32_w]
    rfl
  refine pure_ (i := 7) (N := some 20) (v := ?_) (a' := ?_) #[true, true, true, true, true, true, true, true, false, false, false, false, false, false, false, false, false, false, false, false, false, false, false, false, false, false, false, false, false, false, false, false, false, false] rfl rfl (by kernel_rfl) (fun _ _ _ h => h) (Or.inl ⟨by rfl, ?_⟩) ?_ ?_
  rotate_left
  · intro w'
    go_simp
    with_reducible rfl
  rotate_left
  · simp only [Act.put, List.setIfInBounds_toArray, List.set_cons_zero, List.set_cons_succ, i64_w, i32_w]
    rfl
  refine pure_ (i := 8) (N := some 21) (v := ?_) (a' := ?_) #[true, true, true, true, true, true, true, true, true, false, false, false, false, false, false, false, false, false, false, false, false, false, false, false, false, false, false, false, false, false, false, false, false, false] rfl rfl (by kernel_rfl) (fun _ _ _ h => h) (Or.inl ⟨by rfl, ?_⟩) ?_ ?_
  rotate_left
  · intro w'
    go_simp
    with_reducible rfl
  rotate_left
  · simp only [Act.put, List.setIfInBounds_toArray, List.set_cons_zero, List.set_cons_succ, i64_w, i32_w]
    rfl
  refine pure_ (i := 9) (N := some 22) (v := ?_) (a' := ?_) #[true, true, true, true, true, true, true, true, true, true, false, false, false, false, false, false, false, false, false, false, false, false, false, false, false, false, false, false, false, false, false, false, false, false] rfl rfl (by kernel_rfl) (fun _ _ _ h => h) (Or.inl ⟨by rfl, ?_⟩) ?_ ?_
  rotate_left
  · intro w'
    go_simp
    with_reducible rfl
  rotate_left
  · simp only [Act.put, List.setIfInBounds_toArray, List.set_cons_zero, List.set_cons_succ, i64_w, i32_w]
    rfl
  refine take_ (i := 10) (N := some 23) (v := ?_) (a' := ?_) #[true, true, true, true, true, true, true, true, true, true, true, false, false, false, false, false, false, false, false, false, false, false, false, false, false, false, false, false, false, false, false, false, false, false] rfl rfl (by kernel_rfl) (fun _ _ _ h => h) (Or.inl ⟨by rfl, ?_⟩) hHeld ?_ ?_
  rotate_left
  · rintro w' ⟨s0, s1, s2, s3, s4, s5, s6, s7, s8⟩
    go_simp
    with_reducible rfl
  rotate_left
  · simp only [Act.put, List.setIfInBounds_toArray, List.set_cons_zero, List.set_cons_succ, i64_w, i32_w]
    rfl
  refine pure_ (i := 11) (N := some 24) (v := ?_) (a' := ?_) #[true, true, true, true, true, true, true, true, true, true, true, true, false, false, false, false, false, false, false, false, false, false, false, false, false, false, false, false, false, false, false, false, false, false] rfl rfl (by kernel_rfl) (fun _ _ _ h => h) (Or.inl ⟨by rfl, ?_⟩) ?_ ?_
  rotate_left
  · intro w'
    go_simp
    with_reducible rfl
  rotate_left
  · simp only [Act.put, List.setIfInBounds_toArray, List.set_cons_zero, List.set_cons_succ, i64_w, i32_w]
    rfl
  refine pure_ (i := 12) (N := some 25) (v := ?_) (a' := ?_) #[true, true, true, true, true, true, true, true, true, true, true, true, true, false, false, false, false, false, false, false, false, false, false, false, false, false, false, false, false, false, false, false, false, false] rfl rfl (by kernel_rfl) (fun _ _ _ h => h) (Or.inl ⟨by rfl, ?_⟩) ?_ ?_
  rotate_left
  · intro w'
    go_simp
    with_reducible rfl
  rotate_left
  · simp only [Act.put, List.setIfInBounds_toArray, List.set_cons_zero, List.set_cons_succ, i64_w, i32_w]
    rfl
  refine take_ (i := 13) (N := some 26) (v := ?_) (a' := ?_) #[true, true, true, true, true, true, true, true, true, true, true, true, true, true, false, false, false, false, false, false, false, false, false, false, false, false, false, false, false, false, false, false, false, false] rfl rfl (by kernel_rfl) (fun _ _ _ h => h) (Or.inl ⟨by rfl, ?_⟩) hHeld ?_ ?_
  rotate_left
  · rintro w' ⟨s0, s1, s2, s3, s4, s5, s6, s7, s8⟩
    go_simp
    with_reducible rfl
  rotate_left
  · simp only [Act.put, List.setIfInBounds_toArray, List.set_cons_zero, List.set_cons_succ, i64_w, i32_w]
    rfl
  refine pure_ (i := 14) (N := some 27) (v := ?_) (a' := ?_) #[true, true, true, true, true, true, true, true, true, true, true, true, true, true, true, false, false, false, false, false, false, false, false, false, false, false, false, false, false, false, false, false, false, false] rfl rfl (by kernel_rfl) (fun _ _ _ h => h) (Or.inl ⟨by rfl, ?_⟩) ?_ ?_
  rotate_left
  · intro w'
    go_simp
    with_reducible rfl
  rotate_left
  · simp only [Act.put, List.setIfInBounds_toArray, List.set_cons_zero, List.set_cons_succ, i64_w, i32_w]
    rfl
  refine pure_ (i := 15) (N := some 28) (v := ?_) (a' := ?_) #[true, true, true, true, true, true, true, true, true, true, true, true, true, true, true, true, false, false, false, false, false, false, false, false, false, false, false, false, false, false, false, false, false, false] rfl rfl (by kernel_rfl) (fun _ _ _ h => h) (Or.inl ⟨by rfl, ?_⟩) ?_ ?_
  rotate_left
  · intro w'
    go_simp
    with_reducible rfl
  rotate_left
  · simp only [Act.put, List.setIfInBounds_toArray, List.set_cons_zero, List.set_cons_succ, i64_w, i32_w]
    rfl
  refine take_ (i := 16) (N := some 29) (v := ?_) (a' := ?_) #[true, true, true, true, true, true, true, true, true, true, true, true, true, true, true, true, true, false, false, false, false, false, false, false, false, false, false, false, false, false, false, false, false, false] rfl rfl (by kernel_rfl) (fun _ _ _ h => h) (Or.inl ⟨by rfl, ?_⟩) hHeld ?_ ?_
  rotate_left
  · rintro w' ⟨s0, s1, s2, s3, s4, s5, s6, s7, s8⟩
    go_simp
    with_reducible rfl
  rotate_left
  · simp only [Act.put, List.setIfInBounds_toArray, List.set_cons_zero, List.set_cons_succ, i64_w, i32_w]
    rfl
  refine one_ (i := 17) (N := some 30) #[true, true, true, true, true, true, true, true, true, true, true, true, true, true, true, true, true, true, false, false, false, false, false, false, false, false, false, false, false, false, false, false, false, false] rfl rfl (by kernel_rfl) (by decide) (fun K hK => ?_)
  refine goes_ Try.func40 (by kernel_rfl) rfl #[.agg #[.int .u64 0, .string ⟨#[]⟩, .int .u64 0, .slice (some ⟨gs, 0, none⟩) 1 1], .int .u64 0, .string ⟨#[]⟩] (by rfl) rfl rfl (by simp only [List.map_toArray, List.map_cons, List.map_nil]; rfl) ?_
  with_reducible refine (HF.out W.drew gs (Kd.C_below HQ.out.k1 (below_drew1 (Below.refl _ W)))).mono ?_
  rintro e w2 ⟨rfl, hb⟩
  refine ⟨_, rfl, ?_⟩
  have hb' : Below W.heap.size W w2 := ⟨hb.os, hb.tape, hb.output, hb.size, hb.block⟩
  have HQ2 := Lib.hid (HQ.out.below hb')
  clear hb hb'
  refine hK.out _ _ ⟨HQ2.out.b0, HQ2.out.b1, HQ2.out.b2, HQ2.out.b3, HQ2.out.c0, HQ2.out.c1, HQ2.out.c2, HQ2.out.c3, HQ2.out.r7⟩ (fun hHeld => ?_)
  clear hK K
  refine norm_ (a' := ?_) ?_ ?_
  rotate_left
  · show Act.put _ (some 30) _ = _
    simp only [Act.put, List.setIfInBounds_toArray, List.set_cons_zero, List.set_cons_succ, i64_w, i32_w]
    rfl
  refine pure_ (i := 18) (N := some 31) (v := ?_) (a' := ?_) #[true, true, true, true, true, true, true, true, true, true, true, true, true, true, true, true, true, true, true, false, false, false, false, false, false, false, false, false, false, false, false, false, false, false] rfl rfl (by kernel_rfl) (fun _ _ _ h => h) (Or.inl ⟨by rfl, ?_⟩) ?_ ?_
  rotate_left
  · intro w'
    go_simp
    with_reducible rfl
  rotate_left
  · simp only [Act.put, List.setIfInBounds_toArray, List.set_cons_zero, List.set_cons_succ, i64_w, i32_w]
    rfl
  refine pure_ (i := 19) (N := some 32) (v := ?_) (a' := ?_) #[true, true, true, true, true, true, true, true, true, true, true, true, true, true, true, true, true, true, true, true, false, false, false, false, false, false, false, false, false, false, false, false, false, false] rfl rfl (by kernel_rfl) (fun _ _ _ h => h) (Or.inl ⟨by rfl, ?_⟩) ?_ ?_
  rotate_left
  · intro w'
    go_simp
    with_reducible rfl
  rotate_left
  · simp only [Act.put, List.setIfInBounds_toArray, List.set_cons_zero, List.set_cons_succ, i64_w, i32_w]
    rfl
  refine pure_ (i := 20) (N := some 33) (v := ?_) (a' := ?_) #[true, true, true, true, true, true, true, true, true, true, true, true, true, true, true, true, true, true, true, true, true, false, false, false, false, false, false, false, false, false, false, false, false, false] rfl rfl (by kernel_rfl) (fun _ _ _ h => h) (Or.inl ⟨by rfl, ?_⟩) ?_ ?_
  rotate_left
  · intro w'
    go_simp
    with_reducible rfl
  rotate_left
  · simp only [Act.put, List.setIfInBounds_toArray, List.set_cons_zero, List.set_cons_succ, i64_w, i32_w]
    rfl
  refine take_ (i := 21) (N := some 34) (v := ?_) (a' := ?_) #[true, true, true, true, true, true, true, true, true, true, true, true, true, true, true, true, true, true, true, true, true, true, false, false, false, false, false, false, false, false, false, false, false, false] rfl rfl (by kernel_rfl) (fun _ _ _ h => h) (Or.inl ⟨by rfl, ?_⟩) hHeld ?_ ?_
  rotate_left
  · rintro w' ⟨s0, s1, s2, s3, s4, s5, s6, s7, s8⟩
    go_simp
    with_reducible rfl
  rotate_left
  · simp only [Act.put, List.setIfInBounds_toArray, List.set_cons_zero, List.set_cons_succ, i64_w, i32_w]
    rfl
  refine take_ (i := 23) (N := some 36) (v := ?_) (a' := ?_) #[true, true, true, true, true, true, true, true, true, true, true, true, true, true, true, true, true, true, true, true, true, true, false, true, false, false, false, false, false, false, false, false, false, false] rfl rfl (by kernel_rfl) (fun _ _ _ h => h) (Or.inl ⟨by rfl, ?_⟩) hHeld ?_ ?_
  rotate_left
  · rintro w' ⟨s0, s1, s2, s3, s4, s5, s6, s7, s8⟩
    go_simp
    with_reducible rfl
  rotate_left
  · simp only [Act.put, List.setIfInBounds_toArray, List.set_cons_zero, List.set_cons_succ, i64_w, i32_w]
    rfl
  refine one_ (i := 22) (N := some 35) #[true, true, true, true, true, true, true, true, true, true, true, true, true, true, true, true, true, true, true, true, true, true, true, true, false, false, false, false, false, false, false, false, false, false] rfl rfl (by kernel_rfl) (by decide) (fun K hK => ?_)
  refine goes_ Try.func14 (by kernel_rfl) rfl #[.agg #[.int .u64 0, .string ⟨#[]⟩, .int .u64 0, .slice (some ⟨gs, 0, none⟩) 1 1]] (by rfl) rfl rfl (by simp only [List.map_toArray, List.map_cons, List.map_nil]; rfl) ?_
  with_reducible refine (HH.out _ _ _ HQ2.out.k1).mono ?_
  rintro e w3 ⟨rfl, hb⟩
  refine ⟨_, rfl, ?_⟩
  have HQ3 := Lib.hid (HQ2.out.below hb)
  clear hb
  refine hK.out _ _ ⟨HQ3.out.b0, HQ3.out.b1, HQ3.out.b2, HQ3.out.b3, HQ3.out.c0, HQ3.out.c1, HQ3.out.c2, HQ3.out.c3, HQ3.out.r7⟩ (fun hHeld => ?_)
  clear hK K
  refine norm_ (a' := ?_) ?_ ?_
  rotate_left
  · show Act.put _ (some 35) _ = _
    simp only [Act.put, List.setIfInBounds_toArray, List.set_cons_zero, List.set_cons_succ, i64_w, i32_w]
    rfl
  refine one_ (i := 24) (N := some 37) #[true, true, true, true, true, true, true, true, true, true, true, true, true, true, true, true, true, true, true, true, true, true, true, true, true, false, false, false, false, false, false, false, false, false] rfl rfl (by kernel_rfl) (by decide) (fun K hK => ?_)
  refine goes_ Try.func14 (by kernel_rfl) rfl #[.agg #[.int .u64 0, .string ⟨#[]⟩, .int .u64 0, .slice (some ⟨gr, 0, none⟩) 1 cr]] (by rfl) rfl rfl (by simp only [List.map_toArray, List.map_cons, List.map_nil]; rfl) ?_
  with_reducible refine (HG.out _ _ _ HQ3.out.k2).mono ?_
  rintro e w4 ⟨rfl, hb⟩
  refine ⟨_, rfl, ?_⟩
  have HQ4 := Lib.hid (HQ3.out.below hb)
  clear hb
  refine hK.out _ _ ⟨HQ4.out.b0, HQ4.out.b1, HQ4.out.b2, HQ4.out.b3, HQ4.out.c0, HQ4.out.c1, HQ4.out.c2, HQ4.out.c3, HQ4.out.r7⟩ (fun hHeld => ?_)
  clear hK K
  refine norm_ (a' := ?_) ?_ ?_
  rotate_left
  · show Act.put _ (some 37) _ = _
    simp only [Act.put, List.setIfInBounds_toArray, List.set_cons_zero, List.set_cons_succ, i64_w, i32_w]
    rfl
  refine pure_ (i := 25) (N := some 38) (v := ?_) (a' := ?_) #[true, true, true, true, true, true, true, true, true, true, true, true, true, true, true, true, true, true, true, true, true, true, true, true, true, true, false, false, false, false, false, false, false, false] rfl rfl (by kernel_rfl) (fun _ _ _ h => h) (Or.inl ⟨by rfl, ?_⟩) ?_ ?_
  rotate_left
  · intro w'
    go_simp
    with_reducible rfl
  rotate_left
  · simp only [Act.put, List.setIfInBounds_toArray, List.set_cons_zero, List.set_cons_succ, i64_w, i32_w]
    rfl
  refine pure_ (i := 26) (N := some 39) (v := ?_) (a' := ?_) #[true, true, true, true, true, true, true, true, true, true, true, true, true, true, true, true, true, true, true, true, true, true, true, true, true, true, true, false, false, false, false, false, false, false] rfl rfl (by kernel_rfl) (fun _ _ _ h => h) (Or.inl ⟨by rfl, ?_⟩) ?_ ?_
  rotate_left
  · intro w'
    go_simp
    with_reducible rfl
  rotate_left
  · simp only [Act.put, List.setIfInBounds_toArray, List.set_cons_zero, List.set_cons_succ, i64_w, i32_w]
    rfl
  refine pure_ (i := 27) (N := some 40) (v := ?_) (a' := ?_) #[true, true, true, true, true, true, true, true, true, true, true, true, true, true, true, true, true, true, true, true, true, true, true, true, true, true, true, true, false, false, false, false, false, false] rfl rfl (by kernel_rfl) (fun _ _ _ h => h) (Or.inl ⟨by rfl, ?_⟩) ?_ ?_
  rotate_left
  · intro w'
    go_simp
    with_reducible rfl
  rotate_left
  · simp only [Act.put, List.setIfInBounds_toArray, List.set_cons_zero, List.set_cons_succ, i64_w, i32_w]
    rfl
  refine take_ (i := 28) (N := some 41) (v := ?_) (a' := ?_) #[true, true, true, true, true, true, true, true, true, true, true, true, true, true, true, true, true, true, true, true, true, true, true, true, true, true, true, true, true, false, false, false, false, false] rfl rfl (by kernel_rfl) (fun _ _ _ h => h) (Or.inl ⟨by rfl, ?_⟩) hHeld ?_ ?_
  rotate_left
  · rintro w' ⟨s0, s1, s2, s3, s4, s5, s6, s7, s8⟩
    go_simp
    with_reducible rfl
  rotate_left
  · simp only [Act.put, List.setIfInBounds_toArray, List.set_cons_zero, List.set_cons_succ, i64_w, i32_w]
    rfl
  refine one_ (i := 29) (N := some 42) #[true, true, true, true, true, true, true, true, true, true, true, true, true, true, true, true, true, true, true, true, true, true, true, true, true, true, true, true, true, true, false, false, false, false] rfl rfl (by kernel_rfl) (by decide) (fun K hK => ?_)
  refine goes_ Try.func14 (by kernel_rfl) rfl #[.agg #[.int .u64 0, .string ⟨#[]⟩, .int .u64 0, .slice (some ⟨gs, 0, none⟩) 1 1]] (by rfl) rfl rfl (by simp only [List.map_toArray, List.map_cons, List.map_nil]; rfl) ?_
  with_reducible refine (HH.out _ _ _ HQ4.out.k1).mono ?_
  rintro e w5 ⟨rfl, hb⟩
  refine ⟨_, rfl, ?_⟩
  have HQ5 := Lib.hid (HQ4.out.below hb)
  clear hb
  refine hK.out _ _ ⟨HQ5.out.b0, HQ5.out.b1, HQ5.out.b2, HQ5.out.b3, HQ5.out.c0, HQ5.out.c1, HQ5.out.c2, HQ5.out.c3, HQ5.out.r7⟩ (fun hHeld => ?_)
  clear hK K
  refine norm_ (a' := ?_) ?_ ?_
  rotate_left
  · show Act.put _ (some 42) _ = _
    simp only [Act.put, List.setIfInBounds_toArray, List.set_cons_zero, List.set_cons_succ, i64_w, i32_w]
    rfl
  refine pure_ (i := 30) (N := some 43) (v := ?_) (a' := ?_) #[true, true, true, true, true, true, true, true, true, true, true, true, true, true, true, true, true, true, true, true, true, true, true, true, true, true, true, true, true, true, true, false, false, false] rfl rfl (by kernel_rfl) (fun _ _ _ h => h) (Or.inl ⟨by rfl, ?_⟩) ?_ ?_
  rotate_left
  · intro w'
    go_simp
    with_reducible rfl
  rotate_left
  · simp only [Act.put, List.setIfInBounds_toArray, List.set_cons_zero, List.set_cons_succ, i64_w, i32_w]
    rfl
  refine pure_ (i := 31) (N := some 44) (v := ?_) (a' := ?_) #[true, true, true, true, true, true, true, true, true, true, true, true, true, true, true, true, true, true, true, true, true, true, true, true, true, true, true, true, true, true, true, true, false, false] rfl rfl (by kernel_rfl) (fun _ _ _ h => h) (Or.inl ⟨by rfl, ?_⟩) ?_ ?_
  rotate_left
  · intro w'
    go_simp
    with_reducible rfl
  rotate_left
  · simp only [Act.put, List.setIfInBounds_toArray, List.set_cons_zero, List.set_cons_succ, i64_w, i32_w]
    rfl
  refine pure_ (i := 32) (N := some 45) (v := ?_) (a' := ?_) #[true, true, true, true, true, true, true, true, true, true, true, true, true, true, true, true, true, true, true, true, true, true, true, true, true, true, true, true, true, true, true, true, true, false] rfl rfl (by kernel_rfl) (fun _ _ _ h => h) (Or.inl ⟨by rfl, ?_⟩) ?_ ?_
  rotate_left
  · intro w'
    go_simp
    with_reducible rfl
  rotate_left
  · simp only [Act.put, List.setIfInBounds_toArray, List.set_cons_zero, List.set_cons_succ, i64_w, i32_w]
    rfl
  refine pure_ (i := 33) (N := some 0) (v := ?_) (a' := ?_) #[true, true, true, true, true, true, true, true, true, true, true, true, true, true, true, true, true, true, true, true, true, true, true, true, true, true, true, true, true, true, true, true, true, true] rfl rfl (by kernel_rfl) (fun _ _ _ h => h) (Or.inl ⟨by rfl, ?_⟩) ?_ ?_
  rotate_left
  · intro w'
    go_simp
    with_reducible rfl
  rotate_left
  · simp only [Act.put, List.setIfInBounds_toArray, List.set_cons_zero, List.set_cons_succ, i64_w, i32_w]
    rfl
  refine done_ (by kernel_rfl) ?_
  go_wp2
  go_ret
  exact ⟨rfl, HQ5.out.b⟩
end Go.Proofs.Ytdcbacbilncnnaa.T
end
section
/- Header, Block and awake of a block, in the printed form. -/
set_option linter.unusedVariables false
set_option linter.unusedSimpArgs false
namespace Go.Proofs.Ytdcbacbilncnnaa.T
open Go.RowKit Go.Proofs.Ytdcbacbilncnnaa.PMk Go.Proofs.Ytdcbacbilncnnaa.EncL Go.Proofs.YtdcbacbilncnnaaW.PrintWords Go.Proofs.YtdcbacbilncnnaaW.PrintLast Go.Proofs.YtdcbacbilncnnaaW.PrintMore
def fx (x : S47) : Bool := decide (0 ≤ x.f3 ∧ x.f3 < 18446744073709551616 ∧ 0 ≤ x.f4 ∧ x.f4 < 18446744073709551616 ∧ x.f1.size ≤ 1125899906842624 ∧ x.f2.size ≤ 1125899906842624 ∧ x.f5.size ≤ 1125899906842624)
end Go.Proofs.Ytdcbacbilncnnaa.T
namespace Go.Proofs.Ytdcbacbilncnnaa.Blk
open Go.RowKit Go.Proofs.Ytdcbacbilncnnaa.PMk Go.Proofs.Ytdcbacbilncnnaa.T Go.Proofs.Ytdcbacbilncnnaa.EncL Go.Proofs.YtdcbacbilncnnaaW.PrintWords Go.Proofs.YtdcbacbilncnnaaW.PrintLast Go.Proofs.YtdcbacbilncnnaaW.PrintMore
def law_awake.f : Option Bool := some true
theorem law_awake.calls (r : Bool) (w : World) (h : law_awake.f = some r) : Calls Try.prog 12 #[] w fun e w' => e = .returned (.bool r) ∧ Below w.heap.size w w' := by
  obtain rfl := Option.some.inj h
  exact awake_raw w
end Go.Proofs.Ytdcbacbilncnnaa.Blk
end
section
namespace Go.Proofs.Ytdcbacbilncnnaa.PMl
open Go.RowKit Go.Proofs.Ytdcbacbilncnnaa.PMk Go.Proofs.YtdcbacbilncnnaaW.PrintWords Go.Proofs.YtdcbacbilncnnaaW.PrintLast Go.Proofs.YtdcbacbilncnnaaW.PrintMore
attribute [local go_sem] max2_int min2_int max_two min_two max_three min_three max_four min_four   -- for this text's walks alone
set_option linter.unusedVariables false
set_option linter.unusedSimpArgs false
/-! ### block_Hash: function 14 -/
/-! ### parchmentlaw09_BlockReads: function 7 -/
mutual
def parchmentlaw09_BlockReads.j0 : Nat → ByteArray → Option (Bool)
 | 0, _ => none
 | k + 1, x0 => (Blk.block_Read.f k x0).bind fun bt115 => ((PMk.parchmentref09_Read.f k x0).bind fun bt123 => ((Blk.law_awake.f).bind fun t131 => (if t131 = true then (parchmentlaw09_BlockReads.j1 k x0 bt123.2.2.2.2 (bt115.2.2.2.2 != bt123.2.2.2.2) bt115.1 bt115.2.1 bt115.2.2.1 bt115.2.2.2.1 bt123.1 bt123.2.1 bt123.2.2.1 bt123.2.2.2.1) else (parchmentlaw09_BlockReads.j1 k x0 bt123.2.2.2.2 true bt115.1 bt115.2.1 bt115.2.2.1 bt115.2.2.2.1 bt123.1 bt123.2.1 bt123.2.2.1 bt123.2.2.2.1))))
def parchmentlaw09_BlockReads.j1 : Nat → ByteArray → Int → Bool → Int → ByteArray → Int → List (S47) → Int → ByteArray → Int → List (S44) → Option (Bool)
 | 0, _, _, _, _, _, _, _, _, _, _, _ => none
 | k + 1, x0, x6, x28, x123000, x123001, x123002, x123003, x131000, x131001, x131002, x131003 => if x28 = true then (some false) else (if x6 = 0 then ((PMk.block_Frame.f k x123000 x123001 x123002 x123003).bind fun t132 => (if t132.toList = x0.toList then ((PMk.parchmentref09_Frame.f k x131000 x131001 x131002 x131003).bind fun t133 => (some (t133.toList == x0.toList))) else (some false))) else (if x123000 = 0 then (if x123001.toList = ([] : List UInt8) then (some ((x123003.length : Int) == 0)) else (some false)) else (some false)))
end
def parchmentlaw09_BlockReads.f (k : Nat) (a0 : ByteArray) : Option (Bool) := if (a0.size : Int) > 2000 then (if 0 ≤ 2000 then (if 2000 ≤ (a0.size : Int) then (parchmentlaw09_BlockReads.j0 k (a0.extract 0 2000)) else (none)) else (none)) else (parchmentlaw09_BlockReads.j0 k a0)
set_option maxHeartbeats 8000000 in
set_option maxRecDepth 100000 in
theorem parchmentlaw09_BlockReads.calls (k : Nat) (a0 : ByteArray) (r : Bool) (w : World) (h : parchmentlaw09_BlockReads.f k a0 = some r) :
  Calls Try.prog 7 #[.string a0] w fun e w' => e = .returned (.bool r) ∧ Below w.heap.size w w' := by
 have hu25 := Try.underlying25
 have hu28 := Try.underlying28
 have HB := Aside0.mk (Below.refl w.heap.size w)
 have H : (if (a0.size : Int) > 2000 then (if 0 ≤ 2000 then (if 2000 ≤ (a0.size : Int) then (parchmentlaw09_BlockReads.j0 k (a0.extract 0 2000)) else (none)) else (none)) else (parchmentlaw09_BlockReads.j0 k a0)) = some r := h
 clear h
 have HC2 := Aside0.mk H
 clear H
 go_enter Try.func7, Try.ntmps7
 go_upto_if 9 with (fail)
 go_cut [0] (fun v0 wc => ∃ (kq : Nat) (x0_1 : ByteArray), v0 = .string x0_1 ∧ Aside0 (parchmentlaw09_BlockReads.j0 kq x0_1 = some r) ∧ Aside0 (kq ≤ k) ∧ Aside0 (Below w.heap.size w wc))
 case first =>
  have H := HC2.out
  clear HC2
  by_cases c3 : (a0.size : Int) > 2000
  ·rw [if_pos c3] at H
   have c3b0 : decide (2000 < (a0.size : Int)) = true := decide_eq_true c3
   have c3b1 : decide (2000 < a0.size) = true := decide_eq_true (by omega)
   clear c3
   (first | rw [c3b0] | (simp only [i64_w, i32_w]; rw [c3b0]) | skip)
   by_cases c4 : 0 ≤ 2000
   ·rw [if_pos c4] at H
    have c4b0 := eq_true c4
    have c4b1 : decide (0 ≤ 2000) = true := decide_eq_true c4
    clear c4
    by_cases c5 : 2000 ≤ (a0.size : Int)
    ·rw [if_pos c5] at H
     have c5b0 := eq_true c5
     have c5b1 : decide (2000 ≤ (a0.size : Int)) = true := decide_eq_true c5
     clear c5
     have H' := Aside0.mk H
     clear H
     go_wp2
     go_meet
     case rel => exact ⟨_, (a0.extract 0 2000), (by first | rfl | (simp; done) | (simp [*]; done)), H', ⟨by first | omega | exact Nat.le_refl _⟩, ⟨bh_ HB.out⟩⟩
    ·rw [if_neg c5] at H
     exact absurd H (by simp)
   ·rw [if_neg c4] at H
    exact absurd H (by simp)
  ·rw [if_neg c3] at H
   have c3b0 : decide (2000 < (a0.size : Int)) = false := decide_eq_false c3
   have c3b1 : decide (2000 < a0.size) = false := decide_eq_false (by omega)
   clear c3
   (first | rw [c3b0] | (simp only [i64_w, i32_w]; rw [c3b0]) | skip)
   have H' := Aside0.mk H
   clear H
   go_wp2
   go_meet
   case rel => exact ⟨_, (a0), (by first | rfl | (simp; done) | (simp [*]; done)), H', ⟨by first | omega | exact Nat.le_refl _⟩, ⟨bh_ HB.out⟩⟩
 case rest =>
  clear HC2
  try clear p2
  try clear c3
  try clear c3b0
  try clear c3b1
  try clear c4
  try clear c4b0
  try clear c4b1
  try clear c5
  try clear c5b0
  try clear c5b1
  obtain ⟨kq, x0_1, rfl, HA, HJ1, HB⟩ := hcut
  cases kq with
  | zero => exact absurd HA.out (by simp [parchmentlaw09_BlockReads.j0])
  | succ kj1 =>
   have H := HA.out
   clear HA
   simp only [parchmentlaw09_BlockReads.j0] at H
   replace H := Option.bind_eq_some_iff.mp H
   obtain ⟨⟨t115, t116, t117, t118, t121⟩, A60, H⟩ := H
   replace H : ((PMk.parchmentref09_Read.f kj1 x0_1).bind fun bt123 => ((Blk.law_awake.f).bind fun t131 => (if t131 = true then (parchmentlaw09_BlockReads.j1 kj1 x0_1 bt123.2.2.2.2 (t121 != bt123.2.2.2.2) t115 t116 t117 t118 bt123.1 bt123.2.1 bt123.2.2.1 bt123.2.2.2.1) else (parchmentlaw09_BlockReads.j1 kj1 x0_1 bt123.2.2.2.2 true t115 t116 t117 t118 bt123.1 bt123.2.1 bt123.2.2.1 bt123.2.2.2.1)))) = some r := H
   have A6 := Aside0.mk A60
   clear A60
   replace H := Option.bind_eq_some_iff.mp H
   obtain ⟨⟨t123, t124, t125, t126, t129⟩, A70, H⟩ := H
   replace H : ((Blk.law_awake.f).bind fun t131 => (if t131 = true then (parchmentlaw09_BlockReads.j1 kj1 x0_1 t129 (t121 != t129) t115 t116 t117 t118 t123 t124 t125 t126) else (parchmentlaw09_BlockReads.j1 kj1 x0_1 t129 true t115 t116 t117 t118 t123 t124 t125 t126))) = some r := H
   have A7 := Aside0.mk A70
   clear A70
   have HC8 := Aside0.mk H
   clear H
   go_upto_region 5 with (first | ((with_reducible refine gate_callee (f := 32) rfl ?_); refine gl_ (some 14) Try.func32 #[.string x0_1] ?_; (with_reducible refine (Blk.block_Read.calls kj1 x0_1 t115 t116 t117 t118 t121 _ A6.out).mono ?_); rintro e w9 ⟨v119, rfl, ho0, hb⟩; refine ⟨_, rfl, ?_⟩; have HO120 := Aside0.mk (Kd.R_lower ho0 (below_size (bh_ HB.out))); replace HB := Aside0.mk (below_step (bh_ HB.out) hb); (try clear hb); (try clear ho0)) | ((with_reducible refine gate_dst (N := 3) rfl ?_); (try (refine gate_guard (by rfl) ?_; dsimp only)); refine box_event ?hg (N := 3) ?hd (cs := #[.int .u64 0, .string (⟨#[]⟩ : ByteArray), .int .u64 0, .slice none 0 0]) (t := 25) ?hr ?_; (case hd => rfl); (case hg => rfl); (case hr => first | (go_simp; done) | (go_simp; rfl)); intro gb122 hg w10 hbox hb; have n0_ := Aside0.mk (Kd.R_below (br_ HO120.out) hb); have n1_ := Aside0.mk (below_step (bh_ HB.out) hb); have n2_ := Aside0.mk (hbox); have n3_ := Aside0.mk ((by rw [hg]; exact (below_size (bh_ HB.out)) : w.heap.size ≤ gb122)); have n4_ := Aside0.mk ((by rw [hg]; exact (below_size (bh_ HB.out)) : w.heap.size ≤ gb122)); clear HO120; clear HB; have HO120 := n0_; have HB := n1_; have BK122 := n2_; have GW122 := n3_; have GE122 := n4_; clear n0_ n1_ n2_ n3_ n4_; clear hb hbox hg; obtain ⟨z11_0, z11_1, z11_2, z11_3, f11_0, f11_1, f11_2, f11_3⟩ := bc4_ BK122.out; obtain ⟨Ao12, co12, eo12⟩ := Kd.R_slice HO120.out; subst eo12) | ((with_reducible refine gate_callee (f := 33) rfl ?_); refine gl_ (some 19) Try.func33 #[.string x0_1] ?_; (with_reducible refine (PMk.parchmentref09_Read.calls kj1 x0_1 t123 t124 t125 t126 t129 _ A7.out).mono ?_); rintro e w13 ⟨v127, rfl, ho0, hb⟩; refine ⟨_, rfl, ?_⟩; replace HO120 := Aside0.mk (Kd.R_below (by (with_reducible repeat (first | apply Kd.R_alloc | apply Kd.R_drewN | apply Kd.R_drew)); exact (Kd.R_mono (Kd.R_far (p := ⟨gb122, 3, none⟩) (Kd.R_far (p := ⟨gb122, 2, none⟩) (Kd.R_far (p := ⟨gb122, 1, none⟩) (Kd.R_far (p := ⟨gb122, 0, none⟩) (Kd.R_types HO120.out BK122.out (by decide)) (fun _ hk => hk.2) (.int .u64 t115)) (fun _ hk => hk.2) (.string t116)) (fun _ hk => hk.2) (.int .u64 t117)) (fun _ hk => hk.2) (.slice Ao12 t118.length co12)) (fun _ h_ => h_.1))) hb); have HO128 := Aside0.mk (Kd.R_lower ho0 (below_size (bh_ HB.out))); replace BK122 := Aside0.mk (bp_ (o' := .cells #[.int .u64 t115, .string t116, .int .u64 t117, .slice Ao12 t118.length co12] 25 (0, 0)) BK122.out hb); replace HB := Aside0.mk (below_step (bh_ HB.out) hb); (try clear hb); (try clear ho0)) | ((with_reducible refine gate_dst (N := 5) rfl ?_); (try (refine gate_guard (by rfl) ?_; dsimp only)); refine box_event ?hg (N := 5) ?hd (cs := #[.int .u64 0, .string (⟨#[]⟩ : ByteArray), .int .u64 0, .slice none 0 0]) (t := 28) ?hr ?_; (case hd => rfl); (case hg => rfl); (case hr => first | (go_simp; done) | (go_simp; rfl)); intro gb130 hg w14 hbox hb; have n0_ := Aside0.mk (Kd.R_below (br_ HO120.out) hb); have n1_ := Aside0.mk (Kd.R_below (br_ HO128.out) hb); have n2_ := Aside0.mk (bk_ BK122.out hb); have n3_ := Aside0.mk (below_step (bh_ HB.out) hb); have n4_ := Aside0.mk (hbox); have n5_ := Aside0.mk ((by rw [hg]; exact (below_size (bh_ HB.out)) : w.heap.size ≤ gb130)); have n6_ := Aside0.mk ((by rw [hg]; exact (below_size (bh_ HB.out)) : w.heap.size ≤ gb130)); have n7_ := Aside0.mk ((by rw [hg]; exact Nat.ne_of_lt (blk_lt (g := gb122) (o := .cells #[.int .u64 t115, .string t116, .int .u64 t117, .slice Ao12 t118.length co12] 25 (0, 0)) (bz_ BK122.out)) : gb122 ≠ gb130)); have n8_ := Aside0.mk ((by rw [hg]; exact Nat.ne_of_gt (blk_lt (g := gb122) (o := .cells #[.int .u64 t115, .string t116, .int .u64 t117, .slice Ao12 t118.length co12] 25 (0, 0)) (bz_ BK122.out)) : gb130 ≠ gb122)); clear HO120; clear HO128; clear BK122; clear HB; have HO120 := n0_; have HO128 := n1_; have BK122 := n2_; have HB := n3_; have BK130 := n4_; have GW130 := n5_; have GE130 := n6_; have NB122_130 := n7_; have NB130_122 := n8_; clear n0_ n1_ n2_ n3_ n4_ n5_ n6_ n7_ n8_; clear hb hbox hg; have hnb15 := NB130_122.out; have hnc15 := NB122_130.out; obtain ⟨z16_0, z16_1, z16_2, z16_3, f16_0, f16_1, f16_2, f16_3⟩ := bc4_ BK130.out; obtain ⟨Ao17, co17, eo17⟩ := Kd.R_slice HO128.out; subst eo17))
   (try simp only [Act.put, q1_, q2_, q3_])
   go_cut [28] (fun v28 wc => ∃ (kq : Nat) (x28_7 : Bool), v28 = .bool x28_7 ∧ Aside0 (parchmentlaw09_BlockReads.j1 kq x0_1 t129 x28_7 t115 t116 t117 t118 t123 t124 t125 t126 = some r) ∧ Aside0 (kq ≤ kj1) ∧ Aside0 (Kd.R k47 47 wc w.heap.size (fun _ => True) (.slice Ao12 t118.length co12) t118) ∧ Aside0 (Kd.R k44 44 wc w.heap.size (fun _ => True) (.slice Ao17 t126.length co17) t126) ∧ Aside0 (wc.heap[gb122]? = some (.cells #[.int .u64 t115, .string t116, .int .u64 t117, (.slice Ao12 t118.length co12)] 25 (0, 0))) ∧ Aside0 (wc.heap[gb130]? = some (.cells #[.int .u64 t123, .string t124, .int .u64 t125, (.slice Ao17 t126.length co17)] 28 (0, 0))) ∧ Aside0 (Below w.heap.size w wc))
   case first =>
    have H := HC8.out
    clear HC8
    replace H := Option.bind_eq_some_iff.mp H
    obtain ⟨t131, A180, H⟩ := H
    replace H : (if t131 = true then (parchmentlaw09_BlockReads.j1 kj1 x0_1 t129 (t121 != t129) t115 t116 t117 t118 t123 t124 t125 t126) else (parchmentlaw09_BlockReads.j1 kj1 x0_1 t129 true t115 t116 t117 t118 t123 t124 t125 t126)) = some r := H
    have A18 := Aside0.mk A180
    clear A180
    by_cases c19 : t131 = true
    ·subst c19
     have H1 : (parchmentlaw09_BlockReads.j1 kj1 x0_1 t129 (t121 != t129) t115 t116 t117 t118 t123 t124 t125 t126) = some r := by rw [if_pos rfl] at H; exact H
     clear H
     have H := H1
     clear H1
     have H' := Aside0.mk H
     clear H
     go_wp2_with (first | ((with_reducible refine gate_callee (f := 12) rfl ?_); refine gl_ (some 22) Try.func12 #[] ?_; (with_reducible refine (Blk.law_awake.calls  true _ A18.out).mono ?_); rintro e w20 ⟨rfl, hb⟩; refine ⟨_, rfl, ?_⟩; replace HO120 := Aside0.mk (Kd.R_below (by (with_reducible repeat (first | apply Kd.R_alloc | apply Kd.R_drewN | apply Kd.R_drew)); exact (Kd.R_mono (Kd.R_far (p := ⟨gb130, 3, none⟩) (Kd.R_far (p := ⟨gb130, 2, none⟩) (Kd.R_far (p := ⟨gb130, 1, none⟩) (Kd.R_far (p := ⟨gb130, 0, none⟩) (Kd.R_types HO120.out BK130.out (by decide)) (fun _ hk => hk.2) (.int .u64 t123)) (fun _ hk => hk.2) (.string t124)) (fun _ hk => hk.2) (.int .u64 t125)) (fun _ hk => hk.2) (.slice Ao17 t126.length co17)) (fun _ h_ => h_.1))) hb); replace HO128 := Aside0.mk (Kd.R_below (by (with_reducible repeat (first | apply Kd.R_alloc | apply Kd.R_drewN | apply Kd.R_drew)); exact (Kd.R_mono (Kd.R_far (p := ⟨gb130, 3, none⟩) (Kd.R_far (p := ⟨gb130, 2, none⟩) (Kd.R_far (p := ⟨gb130, 1, none⟩) (Kd.R_far (p := ⟨gb130, 0, none⟩) (Kd.R_types HO128.out BK130.out (by decide)) (fun _ hk => hk.2) (.int .u64 t123)) (fun _ hk => hk.2) (.string t124)) (fun _ hk => hk.2) (.int .u64 t125)) (fun _ hk => hk.2) (.slice Ao17 t126.length co17)) (fun _ h_ => h_.1))) hb); replace BK122 := Aside0.mk (bf_ BK122.out hb); replace BK130 := Aside0.mk (bp_ (o' := .cells #[.int .u64 t123, .string t124, .int .u64 t125, .slice Ao17 t126.length co17] 28 (0, 0)) BK130.out hb); replace HB := Aside0.mk (below_step (bh_ HB.out) hb); (try clear hb)))
     go_meet
     case rel => exact ⟨_, ((t121 != t129)), (by first | rfl | (simp; done) | (simp [*]; done)), H', ⟨by have := HJ1.out; first | omega | exact Nat.le_refl _⟩, ⟨br_ HO120.out⟩, ⟨br_ HO128.out⟩, ⟨bz_ BK122.out⟩, ⟨bz_ BK130.out⟩, ⟨bh_ HB.out⟩⟩
    ·replace c19 := Bool.eq_false_iff.mpr c19
     subst c19
     have H1 : (parchmentlaw09_BlockReads.j1 kj1 x0_1 t129 true t115 t116 t117 t118 t123 t124 t125 t126) = some r := by rw [if_neg (show ¬ (false = true) by decide)] at H; exact H
     clear H
     have H := H1
     clear H1
     have H' := Aside0.mk H
     clear H
     go_wp2_with (first | ((with_reducible refine gate_callee (f := 12) rfl ?_); refine gl_ (some 22) Try.func12 #[] ?_; (with_reducible refine (Blk.law_awake.calls  false _ A18.out).mono ?_); rintro e w21 ⟨rfl, hb⟩; refine ⟨_, rfl, ?_⟩; replace HO120 := Aside0.mk (Kd.R_below (by (with_reducible repeat (first | apply Kd.R_alloc | apply Kd.R_drewN | apply Kd.R_drew)); exact (Kd.R_mono (Kd.R_far (p := ⟨gb130, 3, none⟩) (Kd.R_far (p := ⟨gb130, 2, none⟩) (Kd.R_far (p := ⟨gb130, 1, none⟩) (Kd.R_far (p := ⟨gb130, 0, none⟩) (Kd.R_types HO120.out BK130.out (by decide)) (fun _ hk => hk.2) (.int .u64 t123)) (fun _ hk => hk.2) (.string t124)) (fun _ hk => hk.2) (.int .u64 t125)) (fun _ hk => hk.2) (.slice Ao17 t126.length co17)) (fun _ h_ => h_.1))) hb); replace HO128 := Aside0.mk (Kd.R_below (by (with_reducible repeat (first | apply Kd.R_alloc | apply Kd.R_drewN | apply Kd.R_drew)); exact (Kd.R_mono (Kd.R_far (p := ⟨gb130, 3, none⟩) (Kd.R_far (p := ⟨gb130, 2, none⟩) (Kd.R_far (p := ⟨gb130, 1, none⟩) (Kd.R_far (p := ⟨gb130, 0, none⟩) (Kd.R_types HO128.out BK130.out (by decide)) (fun _ hk => hk.2) (.int .u64 t123)) (fun _ hk => hk.2) (.string t124)) (fun _ hk => hk.2) (.int .u64 t125)) (fun _ hk => hk.2) (.slice Ao17 t126.length co17)) (fun _ h_ => h_.1))) hb); replace BK122 := Aside0.mk (bf_ BK122.out hb); replace BK130 := Aside0.mk (bp_ (o' := .cells #[.int .u64 t123, .string t124, .int .u64 t125, .slice Ao17 t126.length co17] 28 (0, 0)) BK130.out hb); replace HB := Aside0.mk (below_step (bh_ HB.out) hb); (try clear hb)))
     go_meet
     case rel => exact ⟨_, (true), (by first | rfl | (simp; done) | (simp [*]; done)), H', ⟨by have := HJ1.out; first | omega | exact Nat.le_refl _⟩, ⟨br_ HO120.out⟩, ⟨br_ HO128.out⟩, ⟨bz_ BK122.out⟩, ⟨bz_ BK130.out⟩, ⟨bh_ HB.out⟩⟩
   case rest =>
    clear HC8
    try clear c1
    try clear p2
    try clear c3
    try clear c3b0
    try clear c3b1
    try clear c4
    try clear c4b0
    try clear c4b1
    try clear c5
    try clear c5b0
    try clear c5b1
    try clear c7
    try clear c12
    try clear c15
    try clear c19
    try clear z11_0 z11_1 z11_2 z11_3
    try clear z16_0 z16_1 z16_2 z16_3
    try clear f11_0 f11_1 f11_2 f11_3
    try clear f16_0 f16_1 f16_2 f16_3
    try clear p2
    obtain ⟨kq, x28_7, rfl, HA, HJ7, HO_123003, HO_131003, BK122, BK130, HB⟩ := hcut
    cases kq with
    | zero => exact absurd HA.out (by simp [parchmentlaw09_BlockReads.j1])
    | succ kj7 =>
     have H := HA.out
     clear HA
     simp only [parchmentlaw09_BlockReads.j1] at H
     by_cases c22 : x28_7 = true
     ·subst c22
      have H1 : (some false) = some r := by rw [if_pos rfl] at H; exact H
      clear H
      have H := H1
      clear H1
      obtain rfl := Option.some.inj H
      go_wp2
      go_ret
      exact ⟨by first | rfl | (simp [errW_none, errW_some] <;> rfl) | (simp [*, errW_none, errW_some] <;> rfl), by repeat (first | (with_reducible first | exact HB.out | apply below_alloc | apply pw_below_drewN | apply below_drew1 | refine below_set ?_ GE122.out | refine below_set ?_ GE130.out) | exact HB.out)⟩
     ·replace c22 := Bool.eq_false_iff.mpr c22
      subst c22
      have H1 : (if t129 = 0 then ((PMk.block_Frame.f kj7 t115 t116 t117 t118).bind fun t132 => (if t132.toList = x0_1.toList then ((PMk.parchmentref09_Frame.f kj7 t123 t124 t125 t126).bind fun t133 => (some (t133.toList == x0_1.toList))) else (some false))) else (if t115 = 0 then (if t116.toList = ([] : List UInt8) then (some ((t118.length : Int) == 0)) else (some false)) else (some false))) = some r := by rw [if_neg (show ¬ (false = true) by decide)] at H; exact H
      clear H
      have H := H1
      clear H1
      by_cases c23 : t129 = 0
      ·rw [if_pos c23] at H
       have c23b0 : (t129 == 0) = true := beq_iff_eq.mpr c23
       have c23b1 : (t129 != 0) = false := bne_eq_false_iff_eq.mpr c23
       clear c23
       replace H := Option.bind_eq_some_iff.mp H
       obtain ⟨t132, A240, H⟩ := H
       replace H : (if t132.toList = x0_1.toList then ((PMk.parchmentref09_Frame.f kj7 t123 t124 t125 t126).bind fun t133 => (some (t133.toList == x0_1.toList))) else (some false)) = some r := H
       have A24 := Aside0.mk A240
       clear A240
       by_cases c25 : t132.toList = x0_1.toList
       ·rw [if_pos c25] at H
        have c25b0 : (t132.toList == x0_1.toList) = true := beq_iff_eq.mpr c25
        have c25b1 : (t132.toList != x0_1.toList) = false := bne_eq_false_iff_eq.mpr c25
        clear c25
        replace H := Option.bind_eq_some_iff.mp H
        obtain ⟨t133, A260, H⟩ := H
        replace H : (some (t133.toList == x0_1.toList)) = some r := H
        have A26 := Aside0.mk A260
        clear A260
        obtain rfl := Option.some.inj H
        have hnb27 := NB122_130.out
        have hnc27 := NB130_122.out
        obtain ⟨z28_0, z28_1, z28_2, z28_3, f28_0, f28_1, f28_2, f28_3⟩ := bc4_ BK122.out
        go_wp2_with (first | ((with_reducible refine gate_callee (f := 34) rfl ?_); refine gl_ (some 46) Try.func34 #[.agg #[.int .u64 t115, .string t116, .int .u64 t117, .slice Ao12 t118.length co12]] ?_; (with_reducible refine (PMk.block_Frame.calls kj7 t115 t116 t117 _ _ t118 t132 _ ?side1 ?side2 A24.out).mono ?_); (case side1 => repeat (first | exact (Kd.R_reads' HO_123003.out).2.2 | (with_reducible refine Kd.C_alloc ?_ _) | (with_reducible refine Kd.C_drewN ?_ _) | (with_reducible refine Kd.C_drew ?_))); (case side2 => exact (Kd.R_reads' HO_123003.out).2.1); rintro e w29 ⟨rfl, hb⟩; refine ⟨_, rfl, ?_⟩; replace HO_123003 := Aside0.mk (Kd.R_below (br_ HO_123003.out) hb); replace HO_131003 := Aside0.mk (Kd.R_below (br_ HO_131003.out) hb); replace BK122 := Aside0.mk (bk_ BK122.out hb); replace BK130 := Aside0.mk (bk_ BK130.out hb); replace HB := Aside0.mk (below_step (bh_ HB.out) hb); (try clear hb); obtain ⟨z30_0, z30_1, z30_2, z30_3, f30_0, f30_1, f30_2, f30_3⟩ := bc4_ BK130.out) | (go_at_call 17; (with_reducible refine (PMk.parchmentref09_Frame.calls kj7 t123 t124 t125 _ _ t126 t133 _ ?side1 ?side2 A26.out).mono ?_); (case side1 => repeat (first | exact (Kd.R_reads' HO_131003.out).2.2 | (with_reducible refine Kd.C_alloc ?_ _) | (with_reducible refine Kd.C_drewN ?_ _) | (with_reducible refine Kd.C_drew ?_))); (case side2 => exact (Kd.R_reads' HO_131003.out).2.1); rintro e w31 ⟨rfl, hb⟩; replace HO_123003 := Aside0.mk (Kd.R_below (br_ HO_123003.out) hb); replace HO_131003 := Aside0.mk (Kd.R_below (br_ HO_131003.out) hb); replace BK122 := Aside0.mk (bk_ BK122.out hb); replace BK130 := Aside0.mk (bk_ BK130.out hb); replace HB := Aside0.mk (below_step (bh_ HB.out) hb); (try clear hb)))
        go_ret
        exact ⟨by first | rfl | (simp [errW_none, errW_some] <;> rfl) | (simp [*, errW_none, errW_some] <;> rfl), by repeat (first | (with_reducible first | exact HB.out | apply below_alloc | apply pw_below_drewN | apply below_drew1 | refine below_set ?_ GE122.out | refine below_set ?_ GE130.out) | exact HB.out)⟩
       ·rw [if_neg c25] at H
        have c25b0 : (t132.toList == x0_1.toList) = false := beq_eq_false_iff_ne.mpr c25
        have c25b1 : (t132.toList != x0_1.toList) = true := bne_iff_ne.mpr c25
        obtain rfl := Option.some.inj H
        have hnb32 := NB122_130.out
        have hnc32 := NB130_122.out
        obtain ⟨z33_0, z33_1, z33_2, z33_3, f33_0, f33_1, f33_2, f33_3⟩ := bc4_ BK122.out
        go_wp2_with (first | ((with_reducible refine gate_callee (f := 34) rfl ?_); refine gl_ (some 46) Try.func34 #[.agg #[.int .u64 t115, .string t116, .int .u64 t117, .slice Ao12 t118.length co12]] ?_; (with_reducible refine (PMk.block_Frame.calls kj7 t115 t116 t117 _ _ t118 t132 _ ?side1 ?side2 A24.out).mono ?_); (case side1 => repeat (first | exact (Kd.R_reads' HO_123003.out).2.2 | (with_reducible refine Kd.C_alloc ?_ _) | (with_reducible refine Kd.C_drewN ?_ _) | (with_reducible refine Kd.C_drew ?_))); (case side2 => exact (Kd.R_reads' HO_123003.out).2.1); rintro e w34 ⟨rfl, hb⟩; refine ⟨_, rfl, ?_⟩; replace HO_123003 := Aside0.mk (Kd.R_below (br_ HO_123003.out) hb); replace HO_131003 := Aside0.mk (Kd.R_below (br_ HO_131003.out) hb); replace BK122 := Aside0.mk (bk_ BK122.out hb); replace BK130 := Aside0.mk (bk_ BK130.out hb); replace HB := Aside0.mk (below_step (bh_ HB.out) hb); (try clear hb)))
        go_ret
        exact ⟨by first | rfl | (simp [errW_none, errW_some] <;> rfl) | (simp [*, errW_none, errW_some] <;> rfl), by repeat (first | (with_reducible first | exact HB.out | apply below_alloc | apply pw_below_drewN | apply below_drew1 | refine below_set ?_ GE122.out | refine below_set ?_ GE130.out) | exact HB.out)⟩
      ·rw [if_neg c23] at H
       have c23b0 : (t129 == 0) = false := beq_eq_false_iff_ne.mpr c23
       have c23b1 : (t129 != 0) = true := bne_iff_ne.mpr c23
       by_cases c35 : t115 = 0
       ·rw [if_pos c35] at H
        have c35b0 : (t115 == 0) = true := beq_iff_eq.mpr c35
        have c35b1 : (t115 != 0) = false := bne_eq_false_iff_eq.mpr c35
        clear c35
        by_cases c36 : t116.toList = ([] : List UInt8)
        ·rw [if_pos c36] at H
         have c36b0 : (t116.toList == ([] : List UInt8)) = true := beq_iff_eq.mpr c36
         have c36b1 : (t116.toList != ([] : List UInt8)) = false := bne_eq_false_iff_eq.mpr c36
         have c36b3 : (!t116.toList.isEmpty) = false := by rw [c36]; rfl
         clear c36
         obtain rfl := Option.some.inj H
         have hnb37 := NB122_130.out
         have hnc37 := NB130_122.out
         obtain ⟨z38_0, z38_1, z38_2, z38_3, f38_0, f38_1, f38_2, f38_3⟩ := bc4_ BK122.out
         go_wp2
         go_ret
         exact ⟨by first | rfl | (simp [errW_none, errW_some] <;> rfl) | (simp [*, errW_none, errW_some] <;> rfl), by repeat (first | (with_reducible first | exact HB.out | apply below_alloc | apply pw_below_drewN | apply below_drew1 | refine below_set ?_ GE122.out | refine below_set ?_ GE130.out) | exact HB.out)⟩
        ·rw [if_neg c36] at H
         have c36b0 : (t116.toList == ([] : List UInt8)) = false := beq_eq_false_iff_ne.mpr c36
         have c36b1 : (t116.toList != ([] : List UInt8)) = true := bne_iff_ne.mpr c36
         have c36b3 : (!t116.toList.isEmpty) = true := by cases h_ : t116.toList with | nil => exact absurd h_ c36 | cons _ _ => rfl
         obtain rfl := Option.some.inj H
         have hnb39 := NB122_130.out
         have hnc39 := NB130_122.out
         obtain ⟨z40_0, z40_1, z40_2, z40_3, f40_0, f40_1, f40_2, f40_3⟩ := bc4_ BK122.out
         go_wp2
         go_ret
         exact ⟨by first | rfl | (simp [errW_none, errW_some] <;> rfl) | (simp [*, errW_none, errW_some] <;> rfl), by repeat (first | (with_reducible first | exact HB.out | apply below_alloc | apply pw_below_drewN | apply below_drew1 | refine below_set ?_ GE122.out | refine below_set ?_ GE130.out) | exact HB.out)⟩
       ·rw [if_neg c35] at H
        have c35b0 : (t115 == 0) = false := beq_eq_false_iff_ne.mpr c35
        have c35b1 : (t115 != 0) = true := bne_iff_ne.mpr c35
        obtain rfl := Option.some.inj H
        have hnb41 := NB122_130.out
        have hnc41 := NB130_122.out
        obtain ⟨z42_0, z42_1, z42_2, z42_3, f42_0, f42_1, f42_2, f42_3⟩ := bc4_ BK122.out
        go_wp2
        go_ret
        exact ⟨by first | rfl | (simp [errW_none, errW_some] <;> rfl) | (simp [*, errW_none, errW_some] <;> rfl), by repeat (first | (with_reducible first | exact HB.out | apply below_alloc | apply pw_below_drewN | apply below_drew1 | refine below_set ?_ GE122.out | refine below_set ?_ GE130.out) | exact HB.out)⟩
/-- THE ONE PURE STATEMENT of parchmentlaw09_BlockReads: yours. -/
def parchmentlaw09_BlockReads.Pure : Prop := ∀ (a0 : ByteArray), a0.size ≤ 140737488351232 → ∃ k, parchmentlaw09_BlockReads.f k a0 = some true
theorem parchmentlaw09_BlockReads.walk (P : parchmentlaw09_BlockReads.Pure) (a0 : ByteArray) (w : World) (w0 : a0.size ≤ 140737488351232) :
  Calls Try.prog 7 #[.string a0] w fun e w' => e = .returned (.bool true) ∧ Below w.heap.size w w' := by
 obtain ⟨k, h⟩ := P a0 w0
 refine (parchmentlaw09_BlockReads.calls k a0 true w h).mono ?_
 rintro e w' ⟨rfl, hd⟩
 exact ⟨rfl, hd⟩
end Go.Proofs.Ytdcbacbilncnnaa.PMl
end
section
/- BlockReads, plain: what is read has these bytes. -/
set_option linter.unusedVariables false
set_option linter.unusedSimpArgs false
namespace Go.Proofs.Ytdcbacbilncnnaa.T
open Go.RowKit Go.Proofs.Ytdcbacbilncnnaa.PMk Go.Proofs.Ytdcbacbilncnnaa.PMl Go.Proofs.Ytdcbacbilncnnaa.M Go.Proofs.Ytdcbacbilncnnaa.EncS Go.Proofs.Ytdcbacbilncnnaa.EncL Go.Proofs.YtdcbacbilncnnaaW.PrintWords Go.Proofs.YtdcbacbilncnnaaW.PrintLast
theorem uintS_take (s : ByteArray) (p : Nat) (e : Int) (h : (uintS s p e).2.2 = 0) : e = 0 ∧ s.toList.drop p = encU (uintS s p e).1 ++ s.toList.drop (uintS s p e).2.1 ∧ (uintS s p e).1 < 18446744073709551616 := by
  unfold uintS at h ⊢
  by_cases he : e = 0
  · rw [if_pos he] at h ⊢
    generalize hr : decU (s.toList.drop p) 0 0 = r at h ⊢
    obtain ⟨e1, c, v⟩ := r
    by_cases h1 : e1 = 0
    · subst h1
      rw [if_pos rfl]
      obtain ⟨ht, _, hc, hv⟩ := taken _ _ _ hr
      refine ⟨he, ?_, hv⟩
      show s.toList.drop p = encU v ++ s.toList.drop (p + c)
      rw [ht, ← List.drop_drop, List.take_append_drop]
    · rw [if_neg h1] at h
      exact absurd (show ((e1 : Nat) : Int) = 0 from h) (by omega)
  · rw [if_neg he] at h
    exact absurd h he
theorem bytesS_take (s : ByteArray) (p : Nat) (e n : Int) (hp : p ≤ s.size) (h : (bytesS s p e n).2.2 = 0) : e = 0 ∧ s.toList.drop p = (bytesS s p e n).1.toList ++ s.toList.drop (bytesS s p e n).2.1 ∧ (bytesS s p e n).1.size = n.toNat := by
  obtain ⟨he, hn, hz⟩ := (bytesS_ok s p e n hp).2.2.2 h
  refine ⟨he, ?_, hz⟩
  unfold bytesS at h ⊢
  rw [if_pos he] at h ⊢
  by_cases h1 : n < 0
  · omega
  · rw [if_neg h1] at h ⊢
    by_cases h2 : n > (s.size : Int) - p
    · rw [if_pos h2] at h; exact absurd (show (4 : Int) = 0 from h) (by decide)
    · rw [if_neg h2]
      show s.toList.drop p = (s.extract p (p + n.toNat)).toList ++ s.toList.drop (p + n.toNat)
      have ex : (s.extract p (p + n.toNat)).toList = (s.toList.drop p).take n.toNat := by
        rw [ByteArray.toList_eq, ByteArray.toList_eq, ByteArray.data_extract, Array.toList_extract, List.extract_eq_take_drop]
        congr 1; omega
      rw [ex, ← List.drop_drop, List.take_append_drop]
theorem countS_take (s : ByteArray) (p : Nat) (e m : Int) (h : (countS s p e m).2.2 = 0) : e = 0 ∧ s.toList.drop p = encU (countS s p e m).1.toNat ++ s.toList.drop (countS s p e m).2.1 := by
  unfold countS at h ⊢
  by_cases he : e = 0
  · rw [if_pos he] at h ⊢
    by_cases h1 : (uintS s p 0).2.2 = 0
    · rw [if_pos h1] at h ⊢
      obtain ⟨_, h2, _⟩ := uintS_take s p 0 h1
      by_cases h3 : m < 0 ∨ ((uintS s p 0).1 : Int) > m
      · rw [if_pos h3] at h; exact absurd (show (3 : Int) = 0 from h) (by decide)
      · rw [if_neg h3]; exact ⟨he, h2⟩
    · rw [if_neg h1] at h; exact absurd h h1
  · rw [if_neg he] at h; exact absurd h he
theorem textS_take (s : ByteArray) (p : Nat) (e m : Int) (hp : p ≤ s.size) (h : (textS s p e m).2.2 = 0) : e = 0 ∧ s.toList.drop p = txt (textS s p e m).1 ++ s.toList.drop (textS s p e m).2.1 := by
  obtain ⟨h1, _, h0, _⟩ := countS_ok s p e (mn m 1048576) hp
  unfold textS at h ⊢
  split at h
  · next hb =>
    rw [if_pos hb]
    obtain ⟨hc, hd, hz⟩ := bytesS_take s _ _ _ h1 hb
    obtain ⟨he, hd'⟩ := countS_take s p e (mn m 1048576) hc
    refine ⟨he, ?_⟩
    rw [hd', hd]
    unfold txt
    rw [hz, List.append_assoc]
  · next hb => exact absurd h hb
theorem one_list {b : ByteArray} (h : b.size = 1) : b.toList = [byt (bt b 0)] := by
  have hl : b.toList.length = 1 := by rw [toList_len]; exact h
  obtain ⟨x, hx⟩ := List.length_eq_one_iff.1 hl
  have := bt_at_drop b 0 x [] (by rw [List.drop_zero]; exact hx)
  rw [hx]
  have e : bt b 0 = (x.toNat : Int) := this.1
  rw [e]
  congr 1
  unfold byt
  have hb := x.toNat_lt
  have : ((x.toNat : Int) % 256).toNat = x.toNat := by omega
  rw [this]
  exact (UInt8.ofNat_toNat).symm
theorem rev_take (s : ByteArray) (p : Nat) (e : Int) (hs : s.size ≤ 1125899906842624) (hp : p ≤ s.size) (h : (rH s p e).2.2 = 0) :
    e = 0 ∧ s.toList.drop p = mx (rX s p e) ++ s.toList.drop (rH s p e).2.1 ∧ Fits (rX s p e).f3 (rX s p e).f4 (rX s p e).f1 (rX s p e).f2 (rX s p e).f5 := by
  have P := ps s p e hp
  obtain ⟨h5, d5⟩ := textS_take s _ _ 32 P.v h
  obtain ⟨h4, d4, b4⟩ := uintS_take s _ _ h5
  obtain ⟨h3, d3, b3⟩ := uintS_take s _ _ h4
  obtain ⟨h2, d2⟩ := textS_take s _ _ 16 P.t h3
  obtain ⟨h1, d1⟩ := textS_take s _ _ 16 P.b h2
  obtain ⟨h0, d0, z0⟩ := bytesS_take s p e 1 hp h1
  have t1 := (textS_ok s (rB s p e).2.1 (rB s p e).2.2 16 P.b).2
  have t2 := (textS_ok s (rT s p e).2.1 (rT s p e).2.2 16 P.t).2
  have t5 := (textS_ok s (rV s p e).2.1 (rV s p e).2.2 32 P.v).2
  refine ⟨h0, ?_, Int.natCast_nonneg _, by show ((rD s p e).1 : Int) < _; have : (rD s p e).1 < 18446744073709551616 := b3; omega, Int.natCast_nonneg _, by show ((rV s p e).1 : Int) < _; have : (rV s p e).1 < 18446744073709551616 := b4; omega, Nat.le_trans t1 hs, Nat.le_trans t2 hs, Nat.le_trans t5 hs⟩
  have o : (rX s p e).f0 = bt (rB s p e).1 0 := by show opS _ = _; unfold opS; rw [if_pos h1]
  have n3 : num (rX s p e).f3 = encU (rD s p e).1 := by show encU ((rD s p e).1 : Int).toNat = _; rw [Int.toNat_natCast]
  have n4 : num (rX s p e).f4 = encU (rV s p e).1 := by show encU ((rV s p e).1 : Int).toNat = _; rw [Int.toNat_natCast]
  have e0 : s.toList.drop p = [byt (bt (rB s p e).1 0)] ++ s.toList.drop (rB s p e).2.1 := by
    rw [← one_list (b := (rB s p e).1) z0]; exact d0
  have e1 : s.toList.drop (rB s p e).2.1 = txt (rX s p e).f1 ++ s.toList.drop (rT s p e).2.1 := d1
  have e2 : s.toList.drop (rT s p e).2.1 = txt (rX s p e).f2 ++ s.toList.drop (rF s p e).2.1 := d2
  have e3 : s.toList.drop (rF s p e).2.1 = encU (rD s p e).1 ++ s.toList.drop (rD s p e).2.1 := d3
  have e4 : s.toList.drop (rD s p e).2.1 = encU (rV s p e).1 ++ s.toList.drop (rV s p e).2.1 := d4
  have e5 : s.toList.drop (rV s p e).2.1 = txt (rX s p e).f5 ++ s.toList.drop (rH s p e).2.1 := d5
  unfold mx mt
  rw [n3, n4, o, e0, e1, e2, e3, e4, e5]
  simp only [List.cons_append, List.append_assoc, List.nil_append]
theorem loop_take (s : ByteArray) (hs : s.size ≤ 1125899906842624) : ∀ (n p : Nat) (e : Int) (acc : List S47), p ≤ s.size → (loopS s n p e acc).2.2 = 0 →
    e = 0 ∧ ∃ l, (loopS s n p e acc).1 = acc ++ l ∧ l.length = n ∧ FitsL l ∧ s.toList.drop p = l.flatMap mx ++ s.toList.drop (loopS s n p e acc).2.1 ∧ (loopS s n p e acc).2.1 ≤ s.size := by
  intro n
  induction n with
  | zero =>
    intro p e acc hp h
    exact ⟨h, [], by simp [loopS], rfl, fun x hx => absurd hx (by simp), by simp [loopS], hp⟩
  | succ n ih =>
    intro p e acc hp h
    rw [loopS] at h ⊢
    by_cases he : e = 0
    · rw [if_pos he] at h ⊢
      obtain ⟨h1, l, h2, h3, h4, h5, h6⟩ := ih _ _ _ (ps s p e hp).h h
      obtain ⟨_, d, f⟩ := rev_take s p e hs hp h1
      refine ⟨he, rX s p e :: l, ?_, by simp [h3], ?_, ?_, h6⟩
      · rw [h2, List.append_assoc, List.singleton_append]
      · intro x hx
        rcases List.mem_cons.1 hx with rfl | hx
        · exact f
        · exact h4 x hx
      · rw [d, h5, List.flatMap_cons, List.append_assoc]
    · rw [if_neg he] at h
      exact absurd h he
/-- What Read took has these bytes. -/
theorem read_ok (s : ByteArray) (hs : s.size ≤ 1125899906842624) (h : (readS s).2.2.2.2 = 0) :
    ∃ (a0 : Int) (a1 : ByteArray) (a2 : Int) (l : List S47), readS s = (a0, a1, a2, l, 0) ∧ FitsB a0 a1 a2 l ∧ frm a0 a1 a2 l = s := by
  have P := pq s
  unfold readS at h ⊢
  by_cases hE : qE s = 0
  · rw [if_pos hE] at h ⊢
    by_cases hC : chks (qL s).1 = 0
    · rw [if_pos hC] at h ⊢
      have hE' := hE
      unfold qE at hE'
      have hL : (qL s).2.2 = 0 ∧ ¬ (qL s).2.1 < s.size := by
        by_cases hh : (qL s).2.2 = 0 ∧ (qL s).2.1 < s.size
        · rw [if_pos hh] at hE'; exact absurd hE' (by decide)
        · rw [if_neg hh] at hE'; exact ⟨hE', fun q => hh ⟨hE', q⟩⟩
      obtain ⟨hc, l, e1, e2, e3, e4, e5⟩ := loop_take s hs (qC s).1.toNat (qC s).2.1 (qC s).2.2 [] P.c hL.1
      obtain ⟨hx, d3⟩ := countS_take s _ _ 64 hc
      obtain ⟨hp, d2, b2⟩ := uintS_take s _ _ hx
      obtain ⟨hq, d1⟩ := textS_take s _ _ 32 P.q hp
      obtain ⟨_, d0, b0⟩ := uintS_take s 0 0 hq
      have hl : (qL s).1 = l := e1
      have t1 := (textS_ok s (qQ s).2.1 (qQ s).2.2 32 P.q).2
      have n1 := P.n1
      have n0 := P.n0
      refine ⟨_, _, _, _, rfl, ⟨Int.natCast_nonneg _, by have : (qQ s).1 < 18446744073709551616 := b0; omega, Nat.le_trans t1 hs, Int.natCast_nonneg _, by have : (qX s).1 < 18446744073709551616 := b2; omega, by rw [hl]; exact e3, by rw [hl, e2]; omega⟩, ?_⟩
      rw [hl]
      apply eq_toList.1
      rw [frm_toList]
      have f0 : s.toList = encU (qQ s).1 ++ s.toList.drop (qQ s).2.1 := by rw [List.drop_zero] at d0; exact d0
      have f1 : s.toList.drop (qQ s).2.1 = txt (qP s).1 ++ s.toList.drop (qP s).2.1 := d1
      have f2 : s.toList.drop (qP s).2.1 = encU (qX s).1 ++ s.toList.drop (qX s).2.1 := d2
      have f3 : s.toList.drop (qX s).2.1 = encU l.length ++ s.toList.drop (qC s).2.1 := by rw [e2]; exact d3
      have f4 : s.toList.drop (qC s).2.1 = l.flatMap mx := by
        have hz : s.toList.drop (loopS s (qC s).1.toNat (qC s).2.1 (qC s).2.2 []).2.1 = [] := List.drop_eq_nil_of_le (by rw [toList_len]; have : ¬ (loopS s (qC s).1.toNat (qC s).2.1 (qC s).2.2 []).2.1 < s.size := hL.2; omega)
        rw [e4, hz, List.append_nil]
      unfold num
      rw [Int.toNat_natCast, Int.toNat_natCast]
      conv => rhs; rw [f0, f1, f2, f3, f4]
    · rw [if_neg hC] at h; exact absurd h hC
  · rw [if_neg hE] at h; exact absurd h hE
theorem read_bad (s : ByteArray) (h : (readS s).2.2.2.2 ≠ 0) : (readS s).1 = 0 ∧ (readS s).2.1 = ⟨#[]⟩ ∧ (readS s).2.2.2.1 = [] := by
  unfold readS at h ⊢
  by_cases hE : qE s = 0
  · rw [if_pos hE] at h ⊢
    by_cases hC : chks (qL s).1 = 0
    · rw [if_pos hC] at h; exact absurd rfl h
    · rw [if_neg hC]; exact ⟨rfl, rfl, rfl⟩
  · rw [if_neg hE]; exact ⟨rfl, rfl, rfl⟩
/-- The program's Frame. -/
theorem pfrm_l0 (l : List S47) (g : FitsL l) (hn : l.length < 1000) (P : ByteArray) (hP : P.size ≤ 1125899906842700) : ∀ (m i : Nat), i + m = l.length →
    Ev (fun k => block_Frame.l0 k (P ++ S ((l.take i).flatMap mx)) l (l.length : Int) (i : Int)) (P ++ S (l.flatMap mx)) := by
  intro m
  induction m with
  | zero =>
    intro i hi
    refine Ev.step (f := fun k => some (P ++ S (l.flatMap mx))) (fun k => ?_) (Ev.now _)
    rw [block_Frame.l0, if_neg (by omega), List.take_of_length_le (by omega)]
  | succ m ih =>
    intro i hi
    have hlt : i < l.length := by omega
    refine Ev.step (f := fun k => _) (fun k => by rw [block_Frame.l0, if_pos (by omega), if_pos (by omega), if_pos (by omega), wr1 i l.length hlt (by omega)]) ?_
    have gx := g _ (rd_mem l i hlt)
    refine Ev.bind (meta_ev _ _ gx) ?_
    have hz := mt_len (op := (rd_T47 l (i : Int)).f0) gx
    have hf := flat_len (l := l.take i) (fun y hy => g y (List.mem_of_mem_take hy))
    rw [List.length_take] at hf
    have e : (P ++ S ((l.take i).flatMap mx)) ++ S (mx (rd_T47 l (i : Int))) = P ++ S ((l.take (i + 1)).flatMap mx) := by
      rw [ByteArray.append_assoc, S_append]
      congr 2
      rw [List.take_succ_eq_append_getElem hlt, List.flatMap_append]
      unfold rd_T47
      simp [List.getD_eq_getElem?_getD, List.getElem?_eq_getElem hlt]
    have hmin : (min i l.length) * 3377699720527973 ≤ 1000 * 3377699720527973 := Nat.mul_le_mul_right _ (by omega)
    refine Ev.congr (fun k => if_pos ?_) ?_
    · rw [ByteArray.size_append, S_size]
      show P.size + _ + (S (mt _ _ _ _ _ _)).size ≤ _
      rw [S_size]
      omega
    · refine Ev.congr (fun k => ?_) (ih (i + 1) (by omega))
      rw [← e]
      rfl
theorem p_frame (a0 : Int) (a1 : ByteArray) (a2 : Int) (l : List S47) (g : FitsB a0 a1 a2 l) : Ev (fun k => block_Frame.f k a0 a1 a2 l) (frm a0 a1 a2 l) := by
  obtain ⟨h1, h2, h3, h4⟩ := pre_size g
  have hn := g.n
  have hw := u64_in (l.length : Int) (by omega) (by omega)
  unfold block_Frame.f
  rw [hw]
  refine Ev.bind (num_ev a0 g.p0 g.p1) ?_
  refine Ev.bind (text_f a1 (by have := g.s; omega)) ?_
  show Ev (fun k => if (S (num a0)).size + (S (txt a1)).size ≤ 9223372036854775807 then _ else none) _
  refine Ev.congr (fun k => if_pos (by omega)) ?_
  refine Ev.bind (num_ev a2 g.q0 g.q1) ?_
  refine Ev.congr (fun k => if_pos (by show (S (num a0) ++ S (txt a1)).size + _ ≤ _; rw [ByteArray.size_append]; omega)) ?_
  refine Ev.bind (uint_f l.length (by omega)) ?_
  refine Ev.congr (fun k => if_pos (by show ((S (num a0) ++ S (txt a1)) ++ S (num a2)).size + _ ≤ _; rw [ByteArray.size_append, ByteArray.size_append]; omega)) ?_
  have hp : (pre a0 a1 a2 l.length).size ≤ 1125899906842700 := by
    unfold pre
    rw [ByteArray.size_append, ByteArray.size_append, ByteArray.size_append]
    omega
  have h := pfrm_l0 l g.ls hn (pre a0 a1 a2 l.length) hp l.length 0 (by omega)
  refine Ev.congr (fun k => ?_) h
  show block_Frame.l0 k (pre a0 a1 a2 l.length) l (l.length : Int) 0 = block_Frame.l0 k (pre a0 a1 a2 l.length ++ S []) l (l.length : Int) 0
  congr 1
  exact (ByteArray.append_empty).symm
theorem reads_j0 (s : ByteArray) (hs : s.size ≤ 2000) : Ev (fun k => parchmentlaw09_BlockReads.j0 k s) true := by
  refine Ev.step (f := fun k => _) (fun k => by rw [parchmentlaw09_BlockReads.j0]) ?_
  refine Ev.bind (a := readS s) (Ev.congr (fun k => if_pos (by omega)) (Ev.now _)) ?_
  refine Ev.bind (r_read s (by omega)) ?_
  simp only [Blk.law_awake.f, Option.bind_some, if_true]
  refine Ev.step (f := fun k => _) (fun k => by rw [parchmentlaw09_BlockReads.j1]) ?_
  have hb : ((readS s).2.2.2.2 != (rfT (readS s)).2.2.2.2) = false := bne_self_eq_false _
  refine Ev.congr (fun k => if_neg (by rw [hb]; decide)) ?_
  by_cases he : (readS s).2.2.2.2 = 0
  · obtain ⟨a0, a1, a2, l, hr, g, hf⟩ := read_ok s (by omega) he
    refine Ev.congr (fun k => if_pos (show (rfT (readS s)).2.2.2.2 = 0 from he)) ?_
    rw [hr]
    refine Ev.bind (p_frame a0 a1 a2 l g) ?_
    rw [hf]
    refine Ev.congr (fun k => if_pos rfl) ?_
    refine Ev.bind (r_frame a0 a1 a2 l g) ?_
    rw [hf, beq_self_eq_true]
    exact Ev.now _
  · refine Ev.congr (fun k => if_neg (show ¬ (rfT (readS s)).2.2.2.2 = 0 from he)) ?_
    obtain ⟨h1, h2, h3⟩ := read_bad s he
    refine Ev.congr (f := fun _ => some true) (fun k => ?_) (Ev.now _)
    rw [if_pos h1, if_pos (by rw [h2]; exact S_toList []), h3]
    rfl
theorem reads (s : ByteArray) : ∃ k, parchmentlaw09_BlockReads.f k s = some true := by
  refine Ev.rounds (g := fun k => parchmentlaw09_BlockReads.f k s) ?_
  unfold parchmentlaw09_BlockReads.f
  by_cases h : (s.size : Int) > 2000
  · simp only [if_pos h]
    refine Ev.congr (fun k => if_pos (by decide)) ?_
    refine Ev.congr (fun k => if_pos (by omega)) ?_
    exact reads_j0 _ (by rw [ByteArray.size_extract]; omega)
  · simp only [if_neg h]
    exact reads_j0 s (by omega)
end Go.Proofs.Ytdcbacbilncnnaa.T
end
section
/- BlockReads: the rounds. -/
namespace Go.Proofs.Ytdcbacbilncnnaa.Pure
open Go.RowKit Go.Proofs.Ytdcbacbilncnnaa.PMl
theorem BlockReads : parchmentlaw09_BlockReads.Pure := fun a0 _ => T.reads a0
end Go.Proofs.Ytdcbacbilncnnaa.Pure
end
