/- Part 7 of what the proof of ProofShows stands on. -/
import Derived.Lib.SmallJoins
import Derived.ChangeSlices
import Derived.Deep.Slices
import Derived.SizedLaws
import Derived.ProofKit
import Derived.Test.YtdcbacbilncnnaaPsh6
section
/- ProofShows, walked. Written by wip/genps.py. -/
set_option linter.unusedVariables false
set_option linter.unusedSimpArgs false
namespace Go.Proofs.Ytdcbacbilncnnaa.T
open Go.RowKit Go.Proofs.Ytdcbacbilncnnaa.PMk Go.Proofs.Ytdcbacbilncnnaa.M Go.Proofs.Ytdcbacbilncnnaa.EncS Go.Proofs.Ytdcbacbilncnnaa.EncL Go.Proofs.YtdcbacbilncnnaaW.PrintWords Go.Proofs.YtdcbacbilncnnaaW.PrintLast
theorem chain_nil (A : Option Addr) (c : Nat) (w : World) (hC : Kd.C (Kd.int .i64) w A 0 []) : Calls Try.prog 26 #[.slice A 0 c] w fun e w' => ∃ p A1 c1, e = .returned (.tuple #[.slice A1 0 c1, p]) ∧ Below w.heap.size w w' := by
  refine (chain_raw A c [] w hC).mono ?_
  rintro e w' ⟨g, vl, vp, vb, rfl, h⟩
  obtain ⟨A1, c1, rfl⟩ := Kd.R_slice h.out.r
  exact ⟨_, A1, c1, rfl, h.out.b⟩
set_option maxRecDepth 100000 in
set_option maxHeartbeats 40000000 in
theorem ps_nil (A : Option Addr) (c : Nat) (a0 a1 a2 : Int) (w : World) (hC : Kd.C (Kd.int .i64) w A 0 []) :
    Calls Try.prog 8 #[.slice A 0 c, .agg #[.int .i64 a0, .int .i64 a1, .int .i64 a2]] w fun e w' => e = .returned (.bool true) ∧ Below w.heap.size w w' := by
  have HB0 := Lib.hid ((Below.refl w.heap.size w).alloc (Nat.le_refl _) (.cells #[.int .i64 a0, .int .i64 a1, .int .i64 a2] 78))
  have HCH := Lib.hid (fun w' hb => chain_nil A c w' (Kd.C_below hC hb))
  clear hC
  go_enter Try.func8, Try.ntmps8
  go_upto_region 2 with (go_at_call 26; refine (HCH.out _ HB0.out).mono ?_; rintro e w1 ⟨p, A1, c1, rfl, hb⟩; have HB1 := Lib.hid (HB0.out.trans (hb.mono HB0.out.size)); clear hb)
  go_upto_if 29 with (go_at_call 23; refine (awake22 _).mono ?_; rintro e w2 ⟨rfl, hb⟩; have HB2 := Lib.hid (HB1.out.trans (hb.mono HB1.out.size)); clear hb)
  go_wp2_with (go_at_call 23; refine (awake22 _).mono ?_; rintro e w3 ⟨rfl, hb⟩; have HB3 := Lib.hid (HB2.out.trans (hb.mono HB2.out.size)); clear hb)
  go_ret
  exact ⟨rfl, HB3.out⟩
set_option maxRecDepth 100000 in
set_option maxHeartbeats 40000000 in
theorem ps_big (A : Option Addr) (c len T : Nat) (zs : List Int) (a0 a1 a2 R : Int) (k M : Nat) (w : World) (hl : zs.length = len) (hT : min len 8 = T) (hT0 : 0 < T) (hC : Kd.C (Kd.int .i64) w A len zs) (hr0 : -(T : Int) < R) (hr1 : R < (T : Int)) (hR : a0.tmod (T : Int) = R) (hk : (R + (T : Int)).tmod (T : Int) = (k : Int)) (hkT : k < T) (hM : cnt (zs.getD k 0) = M) (n : Int) (hn : IntKind.u64.wrap a2 = n) (hTn : (T : Int) < n) :
    Calls Try.prog 8 #[.slice A len c, .agg #[.int .i64 a0, .int .i64 a1, .int .i64 a2]] w fun e w' => e = .returned (.bool true) ∧ Below w.heap.size w w' := by
  have HB0 := Lib.hid ((Below.refl w.heap.size w).alloc (Nat.le_refl _) (.cells #[.int .i64 a0, .int .i64 a1, .int .i64 a2] 78))
  have BK0 := Lib.hid (heap_alloc_new w (.cells #[.int .i64 a0, .int .i64 a1, .int .i64 a2] 78 (0, 0)))
  have HCH : Hid (∀ w', Below w.heap.size w w' → Calls Try.prog 26 #[.slice A len c] w' fun e w2 => ∃ g vl vp A1 c1, e = .returned (.tuple #[.slice A1 T c1, .pointer (some ⟨g, 0, none⟩)]) ∧ Hid (CH w' w2 g vl vp (.slice A1 T c1) (bks zs T))) := Lib.hid (fun w' hb => by
    subst hl
    refine (chain_raw A c zs w' (Kd.C_below hC hb)).mono ?_
    rintro e w2 ⟨g, vl, vp, vb, rfl, h⟩
    rw [hT] at h
    obtain ⟨A1, c1, rfl⟩ := Kd.R_slice h.out.r
    rw [bks_len] at h ⊢
    exact ⟨g, vl, vp, A1, c1, rfl, h⟩)
  have hT8 : T ≤ 8 := by omega
  clear hl hT hC
  have htz : ((T : Int) == 0) = false := by simp; omega
  have htz2 : (T = 0) = False := eq_false (by omega)
  have hw : IntKind.i64.wrap (R + (T : Int)) = R + (T : Int) := by rw [i64_w, wrap64_in _ (by omega) (by omega)]
  go_enter Try.func8, Try.ntmps8
  go_upto_region 2 with (go_at_call 26; refine (HCH.out _ HB0.out).mono ?_; rintro e w1 ⟨g, vl, vp, A1, c1, rfl, HQ⟩; have HB1 := Lib.hid (HB0.out.trans (HQ.out.b.mono HB0.out.size)); have HB1' := HQ.out.b)
  go_upto_region 4 with (go_at_call 23; refine (awake22 _).mono ?_; rintro e w2 ⟨rfl, hb⟩; have HB2 := Lib.hid (HB1.out.trans (hb.mono HB1.out.size)); have HQ2 := Lib.hid (HQ.out.below hb); have HB2' := Lib.hid (HB1'.trans (hb.mono HB1'.size)); clear hb HB1')
  have BK2 : Hid (w2.heap[w.heap.size]? = some (.cells #[.int .i64 a0, .int .i64 a1, .int .i64 a2] 78 (0, 0))) := Lib.hid ((HB2'.out.block _ (by simp)).trans BK0.out)
  refine start_ (n := 15) (S := fun w' => w'.cell? ⟨w.heap.size, 0, none⟩ = some (.int .i64 a0) ∧ w'.cell? ⟨w.heap.size, 1, none⟩ = some (.int .i64 a1)) (ds := []) #[false, false, false, false, false, false, false, false, false, false, false, false, false, false, false] (by kernel_rfl) rfl rfl ⟨(blk_cell BK2.out 0).trans rfl, (blk_cell BK2.out 1).trans rfl⟩ (fun hHeld => ?_)
  refine pure_ (i := 0) (N := some 31) (v := ?_) (a' := ?_) #[true, false, false, false, false, false, false, false, false, false, false, false, false, false, false] rfl rfl (by kernel_rfl) (fun _ _ _ h => h) (Or.inl ⟨by rfl, ?_⟩) ?_ ?_
  rotate_left
  · intro w'
    go_simp
    with_reducible rfl
  rotate_left
  · simp only [Act.put, List.setIfInBounds_toArray, List.set_cons_zero, List.set_cons_succ, i64_w, i32_w]
    rfl
  refine pure_ (i := 2) (N := some 33) (v := ?_) (a' := ?_) #[true, false, true, false, false, false, false, false, false, false, false, false, false, false, false] rfl rfl (by kernel_rfl) (fun _ _ _ h => h) (Or.inl ⟨by rfl, ?_⟩) ?_ ?_
  rotate_left
  · intro w'
    go_simp
    with_reducible rfl
  rotate_left
  · simp only [Act.put, List.setIfInBounds_toArray, List.set_cons_zero, List.set_cons_succ, i64_w, i32_w]
    rfl
  refine pure_ (i := 3) (N := some 34) (v := ?_) (a' := ?_) #[true, false, true, true, false, false, false, false, false, false, false, false, false, false, false] rfl rfl (by kernel_rfl) (fun _ _ _ h => h) (Or.inl ⟨by rfl, ?_⟩) ?_ ?_
  rotate_left
  · intro w'
    go_simp
    with_reducible rfl
  rotate_left
  · simp only [Act.put, List.setIfInBounds_toArray, List.set_cons_zero, List.set_cons_succ, i64_w, i32_w]
    rfl
  refine pure_ (i := 5) (N := some 36) (v := ?_) (a' := ?_) #[true, false, true, true, false, true, false, false, false, false, false, false, false, false, false] rfl rfl (by kernel_rfl) (fun _ _ _ h => h) (Or.inl ⟨by rfl, ?_⟩) ?_ ?_
  rotate_left
  · intro w'
    go_simp
    with_reducible rfl
  rotate_left
  · simp only [Act.put, List.setIfInBounds_toArray, List.set_cons_zero, List.set_cons_succ, i64_w, i32_w]
    rfl
  refine pure_ (i := 6) (N := some 37) (v := ?_) (a' := ?_) #[true, false, true, true, false, true, true, false, false, false, false, false, false, false, false] rfl rfl (by kernel_rfl) (fun _ _ _ h => h) (Or.inl ⟨by rfl, ?_⟩) ?_ ?_
  rotate_left
  · intro w'
    go_simp
    with_reducible rfl
  rotate_left
  · simp only [Act.put, List.setIfInBounds_toArray, List.set_cons_zero, List.set_cons_succ, i64_w, i32_w]
    rfl
  refine pure_ (i := 8) (N := some 39) (v := ?_) (a' := ?_) #[true, false, true, true, false, true, true, false, true, false, false, false, false, false, false] rfl rfl (by kernel_rfl) (fun _ _ _ h => h) (Or.inl ⟨by rfl, ?_⟩) ?_ ?_
  rotate_left
  · intro w'
    go_simp
    with_reducible rfl
  rotate_left
  · simp only [Act.put, List.setIfInBounds_toArray, List.set_cons_zero, List.set_cons_succ, i64_w, i32_w]
    rfl
  refine pure_ (i := 9) (N := some 40) (v := ?_) (a' := ?_) #[true, false, true, true, false, true, true, false, true, true, false, false, false, false, false] rfl rfl (by kernel_rfl) (fun _ _ _ h => h) (Or.inl ⟨by rfl, ?_⟩) ?_ ?_
  rotate_left
  · intro w'
    go_simp
    with_reducible rfl
  rotate_left
  · simp only [Act.put, List.setIfInBounds_toArray, List.set_cons_zero, List.set_cons_succ, i64_w, i32_w]
    rfl
  refine pure_ (i := 11) (N := some 42) (v := ?_) (a' := ?_) #[true, false, true, true, false, true, true, false, true, true, false, true, false, false, false] rfl rfl (by kernel_rfl) (fun _ _ _ h => h) (Or.inl ⟨by rfl, ?_⟩) ?_ ?_
  rotate_left
  · intro w'
    go_simp
    with_reducible rfl
  rotate_left
  · simp only [Act.put, List.setIfInBounds_toArray, List.set_cons_zero, List.set_cons_succ, i64_w, i32_w]
    rfl
  refine take_ (i := 1) (N := some 32) (v := ?_) (a' := ?_) #[true, true, true, true, false, true, true, false, true, true, false, true, false, false, false] rfl rfl (by kernel_rfl) (fun _ _ _ h => h) (Or.inl ⟨by rfl, ?_⟩) hHeld ?_ ?_
  rotate_left
  · rintro w' ⟨s0, s1⟩
    go_simp
    with_reducible rfl
  rotate_left
  · simp only [Act.put, List.setIfInBounds_toArray, List.set_cons_zero, List.set_cons_succ, i64_w, i32_w]
    rfl
  refine pure_ (i := 4) (N := some 35) (v := ?_) (a' := ?_) #[true, true, true, true, true, true, true, false, true, true, false, true, false, false, false] rfl rfl (by kernel_rfl) (fun _ _ _ h => h) (Or.inl ⟨by rfl, ?_⟩) ?_ ?_
  rotate_left
  · intro w'
    go_simp
    with_reducible rfl
  rotate_left
  · simp only [Act.put, List.setIfInBounds_toArray, List.set_cons_zero, List.set_cons_succ, i64_w, i32_w]
    rfl
  refine pure_ (i := 7) (N := some 38) (v := ?_) (a' := ?_) #[true, true, true, true, true, true, true, true, true, true, false, true, false, false, false] rfl rfl (by kernel_rfl) (fun _ _ _ h => h) (Or.inl ⟨by rfl, ?_⟩) ?_ ?_
  rotate_left
  · intro w'
    go_simp
    with_reducible rfl
  rotate_left
  · simp only [Act.put, List.setIfInBounds_toArray, List.set_cons_zero, List.set_cons_succ, i64_w, i32_w]
    rfl
  refine pure_ (i := 10) (N := some 41) (v := ?_) (a' := ?_) #[true, true, true, true, true, true, true, true, true, true, true, true, false, false, false] rfl rfl (by kernel_rfl) (fun _ _ _ h => h) (Or.inl ⟨by rfl, ?_⟩) ?_ ?_
  rotate_left
  · intro w'
    go_simp
    with_reducible rfl
  rotate_left
  · simp only [Act.put, List.setIfInBounds_toArray, List.set_cons_zero, List.set_cons_succ, i64_w, i32_w]
    rfl
  refine pure_ (i := 13) (N := some 7) (v := ?_) (a' := ?_) #[true, true, true, true, true, true, true, true, true, true, true, true, false, true, false] rfl rfl (by kernel_rfl) (fun _ _ _ h => h) (Or.inl ⟨by rfl, ?_⟩) ?_ ?_
  rotate_left
  · intro w'
    go_simp
    with_reducible rfl
  rotate_left
  · simp only [Act.put, List.setIfInBounds_toArray, List.set_cons_zero, List.set_cons_succ, i64_w, i32_w]
    rfl
  refine take_ (i := 12) (N := some 43) (v := ?_) (a' := ?_) #[true, true, true, true, true, true, true, true, true, true, true, true, true, true, false] rfl rfl (by kernel_rfl) (fun _ _ _ h => h) (Or.inl ⟨by rfl, ?_⟩) hHeld ?_ ?_
  rotate_left
  · rintro w' ⟨s0, s1⟩
    go_simp
    with_reducible rfl
  rotate_left
  · simp only [Act.put, List.setIfInBounds_toArray, List.set_cons_zero, List.set_cons_succ, i64_w, i32_w]
    rfl
  refine pure_ (i := 14) (N := some 8) (v := ?_) (a' := ?_) #[true, true, true, true, true, true, true, true, true, true, true, true, true, true, true] rfl rfl (by kernel_rfl) (fun _ _ _ h => h) (Or.inl ⟨by rfl, ?_⟩) ?_ ?_
  rotate_left
  · intro w'
    go_simp
    with_reducible rfl
  rotate_left
  · simp only [Act.put, List.setIfInBounds_toArray, List.set_cons_zero, List.set_cons_succ, i64_w, i32_w]
    rfl
  refine done_ (by kernel_rfl) ?_
  clear hR hk hw htz htz2 hr0 hr1 HCH BK0 HB0 HB1 HB2' HQ
  have HQ3 := Lib.hid (HQ2.out.below (below_drew (Below.refl _ _)))
  have HB3 := Lib.hid (HB2.out.trans ((below_drew (Below.refl _ _) : Below w2.heap.size w2 w2.drew).mono HB2.out.size))
  have b2 : w2.drew.cell? ⟨w.heap.size, 2, none⟩ = some (.int .i64 a2) := (blk_cell BK2.out 2).trans rfl
  clear HQ2 HB2
  generalize w2.drew = W at HQ3 HB3 b2 ⊢
  go_upto_region 6 with fail
  clear b2 BK2
  obtain ⟨A1', c1', e1, hc1, hC1⟩ := Kd.R_reads HQ3.out.r
  rw [bks_len] at e1 hc1 hC1
  injection e1 with e1 _ e2
  subst e1
  subst e2
  obtain ⟨ad, A2, c2, eA, x0, x1, x2, x3, hc2, hC2⟩ := at_T25 hC1 k hkT
  subst eA
  rw [bks_at zs hkT] at x0 x1 x2 x3 hc2 hC2
  have hcT : (T : Int) ≤ (c1 : Int) := by omega
  obtain ⟨RV, hRV⟩ : ∃ l, (bkC zs k).f3 = l := ⟨_, rfl⟩
  have hRM : RV.length = M := by rw [← hRV, ← hM]; exact rvs_len _ _ _
  have HFL : Hid (FitsL RV) := Lib.hid (by
    rw [← hRV]
    have h1 := stC_n zs k
    have h2 := cnt_le (zs.getD k 0)
    exact rvs_fits _ _ _ (by omega))
  have HRV := Lib.hid hRV
  rw [hRV, hRM] at x3 hc2 hC2
  replace x0 : W.cell? (ad.add (k * 4)) = some (.int .u64 (k : Int)) := x0
  replace x1 : W.cell? ⟨(ad.add (k * 4)).block, (ad.add (k * 4)).off + 1, none⟩ = some (.string (stC zs k).2) := x1
  replace x2 : W.cell? ⟨(ad.add (k * 4)).block, (ad.add (k * 4)).off + 2, none⟩ = some (.int .u64 ((k : Int) + 7)) := x2
  have hM8 : M ≤ 8 := by rw [← hM]; exact cnt_le _
  have hL : ((bks zs T).map lf).length = T := by rw [List.length_map, bks_len]
  have HL := Lib.hid hL
  have HRM := Lib.hid hRM
  have HM := Lib.hid hM
  have HC2 := Lib.hid hC2
  clear hC1 hc1 hRV hRM hM hL hC2
  obtain ⟨p, hp⟩ : ∃ p, (stC zs k).2 = p := ⟨_, rfl⟩
  rw [hp] at x1
  have HP := Lib.hid hp
  clear hp
  have HOF := Lib.hid (fun base w' hA => of_big w' base g T vl vp ((bks zs T).map lf) (pk ((bks zs T).map lf)) hA HL.out (by omega) n hTn)
  have HMK := Lib.hid (fun base w' hA => make_bad w' base g T vl vp ((bks zs T).map lf) (pk ((bks zs T).map lf)) hA HL.out (by omega) (k : Int) p ((k : Int) + 7) A2 M c2 a1 n (.inl hTn))
  have hwT : IntKind.u64.wrap (T : Int) = (T : Int) := by rw [IntKind.wrap_u64]; omega
  have hd : decide ((T : Int) < n) = true := decide_eq_true hTn
  clear hn
  go_upto_region 7 with (go_at_call 27; refine (HOF.out _ _ HQ3.out.t).mono ?_; rintro e w3 ⟨rfl, hb⟩; have hb2 := hb.alloc hb.size (.cells #[.int .u64 0, .string ⟨#[]⟩] 50 (0, 0)); have HD := Lib.hid (heap_alloc_new w3 (.cells #[.int .u64 0, .string ⟨#[]⟩] 50 (0, 0))); have HQ4 := Lib.hid (HQ3.out.below hb2); have HB4 := Lib.hid (HB3.out.trans (hb2.mono HB3.out.size)); replace x0 := cell_to hb2 x0; replace x1 := cell_to hb2 x1; replace x2 := cell_to hb2 x2; replace x3 := cell_to hb2 x3; clear hb hb2)
  go_upto_region 8 with (go_at_call 28; refine (HMK.out _ _ HQ4.out.t).mono ?_; rintro e w4 ⟨rfl, hb⟩; have hb2 := hb.alloc hb.size (.cells #[.int .u64 0, .string ⟨#[]⟩, .int .u64 0, .int .i64 0, .int .i64 0, .slice none 0 0, .slice none 0 0] 53 (0, 0)); have HD4 := Lib.hid (blk_below HD.out hb2); have HB5 := Lib.hid (HB4.out.trans (hb2.mono HB4.out.size)); have d1 := (blk_cell HD4.out 1).trans rfl; clear hb hb2 x0 x1 x2 x3)
  go_wp2_with fail
  go_ret
  exact ⟨rfl, HB5.out⟩
set_option maxRecDepth 100000 in
set_option maxHeartbeats 40000000 in
theorem ps_bad (A : Option Addr) (c len T : Nat) (zs : List Int) (a0 a1 a2 R : Int) (k M : Nat) (w : World) (hl : zs.length = len) (hT : min len 8 = T) (hT0 : 0 < T) (hC : Kd.C (Kd.int .i64) w A len zs) (hr0 : -(T : Int) < R) (hr1 : R < (T : Int)) (hR : a0.tmod (T : Int) = R) (hk : (R + (T : Int)).tmod (T : Int) = (k : Int)) (hkT : k < T) (hM : cnt (zs.getD k 0) = M) (m : Nat) (hn : IntKind.u64.wrap a2 = (m : Int)) (hmT : m ≤ T) (hbad : (m : Int) ≤ (k : Int) ∨ a1 < 0 ∨ (M : Int) ≤ a1) :
    Calls Try.prog 8 #[.slice A len c, .agg #[.int .i64 a0, .int .i64 a1, .int .i64 a2]] w fun e w' => e = .returned (.bool true) ∧ Below w.heap.size w w' := by
  have HB0 := Lib.hid ((Below.refl w.heap.size w).alloc (Nat.le_refl _) (.cells #[.int .i64 a0, .int .i64 a1, .int .i64 a2] 78))
  have BK0 := Lib.hid (heap_alloc_new w (.cells #[.int .i64 a0, .int .i64 a1, .int .i64 a2] 78 (0, 0)))
  have HCH : Hid (∀ w', Below w.heap.size w w' → Calls Try.prog 26 #[.slice A len c] w' fun e w2 => ∃ g vl vp A1 c1, e = .returned (.tuple #[.slice A1 T c1, .pointer (some ⟨g, 0, none⟩)]) ∧ Hid (CH w' w2 g vl vp (.slice A1 T c1) (bks zs T))) := Lib.hid (fun w' hb => by
    subst hl
    refine (chain_raw A c zs w' (Kd.C_below hC hb)).mono ?_
    rintro e w2 ⟨g, vl, vp, vb, rfl, h⟩
    rw [hT] at h
    obtain ⟨A1, c1, rfl⟩ := Kd.R_slice h.out.r
    rw [bks_len] at h ⊢
    exact ⟨g, vl, vp, A1, c1, rfl, h⟩)
  have hT8 : T ≤ 8 := by omega
  clear hl hT hC
  have htz : ((T : Int) == 0) = false := by simp; omega
  have htz2 : (T = 0) = False := eq_false (by omega)
  have hw : IntKind.i64.wrap (R + (T : Int)) = R + (T : Int) := by rw [i64_w, wrap64_in _ (by omega) (by omega)]
  go_enter Try.func8, Try.ntmps8
  go_upto_region 2 with (go_at_call 26; refine (HCH.out _ HB0.out).mono ?_; rintro e w1 ⟨g, vl, vp, A1, c1, rfl, HQ⟩; have HB1 := Lib.hid (HB0.out.trans (HQ.out.b.mono HB0.out.size)); have HB1' := HQ.out.b)
  go_upto_region 4 with (go_at_call 23; refine (awake22 _).mono ?_; rintro e w2 ⟨rfl, hb⟩; have HB2 := Lib.hid (HB1.out.trans (hb.mono HB1.out.size)); have HQ2 := Lib.hid (HQ.out.below hb); have HB2' := Lib.hid (HB1'.trans (hb.mono HB1'.size)); clear hb HB1')
  have BK2 : Hid (w2.heap[w.heap.size]? = some (.cells #[.int .i64 a0, .int .i64 a1, .int .i64 a2] 78 (0, 0))) := Lib.hid ((HB2'.out.block _ (by simp)).trans BK0.out)
  refine start_ (n := 15) (S := fun w' => w'.cell? ⟨w.heap.size, 0, none⟩ = some (.int .i64 a0) ∧ w'.cell? ⟨w.heap.size, 1, none⟩ = some (.int .i64 a1)) (ds := []) #[false, false, false, false, false, false, false, false, false, false, false, false, false, false, false] (by kernel_rfl) rfl rfl ⟨(blk_cell BK2.out 0).trans rfl, (blk_cell BK2.out 1).trans rfl⟩ (fun hHeld => ?_)
  refine pure_ (i := 0) (N := some 31) (v := ?_) (a' := ?_) #[true, false, false, false, false, false, false, false, false, false, false, false, false, false, false] rfl rfl (by kernel_rfl) (fun _ _ _ h => h) (Or.inl ⟨by rfl, ?_⟩) ?_ ?_
  rotate_left
  · intro w'
    go_simp
    with_reducible rfl
  rotate_left
  · simp only [Act.put, List.setIfInBounds_toArray, List.set_cons_zero, List.set_cons_succ, i64_w, i32_w]
    rfl
  refine pure_ (i := 2) (N := some 33) (v := ?_) (a' := ?_) #[true, false, true, false, false, false, false, false, false, false, false, false, false, false, false] rfl rfl (by kernel_rfl) (fun _ _ _ h => h) (Or.inl ⟨by rfl, ?_⟩) ?_ ?_
  rotate_left
  · intro w'
    go_simp
    with_reducible rfl
  rotate_left
  · simp only [Act.put, List.setIfInBounds_toArray, List.set_cons_zero, List.set_cons_succ, i64_w, i32_w]
    rfl
  refine pure_ (i := 3) (N := some 34) (v := ?_) (a' := ?_) #[true, false, true, true, false, false, false, false, false, false, false, false, false, false, false] rfl rfl (by kernel_rfl) (fun _ _ _ h => h) (Or.inl ⟨by rfl, ?_⟩) ?_ ?_
  rotate_left
  · intro w'
    go_simp
    with_reducible rfl
  rotate_left
  · simp only [Act.put, List.setIfInBounds_toArray, List.set_cons_zero, List.set_cons_succ, i64_w, i32_w]
    rfl
  refine pure_ (i := 5) (N := some 36) (v := ?_) (a' := ?_) #[true, false, true, true, false, true, false, false, false, false, false, false, false, false, false] rfl rfl (by kernel_rfl) (fun _ _ _ h => h) (Or.inl ⟨by rfl, ?_⟩) ?_ ?_
  rotate_left
  · intro w'
    go_simp
    with_reducible rfl
  rotate_left
  · simp only [Act.put, List.setIfInBounds_toArray, List.set_cons_zero, List.set_cons_succ, i64_w, i32_w]
    rfl
  refine pure_ (i := 6) (N := some 37) (v := ?_) (a' := ?_) #[true, false, true, true, false, true, true, false, false, false, false, false, false, false, false] rfl rfl (by kernel_rfl) (fun _ _ _ h => h) (Or.inl ⟨by rfl, ?_⟩) ?_ ?_
  rotate_left
  · intro w'
    go_simp
    with_reducible rfl
  rotate_left
  · simp only [Act.put, List.setIfInBounds_toArray, List.set_cons_zero, List.set_cons_succ, i64_w, i32_w]
    rfl
  refine pure_ (i := 8) (N := some 39) (v := ?_) (a' := ?_) #[true, false, true, true, false, true, true, false, true, false, false, false, false, false, false] rfl rfl (by kernel_rfl) (fun _ _ _ h => h) (Or.inl ⟨by rfl, ?_⟩) ?_ ?_
  rotate_left
  · intro w'
    go_simp
    with_reducible rfl
  rotate_left
  · simp only [Act.put, List.setIfInBounds_toArray, List.set_cons_zero, List.set_cons_succ, i64_w, i32_w]
    rfl
  refine pure_ (i := 9) (N := some 40) (v := ?_) (a' := ?_) #[true, false, true, true, false, true, true, false, true, true, false, false, false, false, false] rfl rfl (by kernel_rfl) (fun _ _ _ h => h) (Or.inl ⟨by rfl, ?_⟩) ?_ ?_
  rotate_left
  · intro w'
    go_simp
    with_reducible rfl
  rotate_left
  · simp only [Act.put, List.setIfInBounds_toArray, List.set_cons_zero, List.set_cons_succ, i64_w, i32_w]
    rfl
  refine pure_ (i := 11) (N := some 42) (v := ?_) (a' := ?_) #[true, false, true, true, false, true, true, false, true, true, false, true, false, false, false] rfl rfl (by kernel_rfl) (fun _ _ _ h => h) (Or.inl ⟨by rfl, ?_⟩) ?_ ?_
  rotate_left
  · intro w'
    go_simp
    with_reducible rfl
  rotate_left
  · simp only [Act.put, List.setIfInBounds_toArray, List.set_cons_zero, List.set_cons_succ, i64_w, i32_w]
    rfl
  refine take_ (i := 1) (N := some 32) (v := ?_) (a' := ?_) #[true, true, true, true, false, true, true, false, true, true, false, true, false, false, false] rfl rfl (by kernel_rfl) (fun _ _ _ h => h) (Or.inl ⟨by rfl, ?_⟩) hHeld ?_ ?_
  rotate_left
  · rintro w' ⟨s0, s1⟩
    go_simp
    with_reducible rfl
  rotate_left
  · simp only [Act.put, List.setIfInBounds_toArray, List.set_cons_zero, List.set_cons_succ, i64_w, i32_w]
    rfl
  refine pure_ (i := 4) (N := some 35) (v := ?_) (a' := ?_) #[true, true, true, true, true, true, true, false, true, true, false, true, false, false, false] rfl rfl (by kernel_rfl) (fun _ _ _ h => h) (Or.inl ⟨by rfl, ?_⟩) ?_ ?_
  rotate_left
  · intro w'
    go_simp
    with_reducible rfl
  rotate_left
  · simp only [Act.put, List.setIfInBounds_toArray, List.set_cons_zero, List.set_cons_succ, i64_w, i32_w]
    rfl
  refine pure_ (i := 7) (N := some 38) (v := ?_) (a' := ?_) #[true, true, true, true, true, true, true, true, true, true, false, true, false, false, false] rfl rfl (by kernel_rfl) (fun _ _ _ h => h) (Or.inl ⟨by rfl, ?_⟩) ?_ ?_
  rotate_left
  · intro w'
    go_simp
    with_reducible rfl
  rotate_left
  · simp only [Act.put, List.setIfInBounds_toArray, List.set_cons_zero, List.set_cons_succ, i64_w, i32_w]
    rfl
  refine pure_ (i := 10) (N := some 41) (v := ?_) (a' := ?_) #[true, true, true, true, true, true, true, true, true, true, true, true, false, false, false] rfl rfl (by kernel_rfl) (fun _ _ _ h => h) (Or.inl ⟨by rfl, ?_⟩) ?_ ?_
  rotate_left
  · intro w'
    go_simp
    with_reducible rfl
  rotate_left
  · simp only [Act.put, List.setIfInBounds_toArray, List.set_cons_zero, List.set_cons_succ, i64_w, i32_w]
    rfl
  refine pure_ (i := 13) (N := some 7) (v := ?_) (a' := ?_) #[true, true, true, true, true, true, true, true, true, true, true, true, false, true, false] rfl rfl (by kernel_rfl) (fun _ _ _ h => h) (Or.inl ⟨by rfl, ?_⟩) ?_ ?_
  rotate_left
  · intro w'
    go_simp
    with_reducible rfl
  rotate_left
  · simp only [Act.put, List.setIfInBounds_toArray, List.set_cons_zero, List.set_cons_succ, i64_w, i32_w]
    rfl
  refine take_ (i := 12) (N := some 43) (v := ?_) (a' := ?_) #[true, true, true, true, true, true, true, true, true, true, true, true, true, true, false] rfl rfl (by kernel_rfl) (fun _ _ _ h => h) (Or.inl ⟨by rfl, ?_⟩) hHeld ?_ ?_
  rotate_left
  · rintro w' ⟨s0, s1⟩
    go_simp
    with_reducible rfl
  rotate_left
  · simp only [Act.put, List.setIfInBounds_toArray, List.set_cons_zero, List.set_cons_succ, i64_w, i32_w]
    rfl
  refine pure_ (i := 14) (N := some 8) (v := ?_) (a' := ?_) #[true, true, true, true, true, true, true, true, true, true, true, true, true, true, true] rfl rfl (by kernel_rfl) (fun _ _ _ h => h) (Or.inl ⟨by rfl, ?_⟩) ?_ ?_
  rotate_left
  · intro w'
    go_simp
    with_reducible rfl
  rotate_left
  · simp only [Act.put, List.setIfInBounds_toArray, List.set_cons_zero, List.set_cons_succ, i64_w, i32_w]
    rfl
  refine done_ (by kernel_rfl) ?_
  clear hR hk hw htz htz2 hr0 hr1 HCH BK0 HB0 HB1 HB2' HQ
  have HQ3 := Lib.hid (HQ2.out.below (below_drew (Below.refl _ _)))
  have HB3 := Lib.hid (HB2.out.trans ((below_drew (Below.refl _ _) : Below w2.heap.size w2 w2.drew).mono HB2.out.size))
  have b2 : w2.drew.cell? ⟨w.heap.size, 2, none⟩ = some (.int .i64 a2) := (blk_cell BK2.out 2).trans rfl
  clear HQ2 HB2
  generalize w2.drew = W at HQ3 HB3 b2 ⊢
  go_upto_region 6 with fail
  clear b2 BK2
  obtain ⟨A1', c1', e1, hc1, hC1⟩ := Kd.R_reads HQ3.out.r
  rw [bks_len] at e1 hc1 hC1
  injection e1 with e1 _ e2
  subst e1
  subst e2
  obtain ⟨ad, A2, c2, eA, x0, x1, x2, x3, hc2, hC2⟩ := at_T25 hC1 k hkT
  subst eA
  rw [bks_at zs hkT] at x0 x1 x2 x3 hc2 hC2
  have hcT : (T : Int) ≤ (c1 : Int) := by omega
  obtain ⟨RV, hRV⟩ : ∃ l, (bkC zs k).f3 = l := ⟨_, rfl⟩
  have hRM : RV.length = M := by rw [← hRV, ← hM]; exact rvs_len _ _ _
  have HFL : Hid (FitsL RV) := Lib.hid (by
    rw [← hRV]
    have h1 := stC_n zs k
    have h2 := cnt_le (zs.getD k 0)
    exact rvs_fits _ _ _ (by omega))
  have HRV := Lib.hid hRV
  rw [hRV, hRM] at x3 hc2 hC2
  replace x0 : W.cell? (ad.add (k * 4)) = some (.int .u64 (k : Int)) := x0
  replace x1 : W.cell? ⟨(ad.add (k * 4)).block, (ad.add (k * 4)).off + 1, none⟩ = some (.string (stC zs k).2) := x1
  replace x2 : W.cell? ⟨(ad.add (k * 4)).block, (ad.add (k * 4)).off + 2, none⟩ = some (.int .u64 ((k : Int) + 7)) := x2
  have hM8 : M ≤ 8 := by rw [← hM]; exact cnt_le _
  have hL : ((bks zs T).map lf).length = T := by rw [List.length_map, bks_len]
  have HL := Lib.hid hL
  have HRM := Lib.hid hRM
  have HM := Lib.hid hM
  have HC2 := Lib.hid hC2
  clear hC1 hc1 hRV hRM hM hL hC2
  obtain ⟨p, hp⟩ : ∃ p, (stC zs k).2 = p := ⟨_, rfl⟩
  rw [hp] at x1
  have HP := Lib.hid hp
  clear hp
  have hrt := rootAt_ok ((bks zs T).map lf) (lf_w32 _) (by rw [HL.out]; omega) m (by rw [HL.out]; omega)
  obtain ⟨RT, hRT⟩ : ∃ r, mroot (((bks zs T).map lf).take m) = r := ⟨_, rfl⟩
  rw [hRT] at hrt
  have HRT := Lib.hid hrt
  have HMR := Lib.hid hRT
  have HOF := Lib.hid (fun base w' hA => of_ok w' base g T vl vp ((bks zs T).map lf) (pk ((bks zs T).map lf)) hA HL.out (by omega) (lf_w32 _) m RT hmT hRT)
  have HRA := Lib.hid (fun base w' hA => rootAt_raw 2000 w' base g vl vp ((bks zs T).map lf) (pk ((bks zs T).map lf)) hA (m : Int) RT 0 HRT.out)
  clear hrt hRT HRT
  have hwT : IntKind.u64.wrap (T : Int) = (T : Int) := by rw [IntKind.wrap_u64]; omega
  have hwk : IntKind.u64.wrap (k : Int) = (k : Int) := by rw [IntKind.wrap_u64]; omega
  have hwm : IntKind.i64.wrap (m : Int) = (m : Int) := by rw [i64_w, wrap64_in _ (by omega) (by omega)]
  have hd : decide ((T : Int) < (m : Int)) = false := decide_eq_false (by omega)
  have hd' : decide (T < m) = false := decide_eq_false (by omega)
  clear hn
  go_upto_region 7 with (go_at_call 27; refine (HOF.out _ _ HQ3.out.t).mono ?_; rintro e w3 ⟨rfl, hb⟩; have hb2 := hb.alloc hb.size (.cells #[.int .u64 (m : Int), .string RT] 50 (0, 0)); have HD := Lib.hid (heap_alloc_new w3 (.cells #[.int .u64 (m : Int), .string RT] 50 (0, 0))); have HQ4 := Lib.hid (HQ3.out.below hb2); have HB4 := Lib.hid (HB3.out.trans (hb2.mono HB3.out.size)); have HC3 := Lib.hid (Kd.C_below HC2.out hb2); replace x0 := cell_to hb2 x0; replace x1 := cell_to hb2 x1; replace x2 := cell_to hb2 x2; replace x3 := cell_to hb2 x3; clear hb hb2)
  clear HOF HQ3 HB3 HC2
  generalize w3.alloc (.cells #[.int .u64 (m : Int), .string RT] 50 (0, 0)) = W3 at HD HQ4 HB4 HC3 x0 x1 x2 x3 ⊢
  generalize w3.heap.size = gD at HD ⊢
  have HMK := Lib.hid (fun base w' hA => make_bad w' base g T vl vp ((bks zs T).map lf) (pk ((bks zs T).map lf)) hA HL.out (by omega) (k : Int) p ((k : Int) + 7) A2 M c2 a1 (m : Int) (.inr hbad))
  go_upto_region 8 with (go_at_call 28; refine (HMK.out _ _ HQ4.out.t).mono ?_; rintro e w4 ⟨rfl, hb⟩; have hb2 := hb.alloc hb.size (.cells #[.int .u64 0, .string ⟨#[]⟩, .int .u64 0, .int .i64 0, .int .i64 0, .slice none 0 0, .slice none 0 0] 53 (0, 0)); have HD4 := Lib.hid (blk_below HD.out hb2); have HP4 := Lib.hid (heap_alloc_new w4 (.cells #[.int .u64 0, .string ⟨#[]⟩, .int .u64 0, .int .i64 0, .int .i64 0, .slice none 0 0, .slice none 0 0] 53 (0, 0))); have HB5 := Lib.hid (HB4.out.trans (hb2.mono HB4.out.size)); have HQ5 := Lib.hid (HQ4.out.below hb2); replace x3 := cell_to hb2 x3; clear hb hb2 x0 x1 x2)
  clear HMK HD HQ4 HB4 HC3
  generalize w4.alloc (.cells #[.int .u64 0, .string ⟨#[]⟩, .int .u64 0, .int .i64 0, .int .i64 0, .slice none 0 0, .slice none 0 0] 53 (0, 0)) = W4 at HD4 HP4 HB5 HQ5 x3 ⊢
  generalize w4.heap.size = gP at HP4 ⊢
  go_upto_region 11 with (go_at_call 35; refine (HRA.out _ _ HQ5.out.t).mono ?_; rintro e w5 ⟨rfl, hb⟩; have HD5 := Lib.hid (blk_below HD4.out hb); have HP5 := Lib.hid (blk_below HP4.out hb); have HB6 := Lib.hid (HB5.out.trans (hb.mono HB5.out.size)); replace x3 := cell_to hb x3; clear hb)
  clear HRA HD4 HP4 HB5 HQ5
  have d0 : w5.cell? ⟨gD, 0, none⟩ = some (.int .u64 (m : Int)) := (blk_cell HD5.out 0).trans rfl
  have d1 : w5.cell? ⟨gD, 1, none⟩ = some (.string RT) := (blk_cell HD5.out 1).trans rfl
  have p6 : w5.cell? ⟨gP, 6, none⟩ = some (.slice none 0 0) := (blk_cell HP5.out 6).trans rfl
  have er : (RT.toList != RT.toList) = false := bne_eq_false_iff_eq.2 rfl
  have en : ((m : Int) != (m : Int)) = false := bne_eq_false_iff_eq.2 rfl
  have en' : (m != m) = false := bne_eq_false_iff_eq.2 rfl
  by_cases q1 : (m : Int) ≤ (k : Int)
  · have e1 : decide ((m : Int) ≤ (k : Int)) = true := decide_eq_true q1
    have e1' : decide (m ≤ k) = true := decide_eq_true (by omega)
    clear hbad
    go_wp2_with fail
    go_ret
    exact ⟨rfl, HB6.out⟩
  · have e1 : decide ((m : Int) ≤ (k : Int)) = false := decide_eq_false q1
    have e1' : decide (m ≤ k) = false := decide_eq_false (by omega)
    by_cases q2 : a1 < 0
    · have e2 : decide (a1 < 0) = true := decide_eq_true q2
      clear hbad
      go_wp2_with fail
      go_ret
      exact ⟨rfl, HB6.out⟩
    · have e2 : decide (a1 < 0) = false := decide_eq_false q2
      have q3 : (M : Int) ≤ a1 := by omega
      have e3 : decide ((M : Int) ≤ a1) = true := decide_eq_true q3
      clear hbad
      go_wp2_with fail
      go_ret
      exact ⟨rfl, HB6.out⟩
set_option maxRecDepth 100000 in
set_option maxHeartbeats 40000000 in
theorem ps_ok (A : Option Addr) (c len T : Nat) (zs : List Int) (a0 a1 a2 R : Int) (k M : Nat) (w : World) (hl : zs.length = len) (hT : min len 8 = T) (hT0 : 0 < T) (hC : Kd.C (Kd.int .i64) w A len zs) (hr0 : -(T : Int) < R) (hr1 : R < (T : Int)) (hR : a0.tmod (T : Int) = R) (hk : (R + (T : Int)).tmod (T : Int) = (k : Int)) (hkT : k < T) (hM : cnt (zs.getD k 0) = M) (m i : Nat) (hn : IntKind.u64.wrap a2 = (m : Int)) (hmT : m ≤ T) (hkm : k < m) (ha1 : a1 = (i : Int)) (hiM : i < M) :
    Calls Try.prog 8 #[.slice A len c, .agg #[.int .i64 a0, .int .i64 a1, .int .i64 a2]] w fun e w' => e = .returned (.bool true) ∧ Below w.heap.size w w' := by
  subst ha1
  have HB0 := Lib.hid ((Below.refl w.heap.size w).alloc (Nat.le_refl _) (.cells #[.int .i64 a0, .int .i64 (i : Int), .int .i64 a2] 78))
  have BK0 := Lib.hid (heap_alloc_new w (.cells #[.int .i64 a0, .int .i64 (i : Int), .int .i64 a2] 78 (0, 0)))
  have HCH : Hid (∀ w', Below w.heap.size w w' → Calls Try.prog 26 #[.slice A len c] w' fun e w2 => ∃ g vl vp A1 c1, e = .returned (.tuple #[.slice A1 T c1, .pointer (some ⟨g, 0, none⟩)]) ∧ Hid (CH w' w2 g vl vp (.slice A1 T c1) (bks zs T))) := Lib.hid (fun w' hb => by
    subst hl
    refine (chain_raw A c zs w' (Kd.C_below hC hb)).mono ?_
    rintro e w2 ⟨g, vl, vp, vb, rfl, h⟩
    rw [hT] at h
    obtain ⟨A1, c1, rfl⟩ := Kd.R_slice h.out.r
    rw [bks_len] at h ⊢
    exact ⟨g, vl, vp, A1, c1, rfl, h⟩)
  have hT8 : T ≤ 8 := by omega
  clear hl hT hC
  have htz : ((T : Int) == 0) = false := by simp; omega
  have htz2 : (T = 0) = False := eq_false (by omega)
  have hw : IntKind.i64.wrap (R + (T : Int)) = R + (T : Int) := by rw [i64_w, wrap64_in _ (by omega) (by omega)]
  go_enter Try.func8, Try.ntmps8
  go_upto_region 2 with (go_at_call 26; refine (HCH.out _ HB0.out).mono ?_; rintro e w1 ⟨g, vl, vp, A1, c1, rfl, HQ⟩; have HB1 := Lib.hid (HB0.out.trans (HQ.out.b.mono HB0.out.size)); have HB1' := HQ.out.b)
  go_upto_region 4 with (go_at_call 23; refine (awake22 _).mono ?_; rintro e w2 ⟨rfl, hb⟩; have HB2 := Lib.hid (HB1.out.trans (hb.mono HB1.out.size)); have HQ2 := Lib.hid (HQ.out.below hb); have HB2' := Lib.hid (HB1'.trans (hb.mono HB1'.size)); clear hb HB1')
  have BK2 : Hid (w2.heap[w.heap.size]? = some (.cells #[.int .i64 a0, .int .i64 (i : Int), .int .i64 a2] 78 (0, 0))) := Lib.hid ((HB2'.out.block _ (by simp)).trans BK0.out)
  refine start_ (n := 15) (S := fun w' => w'.cell? ⟨w.heap.size, 0, none⟩ = some (.int .i64 a0) ∧ w'.cell? ⟨w.heap.size, 1, none⟩ = some (.int .i64 (i : Int))) (ds := []) #[false, false, false, false, false, false, false, false, false, false, false, false, false, false, false] (by kernel_rfl) rfl rfl ⟨(blk_cell BK2.out 0).trans rfl, (blk_cell BK2.out 1).trans rfl⟩ (fun hHeld => ?_)
  refine pure_ (i := 0) (N := some 31) (v := ?_) (a' := ?_) #[true, false, false, false, false, false, false, false, false, false, false, false, false, false, false] rfl rfl (by kernel_rfl) (fun _ _ _ h => h) (Or.inl ⟨by rfl, ?_⟩) ?_ ?_
  rotate_left
  · intro w'
    go_simp
    with_reducible rfl
  rotate_left
  · simp only [Act.put, List.setIfInBounds_toArray, List.set_cons_zero, List.set_cons_succ, i64_w, i32_w]
    rfl
  refine pure_ (i := 2) (N := some 33) (v := ?_) (a' := ?_) #[true, false, true, false, false, false, false, false, false, false, false, false, false, false, false] rfl rfl (by kernel_rfl) (fun _ _ _ h => h) (Or.inl ⟨by rfl, ?_⟩) ?_ ?_
  rotate_left
  · intro w'
    go_simp
    with_reducible rfl
  rotate_left
  · simp only [Act.put, List.setIfInBounds_toArray, List.set_cons_zero, List.set_cons_succ, i64_w, i32_w]
    rfl
  refine pure_ (i := 3) (N := some 34) (v := ?_) (a' := ?_) #[true, false, true, true, false, false, false, false, false, false, false, false, false, false, false] rfl rfl (by kernel_rfl) (fun _ _ _ h => h) (Or.inl ⟨by rfl, ?_⟩) ?_ ?_
  rotate_left
  · intro w'
    go_simp
    with_reducible rfl
  rotate_left
  · simp only [Act.put, List.setIfInBounds_toArray, List.set_cons_zero, List.set_cons_succ, i64_w, i32_w]
    rfl
  refine pure_ (i := 5) (N := some 36) (v := ?_) (a' := ?_) #[true, false, true, true, false, true, false, false, false, false, false, false, false, false, false] rfl rfl (by kernel_rfl) (fun _ _ _ h => h) (Or.inl ⟨by rfl, ?_⟩) ?_ ?_
  rotate_left
  · intro w'
    go_simp
    with_reducible rfl
  rotate_left
  · simp only [Act.put, List.setIfInBounds_toArray, List.set_cons_zero, List.set_cons_succ, i64_w, i32_w]
    rfl
  refine pure_ (i := 6) (N := some 37) (v := ?_) (a' := ?_) #[true, false, true, true, false, true, true, false, false, false, false, false, false, false, false] rfl rfl (by kernel_rfl) (fun _ _ _ h => h) (Or.inl ⟨by rfl, ?_⟩) ?_ ?_
  rotate_left
  · intro w'
    go_simp
    with_reducible rfl
  rotate_left
  · simp only [Act.put, List.setIfInBounds_toArray, List.set_cons_zero, List.set_cons_succ, i64_w, i32_w]
    rfl
  refine pure_ (i := 8) (N := some 39) (v := ?_) (a' := ?_) #[true, false, true, true, false, true, true, false, true, false, false, false, false, false, false] rfl rfl (by kernel_rfl) (fun _ _ _ h => h) (Or.inl ⟨by rfl, ?_⟩) ?_ ?_
  rotate_left
  · intro w'
    go_simp
    with_reducible rfl
  rotate_left
  · simp only [Act.put, List.setIfInBounds_toArray, List.set_cons_zero, List.set_cons_succ, i64_w, i32_w]
    rfl
  refine pure_ (i := 9) (N := some 40) (v := ?_) (a' := ?_) #[true, false, true, true, false, true, true, false, true, true, false, false, false, false, false] rfl rfl (by kernel_rfl) (fun _ _ _ h => h) (Or.inl ⟨by rfl, ?_⟩) ?_ ?_
  rotate_left
  · intro w'
    go_simp
    with_reducible rfl
  rotate_left
  · simp only [Act.put, List.setIfInBounds_toArray, List.set_cons_zero, List.set_cons_succ, i64_w, i32_w]
    rfl
  refine pure_ (i := 11) (N := some 42) (v := ?_) (a' := ?_) #[true, false, true, true, false, true, true, false, true, true, false, true, false, false, false] rfl rfl (by kernel_rfl) (fun _ _ _ h => h) (Or.inl ⟨by rfl, ?_⟩) ?_ ?_
  rotate_left
  · intro w'
    go_simp
    with_reducible rfl
  rotate_left
  · simp only [Act.put, List.setIfInBounds_toArray, List.set_cons_zero, List.set_cons_succ, i64_w, i32_w]
    rfl
  refine take_ (i := 1) (N := some 32) (v := ?_) (a' := ?_) #[true, true, true, true, false, true, true, false, true, true, false, true, false, false, false] rfl rfl (by kernel_rfl) (fun _ _ _ h => h) (Or.inl ⟨by rfl, ?_⟩) hHeld ?_ ?_
  rotate_left
  · rintro w' ⟨s0, s1⟩
    go_simp
    with_reducible rfl
  rotate_left
  · simp only [Act.put, List.setIfInBounds_toArray, List.set_cons_zero, List.set_cons_succ, i64_w, i32_w]
    rfl
  refine pure_ (i := 4) (N := some 35) (v := ?_) (a' := ?_) #[true, true, true, true, true, true, true, false, true, true, false, true, false, false, false] rfl rfl (by kernel_rfl) (fun _ _ _ h => h) (Or.inl ⟨by rfl, ?_⟩) ?_ ?_
  rotate_left
  · intro w'
    go_simp
    with_reducible rfl
  rotate_left
  · simp only [Act.put, List.setIfInBounds_toArray, List.set_cons_zero, List.set_cons_succ, i64_w, i32_w]
    rfl
  refine pure_ (i := 7) (N := some 38) (v := ?_) (a' := ?_) #[true, true, true, true, true, true, true, true, true, true, false, true, false, false, false] rfl rfl (by kernel_rfl) (fun _ _ _ h => h) (Or.inl ⟨by rfl, ?_⟩) ?_ ?_
  rotate_left
  · intro w'
    go_simp
    with_reducible rfl
  rotate_left
  · simp only [Act.put, List.setIfInBounds_toArray, List.set_cons_zero, List.set_cons_succ, i64_w, i32_w]
    rfl
  refine pure_ (i := 10) (N := some 41) (v := ?_) (a' := ?_) #[true, true, true, true, true, true, true, true, true, true, true, true, false, false, false] rfl rfl (by kernel_rfl) (fun _ _ _ h => h) (Or.inl ⟨by rfl, ?_⟩) ?_ ?_
  rotate_left
  · intro w'
    go_simp
    with_reducible rfl
  rotate_left
  · simp only [Act.put, List.setIfInBounds_toArray, List.set_cons_zero, List.set_cons_succ, i64_w, i32_w]
    rfl
  refine pure_ (i := 13) (N := some 7) (v := ?_) (a' := ?_) #[true, true, true, true, true, true, true, true, true, true, true, true, false, true, false] rfl rfl (by kernel_rfl) (fun _ _ _ h => h) (Or.inl ⟨by rfl, ?_⟩) ?_ ?_
  rotate_left
  · intro w'
    go_simp
    with_reducible rfl
  rotate_left
  · simp only [Act.put, List.setIfInBounds_toArray, List.set_cons_zero, List.set_cons_succ, i64_w, i32_w]
    rfl
  refine take_ (i := 12) (N := some 43) (v := ?_) (a' := ?_) #[true, true, true, true, true, true, true, true, true, true, true, true, true, true, false] rfl rfl (by kernel_rfl) (fun _ _ _ h => h) (Or.inl ⟨by rfl, ?_⟩) hHeld ?_ ?_
  rotate_left
  · rintro w' ⟨s0, s1⟩
    go_simp
    with_reducible rfl
  rotate_left
  · simp only [Act.put, List.setIfInBounds_toArray, List.set_cons_zero, List.set_cons_succ, i64_w, i32_w]
    rfl
  refine pure_ (i := 14) (N := some 8) (v := ?_) (a' := ?_) #[true, true, true, true, true, true, true, true, true, true, true, true, true, true, true] rfl rfl (by kernel_rfl) (fun _ _ _ h => h) (Or.inl ⟨by rfl, ?_⟩) ?_ ?_
  rotate_left
  · intro w'
    go_simp
    with_reducible rfl
  rotate_left
  · simp only [Act.put, List.setIfInBounds_toArray, List.set_cons_zero, List.set_cons_succ, i64_w, i32_w]
    rfl
  refine done_ (by kernel_rfl) ?_
  clear hR hk hw htz htz2 hr0 hr1 HCH BK0 HB0 HB1 HB2' HQ
  have HQ3 := Lib.hid (HQ2.out.below (below_drew (Below.refl _ _)))
  have HB3 := Lib.hid (HB2.out.trans ((below_drew (Below.refl _ _) : Below w2.heap.size w2 w2.drew).mono HB2.out.size))
  have b2 : w2.drew.cell? ⟨w.heap.size, 2, none⟩ = some (.int .i64 a2) := (blk_cell BK2.out 2).trans rfl
  clear HQ2 HB2
  generalize w2.drew = W at HQ3 HB3 b2 ⊢
  go_upto_region 6 with fail
  clear b2 BK2
  obtain ⟨A1', c1', e1, hc1, hC1⟩ := Kd.R_reads HQ3.out.r
  rw [bks_len] at e1 hc1 hC1
  injection e1 with e1 _ e2
  subst e1
  subst e2
  obtain ⟨ad, A2, c2, eA, x0, x1, x2, x3, hc2, hC2⟩ := at_T25 hC1 k hkT
  subst eA
  rw [bks_at zs hkT] at x0 x1 x2 x3 hc2 hC2
  have hcT : (T : Int) ≤ (c1 : Int) := by omega
  obtain ⟨RV, hRV⟩ : ∃ l, (bkC zs k).f3 = l := ⟨_, rfl⟩
  have hRM : RV.length = M := by rw [← hRV, ← hM]; exact rvs_len _ _ _
  have HFL : Hid (FitsL RV) := Lib.hid (by
    rw [← hRV]
    have h1 := stC_n zs k
    have h2 := cnt_le (zs.getD k 0)
    exact rvs_fits _ _ _ (by omega))
  have HRV := Lib.hid hRV
  rw [hRV, hRM] at x3 hc2 hC2
  replace x0 : W.cell? (ad.add (k * 4)) = some (.int .u64 (k : Int)) := x0
  replace x1 : W.cell? ⟨(ad.add (k * 4)).block, (ad.add (k * 4)).off + 1, none⟩ = some (.string (stC zs k).2) := x1
  replace x2 : W.cell? ⟨(ad.add (k * 4)).block, (ad.add (k * 4)).off + 2, none⟩ = some (.int .u64 ((k : Int) + 7)) := x2
  have hM8 : M ≤ 8 := by rw [← hM]; exact cnt_le _
  have hL : ((bks zs T).map lf).length = T := by rw [List.length_map, bks_len]
  have HL := Lib.hid hL
  have HRM := Lib.hid hRM
  have HM := Lib.hid hM
  have HC2 := Lib.hid hC2
  clear hC1 hc1 hRV hRM hM hL hC2
  obtain ⟨p, hp⟩ : ∃ p, (stC zs k).2 = p := ⟨_, rfl⟩
  rw [hp] at x1
  have HP := Lib.hid hp
  clear hp
  have hrt := rootAt_ok ((bks zs T).map lf) (lf_w32 _) (by rw [HL.out]; omega) m (by rw [HL.out]; omega)
  obtain ⟨RT, hRT⟩ : ∃ r, mroot (((bks zs T).map lf).take m) = r := ⟨_, rfl⟩
  rw [hRT] at hrt
  have HRT := Lib.hid hrt
  have HMR := Lib.hid hRT
  have HOF := Lib.hid (fun base w' hA => of_ok w' base g T vl vp ((bks zs T).map lf) (pk ((bks zs T).map lf)) hA HL.out (by omega) (lf_w32 _) m RT hmT hRT)
  have HRA := Lib.hid (fun base w' hA => rootAt_raw 2000 w' base g vl vp ((bks zs T).map lf) (pk ((bks zs T).map lf)) hA (m : Int) RT 0 HRT.out)
  clear hrt hRT HRT
  have hwT : IntKind.u64.wrap (T : Int) = (T : Int) := by rw [IntKind.wrap_u64]; omega
  have hwk : IntKind.u64.wrap (k : Int) = (k : Int) := by rw [IntKind.wrap_u64]; omega
  have hwm : IntKind.i64.wrap (m : Int) = (m : Int) := by rw [i64_w, wrap64_in _ (by omega) (by omega)]
  have hd : decide ((T : Int) < (m : Int)) = false := decide_eq_false (by omega)
  have hd' : decide (T < m) = false := decide_eq_false (by omega)
  clear hn
  go_upto_region 7 with (go_at_call 27; refine (HOF.out _ _ HQ3.out.t).mono ?_; rintro e w3 ⟨rfl, hb⟩; have hb2 := hb.alloc hb.size (.cells #[.int .u64 (m : Int), .string RT] 50 (0, 0)); have HD := Lib.hid (heap_alloc_new w3 (.cells #[.int .u64 (m : Int), .string RT] 50 (0, 0))); have HQ4 := Lib.hid (HQ3.out.below hb2); have HB4 := Lib.hid (HB3.out.trans (hb2.mono HB3.out.size)); have HC3 := Lib.hid (Kd.C_below HC2.out hb2); replace x0 := cell_to hb2 x0; replace x1 := cell_to hb2 x1; replace x2 := cell_to hb2 x2; replace x3 := cell_to hb2 x3; clear hb hb2)
  clear HOF HQ3 HB3 HC2
  generalize w3.alloc (.cells #[.int .u64 (m : Int), .string RT] 50 (0, 0)) = W3 at HD HQ4 HB4 HC3 x0 x1 x2 x3 ⊢
  generalize w3.heap.size = gD at HD ⊢
  have hyr : rd_T47 RV (i : Int) = rvC ((stC zs k).1 + i) k := by
    have h := rvs_at (stC zs k).1 k (cnt (zs.getD k 0)) i (by rw [HM.out]; exact hiM)
    rw [← HRV.out]
    show (rvs _ _ _).getD ((i : Int)).toNat z47 = _
    rw [Int.toNat_natCast]
    exact h
  have hNm := stC_n zs k
  have hsh := shows zs k i m T (by omega) hkm hmT (by rw [HM.out]; exact hiM)
  have hV1 := hsh (rvC ((stC zs k).1 + i) k) rfl (chk_rvC _ _)
  have hV2 := hsh (bare (rvC ((stC zs k).1 + i) k)) rfl (chk_bare _ _)
  rw [HMR.out] at hV1 hV2
  obtain ⟨n5, hn5⟩ : ∃ n, (prf zs k i m T).f5.length = n := ⟨_, rfl⟩
  obtain ⟨n6, hn6⟩ : ∃ n, (prf zs k i m T).f6.length = n := ⟨_, rfl⟩
  have HMK : Hid (∀ base w', At w' base g vl vp ((bks zs T).map lf) (pk ((bks zs T).map lf)) → Kd.C k47 w' A2 M RV → Calls Try.prog 28 #[.pointer (some ⟨g, 0, none⟩), .agg #[.int .u64 (k : Int), .string p, .int .u64 ((k : Int) + 7), .slice A2 M c2], .int .i64 (i : Int), .int .u64 (m : Int)] w' fun e w2 => ∃ A5 c5 A6 c6, e = .returned (.tuple #[.agg #[.int .u64 (k : Int), .string p, .int .u64 ((k : Int) + 7), .int .i64 (i : Int), .int .i64 (M : Int), .slice A5 n5 c5, .slice A6 n6 c6], .int .i64 0]) ∧
      n5 ≤ c5 ∧ n6 ≤ c6 ∧ Kd.C Kd.string w2 A5 n5 (prf zs k i m T).f5 ∧ Kd.C Kd.string w2 A6 n6 (prf zs k i m T).f6 ∧ Below w'.heap.size w' w2) := Lib.hid (fun base w' hA hC =>
    make_ok w' base g T vl vp _ _ hA HL.out (by omega) (lf_w32 _) k p ((k : Int) + 7) A2 M c2 RV HRM.out hC HFL.out (by omega) i m n5 n6 (prf zs k i m T).f5 (prf zs k i m T).f6 hiM hmT hkm (by rw [← HRV.out]; rfl) rfl hn5 hn6)
  obtain ⟨y, hy⟩ : ∃ y, rvC ((stC zs k).1 + i) k = y := ⟨_, rfl⟩
  have hgy : Fits y.f3 y.f4 y.f1 y.f2 y.f5 := hy ▸ rvC_fits ((stC zs k).1 + i) k (by omega)
  have hsy : Small y := hy ▸ small_rvC ((stC zs k).1 + i) k
  have hsb : Small (bare y) := hy ▸ small_bare ((stC zs k).1 + i) k
  have hy3 : y.f0 = 3 := by rw [← hy]; rfl
  have hy7 : y.f7 = false := by rw [← hy]; rfl
  rw [hy] at hyr hV1 hV2
  have HVP : ∀ (x : S47), Small x → Fits x.f3 x.f4 x.f1 x.f2 x.f5 → vfy (m : Int) RT x (prf zs k i m T) = 0 → ∀ A5 c5 A6 c6, n5 ≤ c5 → n6 ≤ c6 → ∀ w', Kd.C Kd.string w' A5 n5 (prf zs k i m T).f5 → Kd.C Kd.string w' A6 n6 (prf zs k i m T).f6 →
      Calls Try.prog 24 #[.agg #[.int .u64 (m : Int), .string RT], .agg #[.int .i64 x.f0, .string x.f1, .string x.f2, .int .u64 x.f3, .int .u64 x.f4, .string x.f5, .string x.f6, .bool x.f7], .agg #[.int .u64 (k : Int), .string p, .int .u64 ((k : Int) + 7), .int .i64 (i : Int), .int .i64 (M : Int), .slice A5 n5 c5, .slice A6 n6 c6]] w' fun e w2 => e = .returned (.int .i64 0) ∧ Below w'.heap.size w' w2 := by
    intro x hx gx hv A5 c5 A6 c6 h5 h6 w' b5 b6
    have h := verify_prf (m : Int) RT x (prf zs k i m T) A5 n5 c5 A6 n6 c6 0 hn5 hn6 h5 h6 (prf_fits (by omega) hx gx) hv w' b5 b6
    rw [← HP.out, ← HM.out]
    exact h
  have HV1 := Lib.hid (HVP y hsy hgy hV1)
  have HV2 := Lib.hid (HVP (bare y) hsb hgy hV2)
  have hwo : wo RV (i : Int) = true := by
    unfold wo
    rw [hyr, hy3, hy7, HRM.out]
    simp [bod]
    exact hiM
  have HWO := Lib.hid (fun w' hC => without_any (k : Int) p ((k : Int) + 7) A2 c2 M RV (i : Int) w' HRM.out hC hc2 (by omega))
  have HWB := Lib.hid hwo
  obtain ⟨km, em⟩ := (pmeta_ev (op := y.f0) y.f6 y.f7 hgy).rounds
  have HME := Lib.hid (fun w' => proof_Meta.calls km y.f0 y.f1 y.f2 y.f3 y.f4 y.f5 y.f6 y.f7 _ w' em)
  obtain ⟨kn, en⟩ := (rmeta_ev (op := y.f0) y.f6 y.f7 hgy).rounds
  have HMN := Lib.hid (fun w' => parchmentref09_Meta.calls kn y.f0 y.f1 y.f2 y.f3 y.f4 y.f5 y.f6 y.f7 _ w' en)
  have HRE := Lib.hid (fun w' => ref_any y w')
  clear em en HVP hV1 hV2 hsh hsy hsb hgy hwo hn5 hn6
  generalize S (mt y.f0 y.f1 y.f2 y.f3 y.f4 y.f5) = MB at HME HMN
  obtain ⟨ad2, ea, y0, y1, y2, y3, y4, y5, y6, y7⟩ := at_T47 HC3.out (i : Int) (by omega) (by omega)
  subst ea
  simp only [Int.toNat_natCast] at y0 y1 y2 y3 y4 y5 y6 y7
  rw [hyr] at y0 y1 y2 y3 y4 y5 y6 y7
  have HYR := Lib.hid hyr
  have HY3 := Lib.hid hy3
  have HY7 := Lib.hid hy7
  have HY := Lib.hid (⟨y0, y1, y2, y3, y4, y5, y6, y7⟩ : _ ∧ _ ∧ _ ∧ _ ∧ _ ∧ _ ∧ _ ∧ _)
  clear hyr hy hy3 hy7 y0 y1 y2 y3 y4 y5 y6 y7 HFL HL HMR HP
  go_upto_region 8 with (go_at_call 28; refine (HMK.out _ _ HQ4.out.t HC3.out).mono ?_; rintro e w4 ⟨A5, c5, A6, c6, rfl, h5, h6, hC5, hC6, hb⟩; have ha := below_alloc (o := .cells #[.int .u64 (k : Int), .string p, .int .u64 ((k : Int) + 7), .int .i64 (i : Int), .int .i64 (M : Int), .slice A5 n5 c5, .slice A6 n6 c6] 53 (0, 0)) (Below.refl w4.heap.size w4); have hb2 := hb.alloc hb.size (.cells #[.int .u64 (k : Int), .string p, .int .u64 ((k : Int) + 7), .int .i64 (i : Int), .int .i64 (M : Int), .slice A5 n5 c5, .slice A6 n6 c6] 53 (0, 0)); have HD4 := Lib.hid (blk_below HD.out hb2); have HP4 := Lib.hid (heap_alloc_new w4 (.cells #[.int .u64 (k : Int), .string p, .int .u64 ((k : Int) + 7), .int .i64 (i : Int), .int .i64 (M : Int), .slice A5 n5 c5, .slice A6 n6 c6] 53 (0, 0))); have HB5 := Lib.hid (HB4.out.trans (hb2.mono HB4.out.size)); have HB34 := Lib.hid hb2; have HQ5 := Lib.hid (HQ4.out.below hb2); have HC5 := Lib.hid (Kd.C_below hC5 ha); have HC6 := Lib.hid (Kd.C_below hC6 ha); replace x0 := cell_to hb2 x0; replace x1 := cell_to hb2 x1; replace x2 := cell_to hb2 x2; replace x3 := cell_to hb2 x3; clear hb hb2 ha hC5 hC6)
  clear HMK HD HQ4 HB4
  generalize w4.alloc (.cells #[.int .u64 (k : Int), .string p, .int .u64 ((k : Int) + 7), .int .i64 (i : Int), .int .i64 (M : Int), .slice A5 n5 c5, .slice A6 n6 c6] 53 (0, 0)) = W4 at HD4 HP4 HB5 HQ5 HC5 HC6 HB34 x0 x1 x2 x3 ⊢
  generalize w4.heap.size = gP at HP4 ⊢
  have HC4 := Lib.hid (Kd.C_below HC3.out HB34.out)
  go_upto_region 11 with (go_at_call 35; refine (HRA.out _ _ HQ5.out.t).mono ?_; rintro e w5 ⟨rfl, hb⟩; have HD5 := Lib.hid (blk_below HD4.out hb); have HP5 := Lib.hid (blk_below HP4.out hb); have HB6 := Lib.hid (HB5.out.trans (hb.mono HB5.out.size)); have HB35 := Lib.hid (HB34.out.trans (hb.mono HB34.out.size)); have HC7 := Lib.hid (Kd.C_below HC4.out hb); have HC5' := Lib.hid (Kd.C_below HC5.out hb); have HC6' := Lib.hid (Kd.C_below HC6.out hb); replace x0 := cell_to hb x0; replace x1 := cell_to hb x1; replace x2 := cell_to hb x2; replace x3 := cell_to hb x3; clear hb)
  clear HRA HD4 HP4 HB5 HQ5 HC4 HC5 HC6 HB34
  have d0 : w5.cell? ⟨gD, 0, none⟩ = some (.int .u64 (m : Int)) := (blk_cell HD5.out 0).trans rfl
  have d1 : w5.cell? ⟨gD, 1, none⟩ = some (.string RT) := (blk_cell HD5.out 1).trans rfl
  have er : (RT.toList != RT.toList) = false := bne_eq_false_iff_eq.2 rfl
  have en : ((m : Int) != (m : Int)) = false := bne_eq_false_iff_eq.2 rfl
  have en' : (m != m) = false := bne_eq_false_iff_eq.2 rfl
  have e1 : decide ((m : Int) ≤ (k : Int)) = false := decide_eq_false (by omega)
  have e1' : decide (m ≤ k) = false := decide_eq_false (by omega)
  have e2 : decide ((i : Int) < 0) = false := decide_eq_false (by omega)
  have e3 : decide ((M : Int) ≤ (i : Int)) = false := decide_eq_false (by omega)
  have e3' : decide (M ≤ i) = false := decide_eq_false (by omega)
  go_upto_region 15 with fail
  clear d0 d1 er en en' e1 e1' e2 e3 e3'
  go_upto_region 16 with (go_at_call 19; refine (HWO.out _ HC7.out).mono ?_; rintro e w6 ⟨Ag, cg, rfl, hG, hb⟩; rw [if_pos HWB.out] at hG ⊢; have ha := below_alloc (o := .cells #[.int .u64 (k : Int), .string p, .int .u64 ((k : Int) + 7), .slice Ag M cg] 25 (0, 0)) (Below.refl w6.heap.size w6); have hb2 := hb.alloc hb.size (.cells #[.int .u64 (k : Int), .string p, .int .u64 ((k : Int) + 7), .slice Ag M cg] 25 (0, 0)); have HG6 := Lib.hid (heap_alloc_new w6 (.cells #[.int .u64 (k : Int), .string p, .int .u64 ((k : Int) + 7), .slice Ag M cg] 25 (0, 0))); have HGC := Lib.hid (Kd.C_below hG ha); have HD6 := Lib.hid (blk_below HD5.out hb2); have HP6 := Lib.hid (blk_below HP5.out hb2); have HB7 := Lib.hid (HB6.out.trans (hb2.mono HB6.out.size)); have HB36 := Lib.hid (HB35.out.trans (hb2.mono HB35.out.size)); have HC5 := Lib.hid (Kd.C_below HC5'.out hb2); have HC6 := Lib.hid (Kd.C_below HC6'.out hb2); replace x3 := cell_to hb2 x3; clear hb hb2 ha hG x0 x1 x2)
  clear HWO HC7 HB6 HB35 HD5 HP5 HC5' HC6'
  generalize w6.alloc (.cells #[.int .u64 (k : Int), .string p, .int .u64 ((k : Int) + 7), .slice Ag M cg] 25 (0, 0)) = W6 at HG6 HGC HD6 HP6 HB7 HB36 HC5 HC6 x3 ⊢
  generalize w6.heap.size = gG at HG6 ⊢
  have g3 : W6.cell? ⟨gG, 3, none⟩ = some (.slice Ag M cg) := (blk_cell HG6.out 3).trans rfl
  have em : ((M : Int) != (M : Int)) = false := bne_eq_false_iff_eq.2 rfl
  have em' : (M != M) = false := bne_eq_false_iff_eq.2 rfl
  refine start_ (n := 10) (S := fun w' => w'.cell? ⟨gG, 3, none⟩ = some (.slice Ag M cg) ∧ w'.cell? ⟨(ad.add (k * 4)).block, (ad.add (k * 4)).off + 3, none⟩ = some (.slice (some ad2) M c2)) (ds := []) #[false, false, false, false, false, false, false, false, false, false] (by kernel_rfl) rfl rfl ⟨g3, x3⟩ (fun hHeld => ?_)
  refine pure_ (i := 0) (N := some 140) (v := ?_) (a' := ?_) #[true, false, false, false, false, false, false, false, false, false] rfl rfl (by kernel_rfl) (fun _ _ _ h => h) (Or.inl ⟨by rfl, ?_⟩) ?_ ?_
  rotate_left
  · intro w'
    go_simp
    with_reducible rfl
  rotate_left
  · simp only [Act.put, List.setIfInBounds_toArray, List.set_cons_zero, List.set_cons_succ, i64_w, i32_w]
    rfl
  refine pure_ (i := 3) (N := some 143) (v := ?_) (a' := ?_) #[true, false, false, true, false, false, false, false, false, false] rfl rfl (by kernel_rfl) (fun _ _ _ h => h) (Or.inl ⟨by rfl, ?_⟩) ?_ ?_
  rotate_left
  · intro w'
    go_simp
    with_reducible rfl
  rotate_left
  · simp only [Act.put, List.setIfInBounds_toArray, List.set_cons_zero, List.set_cons_succ, i64_w, i32_w]
    rfl
  refine pure_ (i := 4) (N := some 144) (v := ?_) (a' := ?_) #[true, false, false, true, true, false, false, false, false, false] rfl rfl (by kernel_rfl) (fun _ _ _ h => h) (Or.inl ⟨by rfl, ?_⟩) ?_ ?_
  rotate_left
  · intro w'
    go_simp
    with_reducible rfl
  rotate_left
  · simp only [Act.put, List.setIfInBounds_toArray, List.set_cons_zero, List.set_cons_succ, i64_w, i32_w]
    rfl
  refine pure_ (i := 5) (N := some 145) (v := ?_) (a' := ?_) #[true, false, false, true, true, true, false, false, false, false] rfl rfl (by kernel_rfl) (fun _ _ _ h => h) (Or.inl ⟨by rfl, ?_⟩) ?_ ?_
  rotate_left
  · intro w'
    go_simp
    with_reducible rfl
  rotate_left
  · simp only [Act.put, List.setIfInBounds_toArray, List.set_cons_zero, List.set_cons_succ, i64_w, i32_w]
    rfl
  refine pure_ (i := 6) (N := some 146) (v := ?_) (a' := ?_) #[true, false, false, true, true, true, true, false, false, false] rfl rfl (by kernel_rfl) (fun _ _ _ h => h) (Or.inl ⟨by rfl, ?_⟩) ?_ ?_
  rotate_left
  · intro w'
    go_simp
    with_reducible rfl
  rotate_left
  · simp only [Act.put, List.setIfInBounds_toArray, List.set_cons_zero, List.set_cons_succ, i64_w, i32_w]
    rfl
  refine take_ (i := 1) (N := some 141) (v := ?_) (a' := ?_) #[true, true, false, true, true, true, true, false, false, false] rfl rfl (by kernel_rfl) (fun _ _ _ h => h) (Or.inl ⟨by rfl, ?_⟩) hHeld ?_ ?_
  rotate_left
  · rintro w' ⟨s0, s1⟩
    go_simp
    with_reducible rfl
  rotate_left
  · simp only [Act.put, List.setIfInBounds_toArray, List.set_cons_zero, List.set_cons_succ, i64_w, i32_w]
    rfl
  refine pure_ (i := 2) (N := some 142) (v := ?_) (a' := ?_) #[true, true, true, true, true, true, true, false, false, false] rfl rfl (by kernel_rfl) (fun _ _ _ h => h) (Or.inl ⟨by rfl, ?_⟩) ?_ ?_
  rotate_left
  · intro w'
    go_simp
    with_reducible rfl
  rotate_left
  · simp only [Act.put, List.setIfInBounds_toArray, List.set_cons_zero, List.set_cons_succ, i64_w, i32_w]
    rfl
  refine take_ (i := 7) (N := some 147) (v := ?_) (a' := ?_) #[true, true, true, true, true, true, true, true, false, false] rfl rfl (by kernel_rfl) (fun _ _ _ h => h) (Or.inl ⟨by rfl, ?_⟩) hHeld ?_ ?_
  rotate_left
  · rintro w' ⟨s0, s1⟩
    go_simp
    with_reducible rfl
  rotate_left
  · simp only [Act.put, List.setIfInBounds_toArray, List.set_cons_zero, List.set_cons_succ, i64_w, i32_w]
    rfl
  refine pure_ (i := 8) (N := some 148) (v := ?_) (a' := ?_) #[true, true, true, true, true, true, true, true, true, false] rfl rfl (by kernel_rfl) (fun _ _ _ h => h) (Or.inl ⟨by rfl, ?_⟩) ?_ ?_
  rotate_left
  · intro w'
    go_simp
    with_reducible rfl
  rotate_left
  · simp only [Act.put, List.setIfInBounds_toArray, List.set_cons_zero, List.set_cons_succ, i64_w, i32_w]
    rfl
  refine pure_ (i := 9) (N := some 149) (v := ?_) (a' := ?_) #[true, true, true, true, true, true, true, true, true, true] rfl rfl (by kernel_rfl) (fun _ _ _ h => h) (Or.inl ⟨by rfl, ?_⟩) ?_ ?_
  rotate_left
  · intro w'
    go_simp
    with_reducible rfl
  rotate_left
  · simp only [Act.put, List.setIfInBounds_toArray, List.set_cons_zero, List.set_cons_succ, i64_w, i32_w]
    rfl
  refine done_ (by kernel_rfl) ?_
  go_upto_region 18 with fail
  clear em em' g3
  have hbd : Below W6.heap.size W6 W6.drew := below_drew (Below.refl _ _)
  have HD7 := Lib.hid (blk_below HD6.out hbd)
  have HP7 := Lib.hid (blk_below HP6.out hbd)
  have HG7 := Lib.hid (blk_below HG6.out hbd)
  have HB8 := Lib.hid (HB7.out.trans (hbd.mono HB7.out.size))
  have HB37 := Lib.hid (HB36.out.trans (hbd.mono HB36.out.size))
  have HC5' := Lib.hid (Kd.C_below HC5.out hbd)
  have HC6' := Lib.hid (Kd.C_below HC6.out hbd)
  have hGC := Kd.C_below HGC.out hbd
  replace x3 := cell_to hbd x3
  clear hbd HD6 HP6 HG6 HB7 HB36 HC5 HC6 HGC
  generalize W6.drew = W7 at HD7 HP7 HG7 HB8 HB37 HC5' HC6' hGC x3 ⊢
  have hset : rd_T47 (RV.set ((i : Int)).toNat (bare (rd_T47 RV (i : Int)))) (i : Int) = bare y := by
    rw [rd_set_eq (by omega) (by rw [HRM.out]; omega), HYR.out]
  obtain ⟨adg, ea, z0, z1, z2, z3, z4, z5, z6, z7⟩ := at_T47 hGC (i : Int) (by omega) (by omega)
  subst ea
  simp only [Int.toNat_natCast] at z0 z1 z2 z3 z4 z5 z6 z7 hset
  rw [hset] at z0 z1 z2 z3 z4 z5 z6 z7
  clear hset hGC
  obtain ⟨yb, hyb⟩ : ∃ b, bare y = b := ⟨_, rfl⟩
  rw [hyb] at z0 z1 z2 z3 z4 z5 z6 z7 HV2
  clear hyb
  obtain ⟨y0, y1, y2, y3, y4, y5, y6, y7⟩ := HY.out
  replace y0 := cell_to HB37.out y0
  replace y1 := cell_to HB37.out y1
  replace y2 := cell_to HB37.out y2
  replace y3 := cell_to HB37.out y3
  replace y4 := cell_to HB37.out y4
  replace y5 := cell_to HB37.out y5
  replace y6 := cell_to HB37.out y6
  replace y7 := cell_to HB37.out y7
  have g3 : W7.cell? ⟨gG, 3, none⟩ = some (.slice (some adg) M cg) := (blk_cell HG7.out 3).trans rfl
  have HV1' := Lib.hid (HV1.out A5 c5 A6 c6 h5 h6)
  have HV2' := Lib.hid (HV2.out A5 c5 A6 c6 h5 h6)
  clear HV1 HV2 HY HB37 HG7 HYR HY3 HY7 HWB HRV HRM HM hcT h5 h6
  have hk0 : (0 : Int) ≤ (k : Int) := by omega
  have hk1 : (k : Int) < (T : Int) := by omega
  have hi0 : (0 : Int) ≤ (i : Int) := by omega
  have hi1 : (i : Int) < (M : Int) := by omega
  have eM : (MB.toList == MB.toList) = true := beq_iff_eq.2 rfl
  have d0 : W7.cell? ⟨gD, 0, none⟩ = some (.int .u64 (m : Int)) := (blk_cell HD7.out 0).trans rfl
  have d1 : W7.cell? ⟨gD, 1, none⟩ = some (.string RT) := (blk_cell HD7.out 1).trans rfl
  have p0 : W7.cell? ⟨gP, 0, none⟩ = some (.int .u64 (k : Int)) := (blk_cell HP7.out 0).trans rfl
  have p1 : W7.cell? ⟨gP, 1, none⟩ = some (.string p) := (blk_cell HP7.out 1).trans rfl
  have p2 : W7.cell? ⟨gP, 2, none⟩ = some (.int .u64 ((k : Int) + 7)) := (blk_cell HP7.out 2).trans rfl
  have p3 : W7.cell? ⟨gP, 3, none⟩ = some (.int .i64 (i : Int)) := (blk_cell HP7.out 3).trans rfl
  have p4 : W7.cell? ⟨gP, 4, none⟩ = some (.int .i64 (M : Int)) := (blk_cell HP7.out 4).trans rfl
  have p5 : W7.cell? ⟨gP, 5, none⟩ = some (.slice A5 n5 c5) := (blk_cell HP7.out 5).trans rfl
  have p6 : W7.cell? ⟨gP, 6, none⟩ = some (.slice A6 n6 c6) := (blk_cell HP7.out 6).trans rfl
  clear HD7 HP7
  as_aux_lemma =>
  refine start_ (n := 54) (S := fun w' => w'.cell? ⟨(ad.add (k * 4)).block, (ad.add (k * 4)).off + 3, none⟩ = some (.slice (some ad2) M c2) ∧ w'.cell? ⟨gG, 3, none⟩ = some (.slice (some adg) M cg) ∧ w'.cell? (ad2.add (i * 8)) = some (.int .i64 y.f0) ∧ w'.cell? (⟨(ad2.add (i * 8)).block, (ad2.add (i * 8)).off + 1, none⟩) = some (.string y.f1) ∧ w'.cell? (⟨(ad2.add (i * 8)).block, (ad2.add (i * 8)).off + 2, none⟩) = some (.string y.f2) ∧ w'.cell? (⟨(ad2.add (i * 8)).block, (ad2.add (i * 8)).off + 3, none⟩) = some (.int .u64 y.f3) ∧ w'.cell? (⟨(ad2.add (i * 8)).block, (ad2.add (i * 8)).off + 4, none⟩) = some (.int .u64 y.f4) ∧ w'.cell? (⟨(ad2.add (i * 8)).block, (ad2.add (i * 8)).off + 5, none⟩) = some (.string y.f5) ∧ w'.cell? (⟨(ad2.add (i * 8)).block, (ad2.add (i * 8)).off + 6, none⟩) = some (.string y.f6) ∧ w'.cell? (⟨(ad2.add (i * 8)).block, (ad2.add (i * 8)).off + 7, none⟩) = some (.bool y.f7) ∧ w'.cell? (adg.add (i * 8)) = some (.int .i64 yb.f0) ∧ w'.cell? (⟨(adg.add (i * 8)).block, (adg.add (i * 8)).off + 1, none⟩) = some (.string yb.f1) ∧ w'.cell? (⟨(adg.add (i * 8)).block, (adg.add (i * 8)).off + 2, none⟩) = some (.string yb.f2) ∧ w'.cell? (⟨(adg.add (i * 8)).block, (adg.add (i * 8)).off + 3, none⟩) = some (.int .u64 yb.f3) ∧ w'.cell? (⟨(adg.add (i * 8)).block, (adg.add (i * 8)).off + 4, none⟩) = some (.int .u64 yb.f4) ∧ w'.cell? (⟨(adg.add (i * 8)).block, (adg.add (i * 8)).off + 5, none⟩) = some (.string yb.f5) ∧ w'.cell? (⟨(adg.add (i * 8)).block, (adg.add (i * 8)).off + 6, none⟩) = some (.string yb.f6) ∧ w'.cell? (⟨(adg.add (i * 8)).block, (adg.add (i * 8)).off + 7, none⟩) = some (.bool yb.f7) ∧ w'.cell? ⟨gD, 0, none⟩ = some (.int .u64 (m : Int)) ∧ w'.cell? ⟨gD, 1, none⟩ = some (.string RT) ∧ w'.cell? ⟨gP, 0, none⟩ = some (.int .u64 (k : Int)) ∧ w'.cell? ⟨gP, 1, none⟩ = some (.string p) ∧ w'.cell? ⟨gP, 2, none⟩ = some (.int .u64 ((k : Int) + 7)) ∧ w'.cell? ⟨gP, 3, none⟩ = some (.int .i64 (i : Int)) ∧ w'.cell? ⟨gP, 4, none⟩ = some (.int .i64 (M : Int)) ∧ w'.cell? ⟨gP, 5, none⟩ = some (.slice A5 n5 c5) ∧ w'.cell? ⟨gP, 6, none⟩ = some (.slice A6 n6 c6)) (ds := []) #[false, false, false, false, false, false, false, false, false, false, false, false, false, false, false, false, false, false, false, false, false, false, false, false, false, false, false, false, false, false, false, false, false, false, false, false, false, false, false, false, false, false, false, false, false, false, false, false, false, false, false, false, false, false] (by kernel_rfl) rfl rfl ⟨x3, g3, y0, y1, y2, y3, y4, y5, y6, y7, z0, z1, z2, z3, z4, z5, z6, z7, d0, d1, p0, p1, p2, p3, p4, p5, p6⟩ (fun hHeld => ?_)
  refine pure_ (i := 0) (N := some 150) (v := ?_) (a' := ?_) #[true, false, false, false, false, false, false, false, false, false, false, false, false, false, false, false, false, false, false, false, false, false, false, false, false, false, false, false, false, false, false, false, false, false, false, false, false, false, false, false, false, false, false, false, false, false, false, false, false, false, false, false, false, false] rfl rfl (by kernel_rfl) (fun _ _ _ h => h) (Or.inl ⟨by rfl, ?_⟩) ?_ ?_
  rotate_left
  · intro w'
    go_simp
    with_reducible rfl
  rotate_left
  · simp only [Act.put, List.setIfInBounds_toArray, List.set_cons_zero, List.set_cons_succ, i64_w, i32_w]
    rfl
  refine pure_ (i := 1) (N := some 151) (v := ?_) (a' := ?_) #[true, true, false, false, false, false, false, false, false, false, false, false, false, false, false, false, false, false, false, false, false, false, false, false, false, false, false, false, false, false, false, false, false, false, false, false, false, false, false, false, false, false, false, false, false, false, false, false, false, false, false, false, false, false] rfl rfl (by kernel_rfl) (fun _ _ _ h => h) (Or.inl ⟨by rfl, ?_⟩) ?_ ?_
  rotate_left
  · intro w'
    go_simp
    with_reducible rfl
  rotate_left
  · simp only [Act.put, List.setIfInBounds_toArray, List.set_cons_zero, List.set_cons_succ, i64_w, i32_w]
    rfl
  refine pure_ (i := 2) (N := some 152) (v := ?_) (a' := ?_) #[true, true, true, false, false, false, false, false, false, false, false, false, false, false, false, false, false, false, false, false, false, false, false, false, false, false, false, false, false, false, false, false, false, false, false, false, false, false, false, false, false, false, false, false, false, false, false, false, false, false, false, false, false, false] rfl rfl (by kernel_rfl) (fun _ _ _ h => h) (Or.inl ⟨by rfl, ?_⟩) ?_ ?_
  rotate_left
  · intro w'
    go_simp
    with_reducible rfl
  rotate_left
  · simp only [Act.put, List.setIfInBounds_toArray, List.set_cons_zero, List.set_cons_succ, i64_w, i32_w]
    rfl
  refine pure_ (i := 3) (N := some 153) (v := ?_) (a' := ?_) #[true, true, true, true, false, false, false, false, false, false, false, false, false, false, false, false, false, false, false, false, false, false, false, false, false, false, false, false, false, false, false, false, false, false, false, false, false, false, false, false, false, false, false, false, false, false, false, false, false, false, false, false, false, false] rfl rfl (by kernel_rfl) (fun _ _ _ h => h) (Or.inl ⟨by rfl, ?_⟩) ?_ ?_
  rotate_left
  · intro w'
    go_simp
    with_reducible rfl
  rotate_left
  · simp only [Act.put, List.setIfInBounds_toArray, List.set_cons_zero, List.set_cons_succ, i64_w, i32_w]
    rfl
  refine pure_ (i := 4) (N := some 154) (v := ?_) (a' := ?_) #[true, true, true, true, true, false, false, false, false, false, false, false, false, false, false, false, false, false, false, false, false, false, false, false, false, false, false, false, false, false, false, false, false, false, false, false, false, false, false, false, false, false, false, false, false, false, false, false, false, false, false, false, false, false] rfl rfl (by kernel_rfl) (fun _ _ _ h => h) (Or.inl ⟨by rfl, ?_⟩) ?_ ?_
  rotate_left
  · intro w'
    go_simp
    with_reducible rfl
  rotate_left
  · simp only [Act.put, List.setIfInBounds_toArray, List.set_cons_zero, List.set_cons_succ, i64_w, i32_w]
    rfl
  refine pure_ (i := 5) (N := some 155) (v := ?_) (a' := ?_) #[true, true, true, true, true, true, false, false, false, false, false, false, false, false, false, false, false, false, false, false, false, false, false, false, false, false, false, false, false, false, false, false, false, false, false, false, false, false, false, false, false, false, false, false, false, false, false, false, false, false, false, false, false, false] rfl rfl (by kernel_rfl) (fun _ _ _ h => h) (Or.inl ⟨by rfl, ?_⟩) ?_ ?_
  rotate_left
  · intro w'
    go_simp
    with_reducible rfl
  rotate_left
  · simp only [Act.put, List.setIfInBounds_toArray, List.set_cons_zero, List.set_cons_succ, i64_w, i32_w]
    rfl
  refine pure_ (i := 6) (N := some 156) (v := ?_) (a' := ?_) #[true, true, true, true, true, true, true, false, false, false, false, false, false, false, false, false, false, false, false, false, false, false, false, false, false, false, false, false, false, false, false, false, false, false, false, false, false, false, false, false, false, false, false, false, false, false, false, false, false, false, false, false, false, false] rfl rfl (by kernel_rfl) (fun _ _ _ h => h) (Or.inl ⟨by rfl, ?_⟩) ?_ ?_
  rotate_left
  · intro w'
    go_simp
    with_reducible rfl
  rotate_left
  · simp only [Act.put, List.setIfInBounds_toArray, List.set_cons_zero, List.set_cons_succ, i64_w, i32_w]
    rfl
  refine pure_ (i := 8) (N := some 158) (v := ?_) (a' := ?_) #[true, true, true, true, true, true, true, false, true, false, false, false, false, false, false, false, false, false, false, false, false, false, false, false, false, false, false, false, false, false, false, false, false, false, false, false, false, false, false, false, false, false, false, false, false, false, false, false, false, false, false, false, false, false] rfl rfl (by kernel_rfl) (fun _ _ _ h => h) (Or.inl ⟨by rfl, ?_⟩) ?_ ?_
  rotate_left
  · intro w'
    go_simp
    with_reducible rfl
  rotate_left
  · simp only [Act.put, List.setIfInBounds_toArray, List.set_cons_zero, List.set_cons_succ, i64_w, i32_w]
    rfl
  refine pure_ (i := 9) (N := some 159) (v := ?_) (a' := ?_) #[true, true, true, true, true, true, true, false, true, true, false, false, false, false, false, false, false, false, false, false, false, false, false, false, false, false, false, false, false, false, false, false, false, false, false, false, false, false, false, false, false, false, false, false, false, false, false, false, false, false, false, false, false, false] rfl rfl (by kernel_rfl) (fun _ _ _ h => h) (Or.inl ⟨by rfl, ?_⟩) ?_ ?_
  rotate_left
  · intro w'
    go_simp
    with_reducible rfl
  rotate_left
  · simp only [Act.put, List.setIfInBounds_toArray, List.set_cons_zero, List.set_cons_succ, i64_w, i32_w]
    rfl
  refine pure_ (i := 10) (N := some 160) (v := ?_) (a' := ?_) #[true, true, true, true, true, true, true, false, true, true, true, false, false, false, false, false, false, false, false, false, false, false, false, false, false, false, false, false, false, false, false, false, false, false, false, false, false, false, false, false, false, false, false, false, false, false, false, false, false, false, false, false, false, false] rfl rfl (by kernel_rfl) (fun _ _ _ h => h) (Or.inl ⟨by rfl, ?_⟩) ?_ ?_
  rotate_left
  · intro w'
    go_simp
    with_reducible rfl
  rotate_left
  · simp only [Act.put, List.setIfInBounds_toArray, List.set_cons_zero, List.set_cons_succ, i64_w, i32_w]
    rfl
  refine pure_ (i := 11) (N := some 161) (v := ?_) (a' := ?_) #[true, true, true, true, true, true, true, false, true, true, true, true, false, false, false, false, false, false, false, false, false, false, false, false, false, false, false, false, false, false, false, false, false, false, false, false, false, false, false, false, false, false, false, false, false, false, false, false, false, false, false, false, false, false] rfl rfl (by kernel_rfl) (fun _ _ _ h => h) (Or.inl ⟨by rfl, ?_⟩) ?_ ?_
  rotate_left
  · intro w'
    go_simp
    with_reducible rfl
  rotate_left
  · simp only [Act.put, List.setIfInBounds_toArray, List.set_cons_zero, List.set_cons_succ, i64_w, i32_w]
    rfl
  refine pure_ (i := 13) (N := some 163) (v := ?_) (a' := ?_) #[true, true, true, true, true, true, true, false, true, true, true, true, false, true, false, false, false, false, false, false, false, false, false, false, false, false, false, false, false, false, false, false, false, false, false, false, false, false, false, false, false, false, false, false, false, false, false, false, false, false, false, false, false, false] rfl rfl (by kernel_rfl) (fun _ _ _ h => h) (Or.inl ⟨by rfl, ?_⟩) ?_ ?_
  rotate_left
  · intro w'
    go_simp
    with_reducible rfl
  rotate_left
  · simp only [Act.put, List.setIfInBounds_toArray, List.set_cons_zero, List.set_cons_succ, i64_w, i32_w]
    rfl
  refine take_ (i := 7) (N := some 157) (v := ?_) (a' := ?_) #[true, true, true, true, true, true, true, true, true, true, true, true, false, true, false, false, false, false, false, false, false, false, false, false, false, false, false, false, false, false, false, false, false, false, false, false, false, false, false, false, false, false, false, false, false, false, false, false, false, false, false, false, false, false] rfl rfl (by kernel_rfl) (fun _ _ _ h => h) (Or.inl ⟨by rfl, ?_⟩) hHeld ?_ ?_
  rotate_left
  · rintro w' ⟨s0, s1, s2, s3, s4, s5, s6, s7, s8, s9, s10, s11, s12, s13, s14, s15, s16, s17, s18, s19, s20, s21, s22, s23, s24, s25, s26⟩
    go_simp
    with_reducible rfl
  rotate_left
  · simp only [Act.put, List.setIfInBounds_toArray, List.set_cons_zero, List.set_cons_succ, i64_w, i32_w]
    rfl
  refine take_ (i := 12) (N := some 162) (v := ?_) (a' := ?_) #[true, true, true, true, true, true, true, true, true, true, true, true, true, true, false, false, false, false, false, false, false, false, false, false, false, false, false, false, false, false, false, false, false, false, false, false, false, false, false, false, false, false, false, false, false, false, false, false, false, false, false, false, false, false] rfl rfl (by kernel_rfl) (fun _ _ _ h => h) (Or.inl ⟨by rfl, ?_⟩) hHeld ?_ ?_
  rotate_left
  · rintro w' ⟨s0, s1, s2, s3, s4, s5, s6, s7, s8, s9, s10, s11, s12, s13, s14, s15, s16, s17, s18, s19, s20, s21, s22, s23, s24, s25, s26⟩
    go_simp
    with_reducible rfl
  rotate_left
  · simp only [Act.put, List.setIfInBounds_toArray, List.set_cons_zero, List.set_cons_succ, i64_w, i32_w]
    rfl
  refine pure_ (i := 14) (N := some 164) (v := ?_) (a' := ?_) #[true, true, true, true, true, true, true, true, true, true, true, true, true, true, true, false, false, false, false, false, false, false, false, false, false, false, false, false, false, false, false, false, false, false, false, false, false, false, false, false, false, false, false, false, false, false, false, false, false, false, false, false, false, false] rfl rfl (by kernel_rfl) (fun _ _ _ h => h) (Or.inl ⟨by rfl, ?_⟩) ?_ ?_
  rotate_left
  · intro w'
    go_simp
    with_reducible rfl
  rotate_left
  · simp only [Act.put, List.setIfInBounds_toArray, List.set_cons_zero, List.set_cons_succ, i64_w, i32_w]
    rfl
  refine take_ (i := 15) (N := some 165) (v := ?_) (a' := ?_) #[true, true, true, true, true, true, true, true, true, true, true, true, true, true, true, true, false, false, false, false, false, false, false, false, false, false, false, false, false, false, false, false, false, false, false, false, false, false, false, false, false, false, false, false, false, false, false, false, false, false, false, false, false, false] rfl rfl (by kernel_rfl) (fun _ _ _ h => h) (Or.inl ⟨by rfl, ?_⟩) hHeld ?_ ?_
  rotate_left
  · rintro w' ⟨s0, s1, s2, s3, s4, s5, s6, s7, s8, s9, s10, s11, s12, s13, s14, s15, s16, s17, s18, s19, s20, s21, s22, s23, s24, s25, s26⟩
    go_simp
    with_reducible rfl
  rotate_left
  · simp only [Act.put, List.setIfInBounds_toArray, List.set_cons_zero, List.set_cons_succ, i64_w, i32_w]
    rfl
  refine take_ (i := 16) (N := some 166) (v := ?_) (a' := ?_) #[true, true, true, true, true, true, true, true, true, true, true, true, true, true, true, true, true, false, false, false, false, false, false, false, false, false, false, false, false, false, false, false, false, false, false, false, false, false, false, false, false, false, false, false, false, false, false, false, false, false, false, false, false, false] rfl rfl (by kernel_rfl) (fun _ _ _ h => h) (Or.inl ⟨by rfl, ?_⟩) hHeld ?_ ?_
  rotate_left
  · rintro w' ⟨s0, s1, s2, s3, s4, s5, s6, s7, s8, s9, s10, s11, s12, s13, s14, s15, s16, s17, s18, s19, s20, s21, s22, s23, s24, s25, s26⟩
    go_simp
    with_reducible rfl
  rotate_left
  · simp only [Act.put, List.setIfInBounds_toArray, List.set_cons_zero, List.set_cons_succ, i64_w, i32_w]
    rfl
  refine one_ (i := 17) (N := some 167) #[true, true, true, true, true, true, true, true, true, true, true, true, true, true, true, true, true, true, false, false, false, false, false, false, false, false, false, false, false, false, false, false, false, false, false, false, false, false, false, false, false, false, false, false, false, false, false, false, false, false, false, false, false, false] rfl rfl (by kernel_rfl) (by decide) (fun K hK => ?_)
  refine goes_ Try.func24 (by kernel_rfl) rfl #[.agg #[.int .u64 (m : Int), .string RT], .agg #[.int .i64 y.f0, .string y.f1, .string y.f2, .int .u64 y.f3, .int .u64 y.f4, .string y.f5, .string y.f6, .bool y.f7], .agg #[.int .u64 (k : Int), .string p, .int .u64 ((k : Int) + 7), .int .i64 (i : Int), .int .i64 (M : Int), .slice A5 n5 c5, .slice A6 n6 c6]] (by rfl) rfl rfl (by simp only [List.map_toArray, List.map_cons, List.map_nil]; rfl) ?_
  with_reducible refine (HV1'.out _ (Kd.C_below HC5'.out (below_drew (Below.refl _ _))) (Kd.C_below HC6'.out (below_drew (Below.refl _ _)))).mono ?_
  rintro e w3 ⟨rfl, hb⟩
  refine ⟨_, rfl, ?_⟩
  have hb' : Below W7.heap.size W7 w3 := ⟨hb.os, hb.tape, hb.output, hb.size, hb.block⟩
  have HB9 := Lib.hid (HB8.out.trans (hb'.mono HB8.out.size))
  have HC5a := Lib.hid (Kd.C_below HC5'.out hb')
  have HC6a := Lib.hid (Kd.C_below HC6'.out hb')
  replace x3 := cell_to hb' x3
  replace g3 := cell_to hb' g3
  replace y0 := cell_to hb' y0
  replace y1 := cell_to hb' y1
  replace y2 := cell_to hb' y2
  replace y3 := cell_to hb' y3
  replace y4 := cell_to hb' y4
  replace y5 := cell_to hb' y5
  replace y6 := cell_to hb' y6
  replace y7 := cell_to hb' y7
  replace z0 := cell_to hb' z0
  replace z1 := cell_to hb' z1
  replace z2 := cell_to hb' z2
  replace z3 := cell_to hb' z3
  replace z4 := cell_to hb' z4
  replace z5 := cell_to hb' z5
  replace z6 := cell_to hb' z6
  replace z7 := cell_to hb' z7
  replace d0 := cell_to hb' d0
  replace d1 := cell_to hb' d1
  replace p0 := cell_to hb' p0
  replace p1 := cell_to hb' p1
  replace p2 := cell_to hb' p2
  replace p3 := cell_to hb' p3
  replace p4 := cell_to hb' p4
  replace p5 := cell_to hb' p5
  replace p6 := cell_to hb' p6
  clear hb hb' HC5' HC6' HB8
  refine hK.out _ _ ⟨x3, g3, y0, y1, y2, y3, y4, y5, y6, y7, z0, z1, z2, z3, z4, z5, z6, z7, d0, d1, p0, p1, p2, p3, p4, p5, p6⟩ (fun hHeld => ?_)
  clear hK K
  refine norm_ (a' := ?_) ?_ ?_
  rotate_left
  · show Act.put _ (some 167) _ = _
    simp only [Act.put, List.setIfInBounds_toArray, List.set_cons_zero, List.set_cons_succ, i64_w, i32_w]
    rfl
  refine pure_ (i := 18) (N := some 168) (v := ?_) (a' := ?_) #[true, true, true, true, true, true, true, true, true, true, true, true, true, true, true, true, true, true, true, false, false, false, false, false, false, false, false, false, false, false, false, false, false, false, false, false, false, false, false, false, false, false, false, false, false, false, false, false, false, false, false, false, false, false] rfl rfl (by kernel_rfl) (fun _ _ _ h => h) (Or.inl ⟨by rfl, ?_⟩) ?_ ?_
  rotate_left
  · intro w'
    go_simp
    with_reducible rfl
  rotate_left
  · simp only [Act.put, List.setIfInBounds_toArray, List.set_cons_zero, List.set_cons_succ, i64_w, i32_w]
    rfl
  refine pure_ (i := 19) (N := some 169) (v := ?_) (a' := ?_) #[true, true, true, true, true, true, true, true, true, true, true, true, true, true, true, true, true, true, true, true, false, false, false, false, false, false, false, false, false, false, false, false, false, false, false, false, false, false, false, false, false, false, false, false, false, false, false, false, false, false, false, false, false, false] rfl rfl (by kernel_rfl) (fun _ _ _ h => h) (Or.inl ⟨by rfl, ?_⟩) ?_ ?_
  rotate_left
  · intro w'
    go_simp
    with_reducible rfl
  rotate_left
  · simp only [Act.put, List.setIfInBounds_toArray, List.set_cons_zero, List.set_cons_succ, i64_w, i32_w]
    rfl
  refine pure_ (i := 20) (N := some 170) (v := ?_) (a' := ?_) #[true, true, true, true, true, true, true, true, true, true, true, true, true, true, true, true, true, true, true, true, true, false, false, false, false, false, false, false, false, false, false, false, false, false, false, false, false, false, false, false, false, false, false, false, false, false, false, false, false, false, false, false, false, false] rfl rfl (by kernel_rfl) (fun _ _ _ h => h) (Or.inl ⟨by rfl, ?_⟩) ?_ ?_
  rotate_left
  · intro w'
    go_simp
    with_reducible rfl
  rotate_left
  · simp only [Act.put, List.setIfInBounds_toArray, List.set_cons_zero, List.set_cons_succ, i64_w, i32_w]
    rfl
  refine pure_ (i := 22) (N := some 172) (v := ?_) (a' := ?_) #[true, true, true, true, true, true, true, true, true, true, true, true, true, true, true, true, true, true, true, true, true, false, true, false, false, false, false, false, false, false, false, false, false, false, false, false, false, false, false, false, false, false, false, false, false, false, false, false, false, false, false, false, false, false] rfl rfl (by kernel_rfl) (fun _ _ _ h => h) (Or.inl ⟨by rfl, ?_⟩) ?_ ?_
  rotate_left
  · intro w'
    go_simp
    with_reducible rfl
  rotate_left
  · simp only [Act.put, List.setIfInBounds_toArray, List.set_cons_zero, List.set_cons_succ, i64_w, i32_w]
    rfl
  refine pure_ (i := 24) (N := some 174) (v := ?_) (a' := ?_) #[true, true, true, true, true, true, true, true, true, true, true, true, true, true, true, true, true, true, true, true, true, false, true, false, true, false, false, false, false, false, false, false, false, false, false, false, false, false, false, false, false, false, false, false, false, false, false, false, false, false, false, false, false, false] rfl rfl (by kernel_rfl) (fun _ _ _ h => h) (Or.inl ⟨by rfl, ?_⟩) ?_ ?_
  rotate_left
  · intro w'
    go_simp
    with_reducible rfl
  rotate_left
  · simp only [Act.put, List.setIfInBounds_toArray, List.set_cons_zero, List.set_cons_succ, i64_w, i32_w]
    rfl
  refine take_ (i := 21) (N := some 171) (v := ?_) (a' := ?_) #[true, true, true, true, true, true, true, true, true, true, true, true, true, true, true, true, true, true, true, true, true, true, true, false, true, false, false, false, false, false, false, false, false, false, false, false, false, false, false, false, false, false, false, false, false, false, false, false, false, false, false, false, false, false] rfl rfl (by kernel_rfl) (fun _ _ _ h => h) (Or.inl ⟨by rfl, ?_⟩) hHeld ?_ ?_
  rotate_left
  · rintro w' ⟨s0, s1, s2, s3, s4, s5, s6, s7, s8, s9, s10, s11, s12, s13, s14, s15, s16, s17, s18, s19, s20, s21, s22, s23, s24, s25, s26⟩
    go_simp
    with_reducible rfl
  rotate_left
  · simp only [Act.put, List.setIfInBounds_toArray, List.set_cons_zero, List.set_cons_succ, i64_w, i32_w]
    rfl
  refine take_ (i := 23) (N := some 173) (v := ?_) (a' := ?_) #[true, true, true, true, true, true, true, true, true, true, true, true, true, true, true, true, true, true, true, true, true, true, true, true, true, false, false, false, false, false, false, false, false, false, false, false, false, false, false, false, false, false, false, false, false, false, false, false, false, false, false, false, false, false] rfl rfl (by kernel_rfl) (fun _ _ _ h => h) (Or.inl ⟨by rfl, ?_⟩) hHeld ?_ ?_
  rotate_left
  · rintro w' ⟨s0, s1, s2, s3, s4, s5, s6, s7, s8, s9, s10, s11, s12, s13, s14, s15, s16, s17, s18, s19, s20, s21, s22, s23, s24, s25, s26⟩
    go_simp
    with_reducible rfl
  rotate_left
  · simp only [Act.put, List.setIfInBounds_toArray, List.set_cons_zero, List.set_cons_succ, i64_w, i32_w]
    rfl
  refine pure_ (i := 25) (N := some 175) (v := ?_) (a' := ?_) #[true, true, true, true, true, true, true, true, true, true, true, true, true, true, true, true, true, true, true, true, true, true, true, true, true, true, false, false, false, false, false, false, false, false, false, false, false, false, false, false, false, false, false, false, false, false, false, false, false, false, false, false, false, false] rfl rfl (by kernel_rfl) (fun _ _ _ h => h) (Or.inl ⟨by rfl, ?_⟩) ?_ ?_
  rotate_left
  · intro w'
    go_simp
    with_reducible rfl
  rotate_left
  · simp only [Act.put, List.setIfInBounds_toArray, List.set_cons_zero, List.set_cons_succ, i64_w, i32_w]
    rfl
  refine take_ (i := 26) (N := some 176) (v := ?_) (a' := ?_) #[true, true, true, true, true, true, true, true, true, true, true, true, true, true, true, true, true, true, true, true, true, true, true, true, true, true, true, false, false, false, false, false, false, false, false, false, false, false, false, false, false, false, false, false, false, false, false, false, false, false, false, false, false, false] rfl rfl (by kernel_rfl) (fun _ _ _ h => h) (Or.inl ⟨by rfl, ?_⟩) hHeld ?_ ?_
  rotate_left
  · rintro w' ⟨s0, s1, s2, s3, s4, s5, s6, s7, s8, s9, s10, s11, s12, s13, s14, s15, s16, s17, s18, s19, s20, s21, s22, s23, s24, s25, s26⟩
    go_simp
    with_reducible rfl
  rotate_left
  · simp only [Act.put, List.setIfInBounds_toArray, List.set_cons_zero, List.set_cons_succ, i64_w, i32_w]
    rfl
  refine take_ (i := 27) (N := some 177) (v := ?_) (a' := ?_) #[true, true, true, true, true, true, true, true, true, true, true, true, true, true, true, true, true, true, true, true, true, true, true, true, true, true, true, true, false, false, false, false, false, false, false, false, false, false, false, false, false, false, false, false, false, false, false, false, false, false, false, false, false, false] rfl rfl (by kernel_rfl) (fun _ _ _ h => h) (Or.inl ⟨by rfl, ?_⟩) hHeld ?_ ?_
  rotate_left
  · rintro w' ⟨s0, s1, s2, s3, s4, s5, s6, s7, s8, s9, s10, s11, s12, s13, s14, s15, s16, s17, s18, s19, s20, s21, s22, s23, s24, s25, s26⟩
    go_simp
    with_reducible rfl
  rotate_left
  · simp only [Act.put, List.setIfInBounds_toArray, List.set_cons_zero, List.set_cons_succ, i64_w, i32_w]
    rfl
  refine one_ (i := 28) (N := some 178) #[true, true, true, true, true, true, true, true, true, true, true, true, true, true, true, true, true, true, true, true, true, true, true, true, true, true, true, true, true, false, false, false, false, false, false, false, false, false, false, false, false, false, false, false, false, false, false, false, false, false, false, false, false, false] rfl rfl (by kernel_rfl) (by decide) (fun K hK => ?_)
  refine goes_ Try.func24 (by kernel_rfl) rfl #[.agg #[.int .u64 (m : Int), .string RT], .agg #[.int .i64 yb.f0, .string yb.f1, .string yb.f2, .int .u64 yb.f3, .int .u64 yb.f4, .string yb.f5, .string yb.f6, .bool yb.f7], .agg #[.int .u64 (k : Int), .string p, .int .u64 ((k : Int) + 7), .int .i64 (i : Int), .int .i64 (M : Int), .slice A5 n5 c5, .slice A6 n6 c6]] (by rfl) rfl rfl (by simp only [List.map_toArray, List.map_cons, List.map_nil]; rfl) ?_
  with_reducible refine (HV2'.out _ HC5a.out HC6a.out).mono ?_
  rintro e w3 ⟨rfl, hb⟩
  refine ⟨_, rfl, ?_⟩
  have HB10 := Lib.hid (HB9.out.trans (hb.mono HB9.out.size))
  replace x3 := cell_to hb x3
  replace g3 := cell_to hb g3
  replace y0 := cell_to hb y0
  replace y1 := cell_to hb y1
  replace y2 := cell_to hb y2
  replace y3 := cell_to hb y3
  replace y4 := cell_to hb y4
  replace y5 := cell_to hb y5
  replace y6 := cell_to hb y6
  replace y7 := cell_to hb y7
  replace z0 := cell_to hb z0
  replace z1 := cell_to hb z1
  replace z2 := cell_to hb z2
  replace z3 := cell_to hb z3
  replace z4 := cell_to hb z4
  replace z5 := cell_to hb z5
  replace z6 := cell_to hb z6
  replace z7 := cell_to hb z7
  replace d0 := cell_to hb d0
  replace d1 := cell_to hb d1
  replace p0 := cell_to hb p0
  replace p1 := cell_to hb p1
  replace p2 := cell_to hb p2
  replace p3 := cell_to hb p3
  replace p4 := cell_to hb p4
  replace p5 := cell_to hb p5
  replace p6 := cell_to hb p6
  clear hb HC5a HC6a HB9
  refine hK.out _ _ ⟨x3, g3, y0, y1, y2, y3, y4, y5, y6, y7, z0, z1, z2, z3, z4, z5, z6, z7, d0, d1, p0, p1, p2, p3, p4, p5, p6⟩ (fun hHeld => ?_)
  clear hK K
  refine norm_ (a' := ?_) ?_ ?_
  rotate_left
  · show Act.put _ (some 178) _ = _
    simp only [Act.put, List.setIfInBounds_toArray, List.set_cons_zero, List.set_cons_succ, i64_w, i32_w]
    rfl
  refine pure_ (i := 29) (N := some 179) (v := ?_) (a' := ?_) #[true, true, true, true, true, true, true, true, true, true, true, true, true, true, true, true, true, true, true, true, true, true, true, true, true, true, true, true, true, true, false, false, false, false, false, false, false, false, false, false, false, false, false, false, false, false, false, false, false, false, false, false, false, false] rfl rfl (by kernel_rfl) (fun _ _ _ h => h) (Or.inl ⟨by rfl, ?_⟩) ?_ ?_
  rotate_left
  · intro w'
    go_simp
    with_reducible rfl
  rotate_left
  · simp only [Act.put, List.setIfInBounds_toArray, List.set_cons_zero, List.set_cons_succ, i64_w, i32_w]
    rfl
  refine pure_ (i := 30) (N := some 180) (v := ?_) (a' := ?_) #[true, true, true, true, true, true, true, true, true, true, true, true, true, true, true, true, true, true, true, true, true, true, true, true, true, true, true, true, true, true, true, false, false, false, false, false, false, false, false, false, false, false, false, false, false, false, false, false, false, false, false, false, false, false] rfl rfl (by kernel_rfl) (fun _ _ _ h => h) (Or.inl ⟨by rfl, ?_⟩) ?_ ?_
  rotate_left
  · intro w'
    go_simp
    with_reducible rfl
  rotate_left
  · simp only [Act.put, List.setIfInBounds_toArray, List.set_cons_zero, List.set_cons_succ, i64_w, i32_w]
    rfl
  refine pure_ (i := 31) (N := some 181) (v := ?_) (a' := ?_) #[true, true, true, true, true, true, true, true, true, true, true, true, true, true, true, true, true, true, true, true, true, true, true, true, true, true, true, true, true, true, true, true, false, false, false, false, false, false, false, false, false, false, false, false, false, false, false, false, false, false, false, false, false, false] rfl rfl (by kernel_rfl) (fun _ _ _ h => h) (Or.inl ⟨by rfl, ?_⟩) ?_ ?_
  rotate_left
  · intro w'
    go_simp
    with_reducible rfl
  rotate_left
  · simp only [Act.put, List.setIfInBounds_toArray, List.set_cons_zero, List.set_cons_succ, i64_w, i32_w]
    rfl
  refine pure_ (i := 32) (N := some 182) (v := ?_) (a' := ?_) #[true, true, true, true, true, true, true, true, true, true, true, true, true, true, true, true, true, true, true, true, true, true, true, true, true, true, true, true, true, true, true, true, true, false, false, false, false, false, false, false, false, false, false, false, false, false, false, false, false, false, false, false, false, false] rfl rfl (by kernel_rfl) (fun _ _ _ h => h) (Or.inl ⟨by rfl, ?_⟩) ?_ ?_
  rotate_left
  · intro w'
    go_simp
    with_reducible rfl
  rotate_left
  · simp only [Act.put, List.setIfInBounds_toArray, List.set_cons_zero, List.set_cons_succ, i64_w, i32_w]
    rfl
  refine pure_ (i := 33) (N := some 183) (v := ?_) (a' := ?_) #[true, true, true, true, true, true, true, true, true, true, true, true, true, true, true, true, true, true, true, true, true, true, true, true, true, true, true, true, true, true, true, true, true, true, false, false, false, false, false, false, false, false, false, false, false, false, false, false, false, false, false, false, false, false] rfl rfl (by kernel_rfl) (fun _ _ _ h => h) (Or.inl ⟨by rfl, ?_⟩) ?_ ?_
  rotate_left
  · intro w'
    go_simp
    with_reducible rfl
  rotate_left
  · simp only [Act.put, List.setIfInBounds_toArray, List.set_cons_zero, List.set_cons_succ, i64_w, i32_w]
    rfl
  refine pure_ (i := 34) (N := some 184) (v := ?_) (a' := ?_) #[true, true, true, true, true, true, true, true, true, true, true, true, true, true, true, true, true, true, true, true, true, true, true, true, true, true, true, true, true, true, true, true, true, true, true, false, false, false, false, false, false, false, false, false, false, false, false, false, false, false, false, false, false, false] rfl rfl (by kernel_rfl) (fun _ _ _ h => h) (Or.inl ⟨by rfl, ?_⟩) ?_ ?_
  rotate_left
  · intro w'
    go_simp
    with_reducible rfl
  rotate_left
  · simp only [Act.put, List.setIfInBounds_toArray, List.set_cons_zero, List.set_cons_succ, i64_w, i32_w]
    rfl
  refine pure_ (i := 35) (N := some 185) (v := ?_) (a' := ?_) #[true, true, true, true, true, true, true, true, true, true, true, true, true, true, true, true, true, true, true, true, true, true, true, true, true, true, true, true, true, true, true, true, true, true, true, true, false, false, false, false, false, false, false, false, false, false, false, false, false, false, false, false, false, false] rfl rfl (by kernel_rfl) (fun _ _ _ h => h) (Or.inl ⟨by rfl, ?_⟩) ?_ ?_
  rotate_left
  · intro w'
    go_simp
    with_reducible rfl
  rotate_left
  · simp only [Act.put, List.setIfInBounds_toArray, List.set_cons_zero, List.set_cons_succ, i64_w, i32_w]
    rfl
  refine pure_ (i := 37) (N := some 187) (v := ?_) (a' := ?_) #[true, true, true, true, true, true, true, true, true, true, true, true, true, true, true, true, true, true, true, true, true, true, true, true, true, true, true, true, true, true, true, true, true, true, true, true, false, true, false, false, false, false, false, false, false, false, false, false, false, false, false, false, false, false] rfl rfl (by kernel_rfl) (fun _ _ _ h => h) (Or.inl ⟨by rfl, ?_⟩) ?_ ?_
  rotate_left
  · intro w'
    go_simp
    with_reducible rfl
  rotate_left
  · simp only [Act.put, List.setIfInBounds_toArray, List.set_cons_zero, List.set_cons_succ, i64_w, i32_w]
    rfl
  refine pure_ (i := 41) (N := some 191) (v := ?_) (a' := ?_) #[true, true, true, true, true, true, true, true, true, true, true, true, true, true, true, true, true, true, true, true, true, true, true, true, true, true, true, true, true, true, true, true, true, true, true, true, false, true, false, false, false, true, false, false, false, false, false, false, false, false, false, false, false, false] rfl rfl (by kernel_rfl) (fun _ _ _ h => h) (Or.inl ⟨by rfl, ?_⟩) ?_ ?_
  rotate_left
  · intro w'
    go_simp
    with_reducible rfl
  rotate_left
  · simp only [Act.put, List.setIfInBounds_toArray, List.set_cons_zero, List.set_cons_succ, i64_w, i32_w]
    rfl
  refine pure_ (i := 42) (N := some 192) (v := ?_) (a' := ?_) #[true, true, true, true, true, true, true, true, true, true, true, true, true, true, true, true, true, true, true, true, true, true, true, true, true, true, true, true, true, true, true, true, true, true, true, true, false, true, false, false, false, true, true, false, false, false, false, false, false, false, false, false, false, false] rfl rfl (by kernel_rfl) (fun _ _ _ h => h) (Or.inl ⟨by rfl, ?_⟩) ?_ ?_
  rotate_left
  · intro w'
    go_simp
    with_reducible rfl
  rotate_left
  · simp only [Act.put, List.setIfInBounds_toArray, List.set_cons_zero, List.set_cons_succ, i64_w, i32_w]
    rfl
  refine pure_ (i := 43) (N := some 193) (v := ?_) (a' := ?_) #[true, true, true, true, true, true, true, true, true, true, true, true, true, true, true, true, true, true, true, true, true, true, true, true, true, true, true, true, true, true, true, true, true, true, true, true, false, true, false, false, false, true, true, true, false, false, false, false, false, false, false, false, false, false] rfl rfl (by kernel_rfl) (fun _ _ _ h => h) (Or.inl ⟨by rfl, ?_⟩) ?_ ?_
  rotate_left
  · intro w'
    go_simp
    with_reducible rfl
  rotate_left
  · simp only [Act.put, List.setIfInBounds_toArray, List.set_cons_zero, List.set_cons_succ, i64_w, i32_w]
    rfl
  refine pure_ (i := 44) (N := some 194) (v := ?_) (a' := ?_) #[true, true, true, true, true, true, true, true, true, true, true, true, true, true, true, true, true, true, true, true, true, true, true, true, true, true, true, true, true, true, true, true, true, true, true, true, false, true, false, false, false, true, true, true, true, false, false, false, false, false, false, false, false, false] rfl rfl (by kernel_rfl) (fun _ _ _ h => h) (Or.inl ⟨by rfl, ?_⟩) ?_ ?_
  rotate_left
  · intro w'
    go_simp
    with_reducible rfl
  rotate_left
  · simp only [Act.put, List.setIfInBounds_toArray, List.set_cons_zero, List.set_cons_succ, i64_w, i32_w]
    rfl
  refine pure_ (i := 46) (N := some 196) (v := ?_) (a' := ?_) #[true, true, true, true, true, true, true, true, true, true, true, true, true, true, true, true, true, true, true, true, true, true, true, true, true, true, true, true, true, true, true, true, true, true, true, true, false, true, false, false, false, true, true, true, true, false, true, false, false, false, false, false, false, false] rfl rfl (by kernel_rfl) (fun _ _ _ h => h) (Or.inl ⟨by rfl, ?_⟩) ?_ ?_
  rotate_left
  · intro w'
    go_simp
    with_reducible rfl
  rotate_left
  · simp only [Act.put, List.setIfInBounds_toArray, List.set_cons_zero, List.set_cons_succ, i64_w, i32_w]
    rfl
  refine take_ (i := 36) (N := some 186) (v := ?_) (a' := ?_) #[true, true, true, true, true, true, true, true, true, true, true, true, true, true, true, true, true, true, true, true, true, true, true, true, true, true, true, true, true, true, true, true, true, true, true, true, true, true, false, false, false, true, true, true, true, false, true, false, false, false, false, false, false, false] rfl rfl (by kernel_rfl) (fun _ _ _ h => h) (Or.inl ⟨by rfl, ?_⟩) hHeld ?_ ?_
  rotate_left
  · rintro w' ⟨s0, s1, s2, s3, s4, s5, s6, s7, s8, s9, s10, s11, s12, s13, s14, s15, s16, s17, s18, s19, s20, s21, s22, s23, s24, s25, s26⟩
    go_simp
    with_reducible rfl
  rotate_left
  · simp only [Act.put, List.setIfInBounds_toArray, List.set_cons_zero, List.set_cons_succ, i64_w, i32_w]
    rfl
  refine pure_ (i := 38) (N := some 188) (v := ?_) (a' := ?_) #[true, true, true, true, true, true, true, true, true, true, true, true, true, true, true, true, true, true, true, true, true, true, true, true, true, true, true, true, true, true, true, true, true, true, true, true, true, true, true, false, false, true, true, true, true, false, true, false, false, false, false, false, false, false] rfl rfl (by kernel_rfl) (fun _ _ _ h => h) (Or.inl ⟨by rfl, ?_⟩) ?_ ?_
  rotate_left
  · intro w'
    go_simp
    with_reducible rfl
  rotate_left
  · simp only [Act.put, List.setIfInBounds_toArray, List.set_cons_zero, List.set_cons_succ, i64_w, i32_w]
    rfl
  refine take_ (i := 39) (N := some 189) (v := ?_) (a' := ?_) #[true, true, true, true, true, true, true, true, true, true, true, true, true, true, true, true, true, true, true, true, true, true, true, true, true, true, true, true, true, true, true, true, true, true, true, true, true, true, true, true, false, true, true, true, true, false, true, false, false, false, false, false, false, false] rfl rfl (by kernel_rfl) (fun _ _ _ h => h) (Or.inl ⟨by rfl, ?_⟩) hHeld ?_ ?_
  rotate_left
  · rintro w' ⟨s0, s1, s2, s3, s4, s5, s6, s7, s8, s9, s10, s11, s12, s13, s14, s15, s16, s17, s18, s19, s20, s21, s22, s23, s24, s25, s26⟩
    go_simp
    with_reducible rfl
  rotate_left
  · simp only [Act.put, List.setIfInBounds_toArray, List.set_cons_zero, List.set_cons_succ, i64_w, i32_w]
    rfl
  refine take_ (i := 45) (N := some 195) (v := ?_) (a' := ?_) #[true, true, true, true, true, true, true, true, true, true, true, true, true, true, true, true, true, true, true, true, true, true, true, true, true, true, true, true, true, true, true, true, true, true, true, true, true, true, true, true, false, true, true, true, true, true, true, false, false, false, false, false, false, false] rfl rfl (by kernel_rfl) (fun _ _ _ h => h) (Or.inl ⟨by rfl, ?_⟩) hHeld ?_ ?_
  rotate_left
  · rintro w' ⟨s0, s1, s2, s3, s4, s5, s6, s7, s8, s9, s10, s11, s12, s13, s14, s15, s16, s17, s18, s19, s20, s21, s22, s23, s24, s25, s26⟩
    go_simp
    with_reducible rfl
  rotate_left
  · simp only [Act.put, List.setIfInBounds_toArray, List.set_cons_zero, List.set_cons_succ, i64_w, i32_w]
    rfl
  refine pure_ (i := 47) (N := some 197) (v := ?_) (a' := ?_) #[true, true, true, true, true, true, true, true, true, true, true, true, true, true, true, true, true, true, true, true, true, true, true, true, true, true, true, true, true, true, true, true, true, true, true, true, true, true, true, true, false, true, true, true, true, true, true, true, false, false, false, false, false, false] rfl rfl (by kernel_rfl) (fun _ _ _ h => h) (Or.inl ⟨by rfl, ?_⟩) ?_ ?_
  rotate_left
  · intro w'
    go_simp
    with_reducible rfl
  rotate_left
  · simp only [Act.put, List.setIfInBounds_toArray, List.set_cons_zero, List.set_cons_succ, i64_w, i32_w]
    rfl
  refine take_ (i := 48) (N := some 198) (v := ?_) (a' := ?_) #[true, true, true, true, true, true, true, true, true, true, true, true, true, true, true, true, true, true, true, true, true, true, true, true, true, true, true, true, true, true, true, true, true, true, true, true, true, true, true, true, false, true, true, true, true, true, true, true, true, false, false, false, false, false] rfl rfl (by kernel_rfl) (fun _ _ _ h => h) (Or.inl ⟨by rfl, ?_⟩) hHeld ?_ ?_
  rotate_left
  · rintro w' ⟨s0, s1, s2, s3, s4, s5, s6, s7, s8, s9, s10, s11, s12, s13, s14, s15, s16, s17, s18, s19, s20, s21, s22, s23, s24, s25, s26⟩
    go_simp
    with_reducible rfl
  rotate_left
  · simp only [Act.put, List.setIfInBounds_toArray, List.set_cons_zero, List.set_cons_succ, i64_w, i32_w]
    rfl
  refine one_ (i := 40) (N := some 190) #[true, true, true, true, true, true, true, true, true, true, true, true, true, true, true, true, true, true, true, true, true, true, true, true, true, true, true, true, true, true, true, true, true, true, true, true, true, true, true, true, true, true, true, true, true, true, true, true, true, false, false, false, false, false] rfl rfl (by kernel_rfl) (by decide) (fun K hK => ?_)
  refine goes_ Try.func36 (by kernel_rfl) rfl #[.agg #[.int .i64 y.f0, .string y.f1, .string y.f2, .int .u64 y.f3, .int .u64 y.f4, .string y.f5, .string y.f6, .bool y.f7]] (by rfl) rfl rfl (by simp only [List.map_toArray, List.map_cons, List.map_nil]; rfl) ?_
  with_reducible refine (HME.out _).mono ?_
  rintro e w3 ⟨rfl, hb⟩
  refine ⟨_, rfl, ?_⟩
  have HB11 := Lib.hid (HB10.out.trans (hb.mono HB10.out.size))
  replace x3 := cell_to hb x3
  replace g3 := cell_to hb g3
  replace y0 := cell_to hb y0
  replace y1 := cell_to hb y1
  replace y2 := cell_to hb y2
  replace y3 := cell_to hb y3
  replace y4 := cell_to hb y4
  replace y5 := cell_to hb y5
  replace y6 := cell_to hb y6
  replace y7 := cell_to hb y7
  replace z0 := cell_to hb z0
  replace z1 := cell_to hb z1
  replace z2 := cell_to hb z2
  replace z3 := cell_to hb z3
  replace z4 := cell_to hb z4
  replace z5 := cell_to hb z5
  replace z6 := cell_to hb z6
  replace z7 := cell_to hb z7
  replace d0 := cell_to hb d0
  replace d1 := cell_to hb d1
  replace p0 := cell_to hb p0
  replace p1 := cell_to hb p1
  replace p2 := cell_to hb p2
  replace p3 := cell_to hb p3
  replace p4 := cell_to hb p4
  replace p5 := cell_to hb p5
  replace p6 := cell_to hb p6
  clear hb HB10
  refine hK.out _ _ ⟨x3, g3, y0, y1, y2, y3, y4, y5, y6, y7, z0, z1, z2, z3, z4, z5, z6, z7, d0, d1, p0, p1, p2, p3, p4, p5, p6⟩ (fun hHeld => ?_)
  clear hK K
  refine norm_ (a' := ?_) ?_ ?_
  rotate_left
  · show Act.put _ (some 190) _ = _
    simp only [Act.put, List.setIfInBounds_toArray, List.set_cons_zero, List.set_cons_succ, i64_w, i32_w]
    rfl
  refine one_ (i := 49) (N := some 199) #[true, true, true, true, true, true, true, true, true, true, true, true, true, true, true, true, true, true, true, true, true, true, true, true, true, true, true, true, true, true, true, true, true, true, true, true, true, true, true, true, true, true, true, true, true, true, true, true, true, true, false, false, false, false] rfl rfl (by kernel_rfl) (by decide) (fun K hK => ?_)
  refine goes_ Try.func21 (by kernel_rfl) rfl #[.agg #[.int .i64 y.f0, .string y.f1, .string y.f2, .int .u64 y.f3, .int .u64 y.f4, .string y.f5, .string y.f6, .bool y.f7]] (by rfl) rfl rfl (by simp only [List.map_toArray, List.map_cons, List.map_nil]; rfl) ?_
  with_reducible refine (HRE.out _).mono ?_
  rintro e w3 ⟨rfl, hb⟩
  refine ⟨_, rfl, ?_⟩
  have HB12 := Lib.hid (HB11.out.trans (hb.mono HB11.out.size))
  replace x3 := cell_to hb x3
  replace g3 := cell_to hb g3
  replace y0 := cell_to hb y0
  replace y1 := cell_to hb y1
  replace y2 := cell_to hb y2
  replace y3 := cell_to hb y3
  replace y4 := cell_to hb y4
  replace y5 := cell_to hb y5
  replace y6 := cell_to hb y6
  replace y7 := cell_to hb y7
  replace z0 := cell_to hb z0
  replace z1 := cell_to hb z1
  replace z2 := cell_to hb z2
  replace z3 := cell_to hb z3
  replace z4 := cell_to hb z4
  replace z5 := cell_to hb z5
  replace z6 := cell_to hb z6
  replace z7 := cell_to hb z7
  replace d0 := cell_to hb d0
  replace d1 := cell_to hb d1
  replace p0 := cell_to hb p0
  replace p1 := cell_to hb p1
  replace p2 := cell_to hb p2
  replace p3 := cell_to hb p3
  replace p4 := cell_to hb p4
  replace p5 := cell_to hb p5
  replace p6 := cell_to hb p6
  clear hb HB11
  refine hK.out _ _ ⟨x3, g3, y0, y1, y2, y3, y4, y5, y6, y7, z0, z1, z2, z3, z4, z5, z6, z7, d0, d1, p0, p1, p2, p3, p4, p5, p6⟩ (fun hHeld => ?_)
  clear hK K
  refine norm_ (a' := ?_) ?_ ?_
  rotate_left
  · show Act.put _ (some 199) _ = _
    simp only [Act.put, List.setIfInBounds_toArray, List.set_cons_zero, List.set_cons_succ, i64_w, i32_w]
    rfl
  refine one_ (i := 50) (N := some 200) #[true, true, true, true, true, true, true, true, true, true, true, true, true, true, true, true, true, true, true, true, true, true, true, true, true, true, true, true, true, true, true, true, true, true, true, true, true, true, true, true, true, true, true, true, true, true, true, true, true, true, true, false, false, false] rfl rfl (by kernel_rfl) (by decide) (fun K hK => ?_)
  refine goes_ Try.func37 (by kernel_rfl) rfl #[.agg #[.int .i64 y.f0, .string y.f1, .string y.f2, .int .u64 y.f3, .int .u64 y.f4, .string y.f5, .string y.f6, .bool y.f7]] (by rfl) rfl rfl (by simp only [List.map_toArray, List.map_cons, List.map_nil]; rfl) ?_
  with_reducible refine (HMN.out _).mono ?_
  rintro e w3 ⟨rfl, hb⟩
  refine ⟨_, rfl, ?_⟩
  have HB13 := Lib.hid (HB12.out.trans (hb.mono HB12.out.size))
  replace x3 := cell_to hb x3
  replace g3 := cell_to hb g3
  replace y0 := cell_to hb y0
  replace y1 := cell_to hb y1
  replace y2 := cell_to hb y2
  replace y3 := cell_to hb y3
  replace y4 := cell_to hb y4
  replace y5 := cell_to hb y5
  replace y6 := cell_to hb y6
  replace y7 := cell_to hb y7
  replace z0 := cell_to hb z0
  replace z1 := cell_to hb z1
  replace z2 := cell_to hb z2
  replace z3 := cell_to hb z3
  replace z4 := cell_to hb z4
  replace z5 := cell_to hb z5
  replace z6 := cell_to hb z6
  replace z7 := cell_to hb z7
  replace d0 := cell_to hb d0
  replace d1 := cell_to hb d1
  replace p0 := cell_to hb p0
  replace p1 := cell_to hb p1
  replace p2 := cell_to hb p2
  replace p3 := cell_to hb p3
  replace p4 := cell_to hb p4
  replace p5 := cell_to hb p5
  replace p6 := cell_to hb p6
  clear hb HB12
  refine hK.out _ _ ⟨x3, g3, y0, y1, y2, y3, y4, y5, y6, y7, z0, z1, z2, z3, z4, z5, z6, z7, d0, d1, p0, p1, p2, p3, p4, p5, p6⟩ (fun hHeld => ?_)
  clear hK K
  refine norm_ (a' := ?_) ?_ ?_
  rotate_left
  · show Act.put _ (some 200) _ = _
    simp only [Act.put, List.setIfInBounds_toArray, List.set_cons_zero, List.set_cons_succ, i64_w, i32_w]
    rfl
  refine pure_ (i := 51) (N := some 201) (v := ?_) (a' := ?_) #[true, true, true, true, true, true, true, true, true, true, true, true, true, true, true, true, true, true, true, true, true, true, true, true, true, true, true, true, true, true, true, true, true, true, true, true, true, true, true, true, true, true, true, true, true, true, true, true, true, true, true, true, false, false] rfl rfl (by kernel_rfl) (fun _ _ _ h => h) (Or.inl ⟨by rfl, ?_⟩) ?_ ?_
  rotate_left
  · intro w'
    go_simp
    with_reducible rfl
  rotate_left
  · simp only [Act.put, List.setIfInBounds_toArray, List.set_cons_zero, List.set_cons_succ, i64_w, i32_w]
    rfl
  refine pure_ (i := 52) (N := some 202) (v := ?_) (a' := ?_) #[true, true, true, true, true, true, true, true, true, true, true, true, true, true, true, true, true, true, true, true, true, true, true, true, true, true, true, true, true, true, true, true, true, true, true, true, true, true, true, true, true, true, true, true, true, true, true, true, true, true, true, true, true, false] rfl rfl (by kernel_rfl) (fun _ _ _ h => h) (Or.inl ⟨by rfl, ?_⟩) ?_ ?_
  rotate_left
  · intro w'
    go_simp
    with_reducible rfl
  rotate_left
  · simp only [Act.put, List.setIfInBounds_toArray, List.set_cons_zero, List.set_cons_succ, i64_w, i32_w]
    rfl
  refine pure_ (i := 53) (N := some 4) (v := ?_) (a' := ?_) #[true, true, true, true, true, true, true, true, true, true, true, true, true, true, true, true, true, true, true, true, true, true, true, true, true, true, true, true, true, true, true, true, true, true, true, true, true, true, true, true, true, true, true, true, true, true, true, true, true, true, true, true, true, true] rfl rfl (by kernel_rfl) (fun _ _ _ h => h) (Or.inl ⟨by rfl, ?_⟩) ?_ ?_
  rotate_left
  · intro w'
    go_simp
    with_reducible rfl
  rotate_left
  · simp only [Act.put, List.setIfInBounds_toArray, List.set_cons_zero, List.set_cons_succ, i64_w, i32_w]
    rfl
  refine done_ (by kernel_rfl) ?_
  go_wp2_with fail
  go_ret
  exact ⟨rfl, HB13.out⟩
end Go.Proofs.Ytdcbacbilncnnaa.T
end
section
/- ProofShows: sizes and a place that come in, laid open; and the law at all of them. -/
set_option linter.unusedVariables false
set_option linter.unusedSimpArgs false
namespace Go.Proofs.Ytdcbacbilncnnaa.Opn
open Go.Joins Go.ChangeShapes Go.WideShapes Go.ChangeAt Go.RowKit Go.Deep Go.Proofs.Ytdcbacbilncnnaa.PMk Go.Proofs.Ytdcbacbilncnnaa.T Go.Proofs.Ytdcbacbilncnnaa.EncL Go.Proofs.YtdcbacbilncnnaaW.PrintWords Go.Proofs.YtdcbacbilncnnaaW.PrintLast
theorem cells3 : Try.prog.cellsOf 3 = 1 := by kernel_rfl
theorem cells78 : Try.prog.cellsOf 78 = 3 := by kernel_rfl
section
variable {H : Type} {enc : TypeId × Value → H} {W : World} {base : Nat} {sp : Nat → Bool} {held : Bool}
set_option maxRecDepth 20000 in
theorem three_of {m : Nat} (xs : List Value) : ∀ (L : List Nat) ys, L.mapM (fun i => DataW.trod enc Try.prog W base sp held m 3 ((xs.drop (i * 1)).take 1)) = some ys → ∃ zs : List Int, L.map (fun i => (xs.drop (i * 1)).take 1) = zs.map (fun a => [Value.int .i64 a]) := by
  intro L
  induction L with
  | nil => intro ys h; exact ⟨[], rfl⟩
  | cons i L ih =>
    intro ys h
    rw [List.mapM_cons] at h
    simp only [bind, Option.bind_eq_some_iff, pure, Option.some.injEq] at h
    obtain ⟨y, hy, ys', hys, rfl⟩ := h
    obtain ⟨zs, hl⟩ := ih ys' hys
    obtain ⟨a, ea, _, _⟩ := DataW.trod_int Try.underlying3 hy
    exact ⟨a :: zs, by rw [List.map_cons, List.map_cons, hl, ea]⟩
set_option maxRecDepth 20000 in
theorem open_three {r : Reach} {b0 : Nat} {v : Value} {d : DataW H} {ps : List MemPlace} (hval : Value.okWide Try.prog W r b0 78 v) (hd : DataW.Trod enc Try.prog W base sp held 78 v d ps) :
    ∃ a0 a1 a2 : Int, v = .agg #[.int .i64 a0, .int .i64 a1, .int .i64 a2] := by
  simp only [Value.okWide, Try.underlying78] at hval
  obtain ⟨cs, rfl, hn, _⟩ := hval
  obtain ⟨fuel, hf⟩ := hd
  cases fuel with
  | zero => simp [DataW.trod] at hf
  | succ m =>
    rw [DataW.trod_step] at hf
    unfold DataW.trodStep at hf
    simp only [Try.underlying78, Value.cells, cells3, cells78] at hf
    obtain ⟨xs, rfl⟩ : ∃ xs : List Value, cs = xs.toArray := ⟨cs.toList, rfl⟩
    by_cases hl : xs.length = 3
    · rw [if_pos (by simpa using hl)] at hf
      simp only [Option.map_eq_some_iff] at hf
      obtain ⟨ys, hy, e1⟩ := hf
      obtain ⟨zs, hm⟩ := three_of xs _ ys hy
      match xs, hl with
      | [x0, x1, x2], _ =>
        have hm' : [[x0], [x1], [x2]] = zs.map (fun a => [Value.int .i64 a]) := hm
        match zs, hm' with
        | [a0, a1, a2], hm' =>
          simp only [List.map_cons, List.map_nil, List.cons.injEq, and_true] at hm'
          obtain ⟨rfl, rfl, rfl⟩ := hm'
          exact ⟨a0, a1, a2, rfl⟩
    · rw [if_neg (by simpa using hl)] at hf
      cases hf
set_option maxRecDepth 20000 in
theorem open_nums {v : Value} {d : DataW H} {ps : List MemPlace} (h : DataW.Trod enc Try.prog W base sp held 60 v d ps) {r : Reach} {b0 : Nat} (hval : Value.okWide Try.prog W r b0 60 v) :
    ∃ A c zs, v = .slice A zs.length c ∧ Kd.C (Kd.int .i64) W A zs.length zs := by
  obtain ⟨B, ln, cap, rfl⟩ := okWide_slice Try.underlying60 hval
  obtain ⟨fuel, hf⟩ := h
  rcases open_ints Try.underlying60 Try.underlying3 cells3 hf with ⟨hcs, _⟩ | ⟨a, len, cap', zs, hcs, hb, hl, hm, hz, hx, hi, _⟩
  · simp [Value.cells] at hcs
    obtain ⟨rfl, rfl, rfl⟩ := hcs
    exact ⟨none, 0, [], rfl, Kd.C_nil _ _⟩
  · simp [Value.cells] at hcs
    obtain ⟨rfl, rfl, rfl⟩ := hcs
    have hlz : ln ≤ zs.length := by rw [hz]; split <;> omega
    have hln : (zs.take ln).length = ln := by rw [List.length_take]; omega
    refine ⟨some a, cap, zs.take ln, by rw [hln], Kd.C_of_reads (h1 := fun _ => rfl) (d := (0 : Int)) ⟨rfl, ?_, fun _ => ⟨a, rfl, fun j hj => ?_⟩⟩⟩
    · have : maxLen ≤ 9223372036854775807 := by decide
      rw [hln]; omega
    · rw [hln] at hj
      have e : (zs.take ln).getD j 0 = zs.getD j 0 := by
        rw [List.getD_eq_getElem?_getD, List.getElem?_take, if_pos hj, ← List.getD_eq_getElem?_getD]
      rw [e]
      exact hi j (by omega)
end
end Go.Proofs.Ytdcbacbilncnnaa.Opn
namespace Go.Proofs.Ytdcbacbilncnnaa.T
open Go.RowKit Go.Proofs.Ytdcbacbilncnnaa.PMk Go.Proofs.Ytdcbacbilncnnaa.M Go.Proofs.Ytdcbacbilncnnaa.EncL Go.Proofs.YtdcbacbilncnnaaW.PrintWords Go.Proofs.YtdcbacbilncnnaaW.PrintLast
theorem ps_all (A : Option Addr) (c : Nat) (zs : List Int) (a0 a1 a2 : Int) (w : World) (hC : Kd.C (Kd.int .i64) w A zs.length zs) :
    Calls Try.prog 8 #[.slice A zs.length c, .agg #[.int .i64 a0, .int .i64 a1, .int .i64 a2]] w fun e w' => e = .returned (.bool true) ∧ Below w.heap.size w w' := by
  by_cases hz : zs.length = 0
  · obtain rfl : zs = [] := List.length_eq_zero_iff.1 hz
    exact ps_nil A c a0 a1 a2 w hC
  · obtain ⟨T, hT⟩ : ∃ T, min zs.length 8 = T := ⟨_, rfl⟩
    have hT0 : 0 < T := by omega
    have hr0 := Int.lt_tmod_of_pos a0 (show (0 : Int) < (T : Int) by omega)
    have hr1 := Int.tmod_lt_of_pos a0 (show (0 : Int) < (T : Int) by omega)
    obtain ⟨R, hR⟩ : ∃ R, a0.tmod (T : Int) = R := ⟨_, rfl⟩
    rw [hR] at hr0 hr1
    obtain ⟨k, hk, hkT⟩ : ∃ k : Nat, (R + (T : Int)).tmod (T : Int) = (k : Int) ∧ k < T := by
      refine ⟨((R + (T : Int)).tmod (T : Int)).toNat, ?_, ?_⟩
      · rw [Int.toNat_of_nonneg (Int.tmod_nonneg _ (by omega))]
      · have := Int.tmod_lt_of_pos (R + (T : Int)) (show (0 : Int) < (T : Int) by omega)
        have := Int.tmod_nonneg (T : Int) (show (0 : Int) ≤ R + (T : Int) by omega)
        omega
    obtain ⟨n, hn⟩ : ∃ n, IntKind.u64.wrap a2 = n := ⟨_, rfl⟩
    have hn0 : 0 ≤ n := by rw [← hn, IntKind.wrap_u64]; omega
    by_cases hTn : (T : Int) < n
    · exact ps_big A c zs.length T zs a0 a1 a2 R k _ w rfl hT hT0 hC hr0 hr1 hR hk hkT rfl n hn hTn
    · obtain ⟨m, rfl⟩ := Int.eq_ofNat_of_zero_le hn0
      by_cases hbad : (m : Int) ≤ (k : Int) ∨ a1 < 0 ∨ (cnt (zs.getD k 0) : Int) ≤ a1
      · exact ps_bad A c zs.length T zs a0 a1 a2 R k _ w rfl hT hT0 hC hr0 hr1 hR hk hkT rfl m hn (by omega) hbad
      · exact ps_ok A c zs.length T zs a0 a1 a2 R k _ w rfl hT hT0 hC hr0 hr1 hR hk hkT rfl m a1.toNat hn (by omega) (by omega) (by omega) (by omega)
end Go.Proofs.Ytdcbacbilncnnaa.T
end
