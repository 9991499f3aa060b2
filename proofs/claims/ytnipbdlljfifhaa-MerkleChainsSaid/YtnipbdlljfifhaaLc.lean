/- A tree that grew twice: the law walked. -/
import Derived.Test.YtnipbdlljfifhaaLz
set_option linter.unusedVariables false
set_option linter.unusedSimpArgs false
namespace Go.Proofs.Ytnipbdlljfifhaa.T
open Go.RowKit Go.Proofs.Ytnipbdlljfifhaa.PMk Go.Proofs.Ytnipbdlljfifhaa.M Go.Proofs.YtnipbdlljfifhaaW.PrintWords Go.Proofs.YtnipbdlljfifhaaW.PrintLast
/-- What a number comes to among n leaves. -/
def among (a : Int) (n : Nat) : Int := Int.tmod (Int.tmod a n + n) n + 1
theorem among_in (a : Int) (n : Nat) (h : 1 ≤ n) : 1 ≤ among a n ∧ among a n ≤ n := by
  have h1 := Int.tmod_lt_of_pos a (show (0 : Int) < n by omega)
  have h2 : -(n : Int) < Int.tmod a n := by
    have := Int.lt_tmod_of_pos a (show (0 : Int) < n by omega)
    omega
  have h3 := Int.tmod_nonneg (n : Int) (show 0 ≤ Int.tmod a n + n by omega)
  have h4 := Int.tmod_lt_of_pos (Int.tmod a n + n) (show (0 : Int) < n by omega)
  unfold among
  omega
set_option maxRecDepth 100000 in
theorem chains_none (A : Option Addr) (c : Nat) (l : List ByteArray) (w : World) (hC : Kd.C Kd.string w A l.length l) (hc : l.length ≤ c) (a b : Int) (L : List ByteArray) (hL : lfs l (min l.length 20) = L) (h0 : L.length = 0) :
    Calls Try.prog 8 #[.slice A l.length c, .int .i64 a, .int .i64 b] w fun e w' => e = .returned (.bool true) ∧ Below w.heap.size w w' := by
  have HG := Lib.hid (grown_law A c l w hC hc)
  have HLL := Lib.hid hL
  clear hC hL hc
  have h00 : (L.length : Int) = 0 := by omega
  go_enter Try.func8, Try.ntmps8
  go_wp2_with (first
    | (go_at_call 19; refine HG.out.mono ?_; rintro e w1 ⟨g, vl, vp, vo, rfl, hP, hb1⟩; rw [HLL.out] at hP; obtain ⟨Ao, co, rfl, hco, hCo⟩ := own_C hP.ro rfl; have HB := Lib.hid hb1; clear hP hb1 hCo hco)
    | (go_at_call 9; refine (awake_raw _).mono ?_; rintro e w3 ⟨rfl, hb1⟩; have HB3 := Lib.hid (HB.out.trans (hb1.mono HB.out.size)); clear hb1))
  go_ret
  exact ⟨rfl, HB3.out⟩
theorem w64s (x : Int) (h0 : 0 ≤ x) (h1 : x < 100) : wrap64 x = x := w64n x (by omega) (by omega)
theorem among_w (a : Int) (n : Nat) (h : 1 ≤ n) (h20 : n ≤ 20) : wrap64 ((wrap64 (Int.tmod a n + n)).tmod n + 1) = among a n := by
  have h1 := Int.tmod_lt_of_pos a (show (0 : Int) < n by omega)
  have h2 : -(n : Int) < Int.tmod a n := by
    have := Int.lt_tmod_of_pos a (show (0 : Int) < n by omega)
    omega
  have h3 := among_in a n h
  rw [w64s (Int.tmod a n + n) (by omega) (by omega)]
  show wrap64 (among a n) = among a n
  exact w64s _ (by omega) (by omega)
/-- What the law says once the numbers are in order. -/
structure Facts (L : List ByteArray) (m k : Int) (P Q R W : List ByteArray) (x y z t : ByteArray) : Prop where
  fp : grownAtF 100 L m k = some (P, 0)
  fq : grownAtF 100 L k L.length = some (Q, 0)
  fr : grownAtF 100 L m L.length = some (R, 0)
  fx : rootAtF 100 L m = some (x, 0)
  fy : rootAtF 100 L k = some (y, 0)
  fw : pathAtF 100 L (m - 1) m = some (W, 0)
  fz : mroot L = z
  ft : rdOf ByteArray.empty L (m - 1) = t
  fc1 : merkle_Consistent.f 4294967297 x y m k P = some 0
  fc2 : merkle_Consistent.f 4294967297 y z k L.length Q = some 0
  fc3 : merkle_Consistent.f 4294967297 x z m L.length R = some 0
  fv : merkle_Verify.f 4294967297 x t (m - 1) m W = some 0
theorem facts (L : List ByteArray) (hw : W32 L) (h20 : L.length ≤ 20) (m k : Nat) (h1 : 1 ≤ m) (h2 : m ≤ k) (h3 : k ≤ L.length) :
    ∃ P Q R W x y z t, Facts L m k P Q R W x y z t := by
  have gr : ∀ (a b : Nat), 1 ≤ a → a ≤ b → b ≤ L.length → grownAtF 100 L a b = some (grownT a (L.take b) true, 0) ∧ merkle_Consistent.f 4294967297 (mroot (L.take a)) (mroot (L.take b)) a b (grownT a (L.take b) true) = some 0 := by
    intro a b g1 g2 g3
    have e1 : (L.take b).length = b := by simp; omega
    have e2 : (L.take b).take a = L.take a := by rw [List.take_take]; congr 1; omega
    have hp := grown_f 100 a (L.take b) true (hw.take b) (by omega) g1 (by omega) (by omega)
    refine ⟨?_, ?_⟩
    · unfold grownAtF
      rw [if_neg (by omega), if_neg (by omega), if_neg (by omega), if_neg (by omega), Int.toNat_natCast, hp]
      rfl
    · have := grown_shows 4294967297 a (L.take b) (hw.take b) (by omega) g1 (by omega) (by omega)
      rw [e1, e2] at this
      exact this
  have tl : L.take L.length = L := List.take_length
  obtain ⟨p1, p2⟩ := gr m k h1 h2 h3
  obtain ⟨q1, q2⟩ := gr k L.length (by omega) h3 (Nat.le_refl _)
  obtain ⟨r1, r2⟩ := gr m L.length h1 (by omega) (Nat.le_refl _)
  rw [tl] at q1 q2 r1 r2
  have e1 : (L.take m).length = m := by simp; omega
  have e3 : ((m : Int) - 1) = ((m - 1 : Nat) : Int) := by omega
  have hp := path_f 100 (m - 1) (L.take m) (hw.take m) (by omega) (by omega) (by omega)
  have hv := path_shows 4294967297 (m - 1) (L.take m) (hw.take m) (by omega) (by omega) (by omega)
  have e2 : (L.take m).getD (m - 1) ByteArray.empty = rdOf ByteArray.empty L ((m : Int) - 1) := by rw [e3]; simp [rdOf, List.getElem?_take, show m - 1 < m by omega]
  rw [e1, e2] at hv
  refine ⟨_, _, _, pathT (m - 1) (L.take m), _, _, _, _, ⟨p1, q1, r1, rootAtF_good hw (by omega) (by omega) (by omega), rootAtF_good hw (by omega) (by omega) (by omega), ?_, rfl, rfl, p2, q2, r2, ?_⟩⟩
  · unfold pathAtF
    rw [if_neg (by omega), if_neg (by omega), if_neg (by omega), if_neg (by omega), Int.toNat_natCast, e3, hp]
    rfl
  · rw [e3] at hv ⊢
    exact hv
set_option maxRecDepth 100000 in
theorem chains_some (A : Option Addr) (c : Nat) (l : List ByteArray) (w : World) (hC : Kd.C Kd.string w A l.length l) (hc : l.length ≤ c) (a b : Int) (L : List ByteArray) (hL : lfs l (min l.length 20) = L) (hw : W32 L) (h1 : 1 ≤ L.length) (h20 : L.length ≤ 20) :
    Calls Try.prog 8 #[.slice A l.length c, .int .i64 a, .int .i64 b] w fun e w' => e = .returned (.bool true) ∧ Below w.heap.size w w' := by
  have HG := Lib.hid (grown_law A c l w hC hc)
  have HLL := Lib.hid hL
  have HW := Lib.hid hw
  clear hC hL hc hw
  have hnz : ¬ (L.length : Int) = 0 := by omega
  have HNE : Hid (L ≠ []) := Lib.hid (fun e => by rw [e] at h1; simp at h1)
  obtain ⟨a1, a2⟩ := among_in a L.length h1
  obtain ⟨b1, b2⟩ := among_in b L.length h1
  have ea := among_w a L.length h1 h20
  have eb := among_w b L.length h1 h20
  obtain ⟨ma, hma⟩ : ∃ x, among a L.length = x := ⟨_, rfl⟩
  obtain ⟨mb, hmb⟩ : ∃ x, among b L.length = x := ⟨_, rfl⟩
  rw [hma] at a1 a2 ea
  rw [hmb] at b1 b2 eb
  have HEA := Lib.hid ea
  have HEB := Lib.hid eb
  clear ea eb hma hmb
  go_enter Try.func8, Try.ntmps8
  go_wp2_with (first
    | (go_at_call 19; refine HG.out.mono ?_; rintro e w1 ⟨g, vl, vp, vo, rfl, hP, hb1⟩; rw [HLL.out] at hP; obtain ⟨Ao, co, rfl, hco, hCo⟩ := own_C hP.ro rfl; have HB := Lib.hid hb1; have HP := Lib.hid hP; have HCo := Lib.hid hCo; have Hco := Lib.hid hco; clear hP hb1 hCo hco))
  go_quiet (fail)
  rename_i hz K hK
  show K _ _
  refine hK _ _ ?_
  clear hK K
  rw [HEA.out, HEB.out]
  have HPw : Hid (Pair (w1.drewN nq) w.heap.size g vl vp (.slice Ao L.length co) L) := Lib.hid (HP.out.below (pw_below_drewN (Below.refl _ _) nq))
  have HBw : Hid (Below w.heap.size w (w1.drewN nq)) := Lib.hid (pw_below_drewN HB.out nq)
  have HCw : Hid (Kd.C Kd.string (w1.drewN nq) Ao L.length L) := Lib.hid (Kd.C_below HCo.out (pw_below_drewN (Below.refl _ _) nq))
  generalize w1.drewN nq = w2 at HPw HBw HCw ⊢
  clear HP HB HCo w1
  by_cases hmk : mb < ma
  · obtain ⟨m, rfl⟩ := Int.eq_ofNat_of_zero_le (show 0 ≤ mb by omega)
    obtain ⟨k, rfl⟩ := Int.eq_ofNat_of_zero_le (show 0 ≤ ma by omega)
    obtain ⟨P, Q, R, W, x, y, z, t, hF⟩ := facts L HW.out h20 m k (by omega) (by omega) (by omega)
    have HF := Lib.hid hF
    have hm1 : (0 : Int) ≤ (m : Int) - 1 := by omega
    have hm2 : (m : Int) - 1 < (L.length : Int) := by omega
    have HRT : Hid (∀ w' : World, At w' w.heap.size g vl vp L (pk L) → Calls Try.prog 16 #[.pointer (some ⟨g, 0, none⟩)] w' fun e w'' => e = .returned (.string z) ∧ Below w'.heap.size w' w'') := Lib.hid (fun w' hA => hF.fz ▸ root_tree w' w.heap.size g vl vp L hA HNE.out HW.out (by omega))
    obtain ⟨ad, rfl, hcx0⟩ := Kd.at_string HCw.out ((m : Int) - 1) hm1 hm2
    have hz : ¬ (L.length : Int) = 0 := by omega
    clear hcx0 hF
    have HP0 := HPw
    have HB0 := HBw
    have HO0 := HCw
    clear HPw HBw HCw
    go_wp2_with (first
      | (go_at_call 25; refine (grownAt_raw 100 _ _ _ _ _ _ _ HP0.out.tr _ _ P 0 HF.out.fp).mono ?_; rintro e w1_ ⟨v, rfl, hv, hb1⟩; have HP1 := Lib.hid (HP0.out.below hb1); have HB1 := Lib.hid (HB0.out.trans (hb1.mono HB0.out.size)); have HO1 := Lib.hid (Kd.C_below HO0.out hb1); obtain ⟨AP_, cP_, rfl, hcP_, hCP_⟩ := Kd.R_reads hv; have HCP_ := Lib.hid hcP_; have HP_1 := Lib.hid hCP_; clear hv hcP_ hCP_; clear hb1 HP0 HB0 HO0)
      | (go_at_call 25; refine (grownAt_raw 100 _ _ _ _ _ _ _ HP1.out.tr _ _ Q 0 HF.out.fq).mono ?_; rintro e w2_ ⟨v, rfl, hv, hb1⟩; have HP2 := Lib.hid (HP1.out.below hb1); have HB2 := Lib.hid (HB1.out.trans (hb1.mono HB1.out.size)); have HO2 := Lib.hid (Kd.C_below HO1.out hb1); have HP_2 := Lib.hid (Kd.C_below HP_1.out hb1); obtain ⟨AQ_, cQ_, rfl, hcQ_, hCQ_⟩ := Kd.R_reads hv; have HCQ_ := Lib.hid hcQ_; have HQ_2 := Lib.hid hCQ_; clear hv hcQ_ hCQ_; clear hb1 HP1 HB1 HO1 HP_1)
      | (go_at_call 25; refine (grownAt_raw 100 _ _ _ _ _ _ _ HP2.out.tr _ _ R 0 HF.out.fr).mono ?_; rintro e w3_ ⟨v, rfl, hv, hb1⟩; have HP3 := Lib.hid (HP2.out.below hb1); have HB3 := Lib.hid (HB2.out.trans (hb1.mono HB2.out.size)); have HO3 := Lib.hid (Kd.C_below HO2.out hb1); have HP_3 := Lib.hid (Kd.C_below HP_2.out hb1); have HQ_3 := Lib.hid (Kd.C_below HQ_2.out hb1); obtain ⟨AR_, cR_, rfl, hcR_, hCR_⟩ := Kd.R_reads hv; have HCR_ := Lib.hid hcR_; have HR_3 := Lib.hid hCR_; clear hv hcR_ hCR_; clear hb1 HP2 HB2 HO2 HP_2 HQ_2)
      | (go_at_call 18; refine (rootAt_raw 100 _ _ _ _ _ _ _ HP3.out.tr _ x 0 HF.out.fx).mono ?_; rintro e w4_ ⟨rfl, hb1⟩; have HP4 := Lib.hid (HP3.out.below hb1); have HB4 := Lib.hid (HB3.out.trans (hb1.mono HB3.out.size)); have HO4 := Lib.hid (Kd.C_below HO3.out hb1); have HP_4 := Lib.hid (Kd.C_below HP_3.out hb1); have HQ_4 := Lib.hid (Kd.C_below HQ_3.out hb1); have HR_4 := Lib.hid (Kd.C_below HR_3.out hb1); clear hb1 HP3 HB3 HO3 HP_3 HQ_3 HR_3)
      | (go_at_call 18; refine (rootAt_raw 100 _ _ _ _ _ _ _ HP4.out.tr _ y 0 HF.out.fy).mono ?_; rintro e w5_ ⟨rfl, hb1⟩; have HP5 := Lib.hid (HP4.out.below hb1); have HB5 := Lib.hid (HB4.out.trans (hb1.mono HB4.out.size)); have HO5 := Lib.hid (Kd.C_below HO4.out hb1); have HP_5 := Lib.hid (Kd.C_below HP_4.out hb1); have HQ_5 := Lib.hid (Kd.C_below HQ_4.out hb1); have HR_5 := Lib.hid (Kd.C_below HR_4.out hb1); clear hb1 HP4 HB4 HO4 HP_4 HQ_4 HR_4)
      | (go_at_call 20; refine (pathAt_raw 100 _ _ _ _ _ _ _ HP5.out.tr _ _ W 0 HF.out.fw).mono ?_; rintro e w6_ ⟨v, rfl, hv, hb1⟩; have HP6 := Lib.hid (HP5.out.below hb1); have HB6 := Lib.hid (HB5.out.trans (hb1.mono HB5.out.size)); have HO6 := Lib.hid (Kd.C_below HO5.out hb1); have HP_6 := Lib.hid (Kd.C_below HP_5.out hb1); have HQ_6 := Lib.hid (Kd.C_below HQ_5.out hb1); have HR_6 := Lib.hid (Kd.C_below HR_5.out hb1); obtain ⟨AW_, cW_, rfl, hcW_, hCW_⟩ := Kd.R_reads hv; have HCW_ := Lib.hid hcW_; have HW_6 := Lib.hid hCW_; clear hv hcW_ hCW_; clear hb1 HP5 HB5 HO5 HP_5 HQ_5 HR_5)
      | (go_at_call 9; refine (awake_raw _).mono ?_; rintro e w7_ ⟨rfl, hb1⟩; have HP7 := Lib.hid (HP6.out.below hb1); have HB7 := Lib.hid (HB6.out.trans (hb1.mono HB6.out.size)); have HO7 := Lib.hid (Kd.C_below HO6.out hb1); have HP_7 := Lib.hid (Kd.C_below HP_6.out hb1); have HQ_7 := Lib.hid (Kd.C_below HQ_6.out hb1); have HR_7 := Lib.hid (Kd.C_below HR_6.out hb1); have HW_7 := Lib.hid (Kd.C_below HW_6.out hb1); clear hb1 HP6 HB6 HO6 HP_6 HQ_6 HR_6 HW_6)
      | (go_at_call 23; refine (consistent_any 4294967297 _ _ _ _ _ _ _ P 0 _ rfl HP_7.out HCP_.out HF.out.fc1).mono ?_; rintro e w8_ ⟨rfl, hb1⟩; have HP8 := Lib.hid (HP7.out.below hb1); have HB8 := Lib.hid (HB7.out.trans (hb1.mono HB7.out.size)); have HO8 := Lib.hid (Kd.C_below HO7.out hb1); have HP_8 := Lib.hid (Kd.C_below HP_7.out hb1); have HQ_8 := Lib.hid (Kd.C_below HQ_7.out hb1); have HR_8 := Lib.hid (Kd.C_below HR_7.out hb1); have HW_8 := Lib.hid (Kd.C_below HW_7.out hb1); clear hb1 HP7 HB7 HO7 HP_7 HQ_7 HR_7 HW_7)
      | (go_at_call 16; refine (HRT.out _ HP8.out.tr).mono ?_; rintro e w9_ ⟨rfl, hb1⟩; have HP9 := Lib.hid (HP8.out.below hb1); have HB9 := Lib.hid (HB8.out.trans (hb1.mono HB8.out.size)); have HO9 := Lib.hid (Kd.C_below HO8.out hb1); have HP_9 := Lib.hid (Kd.C_below HP_8.out hb1); have HQ_9 := Lib.hid (Kd.C_below HQ_8.out hb1); have HR_9 := Lib.hid (Kd.C_below HR_8.out hb1); have HW_9 := Lib.hid (Kd.C_below HW_8.out hb1); clear hb1 HP8 HB8 HO8 HP_8 HQ_8 HR_8 HW_8)
      | (go_at_call 23; refine (consistent_any 4294967297 _ _ _ _ _ _ _ Q 0 _ rfl HQ_9.out HCQ_.out HF.out.fc2).mono ?_; rintro e w10_ ⟨rfl, hb1⟩; have HP10 := Lib.hid (HP9.out.below hb1); have HB10 := Lib.hid (HB9.out.trans (hb1.mono HB9.out.size)); have HO10 := Lib.hid (Kd.C_below HO9.out hb1); have HP_10 := Lib.hid (Kd.C_below HP_9.out hb1); have HQ_10 := Lib.hid (Kd.C_below HQ_9.out hb1); have HR_10 := Lib.hid (Kd.C_below HR_9.out hb1); have HW_10 := Lib.hid (Kd.C_below HW_9.out hb1); clear hb1 HP9 HB9 HO9 HP_9 HQ_9 HR_9 HW_9)
      | (go_at_call 16; refine (HRT.out _ HP10.out.tr).mono ?_; rintro e w11_ ⟨rfl, hb1⟩; have HP11 := Lib.hid (HP10.out.below hb1); have HB11 := Lib.hid (HB10.out.trans (hb1.mono HB10.out.size)); have HO11 := Lib.hid (Kd.C_below HO10.out hb1); have HP_11 := Lib.hid (Kd.C_below HP_10.out hb1); have HQ_11 := Lib.hid (Kd.C_below HQ_10.out hb1); have HR_11 := Lib.hid (Kd.C_below HR_10.out hb1); have HW_11 := Lib.hid (Kd.C_below HW_10.out hb1); clear hb1 HP10 HB10 HO10 HP_10 HQ_10 HR_10 HW_10)
      | (go_at_call 23; refine (consistent_any 4294967297 _ _ _ _ _ _ _ R 0 _ rfl HR_11.out HCR_.out HF.out.fc3).mono ?_; rintro e w12_ ⟨rfl, hb1⟩; have HP12 := Lib.hid (HP11.out.below hb1); have HB12 := Lib.hid (HB11.out.trans (hb1.mono HB11.out.size)); have HO12 := Lib.hid (Kd.C_below HO11.out hb1); have HP_12 := Lib.hid (Kd.C_below HP_11.out hb1); have HQ_12 := Lib.hid (Kd.C_below HQ_11.out hb1); have HR_12 := Lib.hid (Kd.C_below HR_11.out hb1); have HW_12 := Lib.hid (Kd.C_below HW_11.out hb1); obtain ⟨ad2, e2, hcx⟩ := Kd.at_string HO12.out ((m : Int) - 1) hm1 hm2; obtain rfl := Option.some.inj e2; rw [HF.out.ft, show ((m : Int) - 1).toNat = m - 1 from by omega] at hcx; clear e2; clear hb1 HP11 HB11 HO11 HP_11 HQ_11 HR_11 HW_11)
      | (go_at_call 10; refine (verify_any 4294967297 _ _ _ _ _ _ _ W 0 _ rfl HW_12.out HCW_.out HF.out.fv).mono ?_; rintro e w13_ ⟨rfl, hb1⟩; have HP13 := Lib.hid (HP12.out.below hb1); have HB13 := Lib.hid (HB12.out.trans (hb1.mono HB12.out.size)); have HO13 := Lib.hid (Kd.C_below HO12.out hb1); have HP_13 := Lib.hid (Kd.C_below HP_12.out hb1); have HQ_13 := Lib.hid (Kd.C_below HQ_12.out hb1); have HR_13 := Lib.hid (Kd.C_below HR_12.out hb1); have HW_13 := Lib.hid (Kd.C_below HW_12.out hb1); clear hb1 HP12 HB12 HO12 HP_12 HQ_12 HR_12 HW_12))
    go_ret
    exact ⟨rfl, HB13.out⟩
  · obtain ⟨m, rfl⟩ := Int.eq_ofNat_of_zero_le (show 0 ≤ ma by omega)
    obtain ⟨k, rfl⟩ := Int.eq_ofNat_of_zero_le (show 0 ≤ mb by omega)
    obtain ⟨P, Q, R, W, x, y, z, t, hF⟩ := facts L HW.out h20 m k (by omega) (by omega) (by omega)
    have HF := Lib.hid hF
    have hm1 : (0 : Int) ≤ (m : Int) - 1 := by omega
    have hm2 : (m : Int) - 1 < (L.length : Int) := by omega
    have HRT : Hid (∀ w' : World, At w' w.heap.size g vl vp L (pk L) → Calls Try.prog 16 #[.pointer (some ⟨g, 0, none⟩)] w' fun e w'' => e = .returned (.string z) ∧ Below w'.heap.size w' w'') := Lib.hid (fun w' hA => hF.fz ▸ root_tree w' w.heap.size g vl vp L hA HNE.out HW.out (by omega))
    obtain ⟨ad, rfl, hcx0⟩ := Kd.at_string HCw.out ((m : Int) - 1) hm1 hm2
    have hz : ¬ (L.length : Int) = 0 := by omega
    clear hcx0 hF
    have HP0 := HPw
    have HB0 := HBw
    have HO0 := HCw
    clear HPw HBw HCw
    go_wp2_with (first
      | (go_at_call 25; refine (grownAt_raw 100 _ _ _ _ _ _ _ HP0.out.tr _ _ P 0 HF.out.fp).mono ?_; rintro e w1_ ⟨v, rfl, hv, hb1⟩; have HP1 := Lib.hid (HP0.out.below hb1); have HB1 := Lib.hid (HB0.out.trans (hb1.mono HB0.out.size)); have HO1 := Lib.hid (Kd.C_below HO0.out hb1); obtain ⟨AP_, cP_, rfl, hcP_, hCP_⟩ := Kd.R_reads hv; have HCP_ := Lib.hid hcP_; have HP_1 := Lib.hid hCP_; clear hv hcP_ hCP_; clear hb1 HP0 HB0 HO0)
      | (go_at_call 25; refine (grownAt_raw 100 _ _ _ _ _ _ _ HP1.out.tr _ _ Q 0 HF.out.fq).mono ?_; rintro e w2_ ⟨v, rfl, hv, hb1⟩; have HP2 := Lib.hid (HP1.out.below hb1); have HB2 := Lib.hid (HB1.out.trans (hb1.mono HB1.out.size)); have HO2 := Lib.hid (Kd.C_below HO1.out hb1); have HP_2 := Lib.hid (Kd.C_below HP_1.out hb1); obtain ⟨AQ_, cQ_, rfl, hcQ_, hCQ_⟩ := Kd.R_reads hv; have HCQ_ := Lib.hid hcQ_; have HQ_2 := Lib.hid hCQ_; clear hv hcQ_ hCQ_; clear hb1 HP1 HB1 HO1 HP_1)
      | (go_at_call 25; refine (grownAt_raw 100 _ _ _ _ _ _ _ HP2.out.tr _ _ R 0 HF.out.fr).mono ?_; rintro e w3_ ⟨v, rfl, hv, hb1⟩; have HP3 := Lib.hid (HP2.out.below hb1); have HB3 := Lib.hid (HB2.out.trans (hb1.mono HB2.out.size)); have HO3 := Lib.hid (Kd.C_below HO2.out hb1); have HP_3 := Lib.hid (Kd.C_below HP_2.out hb1); have HQ_3 := Lib.hid (Kd.C_below HQ_2.out hb1); obtain ⟨AR_, cR_, rfl, hcR_, hCR_⟩ := Kd.R_reads hv; have HCR_ := Lib.hid hcR_; have HR_3 := Lib.hid hCR_; clear hv hcR_ hCR_; clear hb1 HP2 HB2 HO2 HP_2 HQ_2)
      | (go_at_call 18; refine (rootAt_raw 100 _ _ _ _ _ _ _ HP3.out.tr _ x 0 HF.out.fx).mono ?_; rintro e w4_ ⟨rfl, hb1⟩; have HP4 := Lib.hid (HP3.out.below hb1); have HB4 := Lib.hid (HB3.out.trans (hb1.mono HB3.out.size)); have HO4 := Lib.hid (Kd.C_below HO3.out hb1); have HP_4 := Lib.hid (Kd.C_below HP_3.out hb1); have HQ_4 := Lib.hid (Kd.C_below HQ_3.out hb1); have HR_4 := Lib.hid (Kd.C_below HR_3.out hb1); clear hb1 HP3 HB3 HO3 HP_3 HQ_3 HR_3)
      | (go_at_call 18; refine (rootAt_raw 100 _ _ _ _ _ _ _ HP4.out.tr _ y 0 HF.out.fy).mono ?_; rintro e w5_ ⟨rfl, hb1⟩; have HP5 := Lib.hid (HP4.out.below hb1); have HB5 := Lib.hid (HB4.out.trans (hb1.mono HB4.out.size)); have HO5 := Lib.hid (Kd.C_below HO4.out hb1); have HP_5 := Lib.hid (Kd.C_below HP_4.out hb1); have HQ_5 := Lib.hid (Kd.C_below HQ_4.out hb1); have HR_5 := Lib.hid (Kd.C_below HR_4.out hb1); clear hb1 HP4 HB4 HO4 HP_4 HQ_4 HR_4)
      | (go_at_call 20; refine (pathAt_raw 100 _ _ _ _ _ _ _ HP5.out.tr _ _ W 0 HF.out.fw).mono ?_; rintro e w6_ ⟨v, rfl, hv, hb1⟩; have HP6 := Lib.hid (HP5.out.below hb1); have HB6 := Lib.hid (HB5.out.trans (hb1.mono HB5.out.size)); have HO6 := Lib.hid (Kd.C_below HO5.out hb1); have HP_6 := Lib.hid (Kd.C_below HP_5.out hb1); have HQ_6 := Lib.hid (Kd.C_below HQ_5.out hb1); have HR_6 := Lib.hid (Kd.C_below HR_5.out hb1); obtain ⟨AW_, cW_, rfl, hcW_, hCW_⟩ := Kd.R_reads hv; have HCW_ := Lib.hid hcW_; have HW_6 := Lib.hid hCW_; clear hv hcW_ hCW_; clear hb1 HP5 HB5 HO5 HP_5 HQ_5 HR_5)
      | (go_at_call 9; refine (awake_raw _).mono ?_; rintro e w7_ ⟨rfl, hb1⟩; have HP7 := Lib.hid (HP6.out.below hb1); have HB7 := Lib.hid (HB6.out.trans (hb1.mono HB6.out.size)); have HO7 := Lib.hid (Kd.C_below HO6.out hb1); have HP_7 := Lib.hid (Kd.C_below HP_6.out hb1); have HQ_7 := Lib.hid (Kd.C_below HQ_6.out hb1); have HR_7 := Lib.hid (Kd.C_below HR_6.out hb1); have HW_7 := Lib.hid (Kd.C_below HW_6.out hb1); clear hb1 HP6 HB6 HO6 HP_6 HQ_6 HR_6 HW_6)
      | (go_at_call 23; refine (consistent_any 4294967297 _ _ _ _ _ _ _ P 0 _ rfl HP_7.out HCP_.out HF.out.fc1).mono ?_; rintro e w8_ ⟨rfl, hb1⟩; have HP8 := Lib.hid (HP7.out.below hb1); have HB8 := Lib.hid (HB7.out.trans (hb1.mono HB7.out.size)); have HO8 := Lib.hid (Kd.C_below HO7.out hb1); have HP_8 := Lib.hid (Kd.C_below HP_7.out hb1); have HQ_8 := Lib.hid (Kd.C_below HQ_7.out hb1); have HR_8 := Lib.hid (Kd.C_below HR_7.out hb1); have HW_8 := Lib.hid (Kd.C_below HW_7.out hb1); clear hb1 HP7 HB7 HO7 HP_7 HQ_7 HR_7 HW_7)
      | (go_at_call 16; refine (HRT.out _ HP8.out.tr).mono ?_; rintro e w9_ ⟨rfl, hb1⟩; have HP9 := Lib.hid (HP8.out.below hb1); have HB9 := Lib.hid (HB8.out.trans (hb1.mono HB8.out.size)); have HO9 := Lib.hid (Kd.C_below HO8.out hb1); have HP_9 := Lib.hid (Kd.C_below HP_8.out hb1); have HQ_9 := Lib.hid (Kd.C_below HQ_8.out hb1); have HR_9 := Lib.hid (Kd.C_below HR_8.out hb1); have HW_9 := Lib.hid (Kd.C_below HW_8.out hb1); clear hb1 HP8 HB8 HO8 HP_8 HQ_8 HR_8 HW_8)
      | (go_at_call 23; refine (consistent_any 4294967297 _ _ _ _ _ _ _ Q 0 _ rfl HQ_9.out HCQ_.out HF.out.fc2).mono ?_; rintro e w10_ ⟨rfl, hb1⟩; have HP10 := Lib.hid (HP9.out.below hb1); have HB10 := Lib.hid (HB9.out.trans (hb1.mono HB9.out.size)); have HO10 := Lib.hid (Kd.C_below HO9.out hb1); have HP_10 := Lib.hid (Kd.C_below HP_9.out hb1); have HQ_10 := Lib.hid (Kd.C_below HQ_9.out hb1); have HR_10 := Lib.hid (Kd.C_below HR_9.out hb1); have HW_10 := Lib.hid (Kd.C_below HW_9.out hb1); clear hb1 HP9 HB9 HO9 HP_9 HQ_9 HR_9 HW_9)
      | (go_at_call 16; refine (HRT.out _ HP10.out.tr).mono ?_; rintro e w11_ ⟨rfl, hb1⟩; have HP11 := Lib.hid (HP10.out.below hb1); have HB11 := Lib.hid (HB10.out.trans (hb1.mono HB10.out.size)); have HO11 := Lib.hid (Kd.C_below HO10.out hb1); have HP_11 := Lib.hid (Kd.C_below HP_10.out hb1); have HQ_11 := Lib.hid (Kd.C_below HQ_10.out hb1); have HR_11 := Lib.hid (Kd.C_below HR_10.out hb1); have HW_11 := Lib.hid (Kd.C_below HW_10.out hb1); clear hb1 HP10 HB10 HO10 HP_10 HQ_10 HR_10 HW_10)
      | (go_at_call 23; refine (consistent_any 4294967297 _ _ _ _ _ _ _ R 0 _ rfl HR_11.out HCR_.out HF.out.fc3).mono ?_; rintro e w12_ ⟨rfl, hb1⟩; have HP12 := Lib.hid (HP11.out.below hb1); have HB12 := Lib.hid (HB11.out.trans (hb1.mono HB11.out.size)); have HO12 := Lib.hid (Kd.C_below HO11.out hb1); have HP_12 := Lib.hid (Kd.C_below HP_11.out hb1); have HQ_12 := Lib.hid (Kd.C_below HQ_11.out hb1); have HR_12 := Lib.hid (Kd.C_below HR_11.out hb1); have HW_12 := Lib.hid (Kd.C_below HW_11.out hb1); obtain ⟨ad2, e2, hcx⟩ := Kd.at_string HO12.out ((m : Int) - 1) hm1 hm2; obtain rfl := Option.some.inj e2; rw [HF.out.ft, show ((m : Int) - 1).toNat = m - 1 from by omega] at hcx; clear e2; clear hb1 HP11 HB11 HO11 HP_11 HQ_11 HR_11 HW_11)
      | (go_at_call 10; refine (verify_any 4294967297 _ _ _ _ _ _ _ W 0 _ rfl HW_12.out HCW_.out HF.out.fv).mono ?_; rintro e w13_ ⟨rfl, hb1⟩; have HP13 := Lib.hid (HP12.out.below hb1); have HB13 := Lib.hid (HB12.out.trans (hb1.mono HB12.out.size)); have HO13 := Lib.hid (Kd.C_below HO12.out hb1); have HP_13 := Lib.hid (Kd.C_below HP_12.out hb1); have HQ_13 := Lib.hid (Kd.C_below HQ_12.out hb1); have HR_13 := Lib.hid (Kd.C_below HR_12.out hb1); have HW_13 := Lib.hid (Kd.C_below HW_12.out hb1); clear hb1 HP12 HB12 HO12 HP_12 HQ_12 HR_12 HW_12))
    go_ret
    exact ⟨rfl, HB13.out⟩
/-- The law, whatever comes in. -/
theorem chains_law (k : Nat) (A : Option Addr) (c : Nat) (l : List ByteArray) (a b : Int) (r : Bool) (w : World) (hC : Kd.C Kd.string w A l.length l) (hc : l.length ≤ c) (hr : r = true) :
    Calls Try.prog 8 #[.slice A l.length c, .int .i64 a, .int .i64 b] w fun e w' => e = .returned (.bool r) ∧ Below w.heap.size w w' := by
  subst hr
  by_cases h : (lfs l (min l.length 20)).length = 0
  · exact chains_none A c l w hC hc a b _ rfl h
  · exact chains_some A c l w hC hc a b _ rfl (lfs_w32 _ _) (by omega) (lfs20 l)
end Go.Proofs.Ytnipbdlljfifhaa.T
