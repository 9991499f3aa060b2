/- What shows growth: the law walked. -/
import Derived.Test.YtnipbdlljfifhaaLy
import Derived.Test.YtnipbdlljfifhaaMg
set_option linter.unusedVariables false
set_option linter.unusedSimpArgs false
namespace Go.Proofs.Ytnipbdlljfifhaa.T
open Go.RowKit Go.Proofs.Ytnipbdlljfifhaa.PMk Go.Proofs.Ytnipbdlljfifhaa.M Go.Proofs.YtnipbdlljfifhaaW.PrintWords Go.Proofs.YtnipbdlljfifhaaW.PrintLast

set_option maxRecDepth 100000 in
theorem grows_bad1 (A : Option Addr) (c : Nat) (l : List ByteArray) (w : World) (hC : Kd.C Kd.string w A l.length l) (hc : l.length ≤ c) (m n : Int) (L : List ByteArray) (hL : lfs l (min l.length 20) = L) (hbad : grownAtF 100 L m n = some ([], 1)) (h1 : n < 0) :
    Calls Try.prog 7 #[.slice A l.length c, .int .i64 m, .int .i64 n] w fun e w' => e = .returned (.bool true) ∧ Below w.heap.size w w' := by
  have HG := Lib.hid (grown_law A c l w hC hc)
  have HLL := Lib.hid hL
  have HBAD := Lib.hid hbad
  clear hC hL hbad hc
  go_enter Try.func7, Try.ntmps7
  go_wp2_with (first
    | (go_at_call 19; refine HG.out.mono ?_; rintro e w1 ⟨g, vl, vp, vo, rfl, hP, hb1⟩; rw [HLL.out] at hP; obtain ⟨Ao, co, rfl, hco, hCo⟩ := own_C hP.ro rfl; have HP := Lib.hid hP; have HB := Lib.hid hb1; clear hP hb1 hCo hco)
    | (go_at_call 25; refine (grownAt_raw 100 _ _ _ _ _ _ _ HP.out.tr m n [] 1 HBAD.out).mono ?_; rintro e w2 ⟨v, rfl, hv, hb1⟩; obtain ⟨Ap, cp, rfl, hcp, hCp⟩ := Kd.R_reads hv; have HB2 := Lib.hid (HB.out.trans (hb1.mono HB.out.size)); clear hb1 hv hcp hCp)
    | (go_at_call 9; refine (awake_raw _).mono ?_; rintro e w3 ⟨rfl, hb1⟩; have HB3 := Lib.hid (HB2.out.trans (hb1.mono HB2.out.size)); clear hb1))
  go_ret
  exact ⟨rfl, HB3.out⟩

set_option maxRecDepth 100000 in
theorem grows_bad2 (A : Option Addr) (c : Nat) (l : List ByteArray) (w : World) (hC : Kd.C Kd.string w A l.length l) (hc : l.length ≤ c) (m n : Int) (L : List ByteArray) (hL : lfs l (min l.length 20) = L) (hbad : grownAtF 100 L m n = some ([], 1)) (h1 : ¬ n < 0) (h2 : (L.length : Int) < n) :
    Calls Try.prog 7 #[.slice A l.length c, .int .i64 m, .int .i64 n] w fun e w' => e = .returned (.bool true) ∧ Below w.heap.size w w' := by
  have HG := Lib.hid (grown_law A c l w hC hc)
  have HLL := Lib.hid hL
  have HBAD := Lib.hid hbad
  clear hC hL hbad hc
  go_enter Try.func7, Try.ntmps7
  go_wp2_with (first
    | (go_at_call 19; refine HG.out.mono ?_; rintro e w1 ⟨g, vl, vp, vo, rfl, hP, hb1⟩; rw [HLL.out] at hP; obtain ⟨Ao, co, rfl, hco, hCo⟩ := own_C hP.ro rfl; have HP := Lib.hid hP; have HB := Lib.hid hb1; clear hP hb1 hCo hco)
    | (go_at_call 25; refine (grownAt_raw 100 _ _ _ _ _ _ _ HP.out.tr m n [] 1 HBAD.out).mono ?_; rintro e w2 ⟨v, rfl, hv, hb1⟩; obtain ⟨Ap, cp, rfl, hcp, hCp⟩ := Kd.R_reads hv; have HB2 := Lib.hid (HB.out.trans (hb1.mono HB.out.size)); clear hb1 hv hcp hCp)
    | (go_at_call 9; refine (awake_raw _).mono ?_; rintro e w3 ⟨rfl, hb1⟩; have HB3 := Lib.hid (HB2.out.trans (hb1.mono HB2.out.size)); clear hb1))
  go_ret
  exact ⟨rfl, HB3.out⟩

set_option maxRecDepth 100000 in
theorem grows_bad3 (A : Option Addr) (c : Nat) (l : List ByteArray) (w : World) (hC : Kd.C Kd.string w A l.length l) (hc : l.length ≤ c) (m n : Int) (L : List ByteArray) (hL : lfs l (min l.length 20) = L) (hbad : grownAtF 100 L m n = some ([], 1)) (h1 : ¬ n < 0) (h2 : ¬ (L.length : Int) < n) (h3 : m < 1) :
    Calls Try.prog 7 #[.slice A l.length c, .int .i64 m, .int .i64 n] w fun e w' => e = .returned (.bool true) ∧ Below w.heap.size w w' := by
  have HG := Lib.hid (grown_law A c l w hC hc)
  have HLL := Lib.hid hL
  have HBAD := Lib.hid hbad
  clear hC hL hbad hc
  go_enter Try.func7, Try.ntmps7
  go_wp2_with (first
    | (go_at_call 19; refine HG.out.mono ?_; rintro e w1 ⟨g, vl, vp, vo, rfl, hP, hb1⟩; rw [HLL.out] at hP; obtain ⟨Ao, co, rfl, hco, hCo⟩ := own_C hP.ro rfl; have HP := Lib.hid hP; have HB := Lib.hid hb1; clear hP hb1 hCo hco)
    | (go_at_call 25; refine (grownAt_raw 100 _ _ _ _ _ _ _ HP.out.tr m n [] 1 HBAD.out).mono ?_; rintro e w2 ⟨v, rfl, hv, hb1⟩; obtain ⟨Ap, cp, rfl, hcp, hCp⟩ := Kd.R_reads hv; have HB2 := Lib.hid (HB.out.trans (hb1.mono HB.out.size)); clear hb1 hv hcp hCp)
    | (go_at_call 9; refine (awake_raw _).mono ?_; rintro e w3 ⟨rfl, hb1⟩; have HB3 := Lib.hid (HB2.out.trans (hb1.mono HB2.out.size)); clear hb1))
  go_ret
  exact ⟨rfl, HB3.out⟩

set_option maxRecDepth 100000 in
theorem grows_bad4 (A : Option Addr) (c : Nat) (l : List ByteArray) (w : World) (hC : Kd.C Kd.string w A l.length l) (hc : l.length ≤ c) (m n : Int) (L : List ByteArray) (hL : lfs l (min l.length 20) = L) (hbad : grownAtF 100 L m n = some ([], 1)) (h1 : ¬ n < 0) (h2 : ¬ (L.length : Int) < n) (h3 : ¬ m < 1) (h4 : n < m) :
    Calls Try.prog 7 #[.slice A l.length c, .int .i64 m, .int .i64 n] w fun e w' => e = .returned (.bool true) ∧ Below w.heap.size w w' := by
  have HG := Lib.hid (grown_law A c l w hC hc)
  have HLL := Lib.hid hL
  have HBAD := Lib.hid hbad
  clear hC hL hbad hc
  go_enter Try.func7, Try.ntmps7
  go_wp2_with (first
    | (go_at_call 19; refine HG.out.mono ?_; rintro e w1 ⟨g, vl, vp, vo, rfl, hP, hb1⟩; rw [HLL.out] at hP; obtain ⟨Ao, co, rfl, hco, hCo⟩ := own_C hP.ro rfl; have HP := Lib.hid hP; have HB := Lib.hid hb1; clear hP hb1 hCo hco)
    | (go_at_call 25; refine (grownAt_raw 100 _ _ _ _ _ _ _ HP.out.tr m n [] 1 HBAD.out).mono ?_; rintro e w2 ⟨v, rfl, hv, hb1⟩; obtain ⟨Ap, cp, rfl, hcp, hCp⟩ := Kd.R_reads hv; have HB2 := Lib.hid (HB.out.trans (hb1.mono HB.out.size)); clear hb1 hv hcp hCp)
    | (go_at_call 9; refine (awake_raw _).mono ?_; rintro e w3 ⟨rfl, hb1⟩; have HB3 := Lib.hid (HB2.out.trans (hb1.mono HB2.out.size)); clear hb1))
  go_ret
  exact ⟨rfl, HB3.out⟩

set_option maxRecDepth 100000 in
theorem grows_good (A : Option Addr) (c : Nat) (l : List ByteArray) (w : World) (hC : Kd.C Kd.string w A l.length l) (hc : l.length ≤ c) (m n : Int) (L : List ByteArray) (hL : lfs l (min l.length 20) = L)
    (h1 : 0 ≤ n) (h2 : n ≤ (L.length : Int)) (h3 : 1 ≤ m) (h4 : m ≤ n) (P : List ByteArray) (a b : ByteArray) (hps : P.length < 1000)
    (hpath : grownAtF 100 L m n = some (P, 0)) (hra : rootAtF 100 L m = some (a, 0)) (hrb : rootAtF 100 L n = some (b, 0)) (href : parchmentref08_Grown.f 100 m (L.take n.toNat) true = some P) (hver : merkle_Consistent.f 4294967297 a b m n P = some 0) :
    Calls Try.prog 7 #[.slice A l.length c, .int .i64 m, .int .i64 n] w fun e w' => e = .returned (.bool true) ∧ Below w.heap.size w w' := by
  have HG := Lib.hid (grown_law A c l w hC hc)
  have HLL := Lib.hid hL
  have HPA := Lib.hid hpath
  have HRA := Lib.hid hra
  have HRB := Lib.hid hrb
  have HRE := Lib.hid href
  have HVE := Lib.hid hver
  clear hC hL hpath hra hrb href hver hc
  go_enter Try.func7, Try.ntmps7
  go_wp2_with (first
    | (go_at_call 19; refine HG.out.mono ?_; rintro e w1 ⟨g, vl, vp, vo, rfl, hP, hb1⟩; rw [HLL.out] at hP; obtain ⟨Ao, co, rfl, hco, hCo⟩ := own_C hP.ro rfl; obtain ⟨T, t, hT, ht, hcut, hC2, hc2⟩ := cutn Ao co L n h1 h2 hco; have HCT := Lib.hid (hC2 w1 hCo); have HT := Lib.hid hT; have Ht := Lib.hid ht; have Hc2 := Lib.hid hc2; have HP := Lib.hid hP; have HB := Lib.hid hb1; clear hP hb1 hCo hco hC2 hc2 ht hT)
    | (go_at_call 25; refine (grownAt_raw 100 _ _ _ _ _ _ _ HP.out.tr m n P 0 HPA.out).mono ?_; rintro e w2 ⟨v, rfl, hv, hb1⟩; obtain ⟨Ap, cp, rfl, hcp, hCp⟩ := Kd.R_reads hv; have HA2 := Lib.hid (HP.out.tr.below hb1); have HB2 := Lib.hid (HB.out.trans (hb1.mono HB.out.size)); have HCP2 := Lib.hid hCp; have Hcp := Lib.hid hcp; have HCT2 := Lib.hid (Kd.C_below HCT.out hb1); clear hb1 hv hcp hCp HP HB HCT)
    | (go_at_call 9; refine (awake_raw _).mono ?_; rintro e w3 ⟨rfl, hb1⟩; have HA3 := Lib.hid (HA2.out.below hb1); have HB3 := Lib.hid (HB2.out.trans (hb1.mono HB2.out.size)); have HCP3 := Lib.hid (Kd.C_below HCP2.out hb1); have HCT3 := Lib.hid (Kd.C_below HCT2.out hb1); clear hb1 HA2 HB2 HCP2 HCT2)
    | (go_at_call 18; refine (rootAt_raw 100 _ _ _ _ _ _ _ HA3.out m a 0 HRA.out).mono ?_; rintro e w4 ⟨rfl, hb1⟩; have HA4 := Lib.hid (HA3.out.below hb1); have HB4 := Lib.hid (HB3.out.trans (hb1.mono HB3.out.size)); have HCP4 := Lib.hid (Kd.C_below HCP3.out hb1); have HCT4 := Lib.hid (Kd.C_below HCT3.out hb1); clear hb1 HA3 HB3 HCP3 HCT3)
    | (go_at_call 18; refine (rootAt_raw 100 _ _ _ _ _ _ _ HA4.out n b 0 HRB.out).mono ?_; rintro e w5 ⟨rfl, hb1⟩; have HB5 := Lib.hid (HB4.out.trans (hb1.mono HB4.out.size)); have HCP5 := Lib.hid (Kd.C_below HCP4.out hb1); have HCT5 := Lib.hid (Kd.C_below HCT4.out hb1); clear hb1 HA4 HB4 HCP4 HCT4)
    | (go_at_call 26; refine (rgrown_any 100 m _ _ _ T true P _ Ht.out HCT5.out Hc2.out (HT.out ▸ HRE.out)).mono ?_; rintro e w6 ⟨v, rfl, hv, hb1⟩; obtain ⟨Aq, cq, rfl, hcq, hCq⟩ := Kd.R_reads hv; have HB6 := Lib.hid (HB5.out.trans (hb1.mono HB5.out.size)); have HCQ := Lib.hid hCq; have Hcq := Lib.hid hcq; have HCP6 := Lib.hid (Kd.C_below HCP5.out hb1); clear hb1 hv hcq hCq HB5 HCP5 HCT5)
    | (go_at_call 21; refine (same_any _ _ _ _ _ _ P _ rfl rfl HCP6.out HCQ.out Hcp.out Hcq.out (by omega)).mono ?_; rintro e w7 ⟨rfl, hb1⟩; have HB7 := Lib.hid (HB6.out.trans (hb1.mono HB6.out.size)); have HCP7 := Lib.hid (Kd.C_below HCP6.out hb1); clear hb1 HB6 HCP6)
    | (go_at_call 23; refine (consistent_any 4294967297 _ _ _ _ _ _ _ P 0 _ rfl HCP7.out Hcp.out HVE.out).mono ?_; rintro e w8 ⟨rfl, hb1⟩; have HB8 := Lib.hid (HB7.out.trans (hb1.mono HB7.out.size)); clear hb1))
  go_ret
  exact ⟨rfl, HB8.out⟩
/-- The law, whatever comes in. -/
theorem grows_law (k : Nat) (A : Option Addr) (c : Nat) (l : List ByteArray) (m n : Int) (b : Bool) (w : World) (hC : Kd.C Kd.string w A l.length l) (hc : l.length ≤ c) (hb : b = true) :
    Calls Try.prog 7 #[.slice A l.length c, .int .i64 m, .int .i64 n] w fun e w' => e = .returned (.bool b) ∧ Below w.heap.size w w' := by
  subst hb
  obtain ⟨L, hL⟩ : ∃ L, lfs l (min l.length 20) = L := ⟨_, rfl⟩
  have hw : W32 L := hL ▸ lfs_w32 _ _
  have h20 : L.length ≤ 20 := hL ▸ lfs20 l
  by_cases g1 : n < 0
  · exact grows_bad1 A c l w hC hc m n L hL (by unfold grownAtF; rw [if_pos g1]) g1
  by_cases g2 : (L.length : Int) < n
  · exact grows_bad2 A c l w hC hc m n L hL (by unfold grownAtF; rw [if_neg g1, if_pos g2]) g1 g2
  by_cases g3 : m < 1
  · exact grows_bad3 A c l w hC hc m n L hL (by unfold grownAtF; rw [if_neg g1, if_neg (by omega), if_pos g3]) g1 g2 g3
  by_cases g4 : n < m
  · exact grows_bad4 A c l w hC hc m n L hL (by unfold grownAtF; rw [if_neg g1, if_neg (by omega), if_neg g3, if_pos g4]) g1 g2 g3 g4
  obtain ⟨n, rfl⟩ := Int.eq_ofNat_of_zero_le (show 0 ≤ n by omega)
  obtain ⟨m, rfl⟩ := Int.eq_ofNat_of_zero_le (show 0 ≤ m by omega)
  have hn : n ≤ L.length := by omega
  have hm : m ≤ n := by omega
  have hm1 : 1 ≤ m := by omega
  have e1 : (L.take n).length = n := by simp; omega
  have e2 : (L.take n).take m = L.take m := by rw [List.take_take]; congr 1; omega
  have hp := grown_f 100 m (L.take n) true (hw.take n) (by omega) hm1 (by omega) (by omega)
  refine grows_good A c l w hC hc m n L hL (by omega) (by omega) (by omega) (by omega) (grownT m (L.take n) true) (mroot (L.take m)) (mroot (L.take n)) ?_ ?_ (rootAtF_good hw (by omega) (by omega) (by omega)) (rootAtF_good hw (by omega) (by omega) (by omega)) ?_ ?_
  · exact Nat.lt_of_le_of_lt (grownT_len _ m (L.take n) true (Nat.le_refl _)) (by omega)
  · unfold grownAtF
    rw [if_neg (by omega), if_neg (by omega), if_neg (by omega), if_neg (by omega), Int.toNat_natCast, hp]
    rfl
  · rw [Int.toNat_natCast]
    exact rgrown_f 100 m (L.take n) true (hw.take n) (by omega) hm1 (by omega) (by omega)
  · have := grown_shows 4294967297 m (L.take n) (hw.take n) (by omega) hm1 (by omega) (by omega)
    rw [e1, e2] at this
    exact this
end Go.Proofs.Ytnipbdlljfifhaa.T
