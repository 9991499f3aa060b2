/- What shows a leaf: the law walked. -/
import Derived.Test.YtnipbdlljfifhaaLx
set_option linter.unusedVariables false
set_option linter.unusedSimpArgs false
namespace Go.Proofs.Ytnipbdlljfifhaa.T
open Go.RowKit Go.Proofs.Ytnipbdlljfifhaa.PMk Go.Proofs.Ytnipbdlljfifhaa.M Go.Proofs.YtnipbdlljfifhaaW.PrintWords Go.Proofs.YtnipbdlljfifhaaW.PrintLast
theorem own_C {w : World} {base n : Nat} {v : Value} {L : List ByteArray} (h : w.ownsRow base 9 1 v n (pw_strs L)) (hn : L.length = n) : ∃ A c, v = .slice A n c ∧ n ≤ c ∧ Kd.C Kd.string w A n L := by
  subst hn
  obtain ⟨A, c, hv, hr⟩ := own_reads_of (enc := Value.string) (d := ByteArray.empty) (by have := h; exact this)
  refine ⟨A, c, hv, ?_, Kd.C_of_reads (h1 := fun _ => rfl) hr⟩
  rcases h.2 with ⟨h1, h2⟩ | ⟨g', cap, cur, h1, _, _, h2, _⟩
  · omega
  · rw [hv] at h1
    simp only [Value.slice.injEq] at h1
    omega
theorem same_l0 (l : List ByteArray) (hl : l.length < 1000000) : ∀ (d k i : Nat), i + d = l.length → d < k → parchmentlaw08_same.l0 k l l (i : Int) = some true
  | 0, k, i, hi, hk => by
    obtain ⟨k, rfl⟩ : ∃ q, k = q + 1 := ⟨k - 1, by omega⟩
    rw [parchmentlaw08_same.l0, if_neg (by omega)]
  | d + 1, k, i, hi, hk => by
    obtain ⟨k, rfl⟩ : ∃ q, k = q + 1 := ⟨k - 1, by omega⟩
    have e : wrap64 ((i : Int) + 1) = ((i + 1 : Nat) : Int) := by rw [w64n _ (by omega) (by omega)]; omega
    rw [parchmentlaw08_same.l0, if_pos (by omega), if_pos (by omega), if_pos (by omega), if_pos rfl, e]
    exact same_l0 l hl d k (i + 1) (by omega) (by omega)
theorem same_f (k : Nat) (l : List ByteArray) (hl : l.length < 1000000) (hk : l.length < k) : parchmentlaw08_same.f k l l = some true := by
  unfold parchmentlaw08_same.f
  rw [if_pos rfl]
  exact same_l0 l hl l.length k 0 (by omega) hk
theorem same_any (A B : Option Addr) (s t c d : Nat) (L : List ByteArray) (w : World) (hs : L.length = s) (ht : L.length = t) (hA : Kd.C Kd.string w A s L) (hB : Kd.C Kd.string w B t L) (hc : s ≤ c) (hd : t ≤ d) (hl : L.length < 1000000) :
    Calls Try.prog 21 #[.slice A s c, .slice B t d] w fun e w' => e = .returned (.bool true) ∧ Below w.heap.size w w' := by
  subst hs
  subst ht
  refine (parchmentlaw08_same.calls 1000001 A c L B d L true w hA hc hB hd (same_f _ _ hl (by omega))).mono ?_
  rintro e w' ⟨rfl, ⟨nd, rfl⟩⟩
  exact ⟨rfl, pw_below_drewN (Below.refl _ _) nd⟩
theorem rpath_any (k : Nat) (m : Int) (A : Option Addr) (t c : Nat) (T r : List ByteArray) (w : World) (ht : T.length = t) (hC : Kd.C Kd.string w A t T) (hc : t ≤ c) (h : parchmentref08_Path.f k m T = some r) :
    Calls Try.prog 22 #[.int .i64 m, .slice A t c] w fun e w' => ∃ v, e = .returned v ∧ Kd.R Kd.string 9 w' w.heap.size (fun _ => True) v r ∧ Below w.heap.size w w' := by
  subst ht
  exact parchmentref08_Path.calls k m A c T r w hC hc h
theorem rgrown_any (k : Nat) (m : Int) (A : Option Addr) (t c : Nat) (T : List ByteArray) (b : Bool) (r : List ByteArray) (w : World) (ht : T.length = t) (hC : Kd.C Kd.string w A t T) (hc : t ≤ c) (h : parchmentref08_Grown.f k m T b = some r) :
    Calls Try.prog 26 #[.int .i64 m, .slice A t c, .bool b] w fun e w' => ∃ v, e = .returned v ∧ Kd.R Kd.string 9 w' w.heap.size (fun _ => True) v r ∧ Below w.heap.size w w' := by
  subst ht
  exact parchmentref08_Grown.calls k m A c T b r w hC hc h
theorem rroot_any (k : Nat) (A : Option Addr) (t c : Nat) (T : List ByteArray) (r : ByteArray) (w : World) (ht : T.length = t) (hC : Kd.C Kd.string w A t T) (hc : t ≤ c) (h : parchmentref08_Root.f k T = some r) :
    Calls Try.prog 17 #[.slice A t c] w fun e w' => e = .returned (.string r) ∧ Below w.heap.size w w' := by
  subst ht
  exact parchmentref08_Root.calls k A c T r w hC hc h
theorem consistent_any (k : Nat) (old now : ByteArray) (m n : Int) (A : Option Addr) (t c : Nat) (T : List ByteArray) (r : Int) (w : World) (ht : T.length = t) (hC : Kd.C Kd.string w A t T) (hc : t ≤ c) (h : merkle_Consistent.f k old now m n T = some r) :
    Calls Try.prog 23 #[.string old, .string now, .int .i64 m, .int .i64 n, .slice A t c] w fun e w' => e = .returned (.int .i64 r) ∧ Below w.heap.size w w' := by
  subst ht
  exact merkle_Consistent.calls k old now m n A c T r w hC hc h

set_option maxRecDepth 100000 in
theorem paths_bad1 (A : Option Addr) (c : Nat) (l : List ByteArray) (w : World) (hC : Kd.C Kd.string w A l.length l) (hc : l.length ≤ c) (m n : Int) (L : List ByteArray) (hL : lfs l (min l.length 20) = L) (hbad : pathAtF 100 L m n = some ([], 1)) (h1 : n < 0) :
    Calls Try.prog 5 #[.slice A l.length c, .int .i64 m, .int .i64 n] w fun e w' => e = .returned (.bool true) ∧ Below w.heap.size w w' := by
  have HG := Lib.hid (grown_law A c l w hC hc)
  have HLL := Lib.hid hL
  have HBAD := Lib.hid hbad
  clear hC hL hbad hc
  go_enter Try.func5, Try.ntmps5
  go_wp2_with (first
    | (go_at_call 19; refine HG.out.mono ?_; rintro e w1 ⟨g, vl, vp, vo, rfl, hP, hb1⟩; rw [HLL.out] at hP; obtain ⟨Ao, co, rfl, hco, hCo⟩ := own_C hP.ro rfl; have HP := Lib.hid hP; have HB := Lib.hid hb1; clear hP hb1 hCo hco)
    | (go_at_call 20; refine (pathAt_raw 100 _ _ _ _ _ _ _ HP.out.tr m n [] 1 HBAD.out).mono ?_; rintro e w2 ⟨v, rfl, hv, hb1⟩; obtain ⟨Ap, cp, rfl, hcp, hCp⟩ := Kd.R_reads hv; have HB2 := Lib.hid (HB.out.trans (hb1.mono HB.out.size)); clear hb1 hv hcp hCp)
    | (go_at_call 9; refine (awake_raw _).mono ?_; rintro e w3 ⟨rfl, hb1⟩; have HB3 := Lib.hid (HB2.out.trans (hb1.mono HB2.out.size)); clear hb1))
  go_ret
  exact ⟨rfl, HB3.out⟩

set_option maxRecDepth 100000 in
theorem paths_bad2 (A : Option Addr) (c : Nat) (l : List ByteArray) (w : World) (hC : Kd.C Kd.string w A l.length l) (hc : l.length ≤ c) (m n : Int) (L : List ByteArray) (hL : lfs l (min l.length 20) = L) (hbad : pathAtF 100 L m n = some ([], 1)) (h1 : ¬ n < 0) (h2 : (L.length : Int) < n) :
    Calls Try.prog 5 #[.slice A l.length c, .int .i64 m, .int .i64 n] w fun e w' => e = .returned (.bool true) ∧ Below w.heap.size w w' := by
  have HG := Lib.hid (grown_law A c l w hC hc)
  have HLL := Lib.hid hL
  have HBAD := Lib.hid hbad
  clear hC hL hbad hc
  go_enter Try.func5, Try.ntmps5
  go_wp2_with (first
    | (go_at_call 19; refine HG.out.mono ?_; rintro e w1 ⟨g, vl, vp, vo, rfl, hP, hb1⟩; rw [HLL.out] at hP; obtain ⟨Ao, co, rfl, hco, hCo⟩ := own_C hP.ro rfl; have HP := Lib.hid hP; have HB := Lib.hid hb1; clear hP hb1 hCo hco)
    | (go_at_call 20; refine (pathAt_raw 100 _ _ _ _ _ _ _ HP.out.tr m n [] 1 HBAD.out).mono ?_; rintro e w2 ⟨v, rfl, hv, hb1⟩; obtain ⟨Ap, cp, rfl, hcp, hCp⟩ := Kd.R_reads hv; have HB2 := Lib.hid (HB.out.trans (hb1.mono HB.out.size)); clear hb1 hv hcp hCp)
    | (go_at_call 9; refine (awake_raw _).mono ?_; rintro e w3 ⟨rfl, hb1⟩; have HB3 := Lib.hid (HB2.out.trans (hb1.mono HB2.out.size)); clear hb1))
  go_ret
  exact ⟨rfl, HB3.out⟩

set_option maxRecDepth 100000 in
theorem paths_bad3 (A : Option Addr) (c : Nat) (l : List ByteArray) (w : World) (hC : Kd.C Kd.string w A l.length l) (hc : l.length ≤ c) (m n : Int) (L : List ByteArray) (hL : lfs l (min l.length 20) = L) (hbad : pathAtF 100 L m n = some ([], 1)) (h1 : ¬ n < 0) (h2 : ¬ (L.length : Int) < n) (h3 : m < 0) :
    Calls Try.prog 5 #[.slice A l.length c, .int .i64 m, .int .i64 n] w fun e w' => e = .returned (.bool true) ∧ Below w.heap.size w w' := by
  have HG := Lib.hid (grown_law A c l w hC hc)
  have HLL := Lib.hid hL
  have HBAD := Lib.hid hbad
  clear hC hL hbad hc
  go_enter Try.func5, Try.ntmps5
  go_wp2_with (first
    | (go_at_call 19; refine HG.out.mono ?_; rintro e w1 ⟨g, vl, vp, vo, rfl, hP, hb1⟩; rw [HLL.out] at hP; obtain ⟨Ao, co, rfl, hco, hCo⟩ := own_C hP.ro rfl; have HP := Lib.hid hP; have HB := Lib.hid hb1; clear hP hb1 hCo hco)
    | (go_at_call 20; refine (pathAt_raw 100 _ _ _ _ _ _ _ HP.out.tr m n [] 1 HBAD.out).mono ?_; rintro e w2 ⟨v, rfl, hv, hb1⟩; obtain ⟨Ap, cp, rfl, hcp, hCp⟩ := Kd.R_reads hv; have HB2 := Lib.hid (HB.out.trans (hb1.mono HB.out.size)); clear hb1 hv hcp hCp)
    | (go_at_call 9; refine (awake_raw _).mono ?_; rintro e w3 ⟨rfl, hb1⟩; have HB3 := Lib.hid (HB2.out.trans (hb1.mono HB2.out.size)); clear hb1))
  go_ret
  exact ⟨rfl, HB3.out⟩

set_option maxRecDepth 100000 in
theorem paths_bad4 (A : Option Addr) (c : Nat) (l : List ByteArray) (w : World) (hC : Kd.C Kd.string w A l.length l) (hc : l.length ≤ c) (m n : Int) (L : List ByteArray) (hL : lfs l (min l.length 20) = L) (hbad : pathAtF 100 L m n = some ([], 1)) (h1 : ¬ n < 0) (h2 : ¬ (L.length : Int) < n) (h3 : ¬ m < 0) (h4 : n ≤ m) :
    Calls Try.prog 5 #[.slice A l.length c, .int .i64 m, .int .i64 n] w fun e w' => e = .returned (.bool true) ∧ Below w.heap.size w w' := by
  have HG := Lib.hid (grown_law A c l w hC hc)
  have HLL := Lib.hid hL
  have HBAD := Lib.hid hbad
  clear hC hL hbad hc
  go_enter Try.func5, Try.ntmps5
  go_wp2_with (first
    | (go_at_call 19; refine HG.out.mono ?_; rintro e w1 ⟨g, vl, vp, vo, rfl, hP, hb1⟩; rw [HLL.out] at hP; obtain ⟨Ao, co, rfl, hco, hCo⟩ := own_C hP.ro rfl; have HP := Lib.hid hP; have HB := Lib.hid hb1; clear hP hb1 hCo hco)
    | (go_at_call 20; refine (pathAt_raw 100 _ _ _ _ _ _ _ HP.out.tr m n [] 1 HBAD.out).mono ?_; rintro e w2 ⟨v, rfl, hv, hb1⟩; obtain ⟨Ap, cp, rfl, hcp, hCp⟩ := Kd.R_reads hv; have HB2 := Lib.hid (HB.out.trans (hb1.mono HB.out.size)); clear hb1 hv hcp hCp)
    | (go_at_call 9; refine (awake_raw _).mono ?_; rintro e w3 ⟨rfl, hb1⟩; have HB3 := Lib.hid (HB2.out.trans (hb1.mono HB2.out.size)); clear hb1))
  go_ret
  exact ⟨rfl, HB3.out⟩

set_option maxRecDepth 100000 in
theorem paths_good (A : Option Addr) (c : Nat) (l : List ByteArray) (w : World) (hC : Kd.C Kd.string w A l.length l) (hc : l.length ≤ c) (m n : Int) (L : List ByteArray) (hL : lfs l (min l.length 20) = L)
    (h1 : 0 ≤ n) (h2 : n ≤ (L.length : Int)) (h3 : 0 ≤ m) (h4 : m < n) (P : List ByteArray) (r x : ByteArray) (hps : P.length < 1000)
    (hpath : pathAtF 100 L m n = some (P, 0)) (hroot : rootAtF 100 L n = some (r, 0)) (href : parchmentref08_Path.f 100 m (L.take n.toNat) = some P) (hx : rdOf ByteArray.empty L m = x) (hver : merkle_Verify.f 4294967297 r x m n P = some 0) :
    Calls Try.prog 5 #[.slice A l.length c, .int .i64 m, .int .i64 n] w fun e w' => e = .returned (.bool true) ∧ Below w.heap.size w w' := by
  have HG := Lib.hid (grown_law A c l w hC hc)
  have HLL := Lib.hid hL
  have HPA := Lib.hid hpath
  have HRO := Lib.hid hroot
  have HRE := Lib.hid href
  have HVE := Lib.hid hver
  have HX := Lib.hid hx
  clear hC hL hpath hroot href hver hc hx
  go_enter Try.func5, Try.ntmps5
  go_wp2_with (first
    | (go_at_call 19; refine HG.out.mono ?_; rintro e w1 ⟨g, vl, vp, vo, rfl, hP, hb1⟩; rw [HLL.out] at hP; obtain ⟨Ao, co, rfl, hco, hCo⟩ := own_C hP.ro rfl; obtain ⟨ad, rfl, hcx⟩ := Kd.at_string hCo m h3 (by omega); rw [HX.out] at hcx; obtain ⟨T, t, hT, ht, hcut, hC2, hc2⟩ := cutn (some ad) co L n h1 h2 hco; have HCT := Lib.hid (hC2 w1 hCo); have HT := Lib.hid hT; have Ht := Lib.hid ht; have Hc2 := Lib.hid hc2; have HCX := Lib.hid hcx; have HP := Lib.hid hP; have HB := Lib.hid hb1; clear hP hb1 hCo hco hcx hC2 hc2 ht hT)
    | (go_at_call 20; refine (pathAt_raw 100 _ _ _ _ _ _ _ HP.out.tr m n P 0 HPA.out).mono ?_; rintro e w2 ⟨v, rfl, hv, hb1⟩; obtain ⟨Ap, cp, rfl, hcp, hCp⟩ := Kd.R_reads hv; have HA2 := Lib.hid (HP.out.tr.below hb1); have HB2 := Lib.hid (HB.out.trans (hb1.mono HB.out.size)); have HCP2 := Lib.hid hCp; have Hcp := Lib.hid hcp; have HCT2 := Lib.hid (Kd.C_below HCT.out hb1); have HCX2 := Lib.hid ((hb1.cell (World.block_lt_of_cell? _ _ HCX.out)).trans HCX.out); clear hb1 hv hcp hCp HP HB HCT HCX)
    | (go_at_call 9; refine (awake_raw _).mono ?_; rintro e w3 ⟨rfl, hb1⟩; have HA3 := Lib.hid (HA2.out.below hb1); have HB3 := Lib.hid (HB2.out.trans (hb1.mono HB2.out.size)); have HCP3 := Lib.hid (Kd.C_below HCP2.out hb1); have HCT3 := Lib.hid (Kd.C_below HCT2.out hb1); have HCX3 := Lib.hid ((hb1.cell (World.block_lt_of_cell? _ _ HCX2.out)).trans HCX2.out); clear hb1 HA2 HB2 HCP2 HCT2 HCX2)
    | (go_at_call 18; refine (rootAt_raw 100 _ _ _ _ _ _ _ HA3.out n r 0 HRO.out).mono ?_; rintro e w4 ⟨rfl, hb1⟩; have HB4 := Lib.hid (HB3.out.trans (hb1.mono HB3.out.size)); have HCP4 := Lib.hid (Kd.C_below HCP3.out hb1); have HCT4 := Lib.hid (Kd.C_below HCT3.out hb1); have HCX4 := Lib.hid ((hb1.cell (World.block_lt_of_cell? _ _ HCX3.out)).trans HCX3.out); clear hb1 HA3 HB3 HCP3 HCT3 HCX3)
    | (go_at_call 22; refine (rpath_any 100 m _ _ _ T P _ Ht.out HCT4.out Hc2.out (HT.out ▸ HRE.out)).mono ?_; rintro e w5 ⟨v, rfl, hv, hb1⟩; obtain ⟨Aq, cq, rfl, hcq, hCq⟩ := Kd.R_reads hv; have HB5 := Lib.hid (HB4.out.trans (hb1.mono HB4.out.size)); have HCQ := Lib.hid hCq; have Hcq := Lib.hid hcq; have HCP5 := Lib.hid (Kd.C_below HCP4.out hb1); have HCX5 := Lib.hid ((hb1.cell (World.block_lt_of_cell? _ _ HCX4.out)).trans HCX4.out); clear hb1 hv hcq hCq HB4 HCP4 HCT4 HCX4)
    | (go_at_call 21; refine (same_any _ _ _ _ _ _ P _ rfl rfl HCP5.out HCQ.out Hcp.out Hcq.out (by omega)).mono ?_; rintro e w6 ⟨rfl, hb1⟩; have HB6 := Lib.hid (HB5.out.trans (hb1.mono HB5.out.size)); have HCP6 := Lib.hid (Kd.C_below HCP5.out hb1); have hcx := (hb1.cell (World.block_lt_of_cell? _ _ HCX5.out)).trans HCX5.out; clear hb1 HB5 HCP5 HCX5)
    | (go_at_call 10; refine (verify_any 4294967297 _ _ _ _ _ _ _ P 0 _ rfl HCP6.out Hcp.out HVE.out).mono ?_; rintro e w7 ⟨rfl, hb1⟩; have HB7 := Lib.hid (HB6.out.trans (hb1.mono HB6.out.size)); clear hb1))
  go_ret
  exact ⟨rfl, HB7.out⟩
theorem lfs20 (l : List ByteArray) : (lfs l (min l.length 20)).length ≤ 20 := by rw [lfs_len (by omega)]; omega
theorem rootAtF_good {L : List ByteArray} (hw : W32 L) (hl : L.length ≤ 24) {n : Int} (h1 : 0 ≤ n) (h2 : n ≤ (L.length : Int)) : rootAtF 100 L n = some (mroot (L.take n.toNat), 0) := by
  unfold rootAtF
  rw [if_neg (by omega), if_neg (by omega), root_f 100 _ (hw.take _) (by simp; omega) (by simp; omega)]
  rfl
/-- The law, whatever comes in. -/
theorem paths_law (k : Nat) (A : Option Addr) (c : Nat) (l : List ByteArray) (m n : Int) (b : Bool) (w : World) (hC : Kd.C Kd.string w A l.length l) (hc : l.length ≤ c) (hb : b = true) :
    Calls Try.prog 5 #[.slice A l.length c, .int .i64 m, .int .i64 n] w fun e w' => e = .returned (.bool b) ∧ Below w.heap.size w w' := by
  subst hb
  obtain ⟨L, hL⟩ : ∃ L, lfs l (min l.length 20) = L := ⟨_, rfl⟩
  have hw : W32 L := hL ▸ lfs_w32 _ _
  have h20 : L.length ≤ 20 := hL ▸ lfs20 l
  by_cases g1 : n < 0
  · exact paths_bad1 A c l w hC hc m n L hL (by unfold pathAtF; rw [if_pos g1]) g1
  by_cases g2 : (L.length : Int) < n
  · exact paths_bad2 A c l w hC hc m n L hL (by unfold pathAtF; rw [if_neg g1, if_pos g2]) g1 g2
  by_cases g3 : m < 0
  · exact paths_bad3 A c l w hC hc m n L hL (by unfold pathAtF; rw [if_neg g1, if_neg (by omega), if_pos g3]) g1 g2 g3
  by_cases g4 : n ≤ m
  · exact paths_bad4 A c l w hC hc m n L hL (by unfold pathAtF; rw [if_neg g1, if_neg (by omega), if_neg g3, if_pos g4]) g1 g2 g3 g4
  obtain ⟨n, rfl⟩ := Int.eq_ofNat_of_zero_le (show 0 ≤ n by omega)
  obtain ⟨m, rfl⟩ := Int.eq_ofNat_of_zero_le (show 0 ≤ m by omega)
  have hn : n ≤ L.length := by omega
  have hm : m < n := by omega
  have e1 : (L.take n).length = n := by simp; omega
  have e2 : (L.take n).getD m ByteArray.empty = rdOf ByteArray.empty L (m : Int) := by simp [rdOf, List.getElem?_take, hm]
  have hp := path_f 100 m (L.take n) (hw.take n) (by omega) (by omega) (by omega)
  refine paths_good A c l w hC hc m n L hL (by omega) (by omega) (by omega) (by omega) (pathT m (L.take n)) (mroot (L.take n)) _ ?_ ?_ (rootAtF_good hw (by omega) (by omega) (by omega)) ?_ rfl ?_
  · exact Nat.lt_of_le_of_lt (pathT_len _ m (L.take n) (Nat.le_refl _)) (by omega)
  · unfold pathAtF
    rw [if_neg (by omega), if_neg (by omega), if_neg (by omega), if_neg (by omega), Int.toNat_natCast, hp]
    rfl
  · rw [Int.toNat_natCast]
    exact rpath_f 100 m (L.take n) (hw.take n) (by omega) (by omega) (by omega)
  · have := path_shows 4294967297 m (L.take n) (hw.take n) (by omega) (by omega) (by omega)
    rw [e1, e2] at this
    exact this
end Go.Proofs.Ytnipbdlljfifhaa.T
