/- Leaf by leaf the root is the reference's: the law walked. -/
import Derived.Test.YtnipbdlljfifhaaLy
set_option linter.unusedVariables false
set_option linter.unusedSimpArgs false
namespace Go.Proofs.Ytnipbdlljfifhaa.T
open Go.RowKit Go.Proofs.Ytnipbdlljfifhaa.PMk Go.Proofs.Ytnipbdlljfifhaa.M Go.Proofs.YtnipbdlljfifhaaW.PrintWords Go.Proofs.YtnipbdlljfifhaaW.PrintLast
theorem len_any (w : World) (base g n : Nat) (vl vp : Value) (L P : List ByteArray) (hA : At w base g vl vp L P) (hn : L.length = n) :
    Calls Try.prog 15 #[.pointer (some ⟨g, 0, none⟩)] w fun e w' => e = .returned (.int .i64 n) ∧ Below w.heap.size w w' := by
  subst hn
  refine (len_raw w base g vl vp L P hA).mono ?_
  rintro e w' ⟨rfl, h⟩
  rw [h]
  exact ⟨rfl, Below.refl _ _⟩
theorem own_Cn {w : World} {base n : Nat} {v : Value} {L : List ByteArray} (h : w.ownsRow base 9 1 v L.length (pw_strs L)) (hn : L.length = n) : ∃ A c, v = .slice A n c ∧ n ≤ c ∧ Kd.C Kd.string w A n L := by
  subst hn
  exact own_C h rfl
theorem cutm (A : Option Addr) (c s : Nat) (L : List ByteArray) (hs : L.length = s) (n : Int) (h0 : 0 ≤ n) (h1 : n ≤ s) (hc : s ≤ c) :
    ∃ T t, L.take n.toNat = T ∧ T.length = t ∧ (∀ W : World, (Instr.slice 22 (.slice A s c) none (some (.int .i64 n)) none).run Try.prog W = .ok (.slice A t c) W) ∧ (∀ w : World, Kd.C Kd.string w A s L → Kd.C Kd.string w A t T) ∧ t ≤ c := by
  subst hs
  exact cutn A c L n h0 h1 hc
set_option maxRecDepth 100000 in
theorem roots_walk (A : Option Addr) (c : Nat) (l : List ByteArray) (n : Int) (w : World) (hC : Kd.C Kd.string w A l.length l) (hc : l.length ≤ c) :
    Calls Try.prog 4 #[.slice A l.length c, .int .i64 n] w fun e w' => e = .returned (.bool true) ∧ Below w.heap.size w w' := by
  obtain ⟨len, hlen⟩ : ∃ n, l.length = n := ⟨_, rfl⟩
  have hmax := few l w A _ hC
  rw [hlen] at hC hc hmax ⊢
  have HC := Lib.hid hC
  have HL := Lib.hid hlen
  clear hC hlen
  obtain ⟨i0, hi, hz0, hz1, hz2⟩ := info_parts info9
  go_enter Try.func4, Try.ntmps4
  go_wp2_with (go_at_call 12; refine (new_raw _).mono ?_; rintro e w1 ⟨g, rfl, hA, hb1⟩; have HA1 := Lib.hid hA; have HB1 := Lib.hid hb1; clear hA hb1)
  have HP0 : Hid (Pair (w1.alloc (.cells #[] 9)) w.heap.size g (.slice none 0 0) (.slice none 0 0) (.slice (some ⟨w1.heap.size, 0, none⟩) 0 0) (lfs l 0)) := by
    refine Lib.hid ⟨?_, ?_, fun k hk => ⟨by simp [Value.ownBlock], by simp [Value.ownBlock]⟩⟩
    · have := HA1.out.below ((Below.refl _ w1).alloc (Nat.le_refl _) (.cells #[] 9))
      simpa [lfs, pk_nil] using this
    · exact ⟨rfl, .inr ⟨w1.heap.size, 0, #[], rfl, HB1.out.size, heap_alloc_new w1 _, Nat.le_refl _, Nat.zero_le _, rfl, rfl⟩⟩
  have HB2 : Hid (Below w.heap.size w (w1.alloc (.cells #[] 9))) := Lib.hid (HB1.out.alloc HB1.out.size _)
  go_loopw [6, 7] (fun vo vi wr => ∃ (i : Nat) (vl vp : Value), i ≤ len ∧ i ≤ 24 ∧ vi = .int .i64 i ∧ Hid (Pair wr w.heap.size g vl vp vo (lfs l i)) ∧ Hid (Below w.heap.size w wr)) (fun _ vi _ => (24 - intOf vi).toNat)
  case atStart => exact ⟨0, _, _, Nat.zero_le _, by omega, rfl, HP0, HB2⟩
  case round =>
    obtain ⟨i, vl, vp, hi1, hi2, rfl, HP, HB⟩ := hrel
    clear HP0 HB2 HA1 HB1
    have hln : (lfs l i).length = i := lfs_len (by have := HL.out; omega)
    by_cases h1 : i < len
    · by_cases h2 : i < 24
      · obtain ⟨x, hx⟩ : ∃ x, l.getD i ByteArray.empty = x := ⟨_, rfl⟩
        obtain ⟨ad, hA, hcx⟩ := Kd.at_string (Kd.C_below HC.out HB.out) (i : Int) (by omega) (by omega)
        subst hA
        rw [Int.toNat_natCast] at hcx
        rw [show rdOf ByteArray.empty l (i : Int) = x from (by rw [← hx]; rfl)] at hcx
        have HX := Lib.hid hx
        clear hx
        by_cases h60 : x.size > 60
        · have hcut : cut60 x = x.extract 0 60 := if_pos h60
          have hys : (x.extract 0 60).size < 1152921504606846000 := by rw [ByteArray.size_extract]; omega
          obtain ⟨h, hh⟩ : ∃ h, leaf (x.extract 0 60) = h := ⟨_, rfl⟩
          have hlf : h = lf x := by rw [← hh, lf, hcut]
          obtain ⟨r, hr⟩ : ∃ r, mroot (lfs l (i + 1)) = r := ⟨_, rfl⟩
          have HSU : Hid (lfs l i ++ [h] = lfs l (i + 1)) := Lib.hid (by rw [hlf, ← HX.out, ← lfs_succ (by have := HL.out; omega)])
          have hln1 : (lfs l (i + 1)).length = i + 1 := lfs_len (by have := HL.out; omega)
          have HNE : Hid (lfs l (i + 1) ≠ []) := Lib.hid (fun e => by rw [e] at hln1; simp at hln1)
          have HAD := Lib.hid (fun w' hA => hh ▸ add_tree (x.extract 0 60) w' w.heap.size g vl vp (lfs l i) hA (lfs_w32 _ _) hys (by rw [hln]; omega))
          have HLF := Lib.hid (fun w' => hh ▸ leaf_calls (x.extract 0 60) hys w')
          have HRT := Lib.hid (fun w' vl' vp' hA => hr ▸ root_tree w' w.heap.size g vl' vp' (lfs l (i + 1)) hA HNE.out (lfs_w32 _ _) (by omega))
          have HRF := Lib.hid ((rroot_f 100 (lfs l (i + 1)) (lfs_w32 _ _) (by omega) (by omega)).trans (congrArg some hr))
          clear hh hlf hr
          go_wp2_with (first
            | (go_at_call 13; refine (HAD.out _ HP.out.tr).mono ?_; rintro e w2 ⟨rfl, vl2, vp2, hA, hst, hb1⟩; have HLg := Lib.hid (HP.out.add hA hst); have HB3 := Lib.hid (HB.out.trans hb1); clear hA hst hb1 HP HB)
            | (go_at_call 14; refine (HLF.out _).mono ?_; rintro e w3 ⟨rfl, hb1⟩; have HL3 := Lib.hid (HLg.out.below hb1); have HB4 := Lib.hid (HB3.out.trans (hb1.mono HB3.out.size)); clear hb1 HLg HB3)
            | (go_at_call 14; refine (HLF.out _).mono ?_; rintro e w4 ⟨rfl, hb1⟩; have HL4 := Lib.hid (HL3.out.below hb1); have HB5 := Lib.hid (HB4.out.trans (hb1.mono HB4.out.size)); clear hb1 HL3 HB4)
            | (at_builtin; refine wpList_append_lies _ rfl (.tmp 38) (.tmp 41) 22 rfl w.heap.size 9 i0 (.string ⟨#[]⟩) 1 16 Try.underlying22 hi hz0 hz1 hz2 rfl (by decide) u6 _ _ (by rfl) (HL4.out.ro.alloc _) ⟨w4.heap.size, 0, none⟩ 1 1 [.string h] (by rfl) rfl (World.news_of_block (heap_alloc_new w4 _)) (by intro u hu; simp at hu; subst hu; rfl) (by decide) (by rw [hln]; unfold maxLen; omega) (by rw [hln]; omega) (by have := HB5.out.size; simp; omega) (w4.heap.size + 1) (by simp) ?_))
          intro g3 cap3 w5 hown hgrow hat hlt
          have HP5 := (HL4.out.push hln hown hgrow hat).pair
          have HB6 : Below w.heap.size w w5 := (HB5.out.alloc HB5.out.size _).grown hgrow (by have := HB5.out.size; simp; omega) (fun k hk => own_base HL4.out.ro k hk)
          rw [HSU.out] at HP5
          have HP6 := Lib.hid HP5
          have HB7 := Lib.hid HB6
          have HCA := own_C HP5.ro rfl
          obtain ⟨Ao, co, eo, hco, hCo⟩ := HCA
          injection eo with eo1 eo2 eo3
          subst eo1
          subst eo3
          rw [hln1] at hCo hco
          have HCo := Lib.hid hCo
          have Hco := Lib.hid hco
          have HLN := Lib.hid hln1
          clear HP5 HB6 hown hgrow hat hlt HL4 HB5 hcx hCo hco eo2 hln1
          go_wp2_with (first
            | (go_at_call 15; refine (len_any _ _ _ _ _ _ _ _ HP6.out.tr HLN.out).mono ?_; rintro e w6 ⟨rfl, hb1⟩; have HP8 := Lib.hid (HP6.out.below hb1); have HB8 := Lib.hid (HB7.out.trans (hb1.mono HB7.out.size)); have HC8 := Lib.hid (Kd.C_below HCo.out hb1); clear hb1 HP6 HB7 HCo)
            | (go_at_call 16; refine (HRT.out _ _ _ HP8.out.tr).mono ?_; rintro e w7 ⟨rfl, hb1⟩; have HP9 := Lib.hid (HP8.out.below hb1); have HB9 := Lib.hid (HB8.out.trans (hb1.mono HB8.out.size)); have HC9 := Lib.hid (Kd.C_below HC8.out hb1); clear hb1 HP8 HB8 HC8)
            | (go_at_call 17; refine (rroot_any 100 _ _ _ (lfs l (i + 1)) r _ HLN.out HC9.out Hco.out HRF.out).mono ?_; rintro e w8 ⟨rfl, hb1⟩; have HP10 := Lib.hid (HP9.out.below hb1); have HB10 := Lib.hid (HB9.out.trans (hb1.mono HB9.out.size)); clear hb1 HP9 HB9 HC9))
          go_roundw
          case rel => exact ⟨i + 1, vl2, vp2, by omega, by omega, by go_num, HP10, HB10⟩
          case measure => simp [intOf]; omega
        · have hcut : cut60 x = x := if_neg h60
          have hys : x.size < 1152921504606846000 := by omega
          have h61 : ¬ (60 : Int) < (x.size : Int) := by omega
          obtain ⟨h, hh⟩ : ∃ h, leaf (x) = h := ⟨_, rfl⟩
          have hlf : h = lf x := by rw [← hh, lf, hcut]
          obtain ⟨r, hr⟩ : ∃ r, mroot (lfs l (i + 1)) = r := ⟨_, rfl⟩
          have HSU : Hid (lfs l i ++ [h] = lfs l (i + 1)) := Lib.hid (by rw [hlf, ← HX.out, ← lfs_succ (by have := HL.out; omega)])
          have hln1 : (lfs l (i + 1)).length = i + 1 := lfs_len (by have := HL.out; omega)
          have HNE : Hid (lfs l (i + 1) ≠ []) := Lib.hid (fun e => by rw [e] at hln1; simp at hln1)
          have HAD := Lib.hid (fun w' hA => hh ▸ add_tree (x) w' w.heap.size g vl vp (lfs l i) hA (lfs_w32 _ _) hys (by rw [hln]; omega))
          have HLF := Lib.hid (fun w' => hh ▸ leaf_calls (x) hys w')
          have HRT := Lib.hid (fun w' vl' vp' hA => hr ▸ root_tree w' w.heap.size g vl' vp' (lfs l (i + 1)) hA HNE.out (lfs_w32 _ _) (by omega))
          have HRF := Lib.hid ((rroot_f 100 (lfs l (i + 1)) (lfs_w32 _ _) (by omega) (by omega)).trans (congrArg some hr))
          clear hh hlf hr
          go_wp2_with (first
            | (go_at_call 13; refine (HAD.out _ HP.out.tr).mono ?_; rintro e w2 ⟨rfl, vl2, vp2, hA, hst, hb1⟩; have HLg := Lib.hid (HP.out.add hA hst); have HB3 := Lib.hid (HB.out.trans hb1); clear hA hst hb1 HP HB)
            | (go_at_call 14; refine (HLF.out _).mono ?_; rintro e w3 ⟨rfl, hb1⟩; have HL3 := Lib.hid (HLg.out.below hb1); have HB4 := Lib.hid (HB3.out.trans (hb1.mono HB3.out.size)); clear hb1 HLg HB3)
            | (go_at_call 14; refine (HLF.out _).mono ?_; rintro e w4 ⟨rfl, hb1⟩; have HL4 := Lib.hid (HL3.out.below hb1); have HB5 := Lib.hid (HB4.out.trans (hb1.mono HB4.out.size)); clear hb1 HL3 HB4)
            | (at_builtin; refine wpList_append_lies _ rfl (.tmp 38) (.tmp 41) 22 rfl w.heap.size 9 i0 (.string ⟨#[]⟩) 1 16 Try.underlying22 hi hz0 hz1 hz2 rfl (by decide) u6 _ _ (by rfl) (HL4.out.ro.alloc _) ⟨w4.heap.size, 0, none⟩ 1 1 [.string h] (by rfl) rfl (World.news_of_block (heap_alloc_new w4 _)) (by intro u hu; simp at hu; subst hu; rfl) (by decide) (by rw [hln]; unfold maxLen; omega) (by rw [hln]; omega) (by have := HB5.out.size; simp; omega) (w4.heap.size + 1) (by simp) ?_))
          intro g3 cap3 w5 hown hgrow hat hlt
          have HP5 := (HL4.out.push hln hown hgrow hat).pair
          have HB6 : Below w.heap.size w w5 := (HB5.out.alloc HB5.out.size _).grown hgrow (by have := HB5.out.size; simp; omega) (fun k hk => own_base HL4.out.ro k hk)
          rw [HSU.out] at HP5
          have HP6 := Lib.hid HP5
          have HB7 := Lib.hid HB6
          have HCA := own_C HP5.ro rfl
          obtain ⟨Ao, co, eo, hco, hCo⟩ := HCA
          injection eo with eo1 eo2 eo3
          subst eo1
          subst eo3
          rw [hln1] at hCo hco
          have HCo := Lib.hid hCo
          have Hco := Lib.hid hco
          have HLN := Lib.hid hln1
          clear HP5 HB6 hown hgrow hat hlt HL4 HB5 hcx hCo hco eo2 hln1
          go_wp2_with (first
            | (go_at_call 15; refine (len_any _ _ _ _ _ _ _ _ HP6.out.tr HLN.out).mono ?_; rintro e w6 ⟨rfl, hb1⟩; have HP8 := Lib.hid (HP6.out.below hb1); have HB8 := Lib.hid (HB7.out.trans (hb1.mono HB7.out.size)); have HC8 := Lib.hid (Kd.C_below HCo.out hb1); clear hb1 HP6 HB7 HCo)
            | (go_at_call 16; refine (HRT.out _ _ _ HP8.out.tr).mono ?_; rintro e w7 ⟨rfl, hb1⟩; have HP9 := Lib.hid (HP8.out.below hb1); have HB9 := Lib.hid (HB8.out.trans (hb1.mono HB8.out.size)); have HC9 := Lib.hid (Kd.C_below HC8.out hb1); clear hb1 HP8 HB8 HC8)
            | (go_at_call 17; refine (rroot_any 100 _ _ _ (lfs l (i + 1)) r _ HLN.out HC9.out Hco.out HRF.out).mono ?_; rintro e w8 ⟨rfl, hb1⟩; have HP10 := Lib.hid (HP9.out.below hb1); have HB10 := Lib.hid (HB9.out.trans (hb1.mono HB9.out.size)); clear hb1 HP9 HB9 HC9))
          go_roundw
          case rel => exact ⟨i + 1, vl2, vp2, by omega, by omega, by go_num, HP10, HB10⟩
          case measure => simp [intOf]; omega
      · have hi3 : ¬ (i : Int) < 24 := by omega
        have hi24 : i ≤ 24 := by omega
        obtain ⟨Ao, co, rfl, hco, hCo⟩ := own_Cn HP.out.ro hln
        by_cases g1 : n < 0
        · have g1' := g1
          have HRO : Hid (rootAtF 100 (lfs l i) n = some (⟨#[]⟩, 1)) := Lib.hid (by unfold rootAtF; rw [if_pos g1])
          go_wp2_with (first
            | (go_at_call 18; refine (rootAt_raw 100 _ _ _ _ _ _ _ HP.out.tr n _ 1 HRO.out).mono ?_; rintro e w2 ⟨rfl, hb1⟩; have HB2 := Lib.hid (HB.out.trans (hb1.mono HB.out.size)); clear hb1)
            | (go_at_call 9; refine (awake_raw _).mono ?_; rintro e w3 ⟨rfl, hb1⟩; have HB3 := Lib.hid (HB2.out.trans (hb1.mono HB2.out.size)); clear hb1))
          go_ret
          exact ⟨rfl, HB3.out⟩
        by_cases g2 : (i : Int) < n
        · have g2' := g2
          have HRO : Hid (rootAtF 100 (lfs l i) n = some (⟨#[]⟩, 1)) := Lib.hid (by unfold rootAtF; rw [if_neg g1, if_pos (by rw [hln]; exact g2)])
          go_wp2_with (first
            | (go_at_call 18; refine (rootAt_raw 100 _ _ _ _ _ _ _ HP.out.tr n _ 1 HRO.out).mono ?_; rintro e w2 ⟨rfl, hb1⟩; have HB2 := Lib.hid (HB.out.trans (hb1.mono HB.out.size)); clear hb1)
            | (go_at_call 9; refine (awake_raw _).mono ?_; rintro e w3 ⟨rfl, hb1⟩; have HB3 := Lib.hid (HB2.out.trans (hb1.mono HB2.out.size)); clear hb1))
          go_ret
          exact ⟨rfl, HB3.out⟩
        have g3 : 0 ≤ n := by omega
        have g4 : n ≤ (i : Int) := by omega
        obtain ⟨T, t, hT, ht, hcut, hC2, hc2⟩ := cutm Ao co i (lfs l i) hln n g3 g4 hco
        obtain ⟨r, hr⟩ : ∃ r, mroot ((lfs l i).take n.toNat) = r := ⟨_, rfl⟩
        have HRO : Hid (rootAtF 100 (lfs l i) n = some (r, 0)) := Lib.hid (hr ▸ rootAtF_good (lfs_w32 _ _) (by rw [hln]; omega) g3 (by rw [hln]; omega))
        have HRF : Hid (parchmentref08_Root.f 100 T = some r) := Lib.hid (by
          have h3 : T.length ≤ 24 := by rw [← hT]; simp; omega
          rw [← hr, hT]
          exact rroot_f 100 T (hT ▸ (lfs_w32 l i).take _) (by omega) (by omega))
        have HCT := Lib.hid (hC2 wr hCo)
        have Hc2 := Lib.hid hc2
        have Ht := Lib.hid ht
        clear hT ht hC2 hc2 hr hCo
        go_wp2_with (first
          | (go_at_call 18; refine (rootAt_raw 100 _ _ _ _ _ _ _ HP.out.tr n r 0 HRO.out).mono ?_; rintro e w2 ⟨rfl, hb1⟩; have HB2 := Lib.hid (HB.out.trans (hb1.mono HB.out.size)); have HCT2 := Lib.hid (Kd.C_below HCT.out hb1); clear hb1)
          | (go_at_call 9; refine (awake_raw _).mono ?_; rintro e w3 ⟨rfl, hb1⟩; have HB3 := Lib.hid (HB2.out.trans (hb1.mono HB2.out.size)); have HCT3 := Lib.hid (Kd.C_below HCT2.out hb1); clear hb1)
          | (go_at_call 17; refine (rroot_any 100 _ _ _ T r _ Ht.out HCT3.out Hc2.out HRF.out).mono ?_; rintro e w4 ⟨rfl, hb1⟩; have HB4 := Lib.hid (HB3.out.trans (hb1.mono HB3.out.size)); clear hb1))
        go_ret
        exact ⟨rfl, HB4.out⟩
    · have hi3 : ¬ (i : Int) < (len : Int) := by omega
      have hi24 : i ≤ 24 := by omega
      obtain ⟨Ao, co, rfl, hco, hCo⟩ := own_Cn HP.out.ro hln
      by_cases g1 : n < 0
      · have g1' := g1
        have HRO : Hid (rootAtF 100 (lfs l i) n = some (⟨#[]⟩, 1)) := Lib.hid (by unfold rootAtF; rw [if_pos g1])
        go_wp2_with (first
          | (go_at_call 18; refine (rootAt_raw 100 _ _ _ _ _ _ _ HP.out.tr n _ 1 HRO.out).mono ?_; rintro e w2 ⟨rfl, hb1⟩; have HB2 := Lib.hid (HB.out.trans (hb1.mono HB.out.size)); clear hb1)
          | (go_at_call 9; refine (awake_raw _).mono ?_; rintro e w3 ⟨rfl, hb1⟩; have HB3 := Lib.hid (HB2.out.trans (hb1.mono HB2.out.size)); clear hb1))
        go_ret
        exact ⟨rfl, HB3.out⟩
      by_cases g2 : (i : Int) < n
      · have g2' := g2
        have HRO : Hid (rootAtF 100 (lfs l i) n = some (⟨#[]⟩, 1)) := Lib.hid (by unfold rootAtF; rw [if_neg g1, if_pos (by rw [hln]; exact g2)])
        go_wp2_with (first
          | (go_at_call 18; refine (rootAt_raw 100 _ _ _ _ _ _ _ HP.out.tr n _ 1 HRO.out).mono ?_; rintro e w2 ⟨rfl, hb1⟩; have HB2 := Lib.hid (HB.out.trans (hb1.mono HB.out.size)); clear hb1)
          | (go_at_call 9; refine (awake_raw _).mono ?_; rintro e w3 ⟨rfl, hb1⟩; have HB3 := Lib.hid (HB2.out.trans (hb1.mono HB2.out.size)); clear hb1))
        go_ret
        exact ⟨rfl, HB3.out⟩
      have g3 : 0 ≤ n := by omega
      have g4 : n ≤ (i : Int) := by omega
      obtain ⟨T, t, hT, ht, hcut, hC2, hc2⟩ := cutm Ao co i (lfs l i) hln n g3 g4 hco
      obtain ⟨r, hr⟩ : ∃ r, mroot ((lfs l i).take n.toNat) = r := ⟨_, rfl⟩
      have HRO : Hid (rootAtF 100 (lfs l i) n = some (r, 0)) := Lib.hid (hr ▸ rootAtF_good (lfs_w32 _ _) (by rw [hln]; omega) g3 (by rw [hln]; omega))
      have HRF : Hid (parchmentref08_Root.f 100 T = some r) := Lib.hid (by
        have h3 : T.length ≤ 24 := by rw [← hT]; simp; omega
        rw [← hr, hT]
        exact rroot_f 100 T (hT ▸ (lfs_w32 l i).take _) (by omega) (by omega))
      have HCT := Lib.hid (hC2 wr hCo)
      have Hc2 := Lib.hid hc2
      have Ht := Lib.hid ht
      clear hT ht hC2 hc2 hr hCo
      go_wp2_with (first
        | (go_at_call 18; refine (rootAt_raw 100 _ _ _ _ _ _ _ HP.out.tr n r 0 HRO.out).mono ?_; rintro e w2 ⟨rfl, hb1⟩; have HB2 := Lib.hid (HB.out.trans (hb1.mono HB.out.size)); have HCT2 := Lib.hid (Kd.C_below HCT.out hb1); clear hb1)
        | (go_at_call 9; refine (awake_raw _).mono ?_; rintro e w3 ⟨rfl, hb1⟩; have HB3 := Lib.hid (HB2.out.trans (hb1.mono HB2.out.size)); have HCT3 := Lib.hid (Kd.C_below HCT2.out hb1); clear hb1)
        | (go_at_call 17; refine (rroot_any 100 _ _ _ T r _ Ht.out HCT3.out Hc2.out HRF.out).mono ?_; rintro e w4 ⟨rfl, hb1⟩; have HB4 := Lib.hid (HB3.out.trans (hb1.mono HB3.out.size)); clear hb1))
      go_ret
      exact ⟨rfl, HB4.out⟩
/-- The law, whatever comes in. -/
theorem roots_law (k : Nat) (A : Option Addr) (c : Nat) (l : List ByteArray) (n : Int) (r : Bool) (w : World) (hC : Kd.C Kd.string w A l.length l) (hc : l.length ≤ c) (hr : r = true) :
    Calls Try.prog 4 #[.slice A l.length c, .int .i64 n] w fun e w' => e = .returned (.bool r) ∧ Below w.heap.size w w' := by
  subst hr
  exact roots_walk A c l n w hC hc
end Go.Proofs.Ytnipbdlljfifhaa.T
