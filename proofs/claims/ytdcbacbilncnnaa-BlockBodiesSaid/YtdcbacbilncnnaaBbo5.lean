/- Part 5 of what the proof of BlockBodies stands on. -/
import Derived.RangeFuncBox
import Derived.RangeFuncLeaves
import Derived.Shelf.Abstract
import Derived.WalkKit
import Derived.OwnWalkIn
import Derived.TacticsInMore
import Derived.LoopNIn
import Derived.LoopIn
import Derived.Lib.Hide
import Derived.Test.YtdcbacbilncnnaaProg
import Derived.RangeFuncCalls
import Derived.RangeFuncBound
import Derived.RangeFuncNested
import Derived.Test.YtdcbacbilncnnaaBbo4
section
/- The tree of digests: Add. -/
set_option linter.unusedVariables false
set_option linter.unusedSimpArgs false
namespace Go.Proofs.Ytdcbacbilncnnaa.T
open Go.RowKit Go.Proofs.Ytdcbacbilncnnaa.PMk Go.Proofs.YtdcbacbilncnnaaW.PrintWords Go.Proofs.YtdcbacbilncnnaaW.PrintLast
theorem and1 (n : Int) : Go.bits .and .i64 n 1 = n % 2 := by
  have h127 : (BitVec.ofInt 64 1).toNat = 2 ^ 1 - 1 := by decide
  have key : (BitVec.ofInt 64 n &&& BitVec.ofInt 64 1).toNat = (n % ((2 ^ 64 : Nat) : Int)).toNat % 2 ^ 1 := by
    rw [BitVec.toNat_and, BitVec.toNat_ofInt, h127, Nat.and_two_pow_sub_one_eq_mod]
  show IntKind.i64.wrap ((BitVec.ofInt 64 n &&& BitVec.ofInt 64 1).toNat : Nat) = n % 2
  rw [key, IntKind.wrap_i64]
  omega
theorem car_even {kk m : Nat} {P Q : List ByteArray} (h : car kk P m = some Q) (hev : m % 2 = 0) :
    ∃ k q t, kk = k + 1 ∧ P.length = q + 2 ∧ hash_Node.f (P.getD q ByteArray.empty) (P.getD (q + 1) ByteArray.empty) = some t ∧ car k (P.take q ++ [t]) (m / 2) = some Q := by
  cases kk with
  | zero => simp [car] at h
  | succ k =>
    rw [car, if_pos hev] at h
    split at h
    · next h2 =>
      obtain ⟨t, ht, hc⟩ := Option.bind_eq_some_iff.mp h
      refine ⟨k, P.length - 2, t, rfl, by omega, ht ▸ ?_, hc⟩
      congr 2; omega
    · exact absurd h (by simp)
theorem car_odd {kk m : Nat} {P Q : List ByteArray} (h : car kk P m = some Q) (hev : ¬ m % 2 = 0) : P = Q := by
  cases kk with
  | zero => simp [car] at h
  | succ k =>
    rw [car, if_neg hev] at h
    exact Option.some.inj h
theorem w64 (q : Nat) (h : q < 1000002) : wrap64 (q : Int) = (q : Int) ∧ wrap64 ((q : Int) + 2 - 1) = (q : Int) + 1 := ⟨by unfold wrap64; omega, by unfold wrap64; omega⟩
set_option maxRecDepth 100000 in
theorem add_raw (s h : ByteArray) (hleaf : hash_Leaf.f s = some h) (w : World) (base g : Nat) (vl vp : Value) (L P Q : List ByteArray) (hA : At w base g vl vp L P) (hn : L.length + 1 < 1000000) (hp : P.length < 1000000)
    (kc : Nat) (hc : car kc (P ++ [h]) (L.length + 1) = some Q) :
    Calls Try.prog 56 #[.pointer (some ⟨g, 0, none⟩), .string s] w fun e w' => e = .returned (.string h) ∧ ∃ vl' vp', At w' base g vl' vp' (L ++ [h]) Q ∧ Step w w' g vl vp vl' vp' := by
  have HA := Lib.hid hA
  have HL := Lib.hid hleaf
  have HC := Lib.hid hc
  obtain ⟨i0, hi, hz0, hz1, hz2⟩ := info_parts info9
  clear hA hleaf hc
  go_enter Try.func56, Try.ntmps56
  go_wp2_with (first
    | (go_at_call 20; refine (hash_Leaf.calls s h _ HL.out).mono ?_; rintro e w1 ⟨rfl, hb1⟩; have HA1 := Lib.hid (HA.out.below hb1); have HS1 := Lib.hid (Step.of_below (g := g) (vl := vl) (vp := vp) hb1); clear hb1; have c0 := HA1.out.c0; have hbs := HA1.out.base)
    | (at_builtin; refine wpList_append_lies _ rfl (.tmp 16) (.tmp 18) 51 rfl base 9 i0 (.string ⟨#[]⟩) 1 16 Try.underlying51 hi hz0 hz1 hz2 rfl (by decide) vl _ _ (by rfl) (HA1.out.rl.alloc _) ⟨w1.heap.size, 0, none⟩ 1 1 [.string h] (by rfl) rfl (World.news_of_block (heap_alloc_new w1 _)) (by intro u hu; simp at hu; subst hu; rfl) (by decide) (by unfold maxLen; omega) (by omega) (by simp; omega) (w1.heap.size + 1) (by simp) ?_))
  intro g1 cap1 w2 hown1 hgrow1 hat1 hlt1
  have HA2 := Lib.hid (HA1.out.leaf hown1 hgrow1 hat1)
  have HS2 := Lib.hid (HS1.out.trans (HA1.out.leaf_step (.slice (some ⟨g1, 0, none⟩) (L.length + 1) cap1) (cap1 := cap1) hgrow1 hat1))
  have b2 := cell53 (HA1.out.far (.inl hgrow1))
  have b20 := b2.1
  have b2f := b2.2.2.1
  clear b2 hown1 hgrow1 hat1 hlt1 c0 hbs
  have c1 := HA2.out.c1
  have hbs := HA2.out.base
  go_wp2_with (at_builtin; refine wpList_append_lies _ rfl (.tmp 26) (.tmp 28) 51 rfl base 9 i0 (.string ⟨#[]⟩) 1 16 Try.underlying51 hi hz0 hz1 hz2 rfl (by decide) vp _ _ (by rfl) (HA2.out.rp.alloc _) ⟨w2.heap.size, 0, none⟩ 1 1 [.string h] (by rfl) rfl (World.news_of_block (w := (w2.setCell _ _).alloc _) (by simpa using heap_alloc_new (w2.setCell ⟨g, 0, none⟩ (.slice (some ⟨g1, 0, none⟩) (L.length + 1) cap1)) (.cells #[.string h] 9))) (by intro u hu; simp at hu; subst hu; rfl) (by decide) (by unfold maxLen; omega) (by omega) (by simp; simpa using Nat.le_succ_of_le hbs) (w2.heap.size + 1) (by simp) ?_)
  intro g2 cap2 w3 hown2 hgrow2 hat2 hlt2
  have HA3 := Lib.hid (HA2.out.peak (Q := P ++ [h]) (n := P.length + 1) (by simp) (by rw [← strs_app]; exact hown2) hgrow2 (hat2.imp id (fun e => by simpa using e)))
  have HS3 := Lib.hid (HS2.out.trans (HA2.out.peak_step (n := P.length + 1) (cap1 := cap2) (.slice (some ⟨g2, 0, none⟩) (P.length + 1) cap2) hgrow2 (hat2.imp id (fun e => by simpa using e))))
  have b2 := cell53 (HA2.out.far (.inr hgrow2))
  have b31 := b2.2.1
  have b3f := b2.2.2.2
  clear b2 hown2 hgrow2 hat2 hlt2 c1 hbs b20 b2f HA2 HS2 HA1 HS1
  have c0 := HA3.out.c0
  go_wp2_with fail
  go_loopw [6] (fun v wr => ∃ (m kk : Nat) (Pk : List ByteArray) (vq : Value), 1 ≤ m ∧ m ≤ 1000000 ∧ Pk.length ≤ 1000000 ∧ v = .int .i64 m ∧ Hid (car kk Pk m = some Q) ∧ Hid (At wr base g (.slice (some ⟨g1, 0, none⟩) (L.length + 1) cap1) vq (L ++ [h]) Pk) ∧ Hid (Step w wr g vl vp (.slice (some ⟨g1, 0, none⟩) (L.length + 1) cap1) vq)) (fun v _ => (intOf v).toNat)
  case atStart => exact ⟨L.length + 1, kc, P ++ [h], .slice (some ⟨g2, 0, none⟩) (P.length + 1) cap2, by omega, by omega, by simp; omega, rfl, HC, HA3, HS3⟩
  case round =>
    obtain ⟨m, kk, Pk, vq, hm1, hm2, hpk, rfl, HC1, HA4, HS4⟩ := hrel
    by_cases hev : m % 2 = 0
    · have e1 : Go.bits .and .i64 (m : Int) 1 = 0 := by rw [and1]; omega
      obtain ⟨k, q, t, rfl, hq, ht, hcar⟩ := car_even HC1.out hev
      obtain ⟨gp, cq, rfl, hgb, hgl⟩ := World.ownsRow.form HA4.out.rp (by omega)
      rw [hq] at HA4 HS4
      have c1 := HA4.out.c1
      have x0 : wr.cell? ⟨gp, q, none⟩ = _ := own_str (by have := HA4.out.rp; rw [hq] at this; exact this) (by omega)
      have x1 : wr.cell? ⟨gp, q + 1, none⟩ = _ := own_str (by have := HA4.out.rp; rw [hq] at this; exact this) (by omega)
      obtain ⟨x, hx⟩ : ∃ x, Pk.getD q ByteArray.empty = x := ⟨_, rfl⟩
      obtain ⟨y, hy⟩ : ∃ y, Pk.getD (q + 1) ByteArray.empty = y := ⟨_, rfl⟩
      rw [hx] at x0 ht
      rw [hy] at x1 ht
      have hx := Lib.hid hx
      have hy := Lib.hid hy
      have hcar := Lib.hid hcar
      have ht := Lib.hid ht
      clear HC1 HA HC HA3 HS3 b31 b3f c0
      go_wp2_with fail
      have hqc : q + 2 ≤ cq := own_cap HA4.out.rp hq
      have hq0 : (0 : Int) ≤ (q : Int) := by omega
      have hq1 : (q : Int) ≤ (cq : Int) := by omega
      have hq2 : (q : Int) < (q : Int) + 2 := by omega
      have hq3 : (0 : Int) ≤ (q : Int) + 1 := by omega
      have hq4 : (q : Int) + 1 < (q : Int) + 2 := by omega
      have tq1 : ((q : Int) + 1).toNat = q + 1 := by omega
      have hqs : q < 1000002 := by omega
      obtain ⟨wq, wq1⟩ := w64 q hqs
      refine start_ (n := 30) (S := fun w' => w'.cell? ⟨g, 1, none⟩ = some (.slice (some ⟨gp, 0, none⟩) (q + 2) cq) ∧ w'.cell? ⟨gp, q, none⟩ = some (.string x) ∧ w'.cell? ⟨gp, q + 1, none⟩ = some (.string y)) (ds := [26, 29]) #[false, false, false, false, false, false, false, false, false, false, false, false, false, false, false, false, false, false, false, false, false, false, false, false, false, false, false, false, false, false] (by kernel_rfl) rfl rfl ⟨c1, x0, x1⟩ (fun hHeld => ?_)
      refine pure_ (i := 0) (N := some 47) (v := ?_) (a' := ?_) #[true, false, false, false, false, false, false, false, false, false, false, false, false, false, false, false, false, false, false, false, false, false, false, false, false, false, false, false, false, false] rfl rfl (by kernel_rfl) (fun _ _ _ h => h) (Or.inl ⟨by rfl, ?_⟩) ?_ ?_
      rotate_left
      · intro w'
        go_simp
        with_reducible rfl
      rotate_left
      · simp only [Act.put, List.setIfInBounds_toArray, List.set_cons_zero, List.set_cons_succ, i64_w, i32_w]
        rfl
      refine pure_ (i := 1) (N := some 48) (v := ?_) (a' := ?_) #[true, true, false, false, false, false, false, false, false, false, false, false, false, false, false, false, false, false, false, false, false, false, false, false, false, false, false, false, false, false] rfl rfl (by kernel_rfl) (fun _ _ _ h => h) (Or.inl ⟨by rfl, ?_⟩) ?_ ?_
      rotate_left
      · intro w'
        go_simp
        with_reducible rfl
      rotate_left
      · simp only [Act.put, List.setIfInBounds_toArray, List.set_cons_zero, List.set_cons_succ, i64_w, i32_w]
        rfl
      refine pure_ (i := 2) (N := some 49) (v := ?_) (a' := ?_) #[true, true, true, false, false, false, false, false, false, false, false, false, false, false, false, false, false, false, false, false, false, false, false, false, false, false, false, false, false, false] rfl rfl (by kernel_rfl) (fun _ _ _ h => h) (Or.inl ⟨by rfl, ?_⟩) ?_ ?_
      rotate_left
      · intro w'
        go_simp
        with_reducible rfl
      rotate_left
      · simp only [Act.put, List.setIfInBounds_toArray, List.set_cons_zero, List.set_cons_succ, i64_w, i32_w]
        rfl
      refine pure_ (i := 3) (N := some 50) (v := ?_) (a' := ?_) #[true, true, true, true, false, false, false, false, false, false, false, false, false, false, false, false, false, false, false, false, false, false, false, false, false, false, false, false, false, false] rfl rfl (by kernel_rfl) (fun _ _ _ h => h) (Or.inl ⟨by rfl, ?_⟩) ?_ ?_
      rotate_left
      · intro w'
        go_simp
        with_reducible rfl
      rotate_left
      · simp only [Act.put, List.setIfInBounds_toArray, List.set_cons_zero, List.set_cons_succ, i64_w, i32_w]
        rfl
      refine pure_ (i := 5) (N := some 52) (v := ?_) (a' := ?_) #[true, true, true, true, false, true, false, false, false, false, false, false, false, false, false, false, false, false, false, false, false, false, false, false, false, false, false, false, false, false] rfl rfl (by kernel_rfl) (fun _ _ _ h => h) (Or.inl ⟨by rfl, ?_⟩) ?_ ?_
      rotate_left
      · intro w'
        go_simp
        with_reducible rfl
      rotate_left
      · simp only [Act.put, List.setIfInBounds_toArray, List.set_cons_zero, List.set_cons_succ, i64_w, i32_w]
        rfl
      refine pure_ (i := 6) (N := some 53) (v := ?_) (a' := ?_) #[true, true, true, true, false, true, true, false, false, false, false, false, false, false, false, false, false, false, false, false, false, false, false, false, false, false, false, false, false, false] rfl rfl (by kernel_rfl) (fun _ _ _ h => h) (Or.inl ⟨by rfl, ?_⟩) ?_ ?_
      rotate_left
      · intro w'
        go_simp
        with_reducible rfl
      rotate_left
      · simp only [Act.put, List.setIfInBounds_toArray, List.set_cons_zero, List.set_cons_succ, i64_w, i32_w]
        rfl
      refine pure_ (i := 8) (N := some 55) (v := ?_) (a' := ?_) #[true, true, true, true, false, true, true, false, true, false, false, false, false, false, false, false, false, false, false, false, false, false, false, false, false, false, false, false, false, false] rfl rfl (by kernel_rfl) (fun _ _ _ h => h) (Or.inl ⟨by rfl, ?_⟩) ?_ ?_
      rotate_left
      · intro w'
        go_simp
        with_reducible rfl
      rotate_left
      · simp only [Act.put, List.setIfInBounds_toArray, List.set_cons_zero, List.set_cons_succ, i64_w, i32_w]
        rfl
      refine pure_ (i := 9) (N := some 56) (v := ?_) (a' := ?_) #[true, true, true, true, false, true, true, false, true, true, false, false, false, false, false, false, false, false, false, false, false, false, false, false, false, false, false, false, false, false] rfl rfl (by kernel_rfl) (fun _ _ _ h => h) (Or.inl ⟨by rfl, ?_⟩) ?_ ?_
      rotate_left
      · intro w'
        go_simp
        with_reducible rfl
      rotate_left
      · simp only [Act.put, List.setIfInBounds_toArray, List.set_cons_zero, List.set_cons_succ, i64_w, i32_w]
        rfl
      refine pure_ (i := 10) (N := some 57) (v := ?_) (a' := ?_) #[true, true, true, true, false, true, true, false, true, true, true, false, false, false, false, false, false, false, false, false, false, false, false, false, false, false, false, false, false, false] rfl rfl (by kernel_rfl) (fun _ _ _ h => h) (Or.inl ⟨by rfl, ?_⟩) ?_ ?_
      rotate_left
      · intro w'
        go_simp
        with_reducible rfl
      rotate_left
      · simp only [Act.put, List.setIfInBounds_toArray, List.set_cons_zero, List.set_cons_succ, i64_w, i32_w]
        rfl
      refine pure_ (i := 12) (N := some 59) (v := ?_) (a' := ?_) #[true, true, true, true, false, true, true, false, true, true, true, false, true, false, false, false, false, false, false, false, false, false, false, false, false, false, false, false, false, false] rfl rfl (by kernel_rfl) (fun _ _ _ h => h) (Or.inl ⟨by rfl, ?_⟩) ?_ ?_
      rotate_left
      · intro w'
        go_simp
        with_reducible rfl
      rotate_left
      · simp only [Act.put, List.setIfInBounds_toArray, List.set_cons_zero, List.set_cons_succ, i64_w, i32_w]
        rfl
      refine pure_ (i := 13) (N := some 60) (v := ?_) (a' := ?_) #[true, true, true, true, false, true, true, false, true, true, true, false, true, true, false, false, false, false, false, false, false, false, false, false, false, false, false, false, false, false] rfl rfl (by kernel_rfl) (fun _ _ _ h => h) (Or.inl ⟨by rfl, ?_⟩) ?_ ?_
      rotate_left
      · intro w'
        go_simp
        with_reducible rfl
      rotate_left
      · simp only [Act.put, List.setIfInBounds_toArray, List.set_cons_zero, List.set_cons_succ, i64_w, i32_w]
        rfl
      refine pure_ (i := 16) (N := some 63) (v := ?_) (a' := ?_) #[true, true, true, true, false, true, true, false, true, true, true, false, true, true, false, false, true, false, false, false, false, false, false, false, false, false, false, false, false, false] rfl rfl (by kernel_rfl) (fun _ _ _ h => h) (Or.inl ⟨by rfl, ?_⟩) ?_ ?_
      rotate_left
      · intro w'
        go_simp
        with_reducible rfl
      rotate_left
      · simp only [Act.put, List.setIfInBounds_toArray, List.set_cons_zero, List.set_cons_succ, i64_w, i32_w]
        rfl
      refine pure_ (i := 17) (N := some 64) (v := ?_) (a' := ?_) #[true, true, true, true, false, true, true, false, true, true, true, false, true, true, false, false, true, true, false, false, false, false, false, false, false, false, false, false, false, false] rfl rfl (by kernel_rfl) (fun _ _ _ h => h) (Or.inl ⟨by rfl, ?_⟩) ?_ ?_
      rotate_left
      · intro w'
        go_simp
        with_reducible rfl
      rotate_left
      · simp only [Act.put, List.setIfInBounds_toArray, List.set_cons_zero, List.set_cons_succ, i64_w, i32_w]
        rfl
      refine pure_ (i := 18) (N := some 65) (v := ?_) (a' := ?_) #[true, true, true, true, false, true, true, false, true, true, true, false, true, true, false, false, true, true, true, false, false, false, false, false, false, false, false, false, false, false] rfl rfl (by kernel_rfl) (fun _ _ _ h => h) (Or.inl ⟨by rfl, ?_⟩) ?_ ?_
      rotate_left
      · intro w'
        go_simp
        with_reducible rfl
      rotate_left
      · simp only [Act.put, List.setIfInBounds_toArray, List.set_cons_zero, List.set_cons_succ, i64_w, i32_w]
        rfl
      refine pure_ (i := 20) (N := some 67) (v := ?_) (a' := ?_) #[true, true, true, true, false, true, true, false, true, true, true, false, true, true, false, false, true, true, true, false, true, false, false, false, false, false, false, false, false, false] rfl rfl (by kernel_rfl) (fun _ _ _ h => h) (Or.inl ⟨by rfl, ?_⟩) ?_ ?_
      rotate_left
      · intro w'
        go_simp
        with_reducible rfl
      rotate_left
      · simp only [Act.put, List.setIfInBounds_toArray, List.set_cons_zero, List.set_cons_succ, i64_w, i32_w]
        rfl
      refine pure_ (i := 21) (N := some 68) (v := ?_) (a' := ?_) #[true, true, true, true, false, true, true, false, true, true, true, false, true, true, false, false, true, true, true, false, true, true, false, false, false, false, false, false, false, false] rfl rfl (by kernel_rfl) (fun _ _ _ h => h) (Or.inl ⟨by rfl, ?_⟩) ?_ ?_
      rotate_left
      · intro w'
        go_simp
        with_reducible rfl
      rotate_left
      · simp only [Act.put, List.setIfInBounds_toArray, List.set_cons_zero, List.set_cons_succ, i64_w, i32_w]
        rfl
      refine take_ (i := 4) (N := some 51) (v := ?_) (a' := ?_) #[true, true, true, true, true, true, true, false, true, true, true, false, true, true, false, false, true, true, true, false, true, true, false, false, false, false, false, false, false, false] rfl rfl (by kernel_rfl) (fun _ _ _ h => h) (Or.inl ⟨by rfl, ?_⟩) hHeld ?_ ?_
      rotate_left
      · rintro w' ⟨s0, s1, s2⟩
        go_simp
        with_reducible rfl
      rotate_left
      · simp only [Act.put, List.setIfInBounds_toArray, List.set_cons_zero, List.set_cons_succ, i64_w, i32_w]
        rfl
      refine pure_ (i := 7) (N := some 54) (v := ?_) (a' := ?_) #[true, true, true, true, true, true, true, true, true, true, true, false, true, true, false, false, true, true, true, false, true, true, false, false, false, false, false, false, false, false] rfl rfl (by kernel_rfl) (fun _ _ _ h => h) (Or.inl ⟨by rfl, ?_⟩) ?_ ?_
      rotate_left
      · intro w'
        go_simp
        with_reducible rfl
      rotate_left
      · simp only [Act.put, List.setIfInBounds_toArray, List.set_cons_zero, List.set_cons_succ, i64_w, i32_w]
        rfl
      refine take_ (i := 11) (N := some 58) (v := ?_) (a' := ?_) #[true, true, true, true, true, true, true, true, true, true, true, true, true, true, false, false, true, true, true, false, true, true, false, false, false, false, false, false, false, false] rfl rfl (by kernel_rfl) (fun _ _ _ h => h) (Or.inl ⟨by rfl, ?_⟩) hHeld ?_ ?_
      rotate_left
      · rintro w' ⟨s0, s1, s2⟩
        go_simp
        with_reducible rfl
      rotate_left
      · simp only [Act.put, List.setIfInBounds_toArray, List.set_cons_zero, List.set_cons_succ, i64_w, i32_w]
        rfl
      refine pure_ (i := 14) (N := some 61) (v := ?_) (a' := ?_) #[true, true, true, true, true, true, true, true, true, true, true, true, true, true, true, false, true, true, true, false, true, true, false, false, false, false, false, false, false, false] rfl rfl (by kernel_rfl) (fun _ _ _ h => h) (Or.inl ⟨by rfl, ?_⟩) ?_ ?_
      rotate_left
      · intro w'
        go_simp
        with_reducible rfl
      rotate_left
      · simp only [Act.put, List.setIfInBounds_toArray, List.set_cons_zero, List.set_cons_succ, i64_w, i32_w]
        rfl
      refine take_ (i := 15) (N := some 62) (v := ?_) (a' := ?_) #[true, true, true, true, true, true, true, true, true, true, true, true, true, true, true, true, true, true, true, false, true, true, false, false, false, false, false, false, false, false] rfl rfl (by kernel_rfl) (fun _ _ _ h => h) (Or.inl ⟨by rfl, ?_⟩) hHeld ?_ ?_
      rotate_left
      · rintro w' ⟨s0, s1, s2⟩
        go_simp
        with_reducible rfl
      rotate_left
      · simp only [Act.put, List.setIfInBounds_toArray, List.set_cons_zero, List.set_cons_succ, i64_w, i32_w]
        rfl
      refine take_ (i := 19) (N := some 66) (v := ?_) (a' := ?_) #[true, true, true, true, true, true, true, true, true, true, true, true, true, true, true, true, true, true, true, true, true, true, false, false, false, false, false, false, false, false] rfl rfl (by kernel_rfl) (fun _ _ _ h => h) (Or.inl ⟨by rfl, ?_⟩) hHeld ?_ ?_
      rotate_left
      · rintro w' ⟨s0, s1, s2⟩
        go_simp
        with_reducible rfl
      rotate_left
      · simp only [Act.put, List.setIfInBounds_toArray, List.set_cons_zero, List.set_cons_succ, i64_w, i32_w]
        rfl
      refine pure_ (i := 22) (N := some 69) (v := ?_) (a' := ?_) #[true, true, true, true, true, true, true, true, true, true, true, true, true, true, true, true, true, true, true, true, true, true, true, false, false, false, false, false, false, false] rfl rfl (by kernel_rfl) (fun _ _ _ h => h) (Or.inl ⟨by rfl, ?_⟩) ?_ ?_
      rotate_left
      · intro w'
        go_simp
        with_reducible rfl
      rotate_left
      · simp only [Act.put, List.setIfInBounds_toArray, List.set_cons_zero, List.set_cons_succ, i64_w, i32_w]
        rfl
      refine take_ (i := 23) (N := some 70) (v := ?_) (a' := ?_) #[true, true, true, true, true, true, true, true, true, true, true, true, true, true, true, true, true, true, true, true, true, true, true, true, false, false, false, false, false, false] rfl rfl (by kernel_rfl) (fun _ _ _ h => h) (Or.inl ⟨by rfl, ?_⟩) hHeld ?_ ?_
      rotate_left
      · rintro w' ⟨s0, s1, s2⟩
        go_simp
        with_reducible rfl
      rotate_left
      · simp only [Act.put, List.setIfInBounds_toArray, List.set_cons_zero, List.set_cons_succ, i64_w, i32_w]
        rfl
      refine one_ (i := 24) (N := some 71) #[true, true, true, true, true, true, true, true, true, true, true, true, true, true, true, true, true, true, true, true, true, true, true, true, true, false, false, false, false, false] rfl rfl (by kernel_rfl) (by decide) (fun K hK => ?_)
      refine goes_ Try.func80 (by kernel_rfl) rfl #[.string x, .string y] (by rfl) rfl rfl (by simp only [List.map_toArray, List.map_cons, List.map_nil]; rfl) ?_
      with_reducible refine (hash_Node.calls _ _ t _ ht.out).mono ?_
      rintro e w4 ⟨rfl, hb4⟩
      refine ⟨_, rfl, ?_⟩
      clear wq wq1
      have HA5 := Lib.hid (HA4.out.below (below_drew hb4))
      have HS5 := Lib.hid (HS4.out.trans (Step.of_below (g := g) (vl := .slice (some ⟨g1, 0, none⟩) (L.length + 1) cap1) (vp := .slice (some ⟨gp, 0, none⟩) (q + 2) cq) (below_drew hb4)))
      clear hb4
      have hlen : w4.heap.size = w4.heap.size := rfl
      refine hK.out _ _ ⟨HA5.out.c1, hx.out ▸ own_str' HA5.out.rp hq (by omega), hy.out ▸ own_str' HA5.out.rp hq (by omega)⟩ (fun hHeld => ?_)
      clear hK K
      refine norm_ (a' := ?_) ?_ ?_
      rotate_left
      · show Act.put _ (some 71) _ = _
        simp only [Act.put, List.setIfInBounds_toArray, List.set_cons_zero, List.set_cons_succ, i64_w, i32_w]
        rfl
      refine one_ (i := 25) (N := some 72) #[true, true, true, true, true, true, true, true, true, true, true, true, true, true, true, true, true, true, true, true, true, true, true, true, true, true, false, false, false, false] rfl rfl (by kernel_rfl) (by decide) (fun K hK => ?_)
      refine value_ (w1 := ?_) (v := ?_) (by rfl) rfl ?_ ?_
      rotate_left 2
      · go_simp
        constructor
        · rfl
        · rfl
      have HA6 := Lib.hid (HA5.out.below ((Below.refl _ w4).alloc (Nat.le_refl _) (.cells #[.string t] 9)))
      refine hK.out _ _ ⟨HA6.out.c1, hx.out ▸ own_str' HA6.out.rp hq (by omega), hy.out ▸ own_str' HA6.out.rp hq (by omega)⟩ (fun hHeld => ?_)
      clear hK K
      refine norm_ (a' := ?_) ?_ ?_
      rotate_left
      · show Act.put _ (some 72) _ = _
        simp only [Act.put, List.setIfInBounds_toArray, List.set_cons_zero, List.set_cons_succ, i64_w, i32_w]
        rfl
      refine last_ (i := 26) (N := some 73) #[true, true, true, true, true, true, true, true, true, true, true, true, true, true, true, true, true, true, true, true, true, true, true, true, true, true, true, false, false, false] rfl rfl (by kernel_rfl) (by decide) (fun K hK => ?_)
      refine step_append_lies _ rfl (.tmp 54) (.tmp 72) 51 rfl base 9 i0 (.string ⟨#[]⟩) 1 16 Try.underlying51 hi hz0 hz1 hz2 rfl (by decide) (.slice (some ⟨gp, 0, none⟩) q cq) q (pw_strs (Pk.take q)) (by rfl) (own_take HA6.out.rp hq (by omega)) ⟨w4.heap.size, 0, none⟩ 1 1 [.string t] (by rfl) rfl (World.news_of_block (heap_alloc_new w4 _)) (by intro u hu; simp at hu; subst hu; rfl) (by decide) (by unfold maxLen; omega) (by omega) HA6.out.base (w4.heap.size + 1) (by simp) ?_
      intro g3 cap3 w5 hown3 hgrow3 hat3 hlt3
      have b2 := cell53 (HA5.out.far (.inr hgrow3))
      have b51 := b2.2.1
      have b5f := b2.2.2.2
      clear b2
      refine hK.out _ _ ?_
      clear hK K
      refine norm_ (a' := ?_) ?_ ?_
      rotate_left
      · show Act.put _ (some 73) _ = _
        simp only [Act.put, List.setIfInBounds_toArray, List.set_cons_zero, List.set_cons_succ, i64_w, i32_w]
        rfl
      refine pure_ (i := 27) (N := some 74) (v := ?_) (a' := ?_) #[true, true, true, true, true, true, true, true, true, true, true, true, true, true, true, true, true, true, true, true, true, true, true, true, true, true, true, true, false, false] rfl rfl (by kernel_rfl) (fun _ _ _ h => h) (Or.inl ⟨by rfl, ?_⟩) ?_ ?_
      rotate_left
      · intro w'
        go_simp
        with_reducible rfl
      rotate_left
      · simp only [Act.put, List.setIfInBounds_toArray, List.set_cons_zero, List.set_cons_succ, i64_w, i32_w]
        rfl
      refine pure_ (i := 28) (N := some 75) (v := ?_) (a' := ?_) #[true, true, true, true, true, true, true, true, true, true, true, true, true, true, true, true, true, true, true, true, true, true, true, true, true, true, true, true, true, false] rfl rfl (by kernel_rfl) (fun _ _ _ h => h) (Or.inl ⟨by rfl, ?_⟩) ?_ ?_
      rotate_left
      · intro w'
        go_simp
        with_reducible rfl
      rotate_left
      · simp only [Act.put, List.setIfInBounds_toArray, List.set_cons_zero, List.set_cons_succ, i64_w, i32_w]
        rfl
      refine last_ (i := 29) (N := none) #[true, true, true, true, true, true, true, true, true, true, true, true, true, true, true, true, true, true, true, true, true, true, true, true, true, true, true, true, true, true] rfl rfl (by kernel_rfl) (by decide) (fun K hK => ?_)
      refine skip_ (w1 := ?_) (by rfl) rfl ?_ ?_
      rotate_left
      · go_simp
        rfl
      refine hK.out _ _ ?_
      clear hK K
      refine done_ (by kernel_rfl) ?_
      have HA7 := Lib.hid (HA5.out.peak (Q := Pk.take q ++ [t]) (n := q + 1) (by simp; omega) (by rw [← strs_app]; exact hown3) hgrow3 hat3)
      have HS7 := Lib.hid (HS5.out.trans (HA5.out.peak_step (n := q + 1) (cap1 := cap3) (.slice (some ⟨g3, 0, none⟩) (q + 1) cap3) hgrow3 hat3))
      clear hown3 hgrow3 hat3 hlt3 HA6 HS5 HA5 hHeld HA4 HS4
      go_wp2_with fail
      go_roundw
      case rel => exact ⟨m / 2, k, Pk.take q ++ [t], _, by omega, by omega, by simp; omega, by go_num, hcar, HA7, HS7⟩
      case measure => simp [intOf]; omega
    · have HC2 := car_odd HC1.out hev
      have e1 : Go.bits .and .i64 (m : Int) 1 = 1 := by rw [and1]; omega
      go_wp2_with fail
      go_ret
      subst HC2
      exact ⟨rfl, _, _, HA4.out, HS4.out⟩
end Go.Proofs.Ytdcbacbilncnnaa.T
end
section
/- slices.Backward at a slice of strings: what its closure hands to the loop's body. After the kit's text on slices.All. -/
namespace Go.Proofs.Ytdcbacbilncnnaa.Bk
open Go.RowKit Go.Shelf
attribute [local go_sem] Oper.semAt_some
def upto {α : Type} (f : Nat → α) (k : Nat) : List α := (List.range k).map f
theorem upto_succ {α : Type} (f : Nat → α) (k : Nat) : upto f (k + 1) = upto f k ++ [f k] := by simp [upto, List.range_succ]
theorem upto_length {α : Type} (f : Nat → α) (k : Nat) : (upto f k).length = k := by simp [upto]
/-- f k is what the k-th round is handed: the k-th from the end. -/
def Hands {α : Type} (enc : α → Array Value) (f : Nat → α) (zs : List ByteArray) : Prop :=
  ∀ k, k < zs.length → enc (f k) = #[Value.int .i64 ((zs.length - 1 - k : Nat) : Int), Value.string (zs.getD (zs.length - 1 - k) ByteArray.empty)]
set_option maxRecDepth 100000 in
set_option maxHeartbeats 2000000 in
theorem back1_in {α : Type} (enc : α → Array Value) (f : Nat → α) (F : Fence) (n : Nat) (h8 : F.fn 95) (hro : F.round = none) (hn : 1 ≤ n) (l Bs n₀ b off cap : Nat) (zs : List ByteArray) (hf : Hands enc f zs) (hreach : zs.length < 1000000) (hb : b < n₀) (Kp : World → World → Prop) (hK1 : ∀ A B, Kp A B → Below n₀ A B) (hK2 : ∀ A B, Kp A B → B.cell? ⟨Bs, 0, none⟩ = A.cell? ⟨Bs, 0, none⟩) (J Jx : List α → World → Prop)
    (hY : ∀ pre x W, J pre W → pre.length < zs.length → YieldAt F (n - 1) Try.prog l (enc x) W fun e W' =>
      (e = .returned (.bool true) ∧ J (pre ++ [x]) W' ∧ Kp W W') ∨ (e = .returned (.bool false) ∧ Jx (pre ++ [x]) W'))
    (W : World) (hBs : W.cell? ⟨Bs, 0, none⟩ = some (.slice (some ⟨b, off, none⟩) zs.length cap)) (hc : ∀ j, j < zs.length → W.cell? ⟨b, off + j, none⟩ = some (.string (zs.getD j ByteArray.empty))) (h0 : J [] W) :
    CallsIn F n Try.prog 95 #[.func (.yield l) #[] #[], .pointer (some ⟨Bs, 0, none⟩)] W fun e W' => (∃ v, e = .returned v) ∧
      ((∃ ys, ys = upto f zs.length ∧ J ys W') ∨ (∃ pre, (∃ k, k ≤ zs.length ∧ pre = upto f k) ∧ Jx pre W')) := by
  obtain ⟨len, hlen⟩ : ∃ len, zs.length = len := ⟨_, rfl⟩
  rw [hlen] at hBs hreach
  refine callsIn_of_wp Try.func95 rfl h8 ?_ hro
  simp only [Try.ntmps95, List.size_toArray, List.length_cons, List.length_nil, Nat.reduceAdd, Nat.reduceSub, Array.replicate_succ, Array.replicate_zero, List.push_toArray, List.append_toArray, List.nil_append, List.cons_append]
  have hwl : IntKind.i64.wrap ((len : Int) - 1) = (len : Int) - 1 := by simp [IntKind.wrap, IntKind.bits, IntKind.signed]; omega
  gi_wp2
  gi_loopw [3] (fun i wr => ∃ k : Nat, k ≤ len ∧ i = .int .i64 ((len : Int) - 1 - k) ∧ J (upto f k) wr ∧ Below n₀ W wr ∧ wr.cell? ⟨Bs, 0, none⟩ = some (.slice (some ⟨b, off, none⟩) len cap))
    (fun i _ => (intOf i + 1).toNat)
  case atStart => exact ⟨0, Nat.zero_le _, by simp, h0, Below.refl _ _, hBs⟩
  case round =>
    obtain ⟨k, hk, rfl, hJs, hnx, hBs'⟩ := hrel
    by_cases hlt : k < len
    · obtain ⟨m, hm⟩ : ∃ m : Nat, (len : Int) - 1 - k = m := ⟨len - 1 - k, by omega⟩
      have hmk : m = len - 1 - k := by omega
      obtain ⟨x, hx⟩ : ∃ x, zs.getD m ByteArray.empty = x := ⟨_, rfl⟩
      have hcx : wr.cell? ⟨b, off + m, none⟩ = some (.string x) := (hnx.cell (p := ⟨b, off + m, none⟩) hb).trans (hx ▸ hc m (by omega))
      obtain ⟨fn, tmps, assign, body, hy, hR⟩ := hY _ (f k) wr hJs (by rw [upto_length]; omega)
      have he := hf k (by omega)
      rw [hlen, ← hmk, hx] at he
      rw [he] at hy
      clear he hf hY
      have hml : m < len := by omega
      rw [hm]
      have HM := Lib.hid hm
      have HK := Lib.hid hmk
      clear hm hmk
      gi_wp2
      refine hR.mono ?_
      rintro e W3 (⟨rfl, hJ3, hk3⟩ | ⟨rfl, hJx3⟩)
      · gi_wp2
        go_roundw
        case rel => exact ⟨k + 1, by omega, by have h1 := HM.out; go_num, by rw [upto_succ]; exact hJ3, hnx.trans (hK1 _ _ hk3), (hK2 _ _ hk3).trans hBs'⟩
        case measure => have h1 := HM.out; simp [intOf] <;> omega
      · gi_wp2
        refine bodyPost_ret (results_none rfl _ _ _) rfl ?_
        exact ⟨⟨_, rfl⟩, .inr ⟨_, ⟨k + 1, by omega, by rw [upto_succ]⟩, hJx3⟩⟩
    · obtain rfl : k = len := by omega
      have hneg : ((k : Int) - 1 - k) = -1 := by omega
      rw [hneg]
      gi_wp2
      go_end0
      exact ⟨⟨_, rfl⟩, .inl ⟨_, by rw [hlen], hJs⟩⟩
/-- The slice value sv holds the strings zs, in a block below n₀; or it is nil and there are none. -/
def Strs (n₀ : Nat) (W : World) (sv : Value) (zs : List ByteArray) : Prop :=
  (sv = .slice none 0 0 ∧ zs = []) ∨ ∃ b off cap, sv = .slice (some ⟨b, off, none⟩) zs.length cap ∧ b < n₀ ∧ ∀ j, j < zs.length → W.cell? ⟨b, off + j, none⟩ = some (.string (zs.getD j ByteArray.empty))
theorem Strs.below {n₀ : Nat} {A B : World} (h : Below n₀ A B) {sv : Value} {zs : List ByteArray} : Strs n₀ A sv zs → Strs n₀ B sv zs
  | .inl e => .inl e
  | .inr ⟨b, off, cap, e, hb, hc⟩ => .inr ⟨b, off, cap, e, hb, fun j hj => (h.cell (p := ⟨b, off + j, none⟩) hb).trans (hc j hj)⟩
set_option maxRecDepth 100000 in
set_option maxHeartbeats 1000000 in
theorem back1_nil_in {α : Type} (F : Fence) (n : Nat) (h8 : F.fn 95) (hro : F.round = none) (l Bs : Nat) (J : List α → World → Prop) (W : World) (hBs : W.cell? ⟨Bs, 0, none⟩ = some (.slice none 0 0)) (h0 : J [] W) :
    CallsIn F n Try.prog 95 #[.func (.yield l) #[] #[], .pointer (some ⟨Bs, 0, none⟩)] W fun e W' => (∃ v, e = .returned v) ∧ J [] W' := by
  refine callsIn_of_wp Try.func95 rfl h8 ?_ hro
  simp only [Try.ntmps95, List.size_toArray, List.length_cons, List.length_nil, Nat.reduceAdd, Nat.reduceSub, Array.replicate_succ, Array.replicate_zero, List.push_toArray, List.append_toArray, List.nil_append, List.cons_append]
  gi_wp2
  gi_loopw [3] (fun i wr => i = .int .i64 (-1) ∧ J [] wr) (fun _ _ => 0)
  case atStart => exact ⟨rfl, h0⟩
  case round =>
    obtain ⟨rfl, hJs⟩ := hrel
    gi_wp2
    go_end0
    exact ⟨⟨_, rfl⟩, hJs⟩
set_option maxHeartbeats 1000000 in
/-- slices.Backward(s): the slice value is boxed; the function value captures the box. -/
theorem backward_any (a : Option Addr) (len cap : Nat) (w : World) :
    Calls Try.prog 79 #[.slice a len cap] w fun e w' => e = .returned (.func (.func 95) #[] #[.pointer (some ⟨w.heap.size, 0, none⟩)]) ∧ w' = w.alloc (.cells #[.slice a len cap] 51) := by
  go_enter Try.func79, Try.ntmps79
  go_wp2
  go_ret
  exact ⟨rfl, rfl⟩
theorem back_stops {α : Type} (enc : α → Array Value) (f : Nat → α) (F : Fence) (n : Nat) (h8 : F.fn 95) (hro : F.round = none) (hn : 1 ≤ n) (Bs n₀ : Nat) (sv : Value) (zs : List ByteArray) (hf : Hands enc f zs) (hreach : zs.length < 1000000) (w : World) (hBs : Bs < w.heap.size) (hn₀ : n₀ ≤ w.heap.size) (Kp : World → World → Prop) (hK1 : ∀ A B, Kp A B → Below n₀ A B) (hK2 : ∀ A B, Kp A B → B.cell? ⟨Bs, 0, none⟩ = A.cell? ⟨Bs, 0, none⟩)
    (hc : w.cell? ⟨Bs, 0, none⟩ = some sv) (hI : Strs n₀ w sv zs) :
    SeqStopsK F n Try.prog 95 #[.pointer (some ⟨Bs, 0, none⟩)] enc Kp (fun ys => ys = upto f zs.length)
      (fun pre => ∃ k, k ≤ zs.length ∧ pre = upto f k) zs.length w := fun l J Jx W hW _ _ hY h0 => by
  have hc' := (hW.cell (p := ⟨Bs, 0, none⟩) hBs).trans hc
  rcases hI.below (hW.mono hn₀) with ⟨rfl, rfl⟩ | ⟨b, off, cap, rfl, hb, hcs⟩
  · exact (back1_nil_in F n h8 hro l Bs J W hc' h0).mono fun e W' ⟨he, hj⟩ => ⟨he, .inl ⟨_, rfl, hj⟩⟩
  · exact back1_in enc f F n h8 hro hn l Bs n₀ b off cap zs hf hreach hb Kp hK1 hK2 J Jx hY W hc' hcs h0
end Go.Proofs.Ytdcbacbilncnnaa.Bk
end
section
/- The tree of digests: Len, Root. -/
set_option linter.unusedVariables false
set_option linter.unusedSimpArgs false
namespace Go.Proofs.Ytdcbacbilncnnaa.T
open Go.RowKit Go.Shelf Go.Proofs.Ytdcbacbilncnnaa.PMk Go.Proofs.Ytdcbacbilncnnaa.Bk Go.Proofs.YtdcbacbilncnnaaW.PrintWords Go.Proofs.YtdcbacbilncnnaaW.PrintLast
theorem At.reads {w : World} {base g : Nat} {vl vp : Value} {L P : List ByteArray} (h : At w base g vl vp L P) : ∃ A c, vl = .slice A L.length c ∧ L.length ≤ c ∧ Kd.C Kd.string w A L.length L := by
  obtain ⟨A, c, hv, hr⟩ := own_reads_of (enc := Value.string) (d := ByteArray.empty) (by have := h.rl; exact this)
  refine ⟨A, c, hv, ?_, Kd.C_of_reads (h1 := fun _ => rfl) hr⟩
  rcases h.rl.2 with ⟨h1, h2⟩ | ⟨g', cap, cur, h1, _, _, h2, _⟩
  · omega
  · rw [hv] at h1
    simp only [Value.slice.injEq] at h1
    omega
theorem len_raw (w : World) (base g : Nat) (vl vp : Value) (L P : List ByteArray) (hA : At w base g vl vp L P) :
    Calls Try.prog 57 #[.pointer (some ⟨g, 0, none⟩)] w fun e w' => e = .returned (.int .i64 L.length) ∧ w' = w := by
  have c0 := hA.c0
  obtain ⟨A, c, hv, _, _⟩ := hA.reads
  subst hv
  clear hA
  go_enter Try.func57, Try.ntmps57
  go_wp2
  go_ret
  exact ⟨rfl, rfl⟩
/-- The peaks from the last but one down, each ahead of what has come. -/
abbrev D32 := { x : Nat × ByteArray // x.2.size = 32 }
def encD (x : D32) : Array Value := #[.int .i64 (x.1.1 : Int), .string x.1.2]
def climbUp : List D32 → ByteArray → Option ByteArray
  | [], h => some h
  | x :: xs, h => (hash_Node.f x.1.2 h).bind fun t => climbUp xs t
theorem climbUp_snoc (xs : List D32) (x : D32) (h : ByteArray) : climbUp (xs ++ [x]) h = (climbUp xs h).bind fun t => hash_Node.f x.1.2 t := by
  induction xs generalizing h with
  | nil =>
    simp only [List.nil_append, climbUp, Option.bind_some]
    cases hash_Node.f x.1.2 h <;> rfl
  | cons y ys ih =>
    simp only [List.cons_append, climbUp]
    cases hash_Node.f y.1.2 h with
    | none => rfl
    | some t => simp only [Option.bind_some]; exact ih t
theorem node_some {a b : ByteArray} (ha : a.size = 32) (hb : b.size = 32) : ∃ t, hash_Node.f a b = some t ∧ t.size = 32 := by
  unfold hash_Node.f
  have s1 : ((⟨#[1]⟩ : ByteArray) ++ a).size = 33 := by rw [ByteArray.size_append, ha]; rfl
  have s2 : (((⟨#[1]⟩ : ByteArray) ++ a) ++ b).size = 65 := by rw [ByteArray.size_append, s1, hb]
  rw [if_pos (by omega), if_pos (by omega)]
  unfold Dig.hash_Sum.f
  rw [if_pos (by omega)]
  exact ⟨_, rfl, Dig.dig_size _⟩
theorem climbUp_some (xs : List D32) {h : ByteArray} (hh : h.size = 32) : ∃ t, climbUp xs h = some t ∧ t.size = 32 := by
  induction xs generalizing h with
  | nil => exact ⟨h, rfl, hh⟩
  | cons x xs ih =>
    obtain ⟨t, ht, hs⟩ := node_some x.2 hh
    obtain ⟨u, hu, hs'⟩ := ih hs
    exact ⟨u, by rw [climbUp, ht]; exact hu, hs'⟩
theorem w64r (q : Nat) (h : q < 1000002) : wrap64 (q : Int) = (q : Int) ∧ wrap64 ((q : Int) + 1 - 1) = (q : Int) := ⟨by unfold wrap64; omega, by unfold wrap64; omega⟩
/-- Q, but nothing at a panic. -/
def sure (Q : Exit → Act → World → Prop) : Exit → Act → World → Prop
  | .panic _, _, _ => False
  | e, a, w => Q e a w
theorem wp_sure {P : Program} {c : Code} {Q : Exit → Act → World → Prop} {a : Act} {w : World} (h : c.wp P (sure Q) a w) : c.wp P Q a w := by
  refine Code.wp_mono (fun e a w h => ?_) h
  cases e <;> first | exact h | exact (h : False).elim
attribute [local go_sem] Oper.semAt_some
set_option maxRecDepth 100000 in
set_option maxHeartbeats 2000000 in
theorem root_raw (w : World) (base g : Nat) (vl vp : Value) (L P : List ByteArray) (hA : At w base g vl vp L P) (hL : L ≠ []) (q : Nat) (hq : P.length = q + 1) (hqs : q < 1000000) (h32 : ∀ x ∈ P, x.size = 32)
    (f : Nat → D32) (hf : Hands encD f (P.take q)) (r : ByteArray) (hr : climbUp (upto f q) (P.getD q ByteArray.empty) = some r) :
    Calls Try.prog 48 #[.pointer (some ⟨g, 0, none⟩)] w fun e w' => e = .returned (.string r) ∧ Below w.heap.size w w' := by
  obtain ⟨gp, cq, rfl, hgb, hgl⟩ := World.ownsRow.form hA.rp (by omega)
  rw [hq] at hA
  obtain ⟨last, hlast⟩ : ∃ x, P.getD q ByteArray.empty = x := ⟨_, rfl⟩
  have hl := Lib.hid hlast
  have HA := Lib.hid hA
  have c1 := hA.c1
  have x0 : w.cell? ⟨gp, q, none⟩ = some (.string last) := hlast ▸ own_str' hA.rp hq (by omega)
  have hqc : q + 1 ≤ cq := own_cap hA.rp hq
  have hne : ¬ (L.length : Int) = 0 := by
    intro e
    exact hL (List.eq_nil_of_length_eq_zero (by omega))
  have hq0 : (0 : Int) ≤ (q : Int) := by omega
  have hq1 : (q : Int) ≤ (cq : Int) := by omega
  have hq2 : (q : Int) < (q : Int) + 1 := by omega
  have HR := Lib.hid hr
  have HF := Lib.hid hf
  have H32 := Lib.hid h32
  clear hr hf h32 hlast hA hL
  obtain ⟨wq, wq1⟩ := w64r q (by omega)
  refine (callsIn_wide (n := 3)).1 ?_
  refine callsIn_of_wp_marks Try.func48 rfl trivial ?_ rfl
  simp only [Try.ntmps48, List.size_toArray, List.length_cons, List.length_nil, Nat.reduceAdd, Nat.reduceSub, Array.replicate_succ, Array.replicate_zero, List.push_toArray, List.append_toArray, List.nil_append, List.cons_append]
  refine wpIn_wide.2 ?_
  go_wp2_with (go_at_call 57; refine (len_raw _ _ _ _ _ _ _ HA.out).mono ?_; rintro e w' ⟨rfl, hw'⟩; obtain rfl : w = w' := hw'.symm)
  refine wp_sure ?_
  refine start_ (n := 14) (S := fun w' => w'.cell? ⟨g, 1, none⟩ = some (.slice (some ⟨gp, 0, none⟩) (q + 1) cq) ∧ w'.cell? ⟨gp, q, none⟩ = some (.string last)) (ds := [13]) #[false, false, false, false, false, false, false, false, false, false, false, false, false, false] (by kernel_rfl) rfl rfl ⟨c1, x0⟩ (fun hHeld => ?_)
  refine pure_ (i := 0) (N := some 10) (v := ?_) (a' := ?_) #[true, false, false, false, false, false, false, false, false, false, false, false, false, false] rfl rfl (by kernel_rfl) (fun _ _ _ h => h.elim) (Or.inl ⟨by rfl, ?_⟩) ?_ ?_
  rotate_left
  · intro w'
    go_simp
    with_reducible rfl
  rotate_left
  · simp only [Act.put, List.setIfInBounds_toArray, List.set_cons_zero, List.set_cons_succ, i64_w, i32_w]
    rfl
  refine pure_ (i := 1) (N := some 11) (v := ?_) (a' := ?_) #[true, true, false, false, false, false, false, false, false, false, false, false, false, false] rfl rfl (by kernel_rfl) (fun _ _ _ h => h.elim) (Or.inl ⟨by rfl, ?_⟩) ?_ ?_
  rotate_left
  · intro w'
    go_simp
    with_reducible rfl
  rotate_left
  · simp only [Act.put, List.setIfInBounds_toArray, List.set_cons_zero, List.set_cons_succ, i64_w, i32_w]
    rfl
  refine pure_ (i := 2) (N := some 12) (v := ?_) (a' := ?_) #[true, true, true, false, false, false, false, false, false, false, false, false, false, false] rfl rfl (by kernel_rfl) (fun _ _ _ h => h.elim) (Or.inl ⟨by rfl, ?_⟩) ?_ ?_
  rotate_left
  · intro w'
    go_simp
    with_reducible rfl
  rotate_left
  · simp only [Act.put, List.setIfInBounds_toArray, List.set_cons_zero, List.set_cons_succ, i64_w, i32_w]
    rfl
  refine pure_ (i := 4) (N := some 14) (v := ?_) (a' := ?_) #[true, true, true, false, true, false, false, false, false, false, false, false, false, false] rfl rfl (by kernel_rfl) (fun _ _ _ h => h.elim) (Or.inl ⟨by rfl, ?_⟩) ?_ ?_
  rotate_left
  · intro w'
    go_simp
    with_reducible rfl
  rotate_left
  · simp only [Act.put, List.setIfInBounds_toArray, List.set_cons_zero, List.set_cons_succ, i64_w, i32_w]
    rfl
  refine pure_ (i := 5) (N := some 15) (v := ?_) (a' := ?_) #[true, true, true, false, true, true, false, false, false, false, false, false, false, false] rfl rfl (by kernel_rfl) (fun _ _ _ h => h.elim) (Or.inl ⟨by rfl, ?_⟩) ?_ ?_
  rotate_left
  · intro w'
    go_simp
    with_reducible rfl
  rotate_left
  · simp only [Act.put, List.setIfInBounds_toArray, List.set_cons_zero, List.set_cons_succ, i64_w, i32_w]
    rfl
  refine pure_ (i := 6) (N := some 16) (v := ?_) (a' := ?_) #[true, true, true, false, true, true, true, false, false, false, false, false, false, false] rfl rfl (by kernel_rfl) (fun _ _ _ h => h.elim) (Or.inl ⟨by rfl, ?_⟩) ?_ ?_
  rotate_left
  · intro w'
    go_simp
    with_reducible rfl
  rotate_left
  · simp only [Act.put, List.setIfInBounds_toArray, List.set_cons_zero, List.set_cons_succ, i64_w, i32_w]
    rfl
  refine take_ (i := 3) (N := some 13) (v := ?_) (a' := ?_) #[true, true, true, true, true, true, true, false, false, false, false, false, false, false] rfl rfl (by kernel_rfl) (fun _ _ _ h => h.elim) (Or.inl ⟨by rfl, ?_⟩) hHeld ?_ ?_
  rotate_left
  · rintro w' ⟨s0, s1⟩
    go_simp
    with_reducible rfl
  rotate_left
  · simp only [Act.put, List.setIfInBounds_toArray, List.set_cons_zero, List.set_cons_succ, i64_w, i32_w]
    rfl
  refine take_ (i := 7) (N := some 17) (v := ?_) (a' := ?_) #[true, true, true, true, true, true, true, true, false, false, false, false, false, false] rfl rfl (by kernel_rfl) (fun _ _ _ h => h.elim) (Or.inl ⟨by rfl, ?_⟩) hHeld ?_ ?_
  rotate_left
  · rintro w' ⟨s0, s1⟩
    go_simp
    with_reducible rfl
  rotate_left
  · simp only [Act.put, List.setIfInBounds_toArray, List.set_cons_zero, List.set_cons_succ, i64_w, i32_w]
    rfl
  refine pure_ (i := 8) (N := some 18) (v := ?_) (a' := ?_) #[true, true, true, true, true, true, true, true, true, false, false, false, false, false] rfl rfl (by kernel_rfl) (fun _ _ _ h => h.elim) (Or.inl ⟨by rfl, ?_⟩) ?_ ?_
  rotate_left
  · intro w'
    go_simp
    with_reducible rfl
  rotate_left
  · simp only [Act.put, List.setIfInBounds_toArray, List.set_cons_zero, List.set_cons_succ, i64_w, i32_w]
    rfl
  refine pure_ (i := 9) (N := some 19) (v := ?_) (a' := ?_) #[true, true, true, true, true, true, true, true, true, true, false, false, false, false] rfl rfl (by kernel_rfl) (fun _ _ _ h => h.elim) (Or.inl ⟨by rfl, ?_⟩) ?_ ?_
  rotate_left
  · intro w'
    go_simp
    with_reducible rfl
  rotate_left
  · simp only [Act.put, List.setIfInBounds_toArray, List.set_cons_zero, List.set_cons_succ, i64_w, i32_w]
    rfl
  refine pure_ (i := 10) (N := some 20) (v := ?_) (a' := ?_) #[true, true, true, true, true, true, true, true, true, true, true, false, false, false] rfl rfl (by kernel_rfl) (fun _ _ _ h => h.elim) (Or.inl ⟨by rfl, ?_⟩) ?_ ?_
  rotate_left
  · intro w'
    go_simp
    with_reducible rfl
  rotate_left
  · simp only [Act.put, List.setIfInBounds_toArray, List.set_cons_zero, List.set_cons_succ, i64_w, i32_w]
    rfl
  refine take_ (i := 11) (N := some 21) (v := ?_) (a' := ?_) #[true, true, true, true, true, true, true, true, true, true, true, true, false, false] rfl rfl (by kernel_rfl) (fun _ _ _ h => h.elim) (Or.inl ⟨by rfl, ?_⟩) hHeld ?_ ?_
  rotate_left
  · rintro w' ⟨s0, s1⟩
    go_simp
    with_reducible rfl
  rotate_left
  · simp only [Act.put, List.setIfInBounds_toArray, List.set_cons_zero, List.set_cons_succ, i64_w, i32_w]
    rfl
  refine one_ (i := 12) (N := some 3) #[true, true, true, true, true, true, true, true, true, true, true, true, true, false] rfl rfl (by kernel_rfl) (by decide) (fun K hK => ?_)
  refine value_ (w1 := ?_) (v := ?_) (by rfl) rfl ?_ ?_
  rotate_left 2
  · go_simp
    constructor
    · rfl
    · rfl
  have HA1 := Lib.hid (HA.out.below (((Below.refl _ w).drew).alloc (Nat.le_refl _) (.cells #[.string ⟨#[]⟩] 9)))
  refine hK.out _ _ ⟨HA1.out.c1, hl.out ▸ own_str' HA1.out.rp hq (by omega)⟩ (fun hHeld => ?_)
  clear hK K
  refine norm_ (a' := ?_) ?_ ?_
  rotate_left
  · show Act.put _ (some 3) _ = _
    simp only [Act.put, List.setIfInBounds_toArray, List.set_cons_zero, List.set_cons_succ, i64_w, i32_w]
    rfl
  refine last_ (i := 13) (N := none) #[true, true, true, true, true, true, true, true, true, true, true, true, true, true] rfl rfl (by kernel_rfl) (by decide) (fun K hK => ?_)
  refine skip_ (w1 := ?_) (by rfl) rfl ?_ ?_
  rotate_left
  · go_simp
    rfl
  refine hK.out _ _ ?_
  clear hK K
  refine done_ (by kernel_rfl) ?_
  rename_i Q' h K hK hH0
  show K _ _
  refine hK _ _ ?_
  clear hK K hHeld hH0 c1 x0
  have HA2 : Hid (At (w.alloc (Obj.cells #[Value.string last] 9)).drew base g vl (.slice (some ⟨gp, 0, none⟩) (q + 1) cq) L P) := Lib.hid (HA.out.below (((Below.refl _ w).alloc (Nat.le_refl _) _).drew))
  have HX : Hid (Boxed (w.alloc (Obj.cells #[Value.string last] 9)).drew w.heap.size 9 (.string last)) := Lib.hid (Boxed.new w 9 (.string last))
  have HB : Hid (Below w.heap.size w (w.alloc (Obj.cells #[Value.string last] 9)).drew) := Lib.hid (((Below.refl _ w).alloc (Nat.le_refl _) _).drew)
  have HZ : Hid ((w.alloc (Obj.cells #[Value.string last] 9)).drew.heap.size = w.heap.size + 1) := Lib.hid (by simp)
  generalize (w.alloc (Obj.cells #[Value.string last] 9)).drew = w2 at HA2 HX HB HZ ⊢
  go_wp2_with fail
  refine wp_sure ?_
  refine start_ (n := 12) (S := fun w' => w'.cell? ⟨g, 1, none⟩ = some (.slice (some ⟨gp, 0, none⟩) (q + 1) cq)) (ds := [11]) #[false, false, false, false, false, false, false, false, false, false, false, false] (by kernel_rfl) rfl rfl (HA2.out.c1) (fun hHeld => ?_)
  refine pure_ (i := 0) (N := some 22) (v := ?_) (a' := ?_) #[true, false, false, false, false, false, false, false, false, false, false, false] rfl rfl (by kernel_rfl) (fun _ _ _ h => h.elim) (Or.inl ⟨by rfl, ?_⟩) ?_ ?_
  rotate_left
  · intro w'
    go_simp
    with_reducible rfl
  rotate_left
  · simp only [Act.put, List.setIfInBounds_toArray, List.set_cons_zero, List.set_cons_succ, i64_w, i32_w]
    rfl
  refine pure_ (i := 1) (N := some 23) (v := ?_) (a' := ?_) #[true, true, false, false, false, false, false, false, false, false, false, false] rfl rfl (by kernel_rfl) (fun _ _ _ h => h.elim) (Or.inl ⟨by rfl, ?_⟩) ?_ ?_
  rotate_left
  · intro w'
    go_simp
    with_reducible rfl
  rotate_left
  · simp only [Act.put, List.setIfInBounds_toArray, List.set_cons_zero, List.set_cons_succ, i64_w, i32_w]
    rfl
  refine pure_ (i := 2) (N := some 24) (v := ?_) (a' := ?_) #[true, true, true, false, false, false, false, false, false, false, false, false] rfl rfl (by kernel_rfl) (fun _ _ _ h => h.elim) (Or.inl ⟨by rfl, ?_⟩) ?_ ?_
  rotate_left
  · intro w'
    go_simp
    with_reducible rfl
  rotate_left
  · simp only [Act.put, List.setIfInBounds_toArray, List.set_cons_zero, List.set_cons_succ, i64_w, i32_w]
    rfl
  refine pure_ (i := 4) (N := some 26) (v := ?_) (a' := ?_) #[true, true, true, false, true, false, false, false, false, false, false, false] rfl rfl (by kernel_rfl) (fun _ _ _ h => h.elim) (Or.inl ⟨by rfl, ?_⟩) ?_ ?_
  rotate_left
  · intro w'
    go_simp
    with_reducible rfl
  rotate_left
  · simp only [Act.put, List.setIfInBounds_toArray, List.set_cons_zero, List.set_cons_succ, i64_w, i32_w]
    rfl
  refine pure_ (i := 5) (N := some 27) (v := ?_) (a' := ?_) #[true, true, true, false, true, true, false, false, false, false, false, false] rfl rfl (by kernel_rfl) (fun _ _ _ h => h.elim) (Or.inl ⟨by rfl, ?_⟩) ?_ ?_
  rotate_left
  · intro w'
    go_simp
    with_reducible rfl
  rotate_left
  · simp only [Act.put, List.setIfInBounds_toArray, List.set_cons_zero, List.set_cons_succ, i64_w, i32_w]
    rfl
  refine pure_ (i := 6) (N := some 28) (v := ?_) (a' := ?_) #[true, true, true, false, true, true, true, false, false, false, false, false] rfl rfl (by kernel_rfl) (fun _ _ _ h => h.elim) (Or.inl ⟨by rfl, ?_⟩) ?_ ?_
  rotate_left
  · intro w'
    go_simp
    with_reducible rfl
  rotate_left
  · simp only [Act.put, List.setIfInBounds_toArray, List.set_cons_zero, List.set_cons_succ, i64_w, i32_w]
    rfl
  refine take_ (i := 3) (N := some 25) (v := ?_) (a' := ?_) #[true, true, true, true, true, true, true, false, false, false, false, false] rfl rfl (by kernel_rfl) (fun _ _ _ h => h.elim) (Or.inl ⟨by rfl, ?_⟩) hHeld ?_ ?_
  rotate_left
  · intro w' s0
    go_simp
    with_reducible rfl
  rotate_left
  · simp only [Act.put, List.setIfInBounds_toArray, List.set_cons_zero, List.set_cons_succ, i64_w, i32_w]
    rfl
  refine take_ (i := 7) (N := some 29) (v := ?_) (a' := ?_) #[true, true, true, true, true, true, true, true, false, false, false, false] rfl rfl (by kernel_rfl) (fun _ _ _ h => h.elim) (Or.inl ⟨by rfl, ?_⟩) hHeld ?_ ?_
  rotate_left
  · intro w' s0
    go_simp
    with_reducible rfl
  rotate_left
  · simp only [Act.put, List.setIfInBounds_toArray, List.set_cons_zero, List.set_cons_succ, i64_w, i32_w]
    rfl
  refine pure_ (i := 8) (N := some 30) (v := ?_) (a' := ?_) #[true, true, true, true, true, true, true, true, true, false, false, false] rfl rfl (by kernel_rfl) (fun _ _ _ h => h.elim) (Or.inl ⟨by rfl, ?_⟩) ?_ ?_
  rotate_left
  · intro w'
    go_simp
    with_reducible rfl
  rotate_left
  · simp only [Act.put, List.setIfInBounds_toArray, List.set_cons_zero, List.set_cons_succ, i64_w, i32_w]
    rfl
  refine pure_ (i := 9) (N := some 31) (v := ?_) (a' := ?_) #[true, true, true, true, true, true, true, true, true, true, false, false] rfl rfl (by kernel_rfl) (fun _ _ _ h => h.elim) (Or.inl ⟨by rfl, ?_⟩) ?_ ?_
  rotate_left
  · intro w'
    go_simp
    with_reducible rfl
  rotate_left
  · simp only [Act.put, List.setIfInBounds_toArray, List.set_cons_zero, List.set_cons_succ, i64_w, i32_w]
    rfl
  refine pure_ (i := 10) (N := some 32) (v := ?_) (a' := ?_) #[true, true, true, true, true, true, true, true, true, true, true, false] rfl rfl (by kernel_rfl) (fun _ _ _ h => h.elim) (Or.inl ⟨by rfl, ?_⟩) ?_ ?_
  rotate_left
  · intro w'
    go_simp
    with_reducible rfl
  rotate_left
  · simp only [Act.put, List.setIfInBounds_toArray, List.set_cons_zero, List.set_cons_succ, i64_w, i32_w]
    rfl
  refine last_ (i := 11) (N := some 33) #[true, true, true, true, true, true, true, true, true, true, true, true] rfl rfl (by kernel_rfl) (by decide) (fun K hK => ?_)
  refine goes_ Try.func79 (by kernel_rfl) rfl #[.slice (some ⟨gp, 0, none⟩) q cq] (by rfl) rfl rfl (by simp only [List.map_toArray, List.map_cons, List.map_nil]; rfl) ?_
  with_reducible refine (backward_any _ _ _ _).mono ?_
  rintro e w4 ⟨rfl, rfl⟩
  refine ⟨_, rfl, ?_⟩
  refine hK.out _ _ ?_
  clear hK K
  refine norm_ (a' := ?_) ?_ ?_
  rotate_left
  · show Act.put _ (some 33) _ = _
    simp only [Act.put, List.setIfInBounds_toArray, List.set_cons_zero, List.set_cons_succ, i64_w, i32_w]
    rfl
  refine done_ (by kernel_rfl) ?_
  rename_i K7 hK7 K hK
  show K _ _
  refine hK _ _ ?_
  clear hK K hHeld
  rw [show w2.drew.heap.size = w.heap.size + 1 from HZ.out]
  have HX4 : Hid (Boxed (w2.drew.alloc (Obj.cells #[Value.slice (some { block := gp, off := 0 }) q cq] 51)) w.heap.size 9 (.string last)) := Lib.hid (Boxed.alloc (W := w2.drew) HX.out _)
  have HS4 : Hid (Boxed (w2.drew.alloc (Obj.cells #[Value.slice (some { block := gp, off := 0 }) q cq] 51)) (w.heap.size + 1) 51 (.slice (some ⟨gp, 0, none⟩) q cq)) := Lib.hid (HZ.out ▸ Boxed.new w2.drew 51 (.slice (some ⟨gp, 0, none⟩) q cq))
  have HB4 : Hid (Below w.heap.size w (w2.drew.alloc (Obj.cells #[Value.slice (some { block := gp, off := 0 }) q cq] 51))) := Lib.hid ((HB.out.drew).alloc (by have := HZ.out; simp; omega) _)
  have HZ4 : Hid ((w2.drew.alloc (Obj.cells #[Value.slice (some { block := gp, off := 0 }) q cq] 51)).heap.size = w.heap.size + 2) := Lib.hid (by have := HZ.out; simp; omega)
  have HA4 : Hid (At (w2.drew.alloc (Obj.cells #[Value.slice (some { block := gp, off := 0 }) q cq] 51)) base g vl (.slice (some ⟨gp, 0, none⟩) (q + 1) cq) L P) := Lib.hid (HA.out.below HB4.out)
  generalize w2.drew.alloc (Obj.cells #[Value.slice (some { block := gp, off := 0 }) q cq] 51) = w4 at HX4 HS4 HB4 HZ4 HA4 ⊢
  clear HA1 HA2 HX HB HZ w2
  go_wp2_with fail
  clear wq wq1 h hne hw'
  refine (wpIn_wide (n := 3)).1 ?_
  refine wpIn_rangeFunc_ownG rfl (by decide) (gf := 95) (lb := #[.pointer (some ⟨w.heap.size + 1, 0, none⟩)]) rfl trivial (enters_of Try.func95 (by kernel_rfl) rfl)
    (back_stops encD f Fence.wide _ trivial rfl (by decide) (w.heap.size + 1) w.heap.size (.slice (some ⟨gp, 0, none⟩) q cq) (P.take q) HF.out (by simp; omega) w4 (by have := HZ4.out; omega) HB4.out.size
      (fun A B => Below w.heap.size A B ∧ B.cell? ⟨w.heap.size + 1, 0, none⟩ = A.cell? ⟨w.heap.size + 1, 0, none⟩) (fun _ _ h => h.1) (fun _ _ h => h.2) HS4.out.cell ?strs)
    (fun h k => ⟨h.1.trans k.1, k.2.trans h.2⟩) (fun W l o o' hl hW ho hw => ⟨belowK_b (w := w4) HB4.out.size W l o o' hl hW ho hw, ?other⟩) (Below.refl _ _) (fun _ => rfl)
    (fun pre W => ((∃ hc, climbUp pre last = some hc ∧ Boxed W w.heap.size 9 (.string hc)) ∧ W.heap.size ≥ w.heap.size + 2) ∧ Below w.heap.size w W)
    (fun _ _ _ => False)
    ?own
    (fun _ _ _ _ _ hs _ _ => hs)
    ⟨⟨⟨last, rfl, HX4.out⟩, by have := HZ4.out; omega⟩, HB4.out⟩
    (fun x => { tmps := #[Value.pointer (some { block := g, off := 0 }), undef, Value.string { data := #[] }, Value.pointer (some { block := w.heap.size, off := 0 }), undef, .string x.1.2, Value.pointer (some { block := g, off := 0 }), Value.int IntKind.i64 (L.length : Int), Value.bool ((L.length : Int) == 0), undef, Value.pointer (some { block := g, off := 0 }), Value.pointer (some { block := g, off := 0 }), Value.pointer (some { block := g, off := 1 }), Value.slice (some { block := gp, off := 0 }) (q + 1) cq, Value.pointer (some { block := g, off := 0 }), Value.pointer (some { block := g, off := 0 }), Value.pointer (some { block := g, off := 1 }), Value.slice (some { block := gp, off := 0 }) (q + 1) cq, Value.int IntKind.i64 ((q : Int) + 1), Value.int IntKind.i64 (wrap64 (q : Int)), Value.pointer (some { block := gp, off := q }), Value.string last, Value.pointer (some { block := g, off := 0 }), Value.pointer (some { block := g, off := 0 }), Value.pointer (some { block := g, off := 1 }), Value.slice (some { block := gp, off := 0 }) (q + 1) cq, Value.pointer (some { block := g, off := 0 }), Value.pointer (some { block := g, off := 0 }), Value.pointer (some { block := g, off := 1 }), Value.slice (some { block := gp, off := 0 }) (q + 1) cq, Value.int IntKind.i64 ((q : Int) + 1), Value.int IntKind.i64 (wrap64 (q : Int)), Value.slice (some { block := gp, off := 0 }) q cq, Value.func (Fn.func 95) #[] #[Value.pointer (some { block := w.heap.size + 1, off := 0 })], .int .i64 (x.1.1 : Int), .string x.1.2, undef, undef, undef, undef], defers := [] }) ?assign ?body ?done ?stop
  case strs =>
    have e1 : (P.take q).length = q := by simp; omega
    refine .inr ⟨gp, 0, cq, by rw [e1], hgl, fun j hj => ?_⟩
    rw [e1] at hj
    have e2 : (P.take q).getD j ByteArray.empty = P.getD j ByteArray.empty := by simp [List.getElem?_take, hj]
    rw [e2, Nat.zero_add]
    exact own_str' HA4.out.rp hq (by omega)
  case other =>
    have h1 := HZ4.out
    have h2 := (Array.getElem?_eq_some_iff.1 hW).1
    exact World.cell?_of_block ((grownBy_putObj' W l o').block (w.heap.size + 1) (by omega) (by intro e; injection e with e; omega))
  case own =>
    have h1 := HZ4.out
    refine OwnFrom.and ?_ (ownFrom_below (Nat.le_refl _) (by omega))
    rintro pre A B row ⟨⟨hc, h2, h3⟩, h4⟩ hg hr
    exact ⟨⟨hc, h2, h3.kept hg (fun e => by have := (hr _ e.symm).1; omega)⟩, Nat.le_trans h4 hg.size⟩
  case assign =>
    intro l x W K hK
    dsimp only [encD]
    gi_wp2
    exact hK
  case body =>
    rintro l pre x W ⟨⟨⟨hc, hcl, hX⟩, hsz⟩, hB⟩ _
    have h32 : last.size = 32 := by
      rw [← hl.out]
      exact H32.out _ (by rw [List.getD_eq_getElem?_getD, List.getElem?_eq_getElem (by omega)]; exact List.getElem_mem _)
    obtain ⟨hc', hcl', hcs⟩ := climbUp_some pre h32
    obtain rfl : hc' = hc := Option.some.inj (hcl'.symm.trans hcl)
    obtain ⟨t, ht, _⟩ := node_some x.2 hcs
    have HT := Lib.hid ht
    have HXX := Lib.hid hX
    have HBB := Lib.hid hB
    have HSZ := Lib.hid hsz
    have HCL := Lib.hid hcl
    have hcell := hX.cell
    have hfr := hX.frozen
    clear ht hcl' hcl h32 hcs hX hB hsz
    gi_wp2_with (refine ⟨trivial, ?_⟩; gi_at_call 80; refine (CallsIn.inRound l (callsIn_wide.2 (hash_Node.calls x.1.2 hc' t _ HT.out))).mono ?_; rintro e w' ⟨rfl, hb'⟩; have HB' := Lib.hid hb'; have HX' : Hid (Boxed w' w.heap.size 9 (.string hc')) := Lib.hid ((hb'.block _ HXX.out.lt).trans HXX.out); have hcell' := HX'.out.cell; have hfr' := HX'.out.frozen; clear hb')
    have e3 := HSZ.out
    refine ⟨((KeepsOthers.of_grownBy (grown_of_below HB'.out none) (fun _ _ e => by cases e)).trans (KeepsOthers.setCell _ _ _)).from _, ⟨(show Below w.heap.size W w' from HB'.out.mono (by omega)).setCell (p := ⟨w.heap.size, 0, none⟩) (Nat.le_refl _) _, ?_⟩, ⟨⟨t, by rw [climbUp_snoc, HCL.out]; exact HT.out, HX'.out.set _⟩, ?_⟩, ?_⟩
    · refine World.cell?_of_block ?_
      exact (Below.heap_setCell _ _ _ _ (by simp)).trans (HB'.out.block _ (by show w.heap.size + 1 < W.heap.size; omega))
    · have := HB'.out.size; simp; omega
    · exact (HBB.out.trans (show Below w.heap.size W w' from HB'.out.mono (by omega))).setCell (p := ⟨w.heap.size, 0, none⟩) (Nat.le_refl _) _
  case done =>
    rintro D ys W hD rfl ⟨⟨⟨hc, hcl, hX⟩, hsz⟩, hB⟩ hK
    have e1 : (P.take q).length = q := by simp; omega
    rw [e1] at hcl
    have hr := HR.out
    rw [hl.out, hcl] at hr
    obtain rfl := Option.some.inj hr
    have hcell := hX.cell
    have HXX := Lib.hid hX
    have HBB := Lib.hid hB
    have h1 := HZ4.out
    clear hX hr hcl hB
    show K7 _ _
    refine hK7 _ _ ?_
    go_wp2
    refine ⟨by simp, .inl ⟨_, _, rfl, run_takeDeferred hK, ?_⟩⟩
    exact ⟨_, results_tmp rfl _ _ _, rfl, HBB.out.trans (belowK_b (w := w) (Nat.le_refl _) W D _ _ (by omega) hK rfl rfl)⟩
  case stop =>
    rintro D c pre W _ _ h _
    exact h.elim
end Go.Proofs.Ytdcbacbilncnnaa.T
end
section
/- The peaks of a growing tree. -/
set_option linter.unusedVariables false
set_option linter.unusedSimpArgs false
namespace Go.Proofs.Ytdcbacbilncnnaa.M
open Go.RowKit Go.Proofs.Ytdcbacbilncnnaa.PMk Go.Proofs.Ytdcbacbilncnnaa.T Go.Proofs.Ytdcbacbilncnnaa.Bk Go.Proofs.YtdcbacbilncnnaaW.PrintWords Go.Proofs.YtdcbacbilncnnaaW.PrintLast
def gp (n : Nat) : Nat := 2 ^ n.log2
theorem gp_le {n : Nat} (h : n ≠ 0) : gp n ≤ n := Nat.log2_self_le h
theorem gp_pos (n : Nat) : 1 ≤ gp n := Nat.one_le_two_pow
theorem gp_eq {n e : Nat} (h1 : 2 ^ e ≤ n) (h2 : n < 2 ^ (e + 1)) : gp n = 2 ^ e := by
  have h0 : n ≠ 0 := by have := Nat.one_le_two_pow (n := e); omega
  rw [gp, (Nat.log2_eq_iff h0).2 ⟨h1, h2⟩]
def pk (l : List ByteArray) : List ByteArray :=
  if h : l.length = 0 then [] else mroot (l.take (gp l.length)) :: pk (l.drop (gp l.length))
termination_by l.length
decreasing_by have := gp_pos l.length; simp; omega
theorem pk_nil : pk [] = [] := by rw [pk]; rfl
theorem pk_cons {l : List ByteArray} (h : l.length ≠ 0) : pk l = mroot (l.take (gp l.length)) :: pk (l.drop (gp l.length)) := by rw [pk]; rw [dif_neg h]
theorem pk_snoc (j : Nat) (C : List ByteArray) (hC : C.length = 2 ^ j) : ∀ (d a : Nat) (X : List ByteArray), X.length ≤ d → X.length = a * 2 ^ (j + 1) → pk (X ++ C) = pk X ++ [mroot C] := by
  have hp := Nat.one_le_two_pow (n := j)
  intro d
  induction d with
  | zero =>
    intro a X hd hX
    obtain rfl : X = [] := List.eq_nil_of_length_eq_zero (by omega)
    rw [List.nil_append, pk_nil, List.nil_append, pk_cons (by omega), gp_eq (e := j) (by omega) (by rw [hC, Nat.pow_succ]; omega), ← hC, List.take_length, List.drop_length, pk_nil]
  | succ d ih =>
    intro a X hd hX
    by_cases h0 : X.length = 0
    · obtain rfl : X = [] := List.eq_nil_of_length_eq_zero h0
      rw [List.nil_append, pk_nil, List.nil_append, pk_cons (by omega), gp_eq (e := j) (by omega) (by rw [hC, Nat.pow_succ]; omega), ← hC, List.take_length, List.drop_length, pk_nil]
    · have ha : 1 ≤ a := by
        rcases Nat.eq_zero_or_pos a with h | h
        · rw [h] at hX; omega
        · exact h
      obtain ⟨e, he⟩ : ∃ e, X.length.log2 = e := ⟨_, rfl⟩
      obtain ⟨g1, g2⟩ := (Nat.log2_eq_iff h0).1 he
      have hje : j + 1 ≤ e := by
        rcases Nat.lt_or_ge e (j + 1) with h | h
        · have h3 : 2 ^ (e + 1) ≤ 2 ^ (j + 1) := Nat.pow_le_pow_right (by omega) (by omega)
          have h4 : 1 * 2 ^ (j + 1) ≤ a * 2 ^ (j + 1) := Nat.mul_le_mul_right _ ha
          omega
        · exact h
      have hpe : 2 ^ e = 2 ^ (j + 1) * 2 ^ (e - (j + 1)) := by rw [← Nat.pow_add]; congr 1; omega
      have hpe1 : 2 ^ (e + 1) = 2 ^ (j + 1) * 2 ^ (e - j) := by rw [← Nat.pow_add]; congr 1; omega
      have hlt : a < 2 ^ (e - j) := by
        rw [hX, hpe1, Nat.mul_comm] at g2
        exact Nat.lt_of_mul_lt_mul_left g2
      have hle : (a + 1) * 2 ^ (j + 1) ≤ 2 ^ (e + 1) := by
        rw [hpe1, Nat.mul_comm]; exact Nat.mul_le_mul_left _ hlt
      rw [Nat.add_mul, Nat.one_mul, ← hX] at hle
      have hjj : 2 ^ (j + 1) = 2 ^ j * 2 := Nat.pow_succ ..
      have hgX : gp X.length = 2 ^ e := gp_eq g1 g2
      have hgXC : gp (X ++ C).length = 2 ^ e := gp_eq (by simp; omega) (by simp; omega)
      have hne : (X ++ C).length ≠ 0 := by rw [List.length_append]; omega
      rw [pk_cons (l := X ++ C) hne, pk_cons (l := X) h0, hgX, hgXC, List.take_append_of_le_length g1, List.drop_append_of_le_length g1, List.cons_append]
      congr 1
      have hp1 := Nat.one_le_two_pow (n := e)
      have hdl : (X.drop (2 ^ e)).length ≤ d := by rw [List.length_drop]; omega
      refine ih (a - 2 ^ (e - (j + 1))) (X.drop (2 ^ e)) hdl ?_
      rw [List.length_drop, hX, hpe, Nat.sub_mul, Nat.mul_comm (2 ^ (e - (j + 1)))]
theorem mroot_pow (j : Nat) (D C : List ByteArray) (hD : D.length = 2 ^ j) (hC : C.length = 2 ^ j) : mroot (D ++ C) = node (mroot D) (mroot C) := by
  have hp := Nat.one_le_two_pow (n := j)
  have hs : sp (D ++ C).length = 2 ^ j := sp_eq (by simp; omega) (by simp; rw [Nat.pow_succ]; omega)
  rw [mroot_two (by simp; omega), hs, ← hD, List.take_left, List.drop_left]
theorem pk_w32 : ∀ (d : Nat) (l : List ByteArray), l.length ≤ d → W32 l → W32 (pk l) ∧ (pk l).length ≤ l.length
  | 0, l, h, hw => by
    obtain rfl : l = [] := List.eq_nil_of_length_eq_zero (by omega)
    rw [pk_nil]; exact ⟨hw, Nat.le_refl _⟩
  | d + 1, l, h, hw => by
    by_cases h0 : l.length = 0
    · obtain rfl : l = [] := List.eq_nil_of_length_eq_zero h0
      rw [pk_nil]; exact ⟨hw, Nat.le_refl _⟩
    · have hg := gp_pos l.length
      obtain ⟨h1, h2⟩ := pk_w32 d (l.drop (gp l.length)) (by simp; omega) (hw.drop _)
      rw [pk_cons h0]
      exact ⟨W32.cons.2 ⟨mroot_size (hw.take _), h1⟩, by simp at h2 ⊢; omega⟩
/-- What the loop makes of the peaks and a new block: the peaks. -/
theorem car_pk : ∀ (m j : Nat) (X C : List ByteArray), 1 ≤ m → W32 X → W32 C → X.length = (m - 1) * 2 ^ j → C.length = 2 ^ j → ∃ k, car k (pk X ++ [mroot C]) m = some (pk (X ++ C)) := by
  intro m
  induction m using Nat.strongRecOn with
  | _ m ih =>
  intro j X C h1 hwX hwC hX hC
  have hp := Nat.one_le_two_pow (n := j)
  by_cases hev : m % 2 = 0
  · have hm : m - 1 = (m - 2) + 1 := by omega
    have hXl : X.length = (m - 2) * 2 ^ j + 2 ^ j := by rw [hX, hm, Nat.add_mul, Nat.one_mul]
    obtain ⟨X', D, hXD, hX', hD⟩ : ∃ X' D, X = X' ++ D ∧ X'.length = (m - 2) * 2 ^ j ∧ D.length = 2 ^ j :=
      ⟨X.take ((m - 2) * 2 ^ j), X.drop ((m - 2) * 2 ^ j), (List.take_append_drop _ _).symm, by simp; omega, by simp; omega⟩
    subst hXD
    have e2 : (m - 2) * 2 ^ j = (m / 2 - 1) * 2 ^ (j + 1) := by
      rw [Nat.pow_succ, ← Nat.mul_assoc, Nat.mul_right_comm]; congr 1; omega
    have hpk : pk (X' ++ D) = pk X' ++ [mroot D] := pk_snoc j D hD _ _ X' (Nat.le_refl _) (hX'.trans e2)
    obtain ⟨k, hk⟩ := ih (m / 2) (by omega) (j + 1) X' (D ++ C) (by omega) (W32.app.1 hwX).1 (W32.app.2 ⟨(W32.app.1 hwX).2, hwC⟩) (hX'.trans e2) (by rw [List.length_append, hD, hC, Nat.pow_succ]; omega)
    refine ⟨k + 1, ?_⟩
    rw [hpk, car, if_pos hev, if_pos (by simp)]
    have l1 : (pk X' ++ [mroot D] ++ [mroot C]).length - 2 = (pk X').length := by simp
    have l2 : (pk X' ++ [mroot D] ++ [mroot C]).length - 1 = (pk X').length + 1 := by simp
    rw [l1, l2]
    have g1 : (pk X' ++ [mroot D] ++ [mroot C]).getD (pk X').length ByteArray.empty = mroot D := by simp
    have g2 : (pk X' ++ [mroot D] ++ [mroot C]).getD ((pk X').length + 1) ByteArray.empty = mroot C := by
      rw [List.getD_eq_getElem?_getD, List.getElem?_append_right (by simp)]; simp
    have g3 : (pk X' ++ [mroot D] ++ [mroot C]).take (pk X').length = pk X' := by rw [List.append_assoc, List.take_left]
    rw [g1, g2, g3, node_f _ _ (by rw [mroot_size (W32.app.1 hwX).2]; omega) (by rw [mroot_size hwC]; omega), Option.bind_some, ← mroot_pow j D C hD hC, hk, List.append_assoc]
  · refine ⟨1, ?_⟩
    rw [car, if_neg hev, pk_snoc j C hC _ ((m - 1) / 2) X (Nat.le_refl _)]
    rw [hX, Nat.pow_succ, ← Nat.mul_assoc, Nat.mul_right_comm]; congr 1; omega
def foldUp : List ByteArray → ByteArray
  | [] => ByteArray.empty
  | [x] => x
  | x :: y :: t => node x (foldUp (y :: t))
theorem foldUp_cons (x : ByteArray) {l : List ByteArray} (h : l ≠ []) : foldUp (x :: l) = node x (foldUp l) := by
  cases l with
  | nil => exact absurd rfl h
  | cons y t => rfl
theorem foldUp_size {l : List ByteArray} (h : l ≠ []) (hw : W32 l) : (foldUp l).size = 32 := by
  match l, h with
  | [x], _ => exact W32.one.1 hw
  | x :: y :: t, _ => exact node_size _ _
theorem fold_pk : ∀ (d : Nat) (l : List ByteArray), l.length ≤ d → l ≠ [] → foldUp (pk l) = mroot l
  | 0, l, h, hne => absurd (List.eq_nil_of_length_eq_zero (by omega)) hne
  | d + 1, l, h, hne => by
    have h0 : l.length ≠ 0 := fun h => hne (List.eq_nil_of_length_eq_zero h)
    have hg := gp_pos l.length
    have hle := gp_le h0
    rw [pk_cons h0]
    by_cases he : gp l.length = l.length
    · rw [he, List.take_length, List.drop_length, pk_nil]
      rfl
    · have hd : (l.drop (gp l.length)).length ≠ 0 := by simp; omega
      have hdn : l.drop (gp l.length) ≠ [] := fun h => hd (by rw [h]; rfl)
      have hs : sp l.length = gp l.length := sp_eq (by show gp l.length < _; omega) (Nat.le_of_lt (Nat.lt_log2_self))
      have h2 : 2 ≤ l.length := by omega
      have hdl : (l.drop (gp l.length)).length ≤ d := by rw [List.length_drop]; omega
      rw [foldUp_cons _ (by rw [pk_cons hd]; simp), fold_pk d _ hdl hdn, mroot_two (l := l) h2, hs]
def fD (P : List ByteArray) (q k : Nat) : D32 :=
  if h : (P.getD (q - 1 - k) ByteArray.empty).size = 32 then ⟨(q - 1 - k, P.getD (q - 1 - k) ByteArray.empty), h⟩ else ⟨(0, Dig.dig ⟨#[]⟩), Dig.dig_size _⟩
theorem fD_eq {P : List ByteArray} {q : Nat} (hq : P.length = q + 1) (hw : W32 P) (k : Nat) : (fD P q k).1 = (q - 1 - k, P.getD (q - 1 - k) ByteArray.empty) := by
  unfold fD
  rw [dif_pos (hw.getD (by omega))]
theorem fD_hands {P : List ByteArray} {q : Nat} (hq : P.length = q + 1) (hw : W32 P) : Hands encD (fD P q) (P.take q) := by
  intro k hk
  have e1 : (P.take q).length = q := by simp; omega
  rw [e1] at hk ⊢
  unfold encD
  rw [fD_eq hq hw]
  have e2 : (P.take q).getD (q - 1 - k) ByteArray.empty = P.getD (q - 1 - k) ByteArray.empty := by simp [List.getElem?_take, show q - 1 - k < q by omega]
  rw [e2]
theorem climb_fold {P : List ByteArray} {q : Nat} (hq : P.length = q + 1) (hw : W32 P) : ∀ j, j ≤ q → climbUp (upto (fD P q) j) (P.getD q ByteArray.empty) = some (foldUp (P.drop (q - j)))
  | 0, _ => by
    have e : P.drop q = [P.getD q ByteArray.empty] := by
      rw [List.drop_eq_getElem_cons (by omega), List.drop_eq_nil_of_le (by omega), List.getD_eq_getElem?_getD, List.getElem?_eq_getElem (by omega)]; rfl
    rw [Nat.sub_zero, e]
    rfl
  | j + 1, hj => by
    have hd : P.drop (q - j) ≠ [] := fun h => by have := congrArg List.length h; simp at this; omega
    have e : P.drop (q - (j + 1)) = P.getD (q - 1 - j) ByteArray.empty :: P.drop (q - j) := by
      rw [List.drop_eq_getElem_cons (by omega), List.getD_eq_getElem?_getD, List.getElem?_eq_getElem (by omega)]
      have e7 : q - (j + 1) = q - 1 - j := by omega
      have e8 : q - 1 - j + 1 = q - j := by omega
      simp only [e7, e8, Option.getD_some]
    rw [upto_succ, climbUp_snoc, climb_fold hq hw j (by omega), Option.bind_some, fD_eq hq hw, e, foldUp_cons _ hd]
    exact node_f _ _ (by rw [hw.getD (by omega)]; omega) (by rw [foldUp_size hd (hw.drop _)]; omega)
end Go.Proofs.Ytdcbacbilncnnaa.M
namespace Go.Proofs.Ytdcbacbilncnnaa.T
open Go.RowKit Go.Proofs.Ytdcbacbilncnnaa.M
/-- The tree's root is that of its leaves. -/
theorem root_tree (w : World) (base g : Nat) (vl vp : Value) (L : List ByteArray) (hA : At w base g vl vp L (pk L)) (hL : L ≠ []) (hw : W32 L) (hn : L.length < 1000000) :
    Calls Try.prog 48 #[.pointer (some ⟨g, 0, none⟩)] w fun e w' => e = .returned (.string (mroot L)) ∧ Below w.heap.size w w' := by
  have h0 : L.length ≠ 0 := fun h => hL (List.eq_nil_of_length_eq_zero h)
  obtain ⟨p1, p2⟩ := pk_w32 _ L (Nat.le_refl _) hw
  have hne : (pk L).length ≠ 0 := by rw [pk_cons h0]; simp
  obtain ⟨q, hq⟩ : ∃ q, (pk L).length = q + 1 := ⟨(pk L).length - 1, by omega⟩
  have hc := climb_fold hq p1 q (Nat.le_refl _)
  rw [Nat.sub_self, List.drop_zero, fold_pk _ L (Nat.le_refl _) hL] at hc
  exact root_raw w base g vl vp L (pk L) hA hL q hq (by omega) p1 (fD (pk L) q) (fD_hands hq p1) _ hc
end Go.Proofs.Ytdcbacbilncnnaa.T
end
section
/- The tree of digests: RootAt, Path, Grown, New. -/
set_option linter.unusedVariables false
set_option linter.unusedSimpArgs false
namespace Go.Proofs.Ytdcbacbilncnnaa.T
open Go.RowKit Go.Proofs.Ytdcbacbilncnnaa.PMk Go.Proofs.YtdcbacbilncnnaaW.PrintWords Go.Proofs.YtdcbacbilncnnaaW.PrintLast
theorem new_raw (w : World) : Calls Try.prog 55 #[] w fun e w' => ∃ g, e = .returned (.pointer (some ⟨g, 0, none⟩)) ∧ At w' w.heap.size g (.slice none 0 0) (.slice none 0 0) [] [] ∧ Below w.heap.size w w' := by
  have hu121 := Try.underlying121
  go_enter Try.func55, Try.ntmps55
  go_wp2_with (first | ((with_reducible refine gate_dst (N := 2) rfl ?_); refine box_event ?hg (N := 2) ?hd (cs := #[.slice none 0 0, .slice none 0 0]) (t := 121) ?hr ?_; (case hd => rfl); (case hg => rfl); (case hr => first | (go_simp; done) | (go_simp; rfl)); intro gb117 hg w1 hbox hb; have HX := Lib.hid hbox; have HB := Lib.hid hb; have HG := Lib.hid hg; clear hbox hb hg))
  go_ret
  exact ⟨_, rfl, ⟨HX.out, Nat.le_of_eq HG.out.symm, World.ownsRow_nil _ _ _ _, World.ownsRow_nil _ _ _ _, by intro k hk; simp [Value.ownBlock] at hk⟩, HB.out⟩
end Go.Proofs.Ytdcbacbilncnnaa.T
end
section
/- Leaves, and one more leaf behind a tree. -/
set_option linter.unusedVariables false
set_option linter.unusedSimpArgs false
namespace Go.Proofs.Ytdcbacbilncnnaa.T
open Go.RowKit Go.Proofs.Ytdcbacbilncnnaa.PMk Go.Proofs.Ytdcbacbilncnnaa.M Go.Proofs.Ytdcbacbilncnnaa.Bk Go.Proofs.YtdcbacbilncnnaaW.PrintWords Go.Proofs.YtdcbacbilncnnaaW.PrintLast
theorem Step.to_below {w w1 : World} {base g : Nat} {vl vp vl' vp' : Value} {L P : List ByteArray} (h : Step w w1 g vl vp vl' vp') (hA : At w base g vl vp L P) : Below base w w1 :=
  ⟨h.os, h.tape, h.output, h.size, fun k hk => h.block k (Nat.lt_of_lt_of_le hk hA.base) (by have := hA.lo; omega)
    (fun e => by have := own_base hA.rl k e; omega) (fun e => by have := own_base hA.rp k e; omega)⟩
theorem add_any (s h : ByteArray) (hleaf : hash_Leaf.f s = some h) (w : World) (base g : Nat) (vl vp : Value) (L P Q : List ByteArray) (hA : At w base g vl vp L P) (hn : L.length + 1 < 1000000) (hp : P.length < 1000000)
    (kc : Nat) (hc : car kc (P ++ [h]) (L.length + 1) = some Q) :
    Calls Try.prog 56 #[.pointer (some ⟨g, 0, none⟩), .string s] w fun e w' => e = .returned (.string h) ∧ ∃ vl' vp', At w' base g vl' vp' (L ++ [h]) Q ∧ Step w w' g vl vp vl' vp' ∧ Below base w w' := by
  refine (add_raw s h hleaf w base g vl vp L P Q hA hn hp kc hc).mono ?_
  rintro e w' ⟨rfl, vl', vp', h1, h2⟩
  exact ⟨rfl, vl', vp', h1, h2, h2.to_below hA⟩
def leaf (s : ByteArray) : ByteArray := Dig.dig ((⟨#[0]⟩ : ByteArray) ++ s)
theorem leaf_size (s : ByteArray) : (leaf s).size = 32 := Dig.dig_size _
theorem leaf_f (s : ByteArray) (h : s.size < 1152921504606846000) : hash_Leaf.f s = some (leaf s) := by
  have s1 : ((⟨#[0]⟩ : ByteArray) ++ s).size = 1 + s.size := by rw [ByteArray.size_append]; rfl
  unfold hash_Leaf.f Dig.hash_Sum.f
  rw [if_pos (by omega), if_pos (by omega)]
  rfl
theorem add_tree (s : ByteArray) (w : World) (base g : Nat) (vl vp : Value) (L : List ByteArray) (hA : At w base g vl vp L (pk L)) (hw : W32 L) (hs : s.size < 1152921504606846000) (hn : L.length < 1000) :
    Calls Try.prog 56 #[.pointer (some ⟨g, 0, none⟩), .string s] w fun e w' => e = .returned (.string (leaf s)) ∧ ∃ vl' vp', At w' base g vl' vp' (L ++ [leaf s]) (pk (L ++ [leaf s])) ∧ Step w w' g vl vp vl' vp' ∧ Below base w w' := by
  have hl : W32 [leaf s] := W32.one.2 (leaf_size s)
  obtain ⟨k, hk⟩ := car_pk (L.length + 1) 0 L [leaf s] (by omega) hw hl (by simp) rfl
  rw [mroot_one (by rfl)] at hk
  obtain ⟨p1, p2⟩ := pk_w32 _ L (Nat.le_refl _) hw
  exact add_any s (leaf s) (leaf_f s hs) w base g vl vp L (pk L) _ hA (by omega) (by omega) k hk
end Go.Proofs.Ytdcbacbilncnnaa.T
end
section
namespace Go.Proofs.Ytdcbacbilncnnaa.PMk
open Go.RowKit Go.Proofs.YtdcbacbilncnnaaW.PrintWords Go.Proofs.YtdcbacbilncnnaaW.PrintLast Go.Proofs.YtdcbacbilncnnaaW.PrintMore
attribute [local go_sem] max2_int min2_int max_two min_two max_three min_three max_four min_four   -- for this text's walks alone
set_option linter.unusedVariables false
set_option linter.unusedSimpArgs false
/-! ### block_meta: function 73 -/
def block_meta.f (k : Nat) (a0_0 : Int) (a0_1 : ByteArray) (a0_2 : ByteArray) (a0_3 : Int) (a0_4 : Int) (a0_5 : ByteArray) (a0_6 : ByteArray) (a0_7 : Bool) : Option (ByteArray) := (some (([(a0_0) % 256] : List Int) : List Int)).bind fun y131 => ((enc_Text.f k a0_1).bind fun t134 => (if (strOfNums y131).size + t134.size ≤ 9223372036854775807 then ((enc_Text.f k a0_2).bind fun t135 => (if ((strOfNums y131) ++ t134).size + t135.size ≤ 9223372036854775807 then ((enc_Uint.f k a0_3).bind fun t136 => (if (((strOfNums y131) ++ t134) ++ t135).size + t136.size ≤ 9223372036854775807 then ((enc_Uint.f k a0_4).bind fun t137 => (if ((((strOfNums y131) ++ t134) ++ t135) ++ t136).size + t137.size ≤ 9223372036854775807 then ((enc_Text.f k a0_5).bind fun t138 => (if (((((strOfNums y131) ++ t134) ++ t135) ++ t136) ++ t137).size + t138.size ≤ 9223372036854775807 then (some ((((((strOfNums y131) ++ t134) ++ t135) ++ t136) ++ t137) ++ t138)) else (none))) else (none))) else (none))) else (none))) else (none)))
theorem block_meta.calls (k : Nat) (a0_0 : Int) (a0_1 : ByteArray) (a0_2 : ByteArray) (a0_3 : Int) (a0_4 : Int) (a0_5 : ByteArray) (a0_6 : ByteArray) (a0_7 : Bool) (r : ByteArray) (w : World) (h : block_meta.f k a0_0 a0_1 a0_2 a0_3 a0_4 a0_5 a0_6 a0_7 = some r) :
  Calls Try.prog 73 #[.agg #[.int .i64 a0_0, .string a0_1, .string a0_2, .int .u64 a0_3, .int .u64 a0_4, .string a0_5, .string a0_6, .bool a0_7]] w fun e w' => e = .returned (.string r) ∧ Below w.heap.size w w' := by
 simp only [block_meta.f, Option.bind_some] at h
 obtain ⟨t1, e1, h⟩ := Option.bind_eq_some_iff.mp h
 have c1 : ¬ ¬ _ := fun c => by rw [if_neg c] at h; cases h
 rw [if_pos (Classical.not_not.1 c1)] at h
 obtain ⟨t2, e2, h⟩ := Option.bind_eq_some_iff.mp h
 have c2 : ¬ ¬ _ := fun c => by rw [if_neg c] at h; cases h
 rw [if_pos (Classical.not_not.1 c2)] at h
 obtain ⟨t3, e3, h⟩ := Option.bind_eq_some_iff.mp h
 have c3 : ¬ ¬ _ := fun c => by rw [if_neg c] at h; cases h
 rw [if_pos (Classical.not_not.1 c3)] at h
 obtain ⟨t4, e4, h⟩ := Option.bind_eq_some_iff.mp h
 have c4 : ¬ ¬ _ := fun c => by rw [if_neg c] at h; cases h
 rw [if_pos (Classical.not_not.1 c4)] at h
 obtain ⟨t5, e5, h⟩ := Option.bind_eq_some_iff.mp h
 have c5 : ¬ ¬ _ := fun c => by rw [if_neg c] at h; cases h
 rw [if_pos (Classical.not_not.1 c5)] at h
 obtain rfl := Option.some.inj h
 have c := Classical.not_not.1 c5
 simp only [ByteArray.size_append] at c
 exact Mw.meta73 a0_0 a0_1 a0_2 a0_3 a0_4 a0_5 a0_6 a0_7 t1 t2 t3 t4 t5 w (Lib.hid fun w => enc_Text.calls k a0_1 _ w e1) (Lib.hid fun w => enc_Text.calls k a0_2 _ w e2) (Lib.hid fun w => enc_Uint.calls k a0_3 _ w e3) (Lib.hid fun w => enc_Uint.calls k a0_4 _ w e4) (Lib.hid fun w => enc_Text.calls k a0_5 _ w e5) c
end Go.Proofs.Ytdcbacbilncnnaa.PMk
end
section
/- A block's tree: its revisions' metas' digests. -/
set_option linter.unusedVariables false
set_option linter.unusedSimpArgs false
namespace Go.Proofs.Ytdcbacbilncnnaa.T
open Go.RowKit Go.Proofs.Ytdcbacbilncnnaa.PMk Go.Proofs.Ytdcbacbilncnnaa.M Go.Proofs.YtdcbacbilncnnaaW.PrintWords Go.Proofs.YtdcbacbilncnnaaW.PrintLast
theorem At.less {w : World} {base b g : Nat} {vl vp : Value} {L P : List ByteArray} (h : At w base g vl vp L P) (hb : b ≤ base) : At w b g vl vp L P :=
  ⟨h.blk, Nat.le_trans hb h.lo, own_less h.rl hb, own_less h.rp hb, h.ap⟩
def metaOf (k : Nat) (x : S47) : Option ByteArray := block_meta.f k x.f0 x.f1 x.f2 x.f3 x.f4 x.f5 x.f6 x.f7
def metas (k : Nat) : List S47 → Option (List ByteArray)
  | [] => some []
  | x :: l => (metaOf k x).bind fun m => if m.size < 1152921504606846000 then (metas k l).bind fun M => some (m :: M) else none
theorem metas_len {k : Nat} : ∀ {l : List S47} {M : List ByteArray}, metas k l = some M → M.length = l.length
  | [], M, h => by simp [metas] at h; subst h; rfl
  | x :: l, M, h => by
    rw [metas] at h
    obtain ⟨m, _, h⟩ := Option.bind_eq_some_iff.mp h
    split at h
    · obtain ⟨M', h1, h2⟩ := Option.bind_eq_some_iff.mp h
      obtain rfl := Option.some.inj h2
      simp [metas_len h1]
    · cases h
theorem metas_at {k : Nat} : ∀ {l : List S47} {M : List ByteArray}, metas k l = some M → ∀ i, i < l.length → metaOf k (l.getD i z47) = some (M.getD i ByteArray.empty) ∧ (M.getD i ByteArray.empty).size < 1152921504606846000
  | [], M, h, i, hi => absurd hi (by simp)
  | x :: l, M, h, i, hi => by
    rw [metas] at h
    obtain ⟨m, hm, h⟩ := Option.bind_eq_some_iff.mp h
    split at h
    · next hs =>
      obtain ⟨M', h1, h2⟩ := Option.bind_eq_some_iff.mp h
      obtain rfl := Option.some.inj h2
      cases i with
      | zero => exact ⟨by simpa using hm, by simpa using hs⟩
      | succ i => simpa using metas_at h1 i (by simpa using hi)
    · cases h
def lv (M : List ByteArray) (i : Nat) : List ByteArray := (M.take i).map leaf
theorem lv_len {M : List ByteArray} {i : Nat} (h : i ≤ M.length) : (lv M i).length = i := by unfold lv; simp; omega
theorem lv_w32 (M : List ByteArray) (i : Nat) : W32 (lv M i) := by
  intro x hx
  obtain ⟨y, _, rfl⟩ := List.mem_map.1 hx
  exact leaf_size _
theorem lv_succ {M : List ByteArray} {i : Nat} (h : i < M.length) : lv M i ++ [leaf (M.getD i ByteArray.empty)] = lv M (i + 1) := by
  unfold lv
  rw [List.take_succ_eq_append_getElem h, List.map_append, List.getD_eq_getElem?_getD, List.getElem?_eq_getElem h]
  rfl
theorem meta_any (k : Nat) (x : S47) (m : ByteArray) (h : metaOf k x = some m) (w : World) :
    Calls Try.prog 73 #[.agg #[.int .i64 x.f0, .string x.f1, .string x.f2, .int .u64 x.f3, .int .u64 x.f4, .string x.f5, .string x.f6, .bool x.f7]] w fun e w' => e = .returned (.string m) ∧ Below w.heap.size w w' :=
  block_meta.calls k x.f0 x.f1 x.f2 x.f3 x.f4 x.f5 x.f6 x.f7 m w h
set_option maxRecDepth 100000 in
set_option maxHeartbeats 2000000 in
theorem tree_raw (k : Nat) (a0 : Int) (a1 : ByteArray) (a2 : Int) (A : Option Addr) (c : Nat) (l : List S47) (M : List ByteArray) (w : World) (hC : Kd.C k47 w A l.length l) (hM : metas k l = some M) (hn : l.length < 1000) :
    Calls Try.prog 47 #[.agg #[.int .u64 a0, .string a1, .int .u64 a2, .slice A l.length c]] w fun e w' => ∃ g vl vp, e = .returned (.pointer (some ⟨g, 0, none⟩)) ∧ At w' w.heap.size g vl vp (lv M M.length) (pk (lv M M.length)) ∧ Below w.heap.size w w' := by
  have hml := metas_len hM
  obtain ⟨len, hlen⟩ : ∃ n, l.length = n := ⟨_, rfl⟩
  have hma := metas_at hM
  rw [hlen] at hC hn hml hma ⊢
  have HC := Lib.hid hC
  have HL := Lib.hid hlen
  have HM := Lib.hid hma
  clear hC hlen hma hM
  go_enter Try.func47, Try.ntmps47
  go_wp2_with (go_at_call 55; refine (new_raw _).mono ?_; rintro e w1 ⟨g, rfl, hA, hb1⟩; have hb0 := (((Below.refl w.heap.size w).alloc (Nat.le_refl _) (.cells #[.int .u64 a0, .string a1, .int .u64 a2, .slice A len c] 25)).trans (hb1.mono (by simp))); have hcell : w1.cell? ⟨w.heap.size, 3, none⟩ = some (.slice A len c) := (blk_cell ((hb1.block w.heap.size (by simp)).trans (heap_alloc_new w _)) 3).trans rfl; have HA1 := Lib.hid hA; have HB1 := Lib.hid hb0; clear hA hb1 hb0)
  have HP0 : Hid (At w1 w.heap.size g (.slice none 0 0) (.slice none 0 0) (lv M 0) (pk (lv M 0))) := Lib.hid (by
    have h := HA1.out.less (b := w.heap.size) (by simp)
    simpa [lv, pk_nil] using h)
  clear HA1 hcell
  go_loopw [10] (fun vi wr => ∃ (i : Nat) (vl vp : Value), i ≤ len ∧ vi = .int .i64 i ∧ Hid (At wr w.heap.size g vl vp (lv M i) (pk (lv M i))) ∧ Hid (Below w.heap.size w wr)) (fun vi _ => (len - intOf vi).toNat)
  case atStart => exact ⟨0, _, _, Nat.zero_le _, rfl, HP0, HB1⟩
  case round =>
    obtain ⟨i, vl, vp, hi1, rfl, HP, HB⟩ := hrel
    clear HP0 HB1
    by_cases h1 : i < len
    · obtain ⟨ad, hA, hx0, hx1, hx2, hx3, hx4, hx5, hx6, hx7⟩ := at_T47 HC.out (i : Int) (by omega) (by omega)
      subst hA
      replace hx0 := (HB.out.cell (World.block_lt_of_cell? w _ hx0)).trans hx0
      replace hx1 := (HB.out.cell (World.block_lt_of_cell? w _ hx1)).trans hx1
      replace hx2 := (HB.out.cell (World.block_lt_of_cell? w _ hx2)).trans hx2
      replace hx3 := (HB.out.cell (World.block_lt_of_cell? w _ hx3)).trans hx3
      replace hx4 := (HB.out.cell (World.block_lt_of_cell? w _ hx4)).trans hx4
      replace hx5 := (HB.out.cell (World.block_lt_of_cell? w _ hx5)).trans hx5
      replace hx6 := (HB.out.cell (World.block_lt_of_cell? w _ hx6)).trans hx6
      replace hx7 := (HB.out.cell (World.block_lt_of_cell? w _ hx7)).trans hx7
      have hm := HM.out i h1
      rw [show l.getD i z47 = rd_T47 l (i : Int) from by simp [rd_T47]] at hm
      obtain ⟨m, hmm⟩ : ∃ m, M.getD i ByteArray.empty = m := ⟨_, rfl⟩
      rw [hmm] at hm
      have HSU : Hid (lv M i ++ [leaf m] = lv M (i + 1)) := Lib.hid (hmm ▸ lv_succ (by omega))
      have HMA := Lib.hid (fun w' => meta_any k _ m hm.1 w')
      have HAD := Lib.hid (fun w' hA => add_tree m w' w.heap.size g vl vp (lv M i) hA (lv_w32 _ _) hm.2 (by rw [lv_len (by omega)]; omega))
      clear hm hmm
      simp only [Int.toNat_natCast] at hx0 hx1 hx2 hx3 hx4 hx5 hx6 hx7
      generalize rd_T47 l (i : Int) = x at hx0 hx1 hx2 hx3 hx4 hx5 hx6 hx7 HMA
      go_wp2_with (first
        | (go_at_call 73; refine (HMA.out _).mono ?_; rintro e w2 ⟨rfl, hb1⟩; have HB2 := Lib.hid ((HB.out.alloc HB.out.size _).trans (hb1.mono (by have := HB.out.size; simp; omega))); have HP2 := Lib.hid (HP.out.below (((Below.refl _ wr).alloc (Nat.le_refl _) _).trans (hb1.mono (by simp)))); clear hb1)
        | (go_at_call 56; refine (HAD.out _ HP2.out).mono ?_; rintro e w3 ⟨rfl, vl3, vp3, hA, _, hb1⟩; have HB3 := Lib.hid (HB2.out.trans hb1); have HP3 := Lib.hid hA; clear hA hb1))
      rw [HSU.out] at HP3
      go_roundw
      case rel => exact ⟨i + 1, vl3, vp3, by omega, by go_num, HP3, HB3⟩
      case measure => simp [intOf]; omega
    · obtain rfl : i = len := by omega
      go_wp2_with fail
      go_ret
      exact ⟨g, vl, vp, rfl, hml ▸ HP.out, HB.out⟩
end Go.Proofs.Ytdcbacbilncnnaa.T
end
section
/- A revision's bytes, joined: by what holds behind any of the operations. Written by wip/genmeta.py. -/
set_option linter.unusedVariables false
set_option linter.unusedSimpArgs false
namespace Go.Proofs.Ytdcbacbilncnnaa.Mv
open Go.RowKit Go.Proofs.Ytdcbacbilncnnaa Go.Proofs.Ytdcbacbilncnnaa.PMk Go.Proofs.YtdcbacbilncnnaaW.PrintWords Go.Proofs.YtdcbacbilncnnaaW.PrintLast
theorem cases26 {ops : Array Oper} {i : Nat} {o : Oper} (hs : ops.size = 26) (h : ops[i]? = some o) : i = 0 ∨ i = 1 ∨ i = 2 ∨ i = 3 ∨ i = 4 ∨ i = 5 ∨ i = 6 ∨ i = 7 ∨ i = 8 ∨ i = 9 ∨ i = 10 ∨ i = 11 ∨ i = 12 ∨ i = 13 ∨ i = 14 ∨ i = 15 ∨ i = 16 ∨ i = 17 ∨ i = 18 ∨ i = 19 ∨ i = 20 ∨ i = 21 ∨ i = 22 ∨ i = 23 ∨ i = 24 ∨ i = 25 := by
  have hi : i < ops.size := (Array.getElem?_eq_some_iff.1 h).1
  omega
structure J37 (a0 : Int) (a1 a2 : ByteArray) (a3 a4 : Int) (a5 a6 : ByteArray) (a7 : Bool) (t1 t2 t3 t4 t5 : ByteArray) (g : Nat) (W : World) (b0 b1 b2 b3 b4 b5 b6 b7 b8 b9 b10 b11 b12 b13 b14 b15 b16 b17 b18 b19 b20 b21 b22 b23 b24 b25 : Bool) (r v3 v4 v5 v6 v7 v8 v9 v10 v11 v12 v13 v14 v15 v16 v17 v18 v19 v20 v21 v22 v23 v24 v25 v26 v27 : Value) (W' : World) : Prop where
  hb : Below (g + 1) W W'
  f0 : b0 = true → v3 = .pointer (some ⟨g, 0, none⟩)
  f1 : b1 = true → v4 = .int .i64 a0
  f2 : b2 = true → v5 = .int .u8 (a0 % 256)
  f3 : b3 = true → W'.ownsRow (g + 1) 5 1 v6 1 (nums .u8 [a0 % 256])
  f4 : b4 = true → v7 = .string (strOfNums [a0 % 256])
  f5 : b5 = true → v8 = .pointer (some ⟨g, 1, none⟩)
  f6 : b6 = true → v9 = .string a1
  f7 : b7 = true → v10 = .string t1
  f8 : b8 = true → v11 = .string ((strOfNums [a0 % 256]) ++ t1)
  f9 : b9 = true → v12 = .pointer (some ⟨g, 2, none⟩)
  f10 : b10 = true → v13 = .string a2
  f11 : b11 = true → v14 = .string t2
  f12 : b12 = true → v15 = .string (((strOfNums [a0 % 256]) ++ t1) ++ t2)
  f13 : b13 = true → v16 = .pointer (some ⟨g, 3, none⟩)
  f14 : b14 = true → v17 = .int .u64 a3
  f15 : b15 = true → v18 = .string t3
  f16 : b16 = true → v19 = .string ((((strOfNums [a0 % 256]) ++ t1) ++ t2) ++ t3)
  f17 : b17 = true → v20 = .pointer (some ⟨g, 4, none⟩)
  f18 : b18 = true → v21 = .int .u64 a4
  f19 : b19 = true → v22 = .string t4
  f20 : b20 = true → v23 = .string (((((strOfNums [a0 % 256]) ++ t1) ++ t2) ++ t3) ++ t4)
  f21 : b21 = true → v24 = .pointer (some ⟨g, 5, none⟩)
  f22 : b22 = true → v25 = .string a5
  f23 : b23 = true → v26 = .string t5
  f24 : b24 = true → v27 = .string ((((((strOfNums [a0 % 256]) ++ t1) ++ t2) ++ t3) ++ t4) ++ t5)
  f25 : b25 = true → r = .string ((((((strOfNums [a0 % 256]) ++ t1) ++ t2) ++ t3) ++ t4) ++ t5)
theorem J37.later {a0 : Int} {a1 a2 : ByteArray} {a3 a4 : Int} {a5 a6 : ByteArray} {a7 : Bool} {t1 t2 t3 t4 t5 : ByteArray} {g : Nat} {W W' W'' : World} {b0 b1 b2 b3 b4 b5 b6 b7 b8 b9 b10 b11 b12 b13 b14 b15 b16 b17 b18 b19 b20 b21 b22 b23 b24 b25 : Bool} {r v3 v4 v5 v6 v7 v8 v9 v10 v11 v12 v13 v14 v15 v16 v17 v18 v19 v20 v21 v22 v23 v24 v25 v26 v27 : Value} (j : J37 a0 a1 a2 a3 a4 a5 a6 a7 t1 t2 t3 t4 t5 g W b0 b1 b2 b3 b4 b5 b6 b7 b8 b9 b10 b11 b12 b13 b14 b15 b16 b17 b18 b19 b20 b21 b22 b23 b24 b25 r v3 v4 v5 v6 v7 v8 v9 v10 v11 v12 v13 v14 v15 v16 v17 v18 v19 v20 v21 v22 v23 v24 v25 v26 v27 W') (hz : g + 1 ≤ W.heap.size) (hb : Below W'.heap.size W' W'') : J37 a0 a1 a2 a3 a4 a5 a6 a7 t1 t2 t3 t4 t5 g W b0 b1 b2 b3 b4 b5 b6 b7 b8 b9 b10 b11 b12 b13 b14 b15 b16 b17 b18 b19 b20 b21 b22 b23 b24 b25 r v3 v4 v5 v6 v7 v8 v9 v10 v11 v12 v13 v14 v15 v16 v17 v18 v19 v20 v21 v22 v23 v24 v25 v26 v27 W'' :=
  { j with hb := below_then j.hb (Nat.le_trans hz j.hb.size) hb, f3 := fun k => pw_own_below (j.f3 k) hb }
end Go.Proofs.Ytdcbacbilncnnaa.Mv
end
section
/- A revision's meta in plain bytes. -/
set_option linter.unusedVariables false
set_option linter.unusedSimpArgs false
namespace Go.Proofs.Ytdcbacbilncnnaa.T
open Go.RowKit Go.Proofs.Ytdcbacbilncnnaa.PMk Go.Proofs.Ytdcbacbilncnnaa.EncS Go.Proofs.Ytdcbacbilncnnaa.EncL Go.Proofs.YtdcbacbilncnnaaW.PrintWords Go.Proofs.YtdcbacbilncnnaaW.PrintLast
def txt (t : ByteArray) : List UInt8 := encU t.size ++ t.toList
def num (a : Int) : List UInt8 := encU a.toNat
def byt (a : Int) : UInt8 := UInt8.ofNat (a % 256).toNat
def mt (op : Int) (t f : ByteArray) (d v : Int) (h : ByteArray) : List UInt8 := byt op :: (txt t ++ (txt f ++ (num d ++ (num v ++ txt h))))
/-- A revision that a value can be. -/
structure Fits (d v : Int) (t f h : ByteArray) : Prop where
  d0 : 0 ≤ d
  d1 : d < 18446744073709551616
  v0 : 0 ≤ v
  v1 : v < 18446744073709551616
  t : t.size ≤ 1125899906842624
  f : f.size ≤ 1125899906842624
  h : h.size ≤ 1125899906842624
theorem byt_str (op : Int) : strOfNums [op % 256] = S [byt op] := by
  have h0 := Int.emod_nonneg op (show (256 : Int) ≠ 0 by decide)
  have h1 := Int.emod_lt_of_pos op (show (0 : Int) < 256 by decide)
  have e : [op % 256] = ints [byt op] := by
    simp only [ints, byt, List.map_cons, List.map_nil, List.cons.injEq, and_true]
    rw [UInt8.toNat_ofNat']
    omega
  rw [e, strOf_ints]
theorem num_ev (a : Int) (h0 : 0 ≤ a) (h1 : a < 18446744073709551616) : Ev (fun k => enc_Uint.f k a) (S (num a)) := by
  have := uint_f a.toNat (by omega)
  rw [Int.toNat_of_nonneg h0] at this
  exact this
theorem num_len (a : Int) (h0 : 0 ≤ a) (h1 : a < 18446744073709551616) : (num a).length ≤ 10 := encU_len _ (by omega)
theorem txt_len (t : ByteArray) (h : t.size ≤ 1125899906842624) : (txt t).length ≤ t.size + 10 := by
  unfold txt
  have := encU_len t.size (by omega)
  have hl : t.toList.length = t.size := by rw [ByteArray.toList_eq, Array.length_toList]; rfl
  rw [List.length_append, hl]; omega
theorem mt_len {op d v : Int} {t f h : ByteArray} (g : Fits d v t f h) : (mt op t f d v h).length ≤ 3377699720527973 := by
  have h1 := txt_len t g.t
  have h2 := txt_len f g.f
  have h3 := txt_len h g.h
  have h4 := num_len d g.d0 g.d1
  have h5 := num_len v g.v0 g.v1
  have := g.t
  have := g.f
  have := g.h
  unfold mt
  simp only [List.length_cons, List.length_append]
  omega
theorem meta_ev {op d v : Int} {t f h : ByteArray} (b : ByteArray) (q : Bool) (g : Fits d v t f h) : Ev (fun k => block_meta.f k op t f d v h b q) (S (mt op t f d v h)) := by
  have h1 := txt_len t g.t
  have h2 := txt_len f g.f
  have h3 := txt_len h g.h
  have h4 := num_len d g.d0 g.d1
  have h5 := num_len v g.v0 g.v1
  have := g.t
  have := g.f
  have := g.h
  unfold block_meta.f
  simp only [Option.bind_some, byt_str]
  refine Ev.bind (text_f t (by omega)) ?_
  refine Ev.congr (fun _ => if_pos (by rw [S_size, S_size]; unfold txt at h1; simp at *; omega)) ?_
  refine Ev.bind (text_f f (by omega)) ?_
  refine Ev.congr (fun _ => if_pos (by rw [S_append, S_size, S_size]; unfold txt at h1 h2; simp at *; omega)) ?_
  refine Ev.bind (num_ev d g.d0 g.d1) ?_
  refine Ev.congr (fun _ => if_pos (by rw [S_append, S_append, S_size, S_size]; unfold txt at h1 h2; simp at *; omega)) ?_
  refine Ev.bind (num_ev v g.v0 g.v1) ?_
  refine Ev.congr (fun _ => if_pos (by rw [S_append, S_append, S_append, S_size, S_size]; unfold txt at h1 h2; simp at *; omega)) ?_
  refine Ev.bind (text_f h (by omega)) ?_
  refine Ev.congr (fun _ => if_pos (by rw [S_append, S_append, S_append, S_append, S_size, S_size]; unfold txt at h1 h2 h3; simp at *; omega)) ?_
  rw [S_append, S_append, S_append, S_append, S_append]
  have e : mt op t f d v h = [byt op] ++ (encU t.size ++ t.toList) ++ (encU f.size ++ f.toList) ++ num d ++ num v ++ (encU h.size ++ h.toList) := by simp [mt, txt]
  rw [e]
  exact Ev.now _
end Go.Proofs.Ytdcbacbilncnnaa.T
end
section
/- A block's header: its numbers, the block ahead, and its revisions' root. -/
set_option linter.unusedVariables false
set_option linter.unusedSimpArgs false
namespace Go.Proofs.Ytdcbacbilncnnaa.T
open Go.RowKit Go.Proofs.Ytdcbacbilncnnaa.PMk Go.Proofs.Ytdcbacbilncnnaa.M Go.Proofs.YtdcbacbilncnnaaW.PrintWords Go.Proofs.YtdcbacbilncnnaaW.PrintLast
theorem len_any (w : World) (base g n : Nat) (vl vp : Value) (L P : List ByteArray) (hA : At w base g vl vp L P) (hn : L.length = n) :
    Calls Try.prog 57 #[.pointer (some ⟨g, 0, none⟩)] w fun e w' => e = .returned (.int .i64 n) ∧ Below w.heap.size w w' := by
  subst hn
  refine (len_raw w base g vl vp L P hA).mono ?_
  rintro e w' ⟨rfl, h⟩
  rw [h]
  exact ⟨rfl, Below.refl _ _⟩
theorem sum_empty : Dig.hash_Sum.f ⟨#[]⟩ = some (Dig.dig ⟨#[]⟩) := rfl
theorem root_nil (w : World) (base g : Nat) (vl vp : Value) (P : List ByteArray) (hA : At w base g vl vp [] P) :
    Calls Try.prog 48 #[.pointer (some ⟨g, 0, none⟩)] w fun e w' => e = .returned (.string (mroot [])) ∧ Below w.heap.size w w' := by
  have HA := Lib.hid hA
  clear hA
  obtain ⟨d, hd⟩ : ∃ d, Dig.dig ⟨#[]⟩ = d := ⟨_, rfl⟩
  have hm : mroot [] = d := mroot_nil.trans hd
  have HS := Lib.hid (fun w' => Dig.hash_Sum.calls ⟨#[]⟩ d w' (sum_empty.trans (congrArg some hd)))
  rw [hm]
  clear hd hm
  go_enter Try.func48, Try.ntmps48
  go_wp2_with (first
    | (go_at_call 57; refine (len_any _ _ _ 0 _ _ _ _ HA.out rfl).mono ?_; rintro e w1 ⟨rfl, hb1⟩; have HB1 := Lib.hid hb1; clear hb1)
    | (go_at_call 44; refine (HS.out _).mono ?_; rintro e w2 ⟨rfl, hb1⟩; have HB2 := Lib.hid (HB1.out.trans (hb1.mono HB1.out.size)); clear hb1))
  go_ret
  exact ⟨rfl, HB2.out⟩
theorem root_all (w : World) (base g : Nat) (vl vp : Value) (L : List ByteArray) (hA : At w base g vl vp L (pk L)) (hw : W32 L) (hn : L.length < 1000000) :
    Calls Try.prog 48 #[.pointer (some ⟨g, 0, none⟩)] w fun e w' => e = .returned (.string (mroot L)) ∧ Below w.heap.size w w' := by
  by_cases h : L = []
  · subst h
    exact root_nil w base g vl vp _ hA
  · exact root_tree w base g vl vp L hA h hw hn
set_option maxRecDepth 100000 in
set_option maxHeartbeats 4000000 in
theorem header_raw (a0 : Int) (a1 : ByteArray) (a2 : Int) (A : Option Addr) (c len : Nat) (L : List ByteArray) (t1 t2 t3 t4 r : ByteArray) (w : World)
    (H1 : Hid (∀ w, Calls Try.prog 45 #[.int .u64 a0] w fun e w' => e = .returned (.string t1) ∧ Below w.heap.size w w'))
    (H2 : Hid (∀ w, Calls Try.prog 46 #[.string a1] w fun e w' => e = .returned (.string t2) ∧ Below w.heap.size w w'))
    (H3 : Hid (∀ w, Calls Try.prog 45 #[.int .u64 a2] w fun e w' => e = .returned (.string t3) ∧ Below w.heap.size w w'))
    (H4 : Hid (∀ w, Calls Try.prog 45 #[.int .u64 (IntKind.u64.wrap len)] w fun e w' => e = .returned (.string t4) ∧ Below w.heap.size w w'))
    (H5 : Hid (∀ w', Below w.heap.size w w' → Calls Try.prog 47 #[.agg #[.int .u64 a0, .string a1, .int .u64 a2, .slice A len c]] w' fun e w2 => ∃ g vl vp, e = .returned (.pointer (some ⟨g, 0, none⟩)) ∧ At w2 w'.heap.size g vl vp L (pk L) ∧ Below w'.heap.size w' w2))
    (H6 : Hid (∀ w base g vl vp, At w base g vl vp L (pk L) → Calls Try.prog 48 #[.pointer (some ⟨g, 0, none⟩)] w fun e w' => e = .returned (.string r) ∧ Below w.heap.size w w'))
    (hs : t1.size + t2.size + t3.size + t4.size + r.size ≤ 9223372036854775807) :
    Calls Try.prog 16 #[.agg #[.int .u64 a0, .string a1, .int .u64 a2, .slice A len c]] w fun e w' => e = .returned (.string ((((t1 ++ t2) ++ t3) ++ t4) ++ r)) ∧ Below w.heap.size w w' := by
  have s1 : (9223372036854775807 < t1.size + t2.size) = False := eq_false (by omega)
  have s2 : (9223372036854775807 < t1.size + t2.size + t3.size) = False := eq_false (by omega)
  have s3 : (9223372036854775807 < t1.size + t2.size + t3.size + t4.size) = False := eq_false (by omega)
  have s4 : (9223372036854775807 < t1.size + t2.size + t3.size + t4.size + r.size) = False := eq_false (by omega)
  clear hs
  go_enter Try.func16, Try.ntmps16
  go_wp2_with fail
  have BK : Hid ((w.alloc (.cells #[.int .u64 a0, .string a1, .int .u64 a2, .slice A len c] 25)).heap[w.heap.size]? = some (.cells #[.int .u64 a0, .string a1, .int .u64 a2, .slice A len c] 25 (0, 0))) := Lib.hid (heap_alloc_new w _)
  have HB : Hid (Below w.heap.size w (w.alloc (.cells #[.int .u64 a0, .string a1, .int .u64 a2, .slice A len c] 25))) := Lib.hid ((Below.refl _ _).alloc (Nat.le_refl _) _)
  generalize w.alloc (.cells #[.int .u64 a0, .string a1, .int .u64 a2, .slice A len c] 25) = W at BK HB ⊢
  refine start_ (n := 22) (S := fun w' => w'.cell? ⟨w.heap.size, 0, none⟩ = some (.int .u64 a0) ∧ w'.cell? ⟨w.heap.size, 1, none⟩ = some (.string a1) ∧ w'.cell? ⟨w.heap.size, 2, none⟩ = some (.int .u64 a2) ∧ w'.cell? ⟨w.heap.size, 3, none⟩ = some (.slice A len c)) (ds := []) #[false, false, false, false, false, false, false, false, false, false, false, false, false, false, false, false, false, false, false, false, false, false] (by kernel_rfl) rfl rfl ⟨(blk_cell BK.out 0).trans rfl, (blk_cell BK.out 1).trans rfl, (blk_cell BK.out 2).trans rfl, (blk_cell BK.out 3).trans rfl⟩ (fun hHeld => ?_)
  refine pure_ (i := 0) (N := some 3) (v := ?_) (a' := ?_) #[true, false, false, false, false, false, false, false, false, false, false, false, false, false, false, false, false, false, false, false, false, false] rfl rfl (by kernel_rfl) (fun _ _ _ h => h) (Or.inl ⟨by rfl, ?_⟩) ?_ ?_
  rotate_left
  · intro w'
    go_simp
    with_reducible rfl
  rotate_left
  · simp only [Act.put, List.setIfInBounds_toArray, List.set_cons_zero, List.set_cons_succ, i64_w, i32_w]
    rfl
  refine pure_ (i := 3) (N := some 6) (v := ?_) (a' := ?_) #[true, false, false, true, false, false, false, false, false, false, false, false, false, false, false, false, false, false, false, false, false, false] rfl rfl (by kernel_rfl) (fun _ _ _ h => h) (Or.inl ⟨by rfl, ?_⟩) ?_ ?_
  rotate_left
  · intro w'
    go_simp
    with_reducible rfl
  rotate_left
  · simp only [Act.put, List.setIfInBounds_toArray, List.set_cons_zero, List.set_cons_succ, i64_w, i32_w]
    rfl
  refine pure_ (i := 7) (N := some 10) (v := ?_) (a' := ?_) #[true, false, false, true, false, false, false, true, false, false, false, false, false, false, false, false, false, false, false, false, false, false] rfl rfl (by kernel_rfl) (fun _ _ _ h => h) (Or.inl ⟨by rfl, ?_⟩) ?_ ?_
  rotate_left
  · intro w'
    go_simp
    with_reducible rfl
  rotate_left
  · simp only [Act.put, List.setIfInBounds_toArray, List.set_cons_zero, List.set_cons_succ, i64_w, i32_w]
    rfl
  refine pure_ (i := 11) (N := some 14) (v := ?_) (a' := ?_) #[true, false, false, true, false, false, false, true, false, false, false, true, false, false, false, false, false, false, false, false, false, false] rfl rfl (by kernel_rfl) (fun _ _ _ h => h) (Or.inl ⟨by rfl, ?_⟩) ?_ ?_
  rotate_left
  · intro w'
    go_simp
    with_reducible rfl
  rotate_left
  · simp only [Act.put, List.setIfInBounds_toArray, List.set_cons_zero, List.set_cons_succ, i64_w, i32_w]
    rfl
  refine take_ (i := 1) (N := some 4) (v := ?_) (a' := ?_) #[true, true, false, true, false, false, false, true, false, false, false, true, false, false, false, false, false, false, false, false, false, false] rfl rfl (by kernel_rfl) (fun _ _ _ h => h) (Or.inl ⟨by rfl, ?_⟩) hHeld ?_ ?_
  rotate_left
  · rintro w' ⟨s0, s1, s2, s3⟩
    go_simp
    with_reducible rfl
  rotate_left
  · simp only [Act.put, List.setIfInBounds_toArray, List.set_cons_zero, List.set_cons_succ, i64_w, i32_w]
    rfl
  refine take_ (i := 4) (N := some 7) (v := ?_) (a' := ?_) #[true, true, false, true, true, false, false, true, false, false, false, true, false, false, false, false, false, false, false, false, false, false] rfl rfl (by kernel_rfl) (fun _ _ _ h => h) (Or.inl ⟨by rfl, ?_⟩) hHeld ?_ ?_
  rotate_left
  · rintro w' ⟨s0, s1, s2, s3⟩
    go_simp
    with_reducible rfl
  rotate_left
  · simp only [Act.put, List.setIfInBounds_toArray, List.set_cons_zero, List.set_cons_succ, i64_w, i32_w]
    rfl
  refine take_ (i := 8) (N := some 11) (v := ?_) (a' := ?_) #[true, true, false, true, true, false, false, true, true, false, false, true, false, false, false, false, false, false, false, false, false, false] rfl rfl (by kernel_rfl) (fun _ _ _ h => h) (Or.inl ⟨by rfl, ?_⟩) hHeld ?_ ?_
  rotate_left
  · rintro w' ⟨s0, s1, s2, s3⟩
    go_simp
    with_reducible rfl
  rotate_left
  · simp only [Act.put, List.setIfInBounds_toArray, List.set_cons_zero, List.set_cons_succ, i64_w, i32_w]
    rfl
  refine take_ (i := 12) (N := some 15) (v := ?_) (a' := ?_) #[true, true, false, true, true, false, false, true, true, false, false, true, true, false, false, false, false, false, false, false, false, false] rfl rfl (by kernel_rfl) (fun _ _ _ h => h) (Or.inl ⟨by rfl, ?_⟩) hHeld ?_ ?_
  rotate_left
  · rintro w' ⟨s0, s1, s2, s3⟩
    go_simp
    with_reducible rfl
  rotate_left
  · simp only [Act.put, List.setIfInBounds_toArray, List.set_cons_zero, List.set_cons_succ, i64_w, i32_w]
    rfl
  refine pure_ (i := 13) (N := some 16) (v := ?_) (a' := ?_) #[true, true, false, true, true, false, false, true, true, false, false, true, true, true, false, false, false, false, false, false, false, false] rfl rfl (by kernel_rfl) (fun _ _ _ h => h) (Or.inl ⟨by rfl, ?_⟩) ?_ ?_
  rotate_left
  · intro w'
    go_simp
    with_reducible rfl
  rotate_left
  · simp only [Act.put, List.setIfInBounds_toArray, List.set_cons_zero, List.set_cons_succ, i64_w, i32_w]
    rfl
  refine pure_ (i := 14) (N := some 17) (v := ?_) (a' := ?_) #[true, true, false, true, true, false, false, true, true, false, false, true, true, true, true, false, false, false, false, false, false, false] rfl rfl (by kernel_rfl) (fun _ _ _ h => h) (Or.inl ⟨by rfl, ?_⟩) ?_ ?_
  rotate_left
  · intro w'
    go_simp
    with_reducible rfl
  rotate_left
  · simp only [Act.put, List.setIfInBounds_toArray, List.set_cons_zero, List.set_cons_succ, i64_w, i32_w]
    rfl
  refine take_ (i := 17) (N := some 20) (v := ?_) (a' := ?_) #[true, true, false, true, true, false, false, true, true, false, false, true, true, true, true, false, false, true, false, false, false, false] rfl rfl (by kernel_rfl) (fun _ _ _ h => h) (Or.inl ⟨by rfl, ?_⟩) hHeld ?_ ?_
  rotate_left
  · rintro w' ⟨s0, s1, s2, s3⟩
    go_simp
    with_reducible rfl
  rotate_left
  · simp only [Act.put, List.setIfInBounds_toArray, List.set_cons_zero, List.set_cons_succ, i64_w, i32_w]
    rfl
  refine one_ (i := 2) (N := some 5) #[true, true, true, true, true, false, false, true, true, false, false, true, true, true, true, false, false, true, false, false, false, false] rfl rfl (by kernel_rfl) (by decide) (fun K hK => ?_)
  refine goes_ Try.func45 (by kernel_rfl) rfl #[.int .u64 a0] (by rfl) rfl rfl (by simp only [List.map_toArray, List.map_cons, List.map_nil]; rfl) ?_
  with_reducible refine (H1.out _).mono ?_
  rintro e w2 ⟨rfl, hb⟩
  refine ⟨_, rfl, ?_⟩
  have BK2 := Lib.hid (blk_below BK.out (below_drew hb))
  have HB2 := Lib.hid (HB.out.trans ((below_drew hb).mono HB.out.size))
  clear hb
  refine hK.out _ _ ⟨(blk_cell BK2.out 0).trans rfl, (blk_cell BK2.out 1).trans rfl, (blk_cell BK2.out 2).trans rfl, (blk_cell BK2.out 3).trans rfl⟩ (fun hHeld => ?_)
  clear hK K
  refine norm_ (a' := ?_) ?_ ?_
  rotate_left
  · show Act.put _ (some 5) _ = _
    simp only [Act.put, List.setIfInBounds_toArray, List.set_cons_zero, List.set_cons_succ, i64_w, i32_w]
    rfl
  refine one_ (i := 5) (N := some 8) #[true, true, true, true, true, true, false, true, true, false, false, true, true, true, true, false, false, true, false, false, false, false] rfl rfl (by kernel_rfl) (by decide) (fun K hK => ?_)
  refine goes_ Try.func46 (by kernel_rfl) rfl #[.string a1] (by rfl) rfl rfl (by simp only [List.map_toArray, List.map_cons, List.map_nil]; rfl) ?_
  with_reducible refine (H2.out _).mono ?_
  rintro e w3 ⟨rfl, hb⟩
  refine ⟨_, rfl, ?_⟩
  have BK3 := Lib.hid (blk_below BK2.out hb)
  have HB3 := Lib.hid (HB2.out.trans (hb.mono HB2.out.size))
  clear hb
  refine hK.out _ _ ⟨(blk_cell BK3.out 0).trans rfl, (blk_cell BK3.out 1).trans rfl, (blk_cell BK3.out 2).trans rfl, (blk_cell BK3.out 3).trans rfl⟩ (fun hHeld => ?_)
  clear hK K
  refine norm_ (a' := ?_) ?_ ?_
  rotate_left
  · show Act.put _ (some 8) _ = _
    simp only [Act.put, List.setIfInBounds_toArray, List.set_cons_zero, List.set_cons_succ, i64_w, i32_w]
    rfl
  refine pure_ (i := 6) (N := some 9) (v := ?_) (a' := ?_) #[true, true, true, true, true, true, true, true, true, false, false, true, true, true, true, false, false, true, false, false, false, false] rfl rfl (by kernel_rfl) (fun _ _ _ h => h) (Or.inl ⟨by rfl, ?_⟩) ?_ ?_
  rotate_left
  · intro w'
    go_simp
    with_reducible rfl
  rotate_left
  · simp only [Act.put, List.setIfInBounds_toArray, List.set_cons_zero, List.set_cons_succ, i64_w, i32_w]
    rfl
  refine one_ (i := 9) (N := some 12) #[true, true, true, true, true, true, true, true, true, true, false, true, true, true, true, false, false, true, false, false, false, false] rfl rfl (by kernel_rfl) (by decide) (fun K hK => ?_)
  refine goes_ Try.func45 (by kernel_rfl) rfl #[.int .u64 a2] (by rfl) rfl rfl (by simp only [List.map_toArray, List.map_cons, List.map_nil]; rfl) ?_
  with_reducible refine (H3.out _).mono ?_
  rintro e w4 ⟨rfl, hb⟩
  refine ⟨_, rfl, ?_⟩
  have BK4 := Lib.hid (blk_below BK3.out hb)
  have HB4 := Lib.hid (HB3.out.trans (hb.mono HB3.out.size))
  clear hb
  refine hK.out _ _ ⟨(blk_cell BK4.out 0).trans rfl, (blk_cell BK4.out 1).trans rfl, (blk_cell BK4.out 2).trans rfl, (blk_cell BK4.out 3).trans rfl⟩ (fun hHeld => ?_)
  clear hK K
  refine norm_ (a' := ?_) ?_ ?_
  rotate_left
  · show Act.put _ (some 12) _ = _
    simp only [Act.put, List.setIfInBounds_toArray, List.set_cons_zero, List.set_cons_succ, i64_w, i32_w]
    rfl
  refine pure_ (i := 10) (N := some 13) (v := ?_) (a' := ?_) #[true, true, true, true, true, true, true, true, true, true, true, true, true, true, true, false, false, true, false, false, false, false] rfl rfl (by kernel_rfl) (fun _ _ _ h => h) (Or.inl ⟨by rfl, ?_⟩) ?_ ?_
  rotate_left
  · intro w'
    go_simp
    with_reducible rfl
  rotate_left
  · simp only [Act.put, List.setIfInBounds_toArray, List.set_cons_zero, List.set_cons_succ, i64_w, i32_w]
    rfl
  refine one_ (i := 15) (N := some 18) #[true, true, true, true, true, true, true, true, true, true, true, true, true, true, true, true, false, true, false, false, false, false] rfl rfl (by kernel_rfl) (by decide) (fun K hK => ?_)
  refine goes_ Try.func45 (by kernel_rfl) rfl #[.int .u64 (IntKind.u64.wrap len)] (by rfl) rfl rfl (by simp only [List.map_toArray, List.map_cons, List.map_nil]; rfl) ?_
  with_reducible refine (H4.out _).mono ?_
  rintro e w5 ⟨rfl, hb⟩
  refine ⟨_, rfl, ?_⟩
  have BK5 := Lib.hid (blk_below BK4.out hb)
  have HB5 := Lib.hid (HB4.out.trans (hb.mono HB4.out.size))
  clear hb
  refine hK.out _ _ ⟨(blk_cell BK5.out 0).trans rfl, (blk_cell BK5.out 1).trans rfl, (blk_cell BK5.out 2).trans rfl, (blk_cell BK5.out 3).trans rfl⟩ (fun hHeld => ?_)
  clear hK K
  refine norm_ (a' := ?_) ?_ ?_
  rotate_left
  · show Act.put _ (some 18) _ = _
    simp only [Act.put, List.setIfInBounds_toArray, List.set_cons_zero, List.set_cons_succ, i64_w, i32_w]
    rfl
  refine pure_ (i := 16) (N := some 19) (v := ?_) (a' := ?_) #[true, true, true, true, true, true, true, true, true, true, true, true, true, true, true, true, true, true, false, false, false, false] rfl rfl (by kernel_rfl) (fun _ _ _ h => h) (Or.inl ⟨by rfl, ?_⟩) ?_ ?_
  rotate_left
  · intro w'
    go_simp
    with_reducible rfl
  rotate_left
  · simp only [Act.put, List.setIfInBounds_toArray, List.set_cons_zero, List.set_cons_succ, i64_w, i32_w]
    rfl
  refine one_ (i := 18) (N := some 21) #[true, true, true, true, true, true, true, true, true, true, true, true, true, true, true, true, true, true, true, false, false, false] rfl rfl (by kernel_rfl) (by decide) (fun K hK => ?_)
  refine goes_ Try.func47 (by kernel_rfl) rfl #[.agg #[.int .u64 a0, .string a1, .int .u64 a2, .slice A len c]] (by rfl) rfl rfl (by simp only [List.map_toArray, List.map_cons, List.map_nil]; rfl) ?_
  with_reducible refine (H5.out _ HB5.out).mono ?_
  rintro e w6 ⟨gt, vl, vp, rfl, hA, hb⟩
  refine ⟨_, rfl, ?_⟩
  have BK6 := Lib.hid (blk_below BK5.out hb)
  have HB6 := Lib.hid (HB5.out.trans (hb.mono HB5.out.size))
  have HA := Lib.hid hA
  clear hb hA
  refine hK.out _ _ ⟨(blk_cell BK6.out 0).trans rfl, (blk_cell BK6.out 1).trans rfl, (blk_cell BK6.out 2).trans rfl, (blk_cell BK6.out 3).trans rfl⟩ (fun hHeld => ?_)
  clear hK K
  refine norm_ (a' := ?_) ?_ ?_
  rotate_left
  · show Act.put _ (some 21) _ = _
    simp only [Act.put, List.setIfInBounds_toArray, List.set_cons_zero, List.set_cons_succ, i64_w, i32_w]
    rfl
  refine one_ (i := 19) (N := some 22) #[true, true, true, true, true, true, true, true, true, true, true, true, true, true, true, true, true, true, true, true, false, false] rfl rfl (by kernel_rfl) (by decide) (fun K hK => ?_)
  refine goes_ Try.func48 (by kernel_rfl) rfl #[.pointer (some ⟨gt, 0, none⟩)] (by rfl) rfl rfl (by simp only [List.map_toArray, List.map_cons, List.map_nil]; rfl) ?_
  with_reducible refine (H6.out _ _ _ _ _ HA.out).mono ?_
  rintro e w7 ⟨rfl, hb⟩
  refine ⟨_, rfl, ?_⟩
  have BK7 := Lib.hid (blk_below BK6.out hb)
  have HB7 := Lib.hid (HB6.out.trans (hb.mono HB6.out.size))
  clear hb
  refine hK.out _ _ ⟨(blk_cell BK7.out 0).trans rfl, (blk_cell BK7.out 1).trans rfl, (blk_cell BK7.out 2).trans rfl, (blk_cell BK7.out 3).trans rfl⟩ (fun hHeld => ?_)
  clear hK K
  refine norm_ (a' := ?_) ?_ ?_
  rotate_left
  · show Act.put _ (some 22) _ = _
    simp only [Act.put, List.setIfInBounds_toArray, List.set_cons_zero, List.set_cons_succ, i64_w, i32_w]
    rfl
  refine pure_ (i := 20) (N := some 23) (v := ?_) (a' := ?_) #[true, true, true, true, true, true, true, true, true, true, true, true, true, true, true, true, true, true, true, true, true, false] rfl rfl (by kernel_rfl) (fun _ _ _ h => h) (Or.inl ⟨by rfl, ?_⟩) ?_ ?_
  rotate_left
  · intro w'
    go_simp
    with_reducible rfl
  rotate_left
  · simp only [Act.put, List.setIfInBounds_toArray, List.set_cons_zero, List.set_cons_succ, i64_w, i32_w]
    rfl
  refine pure_ (i := 21) (N := some 2) (v := ?_) (a' := ?_) #[true, true, true, true, true, true, true, true, true, true, true, true, true, true, true, true, true, true, true, true, true, true] rfl rfl (by kernel_rfl) (fun _ _ _ h => h) (Or.inl ⟨by rfl, ?_⟩) ?_ ?_
  rotate_left
  · intro w'
    go_simp
    with_reducible rfl
  rotate_left
  · simp only [Act.put, List.setIfInBounds_toArray, List.set_cons_zero, List.set_cons_succ, i64_w, i32_w]
    rfl
  refine done_ (by kernel_rfl) ?_
  go_wp2
  go_ret
  exact ⟨rfl, HB7.out⟩
end Go.Proofs.Ytdcbacbilncnnaa.T
end
section
/- A block's header and digest: what the program comes to. -/
set_option linter.unusedVariables false
set_option linter.unusedSimpArgs false
namespace Go.Proofs.Ytdcbacbilncnnaa.T
open Go.RowKit Go.Proofs.Ytdcbacbilncnnaa.PMk Go.Proofs.Ytdcbacbilncnnaa.M Go.Proofs.Ytdcbacbilncnnaa.EncS Go.Proofs.Ytdcbacbilncnnaa.EncL Go.Proofs.YtdcbacbilncnnaaW.PrintWords Go.Proofs.YtdcbacbilncnnaaW.PrintLast
def mx (x : S47) : List UInt8 := mt x.f0 x.f1 x.f2 x.f3 x.f4 x.f5
def FitsL (l : List S47) : Prop := ∀ x ∈ l, Fits x.f3 x.f4 x.f1 x.f2 x.f5
def ms (l : List S47) : List ByteArray := l.map fun x => S (mx x)
theorem metas_ev : ∀ {l : List S47}, FitsL l → Ev (fun k => metas k l) (ms l)
  | [], _ => Ev.now _
  | x :: l, h => by
    have hx := h x (by simp)
    have hl := mt_len (op := x.f0) hx
    show Ev (fun k => (metaOf k x).bind fun m => if m.size < 1152921504606846000 then (metas k l).bind fun M => some (m :: M) else none) _
    refine Ev.bind (meta_ev x.f6 x.f7 hx) ?_
    refine Ev.congr (fun _ => if_pos (by rw [S_size]; omega)) ?_
    exact Ev.bind (metas_ev fun y hy => h y (by simp [hy])) (Ev.now _)
structure FitsB (a0 : Int) (a1 : ByteArray) (a2 : Int) (l : List S47) : Prop where
  p0 : 0 ≤ a0
  p1 : a0 < 18446744073709551616
  s : a1.size ≤ 1125899906842624
  q0 : 0 ≤ a2
  q1 : a2 < 18446744073709551616
  ls : FitsL l
  n : l.length < 1000
/-- A block's leaves. -/
def lvs (l : List S47) : List ByteArray := lv (ms l) (ms l).length
def pre (a0 : Int) (a1 : ByteArray) (a2 : Int) (n : Nat) : ByteArray := ((S (num a0) ++ S (txt a1)) ++ S (num a2)) ++ S (encU n)
def hdr (a0 : Int) (a1 : ByteArray) (a2 : Int) (l : List S47) : ByteArray := pre a0 a1 a2 l.length ++ mroot (lvs l)
theorem ms_len (l : List S47) : (ms l).length = l.length := by simp [ms]
theorem lvs_w32 (l : List S47) : W32 (lvs l) := lv_w32 _ _
theorem lvs_len (l : List S47) : (lvs l).length = l.length := by unfold lvs; rw [lv_len (Nat.le_refl _), ms_len]
theorem pre_size {a0 : Int} {a1 : ByteArray} {a2 : Int} {l : List S47} (g : FitsB a0 a1 a2 l) : (S (num a0)).size ≤ 10 ∧ (S (txt a1)).size ≤ 1125899906842634 ∧ (S (num a2)).size ≤ 10 ∧ (S (encU l.length)).size ≤ 10 := by
  have h1 := num_len a0 g.p0 g.p1
  have h2 := txt_len a1 g.s
  have h3 := num_len a2 g.q0 g.q1
  have := g.n
  have h4 := encU_len l.length (by omega)
  have := g.s
  rw [S_size, S_size, S_size, S_size]
  omega
theorem hdr_size {a0 : Int} {a1 : ByteArray} {a2 : Int} {l : List S47} (g : FitsB a0 a1 a2 l) : (hdr a0 a1 a2 l).size ≤ 1125899906842700 := by
  obtain ⟨h1, h2, h3, h4⟩ := pre_size g
  unfold hdr pre
  rw [ByteArray.size_append, ByteArray.size_append, ByteArray.size_append, ByteArray.size_append, mroot_size (lvs_w32 l)]
  omega
theorem header_any (a0 : Int) (a1 : ByteArray) (a2 : Int) (A : Option Addr) (c : Nat) (l : List S47) (g : FitsB a0 a1 a2 l) (w : World) (hC : Kd.C k47 w A l.length l) :
    Calls Try.prog 16 #[.agg #[.int .u64 a0, .string a1, .int .u64 a2, .slice A l.length c]] w fun e w' => e = .returned (.string (hdr a0 a1 a2 l)) ∧ Below w.heap.size w w' := by
  obtain ⟨k1, e1⟩ := (num_ev a0 g.p0 g.p1).rounds
  obtain ⟨k2, e2⟩ := (text_f a1 (by have := g.s; omega)).rounds
  obtain ⟨k3, e3⟩ := (num_ev a2 g.q0 g.q1).rounds
  have hn := g.n
  have hw := u64_in (l.length : Int) (by omega) (by omega)
  obtain ⟨k4, e4⟩ := (uint_f l.length (by omega)).rounds
  obtain ⟨k5, e5⟩ := (metas_ev g.ls).rounds
  obtain ⟨h1, h2, h3, h4⟩ := pre_size g
  have hz := mroot_size (lvs_w32 l)
  refine header_raw a0 a1 a2 A c l.length (lvs l) (S (num a0)) (S (txt a1)) (S (num a2)) (S (encU l.length)) (mroot (lvs l)) w (Lib.hid fun w => enc_Uint.calls k1 a0 _ w e1) (Lib.hid fun w => enc_Text.calls k2 a1 _ w e2) (Lib.hid fun w => enc_Uint.calls k3 a2 _ w e3)
    (Lib.hid fun w => ?_) (Lib.hid fun w' hb => tree_raw k5 a0 a1 a2 A c l (ms l) w' (Kd.C_below hC hb) e5 hn) (Lib.hid fun w base g vl vp hA => root_all w base g vl vp (lvs l) hA (lvs_w32 l) (by rw [lvs_len]; omega)) (by omega)
  rw [hw]
  exact enc_Uint.calls k4 (l.length : Int) _ w e4
theorem hash_raw (a0 : Int) (a1 : ByteArray) (a2 : Int) (A : Option Addr) (c n : Nat) (h d : ByteArray) (w : World)
    (H : Hid (∀ w', Below w.heap.size w w' → Calls Try.prog 16 #[.agg #[.int .u64 a0, .string a1, .int .u64 a2, .slice A n c]] w' fun e w2 => e = .returned (.string h) ∧ Below w'.heap.size w' w2))
    (HD : Hid (∀ w, Calls Try.prog 44 #[.string ((⟨#[2]⟩ : ByteArray) ++ h)] w fun e w' => e = .returned (.string d) ∧ Below w.heap.size w w')) (hs : 1 + h.size ≤ 9223372036854775807) :
    Calls Try.prog 14 #[.agg #[.int .u64 a0, .string a1, .int .u64 a2, .slice A n c]] w fun e w' => e = .returned (.string d) ∧ Below w.heap.size w w' := by
  have s1 : (9223372036854775807 < 1 + h.size) = False := eq_false (by omega)
  have HB := Lib.hid ((Below.refl w.heap.size w).alloc (Nat.le_refl _) (.cells #[.int .u64 a0, .string a1, .int .u64 a2, .slice A n c] 25))
  go_enter Try.func14, Try.ntmps14
  go_wp2_with (first
    | (go_at_call 16; refine (H.out _ HB.out).mono ?_; rintro e w1 ⟨rfl, hb⟩; have HB1 := Lib.hid (HB.out.trans (hb.mono HB.out.size)); clear hb)
    | (go_at_call 44; refine (HD.out _).mono ?_; rintro e w2 ⟨rfl, hb⟩; have HB2 := Lib.hid (HB1.out.trans (hb.mono HB1.out.size)); clear hb))
  go_ret
  exact ⟨rfl, HB2.out⟩
/-- A block's digest. -/
def bhash (a0 : Int) (a1 : ByteArray) (a2 : Int) (l : List S47) : ByteArray := Dig.dig ((⟨#[2]⟩ : ByteArray) ++ hdr a0 a1 a2 l)
theorem two_size (h : ByteArray) : ((⟨#[2]⟩ : ByteArray) ++ h).size = 1 + h.size := by rw [ByteArray.size_append]; rfl
theorem sum_f (s : ByteArray) (h : s.size < 1152921504606846970) : Dig.hash_Sum.f s = some (Dig.dig s) := by
  unfold Dig.hash_Sum.f
  rw [if_pos (by omega)]
theorem hash_any (a0 : Int) (a1 : ByteArray) (a2 : Int) (A : Option Addr) (c : Nat) (l : List S47) (g : FitsB a0 a1 a2 l) (w : World) (hC : Kd.C k47 w A l.length l) :
    Calls Try.prog 14 #[.agg #[.int .u64 a0, .string a1, .int .u64 a2, .slice A l.length c]] w fun e w' => e = .returned (.string (bhash a0 a1 a2 l)) ∧ Below w.heap.size w w' := by
  have hs := hdr_size g
  exact hash_raw a0 a1 a2 A c l.length (hdr a0 a1 a2 l) _ w (Lib.hid fun w' hb => header_any a0 a1 a2 A c l g w' (Kd.C_below hC hb)) (Lib.hid fun w => Dig.hash_Sum.calls _ _ w (sum_f _ (by rw [two_size]; omega))) (by omega)
end Go.Proofs.Ytdcbacbilncnnaa.T
end
section
/- The laws' guard: a block's digest does not hang on whether a body is gone. -/
set_option linter.unusedVariables false
set_option linter.unusedSimpArgs false
namespace Go.Proofs.Ytdcbacbilncnnaa.T
open Go.RowKit Go.Proofs.Ytdcbacbilncnnaa.PMk Go.Proofs.Ytdcbacbilncnnaa.M Go.Proofs.Ytdcbacbilncnnaa.EncS Go.Proofs.Ytdcbacbilncnnaa.EncL Go.Proofs.YtdcbacbilncnnaaW.PrintWords Go.Proofs.YtdcbacbilncnnaaW.PrintLast
theorem C_one {W : World} {g : Nat} {x : S47} {fr : Nat × Nat} (h : W.heap[g]? = some (.cells #[.int .i64 x.f0, .string x.f1, .string x.f2, .int .u64 x.f3, .int .u64 x.f4, .string x.f5, .string x.f6, .bool x.f7] 47 fr)) : Kd.C k47 W (some ⟨g, 0, none⟩) 1 [x] := by
  refine ⟨rfl, by decide, fun _ => ⟨⟨g, 0, none⟩, rfl, fun j p hj => ?_⟩⟩
  have hj0 : j = 0 := by
    have := (List.getElem?_eq_some_iff.1 hj).1
    simp at this
    exact this
  subst hj0
  simp only [List.getElem?_cons_zero, Option.some.injEq] at hj
  subst hj
  refine ⟨_, rfl, k47_mk W x, fun i u hu => ?_⟩
  rw [show 0 * k47.sz + i = i by omega]
  exact World.news_of_block h i u hu
def awx (H : ByteArray) : S47 := ⟨3, ⟨#[116]⟩, ⟨#[]⟩, 1, 0, H, ⟨#[120]⟩, false⟩
theorem aw_fits (H : ByteArray) (hH : H.size = 32) : Fits 1 0 ⟨#[116]⟩ ⟨#[]⟩ H := ⟨by decide, by decide, by decide, by decide, by decide, by decide, by omega⟩
theorem name_t : value_Name.f 9 ⟨#[116]⟩ = some true := by decide +kernel
theorem aw_check (H : ByteArray) (h : hash_Leaf.f ⟨#[120]⟩ = some H) : block_Check.f 10 3 ⟨#[116]⟩ ⟨#[]⟩ 1 0 H ⟨#[120]⟩ false = some 0 := by
  have e : ((⟨#[]⟩ : ByteArray).toList == ([] : List UInt8)) = true := by decide +kernel
  have hn : block_numbers.f 3 ⟨#[116]⟩ ⟨#[]⟩ 1 0 H ⟨#[120]⟩ false = some true := rfl
  have hb : block_bytes.f 3 ⟨#[116]⟩ ⟨#[]⟩ 1 0 H ⟨#[120]⟩ false = some true := by
    unfold block_bytes.f
    rw [show block_bodied.f 3 = some true from rfl, Option.bind_some, if_pos rfl, if_neg (by decide), h, Option.bind_some, if_pos rfl]
    rfl
  show block_Check.j0 (9 + 1) ((⟨#[]⟩ : ByteArray).toList == ([] : List UInt8)) 3 ⟨#[116]⟩ ⟨#[]⟩ 1 0 H ⟨#[120]⟩ false = some 0
  rw [e, block_Check.j0]
  rw [if_neg (by decide), if_neg (by decide), name_t, Option.bind_some, if_pos rfl, if_pos rfl, hn, Option.bind_some, if_pos rfl, hb, Option.bind_some, if_pos rfl]
theorem aw_follows (H : ByteArray) (h : hash_Leaf.f ⟨#[120]⟩ = some H) : block_Follows.f 13 0 ⟨#[]⟩ 0 [awx H] 0 ⟨#[]⟩ = some 0 := by
  have hc := aw_check H h
  have h1 : block_Follows.l0 (10 + 1) 0 ⟨#[]⟩ [awx H] 1 (wrap64 (0 + 1)) 0 ⟨#[]⟩ 0 [awx H] = some 0 := by
    rw [block_Follows.l0]
    rw [if_neg (by decide +kernel), if_pos rfl, if_pos rfl]
  have h0 : block_Follows.l0 (11 + 1) 0 ⟨#[]⟩ [awx H] 1 0 0 ⟨#[]⟩ 0 [awx H] = some 0 := by
    rw [block_Follows.l0]
    have hc' : block_Check.f 11 3 ⟨#[116]⟩ ⟨#[]⟩ 1 0 H ⟨#[120]⟩ false = some 0 := block_Check.mono _ _ _ _ _ _ _ _ 10 _ hc
    rw [if_pos (by decide), if_pos (by decide), if_pos (by show (0 : Int) < 1; decide)]
    show (block_Check.f 11 3 ⟨#[116]⟩ ⟨#[]⟩ 1 0 H ⟨#[120]⟩ false).bind _ = _
    rw [hc', Option.bind_some, if_pos rfl]
    exact h1
  show block_Follows.j0 (12 + 1) 0 ⟨#[]⟩ false 0 ⟨#[]⟩ 0 [awx H] = some 0
  rw [block_Follows.j0]
  rw [if_neg (by decide)]
  exact h0
/-- What holds ahead of the guard's comparisons: two blocks in memory. -/
structure AW (w wr : World) (gb gs gc gr cr : Nat) (H : ByteArray) : Prop where
  b0 : wr.cell? ⟨gb, 0, none⟩ = some (.int .u64 0)
  b1 : wr.cell? ⟨gb, 1, none⟩ = some (.string ⟨#[]⟩)
  b2 : wr.cell? ⟨gb, 2, none⟩ = some (.int .u64 0)
  b3 : wr.cell? ⟨gb, 3, none⟩ = some (.slice (some ⟨gs, 0, none⟩) 1 1)
  c0 : wr.cell? ⟨gc, 0, none⟩ = some (.int .u64 0)
  c1 : wr.cell? ⟨gc, 1, none⟩ = some (.string ⟨#[]⟩)
  c2 : wr.cell? ⟨gc, 2, none⟩ = some (.int .u64 0)
  c3 : wr.cell? ⟨gc, 3, none⟩ = some (.slice (some ⟨gr, 0, none⟩) 1 cr)
  r7 : wr.cell? ⟨gr, 7, none⟩ = some (.bool true)
  k1 : Kd.C k47 wr (some ⟨gs, 0, none⟩) 1 [awx H]
  k2 : Kd.C k47 wr (some ⟨gr, 0, none⟩) 1 [bare (awx H)]
  b : Below w.heap.size w wr
theorem AW.below {w wr w1 : World} {gb gs gc gr cr : Nat} {H : ByteArray} (h : AW w wr gb gs gc gr cr H) (hb : Below wr.heap.size wr w1) : AW w w1 gb gs gc gr cr H :=
  ⟨(hb.cell (World.block_lt_of_cell? _ _ h.b0)).trans h.b0, (hb.cell (World.block_lt_of_cell? _ _ h.b1)).trans h.b1, (hb.cell (World.block_lt_of_cell? _ _ h.b2)).trans h.b2, (hb.cell (World.block_lt_of_cell? _ _ h.b3)).trans h.b3,
   (hb.cell (World.block_lt_of_cell? _ _ h.c0)).trans h.c0, (hb.cell (World.block_lt_of_cell? _ _ h.c1)).trans h.c1, (hb.cell (World.block_lt_of_cell? _ _ h.c2)).trans h.c2, (hb.cell (World.block_lt_of_cell? _ _ h.c3)).trans h.c3, (hb.cell (World.block_lt_of_cell? _ _ h.r7)).trans h.r7,
   Kd.C_below h.k1 hb, Kd.C_below h.k2 hb, h.b.trans (hb.mono h.b.size)⟩
theorem sealed_aw (H : ByteArray) (h : hash_Leaf.f ⟨#[120]⟩ = some H) (w : World) : Calls Try.prog 30 #[.agg #[.int .i64 3, .string ⟨#[116]⟩, .string ⟨#[]⟩, .int .u64 1, .int .u64 0, .string ⟨#[]⟩, .string ⟨#[120]⟩, .bool false]] w fun e w' => e = .returned (.agg #[.int .i64 3, .string ⟨#[116]⟩, .string ⟨#[]⟩, .int .u64 1, .int .u64 0, .string H, .string ⟨#[120]⟩, .bool false]) ∧ Below w.heap.size w w' := by
  refine block_Sealed.calls 3 ⟨#[116]⟩ ⟨#[]⟩ 1 0 ⟨#[]⟩ ⟨#[120]⟩ false 3 ⟨#[116]⟩ ⟨#[]⟩ 1 0 H ⟨#[120]⟩ false w ?_
  unfold block_Sealed.f
  rw [show block_bodied.f 3 = some true from rfl, Option.bind_some, if_pos rfl, h]
  rfl
theorem follows_any (k : Nat) (a0 : Int) (a1 : ByteArray) (a2 : Int) (A : Option Addr) (c n : Nat) (l : List S47) (x : Int) (y : ByteArray) (r : Int) (w : World) (hn : l.length = n) (hC : Kd.C k47 w A n l) (hc : n ≤ c) (h : block_Follows.f k a0 a1 a2 l x y = some r) :
    Calls Try.prog 40 #[.agg #[.int .u64 a0, .string a1, .int .u64 a2, .slice A n c], .int .u64 x, .string y] w fun e w' => e = .returned (.int .i64 r) ∧ Below w.heap.size w w' := by
  subst hn
  exact block_Follows.calls k a0 a1 a2 A c l x y r w hC hc h
theorem hash_n (a0 : Int) (a1 : ByteArray) (a2 : Int) (A : Option Addr) (c n : Nat) (l : List S47) (d : ByteArray) (hn : l.length = n) (g : FitsB a0 a1 a2 l) (hd : bhash a0 a1 a2 l = d) (w : World) (hC : Kd.C k47 w A n l) :
    Calls Try.prog 14 #[.agg #[.int .u64 a0, .string a1, .int .u64 a2, .slice A n c]] w fun e w' => e = .returned (.string d) ∧ Below w.heap.size w w' := by
  subst hn
  subst hd
  exact hash_any a0 a1 a2 A c l g w hC
theorem aw_fitsB (H : ByteArray) (hH : H.size = 32) (x : S47) (hx : x = awx H ∨ x = bare (awx H)) : FitsB 0 ⟨#[]⟩ 0 [x] := by
  refine ⟨by decide, by decide, by decide, by decide, by decide, ?_, by simp⟩
  intro y hy
  simp at hy
  subst hy
  rcases hx with rfl | rfl <;> exact aw_fits H hH
theorem without_n (a0 : Int) (a1 : ByteArray) (a2 : Int) (A : Option Addr) (c n : Nat) (l : List S47) (i : Int) (w : World) (hl : l.length = n) (hC : Kd.C k47 w A n l) (hb : wo l i = true) (hn : n < 1000000) :
    Calls Try.prog 19 #[.agg #[.int .u64 a0, .string a1, .int .u64 a2, .slice A n c], .int .i64 i] w fun e w' => ∃ v, e = .returned (.tuple #[.agg #[.int .u64 a0, .string a1, .int .u64 a2, v], .int .i64 0]) ∧ Kd.R k47 47 w' w.heap.size (fun _ => True) v (l.set i.toNat (bare (rd_T47 l i))) ∧ Below w.heap.size w w' := by
  subst hl
  exact without_ok a0 a1 a2 A c l i w hC hb hn
set_option maxRecDepth 100000 in
set_option maxHeartbeats 4000000 in
theorem awake_raw (w : World) : Calls Try.prog 12 #[] w fun e w' => e = .returned (.bool true) ∧ Below w.heap.size w w' := by
  obtain ⟨H, hH⟩ : ∃ H, leaf ⟨#[120]⟩ = H := ⟨_, rfl⟩
  have hH32 : H.size = 32 := hH ▸ leaf_size _
  have hL : hash_Leaf.f ⟨#[120]⟩ = some H := hH ▸ leaf_f _ (by decide)
  obtain ⟨d, hd⟩ : ∃ d, bhash 0 ⟨#[]⟩ 0 [awx H] = d := ⟨_, rfl⟩
  have hd2 : bhash 0 ⟨#[]⟩ 0 [bare (awx H)] = d := hd ▸ rfl
  have hd32 : d.size = 32 := hd ▸ Dig.dig_size _
  have HS := Lib.hid (sealed_aw H hL)
  have HF := Lib.hid (fun w' gs hC => follows_any 13 0 ⟨#[]⟩ 0 (some ⟨gs, 0, none⟩) 1 1 [awx H] 0 ⟨#[]⟩ 0 w' rfl hC (Nat.le_refl _) (aw_follows H hL))
  have HH := Lib.hid (fun A c w' hC => hash_n 0 ⟨#[]⟩ 0 A c 1 [awx H] d rfl (aw_fitsB H hH32 _ (.inl rfl)) hd w' hC)
  have HG := Lib.hid (fun A c w' hC => hash_n 0 ⟨#[]⟩ 0 A c 1 [bare (awx H)] d rfl (aw_fitsB H hH32 _ (.inr rfl)) hd2 w' hC)
  have hdz : ((d.size : Int) == 32) = true := by rw [hd32]; rfl
  have HW := Lib.hid (fun A c w' hC => without_n 0 ⟨#[]⟩ 0 A c 1 [awx H] 0 w' rfl hC rfl (by decide))
  clear hd hd2 hL hH
  go_enter Try.func12, Try.ntmps12
  go_wp2_with (first
    | (go_at_call 30; refine (HS.out _).mono ?_; rintro e w1 ⟨rfl, hb⟩; have HB1 := Lib.hid hb; clear hb)
    | (go_at_call 19; refine (HW.out _ _ _ (C_one (x := awx H) (blk_alloc (heap_alloc_new w1 _) _))).mono ?_; rintro e w2 ⟨v, rfl, hR, hb⟩; replace hR : Kd.R k47 47 w2 _ (fun _ => True) v [bare (awx H)] := hR; obtain ⟨gr, cr, rfl, hg1, hg2, _⟩ := Kd.R_form hR (by simp); have HR := Lib.hid hR; have HB2 := Lib.hid hb; clear hR hb))
  have HQ : Hid (AW w (w2.alloc (.cells #[.int .u64 0, .string ⟨#[]⟩, .int .u64 0, .slice (some ⟨gr, 0, none⟩) 1 cr] 25)) (w1.heap.size + 1) w1.heap.size w2.heap.size gr cr H) := by
    have hb2 := HB2.out
    have hb3 := (Below.refl w2.heap.size w2).alloc (Nat.le_refl _) (.cells #[.int .u64 0, .string ⟨#[]⟩, .int .u64 0, .slice (some ⟨gr, 0, none⟩) 1 cr] 25)
    have Gb := blk_below (blk_below (g := w1.heap.size + 1) (by have h := heap_alloc_new (w1.alloc (.cells #[.int .i64 3, .string ⟨#[116]⟩, .string ⟨#[]⟩, .int .u64 1, .int .u64 0, .string H, .string ⟨#[120]⟩, .bool false] 47)) (.cells #[.int .u64 0, .string ⟨#[]⟩, .int .u64 0, .slice (some ⟨w1.heap.size, 0, none⟩) 1 1] 25); rw [World.size_alloc] at h; exact h) hb2) hb3
    have Gc := heap_alloc_new w2 (.cells #[.int .u64 0, .string ⟨#[]⟩, .int .u64 0, .slice (some ⟨gr, 0, none⟩) 1 cr] 25)
    obtain ⟨cf, hcl, hN, hcc, hfr⟩ := Kd.R_elem HR.out z47 0 (by decide) (by simp)
    obtain rfl := k47_openM hN
    have h7 : w2.cell? ⟨gr, 7, none⟩ = some (.bool true) := hcc 7 _ rfl
    exact Lib.hid ⟨(blk_cell Gb 0).trans rfl, (blk_cell Gb 1).trans rfl, (blk_cell Gb 2).trans rfl, (blk_cell Gb 3).trans rfl, (blk_cell Gc 0).trans rfl, (blk_cell Gc 1).trans rfl, (blk_cell Gc 2).trans rfl, (blk_cell Gc 3).trans rfl,
      (hb3.cell (World.block_lt_of_cell? _ _ h7)).trans h7, Kd.C_below (Kd.C_below (C_one (x := awx H) (blk_alloc (heap_alloc_new w1 _) _)) hb2) hb3, Kd.C_below (Kd.R_reads' HR.out).2.2 hb3,
      ((((HB1.out.alloc HB1.out.size _).alloc (by have := HB1.out.size; simp; omega) _).trans (hb2.mono (by have := HB1.out.size; simp; omega))).alloc (by have := HB1.out.size; have := hb2.size; simp at *; omega) _)⟩
  clear HR HB1 HB2 HS HW hg1 hg2
  generalize w2.alloc (.cells #[.int .u64 0, .string ⟨#[]⟩, .int .u64 0, .slice (some ⟨gr, 0, none⟩) 1 cr] 25) = W at HQ ⊢
  generalize w1.heap.size + 1 = gb at HQ ⊢
  generalize w1.heap.size = gs at HQ ⊢
  generalize w2.heap.size = gc at HQ ⊢
  refine start_ (n := 34) (S := fun w' => w'.cell? ⟨gb, 0, none⟩ = some (.int .u64 0) ∧ w'.cell? ⟨gb, 1, none⟩ = some (.string ⟨#[]⟩) ∧ w'.cell? ⟨gb, 2, none⟩ = some (.int .u64 0) ∧ w'.cell? ⟨gb, 3, none⟩ = some (.slice (some ⟨gs, 0, none⟩) 1 1) ∧ w'.cell? ⟨gc, 0, none⟩ = some (.int .u64 0) ∧ w'.cell? ⟨gc, 1, none⟩ = some (.string ⟨#[]⟩) ∧ w'.cell? ⟨gc, 2, none⟩ = some (.int .u64 0) ∧ w'.cell? ⟨gc, 3, none⟩ = some (.slice (some ⟨gr, 0, none⟩) 1 cr) ∧ w'.cell? ⟨gr, 7, none⟩ = some (.bool true)) (ds := []) #[false, false, false, false, false, false, false, false, false, false, false, false, false, false, false, false, false, false, false, false, false, false, false, false, false, false, false, false, false, false, false, false, false, false] (by kernel_rfl) rfl rfl ⟨HQ.out.b0, HQ.out.b1, HQ.out.b2, HQ.out.b3, HQ.out.c0, HQ.out.c1, HQ.out.c2, HQ.out.c3, HQ.out.r7⟩ (fun hHeld => ?_)
  refine pure_ (i := 0) (N := some 13) (v := ?_) (a' := ?_) #[true, false, false, false, false, false, false, false, false, false, false, false, false, false, false, false, false, false, false, false, false, false, false, false, false, false, false, false, false, false, false, false, false, false] rfl rfl (by kernel_rfl) (fun _ _ _ h => h) (Or.inl ⟨by rfl, ?_⟩) ?_ ?_
  rotate_left
  · intro w'
    go_simp
    with_reducible rfl
  rotate_left
  · simp only [Act.put, List.setIfInBounds_toArray, List.set_cons_zero, List.set_cons_succ, i64_w, i32_w]
    rfl
  refine pure_ (i := 1) (N := some 14) (v := ?_) (a' := ?_) #[true, true, false, false, false, false, false, false, false, false, false, false, false, false, false, false, false, false, false, false, false, false, false, false, false, false, false, false, false, false, false, false, false, false] rfl rfl (by kernel_rfl) (fun _ _ _ h => h) (Or.inl ⟨by rfl, ?_⟩) ?_ ?_
  rotate_left
  · intro w'
    go_simp
    with_reducible rfl
  rotate_left
  · simp only [Act.put, List.setIfInBounds_toArray, List.set_cons_zero, List.set_cons_succ, i64_w, i32_w]
    rfl
  refine pure_ (i := 2) (N := some 15) (v := ?_) (a' := ?_) #[true, true, true, false, false, false, false, false, false, false, false, false, false, false, false, false, false, false, false, false, false, false, false, false, false, false, false, false, false, false, false, false, false, false] rfl rfl (by kernel_rfl) (fun _ _ _ h => h) (Or.inl ⟨by rfl, ?_⟩) ?_ ?_
  rotate_left
  · intro w'
    go_simp
    with_reducible rfl
  rotate_left
  · simp only [Act.put, List.setIfInBounds_toArray, List.set_cons_zero, List.set_cons_succ, i64_w, i32_w]
    rfl
  refine pure_ (i := 3) (N := some 16) (v := ?_) (a' := ?_) #[true, true, true, true, false, false, false, false, false, false, false, false, false, false, false, false, false, false, false, false, false, false, false, false, false, false, false, false, false, false, false, false, false, false] rfl rfl (by kernel_rfl) (fun _ _ _ h => h) (Or.inl ⟨by rfl, ?_⟩) ?_ ?_
  rotate_left
  · intro w'
    go_simp
    with_reducible rfl
  rotate_left
  · simp only [Act.put, List.setIfInBounds_toArray, List.set_cons_zero, List.set_cons_succ, i64_w, i32_w]
    rfl
  refine take_ (i := 4) (N := some 17) (v := ?_) (a' := ?_) #[true, true, true, true, true, false, false, false, false, false, false, false, false, false, false, false, false, false, false, false, false, false, false, false, false, false, false, false, false, false, false, false, false, false] rfl rfl (by kernel_rfl) (fun _ _ _ h => h) (Or.inl ⟨by rfl, ?_⟩) hHeld ?_ ?_
  rotate_left
  · rintro w' ⟨s0, s1, s2, s3, s4, s5, s6, s7, s8⟩
    go_simp
    with_reducible rfl
  rotate_left
  · simp only [Act.put, List.setIfInBounds_toArray, List.set_cons_zero, List.set_cons_succ, i64_w, i32_w]
    rfl
  refine pure_ (i := 5) (N := some 18) (v := ?_) (a' := ?_) #[true, true, true, true, true, true, false, false, false, false, false, false, false, false, false, false, false, false, false, false, false, false, false, false, false, false, false, false, false, false, false, false, false, false] rfl rfl (by kernel_rfl) (fun _ _ _ h => h) (Or.inl ⟨by rfl, ?_⟩) ?_ ?_
  rotate_left
  · intro w'
    go_simp
    with_reducible rfl
  rotate_left
  · simp only [Act.put, List.setIfInBounds_toArray, List.set_cons_zero, List.set_cons_succ, i64_w, i32_w]
    rfl
  refine pure_ (i := 6) (N := some 19) (v := ?_) (a' := ?_) #[true, true, true, true, true, true, true, false, false, false, false, false, false, false, false, false, false, false, false, false, false, false, false, false, false, false, false, false, false, false, false, false, false, false] rfl rfl (by kernel_rfl) (fun _ _ _ h => h) (Or.inl ⟨by rfl, ?_⟩) ?_ ?_
  rotate_left
  · intro w'
    go_simp
    with_reducible rfl
  rotate_left
  · simp only [Act.put, List.setIfInBounds_toArray, List.set_cons_zero, List.set_cons_succ, i64_w, i32_w]
    rfl
  refine pure_ (i := 7) (N := some 20) (v := ?_) (a' := ?_) #[true, true, true, true, true, true, true, true, false, false, false, false, false, false, false, false, false, false, false, false, false, false, false, false, false, false, false, false, false, false, false, false, false, false] rfl rfl (by kernel_rfl) (fun _ _ _ h => h) (Or.inl ⟨by rfl, ?_⟩) ?_ ?_
  rotate_left
  · intro w'
    go_simp
    with_reducible rfl
  rotate_left
  · simp only [Act.put, List.setIfInBounds_toArray, List.set_cons_zero, List.set_cons_succ, i64_w, i32_w]
    rfl
  refine pure_ (i := 8) (N := some 21) (v := ?_) (a' := ?_) #[true, true, true, true, true, true, true, true, true, false, false, false, false, false, false, false, false, false, false, false, false, false, false, false, false, false, false, false, false, false, false, false, false, false] rfl rfl (by kernel_rfl) (fun _ _ _ h => h) (Or.inl ⟨by rfl, ?_⟩) ?_ ?_
  rotate_left
  · intro w'
    go_simp
    with_reducible rfl
  rotate_left
  · simp only [Act.put, List.setIfInBounds_toArray, List.set_cons_zero, List.set_cons_succ, i64_w, i32_w]
    rfl
  refine pure_ (i := 9) (N := some 22) (v := ?_) (a' := ?_) #[true, true, true, true, true, true, true, true, true, true, false, false, false, false, false, false, false, false, false, false, false, false, false, false, false, false, false, false, false, false, false, false, false, false] rfl rfl (by kernel_rfl) (fun _ _ _ h => h) (Or.inl ⟨by rfl, ?_⟩) ?_ ?_
  rotate_left
  · intro w'
    go_simp
    with_reducible rfl
  rotate_left
  · simp only [Act.put, List.setIfInBounds_toArray, List.set_cons_zero, List.set_cons_succ, i64_w, i32_w]
    rfl
  refine take_ (i := 10) (N := some 23) (v := ?_) (a' := ?_) #[true, true, true, true, true, true, true, true, true, true, true, false, false, false, false, false, false, false, false, false, false, false, false, false, false, false, false, false, false, false, false, false, false, false] rfl rfl (by kernel_rfl) (fun _ _ _ h => h) (Or.inl ⟨by rfl, ?_⟩) hHeld ?_ ?_
  rotate_left
  · rintro w' ⟨s0, s1, s2, s3, s4, s5, s6, s7, s8⟩
    go_simp
    with_reducible rfl
  rotate_left
  · simp only [Act.put, List.setIfInBounds_toArray, List.set_cons_zero, List.set_cons_succ, i64_w, i32_w]
    rfl
  refine pure_ (i := 11) (N := some 24) (v := ?_) (a' := ?_) #[true, true, true, true, true, true, true, true, true, true, true, true, false, false, false, false, false, false, false, false, false, false, false, false, false, false, false, false, false, false, false, false, false, false] rfl rfl (by kernel_rfl) (fun _ _ _ h => h) (Or.inl ⟨by rfl, ?_⟩) ?_ ?_
  rotate_left
  · intro w'
    go_simp
    with_reducible rfl
  rotate_left
  · simp only [Act.put, List.setIfInBounds_toArray, List.set_cons_zero, List.set_cons_succ, i64_w, i32_w]
    rfl
  refine pure_ (i := 12) (N := some 25) (v := ?_) (a' := ?_) #[true, true, true, true, true, true, true, true, true, true, true, true, true, false, false, false, false, false, false, false, false, false, false, false, false, false, false, false, false, false, false, false, false, false] rfl rfl (by kernel_rfl) (fun _ _ _ h => h) (Or.inl ⟨by rfl, ?_⟩) ?_ ?_
  rotate_left
  · intro w'
    go_simp
    with_reducible rfl
  rotate_left
  · simp only [Act.put, List.setIfInBounds_toArray, List.set_cons_zero, List.set_cons_succ, i64_w, i32_w]
    rfl
  refine take_ (i := 13) (N := some 26) (v := ?_) (a' := ?_) #[true, true, true, true, true, true, true, true, true, true, true, true, true, true, false, false, false, false, false, false, false, false, false, false, false, false, false, false, false, false, false, false, false, false] rfl rfl (by kernel_rfl) (fun _ _ _ h => h) (Or.inl ⟨by rfl, ?_⟩) hHeld ?_ ?_
  rotate_left
  · rintro w' ⟨s0, s1, s2, s3, s4, s5, s6, s7, s8⟩
    go_simp
    with_reducible rfl
  rotate_left
  · simp only [Act.put, List.setIfInBounds_toArray, List.set_cons_zero, List.set_cons_succ, i64_w, i32_w]
    rfl
  refine pure_ (i := 14) (N := some 27) (v := ?_) (a' := ?_) #[true, true, true, true, true, true, true, true, true, true, true, true, true, true, true, false, false, false, false, false, false, false, false, false, false, false, false, false, false, false, false, false, false, false] rfl rfl (by kernel_rfl) (fun _ _ _ h => h) (Or.inl ⟨by rfl, ?_⟩) ?_ ?_
  rotate_left
  · intro w'
    go_simp
    with_reducible rfl
  rotate_left
  · simp only [Act.put, List.setIfInBounds_toArray, List.set_cons_zero, List.set_cons_succ, i64_w, i32_w]
    rfl
  refine pure_ (i := 15) (N := some 28) (v := ?_) (a' := ?_) #[true, true, true, true, true, true, true, true, true, true, true, true, true, true, true, true, false, false, false, false, false, false, false, false, false, false, false, false, false, false, false, false, false, false] rfl rfl (by kernel_rfl) (fun _ _ _ h => h) (Or.inl ⟨by rfl, ?_⟩) ?_ ?_
  rotate_left
  · intro w'
    go_simp
    with_reducible rfl
  rotate_left
  · simp only [Act.put, List.setIfInBounds_toArray, List.set_cons_zero, List.set_cons_succ, i64_w, i32_w]
    rfl
  refine take_ (i := 16) (N := some 29) (v := ?_) (a' := ?_) #[true, true, true, true, true, true, true, true, true, true, true, true, true, true, true, true, true, false, false, false, false, false, false, false, false, false, false, false, false, false, false, false, false, false] rfl rfl (by kernel_rfl) (fun _ _ _ h => h) (Or.inl ⟨by rfl, ?_⟩) hHeld ?_ ?_
  rotate_left
  · rintro w' ⟨s0, s1, s2, s3, s4, s5, s6, s7, s8⟩
    go_simp
    with_reducible rfl
  rotate_left
  · simp only [Act.put, List.setIfInBounds_toArray, List.set_cons_zero, List.set_cons_succ, i64_w, i32_w]
    rfl
  refine one_ (i := 17) (N := some 30) #[true, true, true, true, true, true, true, true, true, true, true, true, true, true, true, true, true, true, false, false, false, false, false, false, false, false, false, false, false, false, false, false, false, false] rfl rfl (by kernel_rfl) (by decide) (fun K hK => ?_)
  refine goes_ Try.func40 (by kernel_rfl) rfl #[.agg #[.int .u64 0, .string ⟨#[]⟩, .int .u64 0, .slice (some ⟨gs, 0, none⟩) 1 1], .int .u64 0, .string ⟨#[]⟩] (by rfl) rfl rfl (by simp only [List.map_toArray, List.map_cons, List.map_nil]; rfl) ?_
  with_reducible refine (HF.out W.drew gs (Kd.C_below HQ.out.k1 (below_drew1 (Below.refl _ W)))).mono ?_
  rintro e w2 ⟨rfl, hb⟩
  refine ⟨_, rfl, ?_⟩
  have hb' : Below W.heap.size W w2 := ⟨hb.os, hb.tape, hb.output, hb.size, hb.block⟩
  have HQ2 := Lib.hid (HQ.out.below hb')
  clear hb hb'
  refine hK.out _ _ ⟨HQ2.out.b0, HQ2.out.b1, HQ2.out.b2, HQ2.out.b3, HQ2.out.c0, HQ2.out.c1, HQ2.out.c2, HQ2.out.c3, HQ2.out.r7⟩ (fun hHeld => ?_)
  clear hK K
  refine norm_ (a' := ?_) ?_ ?_
  rotate_left
  · show Act.put _ (some 30) _ = _
    simp only [Act.put, List.setIfInBounds_toArray, List.set_cons_zero, List.set_cons_succ, i64_w, i32_w]
    rfl
  refine pure_ (i := 18) (N := some 31) (v := ?_) (a' := ?_) #[true, true, true, true, true, true, true, true, true, true, true, true, true, true, true, true, true, true, true, false, false, false, false, false, false, false, false, false, false, false, false, false, false, false] rfl rfl (by kernel_rfl) (fun _ _ _ h => h) (Or.inl ⟨by rfl, ?_⟩) ?_ ?_
  rotate_left
  · intro w'
    go_simp
    with_reducible rfl
  rotate_left
  · simp only [Act.put, List.setIfInBounds_toArray, List.set_cons_zero, List.set_cons_succ, i64_w, i32_w]
    rfl
  refine pure_ (i := 19) (N := some 32) (v := ?_) (a' := ?_) #[true, true, true, true, true, true, true, true, true, true, true, true, true, true, true, true, true, true, true, true, false, false, false, false, false, false, false, false, false, false, false, false, false, false] rfl rfl (by kernel_rfl) (fun _ _ _ h => h) (Or.inl ⟨by rfl, ?_⟩) ?_ ?_
  rotate_left
  · intro w'
    go_simp
    with_reducible rfl
  rotate_left
  · simp only [Act.put, List.setIfInBounds_toArray, List.set_cons_zero, List.set_cons_succ, i64_w, i32_w]
    rfl
  refine pure_ (i := 20) (N := some 33) (v := ?_) (a' := ?_) #[true, true, true, true, true, true, true, true, true, true, true, true, true, true, true, true, true, true, true, true, true, false, false, false, false, false, false, false, false, false, false, false, false, false] rfl rfl (by kernel_rfl) (fun _ _ _ h => h) (Or.inl ⟨by rfl, ?_⟩) ?_ ?_
  rotate_left
  · intro w'
    go_simp
    with_reducible rfl
  rotate_left
  · simp only [Act.put, List.setIfInBounds_toArray, List.set_cons_zero, List.set_cons_succ, i64_w, i32_w]
    rfl
  refine take_ (i := 21) (N := some 34) (v := ?_) (a' := ?_) #[true, true, true, true, true, true, true, true, true, true, true, true, true, true, true, true, true, true, true, true, true, true, false, false, false, false, false, false, false, false, false, false, false, false] rfl rfl (by kernel_rfl) (fun _ _ _ h => h) (Or.inl ⟨by rfl, ?_⟩) hHeld ?_ ?_
  rotate_left
  · rintro w' ⟨s0, s1, s2, s3, s4, s5, s6, s7, s8⟩
    go_simp
    with_reducible rfl
  rotate_left
  · simp only [Act.put, List.setIfInBounds_toArray, List.set_cons_zero, List.set_cons_succ, i64_w, i32_w]
    rfl
  refine take_ (i := 23) (N := some 36) (v := ?_) (a' := ?_) #[true, true, true, true, true, true, true, true, true, true, true, true, true, true, true, true, true, true, true, true, true, true, false, true, false, false, false, false, false, false, false, false, false, false] rfl rfl (by kernel_rfl) (fun _ _ _ h => h) (Or.inl ⟨by rfl, ?_⟩) hHeld ?_ ?_
  rotate_left
  · rintro w' ⟨s0, s1, s2, s3, s4, s5, s6, s7, s8⟩
    go_simp
    with_reducible rfl
  rotate_left
  · simp only [Act.put, List.setIfInBounds_toArray, List.set_cons_zero, List.set_cons_succ, i64_w, i32_w]
    rfl
  refine one_ (i := 22) (N := some 35) #[true, true, true, true, true, true, true, true, true, true, true, true, true, true, true, true, true, true, true, true, true, true, true, true, false, false, false, false, false, false, false, false, false, false] rfl rfl (by kernel_rfl) (by decide) (fun K hK => ?_)
  refine goes_ Try.func14 (by kernel_rfl) rfl #[.agg #[.int .u64 0, .string ⟨#[]⟩, .int .u64 0, .slice (some ⟨gs, 0, none⟩) 1 1]] (by rfl) rfl rfl (by simp only [List.map_toArray, List.map_cons, List.map_nil]; rfl) ?_
  with_reducible refine (HH.out _ _ _ HQ2.out.k1).mono ?_
  rintro e w3 ⟨rfl, hb⟩
  refine ⟨_, rfl, ?_⟩
  have HQ3 := Lib.hid (HQ2.out.below hb)
  clear hb
  refine hK.out _ _ ⟨HQ3.out.b0, HQ3.out.b1, HQ3.out.b2, HQ3.out.b3, HQ3.out.c0, HQ3.out.c1, HQ3.out.c2, HQ3.out.c3, HQ3.out.r7⟩ (fun hHeld => ?_)
  clear hK K
  refine norm_ (a' := ?_) ?_ ?_
  rotate_left
  · show Act.put _ (some 35) _ = _
    simp only [Act.put, List.setIfInBounds_toArray, List.set_cons_zero, List.set_cons_succ, i64_w, i32_w]
    rfl
  refine one_ (i := 24) (N := some 37) #[true, true, true, true, true, true, true, true, true, true, true, true, true, true, true, true, true, true, true, true, true, true, true, true, true, false, false, false, false, false, false, false, false, false] rfl rfl (by kernel_rfl) (by decide) (fun K hK => ?_)
  refine goes_ Try.func14 (by kernel_rfl) rfl #[.agg #[.int .u64 0, .string ⟨#[]⟩, .int .u64 0, .slice (some ⟨gr, 0, none⟩) 1 cr]] (by rfl) rfl rfl (by simp only [List.map_toArray, List.map_cons, List.map_nil]; rfl) ?_
  with_reducible refine (HG.out _ _ _ HQ3.out.k2).mono ?_
  rintro e w4 ⟨rfl, hb⟩
  refine ⟨_, rfl, ?_⟩
  have HQ4 := Lib.hid (HQ3.out.below hb)
  clear hb
  refine hK.out _ _ ⟨HQ4.out.b0, HQ4.out.b1, HQ4.out.b2, HQ4.out.b3, HQ4.out.c0, HQ4.out.c1, HQ4.out.c2, HQ4.out.c3, HQ4.out.r7⟩ (fun hHeld => ?_)
  clear hK K
  refine norm_ (a' := ?_) ?_ ?_
  rotate_left
  · show Act.put _ (some 37) _ = _
    simp only [Act.put, List.setIfInBounds_toArray, List.set_cons_zero, List.set_cons_succ, i64_w, i32_w]
    rfl
  refine pure_ (i := 25) (N := some 38) (v := ?_) (a' := ?_) #[true, true, true, true, true, true, true, true, true, true, true, true, true, true, true, true, true, true, true, true, true, true, true, true, true, true, false, false, false, false, false, false, false, false] rfl rfl (by kernel_rfl) (fun _ _ _ h => h) (Or.inl ⟨by rfl, ?_⟩) ?_ ?_
  rotate_left
  · intro w'
    go_simp
    with_reducible rfl
  rotate_left
  · simp only [Act.put, List.setIfInBounds_toArray, List.set_cons_zero, List.set_cons_succ, i64_w, i32_w]
    rfl
  refine pure_ (i := 26) (N := some 39) (v := ?_) (a' := ?_) #[true, true, true, true, true, true, true, true, true, true, true, true, true, true, true, true, true, true, true, true, true, true, true, true, true, true, true, false, false, false, false, false, false, false] rfl rfl (by kernel_rfl) (fun _ _ _ h => h) (Or.inl ⟨by rfl, ?_⟩) ?_ ?_
  rotate_left
  · intro w'
    go_simp
    with_reducible rfl
  rotate_left
  · simp only [Act.put, List.setIfInBounds_toArray, List.set_cons_zero, List.set_cons_succ, i64_w, i32_w]
    rfl
  refine pure_ (i := 27) (N := some 40) (v := ?_) (a' := ?_) #[true, true, true, true, true, true, true, true, true, true, true, true, true, true, true, true, true, true, true, true, true, true, true, true, true, true, true, true, false, false, false, false, false, false] rfl rfl (by kernel_rfl) (fun _ _ _ h => h) (Or.inl ⟨by rfl, ?_⟩) ?_ ?_
  rotate_left
  · intro w'
    go_simp
    with_reducible rfl
  rotate_left
  · simp only [Act.put, List.setIfInBounds_toArray, List.set_cons_zero, List.set_cons_succ, i64_w, i32_w]
    rfl
  refine take_ (i := 28) (N := some 41) (v := ?_) (a' := ?_) #[true, true, true, true, true, true, true, true, true, true, true, true, true, true, true, true, true, true, true, true, true, true, true, true, true, true, true, true, true, false, false, false, false, false] rfl rfl (by kernel_rfl) (fun _ _ _ h => h) (Or.inl ⟨by rfl, ?_⟩) hHeld ?_ ?_
  rotate_left
  · rintro w' ⟨s0, s1, s2, s3, s4, s5, s6, s7, s8⟩
    go_simp
    with_reducible rfl
  rotate_left
  · simp only [Act.put, List.setIfInBounds_toArray, List.set_cons_zero, List.set_cons_succ, i64_w, i32_w]
    rfl
  refine one_ (i := 29) (N := some 42) #[true, true, true, true, true, true, true, true, true, true, true, true, true, true, true, true, true, true, true, true, true, true, true, true, true, true, true, true, true, true, false, false, false, false] rfl rfl (by kernel_rfl) (by decide) (fun K hK => ?_)
  refine goes_ Try.func14 (by kernel_rfl) rfl #[.agg #[.int .u64 0, .string ⟨#[]⟩, .int .u64 0, .slice (some ⟨gs, 0, none⟩) 1 1]] (by rfl) rfl rfl (by simp only [List.map_toArray, List.map_cons, List.map_nil]; rfl) ?_
  with_reducible refine (HH.out _ _ _ HQ4.out.k1).mono ?_
  rintro e w5 ⟨rfl, hb⟩
  refine ⟨_, rfl, ?_⟩
  have HQ5 := Lib.hid (HQ4.out.below hb)
  clear hb
  refine hK.out _ _ ⟨HQ5.out.b0, HQ5.out.b1, HQ5.out.b2, HQ5.out.b3, HQ5.out.c0, HQ5.out.c1, HQ5.out.c2, HQ5.out.c3, HQ5.out.r7⟩ (fun hHeld => ?_)
  clear hK K
  refine norm_ (a' := ?_) ?_ ?_
  rotate_left
  · show Act.put _ (some 42) _ = _
    simp only [Act.put, List.setIfInBounds_toArray, List.set_cons_zero, List.set_cons_succ, i64_w, i32_w]
    rfl
  refine pure_ (i := 30) (N := some 43) (v := ?_) (a' := ?_) #[true, true, true, true, true, true, true, true, true, true, true, true, true, true, true, true, true, true, true, true, true, true, true, true, true, true, true, true, true, true, true, false, false, false] rfl rfl (by kernel_rfl) (fun _ _ _ h => h) (Or.inl ⟨by rfl, ?_⟩) ?_ ?_
  rotate_left
  · intro w'
    go_simp
    with_reducible rfl
  rotate_left
  · simp only [Act.put, List.setIfInBounds_toArray, List.set_cons_zero, List.set_cons_succ, i64_w, i32_w]
    rfl
  refine pure_ (i := 31) (N := some 44) (v := ?_) (a' := ?_) #[true, true, true, true, true, true, true, true, true, true, true, true, true, true, true, true, true, true, true, true, true, true, true, true, true, true, true, true, true, true, true, true, false, false] rfl rfl (by kernel_rfl) (fun _ _ _ h => h) (Or.inl ⟨by rfl, ?_⟩) ?_ ?_
  rotate_left
  · intro w'
    go_simp
    with_reducible rfl
  rotate_left
  · simp only [Act.put, List.setIfInBounds_toArray, List.set_cons_zero, List.set_cons_succ, i64_w, i32_w]
    rfl
  refine pure_ (i := 32) (N := some 45) (v := ?_) (a' := ?_) #[true, true, true, true, true, true, true, true, true, true, true, true, true, true, true, true, true, true, true, true, true, true, true, true, true, true, true, true, true, true, true, true, true, false] rfl rfl (by kernel_rfl) (fun _ _ _ h => h) (Or.inl ⟨by rfl, ?_⟩) ?_ ?_
  rotate_left
  · intro w'
    go_simp
    with_reducible rfl
  rotate_left
  · simp only [Act.put, List.setIfInBounds_toArray, List.set_cons_zero, List.set_cons_succ, i64_w, i32_w]
    rfl
  refine pure_ (i := 33) (N := some 0) (v := ?_) (a' := ?_) #[true, true, true, true, true, true, true, true, true, true, true, true, true, true, true, true, true, true, true, true, true, true, true, true, true, true, true, true, true, true, true, true, true, true] rfl rfl (by kernel_rfl) (fun _ _ _ h => h) (Or.inl ⟨by rfl, ?_⟩) ?_ ?_
  rotate_left
  · intro w'
    go_simp
    with_reducible rfl
  rotate_left
  · simp only [Act.put, List.setIfInBounds_toArray, List.set_cons_zero, List.set_cons_succ, i64_w, i32_w]
    rfl
  refine done_ (by kernel_rfl) ?_
  go_wp2
  go_ret
  exact ⟨rfl, HQ5.out.b⟩
end Go.Proofs.Ytdcbacbilncnnaa.T
end
section
/- The laws' block beside the reference's. -/
set_option linter.unusedVariables false
set_option linter.unusedSimpArgs false
namespace Go.Proofs.Ytdcbacbilncnnaa.T
open Go.RowKit Go.Proofs.Ytdcbacbilncnnaa.PMk Go.Proofs.YtdcbacbilncnnaaW.PrintWords Go.Proofs.YtdcbacbilncnnaaW.PrintLast
/-- A revision as the reference has it. -/
def rf (x : S47) : S44 := ⟨x.f0, x.f1, x.f2, x.f3, x.f4, x.f5, x.f6, x.f7⟩
theorem ref_any (x : S47) (w : World) : Calls Try.prog 21 #[.agg #[.int .i64 x.f0, .string x.f1, .string x.f2, .int .u64 x.f3, .int .u64 x.f4, .string x.f5, .string x.f6, .bool x.f7]] w fun e w' => e = .returned (.agg #[.int .i64 x.f0, .string x.f1, .string x.f2, .int .u64 x.f3, .int .u64 x.f4, .string x.f5, .string x.f6, .bool x.f7]) ∧ Below w.heap.size w w' :=
  parchmentlaw09_Ref.calls _ _ _ _ _ _ _ _ _ _ _ _ _ _ _ _ w rfl
/-- What holds in Block's loop: its four variables in memory, and the revisions that were put behind. -/
structure BL (w wr : World) (a0 : Int) (a1 : ByteArray) (a2 : Int) (sl v : Value) (l : List S44) : Prop where
  g0 : wr.heap[w.heap.size]? = some (.cells #[.int .u64 a0, .string a1, .int .u64 a2, sl] 25 (0, 0))
  g1 : wr.heap[w.heap.size + 1]? = some (.cells #[.int .u64 0, .string ⟨#[]⟩, .int .u64 0, .slice none 0 0] 25 (0, 0))
  g2 : wr.heap[w.heap.size + 1 + 1]? = some (.cells #[.int .u64 0, .string ⟨#[]⟩, .int .u64 0, .slice none 0 0] 28 (0, 0))
  g3 : wr.heap[w.heap.size + 3]? = some (.cells #[.int .u64 a0, .string a1, .int .u64 a2, v] 28 (0, 0))
  r : Kd.R k44 44 wr w.heap.size (fun _ => True) v l
  b : Below w.heap.size w wr
theorem BL.below {w wr w1 : World} {a0 : Int} {a1 : ByteArray} {a2 : Int} {sl v : Value} {l : List S44} (h : BL w wr a0 a1 a2 sl v l) (hb : Below wr.heap.size wr w1) : BL w w1 a0 a1 a2 sl v l :=
  ⟨blk_below h.g0 hb, blk_below h.g1 hb, blk_below h.g2 hb, blk_below h.g3 hb, Kd.R_below h.r hb, h.b.trans (hb.mono h.b.size)⟩
/-- A revision was put behind, the variable still holds the elder row. -/
structure BM (w wr : World) (a0 : Int) (a1 : ByteArray) (a2 : Int) (sl v v1 : Value) (l : List S44) : Prop where
  g0 : wr.heap[w.heap.size]? = some (.cells #[.int .u64 a0, .string a1, .int .u64 a2, sl] 25 (0, 0))
  g1 : wr.heap[w.heap.size + 1]? = some (.cells #[.int .u64 0, .string ⟨#[]⟩, .int .u64 0, .slice none 0 0] 25 (0, 0))
  g2 : wr.heap[w.heap.size + 1 + 1]? = some (.cells #[.int .u64 0, .string ⟨#[]⟩, .int .u64 0, .slice none 0 0] 28 (0, 0))
  g3 : wr.heap[w.heap.size + 3]? = some (.cells #[.int .u64 a0, .string a1, .int .u64 a2, v] 28 (0, 0))
  r : Kd.R k44 44 wr w.heap.size (fun _ => True) v1 l
  b : Below w.heap.size w wr
theorem BL.app {w wr w1 : World} {a0 : Int} {a1 : ByteArray} {a2 : Int} {sl v v1 : Value} {l l1 : List S44} (h : BL w wr a0 a1 a2 sl v l) (hr : Kd.R k44 44 w1 w.heap.size (fun _ => True) v1 l1) (hb : Below w.heap.size w w1) (hg : wr.grownBy w1 v.ownBlock) : BM w w1 a0 a1 a2 sl v v1 l1 :=
  ⟨blk_grown h.g0 hg (Kd.R_ne h.r h.g0 (by decide)), blk_grown h.g1 hg (Kd.R_ne h.r h.g1 (by decide)), blk_grown h.g2 hg (Kd.R_ne h.r h.g2 (by decide)), blk_grown h.g3 hg (Kd.R_ne h.r h.g3 (by decide)), hr, hb⟩
theorem BM.put {w wr : World} {a0 : Int} {a1 : ByteArray} {a2 : Int} {sl v v1 : Value} {l : List S44} (h : BM w wr a0 a1 a2 sl v v1 l) : BL w (wr.setCell ⟨w.heap.size + 3, 3, none⟩ v1) a0 a1 a2 sl v1 l :=
  ⟨blk_far h.g0 (by simp) _, blk_far h.g1 (by simp) _, blk_far h.g2 (by simp) _, blk_put h.g3 3 v1 rfl, Kd.R_set h.r h.g3 (by decide) 3 v1, h.b.setCell (by simp) _⟩
/-- The first result is written. -/
structure BE (w wr : World) (a0 : Int) (a1 : ByteArray) (a2 : Int) (sl v : Value) (l : List S44) : Prop where
  g0 : wr.heap[w.heap.size]? = some (.cells #[.int .u64 a0, .string a1, .int .u64 a2, sl] 25 (0, 0))
  g1 : wr.heap[w.heap.size + 1]? = some (.cells #[.int .u64 a0, .string a1, .int .u64 a2, sl] 25 (0, 0))
  g2 : wr.heap[w.heap.size + 1 + 1]? = some (.cells #[.int .u64 0, .string ⟨#[]⟩, .int .u64 0, .slice none 0 0] 28 (0, 0))
  g3 : wr.heap[w.heap.size + 3]? = some (.cells #[.int .u64 a0, .string a1, .int .u64 a2, v] 28 (0, 0))
  r : Kd.R k44 44 wr w.heap.size (fun _ => True) v l
  b : Below w.heap.size w wr
theorem far4 {W : World} {g g' t : Nat} {cs : Array Value} {y0 y1 y2 y3 : Value} (h : W.heap[g]? = some (.cells cs t (0, 0))) (hne : g ≠ g') : ((((W.setCell ⟨g', 0, none⟩ y0).setCell ⟨g', 1, none⟩ y1).setCell ⟨g', 2, none⟩ y2).setCell ⟨g', 3, none⟩ y3).heap[g]? = some (.cells cs t (0, 0)) :=
  blk_far (blk_far (blk_far (blk_far h hne _) hne _) hne _) hne _
theorem rows44 {W : World} {g n t : Nat} {v x0 x1 x2 x3 y0 y1 y2 y3 : Value} {l : List S44} (ht : ∀ q, q ∈ 44 :: k44.E → q ≠ t) (hR : Kd.R k44 44 W n (fun _ => True) v l) (h : W.heap[g]? = some (.cells #[x0, x1, x2, x3] t (0, 0))) :
    Kd.R k44 44 ((((W.setCell ⟨g, 0, none⟩ y0).setCell ⟨g, 1, none⟩ y1).setCell ⟨g, 2, none⟩ y2).setCell ⟨g, 3, none⟩ y3) n (fun _ => True) v l :=
  Kd.R_set (Kd.R_set (Kd.R_set (Kd.R_set hR h ht 0 y0) (blk_put h 0 y0 rfl) ht 1 y1) (blk_put (blk_put h 0 y0 rfl) 1 y1 rfl) ht 2 y2) (blk_put (blk_put (blk_put h 0 y0 rfl) 1 y1 rfl) 2 y2 rfl) ht 3 y3
theorem put4' {W : World} {g t : Nat} {x0 x1 x2 x3 y0 y1 y2 y3 : Value} (h : W.heap[g]? = some (.cells #[x0, x1, x2, x3] t (0, 0))) : ((((W.setCell ⟨g, 0, none⟩ y0).setCell ⟨g, 1, none⟩ y1).setCell ⟨g, 2, none⟩ y2).setCell ⟨g, 3, none⟩ y3).heap[g]? = some (.cells #[y0, y1, y2, y3] t (0, 0)) :=
  blk_put (blk_put (blk_put (blk_put h 0 y0 rfl) 1 y1 rfl) 2 y2 rfl) 3 y3 rfl
theorem BL.first {w wr : World} {a0 : Int} {a1 : ByteArray} {a2 : Int} {sl v : Value} {l : List S44} (h : BL w wr a0 a1 a2 sl v l) :
    BE w ((((wr.setCell ⟨w.heap.size + 1, 0, none⟩ (.int .u64 a0)).setCell ⟨w.heap.size + 1, 1, none⟩ (.string a1)).setCell ⟨w.heap.size + 1, 2, none⟩ (.int .u64 a2)).setCell ⟨w.heap.size + 1, 3, none⟩ sl) a0 a1 a2 sl v l :=
  ⟨far4 h.g0 (by simp), put4' h.g1, far4 h.g2 (by simp), far4 h.g3 (by simp), rows44 (by decide) h.r h.g1, below4 h.b (by simp)⟩
theorem BE.second {w wr : World} {a0 : Int} {a1 : ByteArray} {a2 : Int} {sl v : Value} {l : List S44} (h : BE w wr a0 a1 a2 sl v l) :
    ((((wr.setCell ⟨w.heap.size + 1 + 1, 0, none⟩ (.int .u64 a0)).setCell ⟨w.heap.size + 1 + 1, 1, none⟩ (.string a1)).setCell ⟨w.heap.size + 1 + 1, 2, none⟩ (.int .u64 a2)).setCell ⟨w.heap.size + 1 + 1, 3, none⟩ v).heap[w.heap.size + 1]? = some (.cells #[.int .u64 a0, .string a1, .int .u64 a2, sl] 25 (0, 0)) ∧
    ((((wr.setCell ⟨w.heap.size + 1 + 1, 0, none⟩ (.int .u64 a0)).setCell ⟨w.heap.size + 1 + 1, 1, none⟩ (.string a1)).setCell ⟨w.heap.size + 1 + 1, 2, none⟩ (.int .u64 a2)).setCell ⟨w.heap.size + 1 + 1, 3, none⟩ v).heap[w.heap.size + 1 + 1]? = some (.cells #[.int .u64 a0, .string a1, .int .u64 a2, v] 28 (0, 0)) ∧
    Kd.R k44 44 ((((wr.setCell ⟨w.heap.size + 1 + 1, 0, none⟩ (.int .u64 a0)).setCell ⟨w.heap.size + 1 + 1, 1, none⟩ (.string a1)).setCell ⟨w.heap.size + 1 + 1, 2, none⟩ (.int .u64 a2)).setCell ⟨w.heap.size + 1 + 1, 3, none⟩ v) w.heap.size (fun _ => True) v l ∧
    Below w.heap.size w ((((wr.setCell ⟨w.heap.size + 1 + 1, 0, none⟩ (.int .u64 a0)).setCell ⟨w.heap.size + 1 + 1, 1, none⟩ (.string a1)).setCell ⟨w.heap.size + 1 + 1, 2, none⟩ (.int .u64 a2)).setCell ⟨w.heap.size + 1 + 1, 3, none⟩ v) :=
  ⟨far4 h.g1 (by simp), put4' h.g2, rows44 (by decide) h.r h.g2, below4 h.b (by omega)⟩
set_option maxRecDepth 100000 in
set_option maxHeartbeats 4000000 in
theorem block_raw (a0 : Int) (a1 : ByteArray) (a2 : Int) (A : Option Addr) (c : Nat) (l : List S47) (w : World) (hC : Kd.C k47 w A l.length l) (hc : l.length ≤ c) :
    Calls Try.prog 10 #[.agg #[.int .u64 a0, .string a1, .int .u64 a2, .slice A l.length c]] w fun e w' => ∃ v, e = .returned (.tuple #[.agg #[.int .u64 a0, .string a1, .int .u64 a2, .slice A (min l.length 66) c], .agg #[.int .u64 a0, .string a1, .int .u64 a2, v]]) ∧ Kd.R k44 44 w' w.heap.size (fun _ => True) v ((l.take 66).map rf) ∧ Below w.heap.size w w' := by
  obtain ⟨len, hlen⟩ : ∃ n, l.length = n := ⟨_, rfl⟩
  rw [hlen] at hC hc ⊢
  have HC := Lib.hid hC
  have HL := Lib.hid hlen
  clear hC hlen
  go_enter Try.func10, Try.ntmps10
  go_upto_if 9 with fail
  go_cut [10, 11, 12, 13] (fun v10 v11 v12 v13 wc => wc = (((w.alloc (.cells #[.int .u64 a0, .string a1, .int .u64 a2, .slice A (min len 66) c] 25)).alloc (.cells #[.int .u64 0, .string ⟨#[]⟩, .int .u64 0, .slice none 0 0] 25)).alloc (.cells #[.int .u64 0, .string ⟨#[]⟩, .int .u64 0, .slice none 0 0] 28)))
  case first =>
    by_cases h66 : (len : Int) > 66
    · have hm : min len 66 = 66 := by omega
      have hs : (66 : Nat) < len := by omega
      have hd : decide ((66 : Int) < (len : Int)) = true := decide_eq_true h66
      have hd2 : decide ((66 : Nat) < len) = true := decide_eq_true hs
      have hc66 : (66 : Nat) ≤ c := by omega
      have hc67 : (66 : Int) ≤ (c : Int) := by omega
      go_wp2_with fail
      go_meet
      case rel => rw [hm]
    · have hm : min len 66 = len := by omega
      go_wp2_with fail
      go_meet
      case rel => rw [hm]
  case rest =>
    subst hcut
    obtain ⟨t, ht⟩ : ∃ t, min len 66 = t := ⟨_, rfl⟩
    rw [ht]
    have hB0 : Hid (Below w.heap.size w (((w.alloc (.cells #[.int .u64 a0, .string a1, .int .u64 a2, .slice A t c] 25)).alloc (.cells #[.int .u64 0, .string ⟨#[]⟩, .int .u64 0, .slice none 0 0] 25)).alloc (.cells #[.int .u64 0, .string ⟨#[]⟩, .int .u64 0, .slice none 0 0] 28))) :=
      Lib.hid ((((Below.refl _ _).alloc (Nat.le_refl _) _).alloc (by simp) _).alloc (by simp; omega) _)
    have G0 : Hid ((((w.alloc (.cells #[.int .u64 a0, .string a1, .int .u64 a2, .slice A t c] 25)).alloc (.cells #[.int .u64 0, .string ⟨#[]⟩, .int .u64 0, .slice none 0 0] 25)).alloc (.cells #[.int .u64 0, .string ⟨#[]⟩, .int .u64 0, .slice none 0 0] 28)).heap[w.heap.size]? = some (.cells #[.int .u64 a0, .string a1, .int .u64 a2, .slice A t c] 25 (0, 0))) :=
      Lib.hid (blk_alloc (blk_alloc (heap_alloc_new w _) _) _)
    have G1 : Hid ((((w.alloc (.cells #[.int .u64 a0, .string a1, .int .u64 a2, .slice A t c] 25)).alloc (.cells #[.int .u64 0, .string ⟨#[]⟩, .int .u64 0, .slice none 0 0] 25)).alloc (.cells #[.int .u64 0, .string ⟨#[]⟩, .int .u64 0, .slice none 0 0] 28)).heap[w.heap.size + 1]? = some (.cells #[.int .u64 0, .string ⟨#[]⟩, .int .u64 0, .slice none 0 0] 25 (0, 0))) :=
      Lib.hid (blk_alloc (by simpa using heap_alloc_new (w.alloc _) _) _)
    have G2 : Hid ((((w.alloc (.cells #[.int .u64 a0, .string a1, .int .u64 a2, .slice A t c] 25)).alloc (.cells #[.int .u64 0, .string ⟨#[]⟩, .int .u64 0, .slice none 0 0] 25)).alloc (.cells #[.int .u64 0, .string ⟨#[]⟩, .int .u64 0, .slice none 0 0] 28)).heap[w.heap.size + 1 + 1]? = some (.cells #[.int .u64 0, .string ⟨#[]⟩, .int .u64 0, .slice none 0 0] 28 (0, 0))) :=
      Lib.hid (by simpa using heap_alloc_new ((w.alloc _).alloc _) _)
    have hz : (((w.alloc (.cells #[.int .u64 a0, .string a1, .int .u64 a2, .slice A t c] 25)).alloc (.cells #[.int .u64 0, .string ⟨#[]⟩, .int .u64 0, .slice none 0 0] 25)).alloc (.cells #[.int .u64 0, .string ⟨#[]⟩, .int .u64 0, .slice none 0 0] 28)).heap.size = w.heap.size + 3 := by simp
    generalize ((w.alloc (.cells #[.int .u64 a0, .string a1, .int .u64 a2, .slice A t c] 25)).alloc (.cells #[.int .u64 0, .string ⟨#[]⟩, .int .u64 0, .slice none 0 0] 25)).alloc (.cells #[.int .u64 0, .string ⟨#[]⟩, .int .u64 0, .slice none 0 0] 28) = W at hB0 G0 G1 G2 hz ⊢
    have b0 : W.cell? ⟨w.heap.size, 0, none⟩ = some (.int .u64 a0) := (blk_cell G0.out 0).trans rfl
    have b1 : W.cell? ⟨w.heap.size, 1, none⟩ = some (.string a1) := (blk_cell G0.out 1).trans rfl
    have b2 : W.cell? ⟨w.heap.size, 2, none⟩ = some (.int .u64 a2) := (blk_cell G0.out 2).trans rfl
    go_wp2_with fail
    have HQ0 : Hid (BL w (W.alloc (.cells #[.int .u64 a0, .string a1, .int .u64 a2, .slice none 0 0] 28)) a0 a1 a2 (.slice A t c) (.slice none 0 0) ((l.take 0).map rf)) :=
      Lib.hid ⟨blk_alloc G0.out _, blk_alloc G1.out _, blk_alloc G2.out _, by rw [← hz]; exact heap_alloc_new W _, Kd.R_nil _ _ _ _ _, hB0.out.alloc (by omega) _⟩
    clear G0 G1 G2 hB0 b0 b1 b2 hz
    go_loopw [5] (fun v5 wr => ∃ (i : Nat) (v : Value), i ≤ t ∧ v5 = .int .i64 i ∧ Hid (BL w wr a0 a1 a2 (.slice A t c) v ((l.take i).map rf))) (fun v5 _ => (t - intOf v5).toNat)
    case atStart => exact ⟨0, _, Nat.zero_le _, rfl, HQ0⟩
    case round =>
      obtain ⟨i, v, hi1, rfl, HQ⟩ := hrel
      clear HQ0
      have ht66 : t ≤ 66 := by omega
      have htl : t ≤ len := by omega
      have b3 : wr.cell? ⟨w.heap.size, 3, none⟩ = some (.slice A t c) := (blk_cell HQ.out.g0 3).trans rfl
      by_cases h1 : i < t
      · obtain ⟨ad, hA, hx0, hx1, hx2, hx3, hx4, hx5, hx6, hx7⟩ := at_T47 HC.out (i : Int) (by omega) (by omega)
        subst hA
        replace hx0 := (HQ.out.b.cell (World.block_lt_of_cell? w _ hx0)).trans hx0
        replace hx1 := (HQ.out.b.cell (World.block_lt_of_cell? w _ hx1)).trans hx1
        replace hx2 := (HQ.out.b.cell (World.block_lt_of_cell? w _ hx2)).trans hx2
        replace hx3 := (HQ.out.b.cell (World.block_lt_of_cell? w _ hx3)).trans hx3
        replace hx4 := (HQ.out.b.cell (World.block_lt_of_cell? w _ hx4)).trans hx4
        replace hx5 := (HQ.out.b.cell (World.block_lt_of_cell? w _ hx5)).trans hx5
        replace hx6 := (HQ.out.b.cell (World.block_lt_of_cell? w _ hx6)).trans hx6
        replace hx7 := (HQ.out.b.cell (World.block_lt_of_cell? w _ hx7)).trans hx7
        have q3 : wr.cell? ⟨w.heap.size + 3, 3, none⟩ = some v := (blk_cell HQ.out.g3 3).trans rfl
        simp only [Int.toNat_natCast] at hx0 hx1 hx2 hx3 hx4 hx5 hx6 hx7
        obtain ⟨x, hx⟩ : ∃ x, rd_T47 l (i : Int) = x := ⟨_, rfl⟩
        rw [hx] at hx0 hx1 hx2 hx3 hx4 hx5 hx6 hx7
        have HSU : Hid ((l.take i).map rf ++ [rf x] = (l.take (i + 1)).map rf) := Lib.hid (by
          have hl := HL.out
          rw [List.take_succ_eq_append_getElem (show i < l.length by omega), List.map_append, ← hx]
          simp [rd_T47, List.getD_eq_getElem?_getD, List.getElem?_eq_getElem (show i < l.length by omega)])
        have hlen6 : ((l.take i).map rf).length = i := by
          have hl := HL.out
          simp; omega
        have hln1 : ((l.take (i + 1)).map rf).length = i + 1 := by
          have hl := HL.out
          simp; omega
        clear hx
        go_upto_region 7 with fail
        refine start_ (n := 12) (S := fun w' => w'.cell? ⟨w.heap.size, 3, none⟩ = some (.slice (some ad) t c) ∧ w'.cell? ⟨w.heap.size + 3, 3, none⟩ = some v ∧ w'.cell? (ad.add (i * 8)) = some (.int .i64 x.f0) ∧ w'.cell? ⟨(ad.add (i * 8)).block, (ad.add (i * 8)).off + 1, none⟩ = some (.string x.f1) ∧ w'.cell? ⟨(ad.add (i * 8)).block, (ad.add (i * 8)).off + 2, none⟩ = some (.string x.f2) ∧ w'.cell? ⟨(ad.add (i * 8)).block, (ad.add (i * 8)).off + 3, none⟩ = some (.int .u64 x.f3) ∧ w'.cell? ⟨(ad.add (i * 8)).block, (ad.add (i * 8)).off + 4, none⟩ = some (.int .u64 x.f4) ∧ w'.cell? ⟨(ad.add (i * 8)).block, (ad.add (i * 8)).off + 5, none⟩ = some (.string x.f5) ∧ w'.cell? ⟨(ad.add (i * 8)).block, (ad.add (i * 8)).off + 6, none⟩ = some (.string x.f6) ∧ w'.cell? ⟨(ad.add (i * 8)).block, (ad.add (i * 8)).off + 7, none⟩ = some (.bool x.f7)) (ds := [9, 11]) #[false, false, false, false, false, false, false, false, false, false, false, false] (by kernel_rfl) rfl rfl ⟨b3, q3, hx0, hx1, hx2, hx3, hx4, hx5, hx6, hx7⟩ (fun hHeld => ?_)
        refine pure_ (i := 0) (N := some 28) (v := ?_) (a' := ?_) #[true, false, false, false, false, false, false, false, false, false, false, false] rfl rfl (by kernel_rfl) (fun _ _ _ h => h) (Or.inl ⟨by rfl, ?_⟩) ?_ ?_
        rotate_left
        · intro w'
          go_simp
          with_reducible rfl
        rotate_left
        · simp only [Act.put, List.setIfInBounds_toArray, List.set_cons_zero, List.set_cons_succ, i64_w, i32_w]
          rfl
        refine pure_ (i := 2) (N := some 30) (v := ?_) (a' := ?_) #[true, false, true, false, false, false, false, false, false, false, false, false] rfl rfl (by kernel_rfl) (fun _ _ _ h => h) (Or.inl ⟨by rfl, ?_⟩) ?_ ?_
        rotate_left
        · intro w'
          go_simp
          with_reducible rfl
        rotate_left
        · simp only [Act.put, List.setIfInBounds_toArray, List.set_cons_zero, List.set_cons_succ, i64_w, i32_w]
          rfl
        refine pure_ (i := 4) (N := some 32) (v := ?_) (a' := ?_) #[true, false, true, false, true, false, false, false, false, false, false, false] rfl rfl (by kernel_rfl) (fun _ _ _ h => h) (Or.inl ⟨by rfl, ?_⟩) ?_ ?_
        rotate_left
        · intro w'
          go_simp
          with_reducible rfl
        rotate_left
        · simp only [Act.put, List.setIfInBounds_toArray, List.set_cons_zero, List.set_cons_succ, i64_w, i32_w]
          rfl
        refine take_ (i := 1) (N := some 29) (v := ?_) (a' := ?_) #[true, true, true, false, true, false, false, false, false, false, false, false] rfl rfl (by kernel_rfl) (fun _ _ _ h => h) (Or.inl ⟨by rfl, ?_⟩) hHeld ?_ ?_
        rotate_left
        · rintro w' ⟨s0, s1, s2, s3, s4, s5, s6, s7, s8, s9⟩
          go_simp
          with_reducible rfl
        rotate_left
        · simp only [Act.put, List.setIfInBounds_toArray, List.set_cons_zero, List.set_cons_succ, i64_w, i32_w]
          rfl
        refine take_ (i := 3) (N := some 31) (v := ?_) (a' := ?_) #[true, true, true, true, true, false, false, false, false, false, false, false] rfl rfl (by kernel_rfl) (fun _ _ _ h => h) (Or.inl ⟨by rfl, ?_⟩) hHeld ?_ ?_
        rotate_left
        · rintro w' ⟨s0, s1, s2, s3, s4, s5, s6, s7, s8, s9⟩
          go_simp
          with_reducible rfl
        rotate_left
        · simp only [Act.put, List.setIfInBounds_toArray, List.set_cons_zero, List.set_cons_succ, i64_w, i32_w]
          rfl
        refine pure_ (i := 5) (N := some 33) (v := ?_) (a' := ?_) #[true, true, true, true, true, true, false, false, false, false, false, false] rfl rfl (by kernel_rfl) (fun _ _ _ h => h) (Or.inl ⟨by rfl, ?_⟩) ?_ ?_
        rotate_left
        · intro w'
          go_simp
          with_reducible rfl
        rotate_left
        · simp only [Act.put, List.setIfInBounds_toArray, List.set_cons_zero, List.set_cons_succ, i64_w, i32_w]
          rfl
        refine take_ (i := 6) (N := some 34) (v := ?_) (a' := ?_) #[true, true, true, true, true, true, true, false, false, false, false, false] rfl rfl (by kernel_rfl) (fun _ _ _ h => h) (Or.inl ⟨by rfl, ?_⟩) hHeld ?_ ?_
        rotate_left
        · rintro w' ⟨s0, s1, s2, s3, s4, s5, s6, s7, s8, s9⟩
          go_simp
          with_reducible rfl
        rotate_left
        · simp only [Act.put, List.setIfInBounds_toArray, List.set_cons_zero, List.set_cons_succ, i64_w, i32_w]
          rfl
        refine one_ (i := 7) (N := some 35) #[true, true, true, true, true, true, true, true, false, false, false, false] rfl rfl (by kernel_rfl) (by decide) (fun K hK => ?_)
        refine goes_ Try.func21 (by kernel_rfl) rfl #[.agg #[.int .i64 x.f0, .string x.f1, .string x.f2, .int .u64 x.f3, .int .u64 x.f4, .string x.f5, .string x.f6, .bool x.f7]] (by rfl) rfl rfl (by simp only [List.map_toArray, List.map_cons, List.map_nil]; rfl) ?_
        with_reducible refine (ref_any x _).mono ?_
        rintro e w3 ⟨rfl, hb⟩
        refine ⟨_, rfl, ?_⟩
        have hb' : Below wr.heap.size wr w3 := ⟨hb.os, hb.tape, hb.output, hb.size, hb.block⟩
        have HQ3 := Lib.hid (HQ.out.below hb')
        clear hb'
        refine hK.out _ _ ⟨(hb.cell (World.block_lt_of_cell? _ _ b3)).trans b3, (hb.cell (World.block_lt_of_cell? _ _ q3)).trans q3, (hb.cell (World.block_lt_of_cell? _ _ hx0)).trans hx0, (hb.cell (World.block_lt_of_cell? _ _ hx1)).trans hx1, (hb.cell (World.block_lt_of_cell? _ _ hx2)).trans hx2, (hb.cell (World.block_lt_of_cell? _ _ hx3)).trans hx3, (hb.cell (World.block_lt_of_cell? _ _ hx4)).trans hx4, (hb.cell (World.block_lt_of_cell? _ _ hx5)).trans hx5, (hb.cell (World.block_lt_of_cell? _ _ hx6)).trans hx6, (hb.cell (World.block_lt_of_cell? _ _ hx7)).trans hx7⟩ (fun hHeld => ?_)
        clear hK K
        refine norm_ (a' := ?_) ?_ ?_
        rotate_left
        · show Act.put _ (some 35) _ = _
          simp only [Act.put, List.setIfInBounds_toArray, List.set_cons_zero, List.set_cons_succ, i64_w, i32_w]
          rfl
        refine one_ (i := 8) (N := some 36) #[true, true, true, true, true, true, true, true, true, false, false, false] rfl rfl (by kernel_rfl) (by decide) (fun K hK => ?_)
        refine value_ (w1 := ?_) (v := ?_) (by rfl) rfl ?_ ?_
        rotate_left 2
        · go_simp
          constructor
          · rfl
          · rfl
        have hb4 := hb.alloc hb.size (.cells #[.int .i64 x.f0, .string x.f1, .string x.f2, .int .u64 x.f3, .int .u64 x.f4, .string x.f5, .string x.f6, .bool x.f7] 44)
        refine hK.out _ _ ⟨(hb4.cell (World.block_lt_of_cell? _ _ b3)).trans b3, (hb4.cell (World.block_lt_of_cell? _ _ q3)).trans q3, (hb4.cell (World.block_lt_of_cell? _ _ hx0)).trans hx0, (hb4.cell (World.block_lt_of_cell? _ _ hx1)).trans hx1, (hb4.cell (World.block_lt_of_cell? _ _ hx2)).trans hx2, (hb4.cell (World.block_lt_of_cell? _ _ hx3)).trans hx3, (hb4.cell (World.block_lt_of_cell? _ _ hx4)).trans hx4, (hb4.cell (World.block_lt_of_cell? _ _ hx5)).trans hx5, (hb4.cell (World.block_lt_of_cell? _ _ hx6)).trans hx6, (hb4.cell (World.block_lt_of_cell? _ _ hx7)).trans hx7⟩ (fun hHeld => ?_)
        clear hK K
        refine norm_ (a' := ?_) ?_ ?_
        rotate_left
        · show Act.put _ (some 36) _ = _
          simp only [Act.put, List.setIfInBounds_toArray, List.set_cons_zero, List.set_cons_succ, i64_w, i32_w]
          rfl
        refine last_ (i := 9) (N := some 37) #[true, true, true, true, true, true, true, true, true, true, false, false] rfl rfl (by kernel_rfl) (by decide) (fun K hK => ?_)
        refine Kd.R_append_step k44 (w0 := w) w.heap.size (by rfl) (.tmp 29) (.tmp 36) 26 44 _ 96 rfl Try.underlying26 info44 rfl (by decide) (by decide) v ((l.take i).map rf) (rf x) [.int .i64 x.f0, .string x.f1, .string x.f2, .int .u64 x.f3, .int .u64 x.f4, .string x.f5, .string x.f6, .bool x.f7] (fun _ => True) (fun _ => False) (by rfl) (by rfl) (k44_mkM _ _ _ (rf x)) (fun _ h => h.elim) (fun _ _ => trivial) HQ3.out.r HQ3.out.b HQ3.out.b.size (by simp; omega) ?_
        intro v1 w4 hR4 hB4 hg4 hat4
        rw [HSU.out] at hR4
        obtain ⟨A1, c1, e1⟩ := Kd.R_slice hR4
        rw [hln1] at e1
        subst e1
        have HQ4 := Lib.hid (HQ3.out.app hR4 hB4 hg4)
        have q4 := (blk_cell HQ4.out.g3 3).trans rfl
        have qf4 := blk_frozen HQ4.out.g3 3
        refine hK.out _ _ ?_
        clear hK K
        refine norm_ (a' := ?_) ?_ ?_
        rotate_left
        · show Act.put _ (some 37) _ = _
          simp only [Act.put, List.setIfInBounds_toArray, List.set_cons_zero, List.set_cons_succ, i64_w, i32_w]
          rfl
        refine pure_ (i := 10) (N := some 38) (v := ?_) (a' := ?_) #[true, true, true, true, true, true, true, true, true, true, true, false] rfl rfl (by kernel_rfl) (fun _ _ _ h => h) (Or.inl ⟨by rfl, ?_⟩) ?_ ?_
        rotate_left
        · intro w'
          go_simp
          with_reducible rfl
        rotate_left
        · simp only [Act.put, List.setIfInBounds_toArray, List.set_cons_zero, List.set_cons_succ, i64_w, i32_w]
          rfl
        refine last_ (i := 11) (N := none) #[true, true, true, true, true, true, true, true, true, true, true, true] rfl rfl (by kernel_rfl) (by decide) (fun K hK => ?_)
        refine skip_ (w1 := ?_) (by rfl) rfl ?_ ?_
        rotate_left
        · go_simp
          rfl
        refine hK.out _ _ ?_
        clear hK K
        refine done_ (by kernel_rfl) ?_
        go_wp2
        go_roundw
        case rel => exact ⟨i + 1, _, by omega, by go_num, Lib.hid HQ4.out.put⟩
        case measure => simp [intOf]; omega
      · obtain rfl : i = t := by omega
        have hln : ((l.take i).map rf).length = i := by
          have hl := HL.out
          simp; omega
        obtain ⟨Av, cv, e1⟩ := Kd.R_slice HQ.out.r
        rw [hln] at e1
        subst e1
        go_upto_region 8 with fail
        have y0 := (blk_cell HQ.out.g1 0).trans rfl
        have y1 := (blk_cell HQ.out.g1 1).trans rfl
        have y2 := (blk_cell HQ.out.g1 2).trans rfl
        have y3 := (blk_cell HQ.out.g1 3).trans rfl
        have yf0 := blk_frozen HQ.out.g1 0
        have yf1 := blk_frozen HQ.out.g1 1
        have yf2 := blk_frozen HQ.out.g1 2
        have yf3 := blk_frozen HQ.out.g1 3
        refine start_ (n := 4) (S := fun w' => w'.cell? ⟨w.heap.size, 0, none⟩ = some (.int .u64 a0) ∧ w'.cell? ⟨w.heap.size, 1, none⟩ = some (.string a1) ∧ w'.cell? ⟨w.heap.size, 2, none⟩ = some (.int .u64 a2) ∧ w'.cell? ⟨w.heap.size, 3, none⟩ = some (.slice A i c) ∧ w'.cell? ⟨w.heap.size + 3, 0, none⟩ = some (.int .u64 a0) ∧ w'.cell? ⟨w.heap.size + 3, 1, none⟩ = some (.string a1) ∧ w'.cell? ⟨w.heap.size + 3, 2, none⟩ = some (.int .u64 a2) ∧ w'.cell? ⟨w.heap.size + 3, 3, none⟩ = some (.slice Av i cv)) (ds := [3]) #[false, false, false, false] (by kernel_rfl) rfl rfl ⟨(blk_cell HQ.out.g0 0).trans rfl, (blk_cell HQ.out.g0 1).trans rfl, (blk_cell HQ.out.g0 2).trans rfl, (blk_cell HQ.out.g0 3).trans rfl, (blk_cell HQ.out.g3 0).trans rfl, (blk_cell HQ.out.g3 1).trans rfl, (blk_cell HQ.out.g3 2).trans rfl, (blk_cell HQ.out.g3 3).trans rfl⟩ (fun hHeld => ?_)
        refine take_ (i := 0) (N := some 39) (v := ?_) (a' := ?_) #[true, false, false, false] rfl rfl (by kernel_rfl) (fun _ _ _ h => h) (Or.inl ⟨by rfl, ?_⟩) hHeld ?_ ?_
        rotate_left
        · rintro w' ⟨s0, s1, s2, s3, s4, s5, s6, s7⟩
          go_simp
          with_reducible rfl
        rotate_left
        · simp only [Act.put, List.setIfInBounds_toArray, List.set_cons_zero, List.set_cons_succ, i64_w, i32_w]
          rfl
        refine take_ (i := 1) (N := some 40) (v := ?_) (a' := ?_) #[true, true, false, false] rfl rfl (by kernel_rfl) (fun _ _ _ h => h) (Or.inl ⟨by rfl, ?_⟩) hHeld ?_ ?_
        rotate_left
        · rintro w' ⟨s0, s1, s2, s3, s4, s5, s6, s7⟩
          go_simp
          with_reducible rfl
        rotate_left
        · simp only [Act.put, List.setIfInBounds_toArray, List.set_cons_zero, List.set_cons_succ, i64_w, i32_w]
          rfl
        refine one_ (i := 2) (N := none) #[true, true, true, false] rfl rfl (by kernel_rfl) (by decide) (fun K hK => ?_)
        refine skip_ (w1 := ?_) (by rfl) rfl ?_ ?_
        rotate_left
        · go_simp
          rfl
        have HE := Lib.hid HQ.out.first
        have z0 := (blk_cell HE.out.g2 0).trans rfl
        have z1 := (blk_cell HE.out.g2 1).trans rfl
        have z2 := (blk_cell HE.out.g2 2).trans rfl
        have z3 := (blk_cell HE.out.g2 3).trans rfl
        have zf0 := blk_frozen HE.out.g2 0
        have zf1 := blk_frozen HE.out.g2 1
        have zf2 := blk_frozen HE.out.g2 2
        have zf3 := blk_frozen HE.out.g2 3
        refine hK.out _ _ ⟨(blk_cell HE.out.g0 0).trans rfl, (blk_cell HE.out.g0 1).trans rfl, (blk_cell HE.out.g0 2).trans rfl, (blk_cell HE.out.g0 3).trans rfl, (blk_cell HE.out.g3 0).trans rfl, (blk_cell HE.out.g3 1).trans rfl, (blk_cell HE.out.g3 2).trans rfl, (blk_cell HE.out.g3 3).trans rfl⟩ (fun hHeld => ?_)
        clear hK K
        refine last_ (i := 3) (N := none) #[true, true, true, true] rfl rfl (by kernel_rfl) (by decide) (fun K hK => ?_)
        refine skip_ (w1 := ?_) (by rfl) rfl ?_ ?_
        rotate_left
        · go_simp
          rfl
        refine hK.out _ _ ?_
        clear hK K
        refine done_ (by kernel_rfl) ?_
        go_wp2
        obtain ⟨k1, k2, k3, k4⟩ := HE.out.second
        clear HE HQ
        generalize ((((((((wr.setCell ⟨w.heap.size + 1, 0, none⟩ (.int .u64 a0)).setCell ⟨w.heap.size + 1, 1, none⟩ (.string a1)).setCell ⟨w.heap.size + 1, 2, none⟩ (.int .u64 a2)).setCell ⟨w.heap.size + 1, 3, none⟩ (.slice A i c)).setCell ⟨w.heap.size + 1 + 1, 0, none⟩ (.int .u64 a0)).setCell ⟨w.heap.size + 1 + 1, 1, none⟩ (.string a1)).setCell ⟨w.heap.size + 1 + 1, 2, none⟩ (.int .u64 a2)).setCell ⟨w.heap.size + 1 + 1, 3, none⟩ (.slice Av i cv)) = V at k1 k2 k3 k4 ⊢
        have htk : (l.take 66).map rf = (l.take i).map rf := by
          have hl := HL.out
          congr 1
          rw [← ht, ← hl]
          rcases Nat.le_total l.length 66 with h | h
          · rw [Nat.min_eq_left h, List.take_of_length_le h, List.take_length]
          · rw [Nat.min_eq_right h]
        rw [htk, ht]
        exact bodyPost_ret (results_cc rfl _ _ (w.heap.size + 1) (w.heap.size + 1 + 1) 25 28 _ _ (0, 0) (0, 0) _ _ rfl k1 Try.underlying25 rfl (by kernel_rfl) rfl k2 Try.underlying28 rfl (by kernel_rfl)) rfl ⟨_, rfl, k3, below_drew1 k4⟩
end Go.Proofs.Ytdcbacbilncnnaa.T
end
section
/- Header, Block and awake of a block, in the printed form. -/
set_option linter.unusedVariables false
set_option linter.unusedSimpArgs false
namespace Go.Proofs.Ytdcbacbilncnnaa.T
open Go.RowKit Go.Proofs.Ytdcbacbilncnnaa.PMk Go.Proofs.Ytdcbacbilncnnaa.EncL Go.Proofs.YtdcbacbilncnnaaW.PrintWords Go.Proofs.YtdcbacbilncnnaaW.PrintLast Go.Proofs.YtdcbacbilncnnaaW.PrintMore
def fx (x : S47) : Bool := decide (0 ≤ x.f3 ∧ x.f3 < 18446744073709551616 ∧ 0 ≤ x.f4 ∧ x.f4 < 18446744073709551616 ∧ x.f1.size ≤ 1125899906842624 ∧ x.f2.size ≤ 1125899906842624 ∧ x.f5.size ≤ 1125899906842624)
end Go.Proofs.Ytdcbacbilncnnaa.T
namespace Go.Proofs.Ytdcbacbilncnnaa.Blk
open Go.RowKit Go.Proofs.Ytdcbacbilncnnaa.PMk Go.Proofs.Ytdcbacbilncnnaa.T Go.Proofs.Ytdcbacbilncnnaa.EncL Go.Proofs.YtdcbacbilncnnaaW.PrintWords Go.Proofs.YtdcbacbilncnnaaW.PrintLast Go.Proofs.YtdcbacbilncnnaaW.PrintMore
end Go.Proofs.Ytdcbacbilncnnaa.Blk
end
section
/- Names and what a revision may be: the program's and the reference's answers are one plain function's. -/
set_option linter.unusedVariables false
set_option linter.unusedSimpArgs false
namespace Go.Proofs.Ytdcbacbilncnnaa.T
open Go.RowKit Go.Proofs.Ytdcbacbilncnnaa.PMk Go.Proofs.Ytdcbacbilncnnaa.EncS Go.Proofs.Ytdcbacbilncnnaa.EncL Go.Proofs.YtdcbacbilncnnaaW.PrintWords Go.Proofs.YtdcbacbilncnnaaW.PrintLast
def good (i : Nat) (c : Int) : Prop := (97 ≤ c ∧ c ≤ 122) ∨ (65 ≤ c ∧ c ≤ 90) ∨ c = 95 ∨ (i ≠ 0 ∧ 48 ≤ c ∧ c ≤ 57)
instance (i : Nat) (c : Int) : Decidable (good i c) := by unfold good; infer_instance
/-- What a revision may be. -/
def numsOk (x : S47) : Prop := if x.f0 < 3 then x.f3 = 0 ∧ x.f4 = 0 else 1 ≤ x.f3 ∧ (x.f0 = 3 ↔ x.f4 = 0)
def bytesOk (x : S47) : Prop :=
  if x.f0 = 3 ∨ x.f0 = 4 then (if x.f7 = true then x.f5.size = 32 ∧ x.f6.toList = [] else x.f5.toList = (leaf x.f6).toList ∧ x.f6.size ≤ 1024)
  else x.f5.toList = [] ∧ x.f6.toList = [] ∧ x.f7 = false
instance (x : S47) : Decidable (numsOk x) := by unfold numsOk; infer_instance
instance (x : S47) : Decidable (bytesOk x) := by unfold bytesOk; infer_instance
structure Small (x : S47) : Prop where
  s1 : x.f1.size < 4611686018427387904
  s2 : x.f2.size < 4611686018427387904
  s6 : x.f6.size < 1152921504606846000
  n4 : 0 ≤ x.f4
end Go.Proofs.Ytdcbacbilncnnaa.T
end
section
namespace Go.Proofs.Ytdcbacbilncnnaa.PMk
open Go.RowKit Go.Proofs.YtdcbacbilncnnaaW.PrintWords Go.Proofs.YtdcbacbilncnnaaW.PrintLast Go.Proofs.YtdcbacbilncnnaaW.PrintMore
attribute [local go_sem] max2_int min2_int max_two min_two max_three min_three max_four min_four   -- for this text's walks alone
set_option linter.unusedVariables false
set_option linter.unusedSimpArgs false
/-! ### parchmentref09_Frame: function 17 -/
/-- A state of type 138 at block g of W; what its slices lead to came in by w0. -/
def IsS138 (w0 W : World) (g : Nat) (f0 : ByteArray) (f1 : Int) (f2 : Int) : Prop := W.heap[g]? = some (.cells #[.string f0, .int .i64 f1, .int .i64 f2] 138 (0, 0)) ∧ w0.heap.size ≤ g
theorem IsS138.grown {w0 W : World} {g : Nat} {f0 : ByteArray} {f1 : Int} {f2 : Int} {W1 : World} {row : Option Nat} (h : IsS138 w0 W g f0 f1 f2) (hw : W.grownBy W1 row) (hne : some g ≠ row) : IsS138 w0 W1 g f0 f1 f2 := by
 obtain ⟨hb, hg⟩ := h
 exact ⟨blk_grown hb hw hne, hg⟩
theorem IsS138.kept {w0 W : World} {g : Nat} {f0 : ByteArray} {f1 : Int} {f2 : Int} {W1 : World} {S : Nat → Prop} (h : IsS138 w0 W g f0 f1 f2) (hk : Kept W W1 S) (hne : ¬ S g) : IsS138 w0 W1 g f0 f1 f2 := by
 obtain ⟨hb, hg⟩ := h
 exact ⟨blk_kept hb hk hne, hg⟩
theorem IsS138.below {w0 W : World} {g : Nat} {f0 : ByteArray} {f1 : Int} {f2 : Int} {W1 : World} (h : IsS138 w0 W g f0 f1 f2) (hw : Below W.heap.size W W1) : IsS138 w0 W1 g f0 f1 f2 := h.grown (grown_of_below hw none) (by simp)
theorem IsS138.alloc {w0 W : World} {g : Nat} {f0 : ByteArray} {f1 : Int} {f2 : Int} (h : IsS138 w0 W g f0 f1 f2) (o : Obj) : IsS138 w0 (W.alloc o) g f0 f1 f2 := h.below (below_alloc (Below.refl _ _) o)
theorem IsS138.drewN {w0 W : World} {g : Nat} {f0 : ByteArray} {f1 : Int} {f2 : Int} (h : IsS138 w0 W g f0 f1 f2) (m : Nat) : IsS138 w0 (W.drewN m) g f0 f1 f2 := h
theorem IsS138.drew {w0 W : World} {g : Nat} {f0 : ByteArray} {f1 : Int} {f2 : Int} (h : IsS138 w0 W g f0 f1 f2) : IsS138 w0 W.drew g f0 f1 f2 := h
theorem IsS138.at_ {w0 W : World} {g : Nat} {f0 : ByteArray} {f1 : Int} {f2 : Int} {w' : World} {m : Nat} (hq : W.drewN m = w') (h : IsS138 w0 W g f0 f1 f2) : IsS138 w0 w' g f0 f1 f2 := by subst hq; exact IsS138.drewN h m
theorem IsS138.apart {w0 W : World} {g : Nat} {f0 : ByteArray} {f1 : Int} {f2 : Int} {α : Type} {d : Kd α} {e : Nat} {base : Nat} {ok : Nat → Prop} {v : Value} {xs : List α} (h : IsS138 w0 W g f0 f1 f2) (ho : d.R e W base ok v xs) (ht : ∀ q, q ∈ e :: d.E → q ≠ 138) : d.R e W base (fun k => ok k ∧ k ≠ g) v xs := by
 obtain ⟨hb, hg⟩ := h
 exact Kd.R_types ho hb ht
theorem IsS138.own_ne {w0 W : World} {g : Nat} {f0 : ByteArray} {f1 : Int} {f2 : Int} {α : Type} {d : Kd α} {e : Nat} {base : Nat} {ok : Nat → Prop} {v : Value} {xs : List α} (h : IsS138 w0 W g f0 f1 f2) (ho : d.R e W base ok v xs) (ht : e ≠ 138) : some g ≠ v.ownBlock := by
 obtain ⟨hb, hg⟩ := h
 exact Kd.R_ne ho hb ht
theorem IsS138.lt {w0 W : World} {g : Nat} {f0 : ByteArray} {f1 : Int} {f2 : Int} (h : IsS138 w0 W g f0 f1 f2) : g < W.heap.size := by
 obtain ⟨hb, hg⟩ := h
 exact blk_lt hb
theorem IsS138.far {w0 W : World} {g : Nat} {f0 : ByteArray} {f1 : Int} {f2 : Int} {p : Addr} (h : IsS138 w0 W g f0 f1 f2) (hne : g ≠ p.block) (u : Value) : IsS138 w0 (W.setCell p u) g f0 f1 f2 := by
 obtain ⟨hb, hg⟩ := h
 exact ⟨blk_far hb hne u, hg⟩
theorem IsS138.new (w0 W : World) (f0 : ByteArray) (f1 : Int) (f2 : Int) (hB : Below w0.heap.size w0 W) : IsS138 w0 (W.alloc (.cells #[.string f0, .int .i64 f1, .int .i64 f2] 138)) W.heap.size f0 f1 f2 := ⟨by simpa using heap_alloc_new W _, hB.size⟩
/-! ### enc_At: function 61 -/
/-! ### enc_Cursor_stop: function 88 -/
end Go.Proofs.Ytdcbacbilncnnaa.PMk
end
section
/- Root, Header, Frame and Follows of a block: what the reference comes to, and the program's Frame. -/
set_option linter.unusedVariables false
set_option linter.unusedSimpArgs false
namespace Go.Proofs.Ytdcbacbilncnnaa.T
open Go.RowKit Go.Proofs.Ytdcbacbilncnnaa.PMk Go.Proofs.Ytdcbacbilncnnaa.M Go.Proofs.Ytdcbacbilncnnaa.EncS Go.Proofs.Ytdcbacbilncnnaa.EncL Go.Proofs.YtdcbacbilncnnaaW.PrintWords Go.Proofs.YtdcbacbilncnnaaW.PrintLast
theorem rd_map (l : List S47) (i : Nat) (h : i < l.length) : rd_T44 (l.map rf) (i : Int) = rf (rd_T47 l (i : Int)) := by
  unfold rd_T44 rd_T47
  simp [List.getD_eq_getElem?_getD, List.getElem?_eq_getElem h]
theorem rd_mem (l : List S47) (i : Nat) (h : i < l.length) : rd_T47 l (i : Int) ∈ l := by
  unfold rd_T47
  simp [List.getD_eq_getElem?_getD, List.getElem?_eq_getElem h]
end Go.Proofs.Ytdcbacbilncnnaa.T
end
section
/- BlockBodies, walked. Written in part by wip/genbodies.py. -/
set_option linter.unusedVariables false
set_option linter.unusedSimpArgs false
namespace Go.Proofs.Ytdcbacbilncnnaa.T
open Go.RowKit Go.Proofs.Ytdcbacbilncnnaa.PMk Go.Proofs.Ytdcbacbilncnnaa.M Go.Proofs.Ytdcbacbilncnnaa.EncL Go.Proofs.YtdcbacbilncnnaaW.PrintWords Go.Proofs.YtdcbacbilncnnaaW.PrintLast
theorem without_any (a0 : Int) (a1 : ByteArray) (a2 : Int) (A : Option Addr) (c n : Nat) (l : List S47) (i : Int) (w : World) (hl : l.length = n) (hC : Kd.C k47 w A n l) (hc : n ≤ c) (hn : n < 1000000) :
    Calls Try.prog 19 #[.agg #[.int .u64 a0, .string a1, .int .u64 a2, .slice A n c], .int .i64 i] w fun e w' => ∃ A' c', e = .returned (.tuple #[.agg #[.int .u64 a0, .string a1, .int .u64 a2, .slice A' n c'], .int .i64 (if wo l i = true then 0 else 1)]) ∧
      Kd.C k47 w' A' n (if wo l i = true then l.set i.toNat (bare (rd_T47 l i)) else l) ∧ Below w.heap.size w w' := by
  subst hl
  by_cases hb : wo l i = true
  · refine (without_ok a0 a1 a2 A c l i w hC hb hn).mono ?_
    rintro e w' ⟨v, rfl, hR, hB⟩
    obtain ⟨A', c', rfl⟩ := Kd.R_slice hR
    rw [if_pos hb, if_pos hb]
    have h2 := (Kd.R_reads' hR).2.2
    rw [List.length_set] at h2 ⊢
    exact ⟨A', c', rfl, h2, hB⟩
  · refine (without_bad a0 a1 a2 A c l i w hC (by simpa using hb)).mono ?_
    rintro e w' ⟨rfl, hB⟩
    rw [if_neg hb, if_neg hb]
    exact ⟨A, c, rfl, Kd.C_below hC hB, hB⟩
theorem with_any (a0 : Int) (a1 : ByteArray) (a2 : Int) (A : Option Addr) (c n : Nat) (l : List S47) (i : Int) (body : ByteArray) (w : World) (hl : l.length = n) (hC : Kd.C k47 w A n l) (hn : n < 1000000) (hs : body.size < 1152921504606846000) :
    Calls Try.prog 18 #[.agg #[.int .u64 a0, .string a1, .int .u64 a2, .slice A n c], .int .i64 i, .string body] w fun e w' => ∃ A' c', e = .returned (.tuple #[.agg #[.int .u64 a0, .string a1, .int .u64 a2, .slice A' n c'], .int .i64 (if wi l i body (leaf body) = true then 0 else 1)]) ∧
      Kd.C k47 w' A' n (if wi l i body (leaf body) = true then l.set i.toNat (dressed (rd_T47 l i) body) else l) ∧ Below w.heap.size w w' := by
  subst hl
  refine (with_raw a0 a1 a2 A c l i body (leaf body) w hC hn (Lib.hid fun w => hash_Leaf.calls body _ w (leaf_f _ hs))).mono ?_
  rintro e w' ⟨v, rfl, hR, hB⟩
  by_cases hb : wi l i body (leaf body) = true
  · rw [if_pos hb] at hR ⊢
    rw [if_pos hb]
    obtain ⟨A', c', rfl⟩ := Kd.R_slice hR
    have h2 := (Kd.R_reads' hR).2.2
    rw [List.length_set] at h2 ⊢
    exact ⟨A', c', rfl, h2, hB⟩
  · rw [if_neg hb] at hR ⊢
    rw [if_neg hb]
    exact ⟨A, c, by rw [hR], Kd.C_below hC hB, hB⟩
/-- A digest does not hang on bodies. -/
theorem bhash_mx (a0 : Int) (a1 : ByteArray) (a2 : Int) {l m : List S47} (h : l.map mx = m.map mx) : bhash a0 a1 a2 l = bhash a0 a1 a2 m := by
  have hl : l.length = m.length := by simpa using congrArg List.length h
  have e : ∀ l : List S47, ms l = (l.map mx).map S := fun l => by unfold ms; rw [List.map_map]; rfl
  unfold bhash hdr lvs
  rw [e l, e m, h, hl]
theorem set_mx {l : List S47} {i : Nat} {y : S47} (h : mx y = mx (l.getD i z47)) : (l.set i y).map mx = l.map mx := by
  apply List.ext_getElem
  · simp
  · intro j h1 h2
    simp only [List.getElem_map, List.getElem_set]
    split
    · next e =>
      subst e
      rw [h]
      have : i < l.length := by simpa using h2
      simp [List.getD_eq_getElem?_getD, List.getElem?_eq_getElem this]
    · rfl
def Lw (l : List S47) (k : Int) (body : ByteArray) : List S47 := if wi l k body (leaf body) = true then l.set k.toNat (dressed (rd_T47 l k) body) else l
def Lo (l : List S47) (k : Int) : List S47 := if wo l k = true then l.set k.toNat (bare (rd_T47 l k)) else l
theorem Lw_len (l : List S47) (k : Int) (body : ByteArray) : (Lw l k body).length = l.length := by unfold Lw; split <;> simp
theorem Lo_len (l : List S47) (k : Int) : (Lo l k).length = l.length := by unfold Lo; split <;> simp
theorem Lw_mx (l : List S47) (k : Int) (body : ByteArray) : (Lw l k body).map mx = l.map mx := by unfold Lw; split; exact set_mx rfl; rfl
theorem Lo_mx (l : List S47) (k : Int) : (Lo l k).map mx = l.map mx := by unfold Lo; split; exact set_mx rfl; rfl
theorem fits_mx {a0 : Int} {a1 : ByteArray} {a2 : Int} {l m : List S47} (g : FitsB a0 a1 a2 l) (hl : m.length = l.length) (h : ∀ x ∈ m, Fits x.f3 x.f4 x.f1 x.f2 x.f5) : FitsB a0 a1 a2 m := ⟨g.p0, g.p1, g.s, g.q0, g.q1, h, by rw [hl]; exact g.n⟩
theorem mem_set_fits {l : List S47} {k : Nat} {y : S47} (g : FitsL l) (h : k < l.length → Fits y.f3 y.f4 y.f1 y.f2 y.f5) : FitsL (l.set k y) := by
  intro x hx
  rcases List.mem_or_eq_of_mem_set hx with hx | rfl
  · exact g x hx
  · by_cases hk : k < l.length
    · exact h hk
    · rw [List.set_eq_of_length_le (by omega)] at hx
      exact g _ hx
theorem rd_fits {l : List S47} (g : FitsL l) {k : Nat} (h : k < l.length) : Fits (rd_T47 l (k : Int)).f3 (rd_T47 l (k : Int)).f4 (rd_T47 l (k : Int)).f1 (rd_T47 l (k : Int)).f2 (rd_T47 l (k : Int)).f5 := g _ (rd_mem l k h)
theorem Lw_fits {l : List S47} (g : FitsL l) (k : Int) (body : ByteArray) : FitsL (Lw l k body) := by
  unfold Lw
  split
  · refine mem_set_fits g (fun h => ?_)
    have e : rd_T47 l k = rd_T47 l (k.toNat : Int) := by unfold rd_T47; rw [Int.toNat_natCast]
    rw [e]
    exact rd_fits g h
  · exact g
theorem Lo_fits {l : List S47} (g : FitsL l) (k : Int) : FitsL (Lo l k) := by
  unfold Lo
  split
  · refine mem_set_fits g (fun h => ?_)
    have e : rd_T47 l k = rd_T47 l (k.toNat : Int) := by unfold rd_T47; rw [Int.toNat_natCast]
    rw [e]
    exact rd_fits g h
  · exact g
theorem rd_set_ne {l : List S47} {k i : Nat} {y : S47} (h : i ≠ k) : rd_T47 (l.set k y) (i : Int) = rd_T47 l (i : Int) := by
  unfold rd_T47
  rw [List.getD_eq_getElem?_getD, List.getD_eq_getElem?_getD, Int.toNat_natCast, List.getElem?_set_ne (Ne.symm h)]
theorem rd_set_eq {l : List S47} {k : Int} {y : S47} (h0 : 0 ≤ k) (h : k < l.length) : rd_T47 (l.set k.toNat y) k = y := by
  unfold rd_T47
  rw [List.getD_eq_getElem?_getD, List.getElem?_set_self (by omega)]
  rfl
theorem rd_map' (l : List S47) (k : Int) (h : k < l.length) (h0 : 0 ≤ k) : rd_T44 (l.map rf) k = rf (rd_T47 l k) := by
  have := rd_map l k.toNat (by omega)
  rw [Int.toNat_of_nonneg h0] at this
  exact this
theorem wi_range {l : List S47} {k : Int} {body t : ByteArray} (h : wi l k body t = true) : 0 ≤ k ∧ k < l.length := by
  unfold wi at h
  simp only [Bool.and_eq_true, decide_eq_true_eq] at h
  exact h.1.1.1
theorem wo_range {l : List S47} {k : Int} (h : wo l k = true) : 0 ≤ k ∧ k < l.length := by
  unfold wo at h
  simp only [Bool.and_eq_true, decide_eq_true_eq] at h
  exact h.1.1
theorem Lw_ne {l : List S47} {k : Int} {body : ByteArray} {i : Nat} (h : (i : Int) ≠ k) : rd_T47 (Lw l k body) (i : Int) = rd_T47 l (i : Int) := by
  unfold Lw
  split
  · next hw => exact rd_set_ne (by have := wi_range hw; omega)
  · rfl
theorem Lo_ne {l : List S47} {k : Int} {i : Nat} (h : (i : Int) ≠ k) : rd_T47 (Lo l k) (i : Int) = rd_T47 l (i : Int) := by
  unfold Lo
  split
  · next hw => exact rd_set_ne (by have := wo_range hw; omega)
  · rfl
theorem Lw_eq {l : List S47} {k : Int} {body : ByteArray} (h : wi l k body (leaf body) = true) : rd_T47 (Lw l k body) k = dressed (rd_T47 l k) body := by
  unfold Lw
  rw [if_pos h]
  exact rd_set_eq (wi_range h).1 (wi_range h).2
theorem Lo_eq {l : List S47} {k : Int} (h : wo l k = true) : rd_T47 (Lo l k) k = bare (rd_T47 l k) := by
  unfold Lo
  rw [if_pos h]
  exact rd_set_eq (wo_range h).1 (wo_range h).2
theorem eqA44 (d : Nat) (w : World) (x0 y0 : Int) (x1 y1 : ByteArray) (x2 y2 : ByteArray) (x3 y3 : Int) (x4 y4 : Int) (x5 y5 : ByteArray) (x6 y6 : ByteArray) (x7 y7 : Bool) :
    (Op.equalIn (d + 2) 44 (.agg #[.int .i64 x0, .string x1, .string x2, .int .u64 x3, .int .u64 x4, .string x5, .string x6, .bool x7]) (.agg #[.int .i64 y0, .string y1, .string y2, .int .u64 y3, .int .u64 y4, .string y5, .string y6, .bool y7])).run Try.prog w = .ok (x0 == y0 && (x1.toList == y1.toList && (x2.toList == y2.toList && (x3 == y3 && (x4 == y4 && (x5.toList == y5.toList && (x6.toList == y6.toList && (x7 == y7)))))))) w := by
  refine eqA_of Try.underlying44 (by kernel_rfl) ?_
  refine eqf_cons (by rfl) (by go_simp; rfl) (by go_simp; rfl) (by go_simp) ?_
  refine eqf_cons (by rfl) (by go_simp; rfl) (by go_simp; rfl) (by go_simp) ?_
  refine eqf_cons (by rfl) (by go_simp; rfl) (by go_simp; rfl) (by go_simp) ?_
  refine eqf_cons (by rfl) (by go_simp; rfl) (by go_simp; rfl) (by go_simp) ?_
  refine eqf_cons (by rfl) (by go_simp; rfl) (by go_simp; rfl) (by go_simp) ?_
  refine eqf_cons (by rfl) (by go_simp; rfl) (by go_simp; rfl) (by go_simp) ?_
  refine eqf_cons (by rfl) (by go_simp; rfl) (by go_simp; rfl) (by go_simp) ?_
  exact eqf_last (by rfl) (by go_simp; rfl) (by go_simp; rfl) (by go_simp)
theorem eqA47 (d : Nat) (w : World) (x0 y0 : Int) (x1 y1 : ByteArray) (x2 y2 : ByteArray) (x3 y3 : Int) (x4 y4 : Int) (x5 y5 : ByteArray) (x6 y6 : ByteArray) (x7 y7 : Bool) :
    (Op.equalIn (d + 2) 47 (.agg #[.int .i64 x0, .string x1, .string x2, .int .u64 x3, .int .u64 x4, .string x5, .string x6, .bool x7]) (.agg #[.int .i64 y0, .string y1, .string y2, .int .u64 y3, .int .u64 y4, .string y5, .string y6, .bool y7])).run Try.prog w = .ok (x0 == y0 && (x1.toList == y1.toList && (x2.toList == y2.toList && (x3 == y3 && (x4 == y4 && (x5.toList == y5.toList && (x6.toList == y6.toList && (x7 == y7)))))))) w := by
  refine eqA_of Try.underlying47 (by kernel_rfl) ?_
  refine eqf_cons (by rfl) (by go_simp; rfl) (by go_simp; rfl) (by go_simp) ?_
  refine eqf_cons (by rfl) (by go_simp; rfl) (by go_simp; rfl) (by go_simp) ?_
  refine eqf_cons (by rfl) (by go_simp; rfl) (by go_simp; rfl) (by go_simp) ?_
  refine eqf_cons (by rfl) (by go_simp; rfl) (by go_simp; rfl) (by go_simp) ?_
  refine eqf_cons (by rfl) (by go_simp; rfl) (by go_simp; rfl) (by go_simp) ?_
  refine eqf_cons (by rfl) (by go_simp; rfl) (by go_simp; rfl) (by go_simp) ?_
  refine eqf_cons (by rfl) (by go_simp; rfl) (by go_simp; rfl) (by go_simp) ?_
  exact eqf_last (by rfl) (by go_simp; rfl) (by go_simp; rfl) (by go_simp)
attribute [local go_sem ↓] eqA44 eqA47
/-- The first two variables. -/
structure B1 (w wr : World) (g7 g8 : Nat) (a0 : Int) (a1 : ByteArray) (a2 : Int) (A Am : Option Addr) (n c cm : Nat) (L : List S47) : Prop where
  g7 : wr.heap[g7]? = some (.cells #[.int .u64 a0, .string a1, .int .u64 a2, .slice A n c] 25 (0, 0))
  g8 : wr.heap[g8]? = some (.cells #[.int .u64 a0, .string a1, .int .u64 a2, .slice Am n cm] 28 (0, 0))
  kb : Kd.C k47 wr A n L
  km : Kd.C k44 wr Am n (L.map rf)
  b : Below w.heap.size w wr
theorem B1.below {w wr w1 : World} {g7 g8 : Nat} {a0 : Int} {a1 : ByteArray} {a2 : Int} {A Am : Option Addr} {n c cm : Nat} {L : List S47} (h : B1 w wr g7 g8 a0 a1 a2 A Am n c cm L) (hb : Below wr.heap.size wr w1) : B1 w w1 g7 g8 a0 a1 a2 A Am n c cm L :=
  ⟨blk_below h.g7 hb, blk_below h.g8 hb, Kd.C_below h.kb hb, Kd.C_below h.km hb, h.b.trans (hb.mono h.b.size)⟩
theorem B1.drew {w wr : World} {g7 g8 : Nat} {a0 : Int} {a1 : ByteArray} {a2 : Int} {A Am : Option Addr} {n c cm : Nat} {L : List S47} (h : B1 w wr g7 g8 a0 a1 a2 A Am n c cm L) : B1 w wr.drew g7 g8 a0 a1 a2 A Am n c cm L := h.below (below_drew (Below.refl _ _))
/-- All four. -/
structure B2 (w wr : World) (g7 g8 g10 g12 : Nat) (a0 : Int) (a1 : ByteArray) (a2 : Int) (A Am Ac Ad : Option Addr) (n c cm cc cd : Nat) (L Lc Ld : List S47) : Prop where
  h : B1 w wr g7 g8 a0 a1 a2 A Am n c cm L
  g10 : wr.heap[g10]? = some (.cells #[.int .u64 a0, .string a1, .int .u64 a2, .slice Ac n cc] 25 (0, 0))
  g12 : wr.heap[g12]? = some (.cells #[.int .u64 a0, .string a1, .int .u64 a2, .slice Ad n cd] 25 (0, 0))
  kc : Kd.C k47 wr Ac n Lc
  kd : Kd.C k47 wr Ad n Ld
theorem B2.below {w wr w1 : World} {g7 g8 g10 g12 : Nat} {a0 : Int} {a1 : ByteArray} {a2 : Int} {A Am Ac Ad : Option Addr} {n c cm cc cd : Nat} {L Lc Ld : List S47} (h : B2 w wr g7 g8 g10 g12 a0 a1 a2 A Am Ac Ad n c cm cc cd L Lc Ld) (hb : Below wr.heap.size wr w1) : B2 w w1 g7 g8 g10 g12 a0 a1 a2 A Am Ac Ad n c cm cc cd L Lc Ld :=
  ⟨h.h.below hb, blk_below h.g10 hb, blk_below h.g12 hb, Kd.C_below h.kc hb, Kd.C_below h.kd hb⟩
theorem B2.drew {w wr : World} {g7 g8 g10 g12 : Nat} {a0 : Int} {a1 : ByteArray} {a2 : Int} {A Am Ac Ad : Option Addr} {n c cm cc cd : Nat} {L Lc Ld : List S47} (h : B2 w wr g7 g8 g10 g12 a0 a1 a2 A Am Ac Ad n c cm cc cd L Lc Ld) : B2 w wr.drew g7 g8 g10 g12 a0 a1 a2 A Am Ac Ad n c cm cc cd L Lc Ld := h.below (below_drew (Below.refl _ _))
theorem block_v (a0 : Int) (a1 : ByteArray) (a2 : Int) (A : Option Addr) (c : Nat) (l : List S47) (w : World) (hC : Kd.C k47 w A l.length l) (hc : l.length ≤ c) :
    Calls Try.prog 10 #[.agg #[.int .u64 a0, .string a1, .int .u64 a2, .slice A l.length c]] w fun e w' => ∃ Am cm, e = .returned (.tuple #[.agg #[.int .u64 a0, .string a1, .int .u64 a2, .slice A (l.take 66).length c], .agg #[.int .u64 a0, .string a1, .int .u64 a2, .slice Am (l.take 66).length cm]]) ∧
      Kd.C k47 w' A (l.take 66).length (l.take 66) ∧ Kd.C k44 w' Am (l.take 66).length ((l.take 66).map rf) ∧ Below w.heap.size w w' := by
  refine (block_raw a0 a1 a2 A c l w hC hc).mono ?_
  rintro e w' ⟨v, rfl, hR, hB⟩
  obtain ⟨Am, cm, rfl⟩ := Kd.R_slice hR
  have h2 := (Kd.R_reads' hR).2.2
  have hm : min l.length 66 = (l.take 66).length := by rw [List.length_take]; omega
  have ht : l.take (l.take 66).length = l.take 66 := by
    rw [← hm]
    rcases Nat.le_total l.length 66 with h | h
    · rw [Nat.min_eq_left h, List.take_of_length_le h, List.take_length]
    · rw [Nat.min_eq_right h]
  have hT := Kd.C_take (m := (l.take 66).length) hC (by rw [List.length_take]; omega)
  rw [ht] at hT
  rw [List.length_map] at h2 ⊢
  rw [hm]
  exact ⟨Am, cm, rfl, Kd.C_below hT hB, h2, hB⟩
/-- The region of that number. -/
def findR (m : Nat) : Code → Option Code
  | .region i ops b => if i = m then some (.region i ops b) else none
  | .seq a b => match findR m a with
    | some c => some c
    | none => findR m b
  | .loop c => findR m c
  | .block _ c => findR m c
  | .scope c => findR m c
  | .cond _ a b => match findR m a with
    | some c => some c
    | none => findR m b
  | _ => none
noncomputable def rg (m : Nat) : Code := (Try.f4.body.bind (findR m)).getD .skip
end Go.Proofs.Ytdcbacbilncnnaa.T
end
section
/- BlockBodies, walked: written by wip/gensplit.py. -/
set_option linter.unusedVariables false
set_option linter.unusedSimpArgs false
namespace Go.Proofs.Ytdcbacbilncnnaa.T
open Go.RowKit Go.Proofs.Ytdcbacbilncnnaa.PMk Go.Proofs.Ytdcbacbilncnnaa.M Go.Proofs.Ytdcbacbilncnnaa.EncL Go.Proofs.YtdcbacbilncnnaaW.PrintWords Go.Proofs.YtdcbacbilncnnaaW.PrintLast
attribute [local go_sem ↓] eqA44 eqA47
set_option maxRecDepth 1000000 in
set_option maxHeartbeats 40000000 in
theorem bodies_r8 {a0 : Int} {a1 : ByteArray} {a2 : Int} {A Am Ac Ad : Option Addr} {c cm cc cd n : Nat} {L Lc Ld : List S47} {body : ByteArray} {w wc : World} {g7 g8 g10 g12 : Nat} {k : Int} {mb wb ob : Bool} {ew eo : Int} {u0 u1 u3 u4 u5 u6 u15 u16 u17 u18 u19 u20 u21 u22 u23 u24 u25 u26 u27 u28 u29 u30 u31 u32 u33 u34 u35 u36 u37 u38 u39 u40 u41 u42 u43 u44 u45 u46 u47 u48 u49 u50 u51 u52 u53 u54 u55 u56 u57 u58 u59 u60 u61 u62 u63 u64 u65 u66 u67 u68 u69 u70 u71 u72 u73 u74 u75 u76 u77 u78 u79 u80 u81 u82 u83 u84 u85 u86 u87 u88 u89 u90 u91 u92 u93 u94 u95 u96 u97 u98 u99 u100 u101 u102 u103 u104 u105 u106 u107 u108 u109 u110 u111 u112 u113 u114 u115 u116 u117 u118 u119 u120 u121 u122 u123 u124 u125 u126 u127 u128 u129 u130 u131 u132 u133 u134 u135 u136 u137 u138 u139 u140 u141 u142 u143 u144 u145 u146 u147 u148 u149 u150 u151 u152 u153 u154 u155 u156 u157 u158 u159 u160 u161 u162 u163 u164 u165 u166 u167 u168 u169 u170 u171 u172 u173 u174 u175 u176 u177 u178 u179 u180 u181 u182 u183 u184 u185 u186 u187 u188 u189 u190 u191 u192 u193 u194 u195 u196 u197 u198 u199 u200 u201 u202 u203 u204 u205 u206 u207 u208 u209 u210 u211 u212 u213 u214 u215 u216 u217 u218 u219 u220 u221 u222 u223 u224 u225 u226 u227 u228 u229 u230 u231 u232 u233 u234 u235 u236 u237 u238 u239 u240 u241 u242 u243 u244 u245 u246 u247 u248 u249 u250 u251 u252 u253 u254 u255 u256 : Value} {Q : Exit → Act → World → Prop} (hp : ∀ c a v d w, Q (.panic c) (a.put d v) w → Q (.panic c) a w) (HLN : Hid (L.length = n)) (HWM : Hid (wb = (mb && (rd_T47 L k).f5.toList == (leaf body).toList && decide ((body.size : Int) ≤ 1024)))) (HRM : Hid (mb = true → 0 ≤ k ∧ k < (n : Int))) (hs : body.size < 1152921504606846000) (H : Hid (B2 w wc g7 g8 g10 g12 a0 a1 a2 A Am Ac Ad n c cm cc cd L Lc Ld)) (hQ : ∀ (v78 v79 v80 v81 v82 v83 v84 v85 v86 v87 v88 v89 v90 v91 v92 v93 v94 : Value) (wx : World), Hid (B2 w wx g7 g8 g10 g12 a0 a1 a2 A Am Ac Ad n c cm cc cd L Lc Ld) → Q .normal ⟨List.toArray (u0 :: u1 :: .string body :: u3 :: u4 :: u5 :: u6 :: .pointer (some ⟨g7, 0, none⟩) :: .pointer (some ⟨g8, 0, none⟩) :: .int .i64 k :: .pointer (some ⟨g10, 0, none⟩) :: .int .i64 ew :: .pointer (some ⟨g12, 0, none⟩) :: .int .i64 eo :: .bool mb :: (.bool wb) :: u16 :: u17 :: u18 :: u19 :: u20 :: u21 :: u22 :: u23 :: u24 :: u25 :: u26 :: u27 :: u28 :: u29 :: u30 :: u31 :: u32 :: u33 :: u34 :: u35 :: u36 :: u37 :: u38 :: u39 :: u40 :: u41 :: u42 :: u43 :: u44 :: u45 :: u46 :: u47 :: u48 :: u49 :: u50 :: u51 :: u52 :: u53 :: u54 :: u55 :: u56 :: u57 :: u58 :: u59 :: u60 :: u61 :: u62 :: u63 :: u64 :: u65 :: u66 :: u67 :: u68 :: u69 :: u70 :: u71 :: u72 :: u73 :: u74 :: u75 :: u76 :: u77 :: v78 :: v79 :: v80 :: v81 :: v82 :: v83 :: v84 :: v85 :: v86 :: v87 :: v88 :: v89 :: v90 :: v91 :: v92 :: v93 :: v94 :: u95 :: u96 :: u97 :: u98 :: u99 :: u100 :: u101 :: u102 :: u103 :: u104 :: u105 :: u106 :: u107 :: u108 :: u109 :: u110 :: u111 :: u112 :: u113 :: u114 :: u115 :: u116 :: u117 :: u118 :: u119 :: u120 :: u121 :: u122 :: u123 :: u124 :: u125 :: u126 :: u127 :: u128 :: u129 :: u130 :: u131 :: u132 :: u133 :: u134 :: u135 :: u136 :: u137 :: u138 :: u139 :: u140 :: u141 :: u142 :: u143 :: u144 :: u145 :: u146 :: u147 :: u148 :: u149 :: u150 :: u151 :: u152 :: u153 :: u154 :: u155 :: u156 :: u157 :: u158 :: u159 :: u160 :: u161 :: u162 :: u163 :: u164 :: u165 :: u166 :: u167 :: u168 :: u169 :: u170 :: u171 :: u172 :: u173 :: u174 :: u175 :: u176 :: u177 :: u178 :: u179 :: u180 :: u181 :: u182 :: u183 :: u184 :: u185 :: u186 :: u187 :: u188 :: u189 :: u190 :: u191 :: u192 :: u193 :: u194 :: u195 :: u196 :: u197 :: u198 :: u199 :: u200 :: u201 :: u202 :: u203 :: u204 :: u205 :: u206 :: u207 :: u208 :: u209 :: u210 :: u211 :: u212 :: u213 :: u214 :: u215 :: u216 :: u217 :: u218 :: u219 :: u220 :: u221 :: u222 :: u223 :: u224 :: u225 :: u226 :: u227 :: u228 :: u229 :: u230 :: u231 :: u232 :: u233 :: u234 :: u235 :: u236 :: u237 :: u238 :: u239 :: u240 :: u241 :: u242 :: u243 :: u244 :: u245 :: u246 :: u247 :: u248 :: u249 :: u250 :: u251 :: u252 :: u253 :: u254 :: u255 :: u256 :: []), []⟩ wx) :
    ∀ {C : Code}, rg 8 = C → Code.wp Try.prog C Q ⟨List.toArray (u0 :: u1 :: .string body :: u3 :: u4 :: u5 :: u6 :: .pointer (some ⟨g7, 0, none⟩) :: .pointer (some ⟨g8, 0, none⟩) :: .int .i64 k :: .pointer (some ⟨g10, 0, none⟩) :: .int .i64 ew :: .pointer (some ⟨g12, 0, none⟩) :: .int .i64 eo :: .bool mb :: u15 :: u16 :: u17 :: u18 :: u19 :: u20 :: u21 :: u22 :: u23 :: u24 :: u25 :: u26 :: u27 :: u28 :: u29 :: u30 :: u31 :: u32 :: u33 :: u34 :: u35 :: u36 :: u37 :: u38 :: u39 :: u40 :: u41 :: u42 :: u43 :: u44 :: u45 :: u46 :: u47 :: u48 :: u49 :: u50 :: u51 :: u52 :: u53 :: u54 :: u55 :: u56 :: u57 :: u58 :: u59 :: u60 :: u61 :: u62 :: u63 :: u64 :: u65 :: u66 :: u67 :: u68 :: u69 :: u70 :: u71 :: u72 :: u73 :: u74 :: u75 :: u76 :: u77 :: u78 :: u79 :: u80 :: u81 :: u82 :: u83 :: u84 :: u85 :: u86 :: u87 :: u88 :: u89 :: u90 :: u91 :: u92 :: u93 :: u94 :: u95 :: u96 :: u97 :: u98 :: u99 :: u100 :: u101 :: u102 :: u103 :: u104 :: u105 :: u106 :: u107 :: u108 :: u109 :: u110 :: u111 :: u112 :: u113 :: u114 :: u115 :: u116 :: u117 :: u118 :: u119 :: u120 :: u121 :: u122 :: u123 :: u124 :: u125 :: u126 :: u127 :: u128 :: u129 :: u130 :: u131 :: u132 :: u133 :: u134 :: u135 :: u136 :: u137 :: u138 :: u139 :: u140 :: u141 :: u142 :: u143 :: u144 :: u145 :: u146 :: u147 :: u148 :: u149 :: u150 :: u151 :: u152 :: u153 :: u154 :: u155 :: u156 :: u157 :: u158 :: u159 :: u160 :: u161 :: u162 :: u163 :: u164 :: u165 :: u166 :: u167 :: u168 :: u169 :: u170 :: u171 :: u172 :: u173 :: u174 :: u175 :: u176 :: u177 :: u178 :: u179 :: u180 :: u181 :: u182 :: u183 :: u184 :: u185 :: u186 :: u187 :: u188 :: u189 :: u190 :: u191 :: u192 :: u193 :: u194 :: u195 :: u196 :: u197 :: u198 :: u199 :: u200 :: u201 :: u202 :: u203 :: u204 :: u205 :: u206 :: u207 :: u208 :: u209 :: u210 :: u211 :: u212 :: u213 :: u214 :: u215 :: u216 :: u217 :: u218 :: u219 :: u220 :: u221 :: u222 :: u223 :: u224 :: u225 :: u226 :: u227 :: u228 :: u229 :: u230 :: u231 :: u232 :: u233 :: u234 :: u235 :: u236 :: u237 :: u238 :: u239 :: u240 :: u241 :: u242 :: u243 :: u244 :: u245 :: u246 :: u247 :: u248 :: u249 :: u250 :: u251 :: u252 :: u253 :: u254 :: u255 :: u256 :: []), []⟩ wc := by
  rintro _ rfl
  have HQ := Lib.hid hQ
  clear hQ
  have HLF := Lib.hid (fun w' => hash_Leaf.calls body _ w' (leaf_f _ hs))
  conv => arg 2; whnf
  have HD := Lib.hid H.out.drew
  have hwm := HWM.out
  cases mb with
  | false =>
    obtain rfl : wb = false := by rw [hwm]; rfl
    clear hwm
    refine start_ (n := 18) (S := fun w' => True) (ds := []) #[false, false, false, false, false, false, false, false, false, false, false, false, false, false, false, false, false, false] (by kernel_rfl) rfl rfl trivial (fun hHeld => ?_)
    refine pure_ (i := 0) (N := some 78) (v := ?_) (a' := ?_) #[true, false, false, false, false, false, false, false, false, false, false, false, false, false, false, false, false, false] rfl rfl (by kernel_rfl) (fun c a w h => hp c a _ _ w h) (Or.inl ⟨by rfl, ?_⟩) ?_ ?_
    rotate_left
    · intro w'
      go_simp
      with_reducible rfl
    rotate_left
    · simp only [Act.put, List.setIfInBounds_toArray, List.set_cons_zero, List.set_cons_succ, i64_w, i32_w]
      rfl
    refine pure_ (i := 1) (N := some 79) (v := ?_) (a' := ?_) #[true, true, false, false, false, false, false, false, false, false, false, false, false, false, false, false, false, false] rfl rfl (by kernel_rfl) (fun c a w h => hp c a _ _ w h) (Or.inl ⟨by rfl, ?_⟩) ?_ ?_
    rotate_left
    · intro w'
      go_simp
      with_reducible rfl
    rotate_left
    · simp only [Act.put, List.setIfInBounds_toArray, List.set_cons_zero, List.set_cons_succ, i64_w, i32_w]
      rfl
    refine pure_ (i := 2) (N := some 80) (v := undef) (a' := ?_) #[true, true, true, false, false, false, false, false, false, false, false, false, false, false, false, false, false, false] rfl rfl (by kernel_rfl) (fun c a w h => hp c a _ _ w h) (Or.inr ⟨by rfl, rfl⟩) ?_ ?_
    rotate_left
    · simp only [Act.put, List.setIfInBounds_toArray, List.set_cons_zero, List.set_cons_succ, i64_w, i32_w]
      rfl
    refine pure_ (i := 3) (N := some 81) (v := undef) (a' := ?_) #[true, true, true, true, false, false, false, false, false, false, false, false, false, false, false, false, false, false] rfl rfl (by kernel_rfl) (fun c a w h => hp c a _ _ w h) (Or.inr ⟨by rfl, rfl⟩) ?_ ?_
    rotate_left
    · simp only [Act.put, List.setIfInBounds_toArray, List.set_cons_zero, List.set_cons_succ, i64_w, i32_w]
      rfl
    refine pure_ (i := 4) (N := some 82) (v := undef) (a' := ?_) #[true, true, true, true, true, false, false, false, false, false, false, false, false, false, false, false, false, false] rfl rfl (by kernel_rfl) (fun c a w h => hp c a _ _ w h) (Or.inr ⟨by rfl, rfl⟩) ?_ ?_
    rotate_left
    · simp only [Act.put, List.setIfInBounds_toArray, List.set_cons_zero, List.set_cons_succ, i64_w, i32_w]
      rfl
    refine pure_ (i := 5) (N := some 83) (v := ?_) (a' := ?_) #[true, true, true, true, true, true, false, false, false, false, false, false, false, false, false, false, false, false] rfl rfl (by kernel_rfl) (fun c a w h => hp c a _ _ w h) (Or.inl ⟨by rfl, ?_⟩) ?_ ?_
    rotate_left
    · intro w'
      go_simp
      with_reducible rfl
    rotate_left
    · simp only [Act.put, List.setIfInBounds_toArray, List.set_cons_zero, List.set_cons_succ, i64_w, i32_w]
      rfl
    refine pure_ (i := 6) (N := some 84) (v := ?_) (a' := ?_) #[true, true, true, true, true, true, true, false, false, false, false, false, false, false, false, false, false, false] rfl rfl (by kernel_rfl) (fun c a w h => hp c a _ _ w h) (Or.inl ⟨by rfl, ?_⟩) ?_ ?_
    rotate_left
    · intro w'
      go_simp
      with_reducible rfl
    rotate_left
    · simp only [Act.put, List.setIfInBounds_toArray, List.set_cons_zero, List.set_cons_succ, i64_w, i32_w]
      rfl
    refine pure_ (i := 7) (N := some 85) (v := undef) (a' := ?_) #[true, true, true, true, true, true, true, true, false, false, false, false, false, false, false, false, false, false] rfl rfl (by kernel_rfl) (fun c a w h => hp c a _ _ w h) (Or.inr ⟨by rfl, rfl⟩) ?_ ?_
    rotate_left
    · simp only [Act.put, List.setIfInBounds_toArray, List.set_cons_zero, List.set_cons_succ, i64_w, i32_w]
      rfl
    refine pure_ (i := 8) (N := some 86) (v := undef) (a' := ?_) #[true, true, true, true, true, true, true, true, true, false, false, false, false, false, false, false, false, false] rfl rfl (by kernel_rfl) (fun c a w h => hp c a _ _ w h) (Or.inr ⟨by rfl, rfl⟩) ?_ ?_
    rotate_left
    · simp only [Act.put, List.setIfInBounds_toArray, List.set_cons_zero, List.set_cons_succ, i64_w, i32_w]
      rfl
    refine pure_ (i := 9) (N := some 87) (v := undef) (a' := ?_) #[true, true, true, true, true, true, true, true, true, true, false, false, false, false, false, false, false, false] rfl rfl (by kernel_rfl) (fun c a w h => hp c a _ _ w h) (Or.inr ⟨by rfl, rfl⟩) ?_ ?_
    rotate_left
    · simp only [Act.put, List.setIfInBounds_toArray, List.set_cons_zero, List.set_cons_succ, i64_w, i32_w]
      rfl
    refine pure_ (i := 10) (N := some 88) (v := undef) (a' := ?_) #[true, true, true, true, true, true, true, true, true, true, true, false, false, false, false, false, false, false] rfl rfl (by kernel_rfl) (fun c a w h => hp c a _ _ w h) (Or.inr ⟨by rfl, rfl⟩) ?_ ?_
    rotate_left
    · simp only [Act.put, List.setIfInBounds_toArray, List.set_cons_zero, List.set_cons_succ, i64_w, i32_w]
      rfl
    refine pure_ (i := 11) (N := some 89) (v := undef) (a' := ?_) #[true, true, true, true, true, true, true, true, true, true, true, true, false, false, false, false, false, false] rfl rfl (by kernel_rfl) (fun c a w h => hp c a _ _ w h) (Or.inr ⟨by rfl, rfl⟩) ?_ ?_
    rotate_left
    · simp only [Act.put, List.setIfInBounds_toArray, List.set_cons_zero, List.set_cons_succ, i64_w, i32_w]
      rfl
    refine pure_ (i := 12) (N := some 90) (v := undef) (a' := ?_) #[true, true, true, true, true, true, true, true, true, true, true, true, true, false, false, false, false, false] rfl rfl (by kernel_rfl) (fun c a w h => hp c a _ _ w h) (Or.inr ⟨by rfl, rfl⟩) ?_ ?_
    rotate_left
    · simp only [Act.put, List.setIfInBounds_toArray, List.set_cons_zero, List.set_cons_succ, i64_w, i32_w]
      rfl
    refine pure_ (i := 13) (N := some 91) (v := undef) (a' := ?_) #[true, true, true, true, true, true, true, true, true, true, true, true, true, true, false, false, false, false] rfl rfl (by kernel_rfl) (fun c a w h => hp c a _ _ w h) (Or.inr ⟨by rfl, rfl⟩) ?_ ?_
    rotate_left
    · simp only [Act.put, List.setIfInBounds_toArray, List.set_cons_zero, List.set_cons_succ, i64_w, i32_w]
      rfl
    refine pure_ (i := 14) (N := some 92) (v := undef) (a' := ?_) #[true, true, true, true, true, true, true, true, true, true, true, true, true, true, true, false, false, false] rfl rfl (by kernel_rfl) (fun c a w h => hp c a _ _ w h) (Or.inr ⟨by rfl, rfl⟩) ?_ ?_
    rotate_left
    · simp only [Act.put, List.setIfInBounds_toArray, List.set_cons_zero, List.set_cons_succ, i64_w, i32_w]
      rfl
    refine pure_ (i := 15) (N := some 93) (v := undef) (a' := ?_) #[true, true, true, true, true, true, true, true, true, true, true, true, true, true, true, true, false, false] rfl rfl (by kernel_rfl) (fun c a w h => hp c a _ _ w h) (Or.inr ⟨by rfl, rfl⟩) ?_ ?_
    rotate_left
    · simp only [Act.put, List.setIfInBounds_toArray, List.set_cons_zero, List.set_cons_succ, i64_w, i32_w]
      rfl
    refine pure_ (i := 16) (N := some 94) (v := ?_) (a' := ?_) #[true, true, true, true, true, true, true, true, true, true, true, true, true, true, true, true, true, false] rfl rfl (by kernel_rfl) (fun c a w h => hp c a _ _ w h) (Or.inl ⟨by rfl, ?_⟩) ?_ ?_
    rotate_left
    · intro w'
      go_simp
      with_reducible rfl
    rotate_left
    · simp only [Act.put, List.setIfInBounds_toArray, List.set_cons_zero, List.set_cons_succ, i64_w, i32_w]
      rfl
    refine pure_ (i := 17) (N := some 15) (v := ?_) (a' := ?_) #[true, true, true, true, true, true, true, true, true, true, true, true, true, true, true, true, true, true] rfl rfl (by kernel_rfl) (fun c a w h => hp c a _ _ w h) (Or.inl ⟨by rfl, ?_⟩) ?_ ?_
    rotate_left
    · intro w'
      go_simp
      with_reducible rfl
    rotate_left
    · simp only [Act.put, List.setIfInBounds_toArray, List.set_cons_zero, List.set_cons_succ, i64_w, i32_w]
      rfl
    refine done_ (by kernel_rfl) ?_
    go_wp2
    exact HQ.out _ _ _ _ _ _ _ _ _ _ _ _ _ _ _ _ _ _ HD
  | true =>
    obtain ⟨h0, h1⟩ := HRM.out rfl
    obtain ⟨ad, hA, hx0, hx1, hx2, hx3, hx4, hx5, hx6, hx7⟩ := at_T44 HD.out.h.km k h0 h1
    rw [rd_map' L k (by rw [HLN.out]; exact h1) h0] at hx5
    change wc.drew.cell? _ = some (.string (rd_T47 L k).f5) at hx5
    clear hx0 hx1 hx2 hx3 hx4 hx6 hx7
    subst hA
    generalize (rd_T47 L k).f5 = h5 at hx5 hwm
    have q3 : wc.drew.cell? ⟨g8, 3, none⟩ = some (.slice (some ad) n cm) := (blk_cell HD.out.h.g8 3).trans rfl
    have hd0 : decide (k < 0) = false := decide_eq_false (by omega)
    have hd1 : decide ((n : Int) ≤ k) = false := decide_eq_false (by omega)
    by_cases hz : (body.size : Int) ≤ 1024
    · have hz1 : decide ((body.size : Int) ≤ 1024) = true := decide_eq_true hz
      have hz2 : decide (body.size ≤ 1024) = true := decide_eq_true (by omega)
      obtain ⟨qb, hqb⟩ : ∃ b, (h5.toList == (leaf body).toList) = b := ⟨_, rfl⟩
      rw [hqb, hz1] at hwm
      obtain rfl : wb = qb := by rw [hwm]; simp
      clear hwm
      refine start_ (n := 18) (S := fun w' => w'.cell? ⟨g8, 3, none⟩ = some (.slice (some ad) n cm) ∧ w'.cell? ⟨(ad.add (k.toNat * 8)).block, (ad.add (k.toNat * 8)).off + 5, none⟩ = some (.string h5)) (ds := []) #[false, false, false, false, false, false, false, false, false, false, false, false, false, false, false, false, false, false] (by kernel_rfl) rfl rfl ⟨q3, hx5⟩ (fun hHeld => ?_)
      refine pure_ (i := 0) (N := some 78) (v := ?_) (a' := ?_) #[true, false, false, false, false, false, false, false, false, false, false, false, false, false, false, false, false, false] rfl rfl (by kernel_rfl) (fun c a w h => hp c a _ _ w h) (Or.inl ⟨by rfl, ?_⟩) ?_ ?_
      rotate_left
      · intro w'
        go_simp
        with_reducible rfl
      rotate_left
      · simp only [Act.put, List.setIfInBounds_toArray, List.set_cons_zero, List.set_cons_succ, i64_w, i32_w]
        rfl
      refine pure_ (i := 1) (N := some 79) (v := ?_) (a' := ?_) #[true, true, false, false, false, false, false, false, false, false, false, false, false, false, false, false, false, false] rfl rfl (by kernel_rfl) (fun c a w h => hp c a _ _ w h) (Or.inl ⟨by rfl, ?_⟩) ?_ ?_
      rotate_left
      · intro w'
        go_simp
        with_reducible rfl
      rotate_left
      · simp only [Act.put, List.setIfInBounds_toArray, List.set_cons_zero, List.set_cons_succ, i64_w, i32_w]
        rfl
      refine pure_ (i := 2) (N := some 80) (v := ?_) (a' := ?_) #[true, true, true, false, false, false, false, false, false, false, false, false, false, false, false, false, false, false] rfl rfl (by kernel_rfl) (fun c a w h => hp c a _ _ w h) (Or.inl ⟨by rfl, ?_⟩) ?_ ?_
      rotate_left
      · intro w'
        go_simp
        with_reducible rfl
      rotate_left
      · simp only [Act.put, List.setIfInBounds_toArray, List.set_cons_zero, List.set_cons_succ, i64_w, i32_w]
        rfl
      refine pure_ (i := 3) (N := some 81) (v := ?_) (a' := ?_) #[true, true, true, true, false, false, false, false, false, false, false, false, false, false, false, false, false, false] rfl rfl (by kernel_rfl) (fun c a w h => hp c a _ _ w h) (Or.inl ⟨by rfl, ?_⟩) ?_ ?_
      rotate_left
      · intro w'
        go_simp
        with_reducible rfl
      rotate_left
      · simp only [Act.put, List.setIfInBounds_toArray, List.set_cons_zero, List.set_cons_succ, i64_w, i32_w]
        rfl
      refine pure_ (i := 4) (N := some 82) (v := ?_) (a' := ?_) #[true, true, true, true, true, false, false, false, false, false, false, false, false, false, false, false, false, false] rfl rfl (by kernel_rfl) (fun c a w h => hp c a _ _ w h) (Or.inl ⟨by rfl, ?_⟩) ?_ ?_
      rotate_left
      · intro w'
        go_simp
        with_reducible rfl
      rotate_left
      · simp only [Act.put, List.setIfInBounds_toArray, List.set_cons_zero, List.set_cons_succ, i64_w, i32_w]
        rfl
      refine pure_ (i := 5) (N := some 83) (v := ?_) (a' := ?_) #[true, true, true, true, true, true, false, false, false, false, false, false, false, false, false, false, false, false] rfl rfl (by kernel_rfl) (fun c a w h => hp c a _ _ w h) (Or.inl ⟨by rfl, ?_⟩) ?_ ?_
      rotate_left
      · intro w'
        go_simp
        with_reducible rfl
      rotate_left
      · simp only [Act.put, List.setIfInBounds_toArray, List.set_cons_zero, List.set_cons_succ, i64_w, i32_w]
        rfl
      refine pure_ (i := 6) (N := some 84) (v := ?_) (a' := ?_) #[true, true, true, true, true, true, true, false, false, false, false, false, false, false, false, false, false, false] rfl rfl (by kernel_rfl) (fun c a w h => hp c a _ _ w h) (Or.inl ⟨by rfl, ?_⟩) ?_ ?_
      rotate_left
      · intro w'
        go_simp
        with_reducible rfl
      rotate_left
      · simp only [Act.put, List.setIfInBounds_toArray, List.set_cons_zero, List.set_cons_succ, i64_w, i32_w]
        rfl
      refine pure_ (i := 7) (N := some 85) (v := ?_) (a' := ?_) #[true, true, true, true, true, true, true, true, false, false, false, false, false, false, false, false, false, false] rfl rfl (by kernel_rfl) (fun c a w h => hp c a _ _ w h) (Or.inl ⟨by rfl, ?_⟩) ?_ ?_
      rotate_left
      · intro w'
        go_simp
        with_reducible rfl
      rotate_left
      · simp only [Act.put, List.setIfInBounds_toArray, List.set_cons_zero, List.set_cons_succ, i64_w, i32_w]
        rfl
      refine pure_ (i := 9) (N := some 87) (v := ?_) (a' := ?_) #[true, true, true, true, true, true, true, true, false, true, false, false, false, false, false, false, false, false] rfl rfl (by kernel_rfl) (fun c a w h => hp c a _ _ w h) (Or.inl ⟨by rfl, ?_⟩) ?_ ?_
      rotate_left
      · intro w'
        go_simp
        with_reducible rfl
      rotate_left
      · simp only [Act.put, List.setIfInBounds_toArray, List.set_cons_zero, List.set_cons_succ, i64_w, i32_w]
        rfl
      refine pure_ (i := 13) (N := some 91) (v := ?_) (a' := ?_) #[true, true, true, true, true, true, true, true, false, true, false, false, false, true, false, false, false, false] rfl rfl (by kernel_rfl) (fun c a w h => hp c a _ _ w h) (Or.inl ⟨by rfl, ?_⟩) ?_ ?_
      rotate_left
      · intro w'
        go_simp
        with_reducible rfl
      rotate_left
      · simp only [Act.put, List.setIfInBounds_toArray, List.set_cons_zero, List.set_cons_succ, i64_w, i32_w]
        rfl
      refine take_ (i := 8) (N := some 86) (v := ?_) (a' := ?_) #[true, true, true, true, true, true, true, true, true, true, false, false, false, true, false, false, false, false] rfl rfl (by kernel_rfl) (fun c a w h => hp c a _ _ w h) (Or.inl ⟨by rfl, ?_⟩) hHeld ?_ ?_
      rotate_left
      · rintro w' ⟨s0, s1⟩
        go_simp
        with_reducible rfl
      rotate_left
      · simp only [Act.put, List.setIfInBounds_toArray, List.set_cons_zero, List.set_cons_succ, i64_w, i32_w]
        rfl
      refine pure_ (i := 10) (N := some 88) (v := ?_) (a' := ?_) #[true, true, true, true, true, true, true, true, true, true, true, false, false, true, false, false, false, false] rfl rfl (by kernel_rfl) (fun c a w h => hp c a _ _ w h) (Or.inl ⟨by rfl, ?_⟩) ?_ ?_
      rotate_left
      · intro w'
        go_simp
        with_reducible rfl
      rotate_left
      · simp only [Act.put, List.setIfInBounds_toArray, List.set_cons_zero, List.set_cons_succ, i64_w, i32_w]
        rfl
      refine pure_ (i := 11) (N := some 89) (v := ?_) (a' := ?_) #[true, true, true, true, true, true, true, true, true, true, true, true, false, true, false, false, false, false] rfl rfl (by kernel_rfl) (fun c a w h => hp c a _ _ w h) (Or.inl ⟨by rfl, ?_⟩) ?_ ?_
      rotate_left
      · intro w'
        go_simp
        with_reducible rfl
      rotate_left
      · simp only [Act.put, List.setIfInBounds_toArray, List.set_cons_zero, List.set_cons_succ, i64_w, i32_w]
        rfl
      refine take_ (i := 12) (N := some 90) (v := ?_) (a' := ?_) #[true, true, true, true, true, true, true, true, true, true, true, true, true, true, false, false, false, false] rfl rfl (by kernel_rfl) (fun c a w h => hp c a _ _ w h) (Or.inl ⟨by rfl, ?_⟩) hHeld ?_ ?_
      rotate_left
      · rintro w' ⟨s0, s1⟩
        go_simp
        with_reducible rfl
      rotate_left
      · simp only [Act.put, List.setIfInBounds_toArray, List.set_cons_zero, List.set_cons_succ, i64_w, i32_w]
        rfl
      refine one_ (i := 14) (N := some 92) #[true, true, true, true, true, true, true, true, true, true, true, true, true, true, true, false, false, false] rfl rfl (by kernel_rfl) (by decide) (fun K hK => ?_)
      refine goes_ Try.func20 (by kernel_rfl) rfl #[.string body] (by rfl) rfl rfl (by simp only [List.map_toArray, List.map_cons, List.map_nil]; rfl) ?_
      with_reducible refine (HLF.out _).mono ?_
      rintro e w5 ⟨rfl, hb⟩
      refine ⟨_, rfl, ?_⟩
      have H5 := Lib.hid (HD.out.below hb)
      refine hK.out _ _ ⟨(blk_cell H5.out.h.g8 3).trans rfl, (hb.cell (World.block_lt_of_cell? _ _ hx5)).trans hx5⟩ (fun hHeld => ?_)
      clear hK K
      refine norm_ (a' := ?_) ?_ ?_
      rotate_left
      · show Act.put _ (some 92) _ = _
        simp only [Act.put, List.setIfInBounds_toArray, List.set_cons_zero, List.set_cons_succ, i64_w, i32_w]
        rfl
      refine pure_ (i := 15) (N := some 93) (v := ?_) (a' := ?_) #[true, true, true, true, true, true, true, true, true, true, true, true, true, true, true, true, false, false] rfl rfl (by kernel_rfl) (fun c a w h => hp c a _ _ w h) (Or.inl ⟨by rfl, ?_⟩) ?_ ?_
      rotate_left
      · intro w'
        go_simp
        with_reducible rfl
      rotate_left
      · simp only [Act.put, List.setIfInBounds_toArray, List.set_cons_zero, List.set_cons_succ, i64_w, i32_w]
        rfl
      refine pure_ (i := 16) (N := some 94) (v := ?_) (a' := ?_) #[true, true, true, true, true, true, true, true, true, true, true, true, true, true, true, true, true, false] rfl rfl (by kernel_rfl) (fun c a w h => hp c a _ _ w h) (Or.inl ⟨by rfl, ?_⟩) ?_ ?_
      rotate_left
      · intro w'
        go_simp
        with_reducible rfl
      rotate_left
      · simp only [Act.put, List.setIfInBounds_toArray, List.set_cons_zero, List.set_cons_succ, i64_w, i32_w]
        rfl
      refine pure_ (i := 17) (N := some 15) (v := ?_) (a' := ?_) #[true, true, true, true, true, true, true, true, true, true, true, true, true, true, true, true, true, true] rfl rfl (by kernel_rfl) (fun c a w h => hp c a _ _ w h) (Or.inl ⟨by rfl, ?_⟩) ?_ ?_
      rotate_left
      · intro w'
        go_simp
        with_reducible rfl
      rotate_left
      · simp only [Act.put, List.setIfInBounds_toArray, List.set_cons_zero, List.set_cons_succ, i64_w, i32_w]
        rfl
      refine done_ (by kernel_rfl) ?_
      go_wp2
      exact HQ.out _ _ _ _ _ _ _ _ _ _ _ _ _ _ _ _ _ _ H5
    · have hz1 : decide ((body.size : Int) ≤ 1024) = false := decide_eq_false hz
      have hz2 : decide (body.size ≤ 1024) = false := decide_eq_false (by omega)
      rw [hz1] at hwm
      obtain rfl : wb = false := by rw [hwm]; simp
      clear hwm
      refine start_ (n := 18) (S := fun w' => w'.cell? ⟨g8, 3, none⟩ = some (.slice (some ad) n cm) ∧ w'.cell? ⟨(ad.add (k.toNat * 8)).block, (ad.add (k.toNat * 8)).off + 5, none⟩ = some (.string h5)) (ds := []) #[false, false, false, false, false, false, false, false, false, false, false, false, false, false, false, false, false, false] (by kernel_rfl) rfl rfl ⟨q3, hx5⟩ (fun hHeld => ?_)
      refine pure_ (i := 0) (N := some 78) (v := ?_) (a' := ?_) #[true, false, false, false, false, false, false, false, false, false, false, false, false, false, false, false, false, false] rfl rfl (by kernel_rfl) (fun c a w h => hp c a _ _ w h) (Or.inl ⟨by rfl, ?_⟩) ?_ ?_
      rotate_left
      · intro w'
        go_simp
        with_reducible rfl
      rotate_left
      · simp only [Act.put, List.setIfInBounds_toArray, List.set_cons_zero, List.set_cons_succ, i64_w, i32_w]
        rfl
      refine pure_ (i := 1) (N := some 79) (v := ?_) (a' := ?_) #[true, true, false, false, false, false, false, false, false, false, false, false, false, false, false, false, false, false] rfl rfl (by kernel_rfl) (fun c a w h => hp c a _ _ w h) (Or.inl ⟨by rfl, ?_⟩) ?_ ?_
      rotate_left
      · intro w'
        go_simp
        with_reducible rfl
      rotate_left
      · simp only [Act.put, List.setIfInBounds_toArray, List.set_cons_zero, List.set_cons_succ, i64_w, i32_w]
        rfl
      refine pure_ (i := 2) (N := some 80) (v := ?_) (a' := ?_) #[true, true, true, false, false, false, false, false, false, false, false, false, false, false, false, false, false, false] rfl rfl (by kernel_rfl) (fun c a w h => hp c a _ _ w h) (Or.inl ⟨by rfl, ?_⟩) ?_ ?_
      rotate_left
      · intro w'
        go_simp
        with_reducible rfl
      rotate_left
      · simp only [Act.put, List.setIfInBounds_toArray, List.set_cons_zero, List.set_cons_succ, i64_w, i32_w]
        rfl
      refine pure_ (i := 3) (N := some 81) (v := ?_) (a' := ?_) #[true, true, true, true, false, false, false, false, false, false, false, false, false, false, false, false, false, false] rfl rfl (by kernel_rfl) (fun c a w h => hp c a _ _ w h) (Or.inl ⟨by rfl, ?_⟩) ?_ ?_
      rotate_left
      · intro w'
        go_simp
        with_reducible rfl
      rotate_left
      · simp only [Act.put, List.setIfInBounds_toArray, List.set_cons_zero, List.set_cons_succ, i64_w, i32_w]
        rfl
      refine pure_ (i := 4) (N := some 82) (v := ?_) (a' := ?_) #[true, true, true, true, true, false, false, false, false, false, false, false, false, false, false, false, false, false] rfl rfl (by kernel_rfl) (fun c a w h => hp c a _ _ w h) (Or.inl ⟨by rfl, ?_⟩) ?_ ?_
      rotate_left
      · intro w'
        go_simp
        with_reducible rfl
      rotate_left
      · simp only [Act.put, List.setIfInBounds_toArray, List.set_cons_zero, List.set_cons_succ, i64_w, i32_w]
        rfl
      refine pure_ (i := 5) (N := some 83) (v := ?_) (a' := ?_) #[true, true, true, true, true, true, false, false, false, false, false, false, false, false, false, false, false, false] rfl rfl (by kernel_rfl) (fun c a w h => hp c a _ _ w h) (Or.inl ⟨by rfl, ?_⟩) ?_ ?_
      rotate_left
      · intro w'
        go_simp
        with_reducible rfl
      rotate_left
      · simp only [Act.put, List.setIfInBounds_toArray, List.set_cons_zero, List.set_cons_succ, i64_w, i32_w]
        rfl
      refine pure_ (i := 6) (N := some 84) (v := ?_) (a' := ?_) #[true, true, true, true, true, true, true, false, false, false, false, false, false, false, false, false, false, false] rfl rfl (by kernel_rfl) (fun c a w h => hp c a _ _ w h) (Or.inl ⟨by rfl, ?_⟩) ?_ ?_
      rotate_left
      · intro w'
        go_simp
        with_reducible rfl
      rotate_left
      · simp only [Act.put, List.setIfInBounds_toArray, List.set_cons_zero, List.set_cons_succ, i64_w, i32_w]
        rfl
      refine pure_ (i := 7) (N := some 85) (v := undef) (a' := ?_) #[true, true, true, true, true, true, true, true, false, false, false, false, false, false, false, false, false, false] rfl rfl (by kernel_rfl) (fun c a w h => hp c a _ _ w h) (Or.inr ⟨by rfl, rfl⟩) ?_ ?_
      rotate_left
      · simp only [Act.put, List.setIfInBounds_toArray, List.set_cons_zero, List.set_cons_succ, i64_w, i32_w]
        rfl
      refine pure_ (i := 8) (N := some 86) (v := undef) (a' := ?_) #[true, true, true, true, true, true, true, true, true, false, false, false, false, false, false, false, false, false] rfl rfl (by kernel_rfl) (fun c a w h => hp c a _ _ w h) (Or.inr ⟨by rfl, rfl⟩) ?_ ?_
      rotate_left
      · simp only [Act.put, List.setIfInBounds_toArray, List.set_cons_zero, List.set_cons_succ, i64_w, i32_w]
        rfl
      refine pure_ (i := 9) (N := some 87) (v := undef) (a' := ?_) #[true, true, true, true, true, true, true, true, true, true, false, false, false, false, false, false, false, false] rfl rfl (by kernel_rfl) (fun c a w h => hp c a _ _ w h) (Or.inr ⟨by rfl, rfl⟩) ?_ ?_
      rotate_left
      · simp only [Act.put, List.setIfInBounds_toArray, List.set_cons_zero, List.set_cons_succ, i64_w, i32_w]
        rfl
      refine pure_ (i := 10) (N := some 88) (v := undef) (a' := ?_) #[true, true, true, true, true, true, true, true, true, true, true, false, false, false, false, false, false, false] rfl rfl (by kernel_rfl) (fun c a w h => hp c a _ _ w h) (Or.inr ⟨by rfl, rfl⟩) ?_ ?_
      rotate_left
      · simp only [Act.put, List.setIfInBounds_toArray, List.set_cons_zero, List.set_cons_succ, i64_w, i32_w]
        rfl
      refine pure_ (i := 11) (N := some 89) (v := undef) (a' := ?_) #[true, true, true, true, true, true, true, true, true, true, true, true, false, false, false, false, false, false] rfl rfl (by kernel_rfl) (fun c a w h => hp c a _ _ w h) (Or.inr ⟨by rfl, rfl⟩) ?_ ?_
      rotate_left
      · simp only [Act.put, List.setIfInBounds_toArray, List.set_cons_zero, List.set_cons_succ, i64_w, i32_w]
        rfl
      refine pure_ (i := 12) (N := some 90) (v := undef) (a' := ?_) #[true, true, true, true, true, true, true, true, true, true, true, true, true, false, false, false, false, false] rfl rfl (by kernel_rfl) (fun c a w h => hp c a _ _ w h) (Or.inr ⟨by rfl, rfl⟩) ?_ ?_
      rotate_left
      · simp only [Act.put, List.setIfInBounds_toArray, List.set_cons_zero, List.set_cons_succ, i64_w, i32_w]
        rfl
      refine pure_ (i := 13) (N := some 91) (v := undef) (a' := ?_) #[true, true, true, true, true, true, true, true, true, true, true, true, true, true, false, false, false, false] rfl rfl (by kernel_rfl) (fun c a w h => hp c a _ _ w h) (Or.inr ⟨by rfl, rfl⟩) ?_ ?_
      rotate_left
      · simp only [Act.put, List.setIfInBounds_toArray, List.set_cons_zero, List.set_cons_succ, i64_w, i32_w]
        rfl
      refine pure_ (i := 14) (N := some 92) (v := undef) (a' := ?_) #[true, true, true, true, true, true, true, true, true, true, true, true, true, true, true, false, false, false] rfl rfl (by kernel_rfl) (fun c a w h => hp c a _ _ w h) (Or.inr ⟨by rfl, rfl⟩) ?_ ?_
      rotate_left
      · simp only [Act.put, List.setIfInBounds_toArray, List.set_cons_zero, List.set_cons_succ, i64_w, i32_w]
        rfl
      refine pure_ (i := 15) (N := some 93) (v := undef) (a' := ?_) #[true, true, true, true, true, true, true, true, true, true, true, true, true, true, true, true, false, false] rfl rfl (by kernel_rfl) (fun c a w h => hp c a _ _ w h) (Or.inr ⟨by rfl, rfl⟩) ?_ ?_
      rotate_left
      · simp only [Act.put, List.setIfInBounds_toArray, List.set_cons_zero, List.set_cons_succ, i64_w, i32_w]
        rfl
      refine pure_ (i := 16) (N := some 94) (v := ?_) (a' := ?_) #[true, true, true, true, true, true, true, true, true, true, true, true, true, true, true, true, true, false] rfl rfl (by kernel_rfl) (fun c a w h => hp c a _ _ w h) (Or.inl ⟨by rfl, ?_⟩) ?_ ?_
      rotate_left
      · intro w'
        go_simp
        with_reducible rfl
      rotate_left
      · simp only [Act.put, List.setIfInBounds_toArray, List.set_cons_zero, List.set_cons_succ, i64_w, i32_w]
        rfl
      refine pure_ (i := 17) (N := some 15) (v := ?_) (a' := ?_) #[true, true, true, true, true, true, true, true, true, true, true, true, true, true, true, true, true, true] rfl rfl (by kernel_rfl) (fun c a w h => hp c a _ _ w h) (Or.inl ⟨by rfl, ?_⟩) ?_ ?_
      rotate_left
      · intro w'
        go_simp
        with_reducible rfl
      rotate_left
      · simp only [Act.put, List.setIfInBounds_toArray, List.set_cons_zero, List.set_cons_succ, i64_w, i32_w]
        rfl
      refine done_ (by kernel_rfl) ?_
      go_wp2
      exact HQ.out _ _ _ _ _ _ _ _ _ _ _ _ _ _ _ _ _ _ HD
end Go.Proofs.Ytdcbacbilncnnaa.T
end
section
/- BlockBodies, walked: written by wip/gensplit.py. -/
set_option linter.unusedVariables false
set_option linter.unusedSimpArgs false
namespace Go.Proofs.Ytdcbacbilncnnaa.T
open Go.RowKit Go.Proofs.Ytdcbacbilncnnaa.PMk Go.Proofs.Ytdcbacbilncnnaa.M Go.Proofs.Ytdcbacbilncnnaa.EncL Go.Proofs.YtdcbacbilncnnaaW.PrintWords Go.Proofs.YtdcbacbilncnnaaW.PrintLast
attribute [local go_sem ↓] eqA44 eqA47
set_option maxRecDepth 1000000 in
set_option maxHeartbeats 40000000 in
theorem bodies_r9 {a0 : Int} {a1 : ByteArray} {a2 : Int} {A Am Ac Ad : Option Addr} {c cm cc cd n : Nat} {L Lc Ld : List S47} {body : ByteArray} {w wc : World} {g7 g8 g10 g12 : Nat} {k : Int} {mb wb ob : Bool} {ew eo : Int} {u0 u1 u3 u4 u5 u6 u16 u17 u18 u19 u20 u21 u22 u23 u24 u25 u26 u27 u28 u29 u30 u31 u32 u33 u34 u35 u36 u37 u38 u39 u40 u41 u42 u43 u44 u45 u46 u47 u48 u49 u50 u51 u52 u53 u54 u55 u56 u57 u58 u59 u60 u61 u62 u63 u64 u65 u66 u67 u68 u69 u70 u71 u72 u73 u74 u75 u76 u77 u78 u79 u80 u81 u82 u83 u84 u85 u86 u87 u88 u89 u90 u91 u92 u93 u94 u95 u96 u97 u98 u99 u100 u101 u102 u103 u104 u105 u106 u107 u108 u109 u110 u111 u112 u113 u114 u115 u116 u117 u118 u119 u120 u121 u122 u123 u124 u125 u126 u127 u128 u129 u130 u131 u132 u133 u134 u135 u136 u137 u138 u139 u140 u141 u142 u143 u144 u145 u146 u147 u148 u149 u150 u151 u152 u153 u154 u155 u156 u157 u158 u159 u160 u161 u162 u163 u164 u165 u166 u167 u168 u169 u170 u171 u172 u173 u174 u175 u176 u177 u178 u179 u180 u181 u182 u183 u184 u185 u186 u187 u188 u189 u190 u191 u192 u193 u194 u195 u196 u197 u198 u199 u200 u201 u202 u203 u204 u205 u206 u207 u208 u209 u210 u211 u212 u213 u214 u215 u216 u217 u218 u219 u220 u221 u222 u223 u224 u225 u226 u227 u228 u229 u230 u231 u232 u233 u234 u235 u236 u237 u238 u239 u240 u241 u242 u243 u244 u245 u246 u247 u248 u249 u250 u251 u252 u253 u254 u255 u256 : Value} {Q : Exit → Act → World → Prop} (hp : ∀ c a v d w, Q (.panic c) (a.put d v) w → Q (.panic c) a w) (HLN : Hid (L.length = n)) (HOM : Hid (ob = (mb && !(rd_T47 L k).f7))) (HRM : Hid (mb = true → 0 ≤ k ∧ k < (n : Int))) (H : Hid (B2 w wc g7 g8 g10 g12 a0 a1 a2 A Am Ac Ad n c cm cc cd L Lc Ld)) (hQ : ∀ (v95 v96 v97 v98 v99 v100 v101 v102 v103 v104 : Value) (wx : World), Hid (B2 w wx g7 g8 g10 g12 a0 a1 a2 A Am Ac Ad n c cm cc cd L Lc Ld) → Q .normal ⟨List.toArray (u0 :: u1 :: .string body :: u3 :: u4 :: u5 :: u6 :: .pointer (some ⟨g7, 0, none⟩) :: .pointer (some ⟨g8, 0, none⟩) :: .int .i64 k :: .pointer (some ⟨g10, 0, none⟩) :: .int .i64 ew :: .pointer (some ⟨g12, 0, none⟩) :: .int .i64 eo :: .bool mb :: .bool wb :: (.bool ob) :: u17 :: u18 :: u19 :: u20 :: u21 :: u22 :: u23 :: u24 :: u25 :: u26 :: u27 :: u28 :: u29 :: u30 :: u31 :: u32 :: u33 :: u34 :: u35 :: u36 :: u37 :: u38 :: u39 :: u40 :: u41 :: u42 :: u43 :: u44 :: u45 :: u46 :: u47 :: u48 :: u49 :: u50 :: u51 :: u52 :: u53 :: u54 :: u55 :: u56 :: u57 :: u58 :: u59 :: u60 :: u61 :: u62 :: u63 :: u64 :: u65 :: u66 :: u67 :: u68 :: u69 :: u70 :: u71 :: u72 :: u73 :: u74 :: u75 :: u76 :: u77 :: u78 :: u79 :: u80 :: u81 :: u82 :: u83 :: u84 :: u85 :: u86 :: u87 :: u88 :: u89 :: u90 :: u91 :: u92 :: u93 :: u94 :: v95 :: v96 :: v97 :: v98 :: v99 :: v100 :: v101 :: v102 :: v103 :: v104 :: u105 :: u106 :: u107 :: u108 :: u109 :: u110 :: u111 :: u112 :: u113 :: u114 :: u115 :: u116 :: u117 :: u118 :: u119 :: u120 :: u121 :: u122 :: u123 :: u124 :: u125 :: u126 :: u127 :: u128 :: u129 :: u130 :: u131 :: u132 :: u133 :: u134 :: u135 :: u136 :: u137 :: u138 :: u139 :: u140 :: u141 :: u142 :: u143 :: u144 :: u145 :: u146 :: u147 :: u148 :: u149 :: u150 :: u151 :: u152 :: u153 :: u154 :: u155 :: u156 :: u157 :: u158 :: u159 :: u160 :: u161 :: u162 :: u163 :: u164 :: u165 :: u166 :: u167 :: u168 :: u169 :: u170 :: u171 :: u172 :: u173 :: u174 :: u175 :: u176 :: u177 :: u178 :: u179 :: u180 :: u181 :: u182 :: u183 :: u184 :: u185 :: u186 :: u187 :: u188 :: u189 :: u190 :: u191 :: u192 :: u193 :: u194 :: u195 :: u196 :: u197 :: u198 :: u199 :: u200 :: u201 :: u202 :: u203 :: u204 :: u205 :: u206 :: u207 :: u208 :: u209 :: u210 :: u211 :: u212 :: u213 :: u214 :: u215 :: u216 :: u217 :: u218 :: u219 :: u220 :: u221 :: u222 :: u223 :: u224 :: u225 :: u226 :: u227 :: u228 :: u229 :: u230 :: u231 :: u232 :: u233 :: u234 :: u235 :: u236 :: u237 :: u238 :: u239 :: u240 :: u241 :: u242 :: u243 :: u244 :: u245 :: u246 :: u247 :: u248 :: u249 :: u250 :: u251 :: u252 :: u253 :: u254 :: u255 :: u256 :: []), []⟩ wx) :
    ∀ {C : Code}, rg 9 = C → Code.wp Try.prog C Q ⟨List.toArray (u0 :: u1 :: .string body :: u3 :: u4 :: u5 :: u6 :: .pointer (some ⟨g7, 0, none⟩) :: .pointer (some ⟨g8, 0, none⟩) :: .int .i64 k :: .pointer (some ⟨g10, 0, none⟩) :: .int .i64 ew :: .pointer (some ⟨g12, 0, none⟩) :: .int .i64 eo :: .bool mb :: .bool wb :: u16 :: u17 :: u18 :: u19 :: u20 :: u21 :: u22 :: u23 :: u24 :: u25 :: u26 :: u27 :: u28 :: u29 :: u30 :: u31 :: u32 :: u33 :: u34 :: u35 :: u36 :: u37 :: u38 :: u39 :: u40 :: u41 :: u42 :: u43 :: u44 :: u45 :: u46 :: u47 :: u48 :: u49 :: u50 :: u51 :: u52 :: u53 :: u54 :: u55 :: u56 :: u57 :: u58 :: u59 :: u60 :: u61 :: u62 :: u63 :: u64 :: u65 :: u66 :: u67 :: u68 :: u69 :: u70 :: u71 :: u72 :: u73 :: u74 :: u75 :: u76 :: u77 :: u78 :: u79 :: u80 :: u81 :: u82 :: u83 :: u84 :: u85 :: u86 :: u87 :: u88 :: u89 :: u90 :: u91 :: u92 :: u93 :: u94 :: u95 :: u96 :: u97 :: u98 :: u99 :: u100 :: u101 :: u102 :: u103 :: u104 :: u105 :: u106 :: u107 :: u108 :: u109 :: u110 :: u111 :: u112 :: u113 :: u114 :: u115 :: u116 :: u117 :: u118 :: u119 :: u120 :: u121 :: u122 :: u123 :: u124 :: u125 :: u126 :: u127 :: u128 :: u129 :: u130 :: u131 :: u132 :: u133 :: u134 :: u135 :: u136 :: u137 :: u138 :: u139 :: u140 :: u141 :: u142 :: u143 :: u144 :: u145 :: u146 :: u147 :: u148 :: u149 :: u150 :: u151 :: u152 :: u153 :: u154 :: u155 :: u156 :: u157 :: u158 :: u159 :: u160 :: u161 :: u162 :: u163 :: u164 :: u165 :: u166 :: u167 :: u168 :: u169 :: u170 :: u171 :: u172 :: u173 :: u174 :: u175 :: u176 :: u177 :: u178 :: u179 :: u180 :: u181 :: u182 :: u183 :: u184 :: u185 :: u186 :: u187 :: u188 :: u189 :: u190 :: u191 :: u192 :: u193 :: u194 :: u195 :: u196 :: u197 :: u198 :: u199 :: u200 :: u201 :: u202 :: u203 :: u204 :: u205 :: u206 :: u207 :: u208 :: u209 :: u210 :: u211 :: u212 :: u213 :: u214 :: u215 :: u216 :: u217 :: u218 :: u219 :: u220 :: u221 :: u222 :: u223 :: u224 :: u225 :: u226 :: u227 :: u228 :: u229 :: u230 :: u231 :: u232 :: u233 :: u234 :: u235 :: u236 :: u237 :: u238 :: u239 :: u240 :: u241 :: u242 :: u243 :: u244 :: u245 :: u246 :: u247 :: u248 :: u249 :: u250 :: u251 :: u252 :: u253 :: u254 :: u255 :: u256 :: []), []⟩ wc := by
  rintro _ rfl
  have HQ := Lib.hid hQ
  clear hQ
  conv => arg 2; whnf
  have hom := HOM.out
  cases mb with
  | false =>
    obtain rfl : ob = false := by rw [hom]; rfl
    clear hom
    go_wp2_with fail
    exact HQ.out _ _ _ _ _ _ _ _ _ _ _ H
  | true =>
    obtain ⟨h0, h1⟩ := HRM.out rfl
    obtain ⟨ad, hA, hx0, hx1, hx2, hx3, hx4, hx5, hx6, hx7⟩ := at_T44 H.out.h.km k h0 h1
    rw [rd_map' L k (by rw [HLN.out]; exact h1) h0] at hx7
    change wc.cell? _ = some (.bool (rd_T47 L k).f7) at hx7
    clear hx0 hx1 hx2 hx3 hx4 hx5 hx6
    subst hA
    have q3 : wc.cell? ⟨g8, 3, none⟩ = some (.slice (some ad) n cm) := (blk_cell H.out.h.g8 3).trans rfl
    have hd0 : decide (k < 0) = false := decide_eq_false (by omega)
    have hd1 : decide ((n : Int) ≤ k) = false := decide_eq_false (by omega)
    obtain ⟨f7, hf7⟩ : ∃ b, (rd_T47 L k).f7 = b := ⟨_, rfl⟩
    rw [hf7] at hom hx7
    obtain rfl : ob = !f7 := by rw [hom]; simp
    clear hom hf7
    go_wp2_with fail
    exact HQ.out _ _ _ _ _ _ _ _ _ _ _ H
end Go.Proofs.Ytdcbacbilncnnaa.T
end
section
/- BlockBodies, walked: written by wip/gensplit.py. -/
set_option linter.unusedVariables false
set_option linter.unusedSimpArgs false
namespace Go.Proofs.Ytdcbacbilncnnaa.T
open Go.RowKit Go.Proofs.Ytdcbacbilncnnaa.PMk Go.Proofs.Ytdcbacbilncnnaa.M Go.Proofs.Ytdcbacbilncnnaa.EncL Go.Proofs.YtdcbacbilncnnaaW.PrintWords Go.Proofs.YtdcbacbilncnnaaW.PrintLast
attribute [local go_sem ↓] eqA44 eqA47
set_option maxRecDepth 1000000 in
set_option maxHeartbeats 40000000 in
theorem bodies_r10 {a0 : Int} {a1 : ByteArray} {a2 : Int} {A Am Ac Ad : Option Addr} {c cm cc cd n : Nat} {L Lc Ld : List S47} {body : ByteArray} {w wc : World} {g7 g8 g10 g12 : Nat} {k : Int} {mb wb ob : Bool} {ew eo : Int} {u0 u1 u3 u4 u5 u6 u17 u18 u19 u20 u21 u22 u23 u24 u25 u26 u27 u28 u29 u30 u31 u32 u33 u34 u35 u36 u37 u38 u39 u40 u41 u42 u43 u44 u45 u46 u47 u48 u49 u50 u51 u52 u53 u54 u55 u56 u57 u58 u59 u60 u61 u62 u63 u64 u65 u66 u67 u68 u69 u70 u71 u72 u73 u74 u75 u76 u77 u78 u79 u80 u81 u82 u83 u84 u85 u86 u87 u88 u89 u90 u91 u92 u93 u94 u95 u96 u97 u98 u99 u100 u101 u102 u103 u104 u105 u106 u107 u108 u109 u110 u111 u112 u113 u114 u115 u116 u117 u118 u119 u120 u121 u122 u123 u124 u125 u126 u127 u128 u129 u130 u131 u132 u133 u134 u135 u136 u137 u138 u139 u140 u141 u142 u143 u144 u145 u146 u147 u148 u149 u150 u151 u152 u153 u154 u155 u156 u157 u158 u159 u160 u161 u162 u163 u164 u165 u166 u167 u168 u169 u170 u171 u172 u173 u174 u175 u176 u177 u178 u179 u180 u181 u182 u183 u184 u185 u186 u187 u188 u189 u190 u191 u192 u193 u194 u195 u196 u197 u198 u199 u200 u201 u202 u203 u204 u205 u206 u207 u208 u209 u210 u211 u212 u213 u214 u215 u216 u217 u218 u219 u220 u221 u222 u223 u224 u225 u226 u227 u228 u229 u230 u231 u232 u233 u234 u235 u236 u237 u238 u239 u240 u241 u242 u243 u244 u245 u246 u247 u248 u249 u250 u251 u252 u253 u254 u255 u256 : Value} {Q : Exit → Act → World → Prop} (hp : ∀ c a v d w, Q (.panic c) (a.put d v) w → Q (.panic c) a w) (HE1 : Hid ((if wb = true then (0 : Int) else 1) = ew)) (HE2 : Hid ((if ob = true then (0 : Int) else 1) = eo)) (H : Hid (B2 w wc g7 g8 g10 g12 a0 a1 a2 A Am Ac Ad n c cm cc cd L Lc Ld)) (hQ : ∀ (v105 v106 v107 v108 v109 v110 v111 v112 v113 v114 v115 v116 v117 v118 v119 v120 v121 v122 v123 v124 v125 v126 v127 v128 v129 v130 v131 v132 v133 : Value) (wx : World), Hid (B2 w wx g7 g8 g10 g12 a0 a1 a2 A Am Ac Ad n c cm cc cd L Lc Ld) → Q .normal ⟨List.toArray (u0 :: u1 :: .string body :: u3 :: u4 :: u5 :: u6 :: .pointer (some ⟨g7, 0, none⟩) :: .pointer (some ⟨g8, 0, none⟩) :: .int .i64 k :: .pointer (some ⟨g10, 0, none⟩) :: .int .i64 ew :: .pointer (some ⟨g12, 0, none⟩) :: .int .i64 eo :: .bool mb :: .bool wb :: .bool ob :: u17 :: u18 :: u19 :: u20 :: u21 :: u22 :: u23 :: u24 :: u25 :: u26 :: u27 :: u28 :: u29 :: u30 :: u31 :: u32 :: u33 :: u34 :: u35 :: u36 :: u37 :: u38 :: u39 :: u40 :: u41 :: u42 :: u43 :: u44 :: u45 :: u46 :: u47 :: u48 :: u49 :: u50 :: u51 :: u52 :: u53 :: u54 :: u55 :: u56 :: u57 :: u58 :: u59 :: u60 :: u61 :: u62 :: u63 :: u64 :: u65 :: u66 :: u67 :: u68 :: u69 :: u70 :: u71 :: u72 :: u73 :: u74 :: u75 :: u76 :: u77 :: u78 :: u79 :: u80 :: u81 :: u82 :: u83 :: u84 :: u85 :: u86 :: u87 :: u88 :: u89 :: u90 :: u91 :: u92 :: u93 :: u94 :: u95 :: u96 :: u97 :: u98 :: u99 :: u100 :: u101 :: u102 :: u103 :: u104 :: v105 :: v106 :: v107 :: v108 :: v109 :: v110 :: v111 :: v112 :: v113 :: v114 :: v115 :: v116 :: v117 :: v118 :: v119 :: v120 :: v121 :: v122 :: v123 :: v124 :: v125 :: v126 :: v127 :: v128 :: v129 :: v130 :: v131 :: v132 :: v133 :: (.bool false) :: u135 :: u136 :: u137 :: u138 :: u139 :: u140 :: u141 :: u142 :: u143 :: u144 :: u145 :: u146 :: u147 :: u148 :: u149 :: u150 :: u151 :: u152 :: u153 :: u154 :: u155 :: u156 :: u157 :: u158 :: u159 :: u160 :: u161 :: u162 :: u163 :: u164 :: u165 :: u166 :: u167 :: u168 :: u169 :: u170 :: u171 :: u172 :: u173 :: u174 :: u175 :: u176 :: u177 :: u178 :: u179 :: u180 :: u181 :: u182 :: u183 :: u184 :: u185 :: u186 :: u187 :: u188 :: u189 :: u190 :: u191 :: u192 :: u193 :: u194 :: u195 :: u196 :: u197 :: u198 :: u199 :: u200 :: u201 :: u202 :: u203 :: u204 :: u205 :: u206 :: u207 :: u208 :: u209 :: u210 :: u211 :: u212 :: u213 :: u214 :: u215 :: u216 :: u217 :: u218 :: u219 :: u220 :: u221 :: u222 :: u223 :: u224 :: u225 :: u226 :: u227 :: u228 :: u229 :: u230 :: u231 :: u232 :: u233 :: u234 :: u235 :: u236 :: u237 :: u238 :: u239 :: u240 :: u241 :: u242 :: u243 :: u244 :: u245 :: u246 :: u247 :: u248 :: u249 :: u250 :: u251 :: u252 :: u253 :: u254 :: u255 :: u256 :: []), []⟩ wx) :
    ∀ {C : Code}, rg 10 = C → Code.wp Try.prog C Q ⟨List.toArray (u0 :: u1 :: .string body :: u3 :: u4 :: u5 :: u6 :: .pointer (some ⟨g7, 0, none⟩) :: .pointer (some ⟨g8, 0, none⟩) :: .int .i64 k :: .pointer (some ⟨g10, 0, none⟩) :: .int .i64 ew :: .pointer (some ⟨g12, 0, none⟩) :: .int .i64 eo :: .bool mb :: .bool wb :: .bool ob :: u17 :: u18 :: u19 :: u20 :: u21 :: u22 :: u23 :: u24 :: u25 :: u26 :: u27 :: u28 :: u29 :: u30 :: u31 :: u32 :: u33 :: u34 :: u35 :: u36 :: u37 :: u38 :: u39 :: u40 :: u41 :: u42 :: u43 :: u44 :: u45 :: u46 :: u47 :: u48 :: u49 :: u50 :: u51 :: u52 :: u53 :: u54 :: u55 :: u56 :: u57 :: u58 :: u59 :: u60 :: u61 :: u62 :: u63 :: u64 :: u65 :: u66 :: u67 :: u68 :: u69 :: u70 :: u71 :: u72 :: u73 :: u74 :: u75 :: u76 :: u77 :: u78 :: u79 :: u80 :: u81 :: u82 :: u83 :: u84 :: u85 :: u86 :: u87 :: u88 :: u89 :: u90 :: u91 :: u92 :: u93 :: u94 :: u95 :: u96 :: u97 :: u98 :: u99 :: u100 :: u101 :: u102 :: u103 :: u104 :: u105 :: u106 :: u107 :: u108 :: u109 :: u110 :: u111 :: u112 :: u113 :: u114 :: u115 :: u116 :: u117 :: u118 :: u119 :: u120 :: u121 :: u122 :: u123 :: u124 :: u125 :: u126 :: u127 :: u128 :: u129 :: u130 :: u131 :: u132 :: u133 :: u134 :: u135 :: u136 :: u137 :: u138 :: u139 :: u140 :: u141 :: u142 :: u143 :: u144 :: u145 :: u146 :: u147 :: u148 :: u149 :: u150 :: u151 :: u152 :: u153 :: u154 :: u155 :: u156 :: u157 :: u158 :: u159 :: u160 :: u161 :: u162 :: u163 :: u164 :: u165 :: u166 :: u167 :: u168 :: u169 :: u170 :: u171 :: u172 :: u173 :: u174 :: u175 :: u176 :: u177 :: u178 :: u179 :: u180 :: u181 :: u182 :: u183 :: u184 :: u185 :: u186 :: u187 :: u188 :: u189 :: u190 :: u191 :: u192 :: u193 :: u194 :: u195 :: u196 :: u197 :: u198 :: u199 :: u200 :: u201 :: u202 :: u203 :: u204 :: u205 :: u206 :: u207 :: u208 :: u209 :: u210 :: u211 :: u212 :: u213 :: u214 :: u215 :: u216 :: u217 :: u218 :: u219 :: u220 :: u221 :: u222 :: u223 :: u224 :: u225 :: u226 :: u227 :: u228 :: u229 :: u230 :: u231 :: u232 :: u233 :: u234 :: u235 :: u236 :: u237 :: u238 :: u239 :: u240 :: u241 :: u242 :: u243 :: u244 :: u245 :: u246 :: u247 :: u248 :: u249 :: u250 :: u251 :: u252 :: u253 :: u254 :: u255 :: u256 :: []), []⟩ wc := by
  rintro _ rfl
  have HQ := Lib.hid hQ
  clear hQ
  conv => arg 2; whnf
  have he1 := HE1.out
  have he2 := HE2.out
  cases wb with
  | true =>
    obtain rfl : ew = 0 := by rw [← he1]; rfl
    cases ob with
    | true =>
      obtain rfl : eo = 0 := by rw [← he2]; rfl
      go_wp2_with (go_at_call 12; refine (awake_raw _).mono ?_; rintro e w5 ⟨rfl, hb⟩; have H5 := Lib.hid (H.out.below hb); clear hb)
      exact HQ.out _ _ _ _ _ _ _ _ _ _ _ _ _ _ _ _ _ _ _ _ _ _ _ _ _ _ _ _ _ _ H5
    | false =>
      obtain rfl : eo = 1 := by rw [← he2]; rfl
      go_wp2_with (go_at_call 12; refine (awake_raw _).mono ?_; rintro e w5 ⟨rfl, hb⟩; have H5 := Lib.hid (H.out.below hb); clear hb)
      exact HQ.out _ _ _ _ _ _ _ _ _ _ _ _ _ _ _ _ _ _ _ _ _ _ _ _ _ _ _ _ _ _ H5
  | false =>
    obtain rfl : ew = 1 := by rw [← he1]; rfl
    cases ob with
    | true =>
      obtain rfl : eo = 0 := by rw [← he2]; rfl
      go_wp2_with (go_at_call 12; refine (awake_raw _).mono ?_; rintro e w5 ⟨rfl, hb⟩; have H5 := Lib.hid (H.out.below hb); clear hb)
      exact HQ.out _ _ _ _ _ _ _ _ _ _ _ _ _ _ _ _ _ _ _ _ _ _ _ _ _ _ _ _ _ _ H5
    | false =>
      obtain rfl : eo = 1 := by rw [← he2]; rfl
      go_wp2_with (go_at_call 12; refine (awake_raw _).mono ?_; rintro e w5 ⟨rfl, hb⟩; have H5 := Lib.hid (H.out.below hb); clear hb)
      exact HQ.out _ _ _ _ _ _ _ _ _ _ _ _ _ _ _ _ _ _ _ _ _ _ _ _ _ _ _ _ _ _ H5
end Go.Proofs.Ytdcbacbilncnnaa.T
end
section
/- BlockBodies, walked: written by wip/gensplit.py. -/
set_option linter.unusedVariables false
set_option linter.unusedSimpArgs false
namespace Go.Proofs.Ytdcbacbilncnnaa.T
open Go.RowKit Go.Proofs.Ytdcbacbilncnnaa.PMk Go.Proofs.Ytdcbacbilncnnaa.M Go.Proofs.Ytdcbacbilncnnaa.EncL Go.Proofs.YtdcbacbilncnnaaW.PrintWords Go.Proofs.YtdcbacbilncnnaaW.PrintLast
attribute [local go_sem ↓] eqA44 eqA47
set_option maxRecDepth 1000000 in
set_option maxHeartbeats 40000000 in
theorem bodies_r12 {a0 : Int} {a1 : ByteArray} {a2 : Int} {A Am Ac Ad : Option Addr} {c cm cc cd n : Nat} {L Lc Ld : List S47} {body : ByteArray} {w wc : World} {g7 g8 g10 g12 : Nat} {k : Int} {mb wb ob : Bool} {ew eo : Int} {u0 u1 u3 u4 u5 u6 u17 u18 u19 u20 u21 u22 u23 u24 u25 u26 u27 u28 u29 u30 u31 u32 u33 u34 u35 u36 u37 u38 u39 u40 u41 u42 u43 u44 u45 u46 u47 u48 u49 u50 u51 u52 u53 u54 u55 u56 u57 u58 u59 u60 u61 u62 u63 u64 u65 u66 u67 u68 u69 u70 u71 u72 u73 u74 u75 u76 u77 u78 u79 u80 u81 u82 u83 u84 u85 u86 u87 u88 u89 u90 u91 u92 u93 u94 u95 u96 u97 u98 u99 u100 u101 u102 u103 u104 u105 u106 u107 u108 u109 u110 u111 u112 u113 u114 u115 u116 u117 u118 u119 u120 u121 u122 u123 u124 u125 u126 u127 u128 u129 u130 u131 u132 u133 u134 u135 u136 u137 u138 u139 u140 u141 u142 u143 u144 u145 u146 u147 u148 u149 u150 u151 u152 u153 u154 u155 u156 u157 u158 u159 u160 u161 u162 u163 u164 u165 u166 u167 u168 u169 u170 u171 u172 u173 u174 u175 u176 u177 u178 u179 u180 u181 u182 u183 u184 u185 u186 u187 u188 u189 u190 u191 u192 u193 u194 u195 u196 u197 u198 u199 u200 u201 u202 u203 u204 u205 u206 u207 u208 u209 u210 u211 u212 u213 u214 u215 u216 u217 u218 u219 u220 u221 u222 u223 u224 u225 u226 u227 u228 u229 u230 u231 u232 u233 u234 u235 u236 u237 u238 u239 u240 u241 u242 u243 u244 u245 u246 u247 u248 u249 u250 u251 u252 u253 u254 u255 u256 : Value} {Q : Exit → Act → World → Prop} (hp : ∀ c a v d w, Q (.panic c) (a.put d v) w → Q (.panic c) a w) (HLN : Hid (L.length = n)) (HG : Hid (FitsB a0 a1 a2 L)) (HLc : Hid (Lw L k body = Lc)) (HLd : Hid (Lo L k = Ld)) (H : Hid (B2 w wc g7 g8 g10 g12 a0 a1 a2 A Am Ac Ad n c cm cc cd L Lc Ld)) (hQ : ∀ (v135 v136 v137 v138 v139 v140 v141 v142 v143 v144 v145 v146 v147 v148 v149 v150 v151 v152 v153 v154 v155 v156 v157 v158 v159 v160 v161 v162 v163 : Value) (wx : World), Hid (B2 w wx g7 g8 g10 g12 a0 a1 a2 A Am Ac Ad n c cm cc cd L Lc Ld) → Q .normal ⟨List.toArray (u0 :: u1 :: .string body :: u3 :: u4 :: u5 :: u6 :: .pointer (some ⟨g7, 0, none⟩) :: .pointer (some ⟨g8, 0, none⟩) :: .int .i64 k :: .pointer (some ⟨g10, 0, none⟩) :: .int .i64 ew :: .pointer (some ⟨g12, 0, none⟩) :: .int .i64 eo :: .bool mb :: .bool wb :: .bool ob :: u17 :: u18 :: u19 :: u20 :: u21 :: u22 :: u23 :: u24 :: u25 :: u26 :: u27 :: u28 :: u29 :: u30 :: u31 :: u32 :: u33 :: u34 :: u35 :: u36 :: u37 :: u38 :: u39 :: u40 :: u41 :: u42 :: u43 :: u44 :: u45 :: u46 :: u47 :: u48 :: u49 :: u50 :: u51 :: u52 :: u53 :: u54 :: u55 :: u56 :: u57 :: u58 :: u59 :: u60 :: u61 :: u62 :: u63 :: u64 :: u65 :: u66 :: u67 :: u68 :: u69 :: u70 :: u71 :: u72 :: u73 :: u74 :: u75 :: u76 :: u77 :: u78 :: u79 :: u80 :: u81 :: u82 :: u83 :: u84 :: u85 :: u86 :: u87 :: u88 :: u89 :: u90 :: u91 :: u92 :: u93 :: u94 :: u95 :: u96 :: u97 :: u98 :: u99 :: u100 :: u101 :: u102 :: u103 :: u104 :: u105 :: u106 :: u107 :: u108 :: u109 :: u110 :: u111 :: u112 :: u113 :: u114 :: u115 :: u116 :: u117 :: u118 :: u119 :: u120 :: u121 :: u122 :: u123 :: u124 :: u125 :: u126 :: u127 :: u128 :: u129 :: u130 :: u131 :: u132 :: u133 :: u134 :: v135 :: v136 :: v137 :: v138 :: v139 :: v140 :: v141 :: v142 :: v143 :: v144 :: v145 :: v146 :: v147 :: v148 :: v149 :: v150 :: v151 :: v152 :: v153 :: v154 :: v155 :: v156 :: v157 :: v158 :: v159 :: v160 :: v161 :: v162 :: v163 :: (.bool false) :: u165 :: u166 :: u167 :: u168 :: u169 :: u170 :: u171 :: u172 :: u173 :: u174 :: u175 :: u176 :: u177 :: u178 :: u179 :: u180 :: u181 :: u182 :: u183 :: u184 :: u185 :: u186 :: u187 :: u188 :: u189 :: u190 :: u191 :: u192 :: u193 :: u194 :: u195 :: u196 :: u197 :: u198 :: u199 :: u200 :: u201 :: u202 :: u203 :: u204 :: u205 :: u206 :: u207 :: u208 :: u209 :: u210 :: u211 :: u212 :: u213 :: u214 :: u215 :: u216 :: u217 :: u218 :: u219 :: u220 :: u221 :: u222 :: u223 :: u224 :: u225 :: u226 :: u227 :: u228 :: u229 :: u230 :: u231 :: u232 :: u233 :: u234 :: u235 :: u236 :: u237 :: u238 :: u239 :: u240 :: u241 :: u242 :: u243 :: u244 :: u245 :: u246 :: u247 :: u248 :: u249 :: u250 :: u251 :: u252 :: u253 :: u254 :: u255 :: u256 :: []), []⟩ wx) :
    ∀ {C : Code}, rg 12 = C → Code.wp Try.prog C Q ⟨List.toArray (u0 :: u1 :: .string body :: u3 :: u4 :: u5 :: u6 :: .pointer (some ⟨g7, 0, none⟩) :: .pointer (some ⟨g8, 0, none⟩) :: .int .i64 k :: .pointer (some ⟨g10, 0, none⟩) :: .int .i64 ew :: .pointer (some ⟨g12, 0, none⟩) :: .int .i64 eo :: .bool mb :: .bool wb :: .bool ob :: u17 :: u18 :: u19 :: u20 :: u21 :: u22 :: u23 :: u24 :: u25 :: u26 :: u27 :: u28 :: u29 :: u30 :: u31 :: u32 :: u33 :: u34 :: u35 :: u36 :: u37 :: u38 :: u39 :: u40 :: u41 :: u42 :: u43 :: u44 :: u45 :: u46 :: u47 :: u48 :: u49 :: u50 :: u51 :: u52 :: u53 :: u54 :: u55 :: u56 :: u57 :: u58 :: u59 :: u60 :: u61 :: u62 :: u63 :: u64 :: u65 :: u66 :: u67 :: u68 :: u69 :: u70 :: u71 :: u72 :: u73 :: u74 :: u75 :: u76 :: u77 :: u78 :: u79 :: u80 :: u81 :: u82 :: u83 :: u84 :: u85 :: u86 :: u87 :: u88 :: u89 :: u90 :: u91 :: u92 :: u93 :: u94 :: u95 :: u96 :: u97 :: u98 :: u99 :: u100 :: u101 :: u102 :: u103 :: u104 :: u105 :: u106 :: u107 :: u108 :: u109 :: u110 :: u111 :: u112 :: u113 :: u114 :: u115 :: u116 :: u117 :: u118 :: u119 :: u120 :: u121 :: u122 :: u123 :: u124 :: u125 :: u126 :: u127 :: u128 :: u129 :: u130 :: u131 :: u132 :: u133 :: u134 :: u135 :: u136 :: u137 :: u138 :: u139 :: u140 :: u141 :: u142 :: u143 :: u144 :: u145 :: u146 :: u147 :: u148 :: u149 :: u150 :: u151 :: u152 :: u153 :: u154 :: u155 :: u156 :: u157 :: u158 :: u159 :: u160 :: u161 :: u162 :: u163 :: u164 :: u165 :: u166 :: u167 :: u168 :: u169 :: u170 :: u171 :: u172 :: u173 :: u174 :: u175 :: u176 :: u177 :: u178 :: u179 :: u180 :: u181 :: u182 :: u183 :: u184 :: u185 :: u186 :: u187 :: u188 :: u189 :: u190 :: u191 :: u192 :: u193 :: u194 :: u195 :: u196 :: u197 :: u198 :: u199 :: u200 :: u201 :: u202 :: u203 :: u204 :: u205 :: u206 :: u207 :: u208 :: u209 :: u210 :: u211 :: u212 :: u213 :: u214 :: u215 :: u216 :: u217 :: u218 :: u219 :: u220 :: u221 :: u222 :: u223 :: u224 :: u225 :: u226 :: u227 :: u228 :: u229 :: u230 :: u231 :: u232 :: u233 :: u234 :: u235 :: u236 :: u237 :: u238 :: u239 :: u240 :: u241 :: u242 :: u243 :: u244 :: u245 :: u246 :: u247 :: u248 :: u249 :: u250 :: u251 :: u252 :: u253 :: u254 :: u255 :: u256 :: []), []⟩ wc := by
  rintro _ rfl
  have HQ := Lib.hid hQ
  clear hQ
  have g := HG.out
  have HH7 := Lib.hid (fun w' hC => hash_n a0 a1 a2 A c n L (bhash a0 a1 a2 L) HLN.out g rfl w' hC)
  have HH10 := Lib.hid (fun w' (hC : Kd.C k47 w' Ac n Lc) => hash_n a0 a1 a2 Ac cc n Lc (bhash a0 a1 a2 L) (by rw [← HLc.out, Lw_len, HLN.out]) (by rw [← HLc.out]; exact fits_mx g (Lw_len _ _ _) (Lw_fits g.ls _ _)) (by rw [← HLc.out]; exact bhash_mx _ _ _ (Lw_mx _ _ _)) w' hC)
  have HH12 := Lib.hid (fun w' (hC : Kd.C k47 w' Ad n Ld) => hash_n a0 a1 a2 Ad cd n Ld (bhash a0 a1 a2 L) (by rw [← HLd.out, Lo_len, HLN.out]) (by rw [← HLd.out]; exact fits_mx g (Lo_len _ _) (Lo_fits g.ls _)) (by rw [← HLd.out]; exact bhash_mx _ _ _ (Lo_mx _ _)) w' hC)
  clear g
  generalize bhash a0 a1 a2 L = dg at HH7 HH10 HH12
  conv => arg 2; whnf
  have HD := Lib.hid H.out.drew
  refine start_ (n := 30) (S := fun w' => w'.cell? ⟨g7, 0, none⟩ = some (.int .u64 a0) ∧ w'.cell? ⟨g7, 1, none⟩ = some (.string a1) ∧ w'.cell? ⟨g7, 2, none⟩ = some (.int .u64 a2) ∧ w'.cell? ⟨g7, 3, none⟩ = some (.slice A n c) ∧ w'.cell? ⟨g10, 0, none⟩ = some (.int .u64 a0) ∧ w'.cell? ⟨g10, 1, none⟩ = some (.string a1) ∧ w'.cell? ⟨g10, 2, none⟩ = some (.int .u64 a2) ∧ w'.cell? ⟨g10, 3, none⟩ = some (.slice Ac n cc) ∧ w'.cell? ⟨g12, 0, none⟩ = some (.int .u64 a0) ∧ w'.cell? ⟨g12, 1, none⟩ = some (.string a1) ∧ w'.cell? ⟨g12, 2, none⟩ = some (.int .u64 a2) ∧ w'.cell? ⟨g12, 3, none⟩ = some (.slice Ad n cd)) (ds := []) #[false, false, false, false, false, false, false, false, false, false, false, false, false, false, false, false, false, false, false, false, false, false, false, false, false, false, false, false, false, false] (by kernel_rfl) rfl rfl ⟨(blk_cell HD.out.h.g7 0).trans rfl, (blk_cell HD.out.h.g7 1).trans rfl, (blk_cell HD.out.h.g7 2).trans rfl, (blk_cell HD.out.h.g7 3).trans rfl, (blk_cell HD.out.g10 0).trans rfl, (blk_cell HD.out.g10 1).trans rfl, (blk_cell HD.out.g10 2).trans rfl, (blk_cell HD.out.g10 3).trans rfl, (blk_cell HD.out.g12 0).trans rfl, (blk_cell HD.out.g12 1).trans rfl, (blk_cell HD.out.g12 2).trans rfl, (blk_cell HD.out.g12 3).trans rfl⟩ (fun hHeld => ?_)
  refine take_ (i := 0) (N := some 135) (v := ?_) (a' := ?_) #[true, false, false, false, false, false, false, false, false, false, false, false, false, false, false, false, false, false, false, false, false, false, false, false, false, false, false, false, false, false] rfl rfl (by kernel_rfl) (fun c a w h => hp c a _ _ w h) (Or.inl ⟨by rfl, ?_⟩) hHeld ?_ ?_
  rotate_left
  · rintro w' ⟨s0, s1, s2, s3, s4, s5, s6, s7, s8, s9, s10, s11⟩
    go_simp
    with_reducible rfl
  rotate_left
  · simp only [Act.put, List.setIfInBounds_toArray, List.set_cons_zero, List.set_cons_succ, i64_w, i32_w]
    rfl
  refine take_ (i := 2) (N := some 137) (v := ?_) (a' := ?_) #[true, false, true, false, false, false, false, false, false, false, false, false, false, false, false, false, false, false, false, false, false, false, false, false, false, false, false, false, false, false] rfl rfl (by kernel_rfl) (fun c a w h => hp c a _ _ w h) (Or.inl ⟨by rfl, ?_⟩) hHeld ?_ ?_
  rotate_left
  · rintro w' ⟨s0, s1, s2, s3, s4, s5, s6, s7, s8, s9, s10, s11⟩
    go_simp
    with_reducible rfl
  rotate_left
  · simp only [Act.put, List.setIfInBounds_toArray, List.set_cons_zero, List.set_cons_succ, i64_w, i32_w]
    rfl
  refine one_ (i := 1) (N := some 136) #[true, true, true, false, false, false, false, false, false, false, false, false, false, false, false, false, false, false, false, false, false, false, false, false, false, false, false, false, false, false] rfl rfl (by kernel_rfl) (by decide) (fun K hK => ?_)
  refine goes_ Try.func14 (by kernel_rfl) rfl #[.agg #[.int .u64 a0, .string a1, .int .u64 a2, .slice Ac n cc]] (by rfl) rfl rfl (by simp only [List.map_toArray, List.map_cons, List.map_nil]; rfl) ?_
  with_reducible refine (HH10.out _ HD.out.kc).mono ?_
  rintro e w5 ⟨rfl, hb⟩
  refine ⟨_, rfl, ?_⟩
  have H5 := Lib.hid (HD.out.below hb)
  clear hb
  refine hK.out _ _ ⟨(blk_cell H5.out.h.g7 0).trans rfl, (blk_cell H5.out.h.g7 1).trans rfl, (blk_cell H5.out.h.g7 2).trans rfl, (blk_cell H5.out.h.g7 3).trans rfl, (blk_cell H5.out.g10 0).trans rfl, (blk_cell H5.out.g10 1).trans rfl, (blk_cell H5.out.g10 2).trans rfl, (blk_cell H5.out.g10 3).trans rfl, (blk_cell H5.out.g12 0).trans rfl, (blk_cell H5.out.g12 1).trans rfl, (blk_cell H5.out.g12 2).trans rfl, (blk_cell H5.out.g12 3).trans rfl⟩ (fun hHeld => ?_)
  clear hK K
  refine norm_ (a' := ?_) ?_ ?_
  rotate_left
  · show Act.put _ (some 136) _ = _
    simp only [Act.put, List.setIfInBounds_toArray, List.set_cons_zero, List.set_cons_succ, i64_w, i32_w]
    rfl
  refine one_ (i := 3) (N := some 138) #[true, true, true, true, false, false, false, false, false, false, false, false, false, false, false, false, false, false, false, false, false, false, false, false, false, false, false, false, false, false] rfl rfl (by kernel_rfl) (by decide) (fun K hK => ?_)
  refine goes_ Try.func14 (by kernel_rfl) rfl #[.agg #[.int .u64 a0, .string a1, .int .u64 a2, .slice A n c]] (by rfl) rfl rfl (by simp only [List.map_toArray, List.map_cons, List.map_nil]; rfl) ?_
  with_reducible refine (HH7.out _ H5.out.h.kb).mono ?_
  rintro e w6 ⟨rfl, hb⟩
  refine ⟨_, rfl, ?_⟩
  have H6 := Lib.hid (H5.out.below hb)
  clear hb
  refine hK.out _ _ ⟨(blk_cell H6.out.h.g7 0).trans rfl, (blk_cell H6.out.h.g7 1).trans rfl, (blk_cell H6.out.h.g7 2).trans rfl, (blk_cell H6.out.h.g7 3).trans rfl, (blk_cell H6.out.g10 0).trans rfl, (blk_cell H6.out.g10 1).trans rfl, (blk_cell H6.out.g10 2).trans rfl, (blk_cell H6.out.g10 3).trans rfl, (blk_cell H6.out.g12 0).trans rfl, (blk_cell H6.out.g12 1).trans rfl, (blk_cell H6.out.g12 2).trans rfl, (blk_cell H6.out.g12 3).trans rfl⟩ (fun hHeld => ?_)
  clear hK K
  refine norm_ (a' := ?_) ?_ ?_
  rotate_left
  · show Act.put _ (some 138) _ = _
    simp only [Act.put, List.setIfInBounds_toArray, List.set_cons_zero, List.set_cons_succ, i64_w, i32_w]
    rfl
  refine pure_ (i := 4) (N := some 139) (v := ?_) (a' := ?_) #[true, true, true, true, true, false, false, false, false, false, false, false, false, false, false, false, false, false, false, false, false, false, false, false, false, false, false, false, false, false] rfl rfl (by kernel_rfl) (fun c a w h => hp c a _ _ w h) (Or.inl ⟨by rfl, ?_⟩) ?_ ?_
  rotate_left
  · intro w'
    go_simp
    with_reducible rfl
  rotate_left
  · simp only [Act.put, List.setIfInBounds_toArray, List.set_cons_zero, List.set_cons_succ, i64_w, i32_w]
    rfl
  refine pure_ (i := 5) (N := some 140) (v := ?_) (a' := ?_) #[true, true, true, true, true, true, false, false, false, false, false, false, false, false, false, false, false, false, false, false, false, false, false, false, false, false, false, false, false, false] rfl rfl (by kernel_rfl) (fun c a w h => hp c a _ _ w h) (Or.inl ⟨by rfl, ?_⟩) ?_ ?_
  rotate_left
  · intro w'
    go_simp
    with_reducible rfl
  rotate_left
  · simp only [Act.put, List.setIfInBounds_toArray, List.set_cons_zero, List.set_cons_succ, i64_w, i32_w]
    rfl
  refine take_ (i := 6) (N := some 141) (v := ?_) (a' := ?_) #[true, true, true, true, true, true, true, false, false, false, false, false, false, false, false, false, false, false, false, false, false, false, false, false, false, false, false, false, false, false] rfl rfl (by kernel_rfl) (fun c a w h => hp c a _ _ w h) (Or.inl ⟨by rfl, ?_⟩) hHeld ?_ ?_
  rotate_left
  · rintro w' ⟨s0, s1, s2, s3, s4, s5, s6, s7, s8, s9, s10, s11⟩
    go_simp
    with_reducible rfl
  rotate_left
  · simp only [Act.put, List.setIfInBounds_toArray, List.set_cons_zero, List.set_cons_succ, i64_w, i32_w]
    rfl
  refine take_ (i := 8) (N := some 143) (v := ?_) (a' := ?_) #[true, true, true, true, true, true, true, false, true, false, false, false, false, false, false, false, false, false, false, false, false, false, false, false, false, false, false, false, false, false] rfl rfl (by kernel_rfl) (fun c a w h => hp c a _ _ w h) (Or.inl ⟨by rfl, ?_⟩) hHeld ?_ ?_
  rotate_left
  · rintro w' ⟨s0, s1, s2, s3, s4, s5, s6, s7, s8, s9, s10, s11⟩
    go_simp
    with_reducible rfl
  rotate_left
  · simp only [Act.put, List.setIfInBounds_toArray, List.set_cons_zero, List.set_cons_succ, i64_w, i32_w]
    rfl
  refine one_ (i := 7) (N := some 142) #[true, true, true, true, true, true, true, true, true, false, false, false, false, false, false, false, false, false, false, false, false, false, false, false, false, false, false, false, false, false] rfl rfl (by kernel_rfl) (by decide) (fun K hK => ?_)
  refine goes_ Try.func14 (by kernel_rfl) rfl #[.agg #[.int .u64 a0, .string a1, .int .u64 a2, .slice Ad n cd]] (by rfl) rfl rfl (by simp only [List.map_toArray, List.map_cons, List.map_nil]; rfl) ?_
  with_reducible refine (HH12.out _ H6.out.kd).mono ?_
  rintro e w7 ⟨rfl, hb⟩
  refine ⟨_, rfl, ?_⟩
  have H7 := Lib.hid (H6.out.below hb)
  clear hb
  refine hK.out _ _ ⟨(blk_cell H7.out.h.g7 0).trans rfl, (blk_cell H7.out.h.g7 1).trans rfl, (blk_cell H7.out.h.g7 2).trans rfl, (blk_cell H7.out.h.g7 3).trans rfl, (blk_cell H7.out.g10 0).trans rfl, (blk_cell H7.out.g10 1).trans rfl, (blk_cell H7.out.g10 2).trans rfl, (blk_cell H7.out.g10 3).trans rfl, (blk_cell H7.out.g12 0).trans rfl, (blk_cell H7.out.g12 1).trans rfl, (blk_cell H7.out.g12 2).trans rfl, (blk_cell H7.out.g12 3).trans rfl⟩ (fun hHeld => ?_)
  clear hK K
  refine norm_ (a' := ?_) ?_ ?_
  rotate_left
  · show Act.put _ (some 142) _ = _
    simp only [Act.put, List.setIfInBounds_toArray, List.set_cons_zero, List.set_cons_succ, i64_w, i32_w]
    rfl
  refine one_ (i := 9) (N := some 144) #[true, true, true, true, true, true, true, true, true, true, false, false, false, false, false, false, false, false, false, false, false, false, false, false, false, false, false, false, false, false] rfl rfl (by kernel_rfl) (by decide) (fun K hK => ?_)
  refine goes_ Try.func14 (by kernel_rfl) rfl #[.agg #[.int .u64 a0, .string a1, .int .u64 a2, .slice A n c]] (by rfl) rfl rfl (by simp only [List.map_toArray, List.map_cons, List.map_nil]; rfl) ?_
  with_reducible refine (HH7.out _ H7.out.h.kb).mono ?_
  rintro e w8 ⟨rfl, hb⟩
  refine ⟨_, rfl, ?_⟩
  have H8 := Lib.hid (H7.out.below hb)
  clear hb
  refine hK.out _ _ ⟨(blk_cell H8.out.h.g7 0).trans rfl, (blk_cell H8.out.h.g7 1).trans rfl, (blk_cell H8.out.h.g7 2).trans rfl, (blk_cell H8.out.h.g7 3).trans rfl, (blk_cell H8.out.g10 0).trans rfl, (blk_cell H8.out.g10 1).trans rfl, (blk_cell H8.out.g10 2).trans rfl, (blk_cell H8.out.g10 3).trans rfl, (blk_cell H8.out.g12 0).trans rfl, (blk_cell H8.out.g12 1).trans rfl, (blk_cell H8.out.g12 2).trans rfl, (blk_cell H8.out.g12 3).trans rfl⟩ (fun hHeld => ?_)
  clear hK K
  refine norm_ (a' := ?_) ?_ ?_
  rotate_left
  · show Act.put _ (some 144) _ = _
    simp only [Act.put, List.setIfInBounds_toArray, List.set_cons_zero, List.set_cons_succ, i64_w, i32_w]
    rfl
  refine pure_ (i := 10) (N := some 145) (v := ?_) (a' := ?_) #[true, true, true, true, true, true, true, true, true, true, true, false, false, false, false, false, false, false, false, false, false, false, false, false, false, false, false, false, false, false] rfl rfl (by kernel_rfl) (fun c a w h => hp c a _ _ w h) (Or.inl ⟨by rfl, ?_⟩) ?_ ?_
  rotate_left
  · intro w'
    go_simp
    with_reducible rfl
  rotate_left
  · simp only [Act.put, List.setIfInBounds_toArray, List.set_cons_zero, List.set_cons_succ, i64_w, i32_w]
    rfl
  refine pure_ (i := 11) (N := some 146) (v := ?_) (a' := ?_) #[true, true, true, true, true, true, true, true, true, true, true, true, false, false, false, false, false, false, false, false, false, false, false, false, false, false, false, false, false, false] rfl rfl (by kernel_rfl) (fun c a w h => hp c a _ _ w h) (Or.inl ⟨by rfl, ?_⟩) ?_ ?_
  rotate_left
  · intro w'
    go_simp
    with_reducible rfl
  rotate_left
  · simp only [Act.put, List.setIfInBounds_toArray, List.set_cons_zero, List.set_cons_succ, i64_w, i32_w]
    rfl
  refine pure_ (i := 12) (N := some 147) (v := ?_) (a' := ?_) #[true, true, true, true, true, true, true, true, true, true, true, true, true, false, false, false, false, false, false, false, false, false, false, false, false, false, false, false, false, false] rfl rfl (by kernel_rfl) (fun c a w h => hp c a _ _ w h) (Or.inl ⟨by rfl, ?_⟩) ?_ ?_
  rotate_left
  · intro w'
    go_simp
    with_reducible rfl
  rotate_left
  · simp only [Act.put, List.setIfInBounds_toArray, List.set_cons_zero, List.set_cons_succ, i64_w, i32_w]
    rfl
  refine pure_ (i := 13) (N := some 148) (v := ?_) (a' := ?_) #[true, true, true, true, true, true, true, true, true, true, true, true, true, true, false, false, false, false, false, false, false, false, false, false, false, false, false, false, false, false] rfl rfl (by kernel_rfl) (fun c a w h => hp c a _ _ w h) (Or.inl ⟨by rfl, ?_⟩) ?_ ?_
  rotate_left
  · intro w'
    go_simp
    with_reducible rfl
  rotate_left
  · simp only [Act.put, List.setIfInBounds_toArray, List.set_cons_zero, List.set_cons_succ, i64_w, i32_w]
    rfl
  refine pure_ (i := 16) (N := some 151) (v := ?_) (a' := ?_) #[true, true, true, true, true, true, true, true, true, true, true, true, true, true, false, false, true, false, false, false, false, false, false, false, false, false, false, false, false, false] rfl rfl (by kernel_rfl) (fun c a w h => hp c a _ _ w h) (Or.inl ⟨by rfl, ?_⟩) ?_ ?_
  rotate_left
  · intro w'
    go_simp
    with_reducible rfl
  rotate_left
  · simp only [Act.put, List.setIfInBounds_toArray, List.set_cons_zero, List.set_cons_succ, i64_w, i32_w]
    rfl
  refine take_ (i := 14) (N := some 149) (v := ?_) (a' := ?_) #[true, true, true, true, true, true, true, true, true, true, true, true, true, true, true, false, true, false, false, false, false, false, false, false, false, false, false, false, false, false] rfl rfl (by kernel_rfl) (fun c a w h => hp c a _ _ w h) (Or.inl ⟨by rfl, ?_⟩) hHeld ?_ ?_
  rotate_left
  · rintro w' ⟨s0, s1, s2, s3, s4, s5, s6, s7, s8, s9, s10, s11⟩
    go_simp
    with_reducible rfl
  rotate_left
  · simp only [Act.put, List.setIfInBounds_toArray, List.set_cons_zero, List.set_cons_succ, i64_w, i32_w]
    rfl
  refine pure_ (i := 15) (N := some 150) (v := ?_) (a' := ?_) #[true, true, true, true, true, true, true, true, true, true, true, true, true, true, true, true, true, false, false, false, false, false, false, false, false, false, false, false, false, false] rfl rfl (by kernel_rfl) (fun c a w h => hp c a _ _ w h) (Or.inl ⟨by rfl, ?_⟩) ?_ ?_
  rotate_left
  · intro w'
    go_simp
    with_reducible rfl
  rotate_left
  · simp only [Act.put, List.setIfInBounds_toArray, List.set_cons_zero, List.set_cons_succ, i64_w, i32_w]
    rfl
  refine take_ (i := 17) (N := some 152) (v := ?_) (a' := ?_) #[true, true, true, true, true, true, true, true, true, true, true, true, true, true, true, true, true, true, false, false, false, false, false, false, false, false, false, false, false, false] rfl rfl (by kernel_rfl) (fun c a w h => hp c a _ _ w h) (Or.inl ⟨by rfl, ?_⟩) hHeld ?_ ?_
  rotate_left
  · rintro w' ⟨s0, s1, s2, s3, s4, s5, s6, s7, s8, s9, s10, s11⟩
    go_simp
    with_reducible rfl
  rotate_left
  · simp only [Act.put, List.setIfInBounds_toArray, List.set_cons_zero, List.set_cons_succ, i64_w, i32_w]
    rfl
  refine pure_ (i := 18) (N := some 153) (v := ?_) (a' := ?_) #[true, true, true, true, true, true, true, true, true, true, true, true, true, true, true, true, true, true, true, false, false, false, false, false, false, false, false, false, false, false] rfl rfl (by kernel_rfl) (fun c a w h => hp c a _ _ w h) (Or.inl ⟨by rfl, ?_⟩) ?_ ?_
  rotate_left
  · intro w'
    go_simp
    with_reducible rfl
  rotate_left
  · simp only [Act.put, List.setIfInBounds_toArray, List.set_cons_zero, List.set_cons_succ, i64_w, i32_w]
    rfl
  refine pure_ (i := 19) (N := some 154) (v := ?_) (a' := ?_) #[true, true, true, true, true, true, true, true, true, true, true, true, true, true, true, true, true, true, true, true, false, false, false, false, false, false, false, false, false, false] rfl rfl (by kernel_rfl) (fun c a w h => hp c a _ _ w h) (Or.inl ⟨by rfl, ?_⟩) ?_ ?_
  rotate_left
  · intro w'
    go_simp
    with_reducible rfl
  rotate_left
  · simp only [Act.put, List.setIfInBounds_toArray, List.set_cons_zero, List.set_cons_succ, i64_w, i32_w]
    rfl
  refine pure_ (i := 20) (N := some 155) (v := ?_) (a' := ?_) #[true, true, true, true, true, true, true, true, true, true, true, true, true, true, true, true, true, true, true, true, true, false, false, false, false, false, false, false, false, false] rfl rfl (by kernel_rfl) (fun c a w h => hp c a _ _ w h) (Or.inl ⟨by rfl, ?_⟩) ?_ ?_
  rotate_left
  · intro w'
    go_simp
    with_reducible rfl
  rotate_left
  · simp only [Act.put, List.setIfInBounds_toArray, List.set_cons_zero, List.set_cons_succ, i64_w, i32_w]
    rfl
  refine pure_ (i := 21) (N := some 156) (v := ?_) (a' := ?_) #[true, true, true, true, true, true, true, true, true, true, true, true, true, true, true, true, true, true, true, true, true, true, false, false, false, false, false, false, false, false] rfl rfl (by kernel_rfl) (fun c a w h => hp c a _ _ w h) (Or.inl ⟨by rfl, ?_⟩) ?_ ?_
  rotate_left
  · intro w'
    go_simp
    with_reducible rfl
  rotate_left
  · simp only [Act.put, List.setIfInBounds_toArray, List.set_cons_zero, List.set_cons_succ, i64_w, i32_w]
    rfl
  refine pure_ (i := 22) (N := some 157) (v := ?_) (a' := ?_) #[true, true, true, true, true, true, true, true, true, true, true, true, true, true, true, true, true, true, true, true, true, true, true, false, false, false, false, false, false, false] rfl rfl (by kernel_rfl) (fun c a w h => hp c a _ _ w h) (Or.inl ⟨by rfl, ?_⟩) ?_ ?_
  rotate_left
  · intro w'
    go_simp
    with_reducible rfl
  rotate_left
  · simp only [Act.put, List.setIfInBounds_toArray, List.set_cons_zero, List.set_cons_succ, i64_w, i32_w]
    rfl
  refine pure_ (i := 25) (N := some 160) (v := ?_) (a' := ?_) #[true, true, true, true, true, true, true, true, true, true, true, true, true, true, true, true, true, true, true, true, true, true, true, false, false, true, false, false, false, false] rfl rfl (by kernel_rfl) (fun c a w h => hp c a _ _ w h) (Or.inl ⟨by rfl, ?_⟩) ?_ ?_
  rotate_left
  · intro w'
    go_simp
    with_reducible rfl
  rotate_left
  · simp only [Act.put, List.setIfInBounds_toArray, List.set_cons_zero, List.set_cons_succ, i64_w, i32_w]
    rfl
  refine take_ (i := 23) (N := some 158) (v := ?_) (a' := ?_) #[true, true, true, true, true, true, true, true, true, true, true, true, true, true, true, true, true, true, true, true, true, true, true, true, false, true, false, false, false, false] rfl rfl (by kernel_rfl) (fun c a w h => hp c a _ _ w h) (Or.inl ⟨by rfl, ?_⟩) hHeld ?_ ?_
  rotate_left
  · rintro w' ⟨s0, s1, s2, s3, s4, s5, s6, s7, s8, s9, s10, s11⟩
    go_simp
    with_reducible rfl
  rotate_left
  · simp only [Act.put, List.setIfInBounds_toArray, List.set_cons_zero, List.set_cons_succ, i64_w, i32_w]
    rfl
  refine pure_ (i := 24) (N := some 159) (v := ?_) (a' := ?_) #[true, true, true, true, true, true, true, true, true, true, true, true, true, true, true, true, true, true, true, true, true, true, true, true, true, true, false, false, false, false] rfl rfl (by kernel_rfl) (fun c a w h => hp c a _ _ w h) (Or.inl ⟨by rfl, ?_⟩) ?_ ?_
  rotate_left
  · intro w'
    go_simp
    with_reducible rfl
  rotate_left
  · simp only [Act.put, List.setIfInBounds_toArray, List.set_cons_zero, List.set_cons_succ, i64_w, i32_w]
    rfl
  refine take_ (i := 26) (N := some 161) (v := ?_) (a' := ?_) #[true, true, true, true, true, true, true, true, true, true, true, true, true, true, true, true, true, true, true, true, true, true, true, true, true, true, true, false, false, false] rfl rfl (by kernel_rfl) (fun c a w h => hp c a _ _ w h) (Or.inl ⟨by rfl, ?_⟩) hHeld ?_ ?_
  rotate_left
  · rintro w' ⟨s0, s1, s2, s3, s4, s5, s6, s7, s8, s9, s10, s11⟩
    go_simp
    with_reducible rfl
  rotate_left
  · simp only [Act.put, List.setIfInBounds_toArray, List.set_cons_zero, List.set_cons_succ, i64_w, i32_w]
    rfl
  refine pure_ (i := 27) (N := some 162) (v := ?_) (a' := ?_) #[true, true, true, true, true, true, true, true, true, true, true, true, true, true, true, true, true, true, true, true, true, true, true, true, true, true, true, true, false, false] rfl rfl (by kernel_rfl) (fun c a w h => hp c a _ _ w h) (Or.inl ⟨by rfl, ?_⟩) ?_ ?_
  rotate_left
  · intro w'
    go_simp
    with_reducible rfl
  rotate_left
  · simp only [Act.put, List.setIfInBounds_toArray, List.set_cons_zero, List.set_cons_succ, i64_w, i32_w]
    rfl
  refine pure_ (i := 28) (N := some 163) (v := ?_) (a' := ?_) #[true, true, true, true, true, true, true, true, true, true, true, true, true, true, true, true, true, true, true, true, true, true, true, true, true, true, true, true, true, false] rfl rfl (by kernel_rfl) (fun c a w h => hp c a _ _ w h) (Or.inl ⟨by rfl, ?_⟩) ?_ ?_
  rotate_left
  · intro w'
    go_simp
    with_reducible rfl
  rotate_left
  · simp only [Act.put, List.setIfInBounds_toArray, List.set_cons_zero, List.set_cons_succ, i64_w, i32_w]
    rfl
  refine pure_ (i := 29) (N := some 164) (v := ?_) (a' := ?_) #[true, true, true, true, true, true, true, true, true, true, true, true, true, true, true, true, true, true, true, true, true, true, true, true, true, true, true, true, true, true] rfl rfl (by kernel_rfl) (fun c a w h => hp c a _ _ w h) (Or.inl ⟨by rfl, ?_⟩) ?_ ?_
  rotate_left
  · intro w'
    go_simp
    with_reducible rfl
  rotate_left
  · simp only [Act.put, List.setIfInBounds_toArray, List.set_cons_zero, List.set_cons_succ, i64_w, i32_w]
    rfl
  refine done_ (by kernel_rfl) ?_
  go_wp2
  exact HQ.out _ _ _ _ _ _ _ _ _ _ _ _ _ _ _ _ _ _ _ _ _ _ _ _ _ _ _ _ _ _ H8
end Go.Proofs.Ytdcbacbilncnnaa.T
end
