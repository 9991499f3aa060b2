/- Part 4 of what the proof of BlockBodies stands on. -/
import Derived.Lib.Hide
import Derived.Deep.RegionHeld3
import Derived.Deep.AppendLies
import Derived.Deep.DrawnRows
import Derived.Test.YtdcbacbilncnnaaBbo3
section
/- A block with the bytes of a revision's document. Written in part by wip/genwith.py. -/
set_option linter.unusedVariables false
set_option linter.unusedSimpArgs false
namespace Go.Proofs.Ytdcbacbilncnnaa.T
open Go.RowKit Go.Proofs.Ytdcbacbilncnnaa.PMk Go.Proofs.YtdcbacbilncnnaaW.PrintWords Go.Proofs.YtdcbacbilncnnaaW.PrintLast
/-- What With's first test leaves: both variables as they were. -/
structure W0 (w wr : World) (a0 : Int) (a1 : ByteArray) (a2 : Int) (sl : Value) : Prop where
  g0 : wr.heap[w.heap.size]? = some (.cells #[.int .u64 a0, .string a1, .int .u64 a2, sl] 25 (0, 0))
  g1 : wr.heap[w.heap.size + 1]? = some (.cells #[.int .u64 0, .string ⟨#[]⟩, .int .u64 0, .slice none 0 0] 25 (0, 0))
  b : Below w.heap.size w wr
theorem W0.drewN {w wr : World} {a0 : Int} {a1 : ByteArray} {a2 : Int} {sl : Value} (h : W0 w wr a0 a1 a2 sl) (n : Nat) : W0 w (wr.drewN n) a0 a1 a2 sl := ⟨blk_drewN h.g0 n, blk_drewN h.g1 n, pw_below_drewN h.b n⟩
theorem W0.drew {w wr : World} {a0 : Int} {a1 : ByteArray} {a2 : Int} {sl : Value} (h : W0 w wr a0 a1 a2 sl) : W0 w wr.drew a0 a1 a2 sl := ⟨h.g0, h.g1, below_drew1 h.b⟩
theorem W0.below {w wr w1 : World} {a0 : Int} {a1 : ByteArray} {a2 : Int} {sl : Value} (h : W0 w wr a0 a1 a2 sl) (hb : Below wr.heap.size wr w1) : W0 w w1 a0 a1 a2 sl := ⟨blk_below h.g0 hb, blk_below h.g1 hb, h.b.trans (hb.mono h.b.size)⟩
/-- Whether With lays the bytes. -/
def wi (l : List S47) (i : Int) (body t : ByteArray) : Bool := decide (0 ≤ i) && decide (i < l.length) && bod (rd_T47 l i).f0 && (rd_T47 l i).f5.toList == t.toList && decide ((body.size : Int) ≤ 1024)
def laid (x : S47) (body : ByteArray) : S47 := ⟨x.f0, x.f1, x.f2, x.f3, x.f4, x.f5, body, x.f7⟩
def dressed (x : S47) (body : ByteArray) : S47 := ⟨x.f0, x.f1, x.f2, x.f3, x.f4, x.f5, body, false⟩
set_option maxRecDepth 100000 in
set_option maxHeartbeats 4000000 in
theorem with_raw (a0 : Int) (a1 : ByteArray) (a2 : Int) (A : Option Addr) (c : Nat) (l : List S47) (i : Int) (body t : ByteArray) (w : World) (hC : Kd.C k47 w A l.length l) (hn : l.length < 1000000)
    (HLF : Hid (∀ w, Calls Try.prog 20 #[.string body] w fun e w' => e = .returned (.string t) ∧ Below w.heap.size w w')) :
    Calls Try.prog 18 #[.agg #[.int .u64 a0, .string a1, .int .u64 a2, .slice A l.length c], .int .i64 i, .string body] w fun e w' => ∃ v, e = .returned (.tuple #[.agg #[.int .u64 a0, .string a1, .int .u64 a2, v], .int .i64 (if wi l i body t = true then 0 else 1)]) ∧
      (if wi l i body t = true then Kd.R k47 47 w' w.heap.size (fun _ => True) v (l.set i.toNat (dressed (rd_T47 l i) body)) else v = .slice A l.length c) ∧ Below w.heap.size w w' := by
  obtain ⟨len, hlen⟩ : ∃ n, l.length = n := ⟨_, rfl⟩
  obtain ⟨b, hb⟩ : ∃ b, wi l i body t = b := ⟨_, rfl⟩
  have HWI := Lib.hid hb
  rw [hb]
  unfold wi at hb
  rw [hlen] at hC hb hn ⊢
  have HC := Lib.hid hC
  have HL := Lib.hid hlen
  clear hC hlen
  go_enter Try.func18, Try.ntmps18
  go_upto_region 1 with fail
  have H0 : Hid (W0 w _ a0 a1 a2 (.slice A len c)) := Lib.hid ⟨blk_alloc (heap_alloc_new w (.cells #[.int .u64 a0, .string a1, .int .u64 a2, .slice A len c] 25 (0, 0))) (.cells #[.int .u64 0, .string ⟨#[]⟩, .int .u64 0, .slice none 0 0] 25 (0, 0)), by simpa using heap_alloc_new (w.alloc (.cells #[.int .u64 a0, .string a1, .int .u64 a2, .slice A len c] 25 (0, 0))) _, ((Below.refl _ _).alloc (Nat.le_refl _) _).alloc (by simp) _⟩
  generalize (World.alloc _ _) = W at H0 ⊢
  go_cut [42] (fun v42 wc => v42 = .bool (!b) ∧ Hid (W0 w wc a0 a1 a2 (.slice A len c)))
  case first =>
    have H := Lib.hid H0.out.drew
    by_cases hi0 : i < 0
    · obtain rfl : b = false := by rw [← hb, decide_eq_false (by omega)]; rfl
      have hd0 : decide (i < 0) = true := decide_eq_true hi0
      refine start_ (n := 35) (S := fun w' => w'.cell? ⟨w.heap.size, 3, none⟩ = some (.slice A len c)) (ds := []) #[false, false, false, false, false, false, false, false, false, false, false, false, false, false, false, false, false, false, false, false, false, false, false, false, false, false, false, false, false, false, false, false, false, false, false] (by kernel_rfl) rfl rfl ((blk_cell H.out.g0 3).trans rfl) (fun hHeld => ?_)
      refine pure_ (i := 0) (N := some 8) (v := ?_) (a' := ?_) #[true, false, false, false, false, false, false, false, false, false, false, false, false, false, false, false, false, false, false, false, false, false, false, false, false, false, false, false, false, false, false, false, false, false, false] rfl rfl (by kernel_rfl) (fun _ _ _ h => h) (Or.inl ⟨by rfl, ?_⟩) ?_ ?_
      rotate_left
      · intro w'
        go_simp
        with_reducible rfl
      rotate_left
      · simp only [Act.put, List.setIfInBounds_toArray, List.set_cons_zero, List.set_cons_succ, i64_w, i32_w]
        rfl
      refine pure_ (i := 1) (N := some 9) (v := ?_) (a' := ?_) #[true, true, false, false, false, false, false, false, false, false, false, false, false, false, false, false, false, false, false, false, false, false, false, false, false, false, false, false, false, false, false, false, false, false, false] rfl rfl (by kernel_rfl) (fun _ _ _ h => h) (Or.inl ⟨by rfl, ?_⟩) ?_ ?_
      rotate_left
      · intro w'
        go_simp
        with_reducible rfl
      rotate_left
      · simp only [Act.put, List.setIfInBounds_toArray, List.set_cons_zero, List.set_cons_succ, i64_w, i32_w]
        rfl
      refine pure_ (i := 2) (N := some 10) (v := ?_) (a' := ?_) #[true, true, true, false, false, false, false, false, false, false, false, false, false, false, false, false, false, false, false, false, false, false, false, false, false, false, false, false, false, false, false, false, false, false, false] rfl rfl (by kernel_rfl) (fun _ _ _ h => h) (Or.inl ⟨by rfl, ?_⟩) ?_ ?_
      rotate_left
      · intro w'
        go_simp
        with_reducible rfl
      rotate_left
      · simp only [Act.put, List.setIfInBounds_toArray, List.set_cons_zero, List.set_cons_succ, i64_w, i32_w]
        rfl
      refine pure_ (i := 3) (N := some 11) (v := undef) (a' := ?_) #[true, true, true, true, false, false, false, false, false, false, false, false, false, false, false, false, false, false, false, false, false, false, false, false, false, false, false, false, false, false, false, false, false, false, false] rfl rfl (by kernel_rfl) (fun _ _ _ h => h) (Or.inr ⟨by rfl, rfl⟩) ?_ ?_
      rotate_left
      · simp only [Act.put, List.setIfInBounds_toArray, List.set_cons_zero, List.set_cons_succ, i64_w, i32_w]
        rfl
      refine pure_ (i := 4) (N := some 12) (v := undef) (a' := ?_) #[true, true, true, true, true, false, false, false, false, false, false, false, false, false, false, false, false, false, false, false, false, false, false, false, false, false, false, false, false, false, false, false, false, false, false] rfl rfl (by kernel_rfl) (fun _ _ _ h => h) (Or.inr ⟨by rfl, rfl⟩) ?_ ?_
      rotate_left
      · simp only [Act.put, List.setIfInBounds_toArray, List.set_cons_zero, List.set_cons_succ, i64_w, i32_w]
        rfl
      refine pure_ (i := 5) (N := some 13) (v := undef) (a' := ?_) #[true, true, true, true, true, true, false, false, false, false, false, false, false, false, false, false, false, false, false, false, false, false, false, false, false, false, false, false, false, false, false, false, false, false, false] rfl rfl (by kernel_rfl) (fun _ _ _ h => h) (Or.inr ⟨by rfl, rfl⟩) ?_ ?_
      rotate_left
      · simp only [Act.put, List.setIfInBounds_toArray, List.set_cons_zero, List.set_cons_succ, i64_w, i32_w]
        rfl
      refine pure_ (i := 6) (N := some 14) (v := undef) (a' := ?_) #[true, true, true, true, true, true, true, false, false, false, false, false, false, false, false, false, false, false, false, false, false, false, false, false, false, false, false, false, false, false, false, false, false, false, false] rfl rfl (by kernel_rfl) (fun _ _ _ h => h) (Or.inr ⟨by rfl, rfl⟩) ?_ ?_
      rotate_left
      · simp only [Act.put, List.setIfInBounds_toArray, List.set_cons_zero, List.set_cons_succ, i64_w, i32_w]
        rfl
      refine pure_ (i := 7) (N := some 15) (v := undef) (a' := ?_) #[true, true, true, true, true, true, true, true, false, false, false, false, false, false, false, false, false, false, false, false, false, false, false, false, false, false, false, false, false, false, false, false, false, false, false] rfl rfl (by kernel_rfl) (fun _ _ _ h => h) (Or.inr ⟨by rfl, rfl⟩) ?_ ?_
      rotate_left
      · simp only [Act.put, List.setIfInBounds_toArray, List.set_cons_zero, List.set_cons_succ, i64_w, i32_w]
        rfl
      refine pure_ (i := 8) (N := some 16) (v := ?_) (a' := ?_) #[true, true, true, true, true, true, true, true, true, false, false, false, false, false, false, false, false, false, false, false, false, false, false, false, false, false, false, false, false, false, false, false, false, false, false] rfl rfl (by kernel_rfl) (fun _ _ _ h => h) (Or.inl ⟨by rfl, ?_⟩) ?_ ?_
      rotate_left
      · intro w'
        go_simp
        with_reducible rfl
      rotate_left
      · simp only [Act.put, List.setIfInBounds_toArray, List.set_cons_zero, List.set_cons_succ, i64_w, i32_w]
        rfl
      refine pure_ (i := 9) (N := some 17) (v := ?_) (a' := ?_) #[true, true, true, true, true, true, true, true, true, true, false, false, false, false, false, false, false, false, false, false, false, false, false, false, false, false, false, false, false, false, false, false, false, false, false] rfl rfl (by kernel_rfl) (fun _ _ _ h => h) (Or.inl ⟨by rfl, ?_⟩) ?_ ?_
      rotate_left
      · intro w'
        go_simp
        with_reducible rfl
      rotate_left
      · simp only [Act.put, List.setIfInBounds_toArray, List.set_cons_zero, List.set_cons_succ, i64_w, i32_w]
        rfl
      refine pure_ (i := 10) (N := some 18) (v := undef) (a' := ?_) #[true, true, true, true, true, true, true, true, true, true, true, false, false, false, false, false, false, false, false, false, false, false, false, false, false, false, false, false, false, false, false, false, false, false, false] rfl rfl (by kernel_rfl) (fun _ _ _ h => h) (Or.inr ⟨by rfl, rfl⟩) ?_ ?_
      rotate_left
      · simp only [Act.put, List.setIfInBounds_toArray, List.set_cons_zero, List.set_cons_succ, i64_w, i32_w]
        rfl
      refine pure_ (i := 11) (N := some 19) (v := undef) (a' := ?_) #[true, true, true, true, true, true, true, true, true, true, true, true, false, false, false, false, false, false, false, false, false, false, false, false, false, false, false, false, false, false, false, false, false, false, false] rfl rfl (by kernel_rfl) (fun _ _ _ h => h) (Or.inr ⟨by rfl, rfl⟩) ?_ ?_
      rotate_left
      · simp only [Act.put, List.setIfInBounds_toArray, List.set_cons_zero, List.set_cons_succ, i64_w, i32_w]
        rfl
      refine pure_ (i := 12) (N := some 20) (v := undef) (a' := ?_) #[true, true, true, true, true, true, true, true, true, true, true, true, true, false, false, false, false, false, false, false, false, false, false, false, false, false, false, false, false, false, false, false, false, false, false] rfl rfl (by kernel_rfl) (fun _ _ _ h => h) (Or.inr ⟨by rfl, rfl⟩) ?_ ?_
      rotate_left
      · simp only [Act.put, List.setIfInBounds_toArray, List.set_cons_zero, List.set_cons_succ, i64_w, i32_w]
        rfl
      refine pure_ (i := 13) (N := some 21) (v := undef) (a' := ?_) #[true, true, true, true, true, true, true, true, true, true, true, true, true, true, false, false, false, false, false, false, false, false, false, false, false, false, false, false, false, false, false, false, false, false, false] rfl rfl (by kernel_rfl) (fun _ _ _ h => h) (Or.inr ⟨by rfl, rfl⟩) ?_ ?_
      rotate_left
      · simp only [Act.put, List.setIfInBounds_toArray, List.set_cons_zero, List.set_cons_succ, i64_w, i32_w]
        rfl
      refine pure_ (i := 14) (N := some 22) (v := undef) (a' := ?_) #[true, true, true, true, true, true, true, true, true, true, true, true, true, true, true, false, false, false, false, false, false, false, false, false, false, false, false, false, false, false, false, false, false, false, false] rfl rfl (by kernel_rfl) (fun _ _ _ h => h) (Or.inr ⟨by rfl, rfl⟩) ?_ ?_
      rotate_left
      · simp only [Act.put, List.setIfInBounds_toArray, List.set_cons_zero, List.set_cons_succ, i64_w, i32_w]
        rfl
      refine pure_ (i := 15) (N := some 23) (v := undef) (a' := ?_) #[true, true, true, true, true, true, true, true, true, true, true, true, true, true, true, true, false, false, false, false, false, false, false, false, false, false, false, false, false, false, false, false, false, false, false] rfl rfl (by kernel_rfl) (fun _ _ _ h => h) (Or.inr ⟨by rfl, rfl⟩) ?_ ?_
      rotate_left
      · simp only [Act.put, List.setIfInBounds_toArray, List.set_cons_zero, List.set_cons_succ, i64_w, i32_w]
        rfl
      refine pure_ (i := 16) (N := some 24) (v := undef) (a' := ?_) #[true, true, true, true, true, true, true, true, true, true, true, true, true, true, true, true, true, false, false, false, false, false, false, false, false, false, false, false, false, false, false, false, false, false, false] rfl rfl (by kernel_rfl) (fun _ _ _ h => h) (Or.inr ⟨by rfl, rfl⟩) ?_ ?_
      rotate_left
      · simp only [Act.put, List.setIfInBounds_toArray, List.set_cons_zero, List.set_cons_succ, i64_w, i32_w]
        rfl
      refine pure_ (i := 17) (N := some 25) (v := undef) (a' := ?_) #[true, true, true, true, true, true, true, true, true, true, true, true, true, true, true, true, true, true, false, false, false, false, false, false, false, false, false, false, false, false, false, false, false, false, false] rfl rfl (by kernel_rfl) (fun _ _ _ h => h) (Or.inr ⟨by rfl, rfl⟩) ?_ ?_
      rotate_left
      · simp only [Act.put, List.setIfInBounds_toArray, List.set_cons_zero, List.set_cons_succ, i64_w, i32_w]
        rfl
      refine pure_ (i := 18) (N := some 26) (v := ?_) (a' := ?_) #[true, true, true, true, true, true, true, true, true, true, true, true, true, true, true, true, true, true, true, false, false, false, false, false, false, false, false, false, false, false, false, false, false, false, false] rfl rfl (by kernel_rfl) (fun _ _ _ h => h) (Or.inl ⟨by rfl, ?_⟩) ?_ ?_
      rotate_left
      · intro w'
        go_simp
        with_reducible rfl
      rotate_left
      · simp only [Act.put, List.setIfInBounds_toArray, List.set_cons_zero, List.set_cons_succ, i64_w, i32_w]
        rfl
      refine pure_ (i := 19) (N := some 27) (v := ?_) (a' := ?_) #[true, true, true, true, true, true, true, true, true, true, true, true, true, true, true, true, true, true, true, true, false, false, false, false, false, false, false, false, false, false, false, false, false, false, false] rfl rfl (by kernel_rfl) (fun _ _ _ h => h) (Or.inl ⟨by rfl, ?_⟩) ?_ ?_
      rotate_left
      · intro w'
        go_simp
        with_reducible rfl
      rotate_left
      · simp only [Act.put, List.setIfInBounds_toArray, List.set_cons_zero, List.set_cons_succ, i64_w, i32_w]
        rfl
      refine pure_ (i := 20) (N := some 28) (v := undef) (a' := ?_) #[true, true, true, true, true, true, true, true, true, true, true, true, true, true, true, true, true, true, true, true, true, false, false, false, false, false, false, false, false, false, false, false, false, false, false] rfl rfl (by kernel_rfl) (fun _ _ _ h => h) (Or.inr ⟨by rfl, rfl⟩) ?_ ?_
      rotate_left
      · simp only [Act.put, List.setIfInBounds_toArray, List.set_cons_zero, List.set_cons_succ, i64_w, i32_w]
        rfl
      refine pure_ (i := 21) (N := some 29) (v := undef) (a' := ?_) #[true, true, true, true, true, true, true, true, true, true, true, true, true, true, true, true, true, true, true, true, true, true, false, false, false, false, false, false, false, false, false, false, false, false, false] rfl rfl (by kernel_rfl) (fun _ _ _ h => h) (Or.inr ⟨by rfl, rfl⟩) ?_ ?_
      rotate_left
      · simp only [Act.put, List.setIfInBounds_toArray, List.set_cons_zero, List.set_cons_succ, i64_w, i32_w]
        rfl
      refine pure_ (i := 22) (N := some 30) (v := undef) (a' := ?_) #[true, true, true, true, true, true, true, true, true, true, true, true, true, true, true, true, true, true, true, true, true, true, true, false, false, false, false, false, false, false, false, false, false, false, false] rfl rfl (by kernel_rfl) (fun _ _ _ h => h) (Or.inr ⟨by rfl, rfl⟩) ?_ ?_
      rotate_left
      · simp only [Act.put, List.setIfInBounds_toArray, List.set_cons_zero, List.set_cons_succ, i64_w, i32_w]
        rfl
      refine pure_ (i := 23) (N := some 31) (v := undef) (a' := ?_) #[true, true, true, true, true, true, true, true, true, true, true, true, true, true, true, true, true, true, true, true, true, true, true, true, false, false, false, false, false, false, false, false, false, false, false] rfl rfl (by kernel_rfl) (fun _ _ _ h => h) (Or.inr ⟨by rfl, rfl⟩) ?_ ?_
      rotate_left
      · simp only [Act.put, List.setIfInBounds_toArray, List.set_cons_zero, List.set_cons_succ, i64_w, i32_w]
        rfl
      refine pure_ (i := 24) (N := some 32) (v := undef) (a' := ?_) #[true, true, true, true, true, true, true, true, true, true, true, true, true, true, true, true, true, true, true, true, true, true, true, true, true, false, false, false, false, false, false, false, false, false, false] rfl rfl (by kernel_rfl) (fun _ _ _ h => h) (Or.inr ⟨by rfl, rfl⟩) ?_ ?_
      rotate_left
      · simp only [Act.put, List.setIfInBounds_toArray, List.set_cons_zero, List.set_cons_succ, i64_w, i32_w]
        rfl
      refine pure_ (i := 25) (N := some 33) (v := undef) (a' := ?_) #[true, true, true, true, true, true, true, true, true, true, true, true, true, true, true, true, true, true, true, true, true, true, true, true, true, true, false, false, false, false, false, false, false, false, false] rfl rfl (by kernel_rfl) (fun _ _ _ h => h) (Or.inr ⟨by rfl, rfl⟩) ?_ ?_
      rotate_left
      · simp only [Act.put, List.setIfInBounds_toArray, List.set_cons_zero, List.set_cons_succ, i64_w, i32_w]
        rfl
      refine pure_ (i := 26) (N := some 34) (v := undef) (a' := ?_) #[true, true, true, true, true, true, true, true, true, true, true, true, true, true, true, true, true, true, true, true, true, true, true, true, true, true, true, false, false, false, false, false, false, false, false] rfl rfl (by kernel_rfl) (fun _ _ _ h => h) (Or.inr ⟨by rfl, rfl⟩) ?_ ?_
      rotate_left
      · simp only [Act.put, List.setIfInBounds_toArray, List.set_cons_zero, List.set_cons_succ, i64_w, i32_w]
        rfl
      refine pure_ (i := 27) (N := some 35) (v := undef) (a' := ?_) #[true, true, true, true, true, true, true, true, true, true, true, true, true, true, true, true, true, true, true, true, true, true, true, true, true, true, true, true, false, false, false, false, false, false, false] rfl rfl (by kernel_rfl) (fun _ _ _ h => h) (Or.inr ⟨by rfl, rfl⟩) ?_ ?_
      rotate_left
      · simp only [Act.put, List.setIfInBounds_toArray, List.set_cons_zero, List.set_cons_succ, i64_w, i32_w]
        rfl
      refine pure_ (i := 28) (N := some 36) (v := undef) (a' := ?_) #[true, true, true, true, true, true, true, true, true, true, true, true, true, true, true, true, true, true, true, true, true, true, true, true, true, true, true, true, true, false, false, false, false, false, false] rfl rfl (by kernel_rfl) (fun _ _ _ h => h) (Or.inr ⟨by rfl, rfl⟩) ?_ ?_
      rotate_left
      · simp only [Act.put, List.setIfInBounds_toArray, List.set_cons_zero, List.set_cons_succ, i64_w, i32_w]
        rfl
      refine pure_ (i := 29) (N := some 37) (v := ?_) (a' := ?_) #[true, true, true, true, true, true, true, true, true, true, true, true, true, true, true, true, true, true, true, true, true, true, true, true, true, true, true, true, true, true, false, false, false, false, false] rfl rfl (by kernel_rfl) (fun _ _ _ h => h) (Or.inl ⟨by rfl, ?_⟩) ?_ ?_
      rotate_left
      · intro w'
        go_simp
        with_reducible rfl
      rotate_left
      · simp only [Act.put, List.setIfInBounds_toArray, List.set_cons_zero, List.set_cons_succ, i64_w, i32_w]
        rfl
      refine pure_ (i := 30) (N := some 38) (v := ?_) (a' := ?_) #[true, true, true, true, true, true, true, true, true, true, true, true, true, true, true, true, true, true, true, true, true, true, true, true, true, true, true, true, true, true, true, false, false, false, false] rfl rfl (by kernel_rfl) (fun _ _ _ h => h) (Or.inl ⟨by rfl, ?_⟩) ?_ ?_
      rotate_left
      · intro w'
        go_simp
        with_reducible rfl
      rotate_left
      · simp only [Act.put, List.setIfInBounds_toArray, List.set_cons_zero, List.set_cons_succ, i64_w, i32_w]
        rfl
      refine pure_ (i := 31) (N := some 39) (v := undef) (a' := ?_) #[true, true, true, true, true, true, true, true, true, true, true, true, true, true, true, true, true, true, true, true, true, true, true, true, true, true, true, true, true, true, true, true, false, false, false] rfl rfl (by kernel_rfl) (fun _ _ _ h => h) (Or.inr ⟨by rfl, rfl⟩) ?_ ?_
      rotate_left
      · simp only [Act.put, List.setIfInBounds_toArray, List.set_cons_zero, List.set_cons_succ, i64_w, i32_w]
        rfl
      refine pure_ (i := 32) (N := some 40) (v := undef) (a' := ?_) #[true, true, true, true, true, true, true, true, true, true, true, true, true, true, true, true, true, true, true, true, true, true, true, true, true, true, true, true, true, true, true, true, true, false, false] rfl rfl (by kernel_rfl) (fun _ _ _ h => h) (Or.inr ⟨by rfl, rfl⟩) ?_ ?_
      rotate_left
      · simp only [Act.put, List.setIfInBounds_toArray, List.set_cons_zero, List.set_cons_succ, i64_w, i32_w]
        rfl
      refine pure_ (i := 33) (N := some 41) (v := undef) (a' := ?_) #[true, true, true, true, true, true, true, true, true, true, true, true, true, true, true, true, true, true, true, true, true, true, true, true, true, true, true, true, true, true, true, true, true, true, false] rfl rfl (by kernel_rfl) (fun _ _ _ h => h) (Or.inr ⟨by rfl, rfl⟩) ?_ ?_
      rotate_left
      · simp only [Act.put, List.setIfInBounds_toArray, List.set_cons_zero, List.set_cons_succ, i64_w, i32_w]
        rfl
      refine pure_ (i := 34) (N := some 42) (v := ?_) (a' := ?_) #[true, true, true, true, true, true, true, true, true, true, true, true, true, true, true, true, true, true, true, true, true, true, true, true, true, true, true, true, true, true, true, true, true, true, true] rfl rfl (by kernel_rfl) (fun _ _ _ h => h) (Or.inl ⟨by rfl, ?_⟩) ?_ ?_
      rotate_left
      · intro w'
        go_simp
        with_reducible rfl
      rotate_left
      · simp only [Act.put, List.setIfInBounds_toArray, List.set_cons_zero, List.set_cons_succ, i64_w, i32_w]
        rfl
      refine done_ (by kernel_rfl) ?_
      go_wp2
      go_meet
      case rel => exact ⟨rfl, H⟩
    by_cases hi1 : (len : Int) ≤ i
    · obtain rfl : b = false := by rw [← hb, decide_eq_false (p := i < (len : Int)) (by omega)]; simp
      have hd1 : decide ((len : Int) ≤ i) = true := decide_eq_true hi1
      refine start_ (n := 35) (S := fun w' => w'.cell? ⟨w.heap.size, 3, none⟩ = some (.slice A len c)) (ds := []) #[false, false, false, false, false, false, false, false, false, false, false, false, false, false, false, false, false, false, false, false, false, false, false, false, false, false, false, false, false, false, false, false, false, false, false] (by kernel_rfl) rfl rfl ((blk_cell H.out.g0 3).trans rfl) (fun hHeld => ?_)
      refine pure_ (i := 0) (N := some 8) (v := ?_) (a' := ?_) #[true, false, false, false, false, false, false, false, false, false, false, false, false, false, false, false, false, false, false, false, false, false, false, false, false, false, false, false, false, false, false, false, false, false, false] rfl rfl (by kernel_rfl) (fun _ _ _ h => h) (Or.inl ⟨by rfl, ?_⟩) ?_ ?_
      rotate_left
      · intro w'
        go_simp
        with_reducible rfl
      rotate_left
      · simp only [Act.put, List.setIfInBounds_toArray, List.set_cons_zero, List.set_cons_succ, i64_w, i32_w]
        rfl
      refine pure_ (i := 1) (N := some 9) (v := ?_) (a' := ?_) #[true, true, false, false, false, false, false, false, false, false, false, false, false, false, false, false, false, false, false, false, false, false, false, false, false, false, false, false, false, false, false, false, false, false, false] rfl rfl (by kernel_rfl) (fun _ _ _ h => h) (Or.inl ⟨by rfl, ?_⟩) ?_ ?_
      rotate_left
      · intro w'
        go_simp
        with_reducible rfl
      rotate_left
      · simp only [Act.put, List.setIfInBounds_toArray, List.set_cons_zero, List.set_cons_succ, i64_w, i32_w]
        rfl
      refine pure_ (i := 2) (N := some 10) (v := ?_) (a' := ?_) #[true, true, true, false, false, false, false, false, false, false, false, false, false, false, false, false, false, false, false, false, false, false, false, false, false, false, false, false, false, false, false, false, false, false, false] rfl rfl (by kernel_rfl) (fun _ _ _ h => h) (Or.inl ⟨by rfl, ?_⟩) ?_ ?_
      rotate_left
      · intro w'
        go_simp
        with_reducible rfl
      rotate_left
      · simp only [Act.put, List.setIfInBounds_toArray, List.set_cons_zero, List.set_cons_succ, i64_w, i32_w]
        rfl
      refine pure_ (i := 3) (N := some 11) (v := ?_) (a' := ?_) #[true, true, true, true, false, false, false, false, false, false, false, false, false, false, false, false, false, false, false, false, false, false, false, false, false, false, false, false, false, false, false, false, false, false, false] rfl rfl (by kernel_rfl) (fun _ _ _ h => h) (Or.inl ⟨by rfl, ?_⟩) ?_ ?_
      rotate_left
      · intro w'
        go_simp
        with_reducible rfl
      rotate_left
      · simp only [Act.put, List.setIfInBounds_toArray, List.set_cons_zero, List.set_cons_succ, i64_w, i32_w]
        rfl
      refine pure_ (i := 4) (N := some 12) (v := ?_) (a' := ?_) #[true, true, true, true, true, false, false, false, false, false, false, false, false, false, false, false, false, false, false, false, false, false, false, false, false, false, false, false, false, false, false, false, false, false, false] rfl rfl (by kernel_rfl) (fun _ _ _ h => h) (Or.inl ⟨by rfl, ?_⟩) ?_ ?_
      rotate_left
      · intro w'
        go_simp
        with_reducible rfl
      rotate_left
      · simp only [Act.put, List.setIfInBounds_toArray, List.set_cons_zero, List.set_cons_succ, i64_w, i32_w]
        rfl
      refine take_ (i := 5) (N := some 13) (v := ?_) (a' := ?_) #[true, true, true, true, true, true, false, false, false, false, false, false, false, false, false, false, false, false, false, false, false, false, false, false, false, false, false, false, false, false, false, false, false, false, false] rfl rfl (by kernel_rfl) (fun _ _ _ h => h) (Or.inl ⟨by rfl, ?_⟩) hHeld ?_ ?_
      rotate_left
      · intro w' s0
        go_simp
        with_reducible rfl
      rotate_left
      · simp only [Act.put, List.setIfInBounds_toArray, List.set_cons_zero, List.set_cons_succ, i64_w, i32_w]
        rfl
      refine pure_ (i := 6) (N := some 14) (v := ?_) (a' := ?_) #[true, true, true, true, true, true, true, false, false, false, false, false, false, false, false, false, false, false, false, false, false, false, false, false, false, false, false, false, false, false, false, false, false, false, false] rfl rfl (by kernel_rfl) (fun _ _ _ h => h) (Or.inl ⟨by rfl, ?_⟩) ?_ ?_
      rotate_left
      · intro w'
        go_simp
        with_reducible rfl
      rotate_left
      · simp only [Act.put, List.setIfInBounds_toArray, List.set_cons_zero, List.set_cons_succ, i64_w, i32_w]
        rfl
      refine pure_ (i := 7) (N := some 15) (v := ?_) (a' := ?_) #[true, true, true, true, true, true, true, true, false, false, false, false, false, false, false, false, false, false, false, false, false, false, false, false, false, false, false, false, false, false, false, false, false, false, false] rfl rfl (by kernel_rfl) (fun _ _ _ h => h) (Or.inl ⟨by rfl, ?_⟩) ?_ ?_
      rotate_left
      · intro w'
        go_simp
        with_reducible rfl
      rotate_left
      · simp only [Act.put, List.setIfInBounds_toArray, List.set_cons_zero, List.set_cons_succ, i64_w, i32_w]
        rfl
      refine pure_ (i := 8) (N := some 16) (v := ?_) (a' := ?_) #[true, true, true, true, true, true, true, true, true, false, false, false, false, false, false, false, false, false, false, false, false, false, false, false, false, false, false, false, false, false, false, false, false, false, false] rfl rfl (by kernel_rfl) (fun _ _ _ h => h) (Or.inl ⟨by rfl, ?_⟩) ?_ ?_
      rotate_left
      · intro w'
        go_simp
        with_reducible rfl
      rotate_left
      · simp only [Act.put, List.setIfInBounds_toArray, List.set_cons_zero, List.set_cons_succ, i64_w, i32_w]
        rfl
      refine pure_ (i := 9) (N := some 17) (v := ?_) (a' := ?_) #[true, true, true, true, true, true, true, true, true, true, false, false, false, false, false, false, false, false, false, false, false, false, false, false, false, false, false, false, false, false, false, false, false, false, false] rfl rfl (by kernel_rfl) (fun _ _ _ h => h) (Or.inl ⟨by rfl, ?_⟩) ?_ ?_
      rotate_left
      · intro w'
        go_simp
        with_reducible rfl
      rotate_left
      · simp only [Act.put, List.setIfInBounds_toArray, List.set_cons_zero, List.set_cons_succ, i64_w, i32_w]
        rfl
      refine pure_ (i := 10) (N := some 18) (v := undef) (a' := ?_) #[true, true, true, true, true, true, true, true, true, true, true, false, false, false, false, false, false, false, false, false, false, false, false, false, false, false, false, false, false, false, false, false, false, false, false] rfl rfl (by kernel_rfl) (fun _ _ _ h => h) (Or.inr ⟨by rfl, rfl⟩) ?_ ?_
      rotate_left
      · simp only [Act.put, List.setIfInBounds_toArray, List.set_cons_zero, List.set_cons_succ, i64_w, i32_w]
        rfl
      refine pure_ (i := 11) (N := some 19) (v := undef) (a' := ?_) #[true, true, true, true, true, true, true, true, true, true, true, true, false, false, false, false, false, false, false, false, false, false, false, false, false, false, false, false, false, false, false, false, false, false, false] rfl rfl (by kernel_rfl) (fun _ _ _ h => h) (Or.inr ⟨by rfl, rfl⟩) ?_ ?_
      rotate_left
      · simp only [Act.put, List.setIfInBounds_toArray, List.set_cons_zero, List.set_cons_succ, i64_w, i32_w]
        rfl
      refine pure_ (i := 12) (N := some 20) (v := undef) (a' := ?_) #[true, true, true, true, true, true, true, true, true, true, true, true, true, false, false, false, false, false, false, false, false, false, false, false, false, false, false, false, false, false, false, false, false, false, false] rfl rfl (by kernel_rfl) (fun _ _ _ h => h) (Or.inr ⟨by rfl, rfl⟩) ?_ ?_
      rotate_left
      · simp only [Act.put, List.setIfInBounds_toArray, List.set_cons_zero, List.set_cons_succ, i64_w, i32_w]
        rfl
      refine pure_ (i := 13) (N := some 21) (v := undef) (a' := ?_) #[true, true, true, true, true, true, true, true, true, true, true, true, true, true, false, false, false, false, false, false, false, false, false, false, false, false, false, false, false, false, false, false, false, false, false] rfl rfl (by kernel_rfl) (fun _ _ _ h => h) (Or.inr ⟨by rfl, rfl⟩) ?_ ?_
      rotate_left
      · simp only [Act.put, List.setIfInBounds_toArray, List.set_cons_zero, List.set_cons_succ, i64_w, i32_w]
        rfl
      refine pure_ (i := 14) (N := some 22) (v := undef) (a' := ?_) #[true, true, true, true, true, true, true, true, true, true, true, true, true, true, true, false, false, false, false, false, false, false, false, false, false, false, false, false, false, false, false, false, false, false, false] rfl rfl (by kernel_rfl) (fun _ _ _ h => h) (Or.inr ⟨by rfl, rfl⟩) ?_ ?_
      rotate_left
      · simp only [Act.put, List.setIfInBounds_toArray, List.set_cons_zero, List.set_cons_succ, i64_w, i32_w]
        rfl
      refine pure_ (i := 15) (N := some 23) (v := undef) (a' := ?_) #[true, true, true, true, true, true, true, true, true, true, true, true, true, true, true, true, false, false, false, false, false, false, false, false, false, false, false, false, false, false, false, false, false, false, false] rfl rfl (by kernel_rfl) (fun _ _ _ h => h) (Or.inr ⟨by rfl, rfl⟩) ?_ ?_
      rotate_left
      · simp only [Act.put, List.setIfInBounds_toArray, List.set_cons_zero, List.set_cons_succ, i64_w, i32_w]
        rfl
      refine pure_ (i := 16) (N := some 24) (v := undef) (a' := ?_) #[true, true, true, true, true, true, true, true, true, true, true, true, true, true, true, true, true, false, false, false, false, false, false, false, false, false, false, false, false, false, false, false, false, false, false] rfl rfl (by kernel_rfl) (fun _ _ _ h => h) (Or.inr ⟨by rfl, rfl⟩) ?_ ?_
      rotate_left
      · simp only [Act.put, List.setIfInBounds_toArray, List.set_cons_zero, List.set_cons_succ, i64_w, i32_w]
        rfl
      refine pure_ (i := 17) (N := some 25) (v := undef) (a' := ?_) #[true, true, true, true, true, true, true, true, true, true, true, true, true, true, true, true, true, true, false, false, false, false, false, false, false, false, false, false, false, false, false, false, false, false, false] rfl rfl (by kernel_rfl) (fun _ _ _ h => h) (Or.inr ⟨by rfl, rfl⟩) ?_ ?_
      rotate_left
      · simp only [Act.put, List.setIfInBounds_toArray, List.set_cons_zero, List.set_cons_succ, i64_w, i32_w]
        rfl
      refine pure_ (i := 18) (N := some 26) (v := ?_) (a' := ?_) #[true, true, true, true, true, true, true, true, true, true, true, true, true, true, true, true, true, true, true, false, false, false, false, false, false, false, false, false, false, false, false, false, false, false, false] rfl rfl (by kernel_rfl) (fun _ _ _ h => h) (Or.inl ⟨by rfl, ?_⟩) ?_ ?_
      rotate_left
      · intro w'
        go_simp
        with_reducible rfl
      rotate_left
      · simp only [Act.put, List.setIfInBounds_toArray, List.set_cons_zero, List.set_cons_succ, i64_w, i32_w]
        rfl
      refine pure_ (i := 19) (N := some 27) (v := ?_) (a' := ?_) #[true, true, true, true, true, true, true, true, true, true, true, true, true, true, true, true, true, true, true, true, false, false, false, false, false, false, false, false, false, false, false, false, false, false, false] rfl rfl (by kernel_rfl) (fun _ _ _ h => h) (Or.inl ⟨by rfl, ?_⟩) ?_ ?_
      rotate_left
      · intro w'
        go_simp
        with_reducible rfl
      rotate_left
      · simp only [Act.put, List.setIfInBounds_toArray, List.set_cons_zero, List.set_cons_succ, i64_w, i32_w]
        rfl
      refine pure_ (i := 20) (N := some 28) (v := undef) (a' := ?_) #[true, true, true, true, true, true, true, true, true, true, true, true, true, true, true, true, true, true, true, true, true, false, false, false, false, false, false, false, false, false, false, false, false, false, false] rfl rfl (by kernel_rfl) (fun _ _ _ h => h) (Or.inr ⟨by rfl, rfl⟩) ?_ ?_
      rotate_left
      · simp only [Act.put, List.setIfInBounds_toArray, List.set_cons_zero, List.set_cons_succ, i64_w, i32_w]
        rfl
      refine pure_ (i := 21) (N := some 29) (v := undef) (a' := ?_) #[true, true, true, true, true, true, true, true, true, true, true, true, true, true, true, true, true, true, true, true, true, true, false, false, false, false, false, false, false, false, false, false, false, false, false] rfl rfl (by kernel_rfl) (fun _ _ _ h => h) (Or.inr ⟨by rfl, rfl⟩) ?_ ?_
      rotate_left
      · simp only [Act.put, List.setIfInBounds_toArray, List.set_cons_zero, List.set_cons_succ, i64_w, i32_w]
        rfl
      refine pure_ (i := 22) (N := some 30) (v := undef) (a' := ?_) #[true, true, true, true, true, true, true, true, true, true, true, true, true, true, true, true, true, true, true, true, true, true, true, false, false, false, false, false, false, false, false, false, false, false, false] rfl rfl (by kernel_rfl) (fun _ _ _ h => h) (Or.inr ⟨by rfl, rfl⟩) ?_ ?_
      rotate_left
      · simp only [Act.put, List.setIfInBounds_toArray, List.set_cons_zero, List.set_cons_succ, i64_w, i32_w]
        rfl
      refine pure_ (i := 23) (N := some 31) (v := undef) (a' := ?_) #[true, true, true, true, true, true, true, true, true, true, true, true, true, true, true, true, true, true, true, true, true, true, true, true, false, false, false, false, false, false, false, false, false, false, false] rfl rfl (by kernel_rfl) (fun _ _ _ h => h) (Or.inr ⟨by rfl, rfl⟩) ?_ ?_
      rotate_left
      · simp only [Act.put, List.setIfInBounds_toArray, List.set_cons_zero, List.set_cons_succ, i64_w, i32_w]
        rfl
      refine pure_ (i := 24) (N := some 32) (v := undef) (a' := ?_) #[true, true, true, true, true, true, true, true, true, true, true, true, true, true, true, true, true, true, true, true, true, true, true, true, true, false, false, false, false, false, false, false, false, false, false] rfl rfl (by kernel_rfl) (fun _ _ _ h => h) (Or.inr ⟨by rfl, rfl⟩) ?_ ?_
      rotate_left
      · simp only [Act.put, List.setIfInBounds_toArray, List.set_cons_zero, List.set_cons_succ, i64_w, i32_w]
        rfl
      refine pure_ (i := 25) (N := some 33) (v := undef) (a' := ?_) #[true, true, true, true, true, true, true, true, true, true, true, true, true, true, true, true, true, true, true, true, true, true, true, true, true, true, false, false, false, false, false, false, false, false, false] rfl rfl (by kernel_rfl) (fun _ _ _ h => h) (Or.inr ⟨by rfl, rfl⟩) ?_ ?_
      rotate_left
      · simp only [Act.put, List.setIfInBounds_toArray, List.set_cons_zero, List.set_cons_succ, i64_w, i32_w]
        rfl
      refine pure_ (i := 26) (N := some 34) (v := undef) (a' := ?_) #[true, true, true, true, true, true, true, true, true, true, true, true, true, true, true, true, true, true, true, true, true, true, true, true, true, true, true, false, false, false, false, false, false, false, false] rfl rfl (by kernel_rfl) (fun _ _ _ h => h) (Or.inr ⟨by rfl, rfl⟩) ?_ ?_
      rotate_left
      · simp only [Act.put, List.setIfInBounds_toArray, List.set_cons_zero, List.set_cons_succ, i64_w, i32_w]
        rfl
      refine pure_ (i := 27) (N := some 35) (v := undef) (a' := ?_) #[true, true, true, true, true, true, true, true, true, true, true, true, true, true, true, true, true, true, true, true, true, true, true, true, true, true, true, true, false, false, false, false, false, false, false] rfl rfl (by kernel_rfl) (fun _ _ _ h => h) (Or.inr ⟨by rfl, rfl⟩) ?_ ?_
      rotate_left
      · simp only [Act.put, List.setIfInBounds_toArray, List.set_cons_zero, List.set_cons_succ, i64_w, i32_w]
        rfl
      refine pure_ (i := 28) (N := some 36) (v := undef) (a' := ?_) #[true, true, true, true, true, true, true, true, true, true, true, true, true, true, true, true, true, true, true, true, true, true, true, true, true, true, true, true, true, false, false, false, false, false, false] rfl rfl (by kernel_rfl) (fun _ _ _ h => h) (Or.inr ⟨by rfl, rfl⟩) ?_ ?_
      rotate_left
      · simp only [Act.put, List.setIfInBounds_toArray, List.set_cons_zero, List.set_cons_succ, i64_w, i32_w]
        rfl
      refine pure_ (i := 29) (N := some 37) (v := ?_) (a' := ?_) #[true, true, true, true, true, true, true, true, true, true, true, true, true, true, true, true, true, true, true, true, true, true, true, true, true, true, true, true, true, true, false, false, false, false, false] rfl rfl (by kernel_rfl) (fun _ _ _ h => h) (Or.inl ⟨by rfl, ?_⟩) ?_ ?_
      rotate_left
      · intro w'
        go_simp
        with_reducible rfl
      rotate_left
      · simp only [Act.put, List.setIfInBounds_toArray, List.set_cons_zero, List.set_cons_succ, i64_w, i32_w]
        rfl
      refine pure_ (i := 30) (N := some 38) (v := ?_) (a' := ?_) #[true, true, true, true, true, true, true, true, true, true, true, true, true, true, true, true, true, true, true, true, true, true, true, true, true, true, true, true, true, true, true, false, false, false, false] rfl rfl (by kernel_rfl) (fun _ _ _ h => h) (Or.inl ⟨by rfl, ?_⟩) ?_ ?_
      rotate_left
      · intro w'
        go_simp
        with_reducible rfl
      rotate_left
      · simp only [Act.put, List.setIfInBounds_toArray, List.set_cons_zero, List.set_cons_succ, i64_w, i32_w]
        rfl
      refine pure_ (i := 31) (N := some 39) (v := undef) (a' := ?_) #[true, true, true, true, true, true, true, true, true, true, true, true, true, true, true, true, true, true, true, true, true, true, true, true, true, true, true, true, true, true, true, true, false, false, false] rfl rfl (by kernel_rfl) (fun _ _ _ h => h) (Or.inr ⟨by rfl, rfl⟩) ?_ ?_
      rotate_left
      · simp only [Act.put, List.setIfInBounds_toArray, List.set_cons_zero, List.set_cons_succ, i64_w, i32_w]
        rfl
      refine pure_ (i := 32) (N := some 40) (v := undef) (a' := ?_) #[true, true, true, true, true, true, true, true, true, true, true, true, true, true, true, true, true, true, true, true, true, true, true, true, true, true, true, true, true, true, true, true, true, false, false] rfl rfl (by kernel_rfl) (fun _ _ _ h => h) (Or.inr ⟨by rfl, rfl⟩) ?_ ?_
      rotate_left
      · simp only [Act.put, List.setIfInBounds_toArray, List.set_cons_zero, List.set_cons_succ, i64_w, i32_w]
        rfl
      refine pure_ (i := 33) (N := some 41) (v := undef) (a' := ?_) #[true, true, true, true, true, true, true, true, true, true, true, true, true, true, true, true, true, true, true, true, true, true, true, true, true, true, true, true, true, true, true, true, true, true, false] rfl rfl (by kernel_rfl) (fun _ _ _ h => h) (Or.inr ⟨by rfl, rfl⟩) ?_ ?_
      rotate_left
      · simp only [Act.put, List.setIfInBounds_toArray, List.set_cons_zero, List.set_cons_succ, i64_w, i32_w]
        rfl
      refine pure_ (i := 34) (N := some 42) (v := ?_) (a' := ?_) #[true, true, true, true, true, true, true, true, true, true, true, true, true, true, true, true, true, true, true, true, true, true, true, true, true, true, true, true, true, true, true, true, true, true, true] rfl rfl (by kernel_rfl) (fun _ _ _ h => h) (Or.inl ⟨by rfl, ?_⟩) ?_ ?_
      rotate_left
      · intro w'
        go_simp
        with_reducible rfl
      rotate_left
      · simp only [Act.put, List.setIfInBounds_toArray, List.set_cons_zero, List.set_cons_succ, i64_w, i32_w]
        rfl
      refine done_ (by kernel_rfl) ?_
      go_wp2
      go_meet
      case rel => exact ⟨rfl, H⟩
    have h0 : 0 ≤ i := by omega
    have h1 : i < (len : Int) := by omega
    obtain ⟨ad, hA, hx0, hx1, hx2, hx3, hx4, hx5, hx6, hx7⟩ := at_T47 HC.out i h0 h1
    subst hA
    clear hx1 hx2 hx3 hx4 hx6 hx7
    rw [decide_eq_true h0, decide_eq_true h1, Bool.true_and, Bool.true_and] at hb
    generalize rd_T47 l i = x at hx0 hx5 hb
    replace hx0 := (H.out.b.cell (World.block_lt_of_cell? w _ hx0)).trans hx0
    replace hx5 := (H.out.b.cell (World.block_lt_of_cell? w _ hx5)).trans hx5
    have hd0 : decide (i < 0) = false := decide_eq_false hi0
    have hd1 : decide ((len : Int) ≤ i) = false := decide_eq_false hi1
    have HBC := Lib.hid (fun w' => bod_calls x.f0 w')
    cases hbx : bod x.f0 with
    | false =>
      rw [hbx] at HBC hb
      obtain rfl : b = false := by rw [← hb]; rfl
      clear hbx hb
      refine start_ (n := 35) (S := fun w' => w'.cell? ⟨w.heap.size, 3, none⟩ = some (.slice (some ad) len c) ∧ w'.cell? (ad.add (i.toNat * 8)) = some (.int .i64 x.f0) ∧ w'.cell? ⟨(ad.add (i.toNat * 8)).block, (ad.add (i.toNat * 8)).off + 5, none⟩ = some (.string x.f5)) (ds := []) #[false, false, false, false, false, false, false, false, false, false, false, false, false, false, false, false, false, false, false, false, false, false, false, false, false, false, false, false, false, false, false, false, false, false, false] (by kernel_rfl) rfl rfl ⟨(blk_cell H.out.g0 3).trans rfl, hx0, hx5⟩ (fun hHeld => ?_)
      refine pure_ (i := 0) (N := some 8) (v := ?_) (a' := ?_) #[true, false, false, false, false, false, false, false, false, false, false, false, false, false, false, false, false, false, false, false, false, false, false, false, false, false, false, false, false, false, false, false, false, false, false] rfl rfl (by kernel_rfl) (fun _ _ _ h => h) (Or.inl ⟨by rfl, ?_⟩) ?_ ?_
      rotate_left
      · intro w'
        go_simp
        with_reducible rfl
      rotate_left
      · simp only [Act.put, List.setIfInBounds_toArray, List.set_cons_zero, List.set_cons_succ, i64_w, i32_w]
        rfl
      refine pure_ (i := 1) (N := some 9) (v := ?_) (a' := ?_) #[true, true, false, false, false, false, false, false, false, false, false, false, false, false, false, false, false, false, false, false, false, false, false, false, false, false, false, false, false, false, false, false, false, false, false] rfl rfl (by kernel_rfl) (fun _ _ _ h => h) (Or.inl ⟨by rfl, ?_⟩) ?_ ?_
      rotate_left
      · intro w'
        go_simp
        with_reducible rfl
      rotate_left
      · simp only [Act.put, List.setIfInBounds_toArray, List.set_cons_zero, List.set_cons_succ, i64_w, i32_w]
        rfl
      refine pure_ (i := 2) (N := some 10) (v := ?_) (a' := ?_) #[true, true, true, false, false, false, false, false, false, false, false, false, false, false, false, false, false, false, false, false, false, false, false, false, false, false, false, false, false, false, false, false, false, false, false] rfl rfl (by kernel_rfl) (fun _ _ _ h => h) (Or.inl ⟨by rfl, ?_⟩) ?_ ?_
      rotate_left
      · intro w'
        go_simp
        with_reducible rfl
      rotate_left
      · simp only [Act.put, List.setIfInBounds_toArray, List.set_cons_zero, List.set_cons_succ, i64_w, i32_w]
        rfl
      refine pure_ (i := 3) (N := some 11) (v := ?_) (a' := ?_) #[true, true, true, true, false, false, false, false, false, false, false, false, false, false, false, false, false, false, false, false, false, false, false, false, false, false, false, false, false, false, false, false, false, false, false] rfl rfl (by kernel_rfl) (fun _ _ _ h => h) (Or.inl ⟨by rfl, ?_⟩) ?_ ?_
      rotate_left
      · intro w'
        go_simp
        with_reducible rfl
      rotate_left
      · simp only [Act.put, List.setIfInBounds_toArray, List.set_cons_zero, List.set_cons_succ, i64_w, i32_w]
        rfl
      refine pure_ (i := 4) (N := some 12) (v := ?_) (a' := ?_) #[true, true, true, true, true, false, false, false, false, false, false, false, false, false, false, false, false, false, false, false, false, false, false, false, false, false, false, false, false, false, false, false, false, false, false] rfl rfl (by kernel_rfl) (fun _ _ _ h => h) (Or.inl ⟨by rfl, ?_⟩) ?_ ?_
      rotate_left
      · intro w'
        go_simp
        with_reducible rfl
      rotate_left
      · simp only [Act.put, List.setIfInBounds_toArray, List.set_cons_zero, List.set_cons_succ, i64_w, i32_w]
        rfl
      refine take_ (i := 5) (N := some 13) (v := ?_) (a' := ?_) #[true, true, true, true, true, true, false, false, false, false, false, false, false, false, false, false, false, false, false, false, false, false, false, false, false, false, false, false, false, false, false, false, false, false, false] rfl rfl (by kernel_rfl) (fun _ _ _ h => h) (Or.inl ⟨by rfl, ?_⟩) hHeld ?_ ?_
      rotate_left
      · rintro w' ⟨s0, s1, s2⟩
        go_simp
        with_reducible rfl
      rotate_left
      · simp only [Act.put, List.setIfInBounds_toArray, List.set_cons_zero, List.set_cons_succ, i64_w, i32_w]
        rfl
      refine pure_ (i := 6) (N := some 14) (v := ?_) (a' := ?_) #[true, true, true, true, true, true, true, false, false, false, false, false, false, false, false, false, false, false, false, false, false, false, false, false, false, false, false, false, false, false, false, false, false, false, false] rfl rfl (by kernel_rfl) (fun _ _ _ h => h) (Or.inl ⟨by rfl, ?_⟩) ?_ ?_
      rotate_left
      · intro w'
        go_simp
        with_reducible rfl
      rotate_left
      · simp only [Act.put, List.setIfInBounds_toArray, List.set_cons_zero, List.set_cons_succ, i64_w, i32_w]
        rfl
      refine pure_ (i := 7) (N := some 15) (v := ?_) (a' := ?_) #[true, true, true, true, true, true, true, true, false, false, false, false, false, false, false, false, false, false, false, false, false, false, false, false, false, false, false, false, false, false, false, false, false, false, false] rfl rfl (by kernel_rfl) (fun _ _ _ h => h) (Or.inl ⟨by rfl, ?_⟩) ?_ ?_
      rotate_left
      · intro w'
        go_simp
        with_reducible rfl
      rotate_left
      · simp only [Act.put, List.setIfInBounds_toArray, List.set_cons_zero, List.set_cons_succ, i64_w, i32_w]
        rfl
      refine pure_ (i := 8) (N := some 16) (v := ?_) (a' := ?_) #[true, true, true, true, true, true, true, true, true, false, false, false, false, false, false, false, false, false, false, false, false, false, false, false, false, false, false, false, false, false, false, false, false, false, false] rfl rfl (by kernel_rfl) (fun _ _ _ h => h) (Or.inl ⟨by rfl, ?_⟩) ?_ ?_
      rotate_left
      · intro w'
        go_simp
        with_reducible rfl
      rotate_left
      · simp only [Act.put, List.setIfInBounds_toArray, List.set_cons_zero, List.set_cons_succ, i64_w, i32_w]
        rfl
      refine pure_ (i := 9) (N := some 17) (v := ?_) (a' := ?_) #[true, true, true, true, true, true, true, true, true, true, false, false, false, false, false, false, false, false, false, false, false, false, false, false, false, false, false, false, false, false, false, false, false, false, false] rfl rfl (by kernel_rfl) (fun _ _ _ h => h) (Or.inl ⟨by rfl, ?_⟩) ?_ ?_
      rotate_left
      · intro w'
        go_simp
        with_reducible rfl
      rotate_left
      · simp only [Act.put, List.setIfInBounds_toArray, List.set_cons_zero, List.set_cons_succ, i64_w, i32_w]
        rfl
      refine pure_ (i := 10) (N := some 18) (v := ?_) (a' := ?_) #[true, true, true, true, true, true, true, true, true, true, true, false, false, false, false, false, false, false, false, false, false, false, false, false, false, false, false, false, false, false, false, false, false, false, false] rfl rfl (by kernel_rfl) (fun _ _ _ h => h) (Or.inl ⟨by rfl, ?_⟩) ?_ ?_
      rotate_left
      · intro w'
        go_simp
        with_reducible rfl
      rotate_left
      · simp only [Act.put, List.setIfInBounds_toArray, List.set_cons_zero, List.set_cons_succ, i64_w, i32_w]
        rfl
      refine pure_ (i := 12) (N := some 20) (v := ?_) (a' := ?_) #[true, true, true, true, true, true, true, true, true, true, true, false, true, false, false, false, false, false, false, false, false, false, false, false, false, false, false, false, false, false, false, false, false, false, false] rfl rfl (by kernel_rfl) (fun _ _ _ h => h) (Or.inl ⟨by rfl, ?_⟩) ?_ ?_
      rotate_left
      · intro w'
        go_simp
        with_reducible rfl
      rotate_left
      · simp only [Act.put, List.setIfInBounds_toArray, List.set_cons_zero, List.set_cons_succ, i64_w, i32_w]
        rfl
      refine take_ (i := 11) (N := some 19) (v := ?_) (a' := ?_) #[true, true, true, true, true, true, true, true, true, true, true, true, true, false, false, false, false, false, false, false, false, false, false, false, false, false, false, false, false, false, false, false, false, false, false] rfl rfl (by kernel_rfl) (fun _ _ _ h => h) (Or.inl ⟨by rfl, ?_⟩) hHeld ?_ ?_
      rotate_left
      · rintro w' ⟨s0, s1, s2⟩
        go_simp
        with_reducible rfl
      rotate_left
      · simp only [Act.put, List.setIfInBounds_toArray, List.set_cons_zero, List.set_cons_succ, i64_w, i32_w]
        rfl
      refine pure_ (i := 13) (N := some 21) (v := ?_) (a' := ?_) #[true, true, true, true, true, true, true, true, true, true, true, true, true, true, false, false, false, false, false, false, false, false, false, false, false, false, false, false, false, false, false, false, false, false, false] rfl rfl (by kernel_rfl) (fun _ _ _ h => h) (Or.inl ⟨by rfl, ?_⟩) ?_ ?_
      rotate_left
      · intro w'
        go_simp
        with_reducible rfl
      rotate_left
      · simp only [Act.put, List.setIfInBounds_toArray, List.set_cons_zero, List.set_cons_succ, i64_w, i32_w]
        rfl
      refine pure_ (i := 14) (N := some 22) (v := ?_) (a' := ?_) #[true, true, true, true, true, true, true, true, true, true, true, true, true, true, true, false, false, false, false, false, false, false, false, false, false, false, false, false, false, false, false, false, false, false, false] rfl rfl (by kernel_rfl) (fun _ _ _ h => h) (Or.inl ⟨by rfl, ?_⟩) ?_ ?_
      rotate_left
      · intro w'
        go_simp
        with_reducible rfl
      rotate_left
      · simp only [Act.put, List.setIfInBounds_toArray, List.set_cons_zero, List.set_cons_succ, i64_w, i32_w]
        rfl
      refine take_ (i := 15) (N := some 23) (v := ?_) (a' := ?_) #[true, true, true, true, true, true, true, true, true, true, true, true, true, true, true, true, false, false, false, false, false, false, false, false, false, false, false, false, false, false, false, false, false, false, false] rfl rfl (by kernel_rfl) (fun _ _ _ h => h) (Or.inl ⟨by rfl, ?_⟩) hHeld ?_ ?_
      rotate_left
      · rintro w' ⟨s0, s1, s2⟩
        go_simp
        with_reducible rfl
      rotate_left
      · simp only [Act.put, List.setIfInBounds_toArray, List.set_cons_zero, List.set_cons_succ, i64_w, i32_w]
        rfl
      refine one_ (i := 16) (N := some 24) #[true, true, true, true, true, true, true, true, true, true, true, true, true, true, true, true, true, false, false, false, false, false, false, false, false, false, false, false, false, false, false, false, false, false, false] rfl rfl (by kernel_rfl) (by decide) (fun K hK => ?_)
      refine goes_ Try.func49 (by kernel_rfl) rfl #[.int .i64 x.f0] (by rfl) rfl rfl (by simp only [List.map_toArray, List.map_cons, List.map_nil]; rfl) ?_
      with_reducible refine (HBC.out _).mono ?_
      rintro e w3 ⟨rfl, ⟨nd, rfl⟩⟩
      refine ⟨_, rfl, ?_⟩
      refine hK.out _ _ ⟨(blk_cell (blk_drewN H.out.g0 nd) 3).trans rfl, hx0, hx5⟩ (fun hHeld => ?_)
      clear hK K
      refine norm_ (a' := ?_) ?_ ?_
      rotate_left
      · show Act.put _ (some 24) _ = _
        simp only [Act.put, List.setIfInBounds_toArray, List.set_cons_zero, List.set_cons_succ, i64_w, i32_w]
        rfl
      refine pure_ (i := 17) (N := some 25) (v := ?_) (a' := ?_) #[true, true, true, true, true, true, true, true, true, true, true, true, true, true, true, true, true, true, false, false, false, false, false, false, false, false, false, false, false, false, false, false, false, false, false] rfl rfl (by kernel_rfl) (fun _ _ _ h => h) (Or.inl ⟨by rfl, ?_⟩) ?_ ?_
      rotate_left
      · intro w'
        go_simp
        with_reducible rfl
      rotate_left
      · simp only [Act.put, List.setIfInBounds_toArray, List.set_cons_zero, List.set_cons_succ, i64_w, i32_w]
        rfl
      refine pure_ (i := 18) (N := some 26) (v := ?_) (a' := ?_) #[true, true, true, true, true, true, true, true, true, true, true, true, true, true, true, true, true, true, true, false, false, false, false, false, false, false, false, false, false, false, false, false, false, false, false] rfl rfl (by kernel_rfl) (fun _ _ _ h => h) (Or.inl ⟨by rfl, ?_⟩) ?_ ?_
      rotate_left
      · intro w'
        go_simp
        with_reducible rfl
      rotate_left
      · simp only [Act.put, List.setIfInBounds_toArray, List.set_cons_zero, List.set_cons_succ, i64_w, i32_w]
        rfl
      refine pure_ (i := 19) (N := some 27) (v := ?_) (a' := ?_) #[true, true, true, true, true, true, true, true, true, true, true, true, true, true, true, true, true, true, true, true, false, false, false, false, false, false, false, false, false, false, false, false, false, false, false] rfl rfl (by kernel_rfl) (fun _ _ _ h => h) (Or.inl ⟨by rfl, ?_⟩) ?_ ?_
      rotate_left
      · intro w'
        go_simp
        with_reducible rfl
      rotate_left
      · simp only [Act.put, List.setIfInBounds_toArray, List.set_cons_zero, List.set_cons_succ, i64_w, i32_w]
        rfl
      refine pure_ (i := 20) (N := some 28) (v := undef) (a' := ?_) #[true, true, true, true, true, true, true, true, true, true, true, true, true, true, true, true, true, true, true, true, true, false, false, false, false, false, false, false, false, false, false, false, false, false, false] rfl rfl (by kernel_rfl) (fun _ _ _ h => h) (Or.inr ⟨by rfl, rfl⟩) ?_ ?_
      rotate_left
      · simp only [Act.put, List.setIfInBounds_toArray, List.set_cons_zero, List.set_cons_succ, i64_w, i32_w]
        rfl
      refine pure_ (i := 21) (N := some 29) (v := undef) (a' := ?_) #[true, true, true, true, true, true, true, true, true, true, true, true, true, true, true, true, true, true, true, true, true, true, false, false, false, false, false, false, false, false, false, false, false, false, false] rfl rfl (by kernel_rfl) (fun _ _ _ h => h) (Or.inr ⟨by rfl, rfl⟩) ?_ ?_
      rotate_left
      · simp only [Act.put, List.setIfInBounds_toArray, List.set_cons_zero, List.set_cons_succ, i64_w, i32_w]
        rfl
      refine pure_ (i := 22) (N := some 30) (v := undef) (a' := ?_) #[true, true, true, true, true, true, true, true, true, true, true, true, true, true, true, true, true, true, true, true, true, true, true, false, false, false, false, false, false, false, false, false, false, false, false] rfl rfl (by kernel_rfl) (fun _ _ _ h => h) (Or.inr ⟨by rfl, rfl⟩) ?_ ?_
      rotate_left
      · simp only [Act.put, List.setIfInBounds_toArray, List.set_cons_zero, List.set_cons_succ, i64_w, i32_w]
        rfl
      refine pure_ (i := 23) (N := some 31) (v := undef) (a' := ?_) #[true, true, true, true, true, true, true, true, true, true, true, true, true, true, true, true, true, true, true, true, true, true, true, true, false, false, false, false, false, false, false, false, false, false, false] rfl rfl (by kernel_rfl) (fun _ _ _ h => h) (Or.inr ⟨by rfl, rfl⟩) ?_ ?_
      rotate_left
      · simp only [Act.put, List.setIfInBounds_toArray, List.set_cons_zero, List.set_cons_succ, i64_w, i32_w]
        rfl
      refine pure_ (i := 24) (N := some 32) (v := undef) (a' := ?_) #[true, true, true, true, true, true, true, true, true, true, true, true, true, true, true, true, true, true, true, true, true, true, true, true, true, false, false, false, false, false, false, false, false, false, false] rfl rfl (by kernel_rfl) (fun _ _ _ h => h) (Or.inr ⟨by rfl, rfl⟩) ?_ ?_
      rotate_left
      · simp only [Act.put, List.setIfInBounds_toArray, List.set_cons_zero, List.set_cons_succ, i64_w, i32_w]
        rfl
      refine pure_ (i := 25) (N := some 33) (v := undef) (a' := ?_) #[true, true, true, true, true, true, true, true, true, true, true, true, true, true, true, true, true, true, true, true, true, true, true, true, true, true, false, false, false, false, false, false, false, false, false] rfl rfl (by kernel_rfl) (fun _ _ _ h => h) (Or.inr ⟨by rfl, rfl⟩) ?_ ?_
      rotate_left
      · simp only [Act.put, List.setIfInBounds_toArray, List.set_cons_zero, List.set_cons_succ, i64_w, i32_w]
        rfl
      refine pure_ (i := 26) (N := some 34) (v := undef) (a' := ?_) #[true, true, true, true, true, true, true, true, true, true, true, true, true, true, true, true, true, true, true, true, true, true, true, true, true, true, true, false, false, false, false, false, false, false, false] rfl rfl (by kernel_rfl) (fun _ _ _ h => h) (Or.inr ⟨by rfl, rfl⟩) ?_ ?_
      rotate_left
      · simp only [Act.put, List.setIfInBounds_toArray, List.set_cons_zero, List.set_cons_succ, i64_w, i32_w]
        rfl
      refine pure_ (i := 27) (N := some 35) (v := undef) (a' := ?_) #[true, true, true, true, true, true, true, true, true, true, true, true, true, true, true, true, true, true, true, true, true, true, true, true, true, true, true, true, false, false, false, false, false, false, false] rfl rfl (by kernel_rfl) (fun _ _ _ h => h) (Or.inr ⟨by rfl, rfl⟩) ?_ ?_
      rotate_left
      · simp only [Act.put, List.setIfInBounds_toArray, List.set_cons_zero, List.set_cons_succ, i64_w, i32_w]
        rfl
      refine pure_ (i := 28) (N := some 36) (v := undef) (a' := ?_) #[true, true, true, true, true, true, true, true, true, true, true, true, true, true, true, true, true, true, true, true, true, true, true, true, true, true, true, true, true, false, false, false, false, false, false] rfl rfl (by kernel_rfl) (fun _ _ _ h => h) (Or.inr ⟨by rfl, rfl⟩) ?_ ?_
      rotate_left
      · simp only [Act.put, List.setIfInBounds_toArray, List.set_cons_zero, List.set_cons_succ, i64_w, i32_w]
        rfl
      refine pure_ (i := 29) (N := some 37) (v := ?_) (a' := ?_) #[true, true, true, true, true, true, true, true, true, true, true, true, true, true, true, true, true, true, true, true, true, true, true, true, true, true, true, true, true, true, false, false, false, false, false] rfl rfl (by kernel_rfl) (fun _ _ _ h => h) (Or.inl ⟨by rfl, ?_⟩) ?_ ?_
      rotate_left
      · intro w'
        go_simp
        with_reducible rfl
      rotate_left
      · simp only [Act.put, List.setIfInBounds_toArray, List.set_cons_zero, List.set_cons_succ, i64_w, i32_w]
        rfl
      refine pure_ (i := 30) (N := some 38) (v := ?_) (a' := ?_) #[true, true, true, true, true, true, true, true, true, true, true, true, true, true, true, true, true, true, true, true, true, true, true, true, true, true, true, true, true, true, true, false, false, false, false] rfl rfl (by kernel_rfl) (fun _ _ _ h => h) (Or.inl ⟨by rfl, ?_⟩) ?_ ?_
      rotate_left
      · intro w'
        go_simp
        with_reducible rfl
      rotate_left
      · simp only [Act.put, List.setIfInBounds_toArray, List.set_cons_zero, List.set_cons_succ, i64_w, i32_w]
        rfl
      refine pure_ (i := 31) (N := some 39) (v := undef) (a' := ?_) #[true, true, true, true, true, true, true, true, true, true, true, true, true, true, true, true, true, true, true, true, true, true, true, true, true, true, true, true, true, true, true, true, false, false, false] rfl rfl (by kernel_rfl) (fun _ _ _ h => h) (Or.inr ⟨by rfl, rfl⟩) ?_ ?_
      rotate_left
      · simp only [Act.put, List.setIfInBounds_toArray, List.set_cons_zero, List.set_cons_succ, i64_w, i32_w]
        rfl
      refine pure_ (i := 32) (N := some 40) (v := undef) (a' := ?_) #[true, true, true, true, true, true, true, true, true, true, true, true, true, true, true, true, true, true, true, true, true, true, true, true, true, true, true, true, true, true, true, true, true, false, false] rfl rfl (by kernel_rfl) (fun _ _ _ h => h) (Or.inr ⟨by rfl, rfl⟩) ?_ ?_
      rotate_left
      · simp only [Act.put, List.setIfInBounds_toArray, List.set_cons_zero, List.set_cons_succ, i64_w, i32_w]
        rfl
      refine pure_ (i := 33) (N := some 41) (v := undef) (a' := ?_) #[true, true, true, true, true, true, true, true, true, true, true, true, true, true, true, true, true, true, true, true, true, true, true, true, true, true, true, true, true, true, true, true, true, true, false] rfl rfl (by kernel_rfl) (fun _ _ _ h => h) (Or.inr ⟨by rfl, rfl⟩) ?_ ?_
      rotate_left
      · simp only [Act.put, List.setIfInBounds_toArray, List.set_cons_zero, List.set_cons_succ, i64_w, i32_w]
        rfl
      refine pure_ (i := 34) (N := some 42) (v := ?_) (a' := ?_) #[true, true, true, true, true, true, true, true, true, true, true, true, true, true, true, true, true, true, true, true, true, true, true, true, true, true, true, true, true, true, true, true, true, true, true] rfl rfl (by kernel_rfl) (fun _ _ _ h => h) (Or.inl ⟨by rfl, ?_⟩) ?_ ?_
      rotate_left
      · intro w'
        go_simp
        with_reducible rfl
      rotate_left
      · simp only [Act.put, List.setIfInBounds_toArray, List.set_cons_zero, List.set_cons_succ, i64_w, i32_w]
        rfl
      refine done_ (by kernel_rfl) ?_
      go_wp2
      go_meet
      case rel => exact ⟨rfl, Lib.hid (H0.out.drewN _)⟩
    | true =>
      rw [hbx] at HBC hb
      clear hbx
      by_cases ht : x.f5.toList = t.toList
      · have ht1 : (x.f5.toList == t.toList) = true := beq_iff_eq.2 ht
        have ht2 : (x.f5.toList != t.toList) = false := by rw [bne, ht1]; rfl
        rw [ht1] at hb
        by_cases hz : (body.size : Int) ≤ 1024
        · obtain rfl : b = true := by rw [← hb, decide_eq_true hz]; rfl
          have hz1 : decide ((1024 : Int) < (body.size : Int)) = false := decide_eq_false (by omega)
          have hz2 : decide (1024 < body.size) = false := decide_eq_false (by omega)
          clear hb
          refine start_ (n := 35) (S := fun w' => w'.cell? ⟨w.heap.size, 3, none⟩ = some (.slice (some ad) len c) ∧ w'.cell? (ad.add (i.toNat * 8)) = some (.int .i64 x.f0) ∧ w'.cell? ⟨(ad.add (i.toNat * 8)).block, (ad.add (i.toNat * 8)).off + 5, none⟩ = some (.string x.f5)) (ds := []) #[false, false, false, false, false, false, false, false, false, false, false, false, false, false, false, false, false, false, false, false, false, false, false, false, false, false, false, false, false, false, false, false, false, false, false] (by kernel_rfl) rfl rfl ⟨(blk_cell H.out.g0 3).trans rfl, hx0, hx5⟩ (fun hHeld => ?_)
          refine pure_ (i := 0) (N := some 8) (v := ?_) (a' := ?_) #[true, false, false, false, false, false, false, false, false, false, false, false, false, false, false, false, false, false, false, false, false, false, false, false, false, false, false, false, false, false, false, false, false, false, false] rfl rfl (by kernel_rfl) (fun _ _ _ h => h) (Or.inl ⟨by rfl, ?_⟩) ?_ ?_
          rotate_left
          · intro w'
            go_simp
            with_reducible rfl
          rotate_left
          · simp only [Act.put, List.setIfInBounds_toArray, List.set_cons_zero, List.set_cons_succ, i64_w, i32_w]
            rfl
          refine pure_ (i := 1) (N := some 9) (v := ?_) (a' := ?_) #[true, true, false, false, false, false, false, false, false, false, false, false, false, false, false, false, false, false, false, false, false, false, false, false, false, false, false, false, false, false, false, false, false, false, false] rfl rfl (by kernel_rfl) (fun _ _ _ h => h) (Or.inl ⟨by rfl, ?_⟩) ?_ ?_
          rotate_left
          · intro w'
            go_simp
            with_reducible rfl
          rotate_left
          · simp only [Act.put, List.setIfInBounds_toArray, List.set_cons_zero, List.set_cons_succ, i64_w, i32_w]
            rfl
          refine pure_ (i := 2) (N := some 10) (v := ?_) (a' := ?_) #[true, true, true, false, false, false, false, false, false, false, false, false, false, false, false, false, false, false, false, false, false, false, false, false, false, false, false, false, false, false, false, false, false, false, false] rfl rfl (by kernel_rfl) (fun _ _ _ h => h) (Or.inl ⟨by rfl, ?_⟩) ?_ ?_
          rotate_left
          · intro w'
            go_simp
            with_reducible rfl
          rotate_left
          · simp only [Act.put, List.setIfInBounds_toArray, List.set_cons_zero, List.set_cons_succ, i64_w, i32_w]
            rfl
          refine pure_ (i := 3) (N := some 11) (v := ?_) (a' := ?_) #[true, true, true, true, false, false, false, false, false, false, false, false, false, false, false, false, false, false, false, false, false, false, false, false, false, false, false, false, false, false, false, false, false, false, false] rfl rfl (by kernel_rfl) (fun _ _ _ h => h) (Or.inl ⟨by rfl, ?_⟩) ?_ ?_
          rotate_left
          · intro w'
            go_simp
            with_reducible rfl
          rotate_left
          · simp only [Act.put, List.setIfInBounds_toArray, List.set_cons_zero, List.set_cons_succ, i64_w, i32_w]
            rfl
          refine pure_ (i := 4) (N := some 12) (v := ?_) (a' := ?_) #[true, true, true, true, true, false, false, false, false, false, false, false, false, false, false, false, false, false, false, false, false, false, false, false, false, false, false, false, false, false, false, false, false, false, false] rfl rfl (by kernel_rfl) (fun _ _ _ h => h) (Or.inl ⟨by rfl, ?_⟩) ?_ ?_
          rotate_left
          · intro w'
            go_simp
            with_reducible rfl
          rotate_left
          · simp only [Act.put, List.setIfInBounds_toArray, List.set_cons_zero, List.set_cons_succ, i64_w, i32_w]
            rfl
          refine take_ (i := 5) (N := some 13) (v := ?_) (a' := ?_) #[true, true, true, true, true, true, false, false, false, false, false, false, false, false, false, false, false, false, false, false, false, false, false, false, false, false, false, false, false, false, false, false, false, false, false] rfl rfl (by kernel_rfl) (fun _ _ _ h => h) (Or.inl ⟨by rfl, ?_⟩) hHeld ?_ ?_
          rotate_left
          · rintro w' ⟨s0, s1, s2⟩
            go_simp
            with_reducible rfl
          rotate_left
          · simp only [Act.put, List.setIfInBounds_toArray, List.set_cons_zero, List.set_cons_succ, i64_w, i32_w]
            rfl
          refine pure_ (i := 6) (N := some 14) (v := ?_) (a' := ?_) #[true, true, true, true, true, true, true, false, false, false, false, false, false, false, false, false, false, false, false, false, false, false, false, false, false, false, false, false, false, false, false, false, false, false, false] rfl rfl (by kernel_rfl) (fun _ _ _ h => h) (Or.inl ⟨by rfl, ?_⟩) ?_ ?_
          rotate_left
          · intro w'
            go_simp
            with_reducible rfl
          rotate_left
          · simp only [Act.put, List.setIfInBounds_toArray, List.set_cons_zero, List.set_cons_succ, i64_w, i32_w]
            rfl
          refine pure_ (i := 7) (N := some 15) (v := ?_) (a' := ?_) #[true, true, true, true, true, true, true, true, false, false, false, false, false, false, false, false, false, false, false, false, false, false, false, false, false, false, false, false, false, false, false, false, false, false, false] rfl rfl (by kernel_rfl) (fun _ _ _ h => h) (Or.inl ⟨by rfl, ?_⟩) ?_ ?_
          rotate_left
          · intro w'
            go_simp
            with_reducible rfl
          rotate_left
          · simp only [Act.put, List.setIfInBounds_toArray, List.set_cons_zero, List.set_cons_succ, i64_w, i32_w]
            rfl
          refine pure_ (i := 8) (N := some 16) (v := ?_) (a' := ?_) #[true, true, true, true, true, true, true, true, true, false, false, false, false, false, false, false, false, false, false, false, false, false, false, false, false, false, false, false, false, false, false, false, false, false, false] rfl rfl (by kernel_rfl) (fun _ _ _ h => h) (Or.inl ⟨by rfl, ?_⟩) ?_ ?_
          rotate_left
          · intro w'
            go_simp
            with_reducible rfl
          rotate_left
          · simp only [Act.put, List.setIfInBounds_toArray, List.set_cons_zero, List.set_cons_succ, i64_w, i32_w]
            rfl
          refine pure_ (i := 9) (N := some 17) (v := ?_) (a' := ?_) #[true, true, true, true, true, true, true, true, true, true, false, false, false, false, false, false, false, false, false, false, false, false, false, false, false, false, false, false, false, false, false, false, false, false, false] rfl rfl (by kernel_rfl) (fun _ _ _ h => h) (Or.inl ⟨by rfl, ?_⟩) ?_ ?_
          rotate_left
          · intro w'
            go_simp
            with_reducible rfl
          rotate_left
          · simp only [Act.put, List.setIfInBounds_toArray, List.set_cons_zero, List.set_cons_succ, i64_w, i32_w]
            rfl
          refine pure_ (i := 10) (N := some 18) (v := ?_) (a' := ?_) #[true, true, true, true, true, true, true, true, true, true, true, false, false, false, false, false, false, false, false, false, false, false, false, false, false, false, false, false, false, false, false, false, false, false, false] rfl rfl (by kernel_rfl) (fun _ _ _ h => h) (Or.inl ⟨by rfl, ?_⟩) ?_ ?_
          rotate_left
          · intro w'
            go_simp
            with_reducible rfl
          rotate_left
          · simp only [Act.put, List.setIfInBounds_toArray, List.set_cons_zero, List.set_cons_succ, i64_w, i32_w]
            rfl
          refine pure_ (i := 12) (N := some 20) (v := ?_) (a' := ?_) #[true, true, true, true, true, true, true, true, true, true, true, false, true, false, false, false, false, false, false, false, false, false, false, false, false, false, false, false, false, false, false, false, false, false, false] rfl rfl (by kernel_rfl) (fun _ _ _ h => h) (Or.inl ⟨by rfl, ?_⟩) ?_ ?_
          rotate_left
          · intro w'
            go_simp
            with_reducible rfl
          rotate_left
          · simp only [Act.put, List.setIfInBounds_toArray, List.set_cons_zero, List.set_cons_succ, i64_w, i32_w]
            rfl
          refine take_ (i := 11) (N := some 19) (v := ?_) (a' := ?_) #[true, true, true, true, true, true, true, true, true, true, true, true, true, false, false, false, false, false, false, false, false, false, false, false, false, false, false, false, false, false, false, false, false, false, false] rfl rfl (by kernel_rfl) (fun _ _ _ h => h) (Or.inl ⟨by rfl, ?_⟩) hHeld ?_ ?_
          rotate_left
          · rintro w' ⟨s0, s1, s2⟩
            go_simp
            with_reducible rfl
          rotate_left
          · simp only [Act.put, List.setIfInBounds_toArray, List.set_cons_zero, List.set_cons_succ, i64_w, i32_w]
            rfl
          refine pure_ (i := 13) (N := some 21) (v := ?_) (a' := ?_) #[true, true, true, true, true, true, true, true, true, true, true, true, true, true, false, false, false, false, false, false, false, false, false, false, false, false, false, false, false, false, false, false, false, false, false] rfl rfl (by kernel_rfl) (fun _ _ _ h => h) (Or.inl ⟨by rfl, ?_⟩) ?_ ?_
          rotate_left
          · intro w'
            go_simp
            with_reducible rfl
          rotate_left
          · simp only [Act.put, List.setIfInBounds_toArray, List.set_cons_zero, List.set_cons_succ, i64_w, i32_w]
            rfl
          refine pure_ (i := 14) (N := some 22) (v := ?_) (a' := ?_) #[true, true, true, true, true, true, true, true, true, true, true, true, true, true, true, false, false, false, false, false, false, false, false, false, false, false, false, false, false, false, false, false, false, false, false] rfl rfl (by kernel_rfl) (fun _ _ _ h => h) (Or.inl ⟨by rfl, ?_⟩) ?_ ?_
          rotate_left
          · intro w'
            go_simp
            with_reducible rfl
          rotate_left
          · simp only [Act.put, List.setIfInBounds_toArray, List.set_cons_zero, List.set_cons_succ, i64_w, i32_w]
            rfl
          refine take_ (i := 15) (N := some 23) (v := ?_) (a' := ?_) #[true, true, true, true, true, true, true, true, true, true, true, true, true, true, true, true, false, false, false, false, false, false, false, false, false, false, false, false, false, false, false, false, false, false, false] rfl rfl (by kernel_rfl) (fun _ _ _ h => h) (Or.inl ⟨by rfl, ?_⟩) hHeld ?_ ?_
          rotate_left
          · rintro w' ⟨s0, s1, s2⟩
            go_simp
            with_reducible rfl
          rotate_left
          · simp only [Act.put, List.setIfInBounds_toArray, List.set_cons_zero, List.set_cons_succ, i64_w, i32_w]
            rfl
          refine one_ (i := 16) (N := some 24) #[true, true, true, true, true, true, true, true, true, true, true, true, true, true, true, true, true, false, false, false, false, false, false, false, false, false, false, false, false, false, false, false, false, false, false] rfl rfl (by kernel_rfl) (by decide) (fun K hK => ?_)
          refine goes_ Try.func49 (by kernel_rfl) rfl #[.int .i64 x.f0] (by rfl) rfl rfl (by simp only [List.map_toArray, List.map_cons, List.map_nil]; rfl) ?_
          with_reducible refine (HBC.out _).mono ?_
          rintro e w3 ⟨rfl, ⟨nd, rfl⟩⟩
          refine ⟨_, rfl, ?_⟩
          refine hK.out _ _ ⟨(blk_cell (blk_drewN H.out.g0 nd) 3).trans rfl, hx0, hx5⟩ (fun hHeld => ?_)
          clear hK K
          refine norm_ (a' := ?_) ?_ ?_
          rotate_left
          · show Act.put _ (some 24) _ = _
            simp only [Act.put, List.setIfInBounds_toArray, List.set_cons_zero, List.set_cons_succ, i64_w, i32_w]
            rfl
          refine pure_ (i := 17) (N := some 25) (v := ?_) (a' := ?_) #[true, true, true, true, true, true, true, true, true, true, true, true, true, true, true, true, true, true, false, false, false, false, false, false, false, false, false, false, false, false, false, false, false, false, false] rfl rfl (by kernel_rfl) (fun _ _ _ h => h) (Or.inl ⟨by rfl, ?_⟩) ?_ ?_
          rotate_left
          · intro w'
            go_simp
            with_reducible rfl
          rotate_left
          · simp only [Act.put, List.setIfInBounds_toArray, List.set_cons_zero, List.set_cons_succ, i64_w, i32_w]
            rfl
          refine pure_ (i := 18) (N := some 26) (v := ?_) (a' := ?_) #[true, true, true, true, true, true, true, true, true, true, true, true, true, true, true, true, true, true, true, false, false, false, false, false, false, false, false, false, false, false, false, false, false, false, false] rfl rfl (by kernel_rfl) (fun _ _ _ h => h) (Or.inl ⟨by rfl, ?_⟩) ?_ ?_
          rotate_left
          · intro w'
            go_simp
            with_reducible rfl
          rotate_left
          · simp only [Act.put, List.setIfInBounds_toArray, List.set_cons_zero, List.set_cons_succ, i64_w, i32_w]
            rfl
          refine pure_ (i := 19) (N := some 27) (v := ?_) (a' := ?_) #[true, true, true, true, true, true, true, true, true, true, true, true, true, true, true, true, true, true, true, true, false, false, false, false, false, false, false, false, false, false, false, false, false, false, false] rfl rfl (by kernel_rfl) (fun _ _ _ h => h) (Or.inl ⟨by rfl, ?_⟩) ?_ ?_
          rotate_left
          · intro w'
            go_simp
            with_reducible rfl
          rotate_left
          · simp only [Act.put, List.setIfInBounds_toArray, List.set_cons_zero, List.set_cons_succ, i64_w, i32_w]
            rfl
          refine pure_ (i := 20) (N := some 28) (v := ?_) (a' := ?_) #[true, true, true, true, true, true, true, true, true, true, true, true, true, true, true, true, true, true, true, true, true, false, false, false, false, false, false, false, false, false, false, false, false, false, false] rfl rfl (by kernel_rfl) (fun _ _ _ h => h) (Or.inl ⟨by rfl, ?_⟩) ?_ ?_
          rotate_left
          · intro w'
            go_simp
            with_reducible rfl
          rotate_left
          · simp only [Act.put, List.setIfInBounds_toArray, List.set_cons_zero, List.set_cons_succ, i64_w, i32_w]
            rfl
          refine pure_ (i := 22) (N := some 30) (v := ?_) (a' := ?_) #[true, true, true, true, true, true, true, true, true, true, true, true, true, true, true, true, true, true, true, true, true, false, true, false, false, false, false, false, false, false, false, false, false, false, false] rfl rfl (by kernel_rfl) (fun _ _ _ h => h) (Or.inl ⟨by rfl, ?_⟩) ?_ ?_
          rotate_left
          · intro w'
            go_simp
            with_reducible rfl
          rotate_left
          · simp only [Act.put, List.setIfInBounds_toArray, List.set_cons_zero, List.set_cons_succ, i64_w, i32_w]
            rfl
          refine pure_ (i := 26) (N := some 34) (v := ?_) (a' := ?_) #[true, true, true, true, true, true, true, true, true, true, true, true, true, true, true, true, true, true, true, true, true, false, true, false, false, false, true, false, false, false, false, false, false, false, false] rfl rfl (by kernel_rfl) (fun _ _ _ h => h) (Or.inl ⟨by rfl, ?_⟩) ?_ ?_
          rotate_left
          · intro w'
            go_simp
            with_reducible rfl
          rotate_left
          · simp only [Act.put, List.setIfInBounds_toArray, List.set_cons_zero, List.set_cons_succ, i64_w, i32_w]
            rfl
          refine take_ (i := 21) (N := some 29) (v := ?_) (a' := ?_) #[true, true, true, true, true, true, true, true, true, true, true, true, true, true, true, true, true, true, true, true, true, true, true, false, false, false, true, false, false, false, false, false, false, false, false] rfl rfl (by kernel_rfl) (fun _ _ _ h => h) (Or.inl ⟨by rfl, ?_⟩) hHeld ?_ ?_
          rotate_left
          · rintro w' ⟨s0, s1, s2⟩
            go_simp
            with_reducible rfl
          rotate_left
          · simp only [Act.put, List.setIfInBounds_toArray, List.set_cons_zero, List.set_cons_succ, i64_w, i32_w]
            rfl
          refine pure_ (i := 23) (N := some 31) (v := ?_) (a' := ?_) #[true, true, true, true, true, true, true, true, true, true, true, true, true, true, true, true, true, true, true, true, true, true, true, true, false, false, true, false, false, false, false, false, false, false, false] rfl rfl (by kernel_rfl) (fun _ _ _ h => h) (Or.inl ⟨by rfl, ?_⟩) ?_ ?_
          rotate_left
          · intro w'
            go_simp
            with_reducible rfl
          rotate_left
          · simp only [Act.put, List.setIfInBounds_toArray, List.set_cons_zero, List.set_cons_succ, i64_w, i32_w]
            rfl
          refine pure_ (i := 24) (N := some 32) (v := ?_) (a' := ?_) #[true, true, true, true, true, true, true, true, true, true, true, true, true, true, true, true, true, true, true, true, true, true, true, true, true, false, true, false, false, false, false, false, false, false, false] rfl rfl (by kernel_rfl) (fun _ _ _ h => h) (Or.inl ⟨by rfl, ?_⟩) ?_ ?_
          rotate_left
          · intro w'
            go_simp
            with_reducible rfl
          rotate_left
          · simp only [Act.put, List.setIfInBounds_toArray, List.set_cons_zero, List.set_cons_succ, i64_w, i32_w]
            rfl
          refine take_ (i := 25) (N := some 33) (v := ?_) (a' := ?_) #[true, true, true, true, true, true, true, true, true, true, true, true, true, true, true, true, true, true, true, true, true, true, true, true, true, true, true, false, false, false, false, false, false, false, false] rfl rfl (by kernel_rfl) (fun _ _ _ h => h) (Or.inl ⟨by rfl, ?_⟩) hHeld ?_ ?_
          rotate_left
          · rintro w' ⟨s0, s1, s2⟩
            go_simp
            with_reducible rfl
          rotate_left
          · simp only [Act.put, List.setIfInBounds_toArray, List.set_cons_zero, List.set_cons_succ, i64_w, i32_w]
            rfl
          refine one_ (i := 27) (N := some 35) #[true, true, true, true, true, true, true, true, true, true, true, true, true, true, true, true, true, true, true, true, true, true, true, true, true, true, true, true, false, false, false, false, false, false, false] rfl rfl (by kernel_rfl) (by decide) (fun K hK => ?_)
          refine goes_ Try.func20 (by kernel_rfl) rfl #[.string body] (by rfl) rfl rfl (by simp only [List.map_toArray, List.map_cons, List.map_nil]; rfl) ?_
          with_reducible refine (HLF.out _).mono ?_
          rintro e w4 ⟨rfl, hb⟩
          refine ⟨_, rfl, ?_⟩
          have H4 := Lib.hid ((H.out.drewN nd).below hb)
          refine hK.out _ _ ⟨(blk_cell H4.out.g0 3).trans rfl, (hb.cell (World.block_lt_of_cell? _ _ hx0)).trans hx0, (hb.cell (World.block_lt_of_cell? _ _ hx5)).trans hx5⟩ (fun hHeld => ?_)
          clear hK K
          refine norm_ (a' := ?_) ?_ ?_
          rotate_left
          · show Act.put _ (some 35) _ = _
            simp only [Act.put, List.setIfInBounds_toArray, List.set_cons_zero, List.set_cons_succ, i64_w, i32_w]
            rfl
          refine pure_ (i := 28) (N := some 36) (v := ?_) (a' := ?_) #[true, true, true, true, true, true, true, true, true, true, true, true, true, true, true, true, true, true, true, true, true, true, true, true, true, true, true, true, true, false, false, false, false, false, false] rfl rfl (by kernel_rfl) (fun _ _ _ h => h) (Or.inl ⟨by rfl, ?_⟩) ?_ ?_
          rotate_left
          · intro w'
            go_simp
            with_reducible rfl
          rotate_left
          · simp only [Act.put, List.setIfInBounds_toArray, List.set_cons_zero, List.set_cons_succ, i64_w, i32_w]
            rfl
          refine pure_ (i := 29) (N := some 37) (v := ?_) (a' := ?_) #[true, true, true, true, true, true, true, true, true, true, true, true, true, true, true, true, true, true, true, true, true, true, true, true, true, true, true, true, true, true, false, false, false, false, false] rfl rfl (by kernel_rfl) (fun _ _ _ h => h) (Or.inl ⟨by rfl, ?_⟩) ?_ ?_
          rotate_left
          · intro w'
            go_simp
            with_reducible rfl
          rotate_left
          · simp only [Act.put, List.setIfInBounds_toArray, List.set_cons_zero, List.set_cons_succ, i64_w, i32_w]
            rfl
          refine pure_ (i := 30) (N := some 38) (v := ?_) (a' := ?_) #[true, true, true, true, true, true, true, true, true, true, true, true, true, true, true, true, true, true, true, true, true, true, true, true, true, true, true, true, true, true, true, false, false, false, false] rfl rfl (by kernel_rfl) (fun _ _ _ h => h) (Or.inl ⟨by rfl, ?_⟩) ?_ ?_
          rotate_left
          · intro w'
            go_simp
            with_reducible rfl
          rotate_left
          · simp only [Act.put, List.setIfInBounds_toArray, List.set_cons_zero, List.set_cons_succ, i64_w, i32_w]
            rfl
          refine pure_ (i := 31) (N := some 39) (v := ?_) (a' := ?_) #[true, true, true, true, true, true, true, true, true, true, true, true, true, true, true, true, true, true, true, true, true, true, true, true, true, true, true, true, true, true, true, true, false, false, false] rfl rfl (by kernel_rfl) (fun _ _ _ h => h) (Or.inl ⟨by rfl, ?_⟩) ?_ ?_
          rotate_left
          · intro w'
            go_simp
            with_reducible rfl
          rotate_left
          · simp only [Act.put, List.setIfInBounds_toArray, List.set_cons_zero, List.set_cons_succ, i64_w, i32_w]
            rfl
          refine pure_ (i := 32) (N := some 40) (v := ?_) (a' := ?_) #[true, true, true, true, true, true, true, true, true, true, true, true, true, true, true, true, true, true, true, true, true, true, true, true, true, true, true, true, true, true, true, true, true, false, false] rfl rfl (by kernel_rfl) (fun _ _ _ h => h) (Or.inl ⟨by rfl, ?_⟩) ?_ ?_
          rotate_left
          · intro w'
            go_simp
            with_reducible rfl
          rotate_left
          · simp only [Act.put, List.setIfInBounds_toArray, List.set_cons_zero, List.set_cons_succ, i64_w, i32_w]
            rfl
          refine pure_ (i := 33) (N := some 41) (v := ?_) (a' := ?_) #[true, true, true, true, true, true, true, true, true, true, true, true, true, true, true, true, true, true, true, true, true, true, true, true, true, true, true, true, true, true, true, true, true, true, false] rfl rfl (by kernel_rfl) (fun _ _ _ h => h) (Or.inl ⟨by rfl, ?_⟩) ?_ ?_
          rotate_left
          · intro w'
            go_simp
            with_reducible rfl
          rotate_left
          · simp only [Act.put, List.setIfInBounds_toArray, List.set_cons_zero, List.set_cons_succ, i64_w, i32_w]
            rfl
          refine pure_ (i := 34) (N := some 42) (v := ?_) (a' := ?_) #[true, true, true, true, true, true, true, true, true, true, true, true, true, true, true, true, true, true, true, true, true, true, true, true, true, true, true, true, true, true, true, true, true, true, true] rfl rfl (by kernel_rfl) (fun _ _ _ h => h) (Or.inl ⟨by rfl, ?_⟩) ?_ ?_
          rotate_left
          · intro w'
            go_simp
            with_reducible rfl
          rotate_left
          · simp only [Act.put, List.setIfInBounds_toArray, List.set_cons_zero, List.set_cons_succ, i64_w, i32_w]
            rfl
          refine done_ (by kernel_rfl) ?_
          go_wp2
          go_meet
          case rel => exact ⟨rfl, H4⟩
        · obtain rfl : b = false := by rw [← hb, decide_eq_false hz]; rfl
          have hz1 : decide ((1024 : Int) < (body.size : Int)) = true := decide_eq_true (by omega)
          have hz2 : decide (1024 < body.size) = true := decide_eq_true (by omega)
          clear hb
          refine start_ (n := 35) (S := fun w' => w'.cell? ⟨w.heap.size, 3, none⟩ = some (.slice (some ad) len c) ∧ w'.cell? (ad.add (i.toNat * 8)) = some (.int .i64 x.f0) ∧ w'.cell? ⟨(ad.add (i.toNat * 8)).block, (ad.add (i.toNat * 8)).off + 5, none⟩ = some (.string x.f5)) (ds := []) #[false, false, false, false, false, false, false, false, false, false, false, false, false, false, false, false, false, false, false, false, false, false, false, false, false, false, false, false, false, false, false, false, false, false, false] (by kernel_rfl) rfl rfl ⟨(blk_cell H.out.g0 3).trans rfl, hx0, hx5⟩ (fun hHeld => ?_)
          refine pure_ (i := 0) (N := some 8) (v := ?_) (a' := ?_) #[true, false, false, false, false, false, false, false, false, false, false, false, false, false, false, false, false, false, false, false, false, false, false, false, false, false, false, false, false, false, false, false, false, false, false] rfl rfl (by kernel_rfl) (fun _ _ _ h => h) (Or.inl ⟨by rfl, ?_⟩) ?_ ?_
          rotate_left
          · intro w'
            go_simp
            with_reducible rfl
          rotate_left
          · simp only [Act.put, List.setIfInBounds_toArray, List.set_cons_zero, List.set_cons_succ, i64_w, i32_w]
            rfl
          refine pure_ (i := 1) (N := some 9) (v := ?_) (a' := ?_) #[true, true, false, false, false, false, false, false, false, false, false, false, false, false, false, false, false, false, false, false, false, false, false, false, false, false, false, false, false, false, false, false, false, false, false] rfl rfl (by kernel_rfl) (fun _ _ _ h => h) (Or.inl ⟨by rfl, ?_⟩) ?_ ?_
          rotate_left
          · intro w'
            go_simp
            with_reducible rfl
          rotate_left
          · simp only [Act.put, List.setIfInBounds_toArray, List.set_cons_zero, List.set_cons_succ, i64_w, i32_w]
            rfl
          refine pure_ (i := 2) (N := some 10) (v := ?_) (a' := ?_) #[true, true, true, false, false, false, false, false, false, false, false, false, false, false, false, false, false, false, false, false, false, false, false, false, false, false, false, false, false, false, false, false, false, false, false] rfl rfl (by kernel_rfl) (fun _ _ _ h => h) (Or.inl ⟨by rfl, ?_⟩) ?_ ?_
          rotate_left
          · intro w'
            go_simp
            with_reducible rfl
          rotate_left
          · simp only [Act.put, List.setIfInBounds_toArray, List.set_cons_zero, List.set_cons_succ, i64_w, i32_w]
            rfl
          refine pure_ (i := 3) (N := some 11) (v := ?_) (a' := ?_) #[true, true, true, true, false, false, false, false, false, false, false, false, false, false, false, false, false, false, false, false, false, false, false, false, false, false, false, false, false, false, false, false, false, false, false] rfl rfl (by kernel_rfl) (fun _ _ _ h => h) (Or.inl ⟨by rfl, ?_⟩) ?_ ?_
          rotate_left
          · intro w'
            go_simp
            with_reducible rfl
          rotate_left
          · simp only [Act.put, List.setIfInBounds_toArray, List.set_cons_zero, List.set_cons_succ, i64_w, i32_w]
            rfl
          refine pure_ (i := 4) (N := some 12) (v := ?_) (a' := ?_) #[true, true, true, true, true, false, false, false, false, false, false, false, false, false, false, false, false, false, false, false, false, false, false, false, false, false, false, false, false, false, false, false, false, false, false] rfl rfl (by kernel_rfl) (fun _ _ _ h => h) (Or.inl ⟨by rfl, ?_⟩) ?_ ?_
          rotate_left
          · intro w'
            go_simp
            with_reducible rfl
          rotate_left
          · simp only [Act.put, List.setIfInBounds_toArray, List.set_cons_zero, List.set_cons_succ, i64_w, i32_w]
            rfl
          refine take_ (i := 5) (N := some 13) (v := ?_) (a' := ?_) #[true, true, true, true, true, true, false, false, false, false, false, false, false, false, false, false, false, false, false, false, false, false, false, false, false, false, false, false, false, false, false, false, false, false, false] rfl rfl (by kernel_rfl) (fun _ _ _ h => h) (Or.inl ⟨by rfl, ?_⟩) hHeld ?_ ?_
          rotate_left
          · rintro w' ⟨s0, s1, s2⟩
            go_simp
            with_reducible rfl
          rotate_left
          · simp only [Act.put, List.setIfInBounds_toArray, List.set_cons_zero, List.set_cons_succ, i64_w, i32_w]
            rfl
          refine pure_ (i := 6) (N := some 14) (v := ?_) (a' := ?_) #[true, true, true, true, true, true, true, false, false, false, false, false, false, false, false, false, false, false, false, false, false, false, false, false, false, false, false, false, false, false, false, false, false, false, false] rfl rfl (by kernel_rfl) (fun _ _ _ h => h) (Or.inl ⟨by rfl, ?_⟩) ?_ ?_
          rotate_left
          · intro w'
            go_simp
            with_reducible rfl
          rotate_left
          · simp only [Act.put, List.setIfInBounds_toArray, List.set_cons_zero, List.set_cons_succ, i64_w, i32_w]
            rfl
          refine pure_ (i := 7) (N := some 15) (v := ?_) (a' := ?_) #[true, true, true, true, true, true, true, true, false, false, false, false, false, false, false, false, false, false, false, false, false, false, false, false, false, false, false, false, false, false, false, false, false, false, false] rfl rfl (by kernel_rfl) (fun _ _ _ h => h) (Or.inl ⟨by rfl, ?_⟩) ?_ ?_
          rotate_left
          · intro w'
            go_simp
            with_reducible rfl
          rotate_left
          · simp only [Act.put, List.setIfInBounds_toArray, List.set_cons_zero, List.set_cons_succ, i64_w, i32_w]
            rfl
          refine pure_ (i := 8) (N := some 16) (v := ?_) (a' := ?_) #[true, true, true, true, true, true, true, true, true, false, false, false, false, false, false, false, false, false, false, false, false, false, false, false, false, false, false, false, false, false, false, false, false, false, false] rfl rfl (by kernel_rfl) (fun _ _ _ h => h) (Or.inl ⟨by rfl, ?_⟩) ?_ ?_
          rotate_left
          · intro w'
            go_simp
            with_reducible rfl
          rotate_left
          · simp only [Act.put, List.setIfInBounds_toArray, List.set_cons_zero, List.set_cons_succ, i64_w, i32_w]
            rfl
          refine pure_ (i := 9) (N := some 17) (v := ?_) (a' := ?_) #[true, true, true, true, true, true, true, true, true, true, false, false, false, false, false, false, false, false, false, false, false, false, false, false, false, false, false, false, false, false, false, false, false, false, false] rfl rfl (by kernel_rfl) (fun _ _ _ h => h) (Or.inl ⟨by rfl, ?_⟩) ?_ ?_
          rotate_left
          · intro w'
            go_simp
            with_reducible rfl
          rotate_left
          · simp only [Act.put, List.setIfInBounds_toArray, List.set_cons_zero, List.set_cons_succ, i64_w, i32_w]
            rfl
          refine pure_ (i := 10) (N := some 18) (v := ?_) (a' := ?_) #[true, true, true, true, true, true, true, true, true, true, true, false, false, false, false, false, false, false, false, false, false, false, false, false, false, false, false, false, false, false, false, false, false, false, false] rfl rfl (by kernel_rfl) (fun _ _ _ h => h) (Or.inl ⟨by rfl, ?_⟩) ?_ ?_
          rotate_left
          · intro w'
            go_simp
            with_reducible rfl
          rotate_left
          · simp only [Act.put, List.setIfInBounds_toArray, List.set_cons_zero, List.set_cons_succ, i64_w, i32_w]
            rfl
          refine pure_ (i := 12) (N := some 20) (v := ?_) (a' := ?_) #[true, true, true, true, true, true, true, true, true, true, true, false, true, false, false, false, false, false, false, false, false, false, false, false, false, false, false, false, false, false, false, false, false, false, false] rfl rfl (by kernel_rfl) (fun _ _ _ h => h) (Or.inl ⟨by rfl, ?_⟩) ?_ ?_
          rotate_left
          · intro w'
            go_simp
            with_reducible rfl
          rotate_left
          · simp only [Act.put, List.setIfInBounds_toArray, List.set_cons_zero, List.set_cons_succ, i64_w, i32_w]
            rfl
          refine take_ (i := 11) (N := some 19) (v := ?_) (a' := ?_) #[true, true, true, true, true, true, true, true, true, true, true, true, true, false, false, false, false, false, false, false, false, false, false, false, false, false, false, false, false, false, false, false, false, false, false] rfl rfl (by kernel_rfl) (fun _ _ _ h => h) (Or.inl ⟨by rfl, ?_⟩) hHeld ?_ ?_
          rotate_left
          · rintro w' ⟨s0, s1, s2⟩
            go_simp
            with_reducible rfl
          rotate_left
          · simp only [Act.put, List.setIfInBounds_toArray, List.set_cons_zero, List.set_cons_succ, i64_w, i32_w]
            rfl
          refine pure_ (i := 13) (N := some 21) (v := ?_) (a' := ?_) #[true, true, true, true, true, true, true, true, true, true, true, true, true, true, false, false, false, false, false, false, false, false, false, false, false, false, false, false, false, false, false, false, false, false, false] rfl rfl (by kernel_rfl) (fun _ _ _ h => h) (Or.inl ⟨by rfl, ?_⟩) ?_ ?_
          rotate_left
          · intro w'
            go_simp
            with_reducible rfl
          rotate_left
          · simp only [Act.put, List.setIfInBounds_toArray, List.set_cons_zero, List.set_cons_succ, i64_w, i32_w]
            rfl
          refine pure_ (i := 14) (N := some 22) (v := ?_) (a' := ?_) #[true, true, true, true, true, true, true, true, true, true, true, true, true, true, true, false, false, false, false, false, false, false, false, false, false, false, false, false, false, false, false, false, false, false, false] rfl rfl (by kernel_rfl) (fun _ _ _ h => h) (Or.inl ⟨by rfl, ?_⟩) ?_ ?_
          rotate_left
          · intro w'
            go_simp
            with_reducible rfl
          rotate_left
          · simp only [Act.put, List.setIfInBounds_toArray, List.set_cons_zero, List.set_cons_succ, i64_w, i32_w]
            rfl
          refine take_ (i := 15) (N := some 23) (v := ?_) (a' := ?_) #[true, true, true, true, true, true, true, true, true, true, true, true, true, true, true, true, false, false, false, false, false, false, false, false, false, false, false, false, false, false, false, false, false, false, false] rfl rfl (by kernel_rfl) (fun _ _ _ h => h) (Or.inl ⟨by rfl, ?_⟩) hHeld ?_ ?_
          rotate_left
          · rintro w' ⟨s0, s1, s2⟩
            go_simp
            with_reducible rfl
          rotate_left
          · simp only [Act.put, List.setIfInBounds_toArray, List.set_cons_zero, List.set_cons_succ, i64_w, i32_w]
            rfl
          refine one_ (i := 16) (N := some 24) #[true, true, true, true, true, true, true, true, true, true, true, true, true, true, true, true, true, false, false, false, false, false, false, false, false, false, false, false, false, false, false, false, false, false, false] rfl rfl (by kernel_rfl) (by decide) (fun K hK => ?_)
          refine goes_ Try.func49 (by kernel_rfl) rfl #[.int .i64 x.f0] (by rfl) rfl rfl (by simp only [List.map_toArray, List.map_cons, List.map_nil]; rfl) ?_
          with_reducible refine (HBC.out _).mono ?_
          rintro e w3 ⟨rfl, ⟨nd, rfl⟩⟩
          refine ⟨_, rfl, ?_⟩
          refine hK.out _ _ ⟨(blk_cell (blk_drewN H.out.g0 nd) 3).trans rfl, hx0, hx5⟩ (fun hHeld => ?_)
          clear hK K
          refine norm_ (a' := ?_) ?_ ?_
          rotate_left
          · show Act.put _ (some 24) _ = _
            simp only [Act.put, List.setIfInBounds_toArray, List.set_cons_zero, List.set_cons_succ, i64_w, i32_w]
            rfl
          refine pure_ (i := 17) (N := some 25) (v := ?_) (a' := ?_) #[true, true, true, true, true, true, true, true, true, true, true, true, true, true, true, true, true, true, false, false, false, false, false, false, false, false, false, false, false, false, false, false, false, false, false] rfl rfl (by kernel_rfl) (fun _ _ _ h => h) (Or.inl ⟨by rfl, ?_⟩) ?_ ?_
          rotate_left
          · intro w'
            go_simp
            with_reducible rfl
          rotate_left
          · simp only [Act.put, List.setIfInBounds_toArray, List.set_cons_zero, List.set_cons_succ, i64_w, i32_w]
            rfl
          refine pure_ (i := 18) (N := some 26) (v := ?_) (a' := ?_) #[true, true, true, true, true, true, true, true, true, true, true, true, true, true, true, true, true, true, true, false, false, false, false, false, false, false, false, false, false, false, false, false, false, false, false] rfl rfl (by kernel_rfl) (fun _ _ _ h => h) (Or.inl ⟨by rfl, ?_⟩) ?_ ?_
          rotate_left
          · intro w'
            go_simp
            with_reducible rfl
          rotate_left
          · simp only [Act.put, List.setIfInBounds_toArray, List.set_cons_zero, List.set_cons_succ, i64_w, i32_w]
            rfl
          refine pure_ (i := 19) (N := some 27) (v := ?_) (a' := ?_) #[true, true, true, true, true, true, true, true, true, true, true, true, true, true, true, true, true, true, true, true, false, false, false, false, false, false, false, false, false, false, false, false, false, false, false] rfl rfl (by kernel_rfl) (fun _ _ _ h => h) (Or.inl ⟨by rfl, ?_⟩) ?_ ?_
          rotate_left
          · intro w'
            go_simp
            with_reducible rfl
          rotate_left
          · simp only [Act.put, List.setIfInBounds_toArray, List.set_cons_zero, List.set_cons_succ, i64_w, i32_w]
            rfl
          refine pure_ (i := 20) (N := some 28) (v := ?_) (a' := ?_) #[true, true, true, true, true, true, true, true, true, true, true, true, true, true, true, true, true, true, true, true, true, false, false, false, false, false, false, false, false, false, false, false, false, false, false] rfl rfl (by kernel_rfl) (fun _ _ _ h => h) (Or.inl ⟨by rfl, ?_⟩) ?_ ?_
          rotate_left
          · intro w'
            go_simp
            with_reducible rfl
          rotate_left
          · simp only [Act.put, List.setIfInBounds_toArray, List.set_cons_zero, List.set_cons_succ, i64_w, i32_w]
            rfl
          refine pure_ (i := 22) (N := some 30) (v := ?_) (a' := ?_) #[true, true, true, true, true, true, true, true, true, true, true, true, true, true, true, true, true, true, true, true, true, false, true, false, false, false, false, false, false, false, false, false, false, false, false] rfl rfl (by kernel_rfl) (fun _ _ _ h => h) (Or.inl ⟨by rfl, ?_⟩) ?_ ?_
          rotate_left
          · intro w'
            go_simp
            with_reducible rfl
          rotate_left
          · simp only [Act.put, List.setIfInBounds_toArray, List.set_cons_zero, List.set_cons_succ, i64_w, i32_w]
            rfl
          refine pure_ (i := 26) (N := some 34) (v := ?_) (a' := ?_) #[true, true, true, true, true, true, true, true, true, true, true, true, true, true, true, true, true, true, true, true, true, false, true, false, false, false, true, false, false, false, false, false, false, false, false] rfl rfl (by kernel_rfl) (fun _ _ _ h => h) (Or.inl ⟨by rfl, ?_⟩) ?_ ?_
          rotate_left
          · intro w'
            go_simp
            with_reducible rfl
          rotate_left
          · simp only [Act.put, List.setIfInBounds_toArray, List.set_cons_zero, List.set_cons_succ, i64_w, i32_w]
            rfl
          refine take_ (i := 21) (N := some 29) (v := ?_) (a' := ?_) #[true, true, true, true, true, true, true, true, true, true, true, true, true, true, true, true, true, true, true, true, true, true, true, false, false, false, true, false, false, false, false, false, false, false, false] rfl rfl (by kernel_rfl) (fun _ _ _ h => h) (Or.inl ⟨by rfl, ?_⟩) hHeld ?_ ?_
          rotate_left
          · rintro w' ⟨s0, s1, s2⟩
            go_simp
            with_reducible rfl
          rotate_left
          · simp only [Act.put, List.setIfInBounds_toArray, List.set_cons_zero, List.set_cons_succ, i64_w, i32_w]
            rfl
          refine pure_ (i := 23) (N := some 31) (v := ?_) (a' := ?_) #[true, true, true, true, true, true, true, true, true, true, true, true, true, true, true, true, true, true, true, true, true, true, true, true, false, false, true, false, false, false, false, false, false, false, false] rfl rfl (by kernel_rfl) (fun _ _ _ h => h) (Or.inl ⟨by rfl, ?_⟩) ?_ ?_
          rotate_left
          · intro w'
            go_simp
            with_reducible rfl
          rotate_left
          · simp only [Act.put, List.setIfInBounds_toArray, List.set_cons_zero, List.set_cons_succ, i64_w, i32_w]
            rfl
          refine pure_ (i := 24) (N := some 32) (v := ?_) (a' := ?_) #[true, true, true, true, true, true, true, true, true, true, true, true, true, true, true, true, true, true, true, true, true, true, true, true, true, false, true, false, false, false, false, false, false, false, false] rfl rfl (by kernel_rfl) (fun _ _ _ h => h) (Or.inl ⟨by rfl, ?_⟩) ?_ ?_
          rotate_left
          · intro w'
            go_simp
            with_reducible rfl
          rotate_left
          · simp only [Act.put, List.setIfInBounds_toArray, List.set_cons_zero, List.set_cons_succ, i64_w, i32_w]
            rfl
          refine take_ (i := 25) (N := some 33) (v := ?_) (a' := ?_) #[true, true, true, true, true, true, true, true, true, true, true, true, true, true, true, true, true, true, true, true, true, true, true, true, true, true, true, false, false, false, false, false, false, false, false] rfl rfl (by kernel_rfl) (fun _ _ _ h => h) (Or.inl ⟨by rfl, ?_⟩) hHeld ?_ ?_
          rotate_left
          · rintro w' ⟨s0, s1, s2⟩
            go_simp
            with_reducible rfl
          rotate_left
          · simp only [Act.put, List.setIfInBounds_toArray, List.set_cons_zero, List.set_cons_succ, i64_w, i32_w]
            rfl
          refine one_ (i := 27) (N := some 35) #[true, true, true, true, true, true, true, true, true, true, true, true, true, true, true, true, true, true, true, true, true, true, true, true, true, true, true, true, false, false, false, false, false, false, false] rfl rfl (by kernel_rfl) (by decide) (fun K hK => ?_)
          refine goes_ Try.func20 (by kernel_rfl) rfl #[.string body] (by rfl) rfl rfl (by simp only [List.map_toArray, List.map_cons, List.map_nil]; rfl) ?_
          with_reducible refine (HLF.out _).mono ?_
          rintro e w4 ⟨rfl, hb⟩
          refine ⟨_, rfl, ?_⟩
          have H4 := Lib.hid ((H.out.drewN nd).below hb)
          refine hK.out _ _ ⟨(blk_cell H4.out.g0 3).trans rfl, (hb.cell (World.block_lt_of_cell? _ _ hx0)).trans hx0, (hb.cell (World.block_lt_of_cell? _ _ hx5)).trans hx5⟩ (fun hHeld => ?_)
          clear hK K
          refine norm_ (a' := ?_) ?_ ?_
          rotate_left
          · show Act.put _ (some 35) _ = _
            simp only [Act.put, List.setIfInBounds_toArray, List.set_cons_zero, List.set_cons_succ, i64_w, i32_w]
            rfl
          refine pure_ (i := 28) (N := some 36) (v := ?_) (a' := ?_) #[true, true, true, true, true, true, true, true, true, true, true, true, true, true, true, true, true, true, true, true, true, true, true, true, true, true, true, true, true, false, false, false, false, false, false] rfl rfl (by kernel_rfl) (fun _ _ _ h => h) (Or.inl ⟨by rfl, ?_⟩) ?_ ?_
          rotate_left
          · intro w'
            go_simp
            with_reducible rfl
          rotate_left
          · simp only [Act.put, List.setIfInBounds_toArray, List.set_cons_zero, List.set_cons_succ, i64_w, i32_w]
            rfl
          refine pure_ (i := 29) (N := some 37) (v := ?_) (a' := ?_) #[true, true, true, true, true, true, true, true, true, true, true, true, true, true, true, true, true, true, true, true, true, true, true, true, true, true, true, true, true, true, false, false, false, false, false] rfl rfl (by kernel_rfl) (fun _ _ _ h => h) (Or.inl ⟨by rfl, ?_⟩) ?_ ?_
          rotate_left
          · intro w'
            go_simp
            with_reducible rfl
          rotate_left
          · simp only [Act.put, List.setIfInBounds_toArray, List.set_cons_zero, List.set_cons_succ, i64_w, i32_w]
            rfl
          refine pure_ (i := 30) (N := some 38) (v := ?_) (a' := ?_) #[true, true, true, true, true, true, true, true, true, true, true, true, true, true, true, true, true, true, true, true, true, true, true, true, true, true, true, true, true, true, true, false, false, false, false] rfl rfl (by kernel_rfl) (fun _ _ _ h => h) (Or.inl ⟨by rfl, ?_⟩) ?_ ?_
          rotate_left
          · intro w'
            go_simp
            with_reducible rfl
          rotate_left
          · simp only [Act.put, List.setIfInBounds_toArray, List.set_cons_zero, List.set_cons_succ, i64_w, i32_w]
            rfl
          refine pure_ (i := 31) (N := some 39) (v := ?_) (a' := ?_) #[true, true, true, true, true, true, true, true, true, true, true, true, true, true, true, true, true, true, true, true, true, true, true, true, true, true, true, true, true, true, true, true, false, false, false] rfl rfl (by kernel_rfl) (fun _ _ _ h => h) (Or.inl ⟨by rfl, ?_⟩) ?_ ?_
          rotate_left
          · intro w'
            go_simp
            with_reducible rfl
          rotate_left
          · simp only [Act.put, List.setIfInBounds_toArray, List.set_cons_zero, List.set_cons_succ, i64_w, i32_w]
            rfl
          refine pure_ (i := 32) (N := some 40) (v := ?_) (a' := ?_) #[true, true, true, true, true, true, true, true, true, true, true, true, true, true, true, true, true, true, true, true, true, true, true, true, true, true, true, true, true, true, true, true, true, false, false] rfl rfl (by kernel_rfl) (fun _ _ _ h => h) (Or.inl ⟨by rfl, ?_⟩) ?_ ?_
          rotate_left
          · intro w'
            go_simp
            with_reducible rfl
          rotate_left
          · simp only [Act.put, List.setIfInBounds_toArray, List.set_cons_zero, List.set_cons_succ, i64_w, i32_w]
            rfl
          refine pure_ (i := 33) (N := some 41) (v := ?_) (a' := ?_) #[true, true, true, true, true, true, true, true, true, true, true, true, true, true, true, true, true, true, true, true, true, true, true, true, true, true, true, true, true, true, true, true, true, true, false] rfl rfl (by kernel_rfl) (fun _ _ _ h => h) (Or.inl ⟨by rfl, ?_⟩) ?_ ?_
          rotate_left
          · intro w'
            go_simp
            with_reducible rfl
          rotate_left
          · simp only [Act.put, List.setIfInBounds_toArray, List.set_cons_zero, List.set_cons_succ, i64_w, i32_w]
            rfl
          refine pure_ (i := 34) (N := some 42) (v := ?_) (a' := ?_) #[true, true, true, true, true, true, true, true, true, true, true, true, true, true, true, true, true, true, true, true, true, true, true, true, true, true, true, true, true, true, true, true, true, true, true] rfl rfl (by kernel_rfl) (fun _ _ _ h => h) (Or.inl ⟨by rfl, ?_⟩) ?_ ?_
          rotate_left
          · intro w'
            go_simp
            with_reducible rfl
          rotate_left
          · simp only [Act.put, List.setIfInBounds_toArray, List.set_cons_zero, List.set_cons_succ, i64_w, i32_w]
            rfl
          refine done_ (by kernel_rfl) ?_
          go_wp2
          go_meet
          case rel => exact ⟨rfl, H4⟩
      · have ht1 : (x.f5.toList == t.toList) = false := beq_eq_false_iff_ne.2 ht
        have ht2 : (x.f5.toList != t.toList) = true := by rw [bne, ht1]; rfl
        obtain rfl : b = false := by rw [← hb, ht1]; rfl
        clear hb
        refine start_ (n := 35) (S := fun w' => w'.cell? ⟨w.heap.size, 3, none⟩ = some (.slice (some ad) len c) ∧ w'.cell? (ad.add (i.toNat * 8)) = some (.int .i64 x.f0) ∧ w'.cell? ⟨(ad.add (i.toNat * 8)).block, (ad.add (i.toNat * 8)).off + 5, none⟩ = some (.string x.f5)) (ds := []) #[false, false, false, false, false, false, false, false, false, false, false, false, false, false, false, false, false, false, false, false, false, false, false, false, false, false, false, false, false, false, false, false, false, false, false] (by kernel_rfl) rfl rfl ⟨(blk_cell H.out.g0 3).trans rfl, hx0, hx5⟩ (fun hHeld => ?_)
        refine pure_ (i := 0) (N := some 8) (v := ?_) (a' := ?_) #[true, false, false, false, false, false, false, false, false, false, false, false, false, false, false, false, false, false, false, false, false, false, false, false, false, false, false, false, false, false, false, false, false, false, false] rfl rfl (by kernel_rfl) (fun _ _ _ h => h) (Or.inl ⟨by rfl, ?_⟩) ?_ ?_
        rotate_left
        · intro w'
          go_simp
          with_reducible rfl
        rotate_left
        · simp only [Act.put, List.setIfInBounds_toArray, List.set_cons_zero, List.set_cons_succ, i64_w, i32_w]
          rfl
        refine pure_ (i := 1) (N := some 9) (v := ?_) (a' := ?_) #[true, true, false, false, false, false, false, false, false, false, false, false, false, false, false, false, false, false, false, false, false, false, false, false, false, false, false, false, false, false, false, false, false, false, false] rfl rfl (by kernel_rfl) (fun _ _ _ h => h) (Or.inl ⟨by rfl, ?_⟩) ?_ ?_
        rotate_left
        · intro w'
          go_simp
          with_reducible rfl
        rotate_left
        · simp only [Act.put, List.setIfInBounds_toArray, List.set_cons_zero, List.set_cons_succ, i64_w, i32_w]
          rfl
        refine pure_ (i := 2) (N := some 10) (v := ?_) (a' := ?_) #[true, true, true, false, false, false, false, false, false, false, false, false, false, false, false, false, false, false, false, false, false, false, false, false, false, false, false, false, false, false, false, false, false, false, false] rfl rfl (by kernel_rfl) (fun _ _ _ h => h) (Or.inl ⟨by rfl, ?_⟩) ?_ ?_
        rotate_left
        · intro w'
          go_simp
          with_reducible rfl
        rotate_left
        · simp only [Act.put, List.setIfInBounds_toArray, List.set_cons_zero, List.set_cons_succ, i64_w, i32_w]
          rfl
        refine pure_ (i := 3) (N := some 11) (v := ?_) (a' := ?_) #[true, true, true, true, false, false, false, false, false, false, false, false, false, false, false, false, false, false, false, false, false, false, false, false, false, false, false, false, false, false, false, false, false, false, false] rfl rfl (by kernel_rfl) (fun _ _ _ h => h) (Or.inl ⟨by rfl, ?_⟩) ?_ ?_
        rotate_left
        · intro w'
          go_simp
          with_reducible rfl
        rotate_left
        · simp only [Act.put, List.setIfInBounds_toArray, List.set_cons_zero, List.set_cons_succ, i64_w, i32_w]
          rfl
        refine pure_ (i := 4) (N := some 12) (v := ?_) (a' := ?_) #[true, true, true, true, true, false, false, false, false, false, false, false, false, false, false, false, false, false, false, false, false, false, false, false, false, false, false, false, false, false, false, false, false, false, false] rfl rfl (by kernel_rfl) (fun _ _ _ h => h) (Or.inl ⟨by rfl, ?_⟩) ?_ ?_
        rotate_left
        · intro w'
          go_simp
          with_reducible rfl
        rotate_left
        · simp only [Act.put, List.setIfInBounds_toArray, List.set_cons_zero, List.set_cons_succ, i64_w, i32_w]
          rfl
        refine take_ (i := 5) (N := some 13) (v := ?_) (a' := ?_) #[true, true, true, true, true, true, false, false, false, false, false, false, false, false, false, false, false, false, false, false, false, false, false, false, false, false, false, false, false, false, false, false, false, false, false] rfl rfl (by kernel_rfl) (fun _ _ _ h => h) (Or.inl ⟨by rfl, ?_⟩) hHeld ?_ ?_
        rotate_left
        · rintro w' ⟨s0, s1, s2⟩
          go_simp
          with_reducible rfl
        rotate_left
        · simp only [Act.put, List.setIfInBounds_toArray, List.set_cons_zero, List.set_cons_succ, i64_w, i32_w]
          rfl
        refine pure_ (i := 6) (N := some 14) (v := ?_) (a' := ?_) #[true, true, true, true, true, true, true, false, false, false, false, false, false, false, false, false, false, false, false, false, false, false, false, false, false, false, false, false, false, false, false, false, false, false, false] rfl rfl (by kernel_rfl) (fun _ _ _ h => h) (Or.inl ⟨by rfl, ?_⟩) ?_ ?_
        rotate_left
        · intro w'
          go_simp
          with_reducible rfl
        rotate_left
        · simp only [Act.put, List.setIfInBounds_toArray, List.set_cons_zero, List.set_cons_succ, i64_w, i32_w]
          rfl
        refine pure_ (i := 7) (N := some 15) (v := ?_) (a' := ?_) #[true, true, true, true, true, true, true, true, false, false, false, false, false, false, false, false, false, false, false, false, false, false, false, false, false, false, false, false, false, false, false, false, false, false, false] rfl rfl (by kernel_rfl) (fun _ _ _ h => h) (Or.inl ⟨by rfl, ?_⟩) ?_ ?_
        rotate_left
        · intro w'
          go_simp
          with_reducible rfl
        rotate_left
        · simp only [Act.put, List.setIfInBounds_toArray, List.set_cons_zero, List.set_cons_succ, i64_w, i32_w]
          rfl
        refine pure_ (i := 8) (N := some 16) (v := ?_) (a' := ?_) #[true, true, true, true, true, true, true, true, true, false, false, false, false, false, false, false, false, false, false, false, false, false, false, false, false, false, false, false, false, false, false, false, false, false, false] rfl rfl (by kernel_rfl) (fun _ _ _ h => h) (Or.inl ⟨by rfl, ?_⟩) ?_ ?_
        rotate_left
        · intro w'
          go_simp
          with_reducible rfl
        rotate_left
        · simp only [Act.put, List.setIfInBounds_toArray, List.set_cons_zero, List.set_cons_succ, i64_w, i32_w]
          rfl
        refine pure_ (i := 9) (N := some 17) (v := ?_) (a' := ?_) #[true, true, true, true, true, true, true, true, true, true, false, false, false, false, false, false, false, false, false, false, false, false, false, false, false, false, false, false, false, false, false, false, false, false, false] rfl rfl (by kernel_rfl) (fun _ _ _ h => h) (Or.inl ⟨by rfl, ?_⟩) ?_ ?_
        rotate_left
        · intro w'
          go_simp
          with_reducible rfl
        rotate_left
        · simp only [Act.put, List.setIfInBounds_toArray, List.set_cons_zero, List.set_cons_succ, i64_w, i32_w]
          rfl
        refine pure_ (i := 10) (N := some 18) (v := ?_) (a' := ?_) #[true, true, true, true, true, true, true, true, true, true, true, false, false, false, false, false, false, false, false, false, false, false, false, false, false, false, false, false, false, false, false, false, false, false, false] rfl rfl (by kernel_rfl) (fun _ _ _ h => h) (Or.inl ⟨by rfl, ?_⟩) ?_ ?_
        rotate_left
        · intro w'
          go_simp
          with_reducible rfl
        rotate_left
        · simp only [Act.put, List.setIfInBounds_toArray, List.set_cons_zero, List.set_cons_succ, i64_w, i32_w]
          rfl
        refine pure_ (i := 12) (N := some 20) (v := ?_) (a' := ?_) #[true, true, true, true, true, true, true, true, true, true, true, false, true, false, false, false, false, false, false, false, false, false, false, false, false, false, false, false, false, false, false, false, false, false, false] rfl rfl (by kernel_rfl) (fun _ _ _ h => h) (Or.inl ⟨by rfl, ?_⟩) ?_ ?_
        rotate_left
        · intro w'
          go_simp
          with_reducible rfl
        rotate_left
        · simp only [Act.put, List.setIfInBounds_toArray, List.set_cons_zero, List.set_cons_succ, i64_w, i32_w]
          rfl
        refine take_ (i := 11) (N := some 19) (v := ?_) (a' := ?_) #[true, true, true, true, true, true, true, true, true, true, true, true, true, false, false, false, false, false, false, false, false, false, false, false, false, false, false, false, false, false, false, false, false, false, false] rfl rfl (by kernel_rfl) (fun _ _ _ h => h) (Or.inl ⟨by rfl, ?_⟩) hHeld ?_ ?_
        rotate_left
        · rintro w' ⟨s0, s1, s2⟩
          go_simp
          with_reducible rfl
        rotate_left
        · simp only [Act.put, List.setIfInBounds_toArray, List.set_cons_zero, List.set_cons_succ, i64_w, i32_w]
          rfl
        refine pure_ (i := 13) (N := some 21) (v := ?_) (a' := ?_) #[true, true, true, true, true, true, true, true, true, true, true, true, true, true, false, false, false, false, false, false, false, false, false, false, false, false, false, false, false, false, false, false, false, false, false] rfl rfl (by kernel_rfl) (fun _ _ _ h => h) (Or.inl ⟨by rfl, ?_⟩) ?_ ?_
        rotate_left
        · intro w'
          go_simp
          with_reducible rfl
        rotate_left
        · simp only [Act.put, List.setIfInBounds_toArray, List.set_cons_zero, List.set_cons_succ, i64_w, i32_w]
          rfl
        refine pure_ (i := 14) (N := some 22) (v := ?_) (a' := ?_) #[true, true, true, true, true, true, true, true, true, true, true, true, true, true, true, false, false, false, false, false, false, false, false, false, false, false, false, false, false, false, false, false, false, false, false] rfl rfl (by kernel_rfl) (fun _ _ _ h => h) (Or.inl ⟨by rfl, ?_⟩) ?_ ?_
        rotate_left
        · intro w'
          go_simp
          with_reducible rfl
        rotate_left
        · simp only [Act.put, List.setIfInBounds_toArray, List.set_cons_zero, List.set_cons_succ, i64_w, i32_w]
          rfl
        refine take_ (i := 15) (N := some 23) (v := ?_) (a' := ?_) #[true, true, true, true, true, true, true, true, true, true, true, true, true, true, true, true, false, false, false, false, false, false, false, false, false, false, false, false, false, false, false, false, false, false, false] rfl rfl (by kernel_rfl) (fun _ _ _ h => h) (Or.inl ⟨by rfl, ?_⟩) hHeld ?_ ?_
        rotate_left
        · rintro w' ⟨s0, s1, s2⟩
          go_simp
          with_reducible rfl
        rotate_left
        · simp only [Act.put, List.setIfInBounds_toArray, List.set_cons_zero, List.set_cons_succ, i64_w, i32_w]
          rfl
        refine one_ (i := 16) (N := some 24) #[true, true, true, true, true, true, true, true, true, true, true, true, true, true, true, true, true, false, false, false, false, false, false, false, false, false, false, false, false, false, false, false, false, false, false] rfl rfl (by kernel_rfl) (by decide) (fun K hK => ?_)
        refine goes_ Try.func49 (by kernel_rfl) rfl #[.int .i64 x.f0] (by rfl) rfl rfl (by simp only [List.map_toArray, List.map_cons, List.map_nil]; rfl) ?_
        with_reducible refine (HBC.out _).mono ?_
        rintro e w3 ⟨rfl, ⟨nd, rfl⟩⟩
        refine ⟨_, rfl, ?_⟩
        refine hK.out _ _ ⟨(blk_cell (blk_drewN H.out.g0 nd) 3).trans rfl, hx0, hx5⟩ (fun hHeld => ?_)
        clear hK K
        refine norm_ (a' := ?_) ?_ ?_
        rotate_left
        · show Act.put _ (some 24) _ = _
          simp only [Act.put, List.setIfInBounds_toArray, List.set_cons_zero, List.set_cons_succ, i64_w, i32_w]
          rfl
        refine pure_ (i := 17) (N := some 25) (v := ?_) (a' := ?_) #[true, true, true, true, true, true, true, true, true, true, true, true, true, true, true, true, true, true, false, false, false, false, false, false, false, false, false, false, false, false, false, false, false, false, false] rfl rfl (by kernel_rfl) (fun _ _ _ h => h) (Or.inl ⟨by rfl, ?_⟩) ?_ ?_
        rotate_left
        · intro w'
          go_simp
          with_reducible rfl
        rotate_left
        · simp only [Act.put, List.setIfInBounds_toArray, List.set_cons_zero, List.set_cons_succ, i64_w, i32_w]
          rfl
        refine pure_ (i := 18) (N := some 26) (v := ?_) (a' := ?_) #[true, true, true, true, true, true, true, true, true, true, true, true, true, true, true, true, true, true, true, false, false, false, false, false, false, false, false, false, false, false, false, false, false, false, false] rfl rfl (by kernel_rfl) (fun _ _ _ h => h) (Or.inl ⟨by rfl, ?_⟩) ?_ ?_
        rotate_left
        · intro w'
          go_simp
          with_reducible rfl
        rotate_left
        · simp only [Act.put, List.setIfInBounds_toArray, List.set_cons_zero, List.set_cons_succ, i64_w, i32_w]
          rfl
        refine pure_ (i := 19) (N := some 27) (v := ?_) (a' := ?_) #[true, true, true, true, true, true, true, true, true, true, true, true, true, true, true, true, true, true, true, true, false, false, false, false, false, false, false, false, false, false, false, false, false, false, false] rfl rfl (by kernel_rfl) (fun _ _ _ h => h) (Or.inl ⟨by rfl, ?_⟩) ?_ ?_
        rotate_left
        · intro w'
          go_simp
          with_reducible rfl
        rotate_left
        · simp only [Act.put, List.setIfInBounds_toArray, List.set_cons_zero, List.set_cons_succ, i64_w, i32_w]
          rfl
        refine pure_ (i := 20) (N := some 28) (v := ?_) (a' := ?_) #[true, true, true, true, true, true, true, true, true, true, true, true, true, true, true, true, true, true, true, true, true, false, false, false, false, false, false, false, false, false, false, false, false, false, false] rfl rfl (by kernel_rfl) (fun _ _ _ h => h) (Or.inl ⟨by rfl, ?_⟩) ?_ ?_
        rotate_left
        · intro w'
          go_simp
          with_reducible rfl
        rotate_left
        · simp only [Act.put, List.setIfInBounds_toArray, List.set_cons_zero, List.set_cons_succ, i64_w, i32_w]
          rfl
        refine pure_ (i := 22) (N := some 30) (v := ?_) (a' := ?_) #[true, true, true, true, true, true, true, true, true, true, true, true, true, true, true, true, true, true, true, true, true, false, true, false, false, false, false, false, false, false, false, false, false, false, false] rfl rfl (by kernel_rfl) (fun _ _ _ h => h) (Or.inl ⟨by rfl, ?_⟩) ?_ ?_
        rotate_left
        · intro w'
          go_simp
          with_reducible rfl
        rotate_left
        · simp only [Act.put, List.setIfInBounds_toArray, List.set_cons_zero, List.set_cons_succ, i64_w, i32_w]
          rfl
        refine pure_ (i := 26) (N := some 34) (v := ?_) (a' := ?_) #[true, true, true, true, true, true, true, true, true, true, true, true, true, true, true, true, true, true, true, true, true, false, true, false, false, false, true, false, false, false, false, false, false, false, false] rfl rfl (by kernel_rfl) (fun _ _ _ h => h) (Or.inl ⟨by rfl, ?_⟩) ?_ ?_
        rotate_left
        · intro w'
          go_simp
          with_reducible rfl
        rotate_left
        · simp only [Act.put, List.setIfInBounds_toArray, List.set_cons_zero, List.set_cons_succ, i64_w, i32_w]
          rfl
        refine take_ (i := 21) (N := some 29) (v := ?_) (a' := ?_) #[true, true, true, true, true, true, true, true, true, true, true, true, true, true, true, true, true, true, true, true, true, true, true, false, false, false, true, false, false, false, false, false, false, false, false] rfl rfl (by kernel_rfl) (fun _ _ _ h => h) (Or.inl ⟨by rfl, ?_⟩) hHeld ?_ ?_
        rotate_left
        · rintro w' ⟨s0, s1, s2⟩
          go_simp
          with_reducible rfl
        rotate_left
        · simp only [Act.put, List.setIfInBounds_toArray, List.set_cons_zero, List.set_cons_succ, i64_w, i32_w]
          rfl
        refine pure_ (i := 23) (N := some 31) (v := ?_) (a' := ?_) #[true, true, true, true, true, true, true, true, true, true, true, true, true, true, true, true, true, true, true, true, true, true, true, true, false, false, true, false, false, false, false, false, false, false, false] rfl rfl (by kernel_rfl) (fun _ _ _ h => h) (Or.inl ⟨by rfl, ?_⟩) ?_ ?_
        rotate_left
        · intro w'
          go_simp
          with_reducible rfl
        rotate_left
        · simp only [Act.put, List.setIfInBounds_toArray, List.set_cons_zero, List.set_cons_succ, i64_w, i32_w]
          rfl
        refine pure_ (i := 24) (N := some 32) (v := ?_) (a' := ?_) #[true, true, true, true, true, true, true, true, true, true, true, true, true, true, true, true, true, true, true, true, true, true, true, true, true, false, true, false, false, false, false, false, false, false, false] rfl rfl (by kernel_rfl) (fun _ _ _ h => h) (Or.inl ⟨by rfl, ?_⟩) ?_ ?_
        rotate_left
        · intro w'
          go_simp
          with_reducible rfl
        rotate_left
        · simp only [Act.put, List.setIfInBounds_toArray, List.set_cons_zero, List.set_cons_succ, i64_w, i32_w]
          rfl
        refine take_ (i := 25) (N := some 33) (v := ?_) (a' := ?_) #[true, true, true, true, true, true, true, true, true, true, true, true, true, true, true, true, true, true, true, true, true, true, true, true, true, true, true, false, false, false, false, false, false, false, false] rfl rfl (by kernel_rfl) (fun _ _ _ h => h) (Or.inl ⟨by rfl, ?_⟩) hHeld ?_ ?_
        rotate_left
        · rintro w' ⟨s0, s1, s2⟩
          go_simp
          with_reducible rfl
        rotate_left
        · simp only [Act.put, List.setIfInBounds_toArray, List.set_cons_zero, List.set_cons_succ, i64_w, i32_w]
          rfl
        refine one_ (i := 27) (N := some 35) #[true, true, true, true, true, true, true, true, true, true, true, true, true, true, true, true, true, true, true, true, true, true, true, true, true, true, true, true, false, false, false, false, false, false, false] rfl rfl (by kernel_rfl) (by decide) (fun K hK => ?_)
        refine goes_ Try.func20 (by kernel_rfl) rfl #[.string body] (by rfl) rfl rfl (by simp only [List.map_toArray, List.map_cons, List.map_nil]; rfl) ?_
        with_reducible refine (HLF.out _).mono ?_
        rintro e w4 ⟨rfl, hb⟩
        refine ⟨_, rfl, ?_⟩
        have H4 := Lib.hid ((H.out.drewN nd).below hb)
        refine hK.out _ _ ⟨(blk_cell H4.out.g0 3).trans rfl, (hb.cell (World.block_lt_of_cell? _ _ hx0)).trans hx0, (hb.cell (World.block_lt_of_cell? _ _ hx5)).trans hx5⟩ (fun hHeld => ?_)
        clear hK K
        refine norm_ (a' := ?_) ?_ ?_
        rotate_left
        · show Act.put _ (some 35) _ = _
          simp only [Act.put, List.setIfInBounds_toArray, List.set_cons_zero, List.set_cons_succ, i64_w, i32_w]
          rfl
        refine pure_ (i := 28) (N := some 36) (v := ?_) (a' := ?_) #[true, true, true, true, true, true, true, true, true, true, true, true, true, true, true, true, true, true, true, true, true, true, true, true, true, true, true, true, true, false, false, false, false, false, false] rfl rfl (by kernel_rfl) (fun _ _ _ h => h) (Or.inl ⟨by rfl, ?_⟩) ?_ ?_
        rotate_left
        · intro w'
          go_simp
          with_reducible rfl
        rotate_left
        · simp only [Act.put, List.setIfInBounds_toArray, List.set_cons_zero, List.set_cons_succ, i64_w, i32_w]
          rfl
        refine pure_ (i := 29) (N := some 37) (v := ?_) (a' := ?_) #[true, true, true, true, true, true, true, true, true, true, true, true, true, true, true, true, true, true, true, true, true, true, true, true, true, true, true, true, true, true, false, false, false, false, false] rfl rfl (by kernel_rfl) (fun _ _ _ h => h) (Or.inl ⟨by rfl, ?_⟩) ?_ ?_
        rotate_left
        · intro w'
          go_simp
          with_reducible rfl
        rotate_left
        · simp only [Act.put, List.setIfInBounds_toArray, List.set_cons_zero, List.set_cons_succ, i64_w, i32_w]
          rfl
        refine pure_ (i := 30) (N := some 38) (v := ?_) (a' := ?_) #[true, true, true, true, true, true, true, true, true, true, true, true, true, true, true, true, true, true, true, true, true, true, true, true, true, true, true, true, true, true, true, false, false, false, false] rfl rfl (by kernel_rfl) (fun _ _ _ h => h) (Or.inl ⟨by rfl, ?_⟩) ?_ ?_
        rotate_left
        · intro w'
          go_simp
          with_reducible rfl
        rotate_left
        · simp only [Act.put, List.setIfInBounds_toArray, List.set_cons_zero, List.set_cons_succ, i64_w, i32_w]
          rfl
        refine pure_ (i := 31) (N := some 39) (v := undef) (a' := ?_) #[true, true, true, true, true, true, true, true, true, true, true, true, true, true, true, true, true, true, true, true, true, true, true, true, true, true, true, true, true, true, true, true, false, false, false] rfl rfl (by kernel_rfl) (fun _ _ _ h => h) (Or.inr ⟨by rfl, rfl⟩) ?_ ?_
        rotate_left
        · simp only [Act.put, List.setIfInBounds_toArray, List.set_cons_zero, List.set_cons_succ, i64_w, i32_w]
          rfl
        refine pure_ (i := 32) (N := some 40) (v := undef) (a' := ?_) #[true, true, true, true, true, true, true, true, true, true, true, true, true, true, true, true, true, true, true, true, true, true, true, true, true, true, true, true, true, true, true, true, true, false, false] rfl rfl (by kernel_rfl) (fun _ _ _ h => h) (Or.inr ⟨by rfl, rfl⟩) ?_ ?_
        rotate_left
        · simp only [Act.put, List.setIfInBounds_toArray, List.set_cons_zero, List.set_cons_succ, i64_w, i32_w]
          rfl
        refine pure_ (i := 33) (N := some 41) (v := undef) (a' := ?_) #[true, true, true, true, true, true, true, true, true, true, true, true, true, true, true, true, true, true, true, true, true, true, true, true, true, true, true, true, true, true, true, true, true, true, false] rfl rfl (by kernel_rfl) (fun _ _ _ h => h) (Or.inr ⟨by rfl, rfl⟩) ?_ ?_
        rotate_left
        · simp only [Act.put, List.setIfInBounds_toArray, List.set_cons_zero, List.set_cons_succ, i64_w, i32_w]
          rfl
        refine pure_ (i := 34) (N := some 42) (v := ?_) (a' := ?_) #[true, true, true, true, true, true, true, true, true, true, true, true, true, true, true, true, true, true, true, true, true, true, true, true, true, true, true, true, true, true, true, true, true, true, true] rfl rfl (by kernel_rfl) (fun _ _ _ h => h) (Or.inl ⟨by rfl, ?_⟩) ?_ ?_
        rotate_left
        · intro w'
          go_simp
          with_reducible rfl
        rotate_left
        · simp only [Act.put, List.setIfInBounds_toArray, List.set_cons_zero, List.set_cons_succ, i64_w, i32_w]
          rfl
        refine done_ (by kernel_rfl) ?_
        go_wp2
        go_meet
        case rel => exact ⟨rfl, H4⟩
  case rest =>
    obtain ⟨rfl, H⟩ := hcut
    clear H0 HLF
    cases b with
    | false =>
      have b0 := (blk_cell H.out.g0 0).trans rfl
      have b1 := (blk_cell H.out.g0 1).trans rfl
      have b2 := (blk_cell H.out.g0 2).trans rfl
      have b3 := (blk_cell H.out.g0 3).trans rfl
      have r0 := (blk_cell H.out.g1 0).trans rfl
      have r1 := (blk_cell H.out.g1 1).trans rfl
      have r2 := (blk_cell H.out.g1 2).trans rfl
      have r3 := (blk_cell H.out.g1 3).trans rfl
      have f0 := blk_frozen H.out.g1 0
      have f1 := blk_frozen H.out.g1 1
      have f2 := blk_frozen H.out.g1 2
      have f3 := blk_frozen H.out.g1 3
      go_wp2_with fail
      exact bodyPost_ret (results_ct rfl _ _ (w.heap.size + 1) 25 _ (0, 0) _ rfl (put4 H.out.g1) Try.underlying25 rfl (by kernel_rfl)) rfl ⟨_, rfl, rfl, below4 H.out.b (by omega)⟩
    | true =>
      have hwi := HWI.out
      unfold wi at hwi
      simp only [Bool.and_eq_true, decide_eq_true_eq] at hwi
      obtain ⟨⟨⟨⟨h2, h3⟩, _⟩, _⟩, _⟩ := hwi
      rw [HL.out] at h3
      obtain ⟨ad, hA, _⟩ := at_T47 HC.out i h2 h3
      subst hA
      have c3' : wc.cell? ⟨w.heap.size, 3, none⟩ = some (.slice (some ad) len c) := (blk_cell H.out.g0 3).trans rfl
      have hi0 : ¬ i < 0 := by omega
      have hi1 : ¬ (len : Int) ≤ i := by omega
      have hd1 : decide ((len : Int) ≤ i) = false := decide_eq_false hi1
      go_wp2_with (at_builtin; refine Kd.R_append_rows k47 (Rr := k47.K _) (w0 := w) w.heap.size rfl (.const (.slice none 0 0)) (.tmp 45) 23 47 _ 96 rfl Try.underlying23 info47 rfl (by decide) (by decide) (.slice none 0 0) [] l (some ad) len c (fun _ => True) (fun _ => False) rfl rfl (Kd.R_nil _ _ _ _ _) (Kd.C_below HC.out H.out.b) (fun x cs h => by obtain rfl := k47_open h; exact k47_mkM _ _ _ x) (fun _ h => h.elim) (fun _ _ => trivial) H.out.b H.out.b.size (by simp; omega) ?_)
      intro v1 w1 hR hB hg hat
      have G0 := blk_grown H.out.g0 hg (by simp [Value.ownBlock])
      have G1 := blk_grown H.out.g1 hg (by simp [Value.ownBlock])
      obtain ⟨g, cap, rfl, hgb, hgl, _⟩ := Kd.R_form hR (by have := HL.out; simp; omega)
      rw [HL.out] at hR ⊢
      have f0 := blk_frozen G0 3
      have c3 : w1.cell? ⟨w.heap.size, 3, none⟩ = some (.slice (some ad) len c) := (blk_cell G0 3).trans rfl
      have HR1 := Kd.R_set hR G0 (by decide) 3 (.slice (some ⟨g, 0, none⟩) len cap)
      have hG0 := blk_put G0 3 (.slice (some ⟨g, 0, none⟩) len cap) rfl
      have hG1 := blk_far (p := ⟨w.heap.size, 3, none⟩) G1 (by simp) (.slice (some ⟨g, 0, none⟩) len cap)
      have hBB := hB.setCell (p := ⟨w.heap.size, 3, none⟩) (Nat.le_refl _) (.slice (some ⟨g, 0, none⟩) len cap)
      have hne : w.heap.size ≠ g := fun e => Kd.R_ne hR G0 (by decide) (by rw [e]; rfl)
      have hne1 : w.heap.size + 1 ≠ g := fun e => Kd.R_ne hR G1 (by decide) (by rw [e]; rfl)
      clear hat hg hR H c3'
      go_upto_region 4 with fail
      clear f0 c3 G0 G1 hB
      generalize w1.setCell ⟨w.heap.size, 3, none⟩ (.slice (some ⟨g, 0, none⟩) len cap) = W at HR1 hG0 hG1 hBB ⊢
      have G0 := Lib.hid hG0
      have G1 := Lib.hid hG1
      have HB := Lib.hid hBB
      clear hG0 hG1 hBB
      obtain ⟨cf, hcl, hN, hcc, hfr⟩ := Kd.R_elem HR1 z47 i h2 h3
      obtain rfl := k47_openM hN
      have e6 : W.cell? ⟨g, i.toNat * 8 + 6, none⟩ = some _ := hcc 6 _ rfl
      have q6 : W.frozen? ⟨g, i.toNat * 8 + 6, none⟩ = false := hfr 6
      have e7 : W.cell? ⟨g, i.toNat * 8 + 7, none⟩ = some _ := hcc 7 _ rfl
      have q7 : W.frozen? ⟨g, i.toNat * 8 + 7, none⟩ = false := hfr 7
      have hgd : (l.set i.toNat (laid (l.getD i.toNat z47) body)).getD i.toNat z47 = laid (l.getD i.toNat z47) body := by
        have := HL.out
        rw [List.getD_eq_getElem?_getD, List.getElem?_set_self (by omega)]
        rfl
      refine start_ (n := 13) (S := fun w' => w'.cell? ⟨w.heap.size, 3, none⟩ = some (.slice (some ⟨g, 0, none⟩) len cap)) (ds := []) #[false, false, false, false, false, false, false, false, false, false, false, false, false] (by kernel_rfl) rfl rfl ((blk_cell G0.out 3).trans rfl) (fun hHeld => ?_)
      refine pure_ (i := 0) (N := some 48) (v := ?_) (a' := ?_) #[true, false, false, false, false, false, false, false, false, false, false, false, false] rfl rfl (by kernel_rfl) (fun _ _ _ h => h) (Or.inl ⟨by rfl, ?_⟩) ?_ ?_
      rotate_left
      · intro w'
        go_simp
        with_reducible rfl
      rotate_left
      · simp only [Act.put, List.setIfInBounds_toArray, List.set_cons_zero, List.set_cons_succ, i64_w, i32_w]
        rfl
      refine pure_ (i := 2) (N := some 50) (v := ?_) (a' := ?_) #[true, false, true, false, false, false, false, false, false, false, false, false, false] rfl rfl (by kernel_rfl) (fun _ _ _ h => h) (Or.inl ⟨by rfl, ?_⟩) ?_ ?_
      rotate_left
      · intro w'
        go_simp
        with_reducible rfl
      rotate_left
      · simp only [Act.put, List.setIfInBounds_toArray, List.set_cons_zero, List.set_cons_succ, i64_w, i32_w]
        rfl
      refine pure_ (i := 3) (N := some 51) (v := ?_) (a' := ?_) #[true, false, true, true, false, false, false, false, false, false, false, false, false] rfl rfl (by kernel_rfl) (fun _ _ _ h => h) (Or.inl ⟨by rfl, ?_⟩) ?_ ?_
      rotate_left
      · intro w'
        go_simp
        with_reducible rfl
      rotate_left
      · simp only [Act.put, List.setIfInBounds_toArray, List.set_cons_zero, List.set_cons_succ, i64_w, i32_w]
        rfl
      refine pure_ (i := 5) (N := some 53) (v := ?_) (a' := ?_) #[true, false, true, true, false, true, false, false, false, false, false, false, false] rfl rfl (by kernel_rfl) (fun _ _ _ h => h) (Or.inl ⟨by rfl, ?_⟩) ?_ ?_
      rotate_left
      · intro w'
        go_simp
        with_reducible rfl
      rotate_left
      · simp only [Act.put, List.setIfInBounds_toArray, List.set_cons_zero, List.set_cons_succ, i64_w, i32_w]
        rfl
      refine pure_ (i := 6) (N := some 54) (v := ?_) (a' := ?_) #[true, false, true, true, false, true, true, false, false, false, false, false, false] rfl rfl (by kernel_rfl) (fun _ _ _ h => h) (Or.inl ⟨by rfl, ?_⟩) ?_ ?_
      rotate_left
      · intro w'
        go_simp
        with_reducible rfl
      rotate_left
      · simp only [Act.put, List.setIfInBounds_toArray, List.set_cons_zero, List.set_cons_succ, i64_w, i32_w]
        rfl
      refine take_ (i := 1) (N := some 49) (v := ?_) (a' := ?_) #[true, true, true, true, false, true, true, false, false, false, false, false, false] rfl rfl (by kernel_rfl) (fun _ _ _ h => h) (Or.inl ⟨by rfl, ?_⟩) hHeld ?_ ?_
      rotate_left
      · intro w' s0
        go_simp
        with_reducible rfl
      rotate_left
      · simp only [Act.put, List.setIfInBounds_toArray, List.set_cons_zero, List.set_cons_succ, i64_w, i32_w]
        rfl
      refine pure_ (i := 7) (N := some 55) (v := ?_) (a' := ?_) #[true, true, true, true, false, true, true, true, false, false, false, false, false] rfl rfl (by kernel_rfl) (fun _ _ _ h => h) (Or.inl ⟨by rfl, ?_⟩) ?_ ?_
      rotate_left
      · intro w'
        go_simp
        with_reducible rfl
      rotate_left
      · simp only [Act.put, List.setIfInBounds_toArray, List.set_cons_zero, List.set_cons_succ, i64_w, i32_w]
        rfl
      refine pure_ (i := 8) (N := some 56) (v := ?_) (a' := ?_) #[true, true, true, true, false, true, true, true, true, false, false, false, false] rfl rfl (by kernel_rfl) (fun _ _ _ h => h) (Or.inl ⟨by rfl, ?_⟩) ?_ ?_
      rotate_left
      · intro w'
        go_simp
        with_reducible rfl
      rotate_left
      · simp only [Act.put, List.setIfInBounds_toArray, List.set_cons_zero, List.set_cons_succ, i64_w, i32_w]
        rfl
      refine take_ (i := 4) (N := some 52) (v := ?_) (a' := ?_) #[true, true, true, true, true, true, true, true, true, false, false, false, false] rfl rfl (by kernel_rfl) (fun _ _ _ h => h) (Or.inl ⟨by rfl, ?_⟩) hHeld ?_ ?_
      rotate_left
      · intro w' s0
        go_simp
        with_reducible rfl
      rotate_left
      · simp only [Act.put, List.setIfInBounds_toArray, List.set_cons_zero, List.set_cons_succ, i64_w, i32_w]
        rfl
      refine one_ (i := 9) (N := none) #[true, true, true, true, true, true, true, true, true, true, false, false, false] rfl rfl (by kernel_rfl) (by decide) (fun K hK => ?_)
      refine skip_ (w1 := ?_) (by rfl) rfl ?_ ?_
      rotate_left
      · go_simp
        rfl
      have G2 := Lib.hid (blk_far (p := ⟨g, i.toNat * 8 + 6, none⟩) G0.out hne (.string body))
      have P8 := (Kd.R_seg HR1 i h2 h3 (seg := [.string body]) (j := 6) hcl hcc (show 7 ≤ 8 from by decide) (x' := laid (l.getD i.toNat z47) body) (k47_mkM _ _ _ (laid (l.getD i.toNat z47) body)) (fun _ hk => hk)).1
      replace P8 : Kd.R k47 47 (W.setCell ⟨g, i.toNat * 8 + 6, none⟩ (.string body)) w.heap.size (fun _ => True) (.slice (some ⟨g, 0, none⟩) len cap) (l.set i.toNat (laid (l.getD i.toNat z47) body)) := P8
      clear hcl hcc hfr hN e6 q6
      obtain ⟨cf, hcl, hN, hcc, hfr⟩ := Kd.R_elem P8 z47 i h2 h3
      obtain rfl := k47_openM hN
      rw [hgd] at hcl hcc
      refine hK.out _ _ ((blk_cell G2.out 3).trans rfl) (fun hHeld => ?_)
      clear hK K
      refine pure_ (i := 10) (N := some 57) (v := ?_) (a' := ?_) #[true, true, true, true, true, true, true, true, true, true, true, false, false] rfl rfl (by kernel_rfl) (fun _ _ _ h => h) (Or.inl ⟨by rfl, ?_⟩) ?_ ?_
      rotate_left
      · intro w'
        go_simp
        with_reducible rfl
      rotate_left
      · simp only [Act.put, List.setIfInBounds_toArray, List.set_cons_zero, List.set_cons_succ, i64_w, i32_w]
        rfl
      refine pure_ (i := 11) (N := some 58) (v := ?_) (a' := ?_) #[true, true, true, true, true, true, true, true, true, true, true, true, false] rfl rfl (by kernel_rfl) (fun _ _ _ h => h) (Or.inl ⟨by rfl, ?_⟩) ?_ ?_
      rotate_left
      · intro w'
        go_simp
        with_reducible rfl
      rotate_left
      · simp only [Act.put, List.setIfInBounds_toArray, List.set_cons_zero, List.set_cons_succ, i64_w, i32_w]
        rfl
      refine one_ (i := 12) (N := none) #[true, true, true, true, true, true, true, true, true, true, true, true, true] rfl rfl (by kernel_rfl) (by decide) (fun K hK => ?_)
      refine skip_ (w1 := ?_) (by rfl) rfl ?_ ?_
      rotate_left
      · go_simp
        rfl
      have P11 := (Kd.R_seg P8 i h2 h3 (seg := [.bool false]) (j := 7) hcl hcc (show 8 ≤ 8 from by decide) (x' := dressed (l.getD i.toNat z47) body) (k47_mkM _ _ _ (dressed (l.getD i.toNat z47) body)) (fun _ hk => hk)).1
      have G3 := Lib.hid (blk_far (p := ⟨g, i.toNat * 8 + 7, none⟩) G2.out hne (.bool false))
      refine hK.out _ _ ((blk_cell G3.out 3).trans rfl) (fun hHeld => ?_)
      clear hK K
      refine done_ (by kernel_rfl) ?_
      have G4 := blk_far (p := ⟨g, i.toNat * 8 + 7, none⟩) (blk_far (p := ⟨g, i.toNat * 8 + 6, none⟩) G1.out hne1 (.string body)) hne1 (.bool false)
      have HB5 := (HB.out.setCell (p := ⟨g, i.toNat * 8 + 6, none⟩) hgb (.string body)).setCell (p := ⟨g, i.toNat * 8 + 7, none⟩) hgb (.bool false)
      rw [List.set_set] at P11
      have K6 : Hid (W0 w ((W.setCell ⟨g, i.toNat * 8 + 6, none⟩ (.string body)).setCell ⟨g, i.toNat * 8 + 7, none⟩ (.bool false)).drew a0 a1 a2 (.slice (some ⟨g, 0, none⟩) len cap)) := Lib.hid ⟨G3.out, G4, below_drew1 HB5⟩
      replace P11 : Kd.R k47 47 ((W.setCell ⟨g, i.toNat * 8 + 6, none⟩ (.string body)).setCell ⟨g, i.toNat * 8 + 7, none⟩ (.bool false)).drew w.heap.size (fun _ => True) (.slice (some ⟨g, 0, none⟩) len cap) (l.set i.toNat (dressed (rd_T47 l i) body)) := P11
      clear P8 hfr hcl hN hcc e7 q7 G0 G1 G2 G3 G4 HB HB5 HR1
      generalize ((W.setCell ⟨g, i.toNat * 8 + 6, none⟩ (.string body)).setCell ⟨g, i.toNat * 8 + 7, none⟩ (.bool false)).drew = V at P11 K6 ⊢
      have HP := Lib.hid P11
      clear P11
      have b0 := (blk_cell K6.out.g0 0).trans rfl
      have b1 := (blk_cell K6.out.g0 1).trans rfl
      have b2 := (blk_cell K6.out.g0 2).trans rfl
      have b3 := (blk_cell K6.out.g0 3).trans rfl
      have r0 := (blk_cell K6.out.g1 0).trans rfl
      have r1 := (blk_cell K6.out.g1 1).trans rfl
      have r2 := (blk_cell K6.out.g1 2).trans rfl
      have r3 := (blk_cell K6.out.g1 3).trans rfl
      have f0 := blk_frozen K6.out.g1 0
      have f1 := blk_frozen K6.out.g1 1
      have f2 := blk_frozen K6.out.g1 2
      have f3 := blk_frozen K6.out.g1 3
      go_wp2_with fail
      exact bodyPost_ret (results_ct rfl _ _ (w.heap.size + 1) 25 _ (0, 0) _ rfl (put4 K6.out.g1) Try.underlying25 rfl (by kernel_rfl)) rfl ⟨_, rfl, rows4 HP.out K6.out.g1, below4 K6.out.b (by omega)⟩
end Go.Proofs.Ytdcbacbilncnnaa.T
end
section
/- Numbers and texts in bytes, in plain Lean: what is put, what is taken, and that each is the other's inverse. No program here. -/
namespace Go.Proofs.Ytdcbacbilncnnaa.EncS
/-- A number's bytes. -/
def encU (n : Nat) : List UInt8 := if n < 128 then [UInt8.ofNat n] else UInt8.ofNat (n % 128 + 128) :: encU (n / 128)
termination_by n
decreasing_by omega
theorem encU_small (n : Nat) (h : n < 128) : encU n = [UInt8.ofNat n] := by rw [encU, if_pos h]
theorem encU_great (n : Nat) (h : ¬ n < 128) : encU n = UInt8.ofNat (n % 128 + 128) :: encU (n / 128) := by rw [encU, if_neg h]
theorem pow9 : (128 : Nat) ^ 9 = 9223372036854775808 := by decide
theorem pow_succ' (i : Nat) : (128 : Nat) ^ (i + 1) = 128 ^ i * 128 := Nat.pow_succ ..
theorem nine_small (n : Nat) (h : n * 128 ^ 9 < 18446744073709551616) : n ≤ 1 := by rw [pow9] at h; omega
theorem encU_len (n : Nat) (h : n < 18446744073709551616) : (encU n).length ≤ 10 := by
  have : ∀ (i n : Nat), n * 128 ^ i < 18446744073709551616 → i ≤ 9 → (encU n).length ≤ 10 - i := by
    intro i
    induction hk : 9 - i generalizing i with
    | zero =>
      intro n hb hi
      have : i = 9 := by omega
      subst this
      have := nine_small n hb
      rw [encU_small n (by omega)]
      simp
    | succ k ih =>
      intro n hb hi
      by_cases h : n < 128
      · rw [encU_small n h]; simp; omega
      · rw [encU_great n h]
        have hle : n / 128 * 128 ^ (i + 1) ≤ n * 128 ^ i := by
          rw [pow_succ', ← Nat.mul_assoc, Nat.mul_right_comm]
          exact Nat.mul_le_mul_right _ (Nat.div_mul_le_self n 128)
        have := ih (i + 1) (by omega) (n / 128) (by omega) (by omega)
        simp only [List.length_cons]
        omega
  exact this 0 n (by simpa using h) (by decide)
end Go.Proofs.Ytdcbacbilncnnaa.EncS
end
section
namespace Go.Proofs.Ytdcbacbilncnnaa.PMk
open Go.RowKit Go.Proofs.YtdcbacbilncnnaaW.PrintWords Go.Proofs.YtdcbacbilncnnaaW.PrintLast Go.Proofs.YtdcbacbilncnnaaW.PrintMore
attribute [local go_sem] max2_int min2_int max_two min_two max_three min_three max_four min_four   -- for this text's walks alone
set_option linter.unusedVariables false
set_option linter.unusedSimpArgs false
/-! ### block_bytes: function 83 -/
def block_bytes.f (a0_0 : Int) (a0_1 : ByteArray) (a0_2 : ByteArray) (a0_3 : Int) (a0_4 : Int) (a0_5 : ByteArray) (a0_6 : ByteArray) (a0_7 : Bool) : Option (Bool) := (block_bodied.f a0_0).bind fun t166 => (if t166 = true then (if a0_7 = true then (if (a0_5.size : Int) = 32 then (some (a0_6.toList == ([] : List UInt8))) else (some false)) else ((hash_Leaf.f a0_6).bind fun t167 => (if a0_5.toList = t167.toList then (some (decide ((a0_6.size : Int) ≤ 1024))) else (some false)))) else (if a0_5.toList = ([] : List UInt8) then (if a0_6.toList = ([] : List UInt8) then (some (!a0_7)) else (some false)) else (some false)))
def block_bytes.T5 : Bool × List (List Nat × List Nat) := (true, [([], []), ([0], [0]), ([], []), ([2], [2]), ([3], [3]), ([1, 4], [1, 4]), ([5, 4], [5]), ([6], [6]), ([7, 6], [6, 7]), ([8, 6], [6, 8]), ([9, 6], [6, 9]), ([6, 10], [6, 10]), ([11, 6, 0, 1, 2, 3, 4, 5, 6, 7, 8, 9, 10, 11], [11])])
def block_bytes.B5 : List Nat := [0, 1, 0, 4, 12, 31, 63, 127, 255, 511, 1023, 2047, 4095]
theorem block_bytes.tab5 : rtab .any (opsOf Try.f83 5) = block_bytes.T5 := by kernel_rfl
theorem block_bytes.bits5 : waitsOk block_bytes.T5.2 block_bytes.B5 = true := by kernel_rfl
set_option maxHeartbeats 8000000 in
set_option maxRecDepth 100000 in
theorem block_bytes.calls (a0_0 : Int) (a0_1 : ByteArray) (a0_2 : ByteArray) (a0_3 : Int) (a0_4 : Int) (a0_5 : ByteArray) (a0_6 : ByteArray) (a0_7 : Bool) (r : Bool) (w : World) (h : block_bytes.f a0_0 a0_1 a0_2 a0_3 a0_4 a0_5 a0_6 a0_7 = some r) :
  Calls Try.prog 83 #[.agg #[.int .i64 a0_0, .string a0_1, .string a0_2, .int .u64 a0_3, .int .u64 a0_4, .string a0_5, .string a0_6, .bool a0_7]] w fun e w' => e = .returned (.bool r) ∧ Below w.heap.size w w' := by
 have hu47 := Try.underlying47
 have HB := Aside0.mk (Below.refl w.heap.size w)
 have H : ((block_bodied.f a0_0).bind fun t166 => (if t166 = true then (if a0_7 = true then (if (a0_5.size : Int) = 32 then (some (a0_6.toList == ([] : List UInt8))) else (some false)) else ((hash_Leaf.f a0_6).bind fun t167 => (if a0_5.toList = t167.toList then (some (decide ((a0_6.size : Int) ≤ 1024))) else (some false)))) else (if a0_5.toList = ([] : List UInt8) then (if a0_6.toList = ([] : List UInt8) then (some (!a0_7)) else (some false)) else (some false)))) = some r := h
 clear h
 replace H := Option.bind_eq_some_iff.mp H
 obtain ⟨t166, A20, H⟩ := H
 replace H : (if t166 = true then (if a0_7 = true then (if (a0_5.size : Int) = 32 then (some (a0_6.toList == ([] : List UInt8))) else (some false)) else ((hash_Leaf.f a0_6).bind fun t167 => (if a0_5.toList = t167.toList then (some (decide ((a0_6.size : Int) ≤ 1024))) else (some false)))) else (if a0_5.toList = ([] : List UInt8) then (if a0_6.toList = ([] : List UInt8) then (some (!a0_7)) else (some false)) else (some false))) = some r := H
 have A2 := Aside0.mk A20
 clear A20
 by_cases c3 : t166 = true
 ·subst c3
  have H1 : (if a0_7 = true then (if (a0_5.size : Int) = 32 then (some (a0_6.toList == ([] : List UInt8))) else (some false)) else ((hash_Leaf.f a0_6).bind fun t167 => (if a0_5.toList = t167.toList then (some (decide ((a0_6.size : Int) ≤ 1024))) else (some false)))) = some r := by rw [if_pos rfl] at H; exact H
  clear H
  have H := H1
  clear H1
  by_cases c4 : a0_7 = true
  ·subst c4
   have H1 : (if (a0_5.size : Int) = 32 then (some (a0_6.toList == ([] : List UInt8))) else (some false)) = some r := by rw [if_pos rfl] at H; exact H
   clear H
   have H := H1
   clear H1
   by_cases c5 : (a0_5.size : Int) = 32
   ·rw [if_pos c5] at H
    have c5b0 : ((a0_5.size : Int) == 32) = true := beq_iff_eq.mpr c5
    have c5b1 : ((a0_5.size : Int) != 32) = false := bne_eq_false_iff_eq.mpr c5
    clear c5
    obtain rfl := Option.some.inj H
    go_enter Try.func83, Try.ntmps83
    go_wp2_with (first | ((with_reducible refine gate_dst (N := 1) rfl ?_); (try (refine gate_guard (by rfl) ?_; dsimp only)); refine box_event ?hg (N := 1) ?hd (cs := #[.int .i64 a0_0, .string a0_1, .string a0_2, .int .u64 a0_3, .int .u64 a0_4, .string a0_5, .string a0_6, .bool true]) (t := 47) ?hr ?_; (case hd => rfl); (case hg => rfl); (case hr => first | (go_simp; done) | (go_simp; rfl)); intro gb165 hg w6 hbox hb; have n0_ := Aside0.mk (below_step (bh_ HB.out) hb); have n1_ := Aside0.mk (hbox); have n2_ := Aside0.mk ((by rw [hg]; exact (below_size (bh_ HB.out)) : w.heap.size ≤ gb165)); have n3_ := Aside0.mk ((by rw [hg]; exact (below_size (bh_ HB.out)) : w.heap.size ≤ gb165)); clear HB; have HB := n0_; have BK165 := n1_; have GW165 := n2_; have GE165 := n3_; clear n0_ n1_ n2_ n3_; clear hb hbox hg; obtain ⟨z7_0, z7_1, z7_2, z7_3, z7_4, z7_5, z7_6, z7_7, f7_0, f7_1, f7_2, f7_3, f7_4, f7_5, f7_6, f7_7⟩ := bc8_ BK165.out) | ((with_reducible refine gate_callee (f := 49) rfl ?_); refine gl_ (some 6) Try.func49 #[.int .i64 a0_0] ?_; (with_reducible refine (block_bodied.calls a0_0 true _ A2.out).mono ?_); rintro e w' ⟨rfl, ⟨nd, rfl⟩⟩; refine ⟨_, rfl, ?_⟩))
    go_ret
    exact ⟨by first | rfl | (simp [errW_none, errW_some] <;> rfl) | (simp [*, errW_none, errW_some] <;> rfl), by repeat (first | (with_reducible first | exact HB.out | apply below_alloc | apply pw_below_drewN | apply below_drew1 | refine below_set ?_ GE165.out) | exact HB.out)⟩
   ·rw [if_neg c5] at H
    have c5b0 : ((a0_5.size : Int) == 32) = false := beq_eq_false_iff_ne.mpr c5
    have c5b1 : ((a0_5.size : Int) != 32) = true := bne_iff_ne.mpr c5
    obtain rfl := Option.some.inj H
    go_enter Try.func83, Try.ntmps83
    go_wp2_with (first | ((with_reducible refine gate_dst (N := 1) rfl ?_); (try (refine gate_guard (by rfl) ?_; dsimp only)); refine box_event ?hg (N := 1) ?hd (cs := #[.int .i64 a0_0, .string a0_1, .string a0_2, .int .u64 a0_3, .int .u64 a0_4, .string a0_5, .string a0_6, .bool true]) (t := 47) ?hr ?_; (case hd => rfl); (case hg => rfl); (case hr => first | (go_simp; done) | (go_simp; rfl)); intro gb165 hg w8 hbox hb; have n0_ := Aside0.mk (below_step (bh_ HB.out) hb); have n1_ := Aside0.mk (hbox); have n2_ := Aside0.mk ((by rw [hg]; exact (below_size (bh_ HB.out)) : w.heap.size ≤ gb165)); have n3_ := Aside0.mk ((by rw [hg]; exact (below_size (bh_ HB.out)) : w.heap.size ≤ gb165)); clear HB; have HB := n0_; have BK165 := n1_; have GW165 := n2_; have GE165 := n3_; clear n0_ n1_ n2_ n3_; clear hb hbox hg; obtain ⟨z9_0, z9_1, z9_2, z9_3, z9_4, z9_5, z9_6, z9_7, f9_0, f9_1, f9_2, f9_3, f9_4, f9_5, f9_6, f9_7⟩ := bc8_ BK165.out) | ((with_reducible refine gate_callee (f := 49) rfl ?_); refine gl_ (some 6) Try.func49 #[.int .i64 a0_0] ?_; (with_reducible refine (block_bodied.calls a0_0 true _ A2.out).mono ?_); rintro e w' ⟨rfl, ⟨nd, rfl⟩⟩; refine ⟨_, rfl, ?_⟩))
    go_ret
    exact ⟨by first | rfl | (simp [errW_none, errW_some] <;> rfl) | (simp [*, errW_none, errW_some] <;> rfl), by repeat (first | (with_reducible first | exact HB.out | apply below_alloc | apply pw_below_drewN | apply below_drew1 | refine below_set ?_ GE165.out) | exact HB.out)⟩
  ·replace c4 := Bool.eq_false_iff.mpr c4
   subst c4
   have H1 : ((hash_Leaf.f a0_6).bind fun t167 => (if a0_5.toList = t167.toList then (some (decide ((a0_6.size : Int) ≤ 1024))) else (some false))) = some r := by rw [if_neg (show ¬ (false = true) by decide)] at H; exact H
   clear H
   have H := H1
   clear H1
   replace H := Option.bind_eq_some_iff.mp H
   obtain ⟨t167, A100, H⟩ := H
   replace H : (if a0_5.toList = t167.toList then (some (decide ((a0_6.size : Int) ≤ 1024))) else (some false)) = some r := H
   have A10 := Aside0.mk A100
   clear A100
   by_cases c11 : a0_5.toList = t167.toList
   ·rw [if_pos c11] at H
    have c11b0 : (a0_5.toList == t167.toList) = true := beq_iff_eq.mpr c11
    have c11b1 : (a0_5.toList != t167.toList) = false := bne_eq_false_iff_eq.mpr c11
    clear c11
    obtain rfl := Option.some.inj H
    go_enter Try.func83, Try.ntmps83
    try go_wp2_with (first | ((with_reducible refine gate_dst (N := 1) rfl ?_); (try (refine gate_guard (by rfl) ?_; dsimp only)); refine box_event ?hg (N := 1) ?hd (cs := #[.int .i64 a0_0, .string a0_1, .string a0_2, .int .u64 a0_3, .int .u64 a0_4, .string a0_5, .string a0_6, .bool false]) (t := 47) ?hr ?_; (case hd => rfl); (case hg => rfl); (case hr => first | (go_simp; done) | (go_simp; rfl)); intro gb165 hg w12 hbox hb; have n0_ := Aside0.mk (below_step (bh_ HB.out) hb); have n1_ := Aside0.mk (hbox); have n2_ := Aside0.mk ((by rw [hg]; exact (below_size (bh_ HB.out)) : w.heap.size ≤ gb165)); have n3_ := Aside0.mk ((by rw [hg]; exact (below_size (bh_ HB.out)) : w.heap.size ≤ gb165)); clear HB; have HB := n0_; have BK165 := n1_; have GW165 := n2_; have GE165 := n3_; clear n0_ n1_ n2_ n3_; clear hb hbox hg; obtain ⟨z13_0, z13_1, z13_2, z13_3, z13_4, z13_5, z13_6, z13_7, f13_0, f13_1, f13_2, f13_3, f13_4, f13_5, f13_6, f13_7⟩ := bc8_ BK165.out) | ((with_reducible refine gate_callee (f := 49) rfl ?_); refine gl_ (some 6) Try.func49 #[.int .i64 a0_0] ?_; (with_reducible refine (block_bodied.calls a0_0 true _ A2.out).mono ?_); rintro e w' ⟨rfl, ⟨nd, rfl⟩⟩; refine ⟨_, rfl, ?_⟩))
    (try (rw [drewN_self w12]; generalize hq_ : World.drewN w12 _ = w12; have n0_ : Aside0 (w12.heap[gb165]? = some (.cells #[.int .i64 a0_0, .string a0_1, .string a0_2, .int .u64 a0_3, .int .u64 a0_4, .string a0_5, .string a0_6, .bool false] 47 (0, 0))) := ⟨by rw [← hq_]; exact (bz_ BK165.out)⟩; have n1_ : Aside0 (Below w.heap.size w w12) := ⟨by rw [← hq_]; exact (bh_ HB.out)⟩; clear BK165 HB hq_; have BK165 := n0_; have HB := n1_; clear n0_ n1_; obtain ⟨zd5_0, zd5_1, zd5_2, zd5_3, zd5_4, zd5_5, zd5_6, zd5_7, fd5_0, fd5_1, fd5_2, fd5_3, fd5_4, fd5_5, fd5_6, fd5_7⟩ := bc8_ BK165.out))
    replace BK165 := Aside0.mk (blk_drew BK165.out)
    replace HB := Aside0.mk (below_drew1 HB.out)
    refine start_ (n := 13) (S := fun w' => w'.cell? ⟨gb165, 0, none⟩ = some (.int .i64 a0_0) ∧ w'.cell? ⟨gb165, 1, none⟩ = some (.string a0_1) ∧ w'.cell? ⟨gb165, 2, none⟩ = some (.string a0_2) ∧ w'.cell? ⟨gb165, 3, none⟩ = some (.int .u64 a0_3) ∧ w'.cell? ⟨gb165, 4, none⟩ = some (.int .u64 a0_4) ∧ w'.cell? ⟨gb165, 5, none⟩ = some (.string a0_5) ∧ w'.cell? ⟨gb165, 6, none⟩ = some (.string a0_6) ∧ w'.cell? ⟨gb165, 7, none⟩ = some (.bool false)) (ds := []) #[N_, N_, N_, N_, N_, N_, N_, N_, N_, N_, N_, N_, N_] (by kernel_rfl) rfl rfl ⟨(blk_cell BK165.out 0).trans rfl, (blk_cell BK165.out 1).trans rfl, (blk_cell BK165.out 2).trans rfl, (blk_cell BK165.out 3).trans rfl, (blk_cell BK165.out 4).trans rfl, (blk_cell BK165.out 5).trans rfl, (blk_cell BK165.out 6).trans rfl, (blk_cell BK165.out 7).trans rfl⟩ (fun hHeld => ?_); refine with_tabW block_bytes.tab5 block_bytes.bits5 (fun HT_ HW_ => ?_)
    generalize w12.drew = w14 at BK165 HB hHeld ⊢
    refine pure_ (i := 0) (N := some 33) (v := ?_) (a' := ?_) #[Y_, N_, N_, N_, N_, N_, N_, N_, N_, N_, N_, N_, N_] rfl rfl (any_of HT_.out (by kernel_rfl)) (fun _ _ _ h => h) (Or.inl ⟨by rfl, ?_⟩) ?_ ?_
    rotate_left; (intro w'; go_simp; with_reducible rfl); rotate_left; (simp only [Act.put, q1_, q2_, q3_, i64_w, i32_w]; rfl)
    refine pure_ (i := 2) (N := some 35) (v := ?_) (a' := ?_) #[Y_, N_, Y_, N_, N_, N_, N_, N_, N_, N_, N_, N_, N_] rfl rfl (any_of HT_.out (by kernel_rfl)) (fun _ _ _ h => h) (Or.inl ⟨by rfl, ?_⟩) ?_ ?_
    rotate_left; (intro w'; go_simp; with_reducible rfl); rotate_left; (simp only [Act.put, q1_, q2_, q3_, i64_w, i32_w]; rfl)
    refine take_ (i := 1) (N := some 34) (v := ?_) (a' := ?_) #[Y_, Y_, Y_, N_, N_, N_, N_, N_, N_, N_, N_, N_, N_] rfl rfl (take_ofW HT_.out HW_.out (by kernel_rfl)) (fun _ _ _ h => h) (Or.inl ⟨by rfl, ?_⟩) hHeld ?_ ?_
    rotate_left; (rintro w' ⟨s0, s1, s2, s3, s4, s5, s6, s7⟩; go_simp; with_reducible rfl); rotate_left; (simp only [Act.put, q1_, q2_, q3_, i64_w, i32_w]; rfl)
    refine take_ (i := 3) (N := some 36) (v := ?_) (a' := ?_) #[Y_, Y_, Y_, Y_, N_, N_, N_, N_, N_, N_, N_, N_, N_] rfl rfl (take_ofW HT_.out HW_.out (by kernel_rfl)) (fun _ _ _ h => h) (Or.inl ⟨by rfl, ?_⟩) hHeld ?_ ?_
    rotate_left; (rintro w' ⟨s0, s1, s2, s3, s4, s5, s6, s7⟩; go_simp; with_reducible rfl); rotate_left; (simp only [Act.put, q1_, q2_, q3_, i64_w, i32_w]; rfl)
    refine one_ (i := 4) (N := some 37) #[Y_, Y_, Y_, Y_, Y_, N_, N_, N_, N_, N_, N_, N_, N_] rfl rfl (one_of HT_.out (by kernel_rfl)) (by decide) (fun K hK => ?_)
    refine goes_ Try.func20 (by kernel_rfl) rfl #[.string a0_6] (by rfl) rfl rfl (by (try simp only [List.map_toArray, List.map_cons, List.map_nil]); first | done | rfl | (simp only [List.length_drop, List.length_take]; rfl)) ?_
    with_reducible refine (hash_Leaf.calls a0_6 t167 _ A10.out).mono ?_
    rintro e w15 ⟨rfl, hb⟩
    refine ⟨_, rfl, ?_⟩
    replace BK165 := Aside0.mk (bk_ BK165.out hb)
    replace HB := Aside0.mk (below_step (bh_ HB.out) hb)
    (try clear hb)
    (try clear hb2)
    (try clear hk)
    (try clear hi)
    refine hK.out _ _ ⟨(blk_cell BK165.out 0).trans rfl, (blk_cell BK165.out 1).trans rfl, (blk_cell BK165.out 2).trans rfl, (blk_cell BK165.out 3).trans rfl, (blk_cell BK165.out 4).trans rfl, (blk_cell BK165.out 5).trans rfl, (blk_cell BK165.out 6).trans rfl, (blk_cell BK165.out 7).trans rfl⟩ (fun hHeld => ?_)
    clear hK K
    refine norm_ (a' := ?_) ?_ ?_
    rotate_left
    ·show Act.put _ (some 37) _ = _
     simp only [Act.put, q1_, q2_, q3_, i64_w, i32_w]
     rfl
    refine pure_ (i := 5) (N := some 38) (v := ?_) (a' := ?_) #[Y_, Y_, Y_, Y_, Y_, Y_, N_, N_, N_, N_, N_, N_, N_] rfl rfl (any_of HT_.out (by kernel_rfl)) (fun _ _ _ h => h) (Or.inl ⟨by rfl, ?_⟩) ?_ ?_
    rotate_left; (intro w'; go_simp; with_reducible rfl); rotate_left; (simp only [Act.put, q1_, q2_, q3_, i64_w, i32_w]; rfl)
    refine pure_ (i := 6) (N := some 39) (v := ?_) (a' := ?_) #[Y_, Y_, Y_, Y_, Y_, Y_, Y_, N_, N_, N_, N_, N_, N_] rfl rfl (any_of HT_.out (by kernel_rfl)) (fun _ _ _ h => h) (Or.inl ⟨by rfl, ?_⟩) ?_ ?_
    rotate_left; (intro w'; go_simp; with_reducible rfl); rotate_left; (simp only [Act.put, q1_, q2_, q3_, i64_w, i32_w]; rfl)
    refine pure_ (i := 7) (N := some 40) (v := ?_) (a' := ?_) #[Y_, Y_, Y_, Y_, Y_, Y_, Y_, Y_, N_, N_, N_, N_, N_] rfl rfl (any_of HT_.out (by kernel_rfl)) (fun _ _ _ h => h) (Or.inl ⟨by rfl, ?_⟩) ?_ ?_
    rotate_left; (intro w'; go_simp; with_reducible rfl); rotate_left; (simp only [Act.put, q1_, q2_, q3_, i64_w, i32_w]; rfl)
    refine take_ (i := 8) (N := some 41) (v := ?_) (a' := ?_) #[Y_, Y_, Y_, Y_, Y_, Y_, Y_, Y_, Y_, N_, N_, N_, N_] rfl rfl (take_ofW HT_.out HW_.out (by kernel_rfl)) (fun _ _ _ h => h) (Or.inl ⟨by rfl, ?_⟩) hHeld ?_ ?_
    rotate_left; (rintro w' ⟨s0, s1, s2, s3, s4, s5, s6, s7⟩; go_simp; with_reducible rfl); rotate_left; (simp only [Act.put, q1_, q2_, q3_, i64_w, i32_w]; rfl)
    refine pure_ (i := 9) (N := some 42) (v := ?_) (a' := ?_) #[Y_, Y_, Y_, Y_, Y_, Y_, Y_, Y_, Y_, Y_, N_, N_, N_] rfl rfl (any_of HT_.out (by kernel_rfl)) (fun _ _ _ h => h) (Or.inl ⟨by rfl, ?_⟩) ?_ ?_
    rotate_left; (intro w'; go_simp; with_reducible rfl); rotate_left; (simp only [Act.put, q1_, q2_, q3_, i64_w, i32_w]; rfl)
    refine pure_ (i := 10) (N := some 43) (v := ?_) (a' := ?_) #[Y_, Y_, Y_, Y_, Y_, Y_, Y_, Y_, Y_, Y_, Y_, N_, N_] rfl rfl (any_of HT_.out (by kernel_rfl)) (fun _ _ _ h => h) (Or.inl ⟨by rfl, ?_⟩) ?_ ?_
    rotate_left; (intro w'; go_simp; with_reducible rfl); rotate_left; (simp only [Act.put, q1_, q2_, q3_, i64_w, i32_w]; rfl)
    refine pure_ (i := 11) (N := some 44) (v := ?_) (a' := ?_) #[Y_, Y_, Y_, Y_, Y_, Y_, Y_, Y_, Y_, Y_, Y_, Y_, N_] rfl rfl (any_of HT_.out (by kernel_rfl)) (fun _ _ _ h => h) (Or.inl ⟨by rfl, ?_⟩) ?_ ?_
    rotate_left; (intro w'; go_simp; with_reducible rfl); rotate_left; (simp only [Act.put, q1_, q2_, q3_, i64_w, i32_w]; rfl)
    refine pure_ (i := 12) (N := some 2) (v := ?_) (a' := ?_) #[Y_, Y_, Y_, Y_, Y_, Y_, Y_, Y_, Y_, Y_, Y_, Y_, Y_] rfl rfl (any_of HT_.out (by kernel_rfl)) (fun _ _ _ h => h) (Or.inl ⟨by rfl, ?_⟩) ?_ ?_
    rotate_left; (intro w'; go_simp; with_reducible rfl); rotate_left; (simp only [Act.put, q1_, q2_, q3_, i64_w, i32_w]; rfl)
    refine done_ (done_of HT_.out (by kernel_rfl)) ?_
    try go_wp2
    go_ret
    exact ⟨by first | rfl | (simp [errW_none, errW_some] <;> rfl) | (simp [*, errW_none, errW_some] <;> rfl), by repeat (first | (with_reducible first | exact HB.out | apply below_alloc | apply pw_below_drewN | apply below_drew1 | refine below_set ?_ GE165.out) | exact HB.out)⟩
   ·rw [if_neg c11] at H
    have c11b0 : (a0_5.toList == t167.toList) = false := beq_eq_false_iff_ne.mpr c11
    have c11b1 : (a0_5.toList != t167.toList) = true := bne_iff_ne.mpr c11
    obtain rfl := Option.some.inj H
    go_enter Try.func83, Try.ntmps83
    try go_wp2_with (first | ((with_reducible refine gate_dst (N := 1) rfl ?_); (try (refine gate_guard (by rfl) ?_; dsimp only)); refine box_event ?hg (N := 1) ?hd (cs := #[.int .i64 a0_0, .string a0_1, .string a0_2, .int .u64 a0_3, .int .u64 a0_4, .string a0_5, .string a0_6, .bool false]) (t := 47) ?hr ?_; (case hd => rfl); (case hg => rfl); (case hr => first | (go_simp; done) | (go_simp; rfl)); intro gb165 hg w16 hbox hb; have n0_ := Aside0.mk (below_step (bh_ HB.out) hb); have n1_ := Aside0.mk (hbox); have n2_ := Aside0.mk ((by rw [hg]; exact (below_size (bh_ HB.out)) : w.heap.size ≤ gb165)); have n3_ := Aside0.mk ((by rw [hg]; exact (below_size (bh_ HB.out)) : w.heap.size ≤ gb165)); clear HB; have HB := n0_; have BK165 := n1_; have GW165 := n2_; have GE165 := n3_; clear n0_ n1_ n2_ n3_; clear hb hbox hg; obtain ⟨z17_0, z17_1, z17_2, z17_3, z17_4, z17_5, z17_6, z17_7, f17_0, f17_1, f17_2, f17_3, f17_4, f17_5, f17_6, f17_7⟩ := bc8_ BK165.out) | ((with_reducible refine gate_callee (f := 49) rfl ?_); refine gl_ (some 6) Try.func49 #[.int .i64 a0_0] ?_; (with_reducible refine (block_bodied.calls a0_0 true _ A2.out).mono ?_); rintro e w' ⟨rfl, ⟨nd, rfl⟩⟩; refine ⟨_, rfl, ?_⟩))
    (try (rw [drewN_self w16]; generalize hq_ : World.drewN w16 _ = w16; have n0_ : Aside0 (w16.heap[gb165]? = some (.cells #[.int .i64 a0_0, .string a0_1, .string a0_2, .int .u64 a0_3, .int .u64 a0_4, .string a0_5, .string a0_6, .bool false] 47 (0, 0))) := ⟨by rw [← hq_]; exact (bz_ BK165.out)⟩; have n1_ : Aside0 (Below w.heap.size w w16) := ⟨by rw [← hq_]; exact (bh_ HB.out)⟩; clear BK165 HB hq_; have BK165 := n0_; have HB := n1_; clear n0_ n1_; obtain ⟨zd6_0, zd6_1, zd6_2, zd6_3, zd6_4, zd6_5, zd6_6, zd6_7, fd6_0, fd6_1, fd6_2, fd6_3, fd6_4, fd6_5, fd6_6, fd6_7⟩ := bc8_ BK165.out))
    replace BK165 := Aside0.mk (blk_drew BK165.out)
    replace HB := Aside0.mk (below_drew1 HB.out)
    refine start_ (n := 13) (S := fun w' => w'.cell? ⟨gb165, 0, none⟩ = some (.int .i64 a0_0) ∧ w'.cell? ⟨gb165, 1, none⟩ = some (.string a0_1) ∧ w'.cell? ⟨gb165, 2, none⟩ = some (.string a0_2) ∧ w'.cell? ⟨gb165, 3, none⟩ = some (.int .u64 a0_3) ∧ w'.cell? ⟨gb165, 4, none⟩ = some (.int .u64 a0_4) ∧ w'.cell? ⟨gb165, 5, none⟩ = some (.string a0_5) ∧ w'.cell? ⟨gb165, 6, none⟩ = some (.string a0_6) ∧ w'.cell? ⟨gb165, 7, none⟩ = some (.bool false)) (ds := []) #[N_, N_, N_, N_, N_, N_, N_, N_, N_, N_, N_, N_, N_] (by kernel_rfl) rfl rfl ⟨(blk_cell BK165.out 0).trans rfl, (blk_cell BK165.out 1).trans rfl, (blk_cell BK165.out 2).trans rfl, (blk_cell BK165.out 3).trans rfl, (blk_cell BK165.out 4).trans rfl, (blk_cell BK165.out 5).trans rfl, (blk_cell BK165.out 6).trans rfl, (blk_cell BK165.out 7).trans rfl⟩ (fun hHeld => ?_); refine with_tabW block_bytes.tab5 block_bytes.bits5 (fun HT_ HW_ => ?_)
    generalize w16.drew = w18 at BK165 HB hHeld ⊢
    refine pure_ (i := 0) (N := some 33) (v := ?_) (a' := ?_) #[Y_, N_, N_, N_, N_, N_, N_, N_, N_, N_, N_, N_, N_] rfl rfl (any_of HT_.out (by kernel_rfl)) (fun _ _ _ h => h) (Or.inl ⟨by rfl, ?_⟩) ?_ ?_
    rotate_left; (intro w'; go_simp; with_reducible rfl); rotate_left; (simp only [Act.put, q1_, q2_, q3_, i64_w, i32_w]; rfl)
    refine pure_ (i := 2) (N := some 35) (v := ?_) (a' := ?_) #[Y_, N_, Y_, N_, N_, N_, N_, N_, N_, N_, N_, N_, N_] rfl rfl (any_of HT_.out (by kernel_rfl)) (fun _ _ _ h => h) (Or.inl ⟨by rfl, ?_⟩) ?_ ?_
    rotate_left; (intro w'; go_simp; with_reducible rfl); rotate_left; (simp only [Act.put, q1_, q2_, q3_, i64_w, i32_w]; rfl)
    refine take_ (i := 1) (N := some 34) (v := ?_) (a' := ?_) #[Y_, Y_, Y_, N_, N_, N_, N_, N_, N_, N_, N_, N_, N_] rfl rfl (take_ofW HT_.out HW_.out (by kernel_rfl)) (fun _ _ _ h => h) (Or.inl ⟨by rfl, ?_⟩) hHeld ?_ ?_
    rotate_left; (rintro w' ⟨s0, s1, s2, s3, s4, s5, s6, s7⟩; go_simp; with_reducible rfl); rotate_left; (simp only [Act.put, q1_, q2_, q3_, i64_w, i32_w]; rfl)
    refine take_ (i := 3) (N := some 36) (v := ?_) (a' := ?_) #[Y_, Y_, Y_, Y_, N_, N_, N_, N_, N_, N_, N_, N_, N_] rfl rfl (take_ofW HT_.out HW_.out (by kernel_rfl)) (fun _ _ _ h => h) (Or.inl ⟨by rfl, ?_⟩) hHeld ?_ ?_
    rotate_left; (rintro w' ⟨s0, s1, s2, s3, s4, s5, s6, s7⟩; go_simp; with_reducible rfl); rotate_left; (simp only [Act.put, q1_, q2_, q3_, i64_w, i32_w]; rfl)
    refine one_ (i := 4) (N := some 37) #[Y_, Y_, Y_, Y_, Y_, N_, N_, N_, N_, N_, N_, N_, N_] rfl rfl (one_of HT_.out (by kernel_rfl)) (by decide) (fun K hK => ?_)
    refine goes_ Try.func20 (by kernel_rfl) rfl #[.string a0_6] (by rfl) rfl rfl (by (try simp only [List.map_toArray, List.map_cons, List.map_nil]); first | done | rfl | (simp only [List.length_drop, List.length_take]; rfl)) ?_
    with_reducible refine (hash_Leaf.calls a0_6 t167 _ A10.out).mono ?_
    rintro e w19 ⟨rfl, hb⟩
    refine ⟨_, rfl, ?_⟩
    replace BK165 := Aside0.mk (bk_ BK165.out hb)
    replace HB := Aside0.mk (below_step (bh_ HB.out) hb)
    (try clear hb)
    (try clear hb2)
    (try clear hk)
    (try clear hi)
    refine hK.out _ _ ⟨(blk_cell BK165.out 0).trans rfl, (blk_cell BK165.out 1).trans rfl, (blk_cell BK165.out 2).trans rfl, (blk_cell BK165.out 3).trans rfl, (blk_cell BK165.out 4).trans rfl, (blk_cell BK165.out 5).trans rfl, (blk_cell BK165.out 6).trans rfl, (blk_cell BK165.out 7).trans rfl⟩ (fun hHeld => ?_)
    clear hK K
    refine norm_ (a' := ?_) ?_ ?_
    rotate_left
    ·show Act.put _ (some 37) _ = _
     simp only [Act.put, q1_, q2_, q3_, i64_w, i32_w]
     rfl
    refine pure_ (i := 5) (N := some 38) (v := ?_) (a' := ?_) #[Y_, Y_, Y_, Y_, Y_, Y_, N_, N_, N_, N_, N_, N_, N_] rfl rfl (any_of HT_.out (by kernel_rfl)) (fun _ _ _ h => h) (Or.inl ⟨by rfl, ?_⟩) ?_ ?_
    rotate_left; (intro w'; go_simp; with_reducible rfl); rotate_left; (simp only [Act.put, q1_, q2_, q3_, i64_w, i32_w]; rfl)
    refine pure_ (i := 6) (N := some 39) (v := ?_) (a' := ?_) #[Y_, Y_, Y_, Y_, Y_, Y_, Y_, N_, N_, N_, N_, N_, N_] rfl rfl (any_of HT_.out (by kernel_rfl)) (fun _ _ _ h => h) (Or.inl ⟨by rfl, ?_⟩) ?_ ?_
    rotate_left; (intro w'; go_simp; with_reducible rfl); rotate_left; (simp only [Act.put, q1_, q2_, q3_, i64_w, i32_w]; rfl)
    refine pure_ (i := 7) (N := some 40) (v := undef) (a' := ?_) #[Y_, Y_, Y_, Y_, Y_, Y_, Y_, Y_, N_, N_, N_, N_, N_] rfl rfl (any_of HT_.out (by kernel_rfl)) (fun _ _ _ h => h) (Or.inr ⟨by rfl, rfl⟩) ?_ ?_
    rotate_left
    ·simp only [Act.put, q1_, q2_, q3_, i64_w, i32_w]
     rfl
    refine pure_ (i := 8) (N := some 41) (v := undef) (a' := ?_) #[Y_, Y_, Y_, Y_, Y_, Y_, Y_, Y_, Y_, N_, N_, N_, N_] rfl rfl (any_of HT_.out (by kernel_rfl)) (fun _ _ _ h => h) (Or.inr ⟨by rfl, rfl⟩) ?_ ?_
    rotate_left
    ·simp only [Act.put, q1_, q2_, q3_, i64_w, i32_w]
     rfl
    refine pure_ (i := 9) (N := some 42) (v := undef) (a' := ?_) #[Y_, Y_, Y_, Y_, Y_, Y_, Y_, Y_, Y_, Y_, N_, N_, N_] rfl rfl (any_of HT_.out (by kernel_rfl)) (fun _ _ _ h => h) (Or.inr ⟨by rfl, rfl⟩) ?_ ?_
    rotate_left
    ·simp only [Act.put, q1_, q2_, q3_, i64_w, i32_w]
     rfl
    refine pure_ (i := 10) (N := some 43) (v := undef) (a' := ?_) #[Y_, Y_, Y_, Y_, Y_, Y_, Y_, Y_, Y_, Y_, Y_, N_, N_] rfl rfl (any_of HT_.out (by kernel_rfl)) (fun _ _ _ h => h) (Or.inr ⟨by rfl, rfl⟩) ?_ ?_
    rotate_left
    ·simp only [Act.put, q1_, q2_, q3_, i64_w, i32_w]
     rfl
    refine pure_ (i := 11) (N := some 44) (v := ?_) (a' := ?_) #[Y_, Y_, Y_, Y_, Y_, Y_, Y_, Y_, Y_, Y_, Y_, Y_, N_] rfl rfl (any_of HT_.out (by kernel_rfl)) (fun _ _ _ h => h) (Or.inl ⟨by rfl, ?_⟩) ?_ ?_
    rotate_left; (intro w'; go_simp; with_reducible rfl); rotate_left; (simp only [Act.put, q1_, q2_, q3_, i64_w, i32_w]; rfl)
    refine pure_ (i := 12) (N := some 2) (v := ?_) (a' := ?_) #[Y_, Y_, Y_, Y_, Y_, Y_, Y_, Y_, Y_, Y_, Y_, Y_, Y_] rfl rfl (any_of HT_.out (by kernel_rfl)) (fun _ _ _ h => h) (Or.inl ⟨by rfl, ?_⟩) ?_ ?_
    rotate_left; (intro w'; go_simp; with_reducible rfl); rotate_left; (simp only [Act.put, q1_, q2_, q3_, i64_w, i32_w]; rfl)
    refine done_ (done_of HT_.out (by kernel_rfl)) ?_
    try go_wp2
    go_ret
    exact ⟨by first | rfl | (simp [errW_none, errW_some] <;> rfl) | (simp [*, errW_none, errW_some] <;> rfl), by repeat (first | (with_reducible first | exact HB.out | apply below_alloc | apply pw_below_drewN | apply below_drew1 | refine below_set ?_ GE165.out) | exact HB.out)⟩
 ·replace c3 := Bool.eq_false_iff.mpr c3
  subst c3
  have H1 : (if a0_5.toList = ([] : List UInt8) then (if a0_6.toList = ([] : List UInt8) then (some (!a0_7)) else (some false)) else (some false)) = some r := by rw [if_neg (show ¬ (false = true) by decide)] at H; exact H
  clear H
  have H := H1
  clear H1
  by_cases c20 : a0_5.toList = ([] : List UInt8)
  ·rw [if_pos c20] at H
   have c20b0 : (a0_5.toList == ([] : List UInt8)) = true := beq_iff_eq.mpr c20
   have c20b1 : (a0_5.toList != ([] : List UInt8)) = false := bne_eq_false_iff_eq.mpr c20
   clear c20
   by_cases c21 : a0_6.toList = ([] : List UInt8)
   ·rw [if_pos c21] at H
    have c21b0 : (a0_6.toList == ([] : List UInt8)) = true := beq_iff_eq.mpr c21
    have c21b1 : (a0_6.toList != ([] : List UInt8)) = false := bne_eq_false_iff_eq.mpr c21
    clear c21
    obtain rfl := Option.some.inj H
    go_enter Try.func83, Try.ntmps83
    go_wp2_with (first | ((with_reducible refine gate_dst (N := 1) rfl ?_); (try (refine gate_guard (by rfl) ?_; dsimp only)); refine box_event ?hg (N := 1) ?hd (cs := #[.int .i64 a0_0, .string a0_1, .string a0_2, .int .u64 a0_3, .int .u64 a0_4, .string a0_5, .string a0_6, .bool a0_7]) (t := 47) ?hr ?_; (case hd => rfl); (case hg => rfl); (case hr => first | (go_simp; done) | (go_simp; rfl)); intro gb165 hg w22 hbox hb; have n0_ := Aside0.mk (below_step (bh_ HB.out) hb); have n1_ := Aside0.mk (hbox); have n2_ := Aside0.mk ((by rw [hg]; exact (below_size (bh_ HB.out)) : w.heap.size ≤ gb165)); have n3_ := Aside0.mk ((by rw [hg]; exact (below_size (bh_ HB.out)) : w.heap.size ≤ gb165)); clear HB; have HB := n0_; have BK165 := n1_; have GW165 := n2_; have GE165 := n3_; clear n0_ n1_ n2_ n3_; clear hb hbox hg; obtain ⟨z23_0, z23_1, z23_2, z23_3, z23_4, z23_5, z23_6, z23_7, f23_0, f23_1, f23_2, f23_3, f23_4, f23_5, f23_6, f23_7⟩ := bc8_ BK165.out) | ((with_reducible refine gate_callee (f := 49) rfl ?_); refine gl_ (some 6) Try.func49 #[.int .i64 a0_0] ?_; (with_reducible refine (block_bodied.calls a0_0 false _ A2.out).mono ?_); rintro e w' ⟨rfl, ⟨nd, rfl⟩⟩; refine ⟨_, rfl, ?_⟩))
    go_ret
    exact ⟨by first | rfl | (simp [errW_none, errW_some] <;> rfl) | (simp [*, errW_none, errW_some] <;> rfl), by repeat (first | (with_reducible first | exact HB.out | apply below_alloc | apply pw_below_drewN | apply below_drew1 | refine below_set ?_ GE165.out) | exact HB.out)⟩
   ·rw [if_neg c21] at H
    have c21b0 : (a0_6.toList == ([] : List UInt8)) = false := beq_eq_false_iff_ne.mpr c21
    have c21b1 : (a0_6.toList != ([] : List UInt8)) = true := bne_iff_ne.mpr c21
    obtain rfl := Option.some.inj H
    go_enter Try.func83, Try.ntmps83
    go_wp2_with (first | ((with_reducible refine gate_dst (N := 1) rfl ?_); (try (refine gate_guard (by rfl) ?_; dsimp only)); refine box_event ?hg (N := 1) ?hd (cs := #[.int .i64 a0_0, .string a0_1, .string a0_2, .int .u64 a0_3, .int .u64 a0_4, .string a0_5, .string a0_6, .bool a0_7]) (t := 47) ?hr ?_; (case hd => rfl); (case hg => rfl); (case hr => first | (go_simp; done) | (go_simp; rfl)); intro gb165 hg w24 hbox hb; have n0_ := Aside0.mk (below_step (bh_ HB.out) hb); have n1_ := Aside0.mk (hbox); have n2_ := Aside0.mk ((by rw [hg]; exact (below_size (bh_ HB.out)) : w.heap.size ≤ gb165)); have n3_ := Aside0.mk ((by rw [hg]; exact (below_size (bh_ HB.out)) : w.heap.size ≤ gb165)); clear HB; have HB := n0_; have BK165 := n1_; have GW165 := n2_; have GE165 := n3_; clear n0_ n1_ n2_ n3_; clear hb hbox hg; obtain ⟨z25_0, z25_1, z25_2, z25_3, z25_4, z25_5, z25_6, z25_7, f25_0, f25_1, f25_2, f25_3, f25_4, f25_5, f25_6, f25_7⟩ := bc8_ BK165.out) | ((with_reducible refine gate_callee (f := 49) rfl ?_); refine gl_ (some 6) Try.func49 #[.int .i64 a0_0] ?_; (with_reducible refine (block_bodied.calls a0_0 false _ A2.out).mono ?_); rintro e w' ⟨rfl, ⟨nd, rfl⟩⟩; refine ⟨_, rfl, ?_⟩))
    go_ret
    exact ⟨by first | rfl | (simp [errW_none, errW_some] <;> rfl) | (simp [*, errW_none, errW_some] <;> rfl), by repeat (first | (with_reducible first | exact HB.out | apply below_alloc | apply pw_below_drewN | apply below_drew1 | refine below_set ?_ GE165.out) | exact HB.out)⟩
  ·rw [if_neg c20] at H
   have c20b0 : (a0_5.toList == ([] : List UInt8)) = false := beq_eq_false_iff_ne.mpr c20
   have c20b1 : (a0_5.toList != ([] : List UInt8)) = true := bne_iff_ne.mpr c20
   obtain rfl := Option.some.inj H
   go_enter Try.func83, Try.ntmps83
   go_wp2_with (first | ((with_reducible refine gate_dst (N := 1) rfl ?_); (try (refine gate_guard (by rfl) ?_; dsimp only)); refine box_event ?hg (N := 1) ?hd (cs := #[.int .i64 a0_0, .string a0_1, .string a0_2, .int .u64 a0_3, .int .u64 a0_4, .string a0_5, .string a0_6, .bool a0_7]) (t := 47) ?hr ?_; (case hd => rfl); (case hg => rfl); (case hr => first | (go_simp; done) | (go_simp; rfl)); intro gb165 hg w26 hbox hb; have n0_ := Aside0.mk (below_step (bh_ HB.out) hb); have n1_ := Aside0.mk (hbox); have n2_ := Aside0.mk ((by rw [hg]; exact (below_size (bh_ HB.out)) : w.heap.size ≤ gb165)); have n3_ := Aside0.mk ((by rw [hg]; exact (below_size (bh_ HB.out)) : w.heap.size ≤ gb165)); clear HB; have HB := n0_; have BK165 := n1_; have GW165 := n2_; have GE165 := n3_; clear n0_ n1_ n2_ n3_; clear hb hbox hg; obtain ⟨z27_0, z27_1, z27_2, z27_3, z27_4, z27_5, z27_6, z27_7, f27_0, f27_1, f27_2, f27_3, f27_4, f27_5, f27_6, f27_7⟩ := bc8_ BK165.out) | ((with_reducible refine gate_callee (f := 49) rfl ?_); refine gl_ (some 6) Try.func49 #[.int .i64 a0_0] ?_; (with_reducible refine (block_bodied.calls a0_0 false _ A2.out).mono ?_); rintro e w' ⟨rfl, ⟨nd, rfl⟩⟩; refine ⟨_, rfl, ?_⟩))
   go_ret
   exact ⟨by first | rfl | (simp [errW_none, errW_some] <;> rfl) | (simp [*, errW_none, errW_some] <;> rfl), by repeat (first | (with_reducible first | exact HB.out | apply below_alloc | apply pw_below_drewN | apply below_drew1 | refine below_set ?_ GE165.out) | exact HB.out)⟩
/-! ### block_Check: function 50 -/
def block_Check.j0 : Nat → Bool → Int → ByteArray → ByteArray → Int → Int → ByteArray → ByteArray → Bool → Option (Int)
 | 0, _, _, _, _, _, _, _, _, _ => none
 | k + 1, x3, x169000, x169001, x169002, x169003, x169004, x169005, x169006, x169007 => if x169000 < 1 then (some 6) else (if x169000 > 5 then (some 6) else ((value_Name.f k x169001).bind fun t170 => (if t170 = true then (if x3 = true then ((block_numbers.f x169000 x169001 x169002 x169003 x169004 x169005 x169006 x169007).bind fun t171 => (if t171 = true then ((block_bytes.f x169000 x169001 x169002 x169003 x169004 x169005 x169006 x169007).bind fun t172 => (if t172 = true then (some 0) else (some 6))) else (some 6))) else (some 6)) else (some 6))))
def block_Check.f (k : Nat) (a0_0 : Int) (a0_1 : ByteArray) (a0_2 : ByteArray) (a0_3 : Int) (a0_4 : Int) (a0_5 : ByteArray) (a0_6 : ByteArray) (a0_7 : Bool) : Option (Int) := if a0_0 = 2 then ((value_Name.f k a0_2).bind fun t169 => (block_Check.j0 k t169 a0_0 a0_1 a0_2 a0_3 a0_4 a0_5 a0_6 a0_7)) else (block_Check.j0 k (a0_2.toList == ([] : List UInt8)) a0_0 a0_1 a0_2 a0_3 a0_4 a0_5 a0_6 a0_7)
theorem block_Check.mono_l : ∀ k, (∀ y0 y1 y2 y3 y4 y5 y6 y7 y8, LeO (block_Check.j0 k y0 y1 y2 y3 y4 y5 y6 y7 y8) (block_Check.j0 (k + 1) y0 y1 y2 y3 y4 y5 y6 y7 y8))
 | 0 => fun _ _ _ _ _ _ _ _ _ r h => by simp [block_Check.j0] at h
 | k + 1 => by
  have ih0 := block_Check.mono_l k
  ·intro y0 y1 y2 y3 y4 y5 y6 y7 y8
   unfold block_Check.j0
   repeat' first
   | (with_reducible exact ih0 _ _ _ _ _ _ _ _ _)
   | (with_reducible exact value_Name.mono _ _)
   | (with_reducible exact LeO.refl _)
   | (with_reducible exact LeO.none _)
   | (with_reducible refine LeO.ite ?_ ?_)
   | (with_reducible refine LeO.bind ?_ (fun _ => ?_))
   | exact ih0 _ _ _ _ _ _ _ _ _
   | exact value_Name.mono _ _
   | exact LeO.none _
   | refine LeO.ite ?_ ?_
   | refine LeO.bind ?_ (fun _ => ?_)
theorem block_Check.mono : ∀ a0 a1 a2 a3 a4 a5 a6 a7 k, LeO (block_Check.f k a0 a1 a2 a3 a4 a5 a6 a7) (block_Check.f (k + 1) a0 a1 a2 a3 a4 a5 a6 a7) := by
 intro a0 a1 a2 a3 a4 a5 a6 a7 k
 have ih0 := block_Check.mono_l k
 unfold block_Check.f
 repeat' first
   | (with_reducible exact ih0 _ _ _ _ _ _ _ _ _)
   | (with_reducible exact value_Name.mono _ _)
   | (with_reducible exact LeO.refl _)
   | (with_reducible exact LeO.none _)
   | (with_reducible refine LeO.ite ?_ ?_)
   | (with_reducible refine LeO.bind ?_ (fun _ => ?_))
   | exact ih0 _ _ _ _ _ _ _ _ _
   | exact value_Name.mono _ _
   | exact LeO.none _
   | refine LeO.ite ?_ ?_
   | refine LeO.bind ?_ (fun _ => ?_)
set_option maxHeartbeats 8000000 in
set_option maxRecDepth 100000 in
theorem block_Check.calls (k : Nat) (a0_0 : Int) (a0_1 : ByteArray) (a0_2 : ByteArray) (a0_3 : Int) (a0_4 : Int) (a0_5 : ByteArray) (a0_6 : ByteArray) (a0_7 : Bool) (r : Int) (w : World) (h : block_Check.f k a0_0 a0_1 a0_2 a0_3 a0_4 a0_5 a0_6 a0_7 = some r) :
  Calls Try.prog 50 #[.agg #[.int .i64 a0_0, .string a0_1, .string a0_2, .int .u64 a0_3, .int .u64 a0_4, .string a0_5, .string a0_6, .bool a0_7]] w fun e w' => e = .returned (.int .i64 r) ∧ Below w.heap.size w w' := by
 have hu47 := Try.underlying47
 have HB := Aside0.mk (Below.refl w.heap.size w)
 have H : (if a0_0 = 2 then ((value_Name.f k a0_2).bind fun t169 => (block_Check.j0 k t169 a0_0 a0_1 a0_2 a0_3 a0_4 a0_5 a0_6 a0_7)) else (block_Check.j0 k (a0_2.toList == ([] : List UInt8)) a0_0 a0_1 a0_2 a0_3 a0_4 a0_5 a0_6 a0_7)) = some r := h
 clear h
 have HC2 := Aside0.mk H
 clear H
 go_enter Try.func50, Try.ntmps50
 go_upto_if 9 with (first | ((with_reducible refine gate_dst (N := 1) rfl ?_); refine box_event ?hg (N := 1) ?hd (cs := #[.int .i64 a0_0, .string a0_1, .string a0_2, .int .u64 a0_3, .int .u64 a0_4, .string a0_5, .string a0_6, .bool a0_7]) (t := 47) ?hr ?_; (case hd => rfl); (case hg => rfl); (case hr => first | (go_simp; done) | (go_simp; rfl)); intro gb168 hg w3 hbox hb; have n0_ := Aside0.mk (below_step (bh_ HB.out) hb); have n1_ := Aside0.mk (hbox); have n2_ := Aside0.mk ((by rw [hg]; exact (below_size (bh_ HB.out)) : w.heap.size ≤ gb168)); have n3_ := Aside0.mk ((by rw [hg]; exact (below_size (bh_ HB.out)) : w.heap.size ≤ gb168)); clear HB; have HB := n0_; have BK168 := n1_; have GW168 := n2_; have GE168 := n3_; clear n0_ n1_ n2_ n3_; clear hb hbox hg; obtain ⟨z4_0, z4_1, z4_2, z4_3, z4_4, z4_5, z4_6, z4_7, f4_0, f4_1, f4_2, f4_3, f4_4, f4_5, f4_6, f4_7⟩ := bc8_ BK168.out))
 (try simp only [Act.put, q1_, q2_, q3_])
 go_cut [3] (fun v3 wc => ∃ (kq : Nat) (x3_1 : Bool), v3 = .bool x3_1 ∧ Aside0 (block_Check.j0 kq x3_1 a0_0 a0_1 a0_2 a0_3 a0_4 a0_5 a0_6 a0_7 = some r) ∧ Aside0 (kq ≤ k) ∧ Aside0 (wc.heap[gb168]? = some (.cells #[.int .i64 a0_0, .string a0_1, .string a0_2, .int .u64 a0_3, .int .u64 a0_4, .string a0_5, .string a0_6, .bool a0_7] 47 (0, 0))) ∧ Aside0 (Below w.heap.size w wc))
 case first =>
  have H := HC2.out
  clear HC2
  by_cases c5 : a0_0 = 2
  ·rw [if_pos c5] at H
   have c5b0 : (a0_0 == 2) = true := beq_iff_eq.mpr c5
   have c5b1 : (a0_0 != 2) = false := bne_eq_false_iff_eq.mpr c5
   clear c5
   (first | rw [c5b0] | (simp only [i64_w, i32_w]; rw [c5b0]) | skip)
   replace H := Option.bind_eq_some_iff.mp H
   obtain ⟨t169, A60, H⟩ := H
   replace H : (block_Check.j0 k t169 a0_0 a0_1 a0_2 a0_3 a0_4 a0_5 a0_6 a0_7) = some r := H
   have A6 := Aside0.mk A60
   clear A60
   have H' := Aside0.mk H
   clear H
   obtain ⟨z7_0, z7_1, z7_2, z7_3, z7_4, z7_5, z7_6, z7_7, f7_0, f7_1, f7_2, f7_3, f7_4, f7_5, f7_6, f7_7⟩ := bc8_ BK168.out
   go_wp2_with (first | ((with_reducible refine gate_callee (f := 81) rfl ?_); refine gl_ (some 12) Try.func81 #[.string a0_2] ?_; (with_reducible refine (value_Name.calls k a0_2 t169 _ A6.out).mono ?_); rintro e w' ⟨rfl, ⟨nd, rfl⟩⟩; refine ⟨_, rfl, ?_⟩))
   go_meet
   case rel => exact ⟨_, (t169), (by first | rfl | (simp; done) | (simp [*]; done)), H', ⟨by first | omega | exact Nat.le_refl _⟩, ⟨bz_ BK168.out⟩, ⟨bh_ HB.out⟩⟩
  ·rw [if_neg c5] at H
   have c5b0 : (a0_0 == 2) = false := beq_eq_false_iff_ne.mpr c5
   have c5b1 : (a0_0 != 2) = true := bne_iff_ne.mpr c5
   (first | rw [c5b0] | (simp only [i64_w, i32_w]; rw [c5b0]) | skip)
   have H' := Aside0.mk H
   clear H
   go_wp2
   go_meet
   case rel => exact ⟨_, ((a0_2.toList == ([] : List UInt8))), (by first | rfl | (simp; done) | (simp [*]; done)), H', ⟨by first | omega | exact Nat.le_refl _⟩, ⟨bz_ BK168.out⟩, ⟨bh_ HB.out⟩⟩
 case rest =>
  clear HC2
  try clear p2
  try clear c5
  try clear c5b0
  try clear c5b1
  try clear z4_0 z4_1 z4_2 z4_3 z4_4 z4_5 z4_6 z4_7
  try clear z7_0 z7_1 z7_2 z7_3 z7_4 z7_5 z7_6 z7_7
  try clear f4_0 f4_1 f4_2 f4_3 f4_4 f4_5 f4_6 f4_7
  try clear f7_0 f7_1 f7_2 f7_3 f7_4 f7_5 f7_6 f7_7
  obtain ⟨kq, x3_1, rfl, HA, HJ1, BK168, HB⟩ := hcut
  cases kq with
  | zero => exact absurd HA.out (by simp [block_Check.j0])
  | succ kj1 =>
   have H := HA.out
   clear HA
   simp only [block_Check.j0] at H
   by_cases c8 : a0_0 < 1
   ·rw [if_pos c8] at H
    have c8b0 : decide (a0_0 < 1) = true := decide_eq_true c8
    clear c8
    obtain rfl := Option.some.inj H
    obtain ⟨z9_0, z9_1, z9_2, z9_3, z9_4, z9_5, z9_6, z9_7, f9_0, f9_1, f9_2, f9_3, f9_4, f9_5, f9_6, f9_7⟩ := bc8_ BK168.out
    go_wp2
    go_ret
    exact ⟨by first | rfl | (simp [errW_none, errW_some] <;> rfl) | (simp [*, errW_none, errW_some] <;> rfl), by repeat (first | (with_reducible first | exact HB.out | apply below_alloc | apply pw_below_drewN | apply below_drew1 | refine below_set ?_ GE168.out) | exact HB.out)⟩
   ·rw [if_neg c8] at H
    have c8b0 : decide (a0_0 < 1) = false := decide_eq_false c8
    clear c8
    by_cases c10 : a0_0 > 5
    ·rw [if_pos c10] at H
     have c10b0 : decide (5 < a0_0) = true := decide_eq_true c10
     clear c10
     obtain rfl := Option.some.inj H
     obtain ⟨z11_0, z11_1, z11_2, z11_3, z11_4, z11_5, z11_6, z11_7, f11_0, f11_1, f11_2, f11_3, f11_4, f11_5, f11_6, f11_7⟩ := bc8_ BK168.out
     go_wp2
     go_ret
     exact ⟨by first | rfl | (simp [errW_none, errW_some] <;> rfl) | (simp [*, errW_none, errW_some] <;> rfl), by repeat (first | (with_reducible first | exact HB.out | apply below_alloc | apply pw_below_drewN | apply below_drew1 | refine below_set ?_ GE168.out) | exact HB.out)⟩
    ·rw [if_neg c10] at H
     have c10b0 : decide (5 < a0_0) = false := decide_eq_false c10
     clear c10
     replace H := Option.bind_eq_some_iff.mp H
     obtain ⟨t170, A120, H⟩ := H
     replace H : (if t170 = true then (if x3_1 = true then ((block_numbers.f a0_0 a0_1 a0_2 a0_3 a0_4 a0_5 a0_6 a0_7).bind fun t171 => (if t171 = true then ((block_bytes.f a0_0 a0_1 a0_2 a0_3 a0_4 a0_5 a0_6 a0_7).bind fun t172 => (if t172 = true then (some 0) else (some 6))) else (some 6))) else (some 6)) else (some 6)) = some r := H
     have A12 := Aside0.mk A120
     clear A120
     by_cases c13 : t170 = true
     ·subst c13
      have H1 : (if x3_1 = true then ((block_numbers.f a0_0 a0_1 a0_2 a0_3 a0_4 a0_5 a0_6 a0_7).bind fun t171 => (if t171 = true then ((block_bytes.f a0_0 a0_1 a0_2 a0_3 a0_4 a0_5 a0_6 a0_7).bind fun t172 => (if t172 = true then (some 0) else (some 6))) else (some 6))) else (some 6)) = some r := by rw [if_pos rfl] at H; exact H
      clear H
      have H := H1
      clear H1
      by_cases c14 : x3_1 = true
      ·subst c14
       have H1 : ((block_numbers.f a0_0 a0_1 a0_2 a0_3 a0_4 a0_5 a0_6 a0_7).bind fun t171 => (if t171 = true then ((block_bytes.f a0_0 a0_1 a0_2 a0_3 a0_4 a0_5 a0_6 a0_7).bind fun t172 => (if t172 = true then (some 0) else (some 6))) else (some 6))) = some r := by rw [if_pos rfl] at H; exact H
       clear H
       have H := H1
       clear H1
       replace H := Option.bind_eq_some_iff.mp H
       obtain ⟨t171, A150, H⟩ := H
       replace H : (if t171 = true then ((block_bytes.f a0_0 a0_1 a0_2 a0_3 a0_4 a0_5 a0_6 a0_7).bind fun t172 => (if t172 = true then (some 0) else (some 6))) else (some 6)) = some r := H
       have A15 := Aside0.mk A150
       clear A150
       by_cases c16 : t171 = true
       ·subst c16
        have H1 : ((block_bytes.f a0_0 a0_1 a0_2 a0_3 a0_4 a0_5 a0_6 a0_7).bind fun t172 => (if t172 = true then (some 0) else (some 6))) = some r := by rw [if_pos rfl] at H; exact H
        clear H
        have H := H1
        clear H1
        replace H := Option.bind_eq_some_iff.mp H
        obtain ⟨t172, A170, H⟩ := H
        replace H : (if t172 = true then (some 0) else (some 6)) = some r := H
        have A17 := Aside0.mk A170
        clear A170
        by_cases c18 : t172 = true
        ·subst c18
         have H1 : (some 0) = some r := by rw [if_pos rfl] at H; exact H
         clear H
         have H := H1
         clear H1
         obtain rfl := Option.some.inj H
         obtain ⟨z19_0, z19_1, z19_2, z19_3, z19_4, z19_5, z19_6, z19_7, f19_0, f19_1, f19_2, f19_3, f19_4, f19_5, f19_6, f19_7⟩ := bc8_ BK168.out
         go_wp2_with (first | (go_at_call 81; (with_reducible refine (value_Name.calls kj1 a0_1 true _ A12.out).mono ?_); rintro e w' ⟨rfl, ⟨nd, rfl⟩⟩) | (go_at_call 82; (with_reducible refine (block_numbers.calls a0_0 a0_1 a0_2 a0_3 a0_4 a0_5 a0_6 a0_7 true _ A15.out).mono ?_); rintro e w20 ⟨rfl, hb⟩; replace BK168 := Aside0.mk (bk_ BK168.out hb); replace HB := Aside0.mk (below_step (bh_ HB.out) hb); (try clear hb); obtain ⟨z21_0, z21_1, z21_2, z21_3, z21_4, z21_5, z21_6, z21_7, f21_0, f21_1, f21_2, f21_3, f21_4, f21_5, f21_6, f21_7⟩ := bc8_ BK168.out) | (go_at_call 83; (with_reducible refine (block_bytes.calls a0_0 a0_1 a0_2 a0_3 a0_4 a0_5 a0_6 a0_7 true _ A17.out).mono ?_); rintro e w22 ⟨rfl, hb⟩; replace BK168 := Aside0.mk (bk_ BK168.out hb); replace HB := Aside0.mk (below_step (bh_ HB.out) hb); (try clear hb)))
         go_ret
         exact ⟨by first | rfl | (simp [errW_none, errW_some] <;> rfl) | (simp [*, errW_none, errW_some] <;> rfl), by repeat (first | (with_reducible first | exact HB.out | apply below_alloc | apply pw_below_drewN | apply below_drew1 | refine below_set ?_ GE168.out) | exact HB.out)⟩
        ·replace c18 := Bool.eq_false_iff.mpr c18
         subst c18
         have H1 : (some 6) = some r := by rw [if_neg (show ¬ (false = true) by decide)] at H; exact H
         clear H
         have H := H1
         clear H1
         obtain rfl := Option.some.inj H
         obtain ⟨z23_0, z23_1, z23_2, z23_3, z23_4, z23_5, z23_6, z23_7, f23_0, f23_1, f23_2, f23_3, f23_4, f23_5, f23_6, f23_7⟩ := bc8_ BK168.out
         go_wp2_with (first | (go_at_call 81; (with_reducible refine (value_Name.calls kj1 a0_1 true _ A12.out).mono ?_); rintro e w' ⟨rfl, ⟨nd, rfl⟩⟩) | (go_at_call 82; (with_reducible refine (block_numbers.calls a0_0 a0_1 a0_2 a0_3 a0_4 a0_5 a0_6 a0_7 true _ A15.out).mono ?_); rintro e w24 ⟨rfl, hb⟩; replace BK168 := Aside0.mk (bk_ BK168.out hb); replace HB := Aside0.mk (below_step (bh_ HB.out) hb); (try clear hb); obtain ⟨z25_0, z25_1, z25_2, z25_3, z25_4, z25_5, z25_6, z25_7, f25_0, f25_1, f25_2, f25_3, f25_4, f25_5, f25_6, f25_7⟩ := bc8_ BK168.out) | (go_at_call 83; (with_reducible refine (block_bytes.calls a0_0 a0_1 a0_2 a0_3 a0_4 a0_5 a0_6 a0_7 false _ A17.out).mono ?_); rintro e w26 ⟨rfl, hb⟩; replace BK168 := Aside0.mk (bk_ BK168.out hb); replace HB := Aside0.mk (below_step (bh_ HB.out) hb); (try clear hb)))
         go_ret
         exact ⟨by first | rfl | (simp [errW_none, errW_some] <;> rfl) | (simp [*, errW_none, errW_some] <;> rfl), by repeat (first | (with_reducible first | exact HB.out | apply below_alloc | apply pw_below_drewN | apply below_drew1 | refine below_set ?_ GE168.out) | exact HB.out)⟩
       ·replace c16 := Bool.eq_false_iff.mpr c16
        subst c16
        have H1 : (some 6) = some r := by rw [if_neg (show ¬ (false = true) by decide)] at H; exact H
        clear H
        have H := H1
        clear H1
        obtain rfl := Option.some.inj H
        obtain ⟨z27_0, z27_1, z27_2, z27_3, z27_4, z27_5, z27_6, z27_7, f27_0, f27_1, f27_2, f27_3, f27_4, f27_5, f27_6, f27_7⟩ := bc8_ BK168.out
        go_wp2_with (first | (go_at_call 81; (with_reducible refine (value_Name.calls kj1 a0_1 true _ A12.out).mono ?_); rintro e w' ⟨rfl, ⟨nd, rfl⟩⟩) | (go_at_call 82; (with_reducible refine (block_numbers.calls a0_0 a0_1 a0_2 a0_3 a0_4 a0_5 a0_6 a0_7 false _ A15.out).mono ?_); rintro e w28 ⟨rfl, hb⟩; replace BK168 := Aside0.mk (bk_ BK168.out hb); replace HB := Aside0.mk (below_step (bh_ HB.out) hb); (try clear hb)))
        go_ret
        exact ⟨by first | rfl | (simp [errW_none, errW_some] <;> rfl) | (simp [*, errW_none, errW_some] <;> rfl), by repeat (first | (with_reducible first | exact HB.out | apply below_alloc | apply pw_below_drewN | apply below_drew1 | refine below_set ?_ GE168.out) | exact HB.out)⟩
      ·replace c14 := Bool.eq_false_iff.mpr c14
       subst c14
       have H1 : (some 6) = some r := by rw [if_neg (show ¬ (false = true) by decide)] at H; exact H
       clear H
       have H := H1
       clear H1
       obtain rfl := Option.some.inj H
       obtain ⟨z29_0, z29_1, z29_2, z29_3, z29_4, z29_5, z29_6, z29_7, f29_0, f29_1, f29_2, f29_3, f29_4, f29_5, f29_6, f29_7⟩ := bc8_ BK168.out
       go_wp2_with (first | (go_at_call 81; (with_reducible refine (value_Name.calls kj1 a0_1 true _ A12.out).mono ?_); rintro e w' ⟨rfl, ⟨nd, rfl⟩⟩))
       go_ret
       exact ⟨by first | rfl | (simp [errW_none, errW_some] <;> rfl) | (simp [*, errW_none, errW_some] <;> rfl), by repeat (first | (with_reducible first | exact HB.out | apply below_alloc | apply pw_below_drewN | apply below_drew1 | refine below_set ?_ GE168.out) | exact HB.out)⟩
     ·replace c13 := Bool.eq_false_iff.mpr c13
      subst c13
      have H1 : (some 6) = some r := by rw [if_neg (show ¬ (false = true) by decide)] at H; exact H
      clear H
      have H := H1
      clear H1
      obtain rfl := Option.some.inj H
      obtain ⟨z30_0, z30_1, z30_2, z30_3, z30_4, z30_5, z30_6, z30_7, f30_0, f30_1, f30_2, f30_3, f30_4, f30_5, f30_6, f30_7⟩ := bc8_ BK168.out
      go_wp2_with (first | (go_at_call 81; (with_reducible refine (value_Name.calls kj1 a0_1 false _ A12.out).mono ?_); rintro e w' ⟨rfl, ⟨nd, rfl⟩⟩))
      go_ret
      exact ⟨by first | rfl | (simp [errW_none, errW_some] <;> rfl) | (simp [*, errW_none, errW_some] <;> rfl), by repeat (first | (with_reducible first | exact HB.out | apply below_alloc | apply pw_below_drewN | apply below_drew1 | refine below_set ?_ GE168.out) | exact HB.out)⟩
end Go.Proofs.Ytdcbacbilncnnaa.PMk
end
section
namespace Go.Proofs.Ytdcbacbilncnnaa.PMk
open Go.RowKit Go.Proofs.YtdcbacbilncnnaaW.PrintWords Go.Proofs.YtdcbacbilncnnaaW.PrintLast Go.Proofs.YtdcbacbilncnnaaW.PrintMore
attribute [local go_sem] max2_int min2_int max_two min_two max_three min_three max_four min_four   -- for this text's walks alone
set_option linter.unusedVariables false
set_option linter.unusedSimpArgs false
/-! ### block_Follows: function 40 -/
mutual
def block_Follows.j0 : Nat → Int → ByteArray → Bool → Int → ByteArray → Int → List (S47) → Option (Int)
 | 0, _, _, _, _, _, _, _ => none
 | k + 1, x1, x2, x19, x174000, x174001, x174002, x174003 => if x19 = true then (some 3) else (block_Follows.l0 k x1 x2 x174003 (x174003.length : Int) 0 x174000 x174001 x174002 x174003)
def block_Follows.l0 : Nat → Int → ByteArray → List (S47) → Int → Int → Int → ByteArray → Int → List (S47) → Option (Int)
 | 0, _, _, _, _, _, _, _, _, _ => none
 | k + 1, x1, x2, x21, x22, x23, x174000, x174001, x174002, x174003 => if x23 < x22 then (if 0 ≤ x23 then (if x23 < (x21.length : Int) then ((block_Check.f k ((rd_T47 x21 x23).f0) ((rd_T47 x21 x23).f1) ((rd_T47 x21 x23).f2) ((rd_T47 x21 x23).f3) ((rd_T47 x21 x23).f4) ((rd_T47 x21 x23).f5) ((rd_T47 x21 x23).f6) ((rd_T47 x21 x23).f7)).bind fun t176 => (if t176 = 0 then (block_Follows.l0 k x1 x2 x21 x22 (wrap64 (x23 + 1)) x174000 x174001 x174002 x174003) else (some t176))) else (none)) else (none)) else (if x174000 = x1 then (if x174001.toList = x2.toList then (some 0) else (some 90)) else (some 90))
end
def block_Follows.f (k : Nat) (a0_0 : Int) (a0_1 : ByteArray) (a0_2 : Int) (l0_3 : List (S47)) (a1 : Int) (a2 : ByteArray) : Option (Int) := if (l0_3.length : Int) < 1 then (block_Follows.j0 k a1 a2 true a0_0 a0_1 a0_2 l0_3) else (block_Follows.j0 k a1 a2 (decide ((l0_3.length : Int) > 64)) a0_0 a0_1 a0_2 l0_3)
set_option maxHeartbeats 8000000 in
set_option maxRecDepth 100000 in
theorem block_Follows.calls (k : Nat) (a0_0 : Int) (a0_1 : ByteArray) (a0_2 : Int) (A0_3 : Option Addr) (c0_3 : Nat) (l0_3 : List (S47)) (a1 : Int) (a2 : ByteArray) (r : Int) (w : World) (hr0_3 : Kd.C k47 w A0_3 l0_3.length l0_3) (hc0_3 : l0_3.length ≤ c0_3) (h : block_Follows.f k a0_0 a0_1 a0_2 l0_3 a1 a2 = some r) :
  Calls Try.prog 40 #[.agg #[.int .u64 a0_0, .string a0_1, .int .u64 a0_2, .slice A0_3 l0_3.length c0_3], .int .u64 a1, .string a2] w fun e w' => e = .returned (.int .i64 r) ∧ Below w.heap.size w w' := by
 have hu25 := Try.underlying25
 have hu47 := Try.underlying47
 have HR0_3 := Aside0.mk hr0_3
 have HC0_3 := Aside0.mk hc0_3
 clear hr0_3 hc0_3
 have HB := Aside0.mk (Below.refl w.heap.size w)
 have H : (if (l0_3.length : Int) < 1 then (block_Follows.j0 k a1 a2 true a0_0 a0_1 a0_2 l0_3) else (block_Follows.j0 k a1 a2 (decide ((l0_3.length : Int) > 64)) a0_0 a0_1 a0_2 l0_3)) = some r := h
 clear h
 have HC4 := Aside0.mk H
 clear H
 go_enter Try.func40, Try.ntmps40
 go_upto_region 1 with (first | ((with_reducible refine gate_dst (N := 3) rfl ?_); (try (refine gate_guard (by rfl) ?_; dsimp only)); refine box_event ?hg (N := 3) ?hd (cs := #[.int .u64 a0_0, .string a0_1, .int .u64 a0_2, .slice A0_3 l0_3.length c0_3]) (t := 25) ?hr ?_; (case hd => rfl); (case hg => rfl); (case hr => first | (go_simp; done) | (go_simp; rfl)); intro gb173 hg w5 hbox hb; have n0_ := Aside0.mk (below_step (bh_ HB.out) hb); have n1_ := Aside0.mk (hbox); have n2_ := Aside0.mk ((by rw [hg]; exact (below_size (bh_ HB.out)) : w.heap.size ≤ gb173)); have n3_ := Aside0.mk ((by rw [hg]; exact (below_size (bh_ HB.out)) : w.heap.size ≤ gb173)); clear HB; have HB := n0_; have BK173 := n1_; have GW173 := n2_; have GE173 := n3_; clear n0_ n1_ n2_ n3_; clear hb hbox hg))
 (try simp only [Act.put, q1_, q2_, q3_])
 go_cut [19] (fun v19 wc => ∃ (kq : Nat) (x19_3 : Bool), v19 = .bool x19_3 ∧ Aside0 (block_Follows.j0 kq a1 a2 x19_3 a0_0 a0_1 a0_2 l0_3 = some r) ∧ Aside0 (kq ≤ k) ∧ Aside0 (wc.heap[gb173]? = some (.cells #[.int .u64 a0_0, .string a0_1, .int .u64 a0_2, (.slice A0_3 l0_3.length c0_3)] 25 (0, 0))) ∧ Aside0 (Below w.heap.size w wc))
 case first =>
  have H := HC4.out
  clear HC4
  by_cases c6 : (l0_3.length : Int) < 1
  ·rw [if_pos c6] at H
   have c6b0 : decide ((l0_3.length : Int) < 1) = true := decide_eq_true c6
   have c6b1 : decide (l0_3.length < 1) = true := decide_eq_true (by omega)
   clear c6
   (first | rw [c6b0] | (simp only [i64_w, i32_w]; rw [c6b0]) | skip)
   have H' := Aside0.mk H
   clear H
   obtain ⟨z7_0, z7_1, z7_2, z7_3, f7_0, f7_1, f7_2, f7_3⟩ := bc4_ BK173.out
   go_wp2
   go_meet
   case rel => exact ⟨_, (true), (by first | rfl | (simp; done) | (simp [*]; done)), H', ⟨by first | omega | exact Nat.le_refl _⟩, ⟨bz_ BK173.out⟩, ⟨bh_ HB.out⟩⟩
  ·rw [if_neg c6] at H
   have c6b0 : decide ((l0_3.length : Int) < 1) = false := decide_eq_false c6
   have c6b1 : decide (l0_3.length < 1) = false := decide_eq_false (by omega)
   clear c6
   (first | rw [c6b0] | (simp only [i64_w, i32_w]; rw [c6b0]) | skip)
   have H' := Aside0.mk H
   clear H
   obtain ⟨z8_0, z8_1, z8_2, z8_3, f8_0, f8_1, f8_2, f8_3⟩ := bc4_ BK173.out
   go_wp2
   go_meet
   case rel => exact ⟨_, (decide ((l0_3.length : Int) > 64)), (by first | rfl | (simp; done) | (simp [*]; done)), H', ⟨by first | omega | exact Nat.le_refl _⟩, ⟨bz_ BK173.out⟩, ⟨bh_ HB.out⟩⟩
 case rest =>
  clear HC4
  try clear p2
  try clear c4
  try clear c6
  try clear c6b0
  try clear c6b1
  try clear z7_0 z7_1 z7_2 z7_3
  try clear z8_0 z8_1 z8_2 z8_3
  try clear f7_0 f7_1 f7_2 f7_3
  try clear f8_0 f8_1 f8_2 f8_3
  obtain ⟨kq, x19_3, rfl, HA, HJ3, BK173, HB⟩ := hcut
  cases kq with
  | zero => exact absurd HA.out (by simp [block_Follows.j0])
  | succ kj3 =>
   have H := HA.out
   clear HA
   simp only [block_Follows.j0] at H
   by_cases c9 : x19_3 = true
   ·subst c9
    have H1 : (some 3) = some r := by rw [if_pos rfl] at H; exact H
    clear H
    have H := H1
    clear H1
    obtain rfl := Option.some.inj H
    go_wp2
    go_ret
    exact ⟨by first | rfl | (simp [errW_none, errW_some] <;> rfl) | (simp [*, errW_none, errW_some] <;> rfl), by repeat (first | (with_reducible first | exact HB.out | apply below_alloc | apply pw_below_drewN | apply below_drew1 | refine below_set ?_ GE173.out) | exact HB.out)⟩
   ·replace c9 := Bool.eq_false_iff.mpr c9
    subst c9
    have H1 : (block_Follows.l0 kj3 a1 a2 l0_3 (l0_3.length : Int) 0 a0_0 a0_1 a0_2 l0_3) = some r := by rw [if_neg (show ¬ (false = true) by decide)] at H; exact H
    clear H
    have H := H1
    clear H1
    have H' := Aside0.mk H
    clear H
    obtain ⟨z10_0, z10_1, z10_2, z10_3, f10_0, f10_1, f10_2, f10_3⟩ := bc4_ BK173.out
    go_wp2
    go_loopg [23] kj3 (fun kq v23 w' => ∃ (x23_2 : Int), v23 = .int .i64 x23_2 ∧ Aside0 (block_Follows.l0 kq a1 a2 l0_3 (l0_3.length : Int) x23_2 a0_0 a0_1 a0_2 l0_3 = some r) ∧ Aside0 (kq ≤ kj3) ∧ Aside0 (w'.heap[gb173]? = some (.cells #[.int .u64 a0_0, .string a0_1, .int .u64 a0_2, (.slice A0_3 l0_3.length c0_3)] 25 (0, 0))) ∧ Aside0 (Below w.heap.size w w'))
    case atStart => exact ⟨(0), (by first | rfl | (simp; done) | (simp [*]; done)), H', ⟨Nat.le_refl _⟩, ⟨bz_ BK173.out⟩, ⟨bh_ HB.out⟩⟩
    case round =>
     clear H'
     try clear p2
     try clear c4
     try clear c6
     try clear c6b0
     try clear c6b1
     try clear c9
     try clear z10_0 z10_1 z10_2 z10_3
     try clear z7_0 z7_1 z7_2 z7_3
     try clear z8_0 z8_1 z8_2 z8_3
     try clear f10_0 f10_1 f10_2 f10_3
     try clear f7_0 f7_1 f7_2 f7_3
     try clear f8_0 f8_1 f8_2 f8_3
     try clear p2
     obtain ⟨x23_2, rfl, HA, HK2, BK173, HB⟩ := hrel
     cases gk with
     | zero => exact absurd HA.out (by simp [block_Follows.l0])
     | succ k2 =>
      have H := HA.out
      clear HA
      simp only [block_Follows.l0] at H
      by_cases c11 : x23_2 < (l0_3.length : Int)
      ·rw [if_pos c11] at H
       have c11b0 : decide (x23_2 < (l0_3.length : Int)) = true := decide_eq_true c11
       clear c11
       by_cases c12 : 0 ≤ x23_2
       ·rw [if_pos c12] at H
        have c12b0 : decide (0 ≤ x23_2) = true := decide_eq_true c12
        clear c12
        by_cases c13 : x23_2 < (l0_3.length : Int)
        ·rw [if_pos c13] at H
         have c13b0 : decide (x23_2 < (l0_3.length : Int)) = true := decide_eq_true c13
         clear c13
         replace H := Option.bind_eq_some_iff.mp H
         obtain ⟨t176, A140, H⟩ := H
         replace H : (if t176 = 0 then (block_Follows.l0 k2 a1 a2 l0_3 (l0_3.length : Int) (wrap64 (x23_2 + 1)) a0_0 a0_1 a0_2 l0_3) else (some t176)) = some r := H
         have A14 := Aside0.mk A140
         clear A140
         by_cases c15 : t176 = 0
         ·rw [if_pos c15] at H
          have c15b0 : (t176 == 0) = true := beq_iff_eq.mpr c15
          have c15b1 : (t176 != 0) = false := bne_eq_false_iff_eq.mpr c15
          clear c15
          have H' := Aside0.mk H
          clear H
          have p174 : 0 ≤ (x23_2 : Int) := of_decide_eq_true (by first | (with_reducible assumption) | assumption)
          have q174 : x23_2 < (l0_3.length : Int) := of_decide_eq_true (by first | (with_reducible assumption) | assumption)
          obtain ⟨ad174, e174, hx174_0, hx174_1, hx174_2, hx174_3, hx174_4, hx174_5, hx174_6, hx174_7⟩ := at_T47 HR0_3.out x23_2 p174 q174
          cases e174
          replace hx174_0 := (HB.out.cell (World.block_lt_of_cell? w _ hx174_0)).trans hx174_0
          replace hx174_1 := (HB.out.cell (World.block_lt_of_cell? w _ hx174_1)).trans hx174_1
          replace hx174_2 := (HB.out.cell (World.block_lt_of_cell? w _ hx174_2)).trans hx174_2
          replace hx174_3 := (HB.out.cell (World.block_lt_of_cell? w _ hx174_3)).trans hx174_3
          replace hx174_4 := (HB.out.cell (World.block_lt_of_cell? w _ hx174_4)).trans hx174_4
          replace hx174_5 := (HB.out.cell (World.block_lt_of_cell? w _ hx174_5)).trans hx174_5
          replace hx174_6 := (HB.out.cell (World.block_lt_of_cell? w _ hx174_6)).trans hx174_6
          replace hx174_7 := (HB.out.cell (World.block_lt_of_cell? w _ hx174_7)).trans hx174_7
          replace p174 := eq_true p174
          replace q174 := eq_true q174
          go_wp2_with (first | ((with_reducible refine gate_dst (N := 8) rfl ?_); (try (refine gate_guard (by rfl) ?_; dsimp only)); refine box_event ?hg (N := 8) ?hd (cs := #[.int .i64 0, .string (⟨#[]⟩ : ByteArray), .string (⟨#[]⟩ : ByteArray), .int .u64 0, .int .u64 0, .string (⟨#[]⟩ : ByteArray), .string (⟨#[]⟩ : ByteArray), .bool false]) (t := 47) ?hr ?_; (case hd => rfl); (case hg => rfl); (case hr => first | (go_simp; done) | (go_simp; rfl)); intro gb175 hg w16 hbox hb; have n0_ := Aside0.mk (bk_ BK173.out hb); have n1_ := Aside0.mk (below_step (bh_ HB.out) hb); have n2_ := Aside0.mk (hbox); have n3_ := Aside0.mk ((by rw [hg]; exact (below_size (bh_ HB.out)) : w.heap.size ≤ gb175)); have n4_ := Aside0.mk ((by rw [hg]; exact (below_size (bh_ HB.out)) : w.heap.size ≤ gb175)); have n5_ := Aside0.mk ((by rw [hg]; exact Nat.ne_of_lt (blk_lt (g := gb173) (o := .cells #[.int .u64 a0_0, .string a0_1, .int .u64 a0_2, .slice (some ad174) l0_3.length c0_3] 25 (0, 0)) (bz_ BK173.out)) : gb173 ≠ gb175)); have n6_ := Aside0.mk ((by rw [hg]; exact Nat.ne_of_gt (blk_lt (g := gb173) (o := .cells #[.int .u64 a0_0, .string a0_1, .int .u64 a0_2, .slice (some ad174) l0_3.length c0_3] 25 (0, 0)) (bz_ BK173.out)) : gb175 ≠ gb173)); clear BK173; clear HB; have BK173 := n0_; have HB := n1_; have BK175 := n2_; have GW175 := n3_; have GE175 := n4_; have NB173_175 := n5_; have NB175_173 := n6_; clear n0_ n1_ n2_ n3_ n4_ n5_ n6_; clear hb hbox hg; have hnb17 := NB175_173.out; have hnc17 := NB173_175.out; obtain ⟨z18_0, z18_1, z18_2, z18_3, z18_4, z18_5, z18_6, z18_7, f18_0, f18_1, f18_2, f18_3, f18_4, f18_5, f18_6, f18_7⟩ := bc8_ BK175.out) | ((with_reducible refine gate_callee (f := 50) rfl ?_); refine gl_ (some 28) Try.func50 #[.agg #[.int .i64 ((rd_T47 l0_3 x23_2).f0), .string ((rd_T47 l0_3 x23_2).f1), .string ((rd_T47 l0_3 x23_2).f2), .int .u64 ((rd_T47 l0_3 x23_2).f3), .int .u64 ((rd_T47 l0_3 x23_2).f4), .string ((rd_T47 l0_3 x23_2).f5), .string ((rd_T47 l0_3 x23_2).f6), .bool ((rd_T47 l0_3 x23_2).f7)]] ?_; (with_reducible refine (block_Check.calls k2 ((rd_T47 l0_3 x23_2).f0) ((rd_T47 l0_3 x23_2).f1) ((rd_T47 l0_3 x23_2).f2) ((rd_T47 l0_3 x23_2).f3) ((rd_T47 l0_3 x23_2).f4) ((rd_T47 l0_3 x23_2).f5) ((rd_T47 l0_3 x23_2).f6) ((rd_T47 l0_3 x23_2).f7) t176 _ A14.out).mono ?_); rintro e w19 ⟨rfl, hb⟩; refine ⟨_, rfl, ?_⟩; replace BK173 := Aside0.mk (bf_ BK173.out hb); replace BK175 := Aside0.mk (bp_ (o' := .cells #[.int .i64 ((rd_T47 l0_3 x23_2).f0), .string ((rd_T47 l0_3 x23_2).f1), .string ((rd_T47 l0_3 x23_2).f2), .int .u64 ((rd_T47 l0_3 x23_2).f3), .int .u64 ((rd_T47 l0_3 x23_2).f4), .string ((rd_T47 l0_3 x23_2).f5), .string ((rd_T47 l0_3 x23_2).f6), .bool ((rd_T47 l0_3 x23_2).f7)] 47 (0, 0)) BK175.out hb); replace HB := Aside0.mk (below_step (bh_ HB.out) hb); (try clear hb)))
          go_roundg k2
          case measure => have := HJ3.out; have := HK2.out; omega
          case rel => exact ⟨(wrap64 (x23_2 + 1)), (by first | rfl | (simp; done) | (simp [*]; done)), H', ⟨by have := HJ3.out; have := HK2.out; omega⟩, ⟨bz_ BK173.out⟩, ⟨bh_ HB.out⟩⟩
         ·rw [if_neg c15] at H
          have c15b0 : (t176 == 0) = false := beq_eq_false_iff_ne.mpr c15
          have c15b1 : (t176 != 0) = true := bne_iff_ne.mpr c15
          obtain rfl := Option.some.inj H
          have p174 : 0 ≤ (x23_2 : Int) := of_decide_eq_true (by first | (with_reducible assumption) | assumption)
          have q174 : x23_2 < (l0_3.length : Int) := of_decide_eq_true (by first | (with_reducible assumption) | assumption)
          obtain ⟨ad174, e174, hx174_0, hx174_1, hx174_2, hx174_3, hx174_4, hx174_5, hx174_6, hx174_7⟩ := at_T47 HR0_3.out x23_2 p174 q174
          cases e174
          replace hx174_0 := (HB.out.cell (World.block_lt_of_cell? w _ hx174_0)).trans hx174_0
          replace hx174_1 := (HB.out.cell (World.block_lt_of_cell? w _ hx174_1)).trans hx174_1
          replace hx174_2 := (HB.out.cell (World.block_lt_of_cell? w _ hx174_2)).trans hx174_2
          replace hx174_3 := (HB.out.cell (World.block_lt_of_cell? w _ hx174_3)).trans hx174_3
          replace hx174_4 := (HB.out.cell (World.block_lt_of_cell? w _ hx174_4)).trans hx174_4
          replace hx174_5 := (HB.out.cell (World.block_lt_of_cell? w _ hx174_5)).trans hx174_5
          replace hx174_6 := (HB.out.cell (World.block_lt_of_cell? w _ hx174_6)).trans hx174_6
          replace hx174_7 := (HB.out.cell (World.block_lt_of_cell? w _ hx174_7)).trans hx174_7
          replace p174 := eq_true p174
          replace q174 := eq_true q174
          go_wp2_with (first | ((with_reducible refine gate_dst (N := 8) rfl ?_); (try (refine gate_guard (by rfl) ?_; dsimp only)); refine box_event ?hg (N := 8) ?hd (cs := #[.int .i64 0, .string (⟨#[]⟩ : ByteArray), .string (⟨#[]⟩ : ByteArray), .int .u64 0, .int .u64 0, .string (⟨#[]⟩ : ByteArray), .string (⟨#[]⟩ : ByteArray), .bool false]) (t := 47) ?hr ?_; (case hd => rfl); (case hg => rfl); (case hr => first | (go_simp; done) | (go_simp; rfl)); intro gb175 hg w20 hbox hb; have n0_ := Aside0.mk (bk_ BK173.out hb); have n1_ := Aside0.mk (below_step (bh_ HB.out) hb); have n2_ := Aside0.mk (hbox); have n3_ := Aside0.mk ((by rw [hg]; exact (below_size (bh_ HB.out)) : w.heap.size ≤ gb175)); have n4_ := Aside0.mk ((by rw [hg]; exact (below_size (bh_ HB.out)) : w.heap.size ≤ gb175)); have n5_ := Aside0.mk ((by rw [hg]; exact Nat.ne_of_lt (blk_lt (g := gb173) (o := .cells #[.int .u64 a0_0, .string a0_1, .int .u64 a0_2, .slice (some ad174) l0_3.length c0_3] 25 (0, 0)) (bz_ BK173.out)) : gb173 ≠ gb175)); have n6_ := Aside0.mk ((by rw [hg]; exact Nat.ne_of_gt (blk_lt (g := gb173) (o := .cells #[.int .u64 a0_0, .string a0_1, .int .u64 a0_2, .slice (some ad174) l0_3.length c0_3] 25 (0, 0)) (bz_ BK173.out)) : gb175 ≠ gb173)); clear BK173; clear HB; have BK173 := n0_; have HB := n1_; have BK175 := n2_; have GW175 := n3_; have GE175 := n4_; have NB173_175 := n5_; have NB175_173 := n6_; clear n0_ n1_ n2_ n3_ n4_ n5_ n6_; clear hb hbox hg; have hnb21 := NB175_173.out; have hnc21 := NB173_175.out; obtain ⟨z22_0, z22_1, z22_2, z22_3, z22_4, z22_5, z22_6, z22_7, f22_0, f22_1, f22_2, f22_3, f22_4, f22_5, f22_6, f22_7⟩ := bc8_ BK175.out) | ((with_reducible refine gate_callee (f := 50) rfl ?_); refine gl_ (some 28) Try.func50 #[.agg #[.int .i64 ((rd_T47 l0_3 x23_2).f0), .string ((rd_T47 l0_3 x23_2).f1), .string ((rd_T47 l0_3 x23_2).f2), .int .u64 ((rd_T47 l0_3 x23_2).f3), .int .u64 ((rd_T47 l0_3 x23_2).f4), .string ((rd_T47 l0_3 x23_2).f5), .string ((rd_T47 l0_3 x23_2).f6), .bool ((rd_T47 l0_3 x23_2).f7)]] ?_; (with_reducible refine (block_Check.calls k2 ((rd_T47 l0_3 x23_2).f0) ((rd_T47 l0_3 x23_2).f1) ((rd_T47 l0_3 x23_2).f2) ((rd_T47 l0_3 x23_2).f3) ((rd_T47 l0_3 x23_2).f4) ((rd_T47 l0_3 x23_2).f5) ((rd_T47 l0_3 x23_2).f6) ((rd_T47 l0_3 x23_2).f7) t176 _ A14.out).mono ?_); rintro e w23 ⟨rfl, hb⟩; refine ⟨_, rfl, ?_⟩; replace BK173 := Aside0.mk (bf_ BK173.out hb); replace BK175 := Aside0.mk (bp_ (o' := .cells #[.int .i64 ((rd_T47 l0_3 x23_2).f0), .string ((rd_T47 l0_3 x23_2).f1), .string ((rd_T47 l0_3 x23_2).f2), .int .u64 ((rd_T47 l0_3 x23_2).f3), .int .u64 ((rd_T47 l0_3 x23_2).f4), .string ((rd_T47 l0_3 x23_2).f5), .string ((rd_T47 l0_3 x23_2).f6), .bool ((rd_T47 l0_3 x23_2).f7)] 47 (0, 0)) BK175.out hb); replace HB := Aside0.mk (below_step (bh_ HB.out) hb); (try clear hb)))
          go_ret
          exact ⟨by first | rfl | (simp [errW_none, errW_some] <;> rfl) | (simp [*, errW_none, errW_some] <;> rfl), by repeat (first | (with_reducible first | exact HB.out | apply below_alloc | apply pw_below_drewN | apply below_drew1 | refine below_set ?_ GE173.out | refine below_set ?_ GE175.out) | exact HB.out)⟩
        ·rw [if_neg c13] at H
         exact absurd H (by simp)
       ·rw [if_neg c12] at H
        exact absurd H (by simp)
      ·rw [if_neg c11] at H
       have c11b0 : decide (x23_2 < (l0_3.length : Int)) = false := decide_eq_false c11
       clear c11
       by_cases c24 : a0_0 = a1
       ·rw [if_pos c24] at H
        have c24b0 : (a0_0 == a1) = true := beq_iff_eq.mpr c24
        have c24b1 : (a0_0 != a1) = false := bne_eq_false_iff_eq.mpr c24
        clear c24
        by_cases c25 : a0_1.toList = a2.toList
        ·rw [if_pos c25] at H
         have c25b0 : (a0_1.toList == a2.toList) = true := beq_iff_eq.mpr c25
         have c25b1 : (a0_1.toList != a2.toList) = false := bne_eq_false_iff_eq.mpr c25
         clear c25
         obtain rfl := Option.some.inj H
         obtain ⟨z26_0, z26_1, z26_2, z26_3, f26_0, f26_1, f26_2, f26_3⟩ := bc4_ BK173.out
         go_wp2
         go_ret
         exact ⟨by first | rfl | (simp [errW_none, errW_some] <;> rfl) | (simp [*, errW_none, errW_some] <;> rfl), by repeat (first | (with_reducible first | exact HB.out | apply below_alloc | apply pw_below_drewN | apply below_drew1 | refine below_set ?_ GE173.out) | exact HB.out)⟩
        ·rw [if_neg c25] at H
         have c25b0 : (a0_1.toList == a2.toList) = false := beq_eq_false_iff_ne.mpr c25
         have c25b1 : (a0_1.toList != a2.toList) = true := bne_iff_ne.mpr c25
         obtain rfl := Option.some.inj H
         obtain ⟨z27_0, z27_1, z27_2, z27_3, f27_0, f27_1, f27_2, f27_3⟩ := bc4_ BK173.out
         go_wp2
         go_ret
         exact ⟨by first | rfl | (simp [errW_none, errW_some] <;> rfl) | (simp [*, errW_none, errW_some] <;> rfl), by repeat (first | (with_reducible first | exact HB.out | apply below_alloc | apply pw_below_drewN | apply below_drew1 | refine below_set ?_ GE173.out) | exact HB.out)⟩
       ·rw [if_neg c24] at H
        have c24b0 : (a0_0 == a1) = false := beq_eq_false_iff_ne.mpr c24
        have c24b1 : (a0_0 != a1) = true := bne_iff_ne.mpr c24
        obtain rfl := Option.some.inj H
        obtain ⟨z28_0, z28_1, z28_2, z28_3, f28_0, f28_1, f28_2, f28_3⟩ := bc4_ BK173.out
        go_wp2
        go_ret
        exact ⟨by first | rfl | (simp [errW_none, errW_some] <;> rfl) | (simp [*, errW_none, errW_some] <;> rfl), by repeat (first | (with_reducible first | exact HB.out | apply below_alloc | apply pw_below_drewN | apply below_drew1 | refine below_set ?_ GE173.out) | exact HB.out)⟩
/-! ### parchmentref02_Uint: function 41 -/
/-! ### parchmentref02_Text: function 42 -/
/-! ### parchmentref08_half: function 59 -/
/-! ### parchmentref01_Node: function 60 -/
end Go.Proofs.Ytdcbacbilncnnaa.PMk
end
section
/- Numbers and texts in bytes: the program's and the reference's are one plain function's. -/
namespace Go.Proofs.Ytdcbacbilncnnaa.EncL
set_option linter.unusedVariables false
set_option linter.unusedSimpArgs false
open Go.RowKit Go.Proofs.Ytdcbacbilncnnaa.PMk Go.Proofs.Ytdcbacbilncnnaa.EncS Go.Proofs.YtdcbacbilncnnaaW.PrintWords Go.Proofs.YtdcbacbilncnnaaW.PrintLast Go.Proofs.YtdcbacbilncnnaaW.PrintMore
/-- Bytes as a text. -/
def S (l : List UInt8) : ByteArray := ⟨l.toArray⟩
theorem wrap64_in (n : Int) (h0 : -9223372036854775808 ≤ n) (h1 : n < 9223372036854775808) : wrap64 n = n := by unfold wrap64; omega
theorem u64_wrap (n : Int) : IntKind.u64.wrap n = n % 18446744073709551616 := by simp [IntKind.wrap, IntKind.bits, IntKind.signed]
theorem u64_in (n : Int) (h0 : 0 ≤ n) (h1 : n < 18446744073709551616) : IntKind.u64.wrap n = n := by rw [u64_wrap]; omega
theorem or_128 (x : Nat) (h : x < 128) : x ||| 128 = x + 128 := by
  have := Nat.two_pow_add_eq_or_of_lt (i := 7) (b := x) h 1
  simp only [Nat.mul_one, Nat.reducePow] at this
  rw [Nat.or_comm, ← this, Nat.add_comm]
theorem or128 (n : Nat) : Go.bits .or .u8 (((n : Int)) % 256) 128 = ((n % 128 + 128 : Nat) : Int) := by
  have e : ((n : Int) % 256) = ((n % 256 : Nat) : Int) := by omega
  rw [e]
  refine ((bits_nat .u8 8 (by decide) wraps_u8 (n % 256) 128 (by omega) (by decide)).2).trans ?_
  congr 1
  by_cases h2 : n % 256 < 128
  · rw [show n % 128 = n % 256 by omega, or_128 _ h2]
  · have h3 : n % 256 = n % 128 ||| 128 := by rw [or_128 _ (by omega)]; omega
    rw [h3, Nat.or_assoc, Nat.or_self, or_128 _ (by omega)]
def ints (l : List UInt8) : List Int := l.map fun b => (b.toNat : Int)
theorem strOf_ints (l : List UInt8) : strOfNums (ints l) = S l := by
  unfold strOfNums ints S
  rw [List.map_map]
  congr 2
  rw [List.map_congr_left (g := id) (fun b _ => by simp)]
  simp
theorem ints_length (l : List UInt8) : (ints l).length = l.length := by simp [ints]
theorem ints_snoc (l : List UInt8) (b : UInt8) (x : Int) (h : (b.toNat : Int) = x) : ints l ++ [x] = ints (l ++ [b]) := by simp [ints, h]
theorem S_size (l : List UInt8) : (S l).size = l.length := by simp [S, ByteArray.size]
theorem S_append (a b : List UInt8) : S a ++ S b = S (a ++ b) := by
  apply ByteArray.ext
  simp [S]
theorem S_of (s : ByteArray) : S s.toList = s := by
  rw [ByteArray.toList_eq]
  simp [S]
/-- enc.Uint's bytes. -/
theorem uint_l0 : ∀ (m n : Nat) (acc : List UInt8), n ≤ m → acc.length + (encU n).length < 140737488355328 →
    Ev (fun k => enc_Uint.l0 k (n : Int) (ints acc)) (S (acc ++ encU n)) := by
  have base : ∀ (n : Nat) (acc : List UInt8), n < 128 → acc.length + (encU n).length < 140737488355328 → Ev (fun k => enc_Uint.l0 k (n : Int) (ints acc)) (S (acc ++ encU n)) := by
    intro n acc h hl
    rw [encU_small n h] at hl ⊢
    simp only [List.length_cons, List.length_nil] at hl
    refine Ev.step (f := fun _ => some (S (acc ++ [UInt8.ofNat n]))) (fun k => ?_) (Ev.now _)
    simp only [enc_Uint.l0]
    rw [if_neg (by omega), if_pos (by rw [ints_length]; omega)]
    rw [ints_snoc acc (UInt8.ofNat n) _ (by rw [UInt8.toNat_ofNat']; omega), strOf_ints]
  intro m
  induction m with
  | zero => intro n acc hm hl; exact base n acc (by omega) hl
  | succ m ih =>
    intro n acc hm hl
    by_cases h : n < 128
    · exact base n acc h hl
    · rw [encU_great n h] at hl ⊢
      simp only [List.length_cons] at hl
      have h1 := ih (n / 128) (acc ++ [UInt8.ofNat (n % 128 + 128)]) (by omega) (by simp only [List.length_append, List.length_cons, List.length_nil]; omega)
      rw [List.append_assoc] at h1
      refine Ev.step (fun k => ?_) h1
      simp only [enc_Uint.l0]
      rw [if_pos (by omega), if_pos (by rw [ints_length]; omega), or128, ints_snoc acc (UInt8.ofNat (n % 128 + 128)) _ (by rw [UInt8.toNat_ofNat']; omega)]
      rfl
theorem uint_f (n : Nat) (h : n < 18446744073709551616) : Ev (fun k => enc_Uint.f k (n : Int)) (S (encU n)) := by
  have hl := encU_len n h
  exact uint_l0 n n [] (Nat.le_refl _) (by simp only [List.length_nil]; omega)
theorem text_f (t : ByteArray) (h : t.size ≤ 4611686018427387904) : Ev (fun k => enc_Text.f k t) (S (encU t.size ++ t.toList)) := by
  unfold enc_Text.f
  have hl := encU_len t.size (by omega)
  rw [u64_in (t.size : Int) (by omega) (by omega)]
  refine Ev.bind (uint_f t.size (by omega)) ?_
  have e : S (encU t.size) ++ t = S (encU t.size ++ t.toList) := by rw [← S_append, S_of]
  rw [if_pos (by rw [S_size]; omega), e]
  exact Ev.now _
end Go.Proofs.Ytdcbacbilncnnaa.EncL
end
section
/- A revision's bytes, joined: by what holds behind any of the operations. Written by wip/genmeta.py. -/
set_option linter.unusedVariables false
set_option linter.unusedSimpArgs false
namespace Go.Proofs.Ytdcbacbilncnnaa.Mw
open Go.RowKit Go.Proofs.Ytdcbacbilncnnaa Go.Proofs.Ytdcbacbilncnnaa.PMk Go.Proofs.YtdcbacbilncnnaaW.PrintWords Go.Proofs.YtdcbacbilncnnaaW.PrintLast
theorem cases26 {ops : Array Oper} {i : Nat} {o : Oper} (hs : ops.size = 26) (h : ops[i]? = some o) : i = 0 ∨ i = 1 ∨ i = 2 ∨ i = 3 ∨ i = 4 ∨ i = 5 ∨ i = 6 ∨ i = 7 ∨ i = 8 ∨ i = 9 ∨ i = 10 ∨ i = 11 ∨ i = 12 ∨ i = 13 ∨ i = 14 ∨ i = 15 ∨ i = 16 ∨ i = 17 ∨ i = 18 ∨ i = 19 ∨ i = 20 ∨ i = 21 ∨ i = 22 ∨ i = 23 ∨ i = 24 ∨ i = 25 := by
  have hi : i < ops.size := (Array.getElem?_eq_some_iff.1 h).1
  omega
def fr73 (a0 : Int) (a1 a2 : ByteArray) (a3 a4 : Int) (a5 a6 : ByteArray) (a7 : Bool) (g : Nat) (r v3 v4 v5 v6 v7 v8 v9 v10 v11 v12 v13 v14 v15 v16 v17 v18 v19 v20 v21 v22 v23 v24 v25 v26 v27 : Value) : Act := ⟨#[.agg #[.int .i64 a0, .string a1, .string a2, .int .u64 a3, .int .u64 a4, .string a5, .string a6, .bool a7], .pointer (some ⟨g, 0, none⟩), r, v3, v4, v5, v6, v7, v8, v9, v10, v11, v12, v13, v14, v15, v16, v17, v18, v19, v20, v21, v22, v23, v24, v25, v26, v27], []⟩
structure J73 (a0 : Int) (a1 a2 : ByteArray) (a3 a4 : Int) (a5 a6 : ByteArray) (a7 : Bool) (t1 t2 t3 t4 t5 : ByteArray) (g : Nat) (W : World) (b0 b1 b2 b3 b4 b5 b6 b7 b8 b9 b10 b11 b12 b13 b14 b15 b16 b17 b18 b19 b20 b21 b22 b23 b24 b25 : Bool) (r v3 v4 v5 v6 v7 v8 v9 v10 v11 v12 v13 v14 v15 v16 v17 v18 v19 v20 v21 v22 v23 v24 v25 v26 v27 : Value) (W' : World) : Prop where
  hb : Below (g + 1) W W'
  f0 : b0 = true → v3 = .pointer (some ⟨g, 0, none⟩)
  f1 : b1 = true → v4 = .int .i64 a0
  f2 : b2 = true → v5 = .int .u8 (a0 % 256)
  f3 : b3 = true → W'.ownsRow (g + 1) 5 1 v6 1 (nums .u8 [a0 % 256])
  f4 : b4 = true → v7 = .string (strOfNums [a0 % 256])
  f5 : b5 = true → v8 = .pointer (some ⟨g, 1, none⟩)
  f6 : b6 = true → v9 = .string a1
  f7 : b7 = true → v10 = .string t1
  f8 : b8 = true → v11 = .string ((strOfNums [a0 % 256]) ++ t1)
  f9 : b9 = true → v12 = .pointer (some ⟨g, 2, none⟩)
  f10 : b10 = true → v13 = .string a2
  f11 : b11 = true → v14 = .string t2
  f12 : b12 = true → v15 = .string (((strOfNums [a0 % 256]) ++ t1) ++ t2)
  f13 : b13 = true → v16 = .pointer (some ⟨g, 3, none⟩)
  f14 : b14 = true → v17 = .int .u64 a3
  f15 : b15 = true → v18 = .string t3
  f16 : b16 = true → v19 = .string ((((strOfNums [a0 % 256]) ++ t1) ++ t2) ++ t3)
  f17 : b17 = true → v20 = .pointer (some ⟨g, 4, none⟩)
  f18 : b18 = true → v21 = .int .u64 a4
  f19 : b19 = true → v22 = .string t4
  f20 : b20 = true → v23 = .string (((((strOfNums [a0 % 256]) ++ t1) ++ t2) ++ t3) ++ t4)
  f21 : b21 = true → v24 = .pointer (some ⟨g, 5, none⟩)
  f22 : b22 = true → v25 = .string a5
  f23 : b23 = true → v26 = .string t5
  f24 : b24 = true → v27 = .string ((((((strOfNums [a0 % 256]) ++ t1) ++ t2) ++ t3) ++ t4) ++ t5)
  f25 : b25 = true → r = .string ((((((strOfNums [a0 % 256]) ++ t1) ++ t2) ++ t3) ++ t4) ++ t5)
theorem J73.later {a0 : Int} {a1 a2 : ByteArray} {a3 a4 : Int} {a5 a6 : ByteArray} {a7 : Bool} {t1 t2 t3 t4 t5 : ByteArray} {g : Nat} {W W' W'' : World} {b0 b1 b2 b3 b4 b5 b6 b7 b8 b9 b10 b11 b12 b13 b14 b15 b16 b17 b18 b19 b20 b21 b22 b23 b24 b25 : Bool} {r v3 v4 v5 v6 v7 v8 v9 v10 v11 v12 v13 v14 v15 v16 v17 v18 v19 v20 v21 v22 v23 v24 v25 v26 v27 : Value} (j : J73 a0 a1 a2 a3 a4 a5 a6 a7 t1 t2 t3 t4 t5 g W b0 b1 b2 b3 b4 b5 b6 b7 b8 b9 b10 b11 b12 b13 b14 b15 b16 b17 b18 b19 b20 b21 b22 b23 b24 b25 r v3 v4 v5 v6 v7 v8 v9 v10 v11 v12 v13 v14 v15 v16 v17 v18 v19 v20 v21 v22 v23 v24 v25 v26 v27 W') (hz : g + 1 ≤ W.heap.size) (hb : Below W'.heap.size W' W'') : J73 a0 a1 a2 a3 a4 a5 a6 a7 t1 t2 t3 t4 t5 g W b0 b1 b2 b3 b4 b5 b6 b7 b8 b9 b10 b11 b12 b13 b14 b15 b16 b17 b18 b19 b20 b21 b22 b23 b24 b25 r v3 v4 v5 v6 v7 v8 v9 v10 v11 v12 v13 v14 v15 v16 v17 v18 v19 v20 v21 v22 v23 v24 v25 v26 v27 W'' :=
  { j with hb := below_then j.hb (Nat.le_trans hz j.hb.size) hb, f3 := fun k => pw_own_below (j.f3 k) hb }
set_option maxRecDepth 100000 in
set_option maxHeartbeats 8000000 in
theorem meta73 (a0 : Int) (a1 a2 : ByteArray) (a3 a4 : Int) (a5 a6 : ByteArray) (a7 : Bool) (t1 t2 t3 t4 t5 : ByteArray) (w : World)
    (H1 : Hid (∀ w, Calls Try.prog 46 #[.string a1] w fun e w' => e = .returned (.string t1) ∧ Below w.heap.size w w'))
    (H2 : Hid (∀ w, Calls Try.prog 46 #[.string a2] w fun e w' => e = .returned (.string t2) ∧ Below w.heap.size w w'))
    (H3 : Hid (∀ w, Calls Try.prog 45 #[.int .u64 a3] w fun e w' => e = .returned (.string t3) ∧ Below w.heap.size w w'))
    (H4 : Hid (∀ w, Calls Try.prog 45 #[.int .u64 a4] w fun e w' => e = .returned (.string t4) ∧ Below w.heap.size w w'))
    (H5 : Hid (∀ w, Calls Try.prog 46 #[.string a5] w fun e w' => e = .returned (.string t5) ∧ Below w.heap.size w w'))
    (hs : 1 + t1.size + t2.size + t3.size + t4.size + t5.size ≤ 9223372036854775807) :
    Calls Try.prog 73 #[.agg #[.int .i64 a0, .string a1, .string a2, .int .u64 a3, .int .u64 a4, .string a5, .string a6, .bool a7]] w fun e w' => e = .returned (.string ((((((strOfNums [a0 % 256]) ++ t1) ++ t2) ++ t3) ++ t4) ++ t5)) ∧ Below w.heap.size w w' := by
  have s0 : (strOfNums [a0 % 256]).size = 1 := rfl
  have q1 : (9223372036854775807 < (strOfNums [a0 % 256]).size + t1.size) = False := eq_false (by rw [s0]; omega)
  have q2 : (9223372036854775807 < (strOfNums [a0 % 256]).size + t1.size + t2.size) = False := eq_false (by rw [s0]; omega)
  have q3 : (9223372036854775807 < (strOfNums [a0 % 256]).size + t1.size + t2.size + t3.size) = False := eq_false (by rw [s0]; omega)
  have q4 : (9223372036854775807 < (strOfNums [a0 % 256]).size + t1.size + t2.size + t3.size + t4.size) = False := eq_false (by rw [s0]; omega)
  have q5 : (9223372036854775807 < (strOfNums [a0 % 256]).size + t1.size + t2.size + t3.size + t4.size + t5.size) = False := eq_false (by rw [s0]; omega)
  clear hs s0
  go_enter Try.func73, Try.ntmps73
  go_wp2_with fail
  have BK : Hid ((w.alloc (.cells #[.int .i64 a0, .string a1, .string a2, .int .u64 a3, .int .u64 a4, .string a5, .string a6, .bool a7] 47)).heap[w.heap.size]? = some (.cells #[.int .i64 a0, .string a1, .string a2, .int .u64 a3, .int .u64 a4, .string a5, .string a6, .bool a7] 47 (0, 0))) := Lib.hid (heap_alloc_new w _)
  have HB : Hid (Below w.heap.size w (w.alloc (.cells #[.int .i64 a0, .string a1, .string a2, .int .u64 a3, .int .u64 a4, .string a5, .string a6, .bool a7] 47))) := Lib.hid ((Below.refl _ _).alloc (Nat.le_refl _) _)
  have hz : w.heap.size + 1 ≤ (w.alloc (.cells #[.int .i64 a0, .string a1, .string a2, .int .u64 a3, .int .u64 a4, .string a5, .string a6, .bool a7] 47)).heap.size := by simp
  generalize w.alloc (.cells #[.int .i64 a0, .string a1, .string a2, .int .u64 a3, .int .u64 a4, .string a5, .string a6, .bool a7] 47) = W at BK HB hz ⊢
  generalize hg : w.heap.size = g at BK HB hz ⊢
  refine H.wp_region_inv (fun l a W' => ∃ b0 b1 b2 b3 b4 b5 b6 b7 b8 b9 b10 b11 b12 b13 b14 b15 b16 b17 b18 b19 b20 b21 b22 b23 b24 b25 r v3 v4 v5 v6 v7 v8 v9 v10 v11 v12 v13 v14 v15 v16 v17 v18 v19 v20 v21 v22 v23 v24 v25 v26 v27, l = #[b0, b1, b2, b3, b4, b5, b6, b7, b8, b9, b10, b11, b12, b13, b14, b15, b16, b17, b18, b19, b20, b21, b22, b23, b24, b25] ∧ a = fr73 a0 a1 a2 a3 a4 a5 a6 a7 g r v3 v4 v5 v6 v7 v8 v9 v10 v11 v12 v13 v14 v15 v16 v17 v18 v19 v20 v21 v22 v23 v24 v25 v26 v27 ∧ J73 a0 a1 a2 a3 a4 a5 a6 a7 t1 t2 t3 t4 t5 g W b0 b1 b2 b3 b4 b5 b6 b7 b8 b9 b10 b11 b12 b13 b14 b15 b16 b17 b18 b19 b20 b21 b22 b23 b24 b25 r v3 v4 v5 v6 v7 v8 v9 v10 v11 v12 v13 v14 v15 v16 v17 v18 v19 v20 v21 v22 v23 v24 v25 v26 v27 W') (by kernel_rfl) ?_ (H.back_of (by kernel_rfl)) ?_ ?_ ?_
  · rintro l a W' ⟨b0, b1, b2, b3, b4, b5, b6, b7, b8, b9, b10, b11, b12, b13, b14, b15, b16, b17, b18, b19, b20, b21, b22, b23, b24, b25, _, _, _, _, _, _, _, _, _, _, _, _, _, _, _, _, _, _, _, _, _, _, _, _, _, _, rfl, _, _⟩
    rfl
  · rintro l a W' i o ⟨b0, b1, b2, b3, b4, b5, b6, b7, b8, b9, b10, b11, b12, b13, b14, b15, b16, b17, b18, b19, b20, b21, b22, b23, b24, b25, r, v3, v4, v5, v6, v7, v8, v9, v10, v11, v12, v13, v14, v15, v16, v17, v18, v19, v20, v21, v22, v23, v24, v25, v26, v27, rfl, rfl, j⟩ hl ho haf
    have gc : ∀ k v, W.cell? ⟨g, k, none⟩ = some v → W'.cell? ⟨g, k, none⟩ = some v := fun k v h => (World.cell?_of_block (j.hb.block g (Nat.lt_succ_self g))).trans h
    rcases cases26 (by rfl) ho with rfl | rfl | rfl | rfl | rfl | rfl | rfl | rfl | rfl | rfl | rfl | rfl | rfl | rfl | rfl | rfl | rfl | rfl | rfl | rfl | rfl | rfl | rfl | rfl | rfl | rfl
    · refine wpOp_step ho (fun K hK => ?_)
      obtain rfl := Option.some.inj ho
      refine value_ (v := .pointer (some ⟨g, 0, none⟩)) (by rfl) rfl (by unfold fr73; first | (go_simp; done) | (go_simp; rfl)) (hK _ _ ⟨true, b1, b2, b3, b4, b5, b6, b7, b8, b9, b10, b11, b12, b13, b14, b15, b16, b17, b18, b19, b20, b21, b22, b23, b24, b25, r, .pointer (some ⟨g, 0, none⟩), v4, v5, v6, v7, v8, v9, v10, v11, v12, v13, v14, v15, v16, v17, v18, v19, v20, v21, v22, v23, v24, v25, v26, v27, rfl, rfl, { j with f0 := fun _ => rfl }⟩)
    · refine wpOp_step ho (fun K hK => ?_)
      obtain rfl := Option.some.inj ho
      have d0 := j.f0 (haf ⟨0, .data⟩ (by simp) rfl)
      subst d0
      have c := gc 0 _ ((blk_cell BK.out 0).trans rfl)
      refine value_ (v := .int .i64 a0) (by rfl) rfl (by unfold fr73; first | (go_simp; done) | (go_simp; rfl)) (hK _ _ ⟨b0, true, b2, b3, b4, b5, b6, b7, b8, b9, b10, b11, b12, b13, b14, b15, b16, b17, b18, b19, b20, b21, b22, b23, b24, b25, r, .pointer (some ⟨g, 0, none⟩), .int .i64 a0, v5, v6, v7, v8, v9, v10, v11, v12, v13, v14, v15, v16, v17, v18, v19, v20, v21, v22, v23, v24, v25, v26, v27, rfl, rfl, { j with f1 := fun _ => rfl }⟩)
    · refine wpOp_step ho (fun K hK => ?_)
      obtain rfl := Option.some.inj ho
      have d1 := j.f1 (haf ⟨1, .data⟩ (by simp) rfl)
      subst d1
      refine value_ (v := .int .u8 (a0 % 256)) (by rfl) rfl (by unfold fr73; first | (go_simp; done) | (go_simp; rfl)) (hK _ _ ⟨b0, b1, true, b3, b4, b5, b6, b7, b8, b9, b10, b11, b12, b13, b14, b15, b16, b17, b18, b19, b20, b21, b22, b23, b24, b25, r, v3, .int .i64 a0, .int .u8 (a0 % 256), v6, v7, v8, v9, v10, v11, v12, v13, v14, v15, v16, v17, v18, v19, v20, v21, v22, v23, v24, v25, v26, v27, rfl, rfl, { j with f2 := fun _ => rfl }⟩)
    · refine wpOp_step ho (fun K hK => ?_)
      obtain rfl := Option.some.inj ho
      have d2 := j.f2 (haf ⟨2, .data⟩ (by simp) rfl)
      subst d2
      refine value_ (v := .slice (some ⟨W'.heap.size, 0, none⟩) 1 1) (w1 := W'.alloc (.cells #[.int .u8 (a0 % 256)] 5)) (by rfl) rfl (by unfold fr73; first | (go_simp; done) | (go_simp; rfl)) (hK _ _ ⟨b0, b1, b2, true, b4, b5, b6, b7, b8, b9, b10, b11, b12, b13, b14, b15, b16, b17, b18, b19, b20, b21, b22, b23, b24, b25, r, v3, v4, .int .u8 (a0 % 256), .slice (some ⟨W'.heap.size, 0, none⟩) 1 1, v7, v8, v9, v10, v11, v12, v13, v14, v15, v16, v17, v18, v19, v20, v21, v22, v23, v24, v25, v26, v27, rfl, rfl, { j.later (by omega) (below_alloc (Below.refl _ _) _) with f3 := fun _ => ?_ }⟩)
      exact own_lit W' (g + 1) 5 .u8 [a0 % 256] (by have := j.hb.size; omega) (by show (1 : Nat) ≤ 9223372036854775807; decide)
    · refine wpOp_step ho (fun K hK => ?_)
      obtain rfl := Option.some.inj ho
      have d3 := j.f3 (haf ⟨3, .data⟩ (by simp) rfl)
      have c := own_string (P := Try.prog) Try.underlying99 Try.underlying5 Try.underlying9 d3
      refine value_ (v := .string (strOfNums [a0 % 256])) (by rfl) rfl (by unfold fr73; first | (go_simp; done) | (go_simp; rfl)) (hK _ _ ⟨b0, b1, b2, b3, true, b5, b6, b7, b8, b9, b10, b11, b12, b13, b14, b15, b16, b17, b18, b19, b20, b21, b22, b23, b24, b25, r, v3, v4, v5, v6, .string (strOfNums [a0 % 256]), v8, v9, v10, v11, v12, v13, v14, v15, v16, v17, v18, v19, v20, v21, v22, v23, v24, v25, v26, v27, rfl, rfl, { j with f4 := fun _ => rfl }⟩)
    · refine wpOp_step ho (fun K hK => ?_)
      obtain rfl := Option.some.inj ho
      refine value_ (v := .pointer (some ⟨g, 1, none⟩)) (by rfl) rfl (by unfold fr73; first | (go_simp; done) | (go_simp; rfl)) (hK _ _ ⟨b0, b1, b2, b3, b4, true, b6, b7, b8, b9, b10, b11, b12, b13, b14, b15, b16, b17, b18, b19, b20, b21, b22, b23, b24, b25, r, v3, v4, v5, v6, v7, .pointer (some ⟨g, 1, none⟩), v9, v10, v11, v12, v13, v14, v15, v16, v17, v18, v19, v20, v21, v22, v23, v24, v25, v26, v27, rfl, rfl, { j with f5 := fun _ => rfl }⟩)
    · refine wpOp_step ho (fun K hK => ?_)
      obtain rfl := Option.some.inj ho
      have d5 := j.f5 (haf ⟨5, .data⟩ (by simp) rfl)
      subst d5
      have c := gc 1 _ ((blk_cell BK.out 1).trans rfl)
      refine value_ (v := .string a1) (by rfl) rfl (by unfold fr73; first | (go_simp; done) | (go_simp; rfl)) (hK _ _ ⟨b0, b1, b2, b3, b4, b5, true, b7, b8, b9, b10, b11, b12, b13, b14, b15, b16, b17, b18, b19, b20, b21, b22, b23, b24, b25, r, v3, v4, v5, v6, v7, .pointer (some ⟨g, 1, none⟩), .string a1, v10, v11, v12, v13, v14, v15, v16, v17, v18, v19, v20, v21, v22, v23, v24, v25, v26, v27, rfl, rfl, { j with f6 := fun _ => rfl }⟩)
    · refine wpOp_step ho (fun K hK => ?_)
      obtain rfl := Option.some.inj ho
      have d6 := j.f6 (haf ⟨6, .data⟩ (by simp) rfl)
      subst d6
      refine goes_ Try.func46 (by kernel_rfl) rfl #[.string a1] (by rfl) rfl rfl (by simp only [List.map_toArray, List.map_cons, List.map_nil]; rfl) ?_
      refine (H1.out W').mono ?_
      rintro e W'' ⟨rfl, hb⟩
      exact ⟨_, rfl, hK _ _ ⟨b0, b1, b2, b3, b4, b5, b6, true, b8, b9, b10, b11, b12, b13, b14, b15, b16, b17, b18, b19, b20, b21, b22, b23, b24, b25, r, v3, v4, v5, v6, v7, v8, .string a1, .string t1, v11, v12, v13, v14, v15, v16, v17, v18, v19, v20, v21, v22, v23, v24, v25, v26, v27, rfl, rfl, { j.later (by omega) hb with f7 := fun _ => rfl }⟩⟩
    · refine wpOp_step ho (fun K hK => ?_)
      obtain rfl := Option.some.inj ho
      have d4 := j.f4 (haf ⟨4, .data⟩ (by simp) rfl)
      have d7 := j.f7 (haf ⟨7, .data⟩ (by simp) rfl)
      subst d4; subst d7
      refine value_ (v := .string ((strOfNums [a0 % 256]) ++ t1)) (by rfl) rfl (by unfold fr73; first | (go_simp; done) | (go_simp; rfl)) (hK _ _ ⟨b0, b1, b2, b3, b4, b5, b6, b7, true, b9, b10, b11, b12, b13, b14, b15, b16, b17, b18, b19, b20, b21, b22, b23, b24, b25, r, v3, v4, v5, v6, .string (strOfNums [a0 % 256]), v8, v9, .string t1, .string ((strOfNums [a0 % 256]) ++ t1), v12, v13, v14, v15, v16, v17, v18, v19, v20, v21, v22, v23, v24, v25, v26, v27, rfl, rfl, { j with f8 := fun _ => rfl }⟩)
    · refine wpOp_step ho (fun K hK => ?_)
      obtain rfl := Option.some.inj ho
      refine value_ (v := .pointer (some ⟨g, 2, none⟩)) (by rfl) rfl (by unfold fr73; first | (go_simp; done) | (go_simp; rfl)) (hK _ _ ⟨b0, b1, b2, b3, b4, b5, b6, b7, b8, true, b10, b11, b12, b13, b14, b15, b16, b17, b18, b19, b20, b21, b22, b23, b24, b25, r, v3, v4, v5, v6, v7, v8, v9, v10, v11, .pointer (some ⟨g, 2, none⟩), v13, v14, v15, v16, v17, v18, v19, v20, v21, v22, v23, v24, v25, v26, v27, rfl, rfl, { j with f9 := fun _ => rfl }⟩)
    · refine wpOp_step ho (fun K hK => ?_)
      obtain rfl := Option.some.inj ho
      have d9 := j.f9 (haf ⟨9, .data⟩ (by simp) rfl)
      subst d9
      have c := gc 2 _ ((blk_cell BK.out 2).trans rfl)
      refine value_ (v := .string a2) (by rfl) rfl (by unfold fr73; first | (go_simp; done) | (go_simp; rfl)) (hK _ _ ⟨b0, b1, b2, b3, b4, b5, b6, b7, b8, b9, true, b11, b12, b13, b14, b15, b16, b17, b18, b19, b20, b21, b22, b23, b24, b25, r, v3, v4, v5, v6, v7, v8, v9, v10, v11, .pointer (some ⟨g, 2, none⟩), .string a2, v14, v15, v16, v17, v18, v19, v20, v21, v22, v23, v24, v25, v26, v27, rfl, rfl, { j with f10 := fun _ => rfl }⟩)
    · refine wpOp_step ho (fun K hK => ?_)
      obtain rfl := Option.some.inj ho
      have d10 := j.f10 (haf ⟨10, .data⟩ (by simp) rfl)
      subst d10
      refine goes_ Try.func46 (by kernel_rfl) rfl #[.string a2] (by rfl) rfl rfl (by simp only [List.map_toArray, List.map_cons, List.map_nil]; rfl) ?_
      refine (H2.out W').mono ?_
      rintro e W'' ⟨rfl, hb⟩
      exact ⟨_, rfl, hK _ _ ⟨b0, b1, b2, b3, b4, b5, b6, b7, b8, b9, b10, true, b12, b13, b14, b15, b16, b17, b18, b19, b20, b21, b22, b23, b24, b25, r, v3, v4, v5, v6, v7, v8, v9, v10, v11, v12, .string a2, .string t2, v15, v16, v17, v18, v19, v20, v21, v22, v23, v24, v25, v26, v27, rfl, rfl, { j.later (by omega) hb with f11 := fun _ => rfl }⟩⟩
    · refine wpOp_step ho (fun K hK => ?_)
      obtain rfl := Option.some.inj ho
      have d8 := j.f8 (haf ⟨8, .data⟩ (by simp) rfl)
      have d11 := j.f11 (haf ⟨11, .data⟩ (by simp) rfl)
      subst d8; subst d11
      refine value_ (v := .string (((strOfNums [a0 % 256]) ++ t1) ++ t2)) (by rfl) rfl (by unfold fr73; first | (go_simp; done) | (go_simp; rfl)) (hK _ _ ⟨b0, b1, b2, b3, b4, b5, b6, b7, b8, b9, b10, b11, true, b13, b14, b15, b16, b17, b18, b19, b20, b21, b22, b23, b24, b25, r, v3, v4, v5, v6, v7, v8, v9, v10, .string ((strOfNums [a0 % 256]) ++ t1), v12, v13, .string t2, .string (((strOfNums [a0 % 256]) ++ t1) ++ t2), v16, v17, v18, v19, v20, v21, v22, v23, v24, v25, v26, v27, rfl, rfl, { j with f12 := fun _ => rfl }⟩)
    · refine wpOp_step ho (fun K hK => ?_)
      obtain rfl := Option.some.inj ho
      refine value_ (v := .pointer (some ⟨g, 3, none⟩)) (by rfl) rfl (by unfold fr73; first | (go_simp; done) | (go_simp; rfl)) (hK _ _ ⟨b0, b1, b2, b3, b4, b5, b6, b7, b8, b9, b10, b11, b12, true, b14, b15, b16, b17, b18, b19, b20, b21, b22, b23, b24, b25, r, v3, v4, v5, v6, v7, v8, v9, v10, v11, v12, v13, v14, v15, .pointer (some ⟨g, 3, none⟩), v17, v18, v19, v20, v21, v22, v23, v24, v25, v26, v27, rfl, rfl, { j with f13 := fun _ => rfl }⟩)
    · refine wpOp_step ho (fun K hK => ?_)
      obtain rfl := Option.some.inj ho
      have d13 := j.f13 (haf ⟨13, .data⟩ (by simp) rfl)
      subst d13
      have c := gc 3 _ ((blk_cell BK.out 3).trans rfl)
      refine value_ (v := .int .u64 a3) (by rfl) rfl (by unfold fr73; first | (go_simp; done) | (go_simp; rfl)) (hK _ _ ⟨b0, b1, b2, b3, b4, b5, b6, b7, b8, b9, b10, b11, b12, b13, true, b15, b16, b17, b18, b19, b20, b21, b22, b23, b24, b25, r, v3, v4, v5, v6, v7, v8, v9, v10, v11, v12, v13, v14, v15, .pointer (some ⟨g, 3, none⟩), .int .u64 a3, v18, v19, v20, v21, v22, v23, v24, v25, v26, v27, rfl, rfl, { j with f14 := fun _ => rfl }⟩)
    · refine wpOp_step ho (fun K hK => ?_)
      obtain rfl := Option.some.inj ho
      have d14 := j.f14 (haf ⟨14, .data⟩ (by simp) rfl)
      subst d14
      refine goes_ Try.func45 (by kernel_rfl) rfl #[.int .u64 a3] (by rfl) rfl rfl (by simp only [List.map_toArray, List.map_cons, List.map_nil]; rfl) ?_
      refine (H3.out W').mono ?_
      rintro e W'' ⟨rfl, hb⟩
      exact ⟨_, rfl, hK _ _ ⟨b0, b1, b2, b3, b4, b5, b6, b7, b8, b9, b10, b11, b12, b13, b14, true, b16, b17, b18, b19, b20, b21, b22, b23, b24, b25, r, v3, v4, v5, v6, v7, v8, v9, v10, v11, v12, v13, v14, v15, v16, .int .u64 a3, .string t3, v19, v20, v21, v22, v23, v24, v25, v26, v27, rfl, rfl, { j.later (by omega) hb with f15 := fun _ => rfl }⟩⟩
    · refine wpOp_step ho (fun K hK => ?_)
      obtain rfl := Option.some.inj ho
      have d12 := j.f12 (haf ⟨12, .data⟩ (by simp) rfl)
      have d15 := j.f15 (haf ⟨15, .data⟩ (by simp) rfl)
      subst d12; subst d15
      refine value_ (v := .string ((((strOfNums [a0 % 256]) ++ t1) ++ t2) ++ t3)) (by rfl) rfl (by unfold fr73; first | (go_simp; done) | (go_simp; rfl)) (hK _ _ ⟨b0, b1, b2, b3, b4, b5, b6, b7, b8, b9, b10, b11, b12, b13, b14, b15, true, b17, b18, b19, b20, b21, b22, b23, b24, b25, r, v3, v4, v5, v6, v7, v8, v9, v10, v11, v12, v13, v14, .string (((strOfNums [a0 % 256]) ++ t1) ++ t2), v16, v17, .string t3, .string ((((strOfNums [a0 % 256]) ++ t1) ++ t2) ++ t3), v20, v21, v22, v23, v24, v25, v26, v27, rfl, rfl, { j with f16 := fun _ => rfl }⟩)
    · refine wpOp_step ho (fun K hK => ?_)
      obtain rfl := Option.some.inj ho
      refine value_ (v := .pointer (some ⟨g, 4, none⟩)) (by rfl) rfl (by unfold fr73; first | (go_simp; done) | (go_simp; rfl)) (hK _ _ ⟨b0, b1, b2, b3, b4, b5, b6, b7, b8, b9, b10, b11, b12, b13, b14, b15, b16, true, b18, b19, b20, b21, b22, b23, b24, b25, r, v3, v4, v5, v6, v7, v8, v9, v10, v11, v12, v13, v14, v15, v16, v17, v18, v19, .pointer (some ⟨g, 4, none⟩), v21, v22, v23, v24, v25, v26, v27, rfl, rfl, { j with f17 := fun _ => rfl }⟩)
    · refine wpOp_step ho (fun K hK => ?_)
      obtain rfl := Option.some.inj ho
      have d17 := j.f17 (haf ⟨17, .data⟩ (by simp) rfl)
      subst d17
      have c := gc 4 _ ((blk_cell BK.out 4).trans rfl)
      refine value_ (v := .int .u64 a4) (by rfl) rfl (by unfold fr73; first | (go_simp; done) | (go_simp; rfl)) (hK _ _ ⟨b0, b1, b2, b3, b4, b5, b6, b7, b8, b9, b10, b11, b12, b13, b14, b15, b16, b17, true, b19, b20, b21, b22, b23, b24, b25, r, v3, v4, v5, v6, v7, v8, v9, v10, v11, v12, v13, v14, v15, v16, v17, v18, v19, .pointer (some ⟨g, 4, none⟩), .int .u64 a4, v22, v23, v24, v25, v26, v27, rfl, rfl, { j with f18 := fun _ => rfl }⟩)
    · refine wpOp_step ho (fun K hK => ?_)
      obtain rfl := Option.some.inj ho
      have d18 := j.f18 (haf ⟨18, .data⟩ (by simp) rfl)
      subst d18
      refine goes_ Try.func45 (by kernel_rfl) rfl #[.int .u64 a4] (by rfl) rfl rfl (by simp only [List.map_toArray, List.map_cons, List.map_nil]; rfl) ?_
      refine (H4.out W').mono ?_
      rintro e W'' ⟨rfl, hb⟩
      exact ⟨_, rfl, hK _ _ ⟨b0, b1, b2, b3, b4, b5, b6, b7, b8, b9, b10, b11, b12, b13, b14, b15, b16, b17, b18, true, b20, b21, b22, b23, b24, b25, r, v3, v4, v5, v6, v7, v8, v9, v10, v11, v12, v13, v14, v15, v16, v17, v18, v19, v20, .int .u64 a4, .string t4, v23, v24, v25, v26, v27, rfl, rfl, { j.later (by omega) hb with f19 := fun _ => rfl }⟩⟩
    · refine wpOp_step ho (fun K hK => ?_)
      obtain rfl := Option.some.inj ho
      have d16 := j.f16 (haf ⟨16, .data⟩ (by simp) rfl)
      have d19 := j.f19 (haf ⟨19, .data⟩ (by simp) rfl)
      subst d16; subst d19
      refine value_ (v := .string (((((strOfNums [a0 % 256]) ++ t1) ++ t2) ++ t3) ++ t4)) (by rfl) rfl (by unfold fr73; first | (go_simp; done) | (go_simp; rfl)) (hK _ _ ⟨b0, b1, b2, b3, b4, b5, b6, b7, b8, b9, b10, b11, b12, b13, b14, b15, b16, b17, b18, b19, true, b21, b22, b23, b24, b25, r, v3, v4, v5, v6, v7, v8, v9, v10, v11, v12, v13, v14, v15, v16, v17, v18, .string ((((strOfNums [a0 % 256]) ++ t1) ++ t2) ++ t3), v20, v21, .string t4, .string (((((strOfNums [a0 % 256]) ++ t1) ++ t2) ++ t3) ++ t4), v24, v25, v26, v27, rfl, rfl, { j with f20 := fun _ => rfl }⟩)
    · refine wpOp_step ho (fun K hK => ?_)
      obtain rfl := Option.some.inj ho
      refine value_ (v := .pointer (some ⟨g, 5, none⟩)) (by rfl) rfl (by unfold fr73; first | (go_simp; done) | (go_simp; rfl)) (hK _ _ ⟨b0, b1, b2, b3, b4, b5, b6, b7, b8, b9, b10, b11, b12, b13, b14, b15, b16, b17, b18, b19, b20, true, b22, b23, b24, b25, r, v3, v4, v5, v6, v7, v8, v9, v10, v11, v12, v13, v14, v15, v16, v17, v18, v19, v20, v21, v22, v23, .pointer (some ⟨g, 5, none⟩), v25, v26, v27, rfl, rfl, { j with f21 := fun _ => rfl }⟩)
    · refine wpOp_step ho (fun K hK => ?_)
      obtain rfl := Option.some.inj ho
      have d21 := j.f21 (haf ⟨21, .data⟩ (by simp) rfl)
      subst d21
      have c := gc 5 _ ((blk_cell BK.out 5).trans rfl)
      refine value_ (v := .string a5) (by rfl) rfl (by unfold fr73; first | (go_simp; done) | (go_simp; rfl)) (hK _ _ ⟨b0, b1, b2, b3, b4, b5, b6, b7, b8, b9, b10, b11, b12, b13, b14, b15, b16, b17, b18, b19, b20, b21, true, b23, b24, b25, r, v3, v4, v5, v6, v7, v8, v9, v10, v11, v12, v13, v14, v15, v16, v17, v18, v19, v20, v21, v22, v23, .pointer (some ⟨g, 5, none⟩), .string a5, v26, v27, rfl, rfl, { j with f22 := fun _ => rfl }⟩)
    · refine wpOp_step ho (fun K hK => ?_)
      obtain rfl := Option.some.inj ho
      have d22 := j.f22 (haf ⟨22, .data⟩ (by simp) rfl)
      subst d22
      refine goes_ Try.func46 (by kernel_rfl) rfl #[.string a5] (by rfl) rfl rfl (by simp only [List.map_toArray, List.map_cons, List.map_nil]; rfl) ?_
      refine (H5.out W').mono ?_
      rintro e W'' ⟨rfl, hb⟩
      exact ⟨_, rfl, hK _ _ ⟨b0, b1, b2, b3, b4, b5, b6, b7, b8, b9, b10, b11, b12, b13, b14, b15, b16, b17, b18, b19, b20, b21, b22, true, b24, b25, r, v3, v4, v5, v6, v7, v8, v9, v10, v11, v12, v13, v14, v15, v16, v17, v18, v19, v20, v21, v22, v23, v24, .string a5, .string t5, v27, rfl, rfl, { j.later (by omega) hb with f23 := fun _ => rfl }⟩⟩
    · refine wpOp_step ho (fun K hK => ?_)
      obtain rfl := Option.some.inj ho
      have d20 := j.f20 (haf ⟨20, .data⟩ (by simp) rfl)
      have d23 := j.f23 (haf ⟨23, .data⟩ (by simp) rfl)
      subst d20; subst d23
      refine value_ (v := .string ((((((strOfNums [a0 % 256]) ++ t1) ++ t2) ++ t3) ++ t4) ++ t5)) (by rfl) rfl (by unfold fr73; first | (go_simp; done) | (go_simp; rfl)) (hK _ _ ⟨b0, b1, b2, b3, b4, b5, b6, b7, b8, b9, b10, b11, b12, b13, b14, b15, b16, b17, b18, b19, b20, b21, b22, b23, true, b25, r, v3, v4, v5, v6, v7, v8, v9, v10, v11, v12, v13, v14, v15, v16, v17, v18, v19, v20, v21, v22, .string (((((strOfNums [a0 % 256]) ++ t1) ++ t2) ++ t3) ++ t4), v24, v25, .string t5, .string ((((((strOfNums [a0 % 256]) ++ t1) ++ t2) ++ t3) ++ t4) ++ t5), rfl, rfl, { j with f24 := fun _ => rfl }⟩)
    · refine wpOp_step ho (fun K hK => ?_)
      obtain rfl := Option.some.inj ho
      have d24 := j.f24 (haf ⟨24, .data⟩ (by simp) rfl)
      subst d24
      refine value_ (v := .string ((((((strOfNums [a0 % 256]) ++ t1) ++ t2) ++ t3) ++ t4) ++ t5)) (by rfl) rfl (by unfold fr73; first | (go_simp; done) | (go_simp; rfl)) (hK _ _ ⟨b0, b1, b2, b3, b4, b5, b6, b7, b8, b9, b10, b11, b12, b13, b14, b15, b16, b17, b18, b19, b20, b21, b22, b23, b24, true, .string ((((((strOfNums [a0 % 256]) ++ t1) ++ t2) ++ t3) ++ t4) ++ t5), v3, v4, v5, v6, v7, v8, v9, v10, v11, v12, v13, v14, v15, v16, v17, v18, v19, v20, v21, v22, v23, v24, v25, v26, .string ((((((strOfNums [a0 % 256]) ++ t1) ++ t2) ++ t3) ++ t4) ++ t5), rfl, rfl, { j with f25 := fun _ => rfl }⟩)
  · exact ⟨false, false, false, false, false, false, false, false, false, false, false, false, false, false, false, false, false, false, false, false, false, false, false, false, false, false, .string ⟨#[]⟩, undef, undef, undef, undef, undef, undef, undef, undef, undef, undef, undef, undef, undef, undef, undef, undef, undef, undef, undef, undef, undef, undef, undef, undef, undef, rfl, rfl, { hb := below_drew (Below.refl _ _), f0 := fun h => (by cases h), f1 := fun h => (by cases h), f2 := fun h => (by cases h), f3 := fun h => (by cases h), f4 := fun h => (by cases h), f5 := fun h => (by cases h), f6 := fun h => (by cases h), f7 := fun h => (by cases h), f8 := fun h => (by cases h), f9 := fun h => (by cases h), f10 := fun h => (by cases h), f11 := fun h => (by cases h), f12 := fun h => (by cases h), f13 := fun h => (by cases h), f14 := fun h => (by cases h), f15 := fun h => (by cases h), f16 := fun h => (by cases h), f17 := fun h => (by cases h), f18 := fun h => (by cases h), f19 := fun h => (by cases h), f20 := fun h => (by cases h), f21 := fun h => (by cases h), f22 := fun h => (by cases h), f23 := fun h => (by cases h), f24 := fun h => (by cases h), f25 := fun h => (by cases h) }⟩
  · rintro l a W' ⟨b0, b1, b2, b3, b4, b5, b6, b7, b8, b9, b10, b11, b12, b13, b14, b15, b16, b17, b18, b19, b20, b21, b22, b23, b24, b25, r, v3, v4, v5, v6, v7, v8, v9, v10, v11, v12, v13, v14, v15, v16, v17, v18, v19, v20, v21, v22, v23, v24, v25, v26, v27, rfl, rfl, j⟩ hall
    obtain rfl := j.f25 (hall 25 (by decide))
    go_wp2
    unfold fr73
    go_ret
    exact ⟨rfl, by rw [hg]; exact HB.out.trans (j.hb.mono (by omega))⟩
structure J36 (a0 : Int) (a1 a2 : ByteArray) (a3 a4 : Int) (a5 a6 : ByteArray) (a7 : Bool) (t1 t2 t3 t4 t5 : ByteArray) (g : Nat) (W : World) (b0 b1 b2 b3 b4 b5 b6 b7 b8 b9 b10 b11 b12 b13 b14 b15 b16 b17 b18 b19 b20 b21 b22 b23 b24 b25 : Bool) (r v3 v4 v5 v6 v7 v8 v9 v10 v11 v12 v13 v14 v15 v16 v17 v18 v19 v20 v21 v22 v23 v24 v25 v26 v27 : Value) (W' : World) : Prop where
  hb : Below (g + 1) W W'
  f0 : b0 = true → v3 = .pointer (some ⟨g, 0, none⟩)
  f1 : b1 = true → v4 = .int .i64 a0
  f2 : b2 = true → v5 = .int .u8 (a0 % 256)
  f3 : b3 = true → W'.ownsRow (g + 1) 5 1 v6 1 (nums .u8 [a0 % 256])
  f4 : b4 = true → v7 = .string (strOfNums [a0 % 256])
  f5 : b5 = true → v8 = .pointer (some ⟨g, 1, none⟩)
  f6 : b6 = true → v9 = .string a1
  f7 : b7 = true → v10 = .string t1
  f8 : b8 = true → v11 = .string ((strOfNums [a0 % 256]) ++ t1)
  f9 : b9 = true → v12 = .pointer (some ⟨g, 2, none⟩)
  f10 : b10 = true → v13 = .string a2
  f11 : b11 = true → v14 = .string t2
  f12 : b12 = true → v15 = .string (((strOfNums [a0 % 256]) ++ t1) ++ t2)
  f13 : b13 = true → v16 = .pointer (some ⟨g, 3, none⟩)
  f14 : b14 = true → v17 = .int .u64 a3
  f15 : b15 = true → v18 = .string t3
  f16 : b16 = true → v19 = .string ((((strOfNums [a0 % 256]) ++ t1) ++ t2) ++ t3)
  f17 : b17 = true → v20 = .pointer (some ⟨g, 4, none⟩)
  f18 : b18 = true → v21 = .int .u64 a4
  f19 : b19 = true → v22 = .string t4
  f20 : b20 = true → v23 = .string (((((strOfNums [a0 % 256]) ++ t1) ++ t2) ++ t3) ++ t4)
  f21 : b21 = true → v24 = .pointer (some ⟨g, 5, none⟩)
  f22 : b22 = true → v25 = .string a5
  f23 : b23 = true → v26 = .string t5
  f24 : b24 = true → v27 = .string ((((((strOfNums [a0 % 256]) ++ t1) ++ t2) ++ t3) ++ t4) ++ t5)
  f25 : b25 = true → r = .string ((((((strOfNums [a0 % 256]) ++ t1) ++ t2) ++ t3) ++ t4) ++ t5)
theorem J36.later {a0 : Int} {a1 a2 : ByteArray} {a3 a4 : Int} {a5 a6 : ByteArray} {a7 : Bool} {t1 t2 t3 t4 t5 : ByteArray} {g : Nat} {W W' W'' : World} {b0 b1 b2 b3 b4 b5 b6 b7 b8 b9 b10 b11 b12 b13 b14 b15 b16 b17 b18 b19 b20 b21 b22 b23 b24 b25 : Bool} {r v3 v4 v5 v6 v7 v8 v9 v10 v11 v12 v13 v14 v15 v16 v17 v18 v19 v20 v21 v22 v23 v24 v25 v26 v27 : Value} (j : J36 a0 a1 a2 a3 a4 a5 a6 a7 t1 t2 t3 t4 t5 g W b0 b1 b2 b3 b4 b5 b6 b7 b8 b9 b10 b11 b12 b13 b14 b15 b16 b17 b18 b19 b20 b21 b22 b23 b24 b25 r v3 v4 v5 v6 v7 v8 v9 v10 v11 v12 v13 v14 v15 v16 v17 v18 v19 v20 v21 v22 v23 v24 v25 v26 v27 W') (hz : g + 1 ≤ W.heap.size) (hb : Below W'.heap.size W' W'') : J36 a0 a1 a2 a3 a4 a5 a6 a7 t1 t2 t3 t4 t5 g W b0 b1 b2 b3 b4 b5 b6 b7 b8 b9 b10 b11 b12 b13 b14 b15 b16 b17 b18 b19 b20 b21 b22 b23 b24 b25 r v3 v4 v5 v6 v7 v8 v9 v10 v11 v12 v13 v14 v15 v16 v17 v18 v19 v20 v21 v22 v23 v24 v25 v26 v27 W'' :=
  { j with hb := below_then j.hb (Nat.le_trans hz j.hb.size) hb, f3 := fun k => pw_own_below (j.f3 k) hb }
end Go.Proofs.Ytdcbacbilncnnaa.Mw
end
section
/- The tree of RFC 6962 in plain Lean: halves, roots, ways. No program in sight but the printed functions. -/
set_option linter.unusedVariables false
set_option linter.unusedSimpArgs false
namespace Go.Proofs.Ytdcbacbilncnnaa.M
open Go.RowKit Go.Proofs.Ytdcbacbilncnnaa.PMk Go.Proofs.YtdcbacbilncnnaaW.PrintWords Go.Proofs.YtdcbacbilncnnaaW.PrintLast
def node (a b : ByteArray) : ByteArray := Dig.dig (((⟨#[1]⟩ : ByteArray) ++ a) ++ b)
theorem node_size (a b : ByteArray) : (node a b).size = 32 := Dig.dig_size _
theorem node_len (a b : ByteArray) : (((⟨#[1]⟩ : ByteArray) ++ a) ++ b).size = 1 + a.size + b.size ∧ ((⟨#[1]⟩ : ByteArray) ++ a).size = 1 + a.size := by
  have s1 : ((⟨#[1]⟩ : ByteArray) ++ a).size = 1 + a.size := by rw [ByteArray.size_append]; rfl
  exact ⟨by rw [ByteArray.size_append, s1], s1⟩
theorem node_f (a b : ByteArray) (ha : a.size ≤ 32) (hb : b.size ≤ 32) : hash_Node.f a b = some (node a b) := by
  obtain ⟨h1, h2⟩ := node_len a b
  unfold hash_Node.f Dig.hash_Sum.f
  rw [if_pos (by omega), if_pos (by omega), if_pos (by omega)]
  rfl
/-! ### halves -/
def sp (n : Nat) : Nat := 2 ^ (n - 1).log2
theorem sp_pos (n : Nat) : 1 ≤ sp n := Nat.one_le_two_pow
theorem sp_lt {n : Nat} (h : 2 ≤ n) : sp n < n := by
  have := Nat.log2_self_le (n := n - 1) (by omega)
  unfold sp
  omega
theorem sp_eq {n j : Nat} (h1 : 2 ^ j < n) (h2 : n ≤ 2 ^ (j + 1)) : sp n = 2 ^ j := by
  have h0 : n - 1 ≠ 0 := by have := Nat.one_le_two_pow (n := j); omega
  have : (n - 1).log2 = j := (Nat.log2_eq_iff h0).2 ⟨by omega, by omega⟩
  rw [sp, this]
end Go.Proofs.Ytdcbacbilncnnaa.M
end
section
/- Ways up: what the program climbs is what the reference says. -/
set_option linter.unusedVariables false
set_option linter.unusedSimpArgs false
namespace Go.Proofs.Ytdcbacbilncnnaa.M
open Go.RowKit Go.Proofs.Ytdcbacbilncnnaa.PMk Go.Proofs.YtdcbacbilncnnaaW.PrintWords Go.Proofs.YtdcbacbilncnnaaW.PrintLast
def W32 (l : List ByteArray) : Prop := ∀ x ∈ l, x.size = 32
theorem W32.app {a b : List ByteArray} : W32 (a ++ b) ↔ W32 a ∧ W32 b := by
  constructor
  · intro h; exact ⟨fun x hx => h x (by simp [hx]), fun x hx => h x (by simp [hx])⟩
  · rintro ⟨h1, h2⟩ x hx
    rcases List.mem_append.1 hx with h | h
    · exact h1 x h
    · exact h2 x h
theorem W32.one {x : ByteArray} : W32 [x] ↔ x.size = 32 := by simp [W32]
theorem W32.cons {x : ByteArray} {l : List ByteArray} : W32 (x :: l) ↔ x.size = 32 ∧ W32 l := by simp [W32]
def step (t : Bool) (w h : ByteArray) : ByteArray := if t then node w h else node h w
end Go.Proofs.Ytdcbacbilncnnaa.M
end
section
/- Roots, and what shows a leaf: the program's are the reference's; and what shows a leaf shows it. -/
set_option linter.unusedVariables false
set_option linter.unusedSimpArgs false
namespace Go.Proofs.Ytdcbacbilncnnaa.M
open Go.RowKit Go.Proofs.Ytdcbacbilncnnaa.PMk Go.Proofs.YtdcbacbilncnnaaW.PrintWords Go.Proofs.YtdcbacbilncnnaaW.PrintLast
def mroot (l : List ByteArray) : ByteArray :=
  if h : l.length ≤ 1 then (if l.length = 0 then Dig.dig ⟨#[]⟩ else l.getD 0 ByteArray.empty)
  else node (mroot (l.take (sp l.length))) (mroot (l.drop (sp l.length)))
termination_by l.length
decreasing_by
  · have := sp_lt (n := l.length) (by omega); simp; omega
  · have := sp_pos l.length; have := sp_lt (n := l.length) (by omega); simp; omega
theorem W32.take {l : List ByteArray} (h : W32 l) (n : Nat) : W32 (l.take n) := fun x hx => h x (List.mem_of_mem_take hx)
theorem W32.drop {l : List ByteArray} (h : W32 l) (n : Nat) : W32 (l.drop n) := fun x hx => h x (List.mem_of_mem_drop hx)
theorem W32.getD {l : List ByteArray} (h : W32 l) {i : Nat} (hi : i < l.length) : (l.getD i ByteArray.empty).size = 32 := by
  rw [List.getD_eq_getElem?_getD, List.getElem?_eq_getElem hi]
  exact h _ (List.getElem_mem _)
theorem mroot_size {l : List ByteArray} (h : W32 l) : (mroot l).size = 32 := by
  rw [mroot]
  split
  · split
    · exact Dig.dig_size _
    · exact h.getD (by omega)
  · exact node_size _ _
theorem mroot_two {l : List ByteArray} (h : 2 ≤ l.length) : mroot l = node (mroot (l.take (sp l.length))) (mroot (l.drop (sp l.length))) := by
  rw [mroot]; rw [dif_neg (by omega)]
theorem mroot_one {l : List ByteArray} (h : l.length = 1) : mroot l = l.getD 0 ByteArray.empty := by
  rw [mroot]; rw [dif_pos (by omega), if_neg (by omega)]
theorem mroot_nil : mroot [] = Dig.dig ⟨#[]⟩ := by rw [mroot]; rfl
/-! ### what shows a leaf -/
end Go.Proofs.Ytdcbacbilncnnaa.M
end
section
/- The tree of digests: Add. -/
set_option linter.unusedVariables false
set_option linter.unusedSimpArgs false
namespace Go.Proofs.Ytdcbacbilncnnaa.T
open Go.RowKit Go.Proofs.Ytdcbacbilncnnaa.PMk Go.Proofs.YtdcbacbilncnnaaW.PrintWords Go.Proofs.YtdcbacbilncnnaaW.PrintLast
theorem info9 : (Try.prog.info? 9).map (fun i => (i.zero, i.size, i.bytes)) = some (some (.string ⟨#[]⟩), 1, 16) := by kernel_rfl
/-- The tree at g, and where its rows lie. -/
structure At (w : World) (base g : Nat) (vl vp : Value) (L P : List ByteArray) : Prop where
  blk : w.heap[g]? = some (.cells #[vl, vp] 121 (0, 0))
  lo : base ≤ g
  rl : w.ownsRow base 9 1 vl L.length (pw_strs L)
  rp : w.ownsRow base 9 1 vp P.length (pw_strs P)
  ap : ∀ k, vl.ownBlock = some k → vp.ownBlock ≠ some k
theorem At.below {w w1 : World} {base g : Nat} {vl vp : Value} {L P : List ByteArray} (h : At w base g vl vp L P) (hb : Below w.heap.size w w1) : At w1 base g vl vp L P :=
  ⟨(hb.block g (Array.getElem?_eq_some_iff.1 h.blk).1).trans h.blk, h.lo, pw_own_below h.rl hb, pw_own_below h.rp hb, h.ap⟩
theorem At.c0 {w : World} {base g : Nat} {vl vp : Value} {L P : List ByteArray} (h : At w base g vl vp L P) : w.cell? ⟨g, 0, none⟩ = some vl := by
  rw [cell_of_row w g 0 _ 121 (0, 0) h.blk]; rfl
theorem At.c1 {w : World} {base g : Nat} {vl vp : Value} {L P : List ByteArray} (h : At w base g vl vp L P) : w.cell? ⟨g, 1, none⟩ = some vp := by
  rw [cell_of_row w g 1 _ 121 (0, 0) h.blk]; rfl
theorem At.base {w : World} {base g : Nat} {vl vp : Value} {L P : List ByteArray} (h : At w base g vl vp L P) : base ≤ w.heap.size :=
  Nat.le_trans h.lo (Nat.le_of_lt (Array.getElem?_eq_some_iff.1 h.blk).1)
theorem At.f0 {w : World} {base g : Nat} {vl vp : Value} {L P : List ByteArray} (h : At w base g vl vp L P) (i : Nat) : w.frozen? ⟨g, i, none⟩ = false := by
  simp [World.frozen?, h.blk]
theorem At.gl {w : World} {base g : Nat} {vl vp : Value} {L P : List ByteArray} (h : At w base g vl vp L P) : some g ≠ vl.ownBlock := own_ne h.rl h.blk (by decide)
theorem At.gp {w : World} {base g : Nat} {vl vp : Value} {L P : List ByteArray} (h : At w base g vl vp L P) : some g ≠ vp.ownBlock := own_ne h.rp h.blk (by decide)
theorem strs_app (L : List ByteArray) (h : ByteArray) : pw_strs L ++ [.string h] = pw_strs (L ++ [h]) := by simp [pw_strs]
/-- What an act on the tree at g leaves of the world, and where the rows lie behind it. -/
structure Step (w w' : World) (g : Nat) (vl vp vl' vp' : Value) : Prop where
  os : w'.os = w.os
  tape : w'.tape = w.tape
  output : w'.output = w.output
  size : w.heap.size ≤ w'.heap.size
  block : ∀ k, k < w.heap.size → k ≠ g → vl.ownBlock ≠ some k → vp.ownBlock ≠ some k → w'.heap[k]? = w.heap[k]?
  nl : ∀ k, vl'.ownBlock = some k → vl.ownBlock = some k ∨ w.heap.size ≤ k
  np : ∀ k, vp'.ownBlock = some k → vp.ownBlock = some k ∨ w.heap.size ≤ k
theorem Step.refl (w : World) (g : Nat) (vl vp : Value) : Step w w g vl vp vl vp := ⟨rfl, rfl, rfl, Nat.le_refl _, fun _ _ _ _ _ => rfl, fun _ h => .inl h, fun _ h => .inl h⟩
theorem Step.trans {w w1 w2 : World} {g : Nat} {vl vp vl1 vp1 vl2 vp2 : Value} (h : Step w w1 g vl vp vl1 vp1) (k : Step w1 w2 g vl1 vp1 vl2 vp2) : Step w w2 g vl vp vl2 vp2 := by
  refine ⟨k.os.trans h.os, k.tape.trans h.tape, k.output.trans h.output, Nat.le_trans h.size k.size, fun i hi hg hl hp => ?_, fun i hi => ?_, fun i hi => ?_⟩
  · refine (k.block i (Nat.lt_of_lt_of_le hi h.size) hg (fun e => ?_) (fun e => ?_)).trans (h.block i hi hg hl hp)
    · rcases h.nl i e with e | e
      · exact hl e
      · omega
    · rcases h.np i e with e | e
      · exact hp e
      · omega
  · rcases k.nl i hi with e | e
    · exact h.nl i e
    · exact .inr (Nat.le_trans h.size e)
  · rcases k.np i hi with e | e
    · exact h.np i e
    · exact .inr (Nat.le_trans h.size e)
theorem Step.of_below {w w1 : World} {g : Nat} {vl vp : Value} (h : Below w.heap.size w w1) : Step w w1 g vl vp vl vp := ⟨h.os, h.tape, h.output, h.size, fun k hk _ _ _ => h.block k hk, fun _ h => .inl h, fun _ h => .inl h⟩
/-- Another leaf behind the leaves. -/
theorem At.leaf {w w2 : World} {base g g1 cap1 : Nat} {vl vp : Value} {L P : List ByteArray} {h : ByteArray} {o : Obj} (hA : At w base g vl vp L P)
    (ho : w2.ownsRow base 9 1 (.slice (some ⟨g1, 0, none⟩) (L.length + 1) cap1) (L.length + 1) (pw_strs L ++ [.string h])) (hg : (w.alloc o).grownBy w2 vl.ownBlock) (ha : vl.ownBlock = some g1 ∨ g1 = w.heap.size + 1) :
    At (w2.setCell ⟨g, 0, none⟩ (.slice (some ⟨g1, 0, none⟩) (L.length + 1) cap1)) base g (.slice (some ⟨g1, 0, none⟩) (L.length + 1) cap1) vp (L ++ [h]) P := by
  have hlt := (Array.getElem?_eq_some_iff.1 hA.blk).1
  have hb2 : w2.heap[g]? = some (.cells #[vl, vp] 121 (0, 0)) := (hg.block g (by simp; omega) hA.gl).trans ((heap_alloc_old w o hlt).trans hA.blk)
  have hne : g ≠ g1 := by
    rcases ha with ha | ha
    · intro e; exact hA.gl (by rw [ha, e])
    · omega
  have hrp : w2.ownsRow base 9 1 vp P.length (pw_strs P) := (hA.rp.alloc o).kept hg (by
    by_cases hv : vp.ownBlock = none
    · exact .inl hv
    · right; intro e
      obtain ⟨k, hk⟩ := Option.ne_none_iff_exists'.1 hv
      exact hA.ap k (e ▸ hk) hk)
  refine ⟨?_, hA.lo, ?_, own_setCell hrp (by simpa using hA.gp) _, ?_⟩
  · exact (blk_set hb2 0 _).trans rfl
  · rw [List.length_append, List.length_singleton, ← strs_app]
    exact own_setCell ho (by simpa [Value.ownBlock] using hne) _
  · intro k hk
    simp only [Value.ownBlock, Option.some.injEq] at hk
    subst hk
    rcases ha with ha | ha
    · exact hA.ap _ ha
    · intro e; have := own_lt hA.rp _ e; omega
theorem At.leaf_step {w w2 : World} {base g g1 cap1 : Nat} {vl vp : Value} {L P : List ByteArray} {o : Obj} (u : Value) (hA : At w base g vl vp L P)
    (hg : (w.alloc o).grownBy w2 vl.ownBlock) (ha : vl.ownBlock = some g1 ∨ g1 = w.heap.size + 1) :
    Step w (w2.setCell ⟨g, 0, none⟩ u) g vl vp (.slice (some ⟨g1, 0, none⟩) (L.length + 1) cap1) vp := by
  have hs := hg.size
  simp at hs
  refine ⟨hg.os, hg.tape, hg.output, by simp; omega, fun k hk hkg hl _ => ?_, fun k hk => ?_, fun _ h => .inl h⟩
  · exact (Below.heap_setCell w2 ⟨g, 0, none⟩ u k hkg).trans ((hg.block k (by simp; omega) (fun e => hl e.symm)).trans (heap_alloc_old w o hk))
  · simp only [Value.ownBlock, Option.some.injEq] at hk
    subst hk
    rcases ha with ha | ha
    · exact .inl ha
    · right; omega
/-- Other peaks. -/
theorem At.peak {w w2 : World} {base g g1 cap1 n : Nat} {vl vp : Value} {L P Q : List ByteArray} {o : Obj} (hA : At w base g vl vp L P) (hn : Q.length = n)
    (ho : w2.ownsRow base 9 1 (.slice (some ⟨g1, 0, none⟩) n cap1) n (pw_strs Q)) (hg : (w.alloc o).grownBy w2 vp.ownBlock) (ha : vp.ownBlock = some g1 ∨ g1 = w.heap.size + 1) :
    At (w2.setCell ⟨g, 1, none⟩ (.slice (some ⟨g1, 0, none⟩) n cap1)) base g vl (.slice (some ⟨g1, 0, none⟩) n cap1) L Q := by
  subst hn
  have hlt := (Array.getElem?_eq_some_iff.1 hA.blk).1
  have hb2 : w2.heap[g]? = some (.cells #[vl, vp] 121 (0, 0)) := (hg.block g (by simp; omega) hA.gp).trans ((heap_alloc_old w o hlt).trans hA.blk)
  have hne : g ≠ g1 := by
    rcases ha with ha | ha
    · intro e; exact hA.gp (by rw [ha, e])
    · omega
  have hrl : w2.ownsRow base 9 1 vl L.length (pw_strs L) := (hA.rl.alloc o).kept hg (by
    by_cases hv : vl.ownBlock = none
    · exact .inl hv
    · right; intro e
      obtain ⟨k, hk⟩ := Option.ne_none_iff_exists'.1 hv
      exact hA.ap k hk (e ▸ hk))
  refine ⟨(blk_set hb2 1 _).trans rfl, hA.lo, own_setCell hrl (by simpa using hA.gl) _, own_setCell ho (by simpa [Value.ownBlock] using hne) _, ?_⟩
  intro k hk
  simp only [Value.ownBlock]
  intro e
  obtain rfl := Option.some.inj e
  rcases ha with ha | ha
  · exact hA.ap _ hk ha
  · have := own_lt hA.rl _ hk; omega
theorem At.peak_step {w w2 : World} {base g g1 cap1 n : Nat} {vl vp : Value} {L P : List ByteArray} {o : Obj} (u : Value) (hA : At w base g vl vp L P)
    (hg : (w.alloc o).grownBy w2 vp.ownBlock) (ha : vp.ownBlock = some g1 ∨ g1 = w.heap.size + 1) :
    Step w (w2.setCell ⟨g, 1, none⟩ u) g vl vp vl (.slice (some ⟨g1, 0, none⟩) n cap1) := by
  have hs := hg.size
  simp at hs
  refine ⟨hg.os, hg.tape, hg.output, by simp; omega, fun k hk hkg _ hl => ?_, fun _ h => .inl h, fun k hk => ?_⟩
  · exact (Below.heap_setCell w2 ⟨g, 1, none⟩ u k hkg).trans ((hg.block k (by simp; omega) (fun e => hl e.symm)).trans (heap_alloc_old w o hk))
  · simp only [Value.ownBlock, Option.some.injEq] at hk
    subst hk
    rcases ha with ha | ha
    · exact .inl ha
    · right; omega
theorem At.far {w w2 : World} {base g : Nat} {vl vp : Value} {L P : List ByteArray} {o : Obj} (hA : At w base g vl vp L P) (hg : (w.alloc o).grownBy w2 vl.ownBlock ∨ (w.alloc o).grownBy w2 vp.ownBlock) :
    w2.heap[g]? = some (.cells #[vl, vp] 121 (0, 0)) := by
  have hlt := (Array.getElem?_eq_some_iff.1 hA.blk).1
  rcases hg with hg | hg
  · exact (hg.block g (by simp; omega) hA.gl).trans ((heap_alloc_old w o hlt).trans hA.blk)
  · exact (hg.block g (by simp; omega) hA.gp).trans ((heap_alloc_old w o hlt).trans hA.blk)
theorem cell53 {w : World} {g : Nat} {vl vp : Value} (h : w.heap[g]? = some (.cells #[vl, vp] 121 (0, 0))) : w.cell? ⟨g, 0, none⟩ = some vl ∧ w.cell? ⟨g, 1, none⟩ = some vp ∧ w.frozen? ⟨g, 0, none⟩ = false ∧ w.frozen? ⟨g, 1, none⟩ = false := by
  refine ⟨?_, ?_, ?_, ?_⟩
  · rw [cell_of_row w g 0 _ 121 (0, 0) h]; rfl
  · rw [cell_of_row w g 1 _ 121 (0, 0) h]; rfl
  · simp [World.frozen?, h]
  · simp [World.frozen?, h]
theorem own_str {w : World} {base n q gp cap : Nat} {P : List ByteArray} (h : w.ownsRow base 9 1 (.slice (some ⟨gp, 0, none⟩) n cap) n (pw_strs P)) (hq : q < P.length) : w.cell? ⟨gp, q, none⟩ = some (.string (P.getD q ByteArray.empty)) := by
  have e := h.cells (g := gp) rfl q (.string (P.getD q ByteArray.empty)) (by simp [pw_strs, List.getElem?_map, hq])
  have hadd : (⟨gp, 0, none⟩ : Addr).add q = ⟨gp, q, none⟩ := by unfold Addr.add; split <;> simp_all
  rwa [hadd] at e
theorem own_str' {w : World} {base n q gp cap : Nat} {P : List ByteArray} (h : w.ownsRow base 9 1 (.slice (some ⟨gp, 0, none⟩) n cap) P.length (pw_strs P)) (hn : P.length = n) (hq : q < n) : w.cell? ⟨gp, q, none⟩ = some (.string (P.getD q ByteArray.empty)) := by
  subst hn
  exact own_str h hq
theorem own_take {w : World} {base n q gp cap : Nat} {P : List ByteArray} (h : w.ownsRow base 9 1 (.slice (some ⟨gp, 0, none⟩) n cap) P.length (pw_strs P)) (hn : P.length = n) (hq : q ≤ n) : w.ownsRow base 9 1 (.slice (some ⟨gp, 0, none⟩) q cap) q (pw_strs (P.take q)) := by
  subst hn
  obtain ⟨h1, h2⟩ := h
  refine ⟨by simp [pw_strs]; omega, ?_⟩
  rcases h2 with ⟨h3, _⟩ | ⟨g', cap', cur, hv, hb, hg, hc, hm, hs, ht⟩
  · simp at h3
  · simp only [Value.slice.injEq, Option.some.injEq, Addr.mk.injEq] at hv
    obtain ⟨⟨rfl, _, _⟩, _, rfl⟩ := hv
    refine .inr ⟨gp, cap, cur, rfl, hb, hg, by omega, hm, hs, ?_⟩
    rw [Nat.mul_one] at ht ⊢
    rw [show pw_strs (P.take q) = (pw_strs P).take q by simp [pw_strs, List.map_take], ← ht, List.take_take]
    congr 1
    omega
theorem own_cap {w : World} {base n gp cap : Nat} {P : List ByteArray} (h : w.ownsRow base 9 1 (.slice (some ⟨gp, 0, none⟩) n cap) P.length (pw_strs P)) (hn : P.length = n) : n ≤ cap := by
  subst hn
  rcases h.2 with ⟨h3, _⟩ | ⟨g', cap', cur, hv, hb, hg, hc, hm, hs, ht⟩
  · simp at h3
  · simp only [Value.slice.injEq, Option.some.injEq, Addr.mk.injEq] at hv
    omega
theorem below_drew {w w1 : World} (h : Below w.drew.heap.size w.drew w1) : Below w.heap.size w w1 := ⟨h.os, h.tape, h.output, h.size, h.block⟩
/-- What the loop makes of the peaks: as long as the number is even, the last two become one. -/
def car : Nat → List ByteArray → Nat → Option (List ByteArray)
  | 0, _, _ => none
  | k + 1, P, n => if n % 2 = 0 then (if 2 ≤ P.length then ((hash_Node.f (P.getD (P.length - 2) ByteArray.empty) (P.getD (P.length - 1) ByteArray.empty)).bind fun t => car k (P.take (P.length - 2) ++ [t]) (n / 2)) else none) else some P
end Go.Proofs.Ytdcbacbilncnnaa.T
end
