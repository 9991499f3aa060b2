/- The tree of digests: Len, Root. -/
import Derived.Test.YtnipbdlljfifhaaTs
import Derived.Test.YtnipbdlljfifhaaBk
import Derived.RangeFuncCalls
import Derived.RangeFuncBound
import Derived.RangeFuncNested
set_option linter.unusedVariables false
set_option linter.unusedSimpArgs false
namespace Go.Proofs.Ytnipbdlljfifhaa.T
open Go.RowKit Go.Shelf Go.Proofs.Ytnipbdlljfifhaa.PMk Go.Proofs.Ytnipbdlljfifhaa.Bk Go.Proofs.YtnipbdlljfifhaaW.PrintWords Go.Proofs.YtnipbdlljfifhaaW.PrintLast
theorem At.reads {w : World} {base g : Nat} {vl vp : Value} {L P : List ByteArray} (h : At w base g vl vp L P) : ∃ A c, vl = .slice A L.length c ∧ L.length ≤ c ∧ Kd.C Kd.string w A L.length L := by
  obtain ⟨A, c, hv, hr⟩ := own_reads_of (enc := Value.string) (d := ByteArray.empty) (by have := h.rl; exact this)
  refine ⟨A, c, hv, ?_, Kd.C_of_reads (h1 := fun _ => rfl) hr⟩
  rcases h.rl.2 with ⟨h1, h2⟩ | ⟨g', cap, cur, h1, _, _, h2, _⟩
  · omega
  · rw [hv] at h1
    simp only [Value.slice.injEq] at h1
    omega
theorem len_raw (w : World) (base g : Nat) (vl vp : Value) (L P : List ByteArray) (hA : At w base g vl vp L P) :
    Calls Try.prog 15 #[.pointer (some ⟨g, 0, none⟩)] w fun e w' => e = .returned (.int .i64 L.length) ∧ w' = w := by
  have c0 := hA.c0
  obtain ⟨A, c, hv, _, _⟩ := hA.reads
  subst hv
  clear hA
  go_enter Try.func15, Try.ntmps15
  go_wp2
  go_ret
  exact ⟨rfl, rfl⟩
/-- The peaks from the last but one down, each ahead of what has come. -/
abbrev D32 := { x : Nat × ByteArray // x.2.size = 32 }
def encD (x : D32) : Array Value := #[.int .i64 (x.1.1 : Int), .string x.1.2]
def climbUp : List D32 → ByteArray → Option ByteArray
  | [], h => some h
  | x :: xs, h => (hash_Node.f x.1.2 h).bind fun t => climbUp xs t
theorem climbUp_snoc (xs : List D32) (x : D32) (h : ByteArray) : climbUp (xs ++ [x]) h = (climbUp xs h).bind fun t => hash_Node.f x.1.2 t := by
  induction xs generalizing h with
  | nil =>
    simp only [List.nil_append, climbUp, Option.bind_some]
    cases hash_Node.f x.1.2 h <;> rfl
  | cons y ys ih =>
    simp only [List.cons_append, climbUp]
    cases hash_Node.f y.1.2 h with
    | none => rfl
    | some t => simp only [Option.bind_some]; exact ih t
theorem node_some {a b : ByteArray} (ha : a.size = 32) (hb : b.size = 32) : ∃ t, hash_Node.f a b = some t ∧ t.size = 32 := by
  unfold hash_Node.f
  have s1 : ((⟨#[1]⟩ : ByteArray) ++ a).size = 33 := by rw [ByteArray.size_append, ha]; rfl
  have s2 : (((⟨#[1]⟩ : ByteArray) ++ a) ++ b).size = 65 := by rw [ByteArray.size_append, s1, hb]
  rw [if_pos (by omega), if_pos (by omega)]
  unfold Dig.hash_Sum.f
  rw [if_pos (by omega)]
  exact ⟨_, rfl, Dig.dig_size _⟩
theorem climbUp_some (xs : List D32) {h : ByteArray} (hh : h.size = 32) : ∃ t, climbUp xs h = some t ∧ t.size = 32 := by
  induction xs generalizing h with
  | nil => exact ⟨h, rfl, hh⟩
  | cons x xs ih =>
    obtain ⟨t, ht, hs⟩ := node_some x.2 hh
    obtain ⟨u, hu, hs'⟩ := ih hs
    exact ⟨u, by rw [climbUp, ht]; exact hu, hs'⟩
theorem cut22' (gp q cq : Nat) (hc : q + 1 ≤ cq) (W : World) : (Instr.slice 22 (.slice (some ⟨gp, 0, none⟩) (q + 1) cq) none (some (.int .i64 q)) none).run Try.prog W = .ok (.slice (some ⟨gp, 0, none⟩) q cq) W := by
  have h1 : (q : Int) ≤ cq := by omega
  simp [go_sem, Instr.slice, Try.underlying22, h1]
theorem w64r (q : Nat) (h : q < 1000002) : wrap64 (q : Int) = (q : Int) ∧ wrap64 ((q : Int) + 1 - 1) = (q : Int) := ⟨by unfold wrap64; omega, by unfold wrap64; omega⟩
/-- Q, but nothing at a panic. -/
def sure (Q : Exit → Act → World → Prop) : Exit → Act → World → Prop
  | .panic _, _, _ => False
  | e, a, w => Q e a w
theorem wp_sure {P : Program} {c : Code} {Q : Exit → Act → World → Prop} {a : Act} {w : World} (h : c.wp P (sure Q) a w) : c.wp P Q a w := by
  refine Code.wp_mono (fun e a w h => ?_) h
  cases e <;> first | exact h | exact (h : False).elim
attribute [local go_sem] Oper.semAt_some
set_option maxRecDepth 100000 in
set_option maxHeartbeats 2000000 in
theorem root_raw (w : World) (base g : Nat) (vl vp : Value) (L P : List ByteArray) (hA : At w base g vl vp L P) (hL : L ≠ []) (q : Nat) (hq : P.length = q + 1) (hqs : q < 1000000) (h32 : ∀ x ∈ P, x.size = 32)
    (f : Nat → D32) (hf : Hands encD f (P.take q)) (r : ByteArray) (hr : climbUp (upto f q) (P.getD q ByteArray.empty) = some r) :
    Calls Try.prog 16 #[.pointer (some ⟨g, 0, none⟩)] w fun e w' => e = .returned (.string r) ∧ Below w.heap.size w w' := by
  obtain ⟨gp, cq, rfl, hgb, hgl⟩ := World.ownsRow.form hA.rp (by omega)
  rw [hq] at hA
  obtain ⟨last, hlast⟩ : ∃ x, P.getD q ByteArray.empty = x := ⟨_, rfl⟩
  have hl := Lib.hid hlast
  have HA := Lib.hid hA
  have c1 := hA.c1
  have x0 : w.cell? ⟨gp, q, none⟩ = some (.string last) := hlast ▸ own_str' hA.rp hq (by omega)
  have hqc : q + 1 ≤ cq := own_cap hA.rp hq
  have hne : ¬ (L.length : Int) = 0 := by
    intro e
    exact hL (List.eq_nil_of_length_eq_zero (by omega))
  have hq0 : (0 : Int) ≤ (q : Int) := by omega
  have hq1 : (q : Int) ≤ (cq : Int) := by omega
  have hq2 : (q : Int) < (q : Int) + 1 := by omega
  have HR := Lib.hid hr
  have HF := Lib.hid hf
  have H32 := Lib.hid h32
  clear hr hf h32 hlast hA hL
  obtain ⟨wq, wq1⟩ := w64r q (by omega)
  refine (callsIn_wide (n := 3)).1 ?_
  refine callsIn_of_wp_marks Try.func16 rfl trivial ?_ rfl
  simp only [Try.ntmps16, List.size_toArray, List.length_cons, List.length_nil, Nat.reduceAdd, Nat.reduceSub, Array.replicate_succ, Array.replicate_zero, List.push_toArray, List.append_toArray, List.nil_append, List.cons_append]
  refine wpIn_wide.2 ?_
  go_wp2_with (go_at_call 15; refine (len_raw _ _ _ _ _ _ _ HA.out).mono ?_; rintro e w' ⟨rfl, hw'⟩; obtain rfl : w = w' := hw'.symm)
  refine wp_sure ?_
  refine start_ (n := 14) (S := fun w' => w'.cell? ⟨g, 1, none⟩ = some (.slice (some ⟨gp, 0, none⟩) (q + 1) cq) ∧ w'.cell? ⟨gp, q, none⟩ = some (.string last)) (ds := [13]) #[false, false, false, false, false, false, false, false, false, false, false, false, false, false] (by kernel_rfl) rfl rfl ⟨c1, x0⟩ (fun hHeld => ?_)
  refine pure_ (i := 0) (N := some 10) (v := ?_) (a' := ?_) #[true, false, false, false, false, false, false, false, false, false, false, false, false, false] rfl rfl (by kernel_rfl) (fun _ _ _ h => h.elim) (Or.inl ⟨by rfl, ?_⟩) ?_ ?_
  rotate_left
  · intro w'
    go_simp
    with_reducible rfl
  rotate_left
  · simp only [Act.put, List.setIfInBounds_toArray, List.set_cons_zero, List.set_cons_succ, i64_w, i32_w]
    rfl
  refine pure_ (i := 1) (N := some 11) (v := ?_) (a' := ?_) #[true, true, false, false, false, false, false, false, false, false, false, false, false, false] rfl rfl (by kernel_rfl) (fun _ _ _ h => h.elim) (Or.inl ⟨by rfl, ?_⟩) ?_ ?_
  rotate_left
  · intro w'
    go_simp
    with_reducible rfl
  rotate_left
  · simp only [Act.put, List.setIfInBounds_toArray, List.set_cons_zero, List.set_cons_succ, i64_w, i32_w]
    rfl
  refine pure_ (i := 2) (N := some 12) (v := ?_) (a' := ?_) #[true, true, true, false, false, false, false, false, false, false, false, false, false, false] rfl rfl (by kernel_rfl) (fun _ _ _ h => h.elim) (Or.inl ⟨by rfl, ?_⟩) ?_ ?_
  rotate_left
  · intro w'
    go_simp
    with_reducible rfl
  rotate_left
  · simp only [Act.put, List.setIfInBounds_toArray, List.set_cons_zero, List.set_cons_succ, i64_w, i32_w]
    rfl
  refine pure_ (i := 4) (N := some 14) (v := ?_) (a' := ?_) #[true, true, true, false, true, false, false, false, false, false, false, false, false, false] rfl rfl (by kernel_rfl) (fun _ _ _ h => h.elim) (Or.inl ⟨by rfl, ?_⟩) ?_ ?_
  rotate_left
  · intro w'
    go_simp
    with_reducible rfl
  rotate_left
  · simp only [Act.put, List.setIfInBounds_toArray, List.set_cons_zero, List.set_cons_succ, i64_w, i32_w]
    rfl
  refine pure_ (i := 5) (N := some 15) (v := ?_) (a' := ?_) #[true, true, true, false, true, true, false, false, false, false, false, false, false, false] rfl rfl (by kernel_rfl) (fun _ _ _ h => h.elim) (Or.inl ⟨by rfl, ?_⟩) ?_ ?_
  rotate_left
  · intro w'
    go_simp
    with_reducible rfl
  rotate_left
  · simp only [Act.put, List.setIfInBounds_toArray, List.set_cons_zero, List.set_cons_succ, i64_w, i32_w]
    rfl
  refine pure_ (i := 6) (N := some 16) (v := ?_) (a' := ?_) #[true, true, true, false, true, true, true, false, false, false, false, false, false, false] rfl rfl (by kernel_rfl) (fun _ _ _ h => h.elim) (Or.inl ⟨by rfl, ?_⟩) ?_ ?_
  rotate_left
  · intro w'
    go_simp
    with_reducible rfl
  rotate_left
  · simp only [Act.put, List.setIfInBounds_toArray, List.set_cons_zero, List.set_cons_succ, i64_w, i32_w]
    rfl
  refine take_ (i := 3) (N := some 13) (v := ?_) (a' := ?_) #[true, true, true, true, true, true, true, false, false, false, false, false, false, false] rfl rfl (by kernel_rfl) (fun _ _ _ h => h.elim) (Or.inl ⟨by rfl, ?_⟩) hHeld ?_ ?_
  rotate_left
  · rintro w' ⟨s0, s1⟩
    go_simp
    with_reducible rfl
  rotate_left
  · simp only [Act.put, List.setIfInBounds_toArray, List.set_cons_zero, List.set_cons_succ, i64_w, i32_w]
    rfl
  refine take_ (i := 7) (N := some 17) (v := ?_) (a' := ?_) #[true, true, true, true, true, true, true, true, false, false, false, false, false, false] rfl rfl (by kernel_rfl) (fun _ _ _ h => h.elim) (Or.inl ⟨by rfl, ?_⟩) hHeld ?_ ?_
  rotate_left
  · rintro w' ⟨s0, s1⟩
    go_simp
    with_reducible rfl
  rotate_left
  · simp only [Act.put, List.setIfInBounds_toArray, List.set_cons_zero, List.set_cons_succ, i64_w, i32_w]
    rfl
  refine pure_ (i := 8) (N := some 18) (v := ?_) (a' := ?_) #[true, true, true, true, true, true, true, true, true, false, false, false, false, false] rfl rfl (by kernel_rfl) (fun _ _ _ h => h.elim) (Or.inl ⟨by rfl, ?_⟩) ?_ ?_
  rotate_left
  · intro w'
    go_simp
    with_reducible rfl
  rotate_left
  · simp only [Act.put, List.setIfInBounds_toArray, List.set_cons_zero, List.set_cons_succ, i64_w, i32_w]
    rfl
  refine pure_ (i := 9) (N := some 19) (v := ?_) (a' := ?_) #[true, true, true, true, true, true, true, true, true, true, false, false, false, false] rfl rfl (by kernel_rfl) (fun _ _ _ h => h.elim) (Or.inl ⟨by rfl, ?_⟩) ?_ ?_
  rotate_left
  · intro w'
    go_simp
    with_reducible rfl
  rotate_left
  · simp only [Act.put, List.setIfInBounds_toArray, List.set_cons_zero, List.set_cons_succ, i64_w, i32_w]
    rfl
  refine pure_ (i := 10) (N := some 20) (v := ?_) (a' := ?_) #[true, true, true, true, true, true, true, true, true, true, true, false, false, false] rfl rfl (by kernel_rfl) (fun _ _ _ h => h.elim) (Or.inl ⟨by rfl, ?_⟩) ?_ ?_
  rotate_left
  · intro w'
    go_simp
    with_reducible rfl
  rotate_left
  · simp only [Act.put, List.setIfInBounds_toArray, List.set_cons_zero, List.set_cons_succ, i64_w, i32_w]
    rfl
  refine take_ (i := 11) (N := some 21) (v := ?_) (a' := ?_) #[true, true, true, true, true, true, true, true, true, true, true, true, false, false] rfl rfl (by kernel_rfl) (fun _ _ _ h => h.elim) (Or.inl ⟨by rfl, ?_⟩) hHeld ?_ ?_
  rotate_left
  · rintro w' ⟨s0, s1⟩
    go_simp
    with_reducible rfl
  rotate_left
  · simp only [Act.put, List.setIfInBounds_toArray, List.set_cons_zero, List.set_cons_succ, i64_w, i32_w]
    rfl
  refine one_ (i := 12) (N := some 3) #[true, true, true, true, true, true, true, true, true, true, true, true, true, false] rfl rfl (by kernel_rfl) (by decide) (fun K hK => ?_)
  refine value_ (w1 := ?_) (v := ?_) (by rfl) rfl ?_ ?_
  rotate_left 2
  · go_simp
    constructor
    · rfl
    · rfl
  have HA1 := Lib.hid (HA.out.below (((Below.refl _ w).drew).alloc (Nat.le_refl _) (.cells #[.string ⟨#[]⟩] 9)))
  refine hK.out _ _ ⟨HA1.out.c1, hl.out ▸ own_str' HA1.out.rp hq (by omega)⟩ (fun hHeld => ?_)
  clear hK K
  refine norm_ (a' := ?_) ?_ ?_
  rotate_left
  · show Act.put _ (some 3) _ = _
    simp only [Act.put, List.setIfInBounds_toArray, List.set_cons_zero, List.set_cons_succ, i64_w, i32_w]
    rfl
  refine last_ (i := 13) (N := none) #[true, true, true, true, true, true, true, true, true, true, true, true, true, true] rfl rfl (by kernel_rfl) (by decide) (fun K hK => ?_)
  refine skip_ (w1 := ?_) (by rfl) rfl ?_ ?_
  rotate_left
  · go_simp
    rfl
  refine hK.out _ _ ?_
  clear hK K
  refine done_ (by kernel_rfl) ?_
  rename_i Q' h K hK hH0
  show K _ _
  refine hK _ _ ?_
  clear hK K hHeld hH0 c1 x0
  have HA2 : Hid (At (w.alloc (Obj.cells #[Value.string last] 9)).drew base g vl (.slice (some ⟨gp, 0, none⟩) (q + 1) cq) L P) := Lib.hid (HA.out.below (((Below.refl _ w).alloc (Nat.le_refl _) _).drew))
  have HX : Hid (Boxed (w.alloc (Obj.cells #[Value.string last] 9)).drew w.heap.size 9 (.string last)) := Lib.hid (Boxed.new w 9 (.string last))
  have HB : Hid (Below w.heap.size w (w.alloc (Obj.cells #[Value.string last] 9)).drew) := Lib.hid (((Below.refl _ w).alloc (Nat.le_refl _) _).drew)
  have HZ : Hid ((w.alloc (Obj.cells #[Value.string last] 9)).drew.heap.size = w.heap.size + 1) := Lib.hid (by simp)
  generalize (w.alloc (Obj.cells #[Value.string last] 9)).drew = w2 at HA2 HX HB HZ ⊢
  go_wp2_with fail
  refine wp_sure ?_
  refine start_ (n := 12) (S := fun w' => w'.cell? ⟨g, 1, none⟩ = some (.slice (some ⟨gp, 0, none⟩) (q + 1) cq)) (ds := [11]) #[false, false, false, false, false, false, false, false, false, false, false, false] (by kernel_rfl) rfl rfl (HA2.out.c1) (fun hHeld => ?_)
  refine pure_ (i := 0) (N := some 22) (v := ?_) (a' := ?_) #[true, false, false, false, false, false, false, false, false, false, false, false] rfl rfl (by kernel_rfl) (fun _ _ _ h => h.elim) (Or.inl ⟨by rfl, ?_⟩) ?_ ?_
  rotate_left
  · intro w'
    go_simp
    with_reducible rfl
  rotate_left
  · simp only [Act.put, List.setIfInBounds_toArray, List.set_cons_zero, List.set_cons_succ, i64_w, i32_w]
    rfl
  refine pure_ (i := 1) (N := some 23) (v := ?_) (a' := ?_) #[true, true, false, false, false, false, false, false, false, false, false, false] rfl rfl (by kernel_rfl) (fun _ _ _ h => h.elim) (Or.inl ⟨by rfl, ?_⟩) ?_ ?_
  rotate_left
  · intro w'
    go_simp
    with_reducible rfl
  rotate_left
  · simp only [Act.put, List.setIfInBounds_toArray, List.set_cons_zero, List.set_cons_succ, i64_w, i32_w]
    rfl
  refine pure_ (i := 2) (N := some 24) (v := ?_) (a' := ?_) #[true, true, true, false, false, false, false, false, false, false, false, false] rfl rfl (by kernel_rfl) (fun _ _ _ h => h.elim) (Or.inl ⟨by rfl, ?_⟩) ?_ ?_
  rotate_left
  · intro w'
    go_simp
    with_reducible rfl
  rotate_left
  · simp only [Act.put, List.setIfInBounds_toArray, List.set_cons_zero, List.set_cons_succ, i64_w, i32_w]
    rfl
  refine pure_ (i := 4) (N := some 26) (v := ?_) (a' := ?_) #[true, true, true, false, true, false, false, false, false, false, false, false] rfl rfl (by kernel_rfl) (fun _ _ _ h => h.elim) (Or.inl ⟨by rfl, ?_⟩) ?_ ?_
  rotate_left
  · intro w'
    go_simp
    with_reducible rfl
  rotate_left
  · simp only [Act.put, List.setIfInBounds_toArray, List.set_cons_zero, List.set_cons_succ, i64_w, i32_w]
    rfl
  refine pure_ (i := 5) (N := some 27) (v := ?_) (a' := ?_) #[true, true, true, false, true, true, false, false, false, false, false, false] rfl rfl (by kernel_rfl) (fun _ _ _ h => h.elim) (Or.inl ⟨by rfl, ?_⟩) ?_ ?_
  rotate_left
  · intro w'
    go_simp
    with_reducible rfl
  rotate_left
  · simp only [Act.put, List.setIfInBounds_toArray, List.set_cons_zero, List.set_cons_succ, i64_w, i32_w]
    rfl
  refine pure_ (i := 6) (N := some 28) (v := ?_) (a' := ?_) #[true, true, true, false, true, true, true, false, false, false, false, false] rfl rfl (by kernel_rfl) (fun _ _ _ h => h.elim) (Or.inl ⟨by rfl, ?_⟩) ?_ ?_
  rotate_left
  · intro w'
    go_simp
    with_reducible rfl
  rotate_left
  · simp only [Act.put, List.setIfInBounds_toArray, List.set_cons_zero, List.set_cons_succ, i64_w, i32_w]
    rfl
  refine take_ (i := 3) (N := some 25) (v := ?_) (a' := ?_) #[true, true, true, true, true, true, true, false, false, false, false, false] rfl rfl (by kernel_rfl) (fun _ _ _ h => h.elim) (Or.inl ⟨by rfl, ?_⟩) hHeld ?_ ?_
  rotate_left
  · intro w' s0
    go_simp
    with_reducible rfl
  rotate_left
  · simp only [Act.put, List.setIfInBounds_toArray, List.set_cons_zero, List.set_cons_succ, i64_w, i32_w]
    rfl
  refine take_ (i := 7) (N := some 29) (v := ?_) (a' := ?_) #[true, true, true, true, true, true, true, true, false, false, false, false] rfl rfl (by kernel_rfl) (fun _ _ _ h => h.elim) (Or.inl ⟨by rfl, ?_⟩) hHeld ?_ ?_
  rotate_left
  · intro w' s0
    go_simp
    with_reducible rfl
  rotate_left
  · simp only [Act.put, List.setIfInBounds_toArray, List.set_cons_zero, List.set_cons_succ, i64_w, i32_w]
    rfl
  refine pure_ (i := 8) (N := some 30) (v := ?_) (a' := ?_) #[true, true, true, true, true, true, true, true, true, false, false, false] rfl rfl (by kernel_rfl) (fun _ _ _ h => h.elim) (Or.inl ⟨by rfl, ?_⟩) ?_ ?_
  rotate_left
  · intro w'
    go_simp
    with_reducible rfl
  rotate_left
  · simp only [Act.put, List.setIfInBounds_toArray, List.set_cons_zero, List.set_cons_succ, i64_w, i32_w]
    rfl
  refine pure_ (i := 9) (N := some 31) (v := ?_) (a' := ?_) #[true, true, true, true, true, true, true, true, true, true, false, false] rfl rfl (by kernel_rfl) (fun _ _ _ h => h.elim) (Or.inl ⟨by rfl, ?_⟩) ?_ ?_
  rotate_left
  · intro w'
    go_simp
    with_reducible rfl
  rotate_left
  · simp only [Act.put, List.setIfInBounds_toArray, List.set_cons_zero, List.set_cons_succ, i64_w, i32_w]
    rfl
  refine pure_ (i := 10) (N := some 32) (v := ?_) (a' := ?_) #[true, true, true, true, true, true, true, true, true, true, true, false] rfl rfl (by kernel_rfl) (fun _ _ _ h => h.elim) (Or.inl ⟨by rfl, ?_⟩) ?_ ?_
  rotate_left
  · intro w'
    go_simp
    with_reducible rfl
  rotate_left
  · simp only [Act.put, List.setIfInBounds_toArray, List.set_cons_zero, List.set_cons_succ, i64_w, i32_w]
    rfl
  refine last_ (i := 11) (N := some 33) #[true, true, true, true, true, true, true, true, true, true, true, true] rfl rfl (by kernel_rfl) (by decide) (fun K hK => ?_)
  refine goes_ Try.func34 (by kernel_rfl) rfl #[.slice (some ⟨gp, 0, none⟩) q cq] (by rfl) rfl rfl (by simp only [List.map_toArray, List.map_cons, List.map_nil]; rfl) ?_
  with_reducible refine (backward_any _ _ _ _).mono ?_
  rintro e w4 ⟨rfl, rfl⟩
  refine ⟨_, rfl, ?_⟩
  refine hK.out _ _ ?_
  clear hK K
  refine norm_ (a' := ?_) ?_ ?_
  rotate_left
  · show Act.put _ (some 33) _ = _
    simp only [Act.put, List.setIfInBounds_toArray, List.set_cons_zero, List.set_cons_succ, i64_w, i32_w]
    rfl
  refine done_ (by kernel_rfl) ?_
  rename_i K7 hK7 K hK
  show K _ _
  refine hK _ _ ?_
  clear hK K hHeld
  rw [show w2.drew.heap.size = w.heap.size + 1 from HZ.out]
  have HX4 : Hid (Boxed (w2.drew.alloc (Obj.cells #[Value.slice (some { block := gp, off := 0 }) q cq] 22)) w.heap.size 9 (.string last)) := Lib.hid (Boxed.alloc (W := w2.drew) HX.out _)
  have HS4 : Hid (Boxed (w2.drew.alloc (Obj.cells #[Value.slice (some { block := gp, off := 0 }) q cq] 22)) (w.heap.size + 1) 22 (.slice (some ⟨gp, 0, none⟩) q cq)) := Lib.hid (HZ.out ▸ Boxed.new w2.drew 22 (.slice (some ⟨gp, 0, none⟩) q cq))
  have HB4 : Hid (Below w.heap.size w (w2.drew.alloc (Obj.cells #[Value.slice (some { block := gp, off := 0 }) q cq] 22))) := Lib.hid ((HB.out.drew).alloc (by have := HZ.out; simp; omega) _)
  have HZ4 : Hid ((w2.drew.alloc (Obj.cells #[Value.slice (some { block := gp, off := 0 }) q cq] 22)).heap.size = w.heap.size + 2) := Lib.hid (by have := HZ.out; simp; omega)
  have HA4 : Hid (At (w2.drew.alloc (Obj.cells #[Value.slice (some { block := gp, off := 0 }) q cq] 22)) base g vl (.slice (some ⟨gp, 0, none⟩) (q + 1) cq) L P) := Lib.hid (HA.out.below HB4.out)
  generalize w2.drew.alloc (Obj.cells #[Value.slice (some { block := gp, off := 0 }) q cq] 22) = w4 at HX4 HS4 HB4 HZ4 HA4 ⊢
  clear HA1 HA2 HX HB HZ w2
  go_wp2_with fail
  clear wq wq1 h hne hw'
  refine (wpIn_wide (n := 3)).1 ?_
  refine wpIn_rangeFunc_ownG rfl (by decide) (gf := 45) (lb := #[.pointer (some ⟨w.heap.size + 1, 0, none⟩)]) rfl trivial (enters_of Try.func45 (by kernel_rfl) rfl)
    (back_stops encD f Fence.wide _ trivial rfl (by decide) (w.heap.size + 1) w.heap.size (.slice (some ⟨gp, 0, none⟩) q cq) (P.take q) HF.out (by simp; omega) w4 (by have := HZ4.out; omega) HB4.out.size
      (fun A B => Below w.heap.size A B ∧ B.cell? ⟨w.heap.size + 1, 0, none⟩ = A.cell? ⟨w.heap.size + 1, 0, none⟩) (fun _ _ h => h.1) (fun _ _ h => h.2) HS4.out.cell ?strs)
    (fun h k => ⟨h.1.trans k.1, k.2.trans h.2⟩) (fun W l o o' hl hW ho hw => ⟨belowK_b (w := w4) HB4.out.size W l o o' hl hW ho hw, ?other⟩) (Below.refl _ _) (fun _ => rfl)
    (fun pre W => ((∃ hc, climbUp pre last = some hc ∧ Boxed W w.heap.size 9 (.string hc)) ∧ W.heap.size ≥ w.heap.size + 2) ∧ Below w.heap.size w W)
    (fun _ _ _ => False)
    ?own
    (fun _ _ _ _ _ hs _ _ => hs)
    ⟨⟨⟨last, rfl, HX4.out⟩, by have := HZ4.out; omega⟩, HB4.out⟩
    (fun x => { tmps := #[Value.pointer (some { block := g, off := 0 }), undef, Value.string { data := #[] }, Value.pointer (some { block := w.heap.size, off := 0 }), undef, .string x.1.2, Value.pointer (some { block := g, off := 0 }), Value.int IntKind.i64 (L.length : Int), Value.bool ((L.length : Int) == 0), undef, Value.pointer (some { block := g, off := 0 }), Value.pointer (some { block := g, off := 0 }), Value.pointer (some { block := g, off := 1 }), Value.slice (some { block := gp, off := 0 }) (q + 1) cq, Value.pointer (some { block := g, off := 0 }), Value.pointer (some { block := g, off := 0 }), Value.pointer (some { block := g, off := 1 }), Value.slice (some { block := gp, off := 0 }) (q + 1) cq, Value.int IntKind.i64 ((q : Int) + 1), Value.int IntKind.i64 (wrap64 (q : Int)), Value.pointer (some { block := gp, off := q }), Value.string last, Value.pointer (some { block := g, off := 0 }), Value.pointer (some { block := g, off := 0 }), Value.pointer (some { block := g, off := 1 }), Value.slice (some { block := gp, off := 0 }) (q + 1) cq, Value.pointer (some { block := g, off := 0 }), Value.pointer (some { block := g, off := 0 }), Value.pointer (some { block := g, off := 1 }), Value.slice (some { block := gp, off := 0 }) (q + 1) cq, Value.int IntKind.i64 ((q : Int) + 1), Value.int IntKind.i64 (wrap64 (q : Int)), Value.slice (some { block := gp, off := 0 }) q cq, Value.func (Fn.func 45) #[] #[Value.pointer (some { block := w.heap.size + 1, off := 0 })], .int .i64 (x.1.1 : Int), .string x.1.2, undef, undef, undef, undef], defers := [] }) ?assign ?body ?done ?stop
  case strs =>
    have e1 : (P.take q).length = q := by simp; omega
    refine .inr ⟨gp, 0, cq, by rw [e1], hgl, fun j hj => ?_⟩
    rw [e1] at hj
    have e2 : (P.take q).getD j ByteArray.empty = P.getD j ByteArray.empty := by simp [List.getElem?_take, hj]
    rw [e2, Nat.zero_add]
    exact own_str' HA4.out.rp hq (by omega)
  case other =>
    have h1 := HZ4.out
    have h2 := (Array.getElem?_eq_some_iff.1 hW).1
    exact World.cell?_of_block ((grownBy_putObj' W l o').block (w.heap.size + 1) (by omega) (by intro e; injection e with e; omega))
  case own =>
    have h1 := HZ4.out
    refine OwnFrom.and ?_ (ownFrom_below (Nat.le_refl _) (by omega))
    rintro pre A B row ⟨⟨hc, h2, h3⟩, h4⟩ hg hr
    exact ⟨⟨hc, h2, h3.kept hg (fun e => by have := (hr _ e.symm).1; omega)⟩, Nat.le_trans h4 hg.size⟩
  case assign =>
    intro l x W K hK
    dsimp only [encD]
    gi_wp2
    exact hK
  case body =>
    rintro l pre x W ⟨⟨⟨hc, hcl, hX⟩, hsz⟩, hB⟩ _
    have h32 : last.size = 32 := by
      rw [← hl.out]
      exact H32.out _ (by rw [List.getD_eq_getElem?_getD, List.getElem?_eq_getElem (by omega)]; exact List.getElem_mem _)
    obtain ⟨hc', hcl', hcs⟩ := climbUp_some pre h32
    obtain rfl : hc' = hc := Option.some.inj (hcl'.symm.trans hcl)
    obtain ⟨t, ht, _⟩ := node_some x.2 hcs
    have HT := Lib.hid ht
    have HXX := Lib.hid hX
    have HBB := Lib.hid hB
    have HSZ := Lib.hid hsz
    have HCL := Lib.hid hcl
    have hcell := hX.cell
    have hfr := hX.frozen
    clear ht hcl' hcl h32 hcs hX hB hsz
    gi_wp2_with (refine ⟨trivial, ?_⟩; gi_at_call 31; refine (CallsIn.inRound l (callsIn_wide.2 (hash_Node.calls x.1.2 hc' t _ HT.out))).mono ?_; rintro e w' ⟨rfl, hb'⟩; have HB' := Lib.hid hb'; have HX' : Hid (Boxed w' w.heap.size 9 (.string hc')) := Lib.hid ((hb'.block _ HXX.out.lt).trans HXX.out); have hcell' := HX'.out.cell; have hfr' := HX'.out.frozen; clear hb')
    have e3 := HSZ.out
    refine ⟨((KeepsOthers.of_grownBy (grown_of_below HB'.out none) (fun _ _ e => by cases e)).trans (KeepsOthers.setCell _ _ _)).from _, ⟨(show Below w.heap.size W w' from HB'.out.mono (by omega)).setCell (p := ⟨w.heap.size, 0, none⟩) (Nat.le_refl _) _, ?_⟩, ⟨⟨t, by rw [climbUp_snoc, HCL.out]; exact HT.out, HX'.out.set _⟩, ?_⟩, ?_⟩
    · refine World.cell?_of_block ?_
      exact (Below.heap_setCell _ _ _ _ (by simp)).trans (HB'.out.block _ (by show w.heap.size + 1 < W.heap.size; omega))
    · have := HB'.out.size; simp; omega
    · exact (HBB.out.trans (show Below w.heap.size W w' from HB'.out.mono (by omega))).setCell (p := ⟨w.heap.size, 0, none⟩) (Nat.le_refl _) _
  case done =>
    rintro D ys W hD rfl ⟨⟨⟨hc, hcl, hX⟩, hsz⟩, hB⟩ hK
    have e1 : (P.take q).length = q := by simp; omega
    rw [e1] at hcl
    have hr := HR.out
    rw [hl.out, hcl] at hr
    obtain rfl := Option.some.inj hr
    have hcell := hX.cell
    have HXX := Lib.hid hX
    have HBB := Lib.hid hB
    have h1 := HZ4.out
    clear hX hr hcl hB
    show K7 _ _
    refine hK7 _ _ ?_
    go_wp2
    refine ⟨by simp, .inl ⟨_, _, rfl, run_takeDeferred hK, ?_⟩⟩
    exact ⟨_, results_tmp rfl _ _ _, rfl, HBB.out.trans (belowK_b (w := w) (Nat.le_refl _) W D _ _ (by omega) hK rfl rfl)⟩
  case stop =>
    rintro D c pre W _ _ h _
    exact h.elim
end Go.Proofs.Ytnipbdlljfifhaa.T
