/- The tree of digests: Add. -/
/- The tree of digests: Add. -/
import Derived.Test.YtnipbdlljfifhaaPMkx2
import Derived.Deep.RegionHeld3
import Derived.Deep.AppendLies
import Derived.Deep.DrawnRows
import Derived.Lib.Hide
set_option linter.unusedVariables false
set_option linter.unusedSimpArgs false
namespace Go.Proofs.Ytnipbdlljfifhaa.T
open Go.RowKit Go.Proofs.Ytnipbdlljfifhaa.PMk Go.Proofs.YtnipbdlljfifhaaW.PrintWords Go.Proofs.YtnipbdlljfifhaaW.PrintLast
theorem info9 : (Try.prog.info? 9).map (fun i => (i.zero, i.size, i.bytes)) = some (some (.string ⟨#[]⟩), 1, 16) := by kernel_rfl
/-- The tree at g, and where its rows lie. -/
structure At (w : World) (base g : Nat) (vl vp : Value) (L P : List ByteArray) : Prop where
  blk : w.heap[g]? = some (.cells #[vl, vp] 53 (0, 0))
  lo : base ≤ g
  rl : w.ownsRow base 9 1 vl L.length (pw_strs L)
  rp : w.ownsRow base 9 1 vp P.length (pw_strs P)
  ap : ∀ k, vl.ownBlock = some k → vp.ownBlock ≠ some k
theorem At.below {w w1 : World} {base g : Nat} {vl vp : Value} {L P : List ByteArray} (h : At w base g vl vp L P) (hb : Below w.heap.size w w1) : At w1 base g vl vp L P :=
  ⟨(hb.block g (Array.getElem?_eq_some_iff.1 h.blk).1).trans h.blk, h.lo, pw_own_below h.rl hb, pw_own_below h.rp hb, h.ap⟩
theorem At.c0 {w : World} {base g : Nat} {vl vp : Value} {L P : List ByteArray} (h : At w base g vl vp L P) : w.cell? ⟨g, 0, none⟩ = some vl := by
  rw [cell_of_row w g 0 _ 53 (0, 0) h.blk]; rfl
theorem At.c1 {w : World} {base g : Nat} {vl vp : Value} {L P : List ByteArray} (h : At w base g vl vp L P) : w.cell? ⟨g, 1, none⟩ = some vp := by
  rw [cell_of_row w g 1 _ 53 (0, 0) h.blk]; rfl
theorem At.base {w : World} {base g : Nat} {vl vp : Value} {L P : List ByteArray} (h : At w base g vl vp L P) : base ≤ w.heap.size :=
  Nat.le_trans h.lo (Nat.le_of_lt (Array.getElem?_eq_some_iff.1 h.blk).1)
theorem At.f0 {w : World} {base g : Nat} {vl vp : Value} {L P : List ByteArray} (h : At w base g vl vp L P) (i : Nat) : w.frozen? ⟨g, i, none⟩ = false := by
  simp [World.frozen?, h.blk]
theorem At.gl {w : World} {base g : Nat} {vl vp : Value} {L P : List ByteArray} (h : At w base g vl vp L P) : some g ≠ vl.ownBlock := own_ne h.rl h.blk (by decide)
theorem At.gp {w : World} {base g : Nat} {vl vp : Value} {L P : List ByteArray} (h : At w base g vl vp L P) : some g ≠ vp.ownBlock := own_ne h.rp h.blk (by decide)
theorem strs_app (L : List ByteArray) (h : ByteArray) : pw_strs L ++ [.string h] = pw_strs (L ++ [h]) := by simp [pw_strs]
/-- What an act on the tree at g leaves of the world, and where the rows lie behind it. -/
structure Step (w w' : World) (g : Nat) (vl vp vl' vp' : Value) : Prop where
  os : w'.os = w.os
  tape : w'.tape = w.tape
  output : w'.output = w.output
  size : w.heap.size ≤ w'.heap.size
  block : ∀ k, k < w.heap.size → k ≠ g → vl.ownBlock ≠ some k → vp.ownBlock ≠ some k → w'.heap[k]? = w.heap[k]?
  nl : ∀ k, vl'.ownBlock = some k → vl.ownBlock = some k ∨ w.heap.size ≤ k
  np : ∀ k, vp'.ownBlock = some k → vp.ownBlock = some k ∨ w.heap.size ≤ k
theorem Step.refl (w : World) (g : Nat) (vl vp : Value) : Step w w g vl vp vl vp := ⟨rfl, rfl, rfl, Nat.le_refl _, fun _ _ _ _ _ => rfl, fun _ h => .inl h, fun _ h => .inl h⟩
theorem Step.trans {w w1 w2 : World} {g : Nat} {vl vp vl1 vp1 vl2 vp2 : Value} (h : Step w w1 g vl vp vl1 vp1) (k : Step w1 w2 g vl1 vp1 vl2 vp2) : Step w w2 g vl vp vl2 vp2 := by
  refine ⟨k.os.trans h.os, k.tape.trans h.tape, k.output.trans h.output, Nat.le_trans h.size k.size, fun i hi hg hl hp => ?_, fun i hi => ?_, fun i hi => ?_⟩
  · refine (k.block i (Nat.lt_of_lt_of_le hi h.size) hg (fun e => ?_) (fun e => ?_)).trans (h.block i hi hg hl hp)
    · rcases h.nl i e with e | e
      · exact hl e
      · omega
    · rcases h.np i e with e | e
      · exact hp e
      · omega
  · rcases k.nl i hi with e | e
    · exact h.nl i e
    · exact .inr (Nat.le_trans h.size e)
  · rcases k.np i hi with e | e
    · exact h.np i e
    · exact .inr (Nat.le_trans h.size e)
theorem Step.of_below {w w1 : World} {g : Nat} {vl vp : Value} (h : Below w.heap.size w w1) : Step w w1 g vl vp vl vp := ⟨h.os, h.tape, h.output, h.size, fun k hk _ _ _ => h.block k hk, fun _ h => .inl h, fun _ h => .inl h⟩
/-- Another leaf behind the leaves. -/
theorem At.leaf {w w2 : World} {base g g1 cap1 : Nat} {vl vp : Value} {L P : List ByteArray} {h : ByteArray} {o : Obj} (hA : At w base g vl vp L P)
    (ho : w2.ownsRow base 9 1 (.slice (some ⟨g1, 0, none⟩) (L.length + 1) cap1) (L.length + 1) (pw_strs L ++ [.string h])) (hg : (w.alloc o).grownBy w2 vl.ownBlock) (ha : vl.ownBlock = some g1 ∨ g1 = w.heap.size + 1) :
    At (w2.setCell ⟨g, 0, none⟩ (.slice (some ⟨g1, 0, none⟩) (L.length + 1) cap1)) base g (.slice (some ⟨g1, 0, none⟩) (L.length + 1) cap1) vp (L ++ [h]) P := by
  have hlt := (Array.getElem?_eq_some_iff.1 hA.blk).1
  have hb2 : w2.heap[g]? = some (.cells #[vl, vp] 53 (0, 0)) := (hg.block g (by simp; omega) hA.gl).trans ((heap_alloc_old w o hlt).trans hA.blk)
  have hne : g ≠ g1 := by
    rcases ha with ha | ha
    · intro e; exact hA.gl (by rw [ha, e])
    · omega
  have hrp : w2.ownsRow base 9 1 vp P.length (pw_strs P) := (hA.rp.alloc o).kept hg (by
    by_cases hv : vp.ownBlock = none
    · exact .inl hv
    · right; intro e
      obtain ⟨k, hk⟩ := Option.ne_none_iff_exists'.1 hv
      exact hA.ap k (e ▸ hk) hk)
  refine ⟨?_, hA.lo, ?_, own_setCell hrp (by simpa using hA.gp) _, ?_⟩
  · exact (blk_set hb2 0 _).trans rfl
  · rw [List.length_append, List.length_singleton, ← strs_app]
    exact own_setCell ho (by simpa [Value.ownBlock] using hne) _
  · intro k hk
    simp only [Value.ownBlock, Option.some.injEq] at hk
    subst hk
    rcases ha with ha | ha
    · exact hA.ap _ ha
    · intro e; have := own_lt hA.rp _ e; omega
theorem At.leaf_step {w w2 : World} {base g g1 cap1 : Nat} {vl vp : Value} {L P : List ByteArray} {o : Obj} (u : Value) (hA : At w base g vl vp L P)
    (hg : (w.alloc o).grownBy w2 vl.ownBlock) (ha : vl.ownBlock = some g1 ∨ g1 = w.heap.size + 1) :
    Step w (w2.setCell ⟨g, 0, none⟩ u) g vl vp (.slice (some ⟨g1, 0, none⟩) (L.length + 1) cap1) vp := by
  have hs := hg.size
  simp at hs
  refine ⟨hg.os, hg.tape, hg.output, by simp; omega, fun k hk hkg hl _ => ?_, fun k hk => ?_, fun _ h => .inl h⟩
  · exact (Below.heap_setCell w2 ⟨g, 0, none⟩ u k hkg).trans ((hg.block k (by simp; omega) (fun e => hl e.symm)).trans (heap_alloc_old w o hk))
  · simp only [Value.ownBlock, Option.some.injEq] at hk
    subst hk
    rcases ha with ha | ha
    · exact .inl ha
    · right; omega
/-- Other peaks. -/
theorem At.peak {w w2 : World} {base g g1 cap1 n : Nat} {vl vp : Value} {L P Q : List ByteArray} {o : Obj} (hA : At w base g vl vp L P) (hn : Q.length = n)
    (ho : w2.ownsRow base 9 1 (.slice (some ⟨g1, 0, none⟩) n cap1) n (pw_strs Q)) (hg : (w.alloc o).grownBy w2 vp.ownBlock) (ha : vp.ownBlock = some g1 ∨ g1 = w.heap.size + 1) :
    At (w2.setCell ⟨g, 1, none⟩ (.slice (some ⟨g1, 0, none⟩) n cap1)) base g vl (.slice (some ⟨g1, 0, none⟩) n cap1) L Q := by
  subst hn
  have hlt := (Array.getElem?_eq_some_iff.1 hA.blk).1
  have hb2 : w2.heap[g]? = some (.cells #[vl, vp] 53 (0, 0)) := (hg.block g (by simp; omega) hA.gp).trans ((heap_alloc_old w o hlt).trans hA.blk)
  have hne : g ≠ g1 := by
    rcases ha with ha | ha
    · intro e; exact hA.gp (by rw [ha, e])
    · omega
  have hrl : w2.ownsRow base 9 1 vl L.length (pw_strs L) := (hA.rl.alloc o).kept hg (by
    by_cases hv : vl.ownBlock = none
    · exact .inl hv
    · right; intro e
      obtain ⟨k, hk⟩ := Option.ne_none_iff_exists'.1 hv
      exact hA.ap k hk (e ▸ hk))
  refine ⟨(blk_set hb2 1 _).trans rfl, hA.lo, own_setCell hrl (by simpa using hA.gl) _, own_setCell ho (by simpa [Value.ownBlock] using hne) _, ?_⟩
  intro k hk
  simp only [Value.ownBlock]
  intro e
  obtain rfl := Option.some.inj e
  rcases ha with ha | ha
  · exact hA.ap _ hk ha
  · have := own_lt hA.rl _ hk; omega
theorem At.peak_step {w w2 : World} {base g g1 cap1 n : Nat} {vl vp : Value} {L P : List ByteArray} {o : Obj} (u : Value) (hA : At w base g vl vp L P)
    (hg : (w.alloc o).grownBy w2 vp.ownBlock) (ha : vp.ownBlock = some g1 ∨ g1 = w.heap.size + 1) :
    Step w (w2.setCell ⟨g, 1, none⟩ u) g vl vp vl (.slice (some ⟨g1, 0, none⟩) n cap1) := by
  have hs := hg.size
  simp at hs
  refine ⟨hg.os, hg.tape, hg.output, by simp; omega, fun k hk hkg _ hl => ?_, fun _ h => .inl h, fun k hk => ?_⟩
  · exact (Below.heap_setCell w2 ⟨g, 1, none⟩ u k hkg).trans ((hg.block k (by simp; omega) (fun e => hl e.symm)).trans (heap_alloc_old w o hk))
  · simp only [Value.ownBlock, Option.some.injEq] at hk
    subst hk
    rcases ha with ha | ha
    · exact .inl ha
    · right; omega
theorem At.far {w w2 : World} {base g : Nat} {vl vp : Value} {L P : List ByteArray} {o : Obj} (hA : At w base g vl vp L P) (hg : (w.alloc o).grownBy w2 vl.ownBlock ∨ (w.alloc o).grownBy w2 vp.ownBlock) :
    w2.heap[g]? = some (.cells #[vl, vp] 53 (0, 0)) := by
  have hlt := (Array.getElem?_eq_some_iff.1 hA.blk).1
  rcases hg with hg | hg
  · exact (hg.block g (by simp; omega) hA.gl).trans ((heap_alloc_old w o hlt).trans hA.blk)
  · exact (hg.block g (by simp; omega) hA.gp).trans ((heap_alloc_old w o hlt).trans hA.blk)
theorem cell53 {w : World} {g : Nat} {vl vp : Value} (h : w.heap[g]? = some (.cells #[vl, vp] 53 (0, 0))) : w.cell? ⟨g, 0, none⟩ = some vl ∧ w.cell? ⟨g, 1, none⟩ = some vp ∧ w.frozen? ⟨g, 0, none⟩ = false ∧ w.frozen? ⟨g, 1, none⟩ = false := by
  refine ⟨?_, ?_, ?_, ?_⟩
  · rw [cell_of_row w g 0 _ 53 (0, 0) h]; rfl
  · rw [cell_of_row w g 1 _ 53 (0, 0) h]; rfl
  · simp [World.frozen?, h]
  · simp [World.frozen?, h]
theorem own_str {w : World} {base n q gp cap : Nat} {P : List ByteArray} (h : w.ownsRow base 9 1 (.slice (some ⟨gp, 0, none⟩) n cap) n (pw_strs P)) (hq : q < P.length) : w.cell? ⟨gp, q, none⟩ = some (.string (P.getD q ByteArray.empty)) := by
  have e := h.cells (g := gp) rfl q (.string (P.getD q ByteArray.empty)) (by simp [pw_strs, List.getElem?_map, hq])
  have hadd : (⟨gp, 0, none⟩ : Addr).add q = ⟨gp, q, none⟩ := by unfold Addr.add; split <;> simp_all
  rwa [hadd] at e
theorem own_str' {w : World} {base n q gp cap : Nat} {P : List ByteArray} (h : w.ownsRow base 9 1 (.slice (some ⟨gp, 0, none⟩) n cap) P.length (pw_strs P)) (hn : P.length = n) (hq : q < n) : w.cell? ⟨gp, q, none⟩ = some (.string (P.getD q ByteArray.empty)) := by
  subst hn
  exact own_str h hq
theorem own_take {w : World} {base n q gp cap : Nat} {P : List ByteArray} (h : w.ownsRow base 9 1 (.slice (some ⟨gp, 0, none⟩) n cap) P.length (pw_strs P)) (hn : P.length = n) (hq : q ≤ n) : w.ownsRow base 9 1 (.slice (some ⟨gp, 0, none⟩) q cap) q (pw_strs (P.take q)) := by
  subst hn
  obtain ⟨h1, h2⟩ := h
  refine ⟨by simp [pw_strs]; omega, ?_⟩
  rcases h2 with ⟨h3, _⟩ | ⟨g', cap', cur, hv, hb, hg, hc, hm, hs, ht⟩
  · simp at h3
  · simp only [Value.slice.injEq, Option.some.injEq, Addr.mk.injEq] at hv
    obtain ⟨⟨rfl, _, _⟩, _, rfl⟩ := hv
    refine .inr ⟨gp, cap, cur, rfl, hb, hg, by omega, hm, hs, ?_⟩
    rw [Nat.mul_one] at ht ⊢
    rw [show pw_strs (P.take q) = (pw_strs P).take q by simp [pw_strs, List.map_take], ← ht, List.take_take]
    congr 1
    omega
theorem own_cap {w : World} {base n gp cap : Nat} {P : List ByteArray} (h : w.ownsRow base 9 1 (.slice (some ⟨gp, 0, none⟩) n cap) P.length (pw_strs P)) (hn : P.length = n) : n ≤ cap := by
  subst hn
  rcases h.2 with ⟨h3, _⟩ | ⟨g', cap', cur, hv, hb, hg, hc, hm, hs, ht⟩
  · simp at h3
  · simp only [Value.slice.injEq, Option.some.injEq, Addr.mk.injEq] at hv
    omega
theorem below_drew {w w1 : World} (h : Below w.drew.heap.size w.drew w1) : Below w.heap.size w w1 := ⟨h.os, h.tape, h.output, h.size, h.block⟩
theorem cut22 (gp q cq : Nat) (hc : q + 2 ≤ cq) (W : World) : (Instr.slice 22 (.slice (some ⟨gp, 0, none⟩) (q + 2) cq) none (some (.int .i64 q)) none).run Try.prog W = .ok (.slice (some ⟨gp, 0, none⟩) q cq) W := by
  have h1 : (q : Int) ≤ cq := by omega
  have h2 : ¬ ((q : Int) < 0) := by omega
  simp [go_sem, Instr.slice, Try.underlying22, h1, h2]
/-- What the loop makes of the peaks: as long as the number is even, the last two become one. -/
def car : Nat → List ByteArray → Nat → Option (List ByteArray)
  | 0, _, _ => none
  | k + 1, P, n => if n % 2 = 0 then (if 2 ≤ P.length then ((hash_Node.f (P.getD (P.length - 2) ByteArray.empty) (P.getD (P.length - 1) ByteArray.empty)).bind fun t => car k (P.take (P.length - 2) ++ [t]) (n / 2)) else none) else some P
end Go.Proofs.Ytnipbdlljfifhaa.T
set_option linter.unusedVariables false
set_option linter.unusedSimpArgs false
namespace Go.Proofs.Ytnipbdlljfifhaa.T
open Go.RowKit Go.Proofs.Ytnipbdlljfifhaa.PMk Go.Proofs.YtnipbdlljfifhaaW.PrintWords Go.Proofs.YtnipbdlljfifhaaW.PrintLast
theorem and1 (n : Int) : Go.bits .and .i64 n 1 = n % 2 := by
  have h127 : (BitVec.ofInt 64 1).toNat = 2 ^ 1 - 1 := by decide
  have key : (BitVec.ofInt 64 n &&& BitVec.ofInt 64 1).toNat = (n % ((2 ^ 64 : Nat) : Int)).toNat % 2 ^ 1 := by
    rw [BitVec.toNat_and, BitVec.toNat_ofInt, h127, Nat.and_two_pow_sub_one_eq_mod]
  show IntKind.i64.wrap ((BitVec.ofInt 64 n &&& BitVec.ofInt 64 1).toNat : Nat) = n % 2
  rw [key, IntKind.wrap_i64]
  omega
theorem car_even {kk m : Nat} {P Q : List ByteArray} (h : car kk P m = some Q) (hev : m % 2 = 0) :
    ∃ k q t, kk = k + 1 ∧ P.length = q + 2 ∧ hash_Node.f (P.getD q ByteArray.empty) (P.getD (q + 1) ByteArray.empty) = some t ∧ car k (P.take q ++ [t]) (m / 2) = some Q := by
  cases kk with
  | zero => simp [car] at h
  | succ k =>
    rw [car, if_pos hev] at h
    split at h
    · next h2 =>
      obtain ⟨t, ht, hc⟩ := Option.bind_eq_some_iff.mp h
      refine ⟨k, P.length - 2, t, rfl, by omega, ht ▸ ?_, hc⟩
      congr 2; omega
    · exact absurd h (by simp)
theorem car_odd {kk m : Nat} {P Q : List ByteArray} (h : car kk P m = some Q) (hev : ¬ m % 2 = 0) : P = Q := by
  cases kk with
  | zero => simp [car] at h
  | succ k =>
    rw [car, if_neg hev] at h
    exact Option.some.inj h
theorem w64 (q : Nat) (h : q < 1000002) : wrap64 (q : Int) = (q : Int) ∧ wrap64 ((q : Int) + 2 - 1) = (q : Int) + 1 := ⟨by unfold wrap64; omega, by unfold wrap64; omega⟩
set_option maxRecDepth 100000 in
theorem add_raw (s h : ByteArray) (hleaf : hash_Leaf.f s = some h) (w : World) (base g : Nat) (vl vp : Value) (L P Q : List ByteArray) (hA : At w base g vl vp L P) (hn : L.length + 1 < 1000000) (hp : P.length < 1000000)
    (kc : Nat) (hc : car kc (P ++ [h]) (L.length + 1) = some Q) :
    Calls Try.prog 13 #[.pointer (some ⟨g, 0, none⟩), .string s] w fun e w' => e = .returned (.string h) ∧ ∃ vl' vp', At w' base g vl' vp' (L ++ [h]) Q ∧ Step w w' g vl vp vl' vp' := by
  have HA := Lib.hid hA
  have HL := Lib.hid hleaf
  have HC := Lib.hid hc
  obtain ⟨i0, hi, hz0, hz1, hz2⟩ := info_parts info9
  clear hA hleaf hc
  go_enter Try.func13, Try.ntmps13
  go_wp2_with (first
    | (go_at_call 30; refine (hash_Leaf.calls s h _ HL.out).mono ?_; rintro e w1 ⟨rfl, hb1⟩; have HA1 := Lib.hid (HA.out.below hb1); have HS1 := Lib.hid (Step.of_below (g := g) (vl := vl) (vp := vp) hb1); clear hb1; have c0 := HA1.out.c0; have hbs := HA1.out.base)
    | (at_builtin; refine wpList_append_lies _ rfl (.tmp 16) (.tmp 18) 22 rfl base 9 i0 (.string ⟨#[]⟩) 1 16 Try.underlying22 hi hz0 hz1 hz2 rfl (by decide) vl _ _ (by rfl) (HA1.out.rl.alloc _) ⟨w1.heap.size, 0, none⟩ 1 1 [.string h] (by rfl) rfl (World.news_of_block (heap_alloc_new w1 _)) (by intro u hu; simp at hu; subst hu; rfl) (by decide) (by unfold maxLen; omega) (by omega) (by simp; omega) (w1.heap.size + 1) (by simp) ?_))
  intro g1 cap1 w2 hown1 hgrow1 hat1 hlt1
  have HA2 := Lib.hid (HA1.out.leaf hown1 hgrow1 hat1)
  have HS2 := Lib.hid (HS1.out.trans (HA1.out.leaf_step (.slice (some ⟨g1, 0, none⟩) (L.length + 1) cap1) (cap1 := cap1) hgrow1 hat1))
  have b2 := cell53 (HA1.out.far (.inl hgrow1))
  have b20 := b2.1
  have b2f := b2.2.2.1
  clear b2 hown1 hgrow1 hat1 hlt1 c0 hbs
  have c1 := HA2.out.c1
  have hbs := HA2.out.base
  go_wp2_with (at_builtin; refine wpList_append_lies _ rfl (.tmp 26) (.tmp 28) 22 rfl base 9 i0 (.string ⟨#[]⟩) 1 16 Try.underlying22 hi hz0 hz1 hz2 rfl (by decide) vp _ _ (by rfl) (HA2.out.rp.alloc _) ⟨w2.heap.size, 0, none⟩ 1 1 [.string h] (by rfl) rfl (World.news_of_block (w := (w2.setCell _ _).alloc _) (by simpa using heap_alloc_new (w2.setCell ⟨g, 0, none⟩ (.slice (some ⟨g1, 0, none⟩) (L.length + 1) cap1)) (.cells #[.string h] 9))) (by intro u hu; simp at hu; subst hu; rfl) (by decide) (by unfold maxLen; omega) (by omega) (by simp; simpa using Nat.le_succ_of_le hbs) (w2.heap.size + 1) (by simp) ?_)
  intro g2 cap2 w3 hown2 hgrow2 hat2 hlt2
  have HA3 := Lib.hid (HA2.out.peak (Q := P ++ [h]) (n := P.length + 1) (by simp) (by rw [← strs_app]; exact hown2) hgrow2 (hat2.imp id (fun e => by simpa using e)))
  have HS3 := Lib.hid (HS2.out.trans (HA2.out.peak_step (n := P.length + 1) (cap1 := cap2) (.slice (some ⟨g2, 0, none⟩) (P.length + 1) cap2) hgrow2 (hat2.imp id (fun e => by simpa using e))))
  have b2 := cell53 (HA2.out.far (.inr hgrow2))
  have b31 := b2.2.1
  have b3f := b2.2.2.2
  clear b2 hown2 hgrow2 hat2 hlt2 c1 hbs b20 b2f HA2 HS2 HA1 HS1
  have c0 := HA3.out.c0
  go_wp2_with fail
  go_loopw [6] (fun v wr => ∃ (m kk : Nat) (Pk : List ByteArray) (vq : Value), 1 ≤ m ∧ m ≤ 1000000 ∧ Pk.length ≤ 1000000 ∧ v = .int .i64 m ∧ Hid (car kk Pk m = some Q) ∧ Hid (At wr base g (.slice (some ⟨g1, 0, none⟩) (L.length + 1) cap1) vq (L ++ [h]) Pk) ∧ Hid (Step w wr g vl vp (.slice (some ⟨g1, 0, none⟩) (L.length + 1) cap1) vq)) (fun v _ => (intOf v).toNat)
  case atStart => exact ⟨L.length + 1, kc, P ++ [h], .slice (some ⟨g2, 0, none⟩) (P.length + 1) cap2, by omega, by omega, by simp; omega, rfl, HC, HA3, HS3⟩
  case round =>
    obtain ⟨m, kk, Pk, vq, hm1, hm2, hpk, rfl, HC1, HA4, HS4⟩ := hrel
    by_cases hev : m % 2 = 0
    · have e1 : Go.bits .and .i64 (m : Int) 1 = 0 := by rw [and1]; omega
      obtain ⟨k, q, t, rfl, hq, ht, hcar⟩ := car_even HC1.out hev
      obtain ⟨gp, cq, rfl, hgb, hgl⟩ := World.ownsRow.form HA4.out.rp (by omega)
      rw [hq] at HA4 HS4
      have c1 := HA4.out.c1
      have x0 : wr.cell? ⟨gp, q, none⟩ = _ := own_str (by have := HA4.out.rp; rw [hq] at this; exact this) (by omega)
      have x1 : wr.cell? ⟨gp, q + 1, none⟩ = _ := own_str (by have := HA4.out.rp; rw [hq] at this; exact this) (by omega)
      obtain ⟨x, hx⟩ : ∃ x, Pk.getD q ByteArray.empty = x := ⟨_, rfl⟩
      obtain ⟨y, hy⟩ : ∃ y, Pk.getD (q + 1) ByteArray.empty = y := ⟨_, rfl⟩
      rw [hx] at x0 ht
      rw [hy] at x1 ht
      have hx := Lib.hid hx
      have hy := Lib.hid hy
      have hcar := Lib.hid hcar
      have ht := Lib.hid ht
      clear HC1 HA HC HA3 HS3 b31 b3f c0
      go_wp2_with fail
      have hqc : q + 2 ≤ cq := own_cap HA4.out.rp hq
      have hq0 : (0 : Int) ≤ (q : Int) := by omega
      have hq1 : (q : Int) ≤ (cq : Int) := by omega
      have hq2 : (q : Int) < (q : Int) + 2 := by omega
      have hq3 : (0 : Int) ≤ (q : Int) + 1 := by omega
      have hq4 : (q : Int) + 1 < (q : Int) + 2 := by omega
      have tq1 : ((q : Int) + 1).toNat = q + 1 := by omega
      have hqs : q < 1000002 := by omega
      obtain ⟨wq, wq1⟩ := w64 q hqs
      refine start_ (n := 30) (S := fun w' => w'.cell? ⟨g, 1, none⟩ = some (.slice (some ⟨gp, 0, none⟩) (q + 2) cq) ∧ w'.cell? ⟨gp, q, none⟩ = some (.string x) ∧ w'.cell? ⟨gp, q + 1, none⟩ = some (.string y)) (ds := [26, 29]) #[false, false, false, false, false, false, false, false, false, false, false, false, false, false, false, false, false, false, false, false, false, false, false, false, false, false, false, false, false, false] (by kernel_rfl) rfl rfl ⟨c1, x0, x1⟩ (fun hHeld => ?_)
      refine pure_ (i := 0) (N := some 47) (v := ?_) (a' := ?_) #[true, false, false, false, false, false, false, false, false, false, false, false, false, false, false, false, false, false, false, false, false, false, false, false, false, false, false, false, false, false] rfl rfl (by kernel_rfl) (fun _ _ _ h => h) (Or.inl ⟨by rfl, ?_⟩) ?_ ?_
      rotate_left
      · intro w'
        go_simp
        with_reducible rfl
      rotate_left
      · simp only [Act.put, List.setIfInBounds_toArray, List.set_cons_zero, List.set_cons_succ, i64_w, i32_w]
        rfl
      refine pure_ (i := 1) (N := some 48) (v := ?_) (a' := ?_) #[true, true, false, false, false, false, false, false, false, false, false, false, false, false, false, false, false, false, false, false, false, false, false, false, false, false, false, false, false, false] rfl rfl (by kernel_rfl) (fun _ _ _ h => h) (Or.inl ⟨by rfl, ?_⟩) ?_ ?_
      rotate_left
      · intro w'
        go_simp
        with_reducible rfl
      rotate_left
      · simp only [Act.put, List.setIfInBounds_toArray, List.set_cons_zero, List.set_cons_succ, i64_w, i32_w]
        rfl
      refine pure_ (i := 2) (N := some 49) (v := ?_) (a' := ?_) #[true, true, true, false, false, false, false, false, false, false, false, false, false, false, false, false, false, false, false, false, false, false, false, false, false, false, false, false, false, false] rfl rfl (by kernel_rfl) (fun _ _ _ h => h) (Or.inl ⟨by rfl, ?_⟩) ?_ ?_
      rotate_left
      · intro w'
        go_simp
        with_reducible rfl
      rotate_left
      · simp only [Act.put, List.setIfInBounds_toArray, List.set_cons_zero, List.set_cons_succ, i64_w, i32_w]
        rfl
      refine pure_ (i := 3) (N := some 50) (v := ?_) (a' := ?_) #[true, true, true, true, false, false, false, false, false, false, false, false, false, false, false, false, false, false, false, false, false, false, false, false, false, false, false, false, false, false] rfl rfl (by kernel_rfl) (fun _ _ _ h => h) (Or.inl ⟨by rfl, ?_⟩) ?_ ?_
      rotate_left
      · intro w'
        go_simp
        with_reducible rfl
      rotate_left
      · simp only [Act.put, List.setIfInBounds_toArray, List.set_cons_zero, List.set_cons_succ, i64_w, i32_w]
        rfl
      refine pure_ (i := 5) (N := some 52) (v := ?_) (a' := ?_) #[true, true, true, true, false, true, false, false, false, false, false, false, false, false, false, false, false, false, false, false, false, false, false, false, false, false, false, false, false, false] rfl rfl (by kernel_rfl) (fun _ _ _ h => h) (Or.inl ⟨by rfl, ?_⟩) ?_ ?_
      rotate_left
      · intro w'
        go_simp
        with_reducible rfl
      rotate_left
      · simp only [Act.put, List.setIfInBounds_toArray, List.set_cons_zero, List.set_cons_succ, i64_w, i32_w]
        rfl
      refine pure_ (i := 6) (N := some 53) (v := ?_) (a' := ?_) #[true, true, true, true, false, true, true, false, false, false, false, false, false, false, false, false, false, false, false, false, false, false, false, false, false, false, false, false, false, false] rfl rfl (by kernel_rfl) (fun _ _ _ h => h) (Or.inl ⟨by rfl, ?_⟩) ?_ ?_
      rotate_left
      · intro w'
        go_simp
        with_reducible rfl
      rotate_left
      · simp only [Act.put, List.setIfInBounds_toArray, List.set_cons_zero, List.set_cons_succ, i64_w, i32_w]
        rfl
      refine pure_ (i := 8) (N := some 55) (v := ?_) (a' := ?_) #[true, true, true, true, false, true, true, false, true, false, false, false, false, false, false, false, false, false, false, false, false, false, false, false, false, false, false, false, false, false] rfl rfl (by kernel_rfl) (fun _ _ _ h => h) (Or.inl ⟨by rfl, ?_⟩) ?_ ?_
      rotate_left
      · intro w'
        go_simp
        with_reducible rfl
      rotate_left
      · simp only [Act.put, List.setIfInBounds_toArray, List.set_cons_zero, List.set_cons_succ, i64_w, i32_w]
        rfl
      refine pure_ (i := 9) (N := some 56) (v := ?_) (a' := ?_) #[true, true, true, true, false, true, true, false, true, true, false, false, false, false, false, false, false, false, false, false, false, false, false, false, false, false, false, false, false, false] rfl rfl (by kernel_rfl) (fun _ _ _ h => h) (Or.inl ⟨by rfl, ?_⟩) ?_ ?_
      rotate_left
      · intro w'
        go_simp
        with_reducible rfl
      rotate_left
      · simp only [Act.put, List.setIfInBounds_toArray, List.set_cons_zero, List.set_cons_succ, i64_w, i32_w]
        rfl
      refine pure_ (i := 10) (N := some 57) (v := ?_) (a' := ?_) #[true, true, true, true, false, true, true, false, true, true, true, false, false, false, false, false, false, false, false, false, false, false, false, false, false, false, false, false, false, false] rfl rfl (by kernel_rfl) (fun _ _ _ h => h) (Or.inl ⟨by rfl, ?_⟩) ?_ ?_
      rotate_left
      · intro w'
        go_simp
        with_reducible rfl
      rotate_left
      · simp only [Act.put, List.setIfInBounds_toArray, List.set_cons_zero, List.set_cons_succ, i64_w, i32_w]
        rfl
      refine pure_ (i := 12) (N := some 59) (v := ?_) (a' := ?_) #[true, true, true, true, false, true, true, false, true, true, true, false, true, false, false, false, false, false, false, false, false, false, false, false, false, false, false, false, false, false] rfl rfl (by kernel_rfl) (fun _ _ _ h => h) (Or.inl ⟨by rfl, ?_⟩) ?_ ?_
      rotate_left
      · intro w'
        go_simp
        with_reducible rfl
      rotate_left
      · simp only [Act.put, List.setIfInBounds_toArray, List.set_cons_zero, List.set_cons_succ, i64_w, i32_w]
        rfl
      refine pure_ (i := 13) (N := some 60) (v := ?_) (a' := ?_) #[true, true, true, true, false, true, true, false, true, true, true, false, true, true, false, false, false, false, false, false, false, false, false, false, false, false, false, false, false, false] rfl rfl (by kernel_rfl) (fun _ _ _ h => h) (Or.inl ⟨by rfl, ?_⟩) ?_ ?_
      rotate_left
      · intro w'
        go_simp
        with_reducible rfl
      rotate_left
      · simp only [Act.put, List.setIfInBounds_toArray, List.set_cons_zero, List.set_cons_succ, i64_w, i32_w]
        rfl
      refine pure_ (i := 16) (N := some 63) (v := ?_) (a' := ?_) #[true, true, true, true, false, true, true, false, true, true, true, false, true, true, false, false, true, false, false, false, false, false, false, false, false, false, false, false, false, false] rfl rfl (by kernel_rfl) (fun _ _ _ h => h) (Or.inl ⟨by rfl, ?_⟩) ?_ ?_
      rotate_left
      · intro w'
        go_simp
        with_reducible rfl
      rotate_left
      · simp only [Act.put, List.setIfInBounds_toArray, List.set_cons_zero, List.set_cons_succ, i64_w, i32_w]
        rfl
      refine pure_ (i := 17) (N := some 64) (v := ?_) (a' := ?_) #[true, true, true, true, false, true, true, false, true, true, true, false, true, true, false, false, true, true, false, false, false, false, false, false, false, false, false, false, false, false] rfl rfl (by kernel_rfl) (fun _ _ _ h => h) (Or.inl ⟨by rfl, ?_⟩) ?_ ?_
      rotate_left
      · intro w'
        go_simp
        with_reducible rfl
      rotate_left
      · simp only [Act.put, List.setIfInBounds_toArray, List.set_cons_zero, List.set_cons_succ, i64_w, i32_w]
        rfl
      refine pure_ (i := 18) (N := some 65) (v := ?_) (a' := ?_) #[true, true, true, true, false, true, true, false, true, true, true, false, true, true, false, false, true, true, true, false, false, false, false, false, false, false, false, false, false, false] rfl rfl (by kernel_rfl) (fun _ _ _ h => h) (Or.inl ⟨by rfl, ?_⟩) ?_ ?_
      rotate_left
      · intro w'
        go_simp
        with_reducible rfl
      rotate_left
      · simp only [Act.put, List.setIfInBounds_toArray, List.set_cons_zero, List.set_cons_succ, i64_w, i32_w]
        rfl
      refine pure_ (i := 20) (N := some 67) (v := ?_) (a' := ?_) #[true, true, true, true, false, true, true, false, true, true, true, false, true, true, false, false, true, true, true, false, true, false, false, false, false, false, false, false, false, false] rfl rfl (by kernel_rfl) (fun _ _ _ h => h) (Or.inl ⟨by rfl, ?_⟩) ?_ ?_
      rotate_left
      · intro w'
        go_simp
        with_reducible rfl
      rotate_left
      · simp only [Act.put, List.setIfInBounds_toArray, List.set_cons_zero, List.set_cons_succ, i64_w, i32_w]
        rfl
      refine pure_ (i := 21) (N := some 68) (v := ?_) (a' := ?_) #[true, true, true, true, false, true, true, false, true, true, true, false, true, true, false, false, true, true, true, false, true, true, false, false, false, false, false, false, false, false] rfl rfl (by kernel_rfl) (fun _ _ _ h => h) (Or.inl ⟨by rfl, ?_⟩) ?_ ?_
      rotate_left
      · intro w'
        go_simp
        with_reducible rfl
      rotate_left
      · simp only [Act.put, List.setIfInBounds_toArray, List.set_cons_zero, List.set_cons_succ, i64_w, i32_w]
        rfl
      refine take_ (i := 4) (N := some 51) (v := ?_) (a' := ?_) #[true, true, true, true, true, true, true, false, true, true, true, false, true, true, false, false, true, true, true, false, true, true, false, false, false, false, false, false, false, false] rfl rfl (by kernel_rfl) (fun _ _ _ h => h) (Or.inl ⟨by rfl, ?_⟩) hHeld ?_ ?_
      rotate_left
      · rintro w' ⟨s0, s1, s2⟩
        go_simp
        with_reducible rfl
      rotate_left
      · simp only [Act.put, List.setIfInBounds_toArray, List.set_cons_zero, List.set_cons_succ, i64_w, i32_w]
        rfl
      refine pure_ (i := 7) (N := some 54) (v := ?_) (a' := ?_) #[true, true, true, true, true, true, true, true, true, true, true, false, true, true, false, false, true, true, true, false, true, true, false, false, false, false, false, false, false, false] rfl rfl (by kernel_rfl) (fun _ _ _ h => h) (Or.inl ⟨by rfl, ?_⟩) ?_ ?_
      rotate_left
      · intro w'
        go_simp
        with_reducible rfl
      rotate_left
      · simp only [Act.put, List.setIfInBounds_toArray, List.set_cons_zero, List.set_cons_succ, i64_w, i32_w]
        rfl
      refine take_ (i := 11) (N := some 58) (v := ?_) (a' := ?_) #[true, true, true, true, true, true, true, true, true, true, true, true, true, true, false, false, true, true, true, false, true, true, false, false, false, false, false, false, false, false] rfl rfl (by kernel_rfl) (fun _ _ _ h => h) (Or.inl ⟨by rfl, ?_⟩) hHeld ?_ ?_
      rotate_left
      · rintro w' ⟨s0, s1, s2⟩
        go_simp
        with_reducible rfl
      rotate_left
      · simp only [Act.put, List.setIfInBounds_toArray, List.set_cons_zero, List.set_cons_succ, i64_w, i32_w]
        rfl
      refine pure_ (i := 14) (N := some 61) (v := ?_) (a' := ?_) #[true, true, true, true, true, true, true, true, true, true, true, true, true, true, true, false, true, true, true, false, true, true, false, false, false, false, false, false, false, false] rfl rfl (by kernel_rfl) (fun _ _ _ h => h) (Or.inl ⟨by rfl, ?_⟩) ?_ ?_
      rotate_left
      · intro w'
        go_simp
        with_reducible rfl
      rotate_left
      · simp only [Act.put, List.setIfInBounds_toArray, List.set_cons_zero, List.set_cons_succ, i64_w, i32_w]
        rfl
      refine take_ (i := 15) (N := some 62) (v := ?_) (a' := ?_) #[true, true, true, true, true, true, true, true, true, true, true, true, true, true, true, true, true, true, true, false, true, true, false, false, false, false, false, false, false, false] rfl rfl (by kernel_rfl) (fun _ _ _ h => h) (Or.inl ⟨by rfl, ?_⟩) hHeld ?_ ?_
      rotate_left
      · rintro w' ⟨s0, s1, s2⟩
        go_simp
        with_reducible rfl
      rotate_left
      · simp only [Act.put, List.setIfInBounds_toArray, List.set_cons_zero, List.set_cons_succ, i64_w, i32_w]
        rfl
      refine take_ (i := 19) (N := some 66) (v := ?_) (a' := ?_) #[true, true, true, true, true, true, true, true, true, true, true, true, true, true, true, true, true, true, true, true, true, true, false, false, false, false, false, false, false, false] rfl rfl (by kernel_rfl) (fun _ _ _ h => h) (Or.inl ⟨by rfl, ?_⟩) hHeld ?_ ?_
      rotate_left
      · rintro w' ⟨s0, s1, s2⟩
        go_simp
        with_reducible rfl
      rotate_left
      · simp only [Act.put, List.setIfInBounds_toArray, List.set_cons_zero, List.set_cons_succ, i64_w, i32_w]
        rfl
      refine pure_ (i := 22) (N := some 69) (v := ?_) (a' := ?_) #[true, true, true, true, true, true, true, true, true, true, true, true, true, true, true, true, true, true, true, true, true, true, true, false, false, false, false, false, false, false] rfl rfl (by kernel_rfl) (fun _ _ _ h => h) (Or.inl ⟨by rfl, ?_⟩) ?_ ?_
      rotate_left
      · intro w'
        go_simp
        with_reducible rfl
      rotate_left
      · simp only [Act.put, List.setIfInBounds_toArray, List.set_cons_zero, List.set_cons_succ, i64_w, i32_w]
        rfl
      refine take_ (i := 23) (N := some 70) (v := ?_) (a' := ?_) #[true, true, true, true, true, true, true, true, true, true, true, true, true, true, true, true, true, true, true, true, true, true, true, true, false, false, false, false, false, false] rfl rfl (by kernel_rfl) (fun _ _ _ h => h) (Or.inl ⟨by rfl, ?_⟩) hHeld ?_ ?_
      rotate_left
      · rintro w' ⟨s0, s1, s2⟩
        go_simp
        with_reducible rfl
      rotate_left
      · simp only [Act.put, List.setIfInBounds_toArray, List.set_cons_zero, List.set_cons_succ, i64_w, i32_w]
        rfl
      refine one_ (i := 24) (N := some 71) #[true, true, true, true, true, true, true, true, true, true, true, true, true, true, true, true, true, true, true, true, true, true, true, true, true, false, false, false, false, false] rfl rfl (by kernel_rfl) (by decide) (fun K hK => ?_)
      refine goes_ Try.func31 (by kernel_rfl) rfl #[.string x, .string y] (by rfl) rfl rfl (by simp only [List.map_toArray, List.map_cons, List.map_nil]; rfl) ?_
      with_reducible refine (hash_Node.calls _ _ t _ ht.out).mono ?_
      rintro e w4 ⟨rfl, hb4⟩
      refine ⟨_, rfl, ?_⟩
      clear wq wq1
      have HA5 := Lib.hid (HA4.out.below (below_drew hb4))
      have HS5 := Lib.hid (HS4.out.trans (Step.of_below (g := g) (vl := .slice (some ⟨g1, 0, none⟩) (L.length + 1) cap1) (vp := .slice (some ⟨gp, 0, none⟩) (q + 2) cq) (below_drew hb4)))
      clear hb4
      have hlen : w4.heap.size = w4.heap.size := rfl
      refine hK.out _ _ ⟨HA5.out.c1, hx.out ▸ own_str' HA5.out.rp hq (by omega), hy.out ▸ own_str' HA5.out.rp hq (by omega)⟩ (fun hHeld => ?_)
      clear hK K
      refine norm_ (a' := ?_) ?_ ?_
      rotate_left
      · show Act.put _ (some 71) _ = _
        simp only [Act.put, List.setIfInBounds_toArray, List.set_cons_zero, List.set_cons_succ, i64_w, i32_w]
        rfl
      refine one_ (i := 25) (N := some 72) #[true, true, true, true, true, true, true, true, true, true, true, true, true, true, true, true, true, true, true, true, true, true, true, true, true, true, false, false, false, false] rfl rfl (by kernel_rfl) (by decide) (fun K hK => ?_)
      refine value_ (w1 := ?_) (v := ?_) (by rfl) rfl ?_ ?_
      rotate_left 2
      · go_simp
        constructor
        · rfl
        · rfl
      have HA6 := Lib.hid (HA5.out.below ((Below.refl _ w4).alloc (Nat.le_refl _) (.cells #[.string t] 9)))
      refine hK.out _ _ ⟨HA6.out.c1, hx.out ▸ own_str' HA6.out.rp hq (by omega), hy.out ▸ own_str' HA6.out.rp hq (by omega)⟩ (fun hHeld => ?_)
      clear hK K
      refine norm_ (a' := ?_) ?_ ?_
      rotate_left
      · show Act.put _ (some 72) _ = _
        simp only [Act.put, List.setIfInBounds_toArray, List.set_cons_zero, List.set_cons_succ, i64_w, i32_w]
        rfl
      refine last_ (i := 26) (N := some 73) #[true, true, true, true, true, true, true, true, true, true, true, true, true, true, true, true, true, true, true, true, true, true, true, true, true, true, true, false, false, false] rfl rfl (by kernel_rfl) (by decide) (fun K hK => ?_)
      refine step_append_lies _ rfl (.tmp 54) (.tmp 72) 22 rfl base 9 i0 (.string ⟨#[]⟩) 1 16 Try.underlying22 hi hz0 hz1 hz2 rfl (by decide) (.slice (some ⟨gp, 0, none⟩) q cq) q (pw_strs (Pk.take q)) (by rfl) (own_take HA6.out.rp hq (by omega)) ⟨w4.heap.size, 0, none⟩ 1 1 [.string t] (by rfl) rfl (World.news_of_block (heap_alloc_new w4 _)) (by intro u hu; simp at hu; subst hu; rfl) (by decide) (by unfold maxLen; omega) (by omega) HA6.out.base (w4.heap.size + 1) (by simp) ?_
      intro g3 cap3 w5 hown3 hgrow3 hat3 hlt3
      have b2 := cell53 (HA5.out.far (.inr hgrow3))
      have b51 := b2.2.1
      have b5f := b2.2.2.2
      clear b2
      refine hK.out _ _ ?_
      clear hK K
      refine norm_ (a' := ?_) ?_ ?_
      rotate_left
      · show Act.put _ (some 73) _ = _
        simp only [Act.put, List.setIfInBounds_toArray, List.set_cons_zero, List.set_cons_succ, i64_w, i32_w]
        rfl
      refine pure_ (i := 27) (N := some 74) (v := ?_) (a' := ?_) #[true, true, true, true, true, true, true, true, true, true, true, true, true, true, true, true, true, true, true, true, true, true, true, true, true, true, true, true, false, false] rfl rfl (by kernel_rfl) (fun _ _ _ h => h) (Or.inl ⟨by rfl, ?_⟩) ?_ ?_
      rotate_left
      · intro w'
        go_simp
        with_reducible rfl
      rotate_left
      · simp only [Act.put, List.setIfInBounds_toArray, List.set_cons_zero, List.set_cons_succ, i64_w, i32_w]
        rfl
      refine pure_ (i := 28) (N := some 75) (v := ?_) (a' := ?_) #[true, true, true, true, true, true, true, true, true, true, true, true, true, true, true, true, true, true, true, true, true, true, true, true, true, true, true, true, true, false] rfl rfl (by kernel_rfl) (fun _ _ _ h => h) (Or.inl ⟨by rfl, ?_⟩) ?_ ?_
      rotate_left
      · intro w'
        go_simp
        with_reducible rfl
      rotate_left
      · simp only [Act.put, List.setIfInBounds_toArray, List.set_cons_zero, List.set_cons_succ, i64_w, i32_w]
        rfl
      refine last_ (i := 29) (N := none) #[true, true, true, true, true, true, true, true, true, true, true, true, true, true, true, true, true, true, true, true, true, true, true, true, true, true, true, true, true, true] rfl rfl (by kernel_rfl) (by decide) (fun K hK => ?_)
      refine skip_ (w1 := ?_) (by rfl) rfl ?_ ?_
      rotate_left
      · go_simp
        rfl
      refine hK.out _ _ ?_
      clear hK K
      refine done_ (by kernel_rfl) ?_

      have HA7 := Lib.hid (HA5.out.peak (Q := Pk.take q ++ [t]) (n := q + 1) (by simp; omega) (by rw [← strs_app]; exact hown3) hgrow3 hat3)
      have HS7 := Lib.hid (HS5.out.trans (HA5.out.peak_step (n := q + 1) (cap1 := cap3) (.slice (some ⟨g3, 0, none⟩) (q + 1) cap3) hgrow3 hat3))
      clear hown3 hgrow3 hat3 hlt3 HA6 HS5 HA5 hHeld HA4 HS4
      go_wp2_with fail
      go_roundw
      case rel => exact ⟨m / 2, k, Pk.take q ++ [t], _, by omega, by omega, by simp; omega, by go_num, hcar, HA7, HS7⟩
      case measure => simp [intOf]; omega
    · have HC2 := car_odd HC1.out hev
      have e1 : Go.bits .and .i64 (m : Int) 1 = 1 := by rw [and1]; omega
      go_wp2_with fail
      go_ret
      subst HC2
      exact ⟨rfl, _, _, HA4.out, HS4.out⟩
end Go.Proofs.Ytnipbdlljfifhaa.T
