import Derived.Test.YtnipbdlljfifhaaHc

set_option linter.unusedVariables false
namespace Go.Proofs.Ytnipbdlljfifhaa.H
open Go.RowKit Go.Proofs.Ytnipbdlljfifhaa.Sha Go.Proofs.YtnipbdlljfifhaaW.PrintWords Go.Proofs.YtnipbdlljfifhaaW.PrintLast

def backB (md : Region.Mode) (ops : Array Oper) : Bool := (List.range ops.size).all fun i => ((ops[i]?).map fun o => o.after.all fun e => !Region.binds md e || decide (e.on < i)).getD true
theorem back_of {md : Region.Mode} {ops : Array Oper} (h : backB md ops = true) : ∀ i o, ops[i]? = some o → ∀ e ∈ o.after, Region.binds md e = true → e.on < i := by
  intro i o ho e he hb
  have hi : i < ops.size := (Array.getElem?_eq_some_iff.1 ho).1
  have h1 := List.all_eq_true.1 h i (List.mem_range.2 hi)
  rw [ho] at h1
  simp only [Option.map_some, Option.getD_some] at h1
  have h2 := Array.all_eq_true_iff_forall_mem.1 h1 e he
  rw [hb] at h2
  simpa using h2
theorem cases10 {ops : Array Oper} {i : Nat} {o : Oper} (hs : ops.size = 10) (h : ops[i]? = some o) : i = 0 ∨ i = 1 ∨ i = 2 ∨ i = 3 ∨ i = 4 ∨ i = 5 ∨ i = 6 ∨ i = 7 ∨ i = 8 ∨ i = 9 := by
  have hi : i < ops.size := (Array.getElem?_eq_some_iff.1 h).1
  omega

/-- An array of words that was made here. -/
def Made (B t : Nat) (cs : Array Value) (v : Value) (W : World) : Prop := ∃ p, v = .pointer (some ⟨p, 0, none⟩) ∧ B ≤ p ∧ W.heap[p]? = some (.cells cs t (0, 0))
theorem Made.below {B t : Nat} {cs : Array Value} {v : Value} {W W' : World} (h : Made B t cs v W) (hb : Below W.heap.size W W') : Made B t cs v W' := by
  obtain ⟨p, hv, hp, hg⟩ := h
  exact ⟨p, hv, hp, blk_below hg hb⟩
theorem Made.alloc {B t : Nat} {cs : Array Value} {v : Value} {W : World} (h : Made B t cs v W) (o : Obj) : Made B t cs v (W.alloc o) := h.below (below_alloc (Below.refl _ _) o)
theorem Made.new {B t : Nat} (cs : Array Value) (W : World) (h : B ≤ W.heap.size) : Made B t cs (.pointer (some ⟨W.heap.size, 0, none⟩)) (W.alloc (.cells cs t)) := ⟨_, rfl, h, heap_alloc_last W _⟩
theorem Made.setRow {B t : Nat} {cs : Array Value} {v : Value} {W : World} (h : Made B t cs v W) (g : Nat) (hne : v ≠ .pointer (some ⟨g, 0, none⟩)) (cs' : Array Value) : Made B t cs v (W.setRow g cs') := by
  obtain ⟨p, rfl, hp, hg⟩ := h
  exact ⟨p, rfl, hp, blk_setRow hg (fun e => hne (by rw [e])) cs'⟩
theorem Made.put {B t : Nat} {cs : Array Value} {W : World} {g : Nat} (h : Made B t cs (.pointer (some ⟨g, 0, none⟩)) W) (cs' : Array Value) : Made B t cs' (.pointer (some ⟨g, 0, none⟩)) (W.setRow g cs') := by
  obtain ⟨p, hv, hp, hg⟩ := h
  simp at hv
  subst hv
  exact ⟨g, rfl, hp, setRow_heap W g _ _ _ _ hg⟩

def fr22 (h : St) (s : ByteArray) (g : Nat) (v5 v6 v7 v18 v19 v20 v21 : Value) : Act := ⟨#[.agg (us h.l), .string s, .pointer (some ⟨g, 0, none⟩), undef, .pointer (some ⟨g + 1, 0, none⟩), v5, v6, v7, undef, undef, undef, undef, undef, undef, .string s, .int .i64 s.size, .bool false, undef, v18, v19, v20, v21, undef, undef, undef, undef, undef, undef, undef, undef, undef, undef, undef, undef, undef, undef, undef, undef, undef, undef, undef, undef, undef, undef, undef, undef, undef, undef, undef, undef, undef, undef, undef, undef, undef, undef, undef, undef, undef, undef, undef, undef, undef, undef, undef, undef, undef, undef, undef, undef, undef, undef, undef, undef, undef, undef, undef, undef, undef, undef, undef, undef, undef, undef, undef, undef, undef, undef, undef, undef, undef, undef, undef, undef, undef, undef, undef, undef, undef, undef, undef, undef, undef, undef, undef, undef, undef, undef, undef], []⟩
/-- What holds behind some of the ten operations that make the three arrays. -/
structure J22 (h : St) (s : ByteArray) (g : Nat) (W : World) (b0 b1 b2 b3 b4 b5 b6 b7 b8 b9 : Bool) (v5 v6 v7 v18 v19 v20 v21 : Value) (W' : World) : Prop where
  hb : Below (g + 2) W W'
  f0 : b0 = true → v18 = .string s
  f1 : b1 = true → v19 = .agg (us (spread s.toList))
  f2 : b2 = true → v20 = .agg (us keys)
  f3 : b3 = true → v21 = .agg (us h.l)
  f4 : b4 = true → Made (g + 2) 72 (if b7 = true then us (spread s.toList) else z64) v5 W'
  f5 : b5 = true → Made (g + 2) 72 (if b8 = true then us keys else z64) v6 W'
  f6 : b6 = true → Made (g + 2) 66 (if b9 = true then us h.l else z8) v7 W'
  ne : b4 = true → b5 = true → v5 ≠ v6
  o7 : b7 = true → b4 = true
  o8 : b8 = true → b5 = true
  o9 : b9 = true → b6 = true
theorem J22.later {h : St} {s : ByteArray} {g : Nat} {W : World} {b0 b1 b2 b3 b4 b5 b6 b7 b8 b9 : Bool} {v5 v6 v7 v18 v19 v20 v21 : Value} {W' W'' : World} (j : J22 h s g W b0 b1 b2 b3 b4 b5 b6 b7 b8 b9 v5 v6 v7 v18 v19 v20 v21 W')
    (hz : g + 2 ≤ W.heap.size) (hb : Below W'.heap.size W' W'') : J22 h s g W b0 b1 b2 b3 b4 b5 b6 b7 b8 b9 v5 v6 v7 v18 v19 v20 v21 W'' :=
  { j with hb := below_then j.hb (Nat.le_trans hz j.hb.size) hb, f4 := fun k => (j.f4 k).below hb, f5 := fun k => (j.f5 k).below hb, f6 := fun k => (j.f6 k).below hb }
theorem Made.open_ {B t : Nat} {cs : Array Value} {v : Value} {W : World} (h : Made B t cs v W) : ∃ p, v = .pointer (some ⟨p, 0, none⟩) ∧ B ≤ p ∧ W.heap[p]? = some (.cells cs t (0, 0)) := h
theorem Made.lt {B t : Nat} {cs : Array Value} {g : Nat} {W : World} (h : Made B t cs (.pointer (some ⟨g, 0, none⟩)) W) : g < W.heap.size := by
  obtain ⟨p, hv, _, hg⟩ := h
  simp at hv
  subst hv
  exact blk_lt hg
theorem Made.types {B B' t t' : Nat} {cs cs' : Array Value} {v : Value} {g : Nat} {W : World} (h : Made B t cs v W) (h' : Made B' t' cs' (.pointer (some ⟨g, 0, none⟩)) W) (hne : t ≠ t') : v ≠ .pointer (some ⟨g, 0, none⟩) := by
  obtain ⟨p, rfl, _, hg⟩ := h
  obtain ⟨p', hv', _, hg'⟩ := h'
  simp at hv'
  subst hv'
  intro e
  simp at e
  subst e
  rw [hg] at hg'
  simp at hg'
  exact hne hg'.2
theorem Made.putv {B t : Nat} {cs : Array Value} {v : Value} {W : World} {g : Nat} (h : Made B t cs v W) (hv : v = .pointer (some ⟨g, 0, none⟩)) (cs' : Array Value) : Made B t cs' v (W.setRow g cs') := by
  subst hv
  exact h.put cs'
theorem Made.typesv {B B' t t' : Nat} {cs cs' : Array Value} {v v' : Value} {g : Nat} {W : World} (h : Made B t cs v W) (h' : Made B' t' cs' v' W) (hv : v' = .pointer (some ⟨g, 0, none⟩)) (hne : t ≠ t') : v ≠ .pointer (some ⟨g, 0, none⟩) := by
  subst hv
  exact h.types h' hne
theorem arr10 (l : Array Bool) (h : l.size = 10) : ∃ b0 b1 b2 b3 b4 b5 b6 b7 b8 b9, l = #[b0, b1, b2, b3, b4, b5, b6, b7, b8, b9] := by
  refine ⟨l[0], l[1], l[2], l[3], l[4], l[5], l[6], l[7], l[8], l[9], ?_⟩
  apply Array.ext
  · simpa using h
  · intro i h1 h2
    rw [h] at h1
    match i, h1 with
    | 0, _ | 1, _ | 2, _ | 3, _ | 4, _ | 5, _ | 6, _ | 7, _ | 8, _ | 9, _ => rfl
theorem copy_run (w : World) (p : Nat) (x : St) (h : w.heap[p]? = some (.cells (us x.l) 66 (0, 0))) :
    (Builtin.copy_ #[76, 76] 3 #[.slice (some ⟨p, 1, none⟩) 7 7, .slice (some ⟨p, 0, none⟩) 7 8]).run Try.prog w = .ok (goInt 7) (w.setRow p (us (St.mk x.a x.a x.b x.c x.d x.e x.f x.g).l)) := by
  have hh := run_copy_row (P := Try.prog) w 76 76 3 62 p 1 7 7 ⟨p, 0, none⟩ 7 8 (us x.l) 66 [uv x.a, uv x.b, uv x.c, uv x.d, uv x.e, uv x.f, uv x.g] Try.underlying76 (by kernel_rfl) h rfl
    (fun j v hj => by
      have e : (⟨p, 0, none⟩ : Addr).add j = ⟨p, j, none⟩ := by unfold Addr.add; split <;> simp_all
      rw [e, blk_cell h j]
      match j, hj with
      | 0, hj | 1, hj | 2, hj | 3, hj | 4, hj | 5, hj | 6, hj => exact hj
      | j + 7, hj => simp at hj)
    (by simp [us_size, St.l]) (by intro v hv; simp at hv; rcases hv with rfl | rfl | rfl | rfl | rfl | rfl | rfl <;> rfl)
  exact hh
/-- The words x, of which the first j have those of h added. -/
def addL (a b : List UInt32) (j : Nat) : List UInt32 :=
  [if 0 < j then at_ a 0 + at_ b 0 else at_ a 0, if 1 < j then at_ a 1 + at_ b 1 else at_ a 1, if 2 < j then at_ a 2 + at_ b 2 else at_ a 2, if 3 < j then at_ a 3 + at_ b 3 else at_ a 3,
   if 4 < j then at_ a 4 + at_ b 4 else at_ a 4, if 5 < j then at_ a 5 + at_ b 5 else at_ a 5, if 6 < j then at_ a 6 + at_ b 6 else at_ a 6, if 7 < j then at_ a 7 + at_ b 7 else at_ a 7]
theorem addL_length (a b : List UInt32) (j : Nat) : (addL a b j).length = 8 := rfl
theorem addL_at (a b : List UInt32) (j : Nat) (h : j < 8) : at_ (addL a b j) j = at_ a j := by
  match j, h with
  | 0, _ | 1, _ | 2, _ | 3, _ | 4, _ | 5, _ | 6, _ | 7, _ => rfl
theorem addL_set (a b : List UInt32) (j : Nat) (h : j < 8) : (addL a b j).set j (at_ a j + at_ b j) = addL a b (j + 1) := by
  match j, h with
  | 0, _ | 1, _ | 2, _ | 3, _ | 4, _ | 5, _ | 6, _ | 7, _ => rfl
set_option maxHeartbeats 4000000 in
set_option maxRecDepth 100000 in
theorem mix_any (h : St) (s : ByteArray) (w : World) (hs : s.size = 64) : Calls Try.prog 43 #[.agg (us h.l), .string s] w fun e w' => e = .returned (.agg (us (mix h s.toList).l)) ∧ Below w.heap.size w w' := by
  have hq : ((s.size : Int) != 64) = false := by rw [hs]; rfl
  have HS := Lib.hid hs
  clear hs
  rw [us_st h]
  go_enter Try.func43, Try.ntmps43
  go_wp2_with fail
  rw [← us_st h]
  have hg0 : ((w.alloc (.cells (us h.l) 66)).alloc (.cells z8 66)).heap[w.heap.size]? = some (.cells (us h.l) 66 (0, 0)) := blk_alloc (heap_alloc_last w _) _
  have hg1 : ((w.alloc (.cells (us h.l) 66)).alloc (.cells z8 66)).heap[w.heap.size + 1]? = some (.cells z8 66 (0, 0)) := by
    have h := heap_alloc_last (w.alloc (.cells (us h.l) 66)) (.cells z8 66)
    rw [World.size_alloc] at h
    exact h
  have hB : Below w.heap.size w ((w.alloc (.cells (us h.l) 66)).alloc (.cells z8 66)) := ((Below.refl _ _).alloc (Nat.le_refl _) _).alloc (by simp) _
  have hz : ((w.alloc (.cells (us h.l) 66)).alloc (.cells z8 66)).heap.size = w.heap.size + 2 := by simp
  rw [show #[Value.int IntKind.u32 0, Value.int IntKind.u32 0, Value.int IntKind.u32 0, Value.int IntKind.u32 0, Value.int IntKind.u32 0, Value.int IntKind.u32 0, Value.int IntKind.u32 0, Value.int IntKind.u32 0] = z8 from rfl]
  generalize (w.alloc (.cells (us h.l) 66)).alloc (.cells z8 66) = W at hg0 hg1 hB hz ⊢
  generalize hG : w.heap.size = g at hg0 hg1 hB hz ⊢
  have HG := Lib.hid hG
  clear hG
  have S1 := spread_any s
  have HZ := HS.out
  refine wp_region_inv (fun l a W' => ∃ b0 b1 b2 b3 b4 b5 b6 b7 b8 b9 v5 v6 v7 v18 v19 v20 v21, l = #[b0, b1, b2, b3, b4, b5, b6, b7, b8, b9] ∧ a = fr22 h s g v5 v6 v7 v18 v19 v20 v21 ∧ J22 h s g W b0 b1 b2 b3 b4 b5 b6 b7 b8 b9 v5 v6 v7 v18 v19 v20 v21 W') (by kernel_rfl) ?_ (back_of (by kernel_rfl)) ?_ ?_ ?_
  · rintro l a W' ⟨b0, b1, b2, b3, b4, b5, b6, b7, b8, b9, _, _, _, _, _, _, _, rfl, _, _⟩
    rfl
  · rintro l a W' i o ⟨b0, b1, b2, b3, b4, b5, b6, b7, b8, b9, v5, v6, v7, v18, v19, v20, v21, rfl, rfl, j⟩ hl ho haf
    rcases cases10 (by rfl) ho with rfl | rfl | rfl | rfl | rfl | rfl | rfl | rfl | rfl | rfl
    · refine wpOp_step ho (fun K' hK' => ?_)
      obtain rfl := Option.some.inj ho
      refine value_ (v := .string s) (by rfl) rfl (by rfl) (hK' _ _ ⟨true, b1, b2, b3, b4, b5, b6, b7, b8, b9, v5, v6, v7, .string s, v19, v20, v21, rfl, rfl, { j with f0 := fun _ => rfl }⟩)
    · refine wpOp_step ho (fun K' hK' => ?_)
      obtain rfl := Option.some.inj ho
      have h0 : b0 = true := haf ⟨0, .data⟩ (by simp) rfl
      obtain rfl := j.f0 h0
      refine goes_ Try.func49 (by kernel_rfl) rfl #[.string s] (by rfl) rfl rfl (by simp only [List.map_toArray, List.map_cons, List.map_nil]; rfl) ?_
      refine (S1 W' HZ).mono ?_
      rintro e W'' ⟨rfl, hb⟩
      exact ⟨_, rfl, hK' _ _ ⟨b0, true, b2, b3, b4, b5, b6, b7, b8, b9, v5, v6, v7, .string s, .agg (us (spread s.toList)), v20, v21, rfl, rfl, { j.later (by omega) hb with f1 := fun _ => rfl }⟩⟩
    · refine wpOp_step ho (fun K' hK' => ?_)
      obtain rfl := Option.some.inj ho
      refine goes_ Try.func50 (by kernel_rfl) rfl #[] (by rfl) rfl rfl (by simp only [List.map_toArray, List.map_nil]) ?_
      refine (keys_any W').mono ?_
      rintro e W'' ⟨rfl, hb⟩
      exact ⟨_, rfl, hK' _ _ ⟨b0, b1, true, b3, b4, b5, b6, b7, b8, b9, v5, v6, v7, v18, v19, .agg (us keys), v21, rfl, rfl, { j.later (by omega) hb with f2 := fun _ => rfl }⟩⟩
    · refine wpOp_step ho (fun K' hK' => ?_)
      obtain rfl := Option.some.inj ho
      refine value_ (v := .agg (us h.l)) (by rfl) rfl (exec_load _ W' 66 _ rfl g rfl 66 (us h.l) (0, 0) _ ((j.hb.block g (by omega)).trans hg0) Try.underlying66 rfl (size33 _ rfl)) (hK' _ _ ⟨b0, b1, b2, true, b4, b5, b6, b7, b8, b9, v5, v6, v7, v18, v19, v20, .agg (us h.l), rfl, rfl, { j with f3 := fun _ => rfl }⟩)
    · refine wpOp_step ho (fun K' hK' => ?_)
      obtain rfl := Option.some.inj ho
      have h7 : b7 = false := by
        cases hb7 : b7 with
        | false => rfl
        | true => have h4 := j.o7 hb7; rw [h4] at hl; cases hl
      subst h7
      have j' := j.later (W'' := W'.alloc (.cells z64 72)) (by omega) (below_alloc (Below.refl _ _) _)
      refine value_ (by rfl) rfl (exec_alloc _ W' 72 z64 rfl zero78) (hK' _ _ ⟨b0, b1, b2, b3, true, b5, b6, false, b8, b9, _, v6, v7, v18, v19, v20, v21, rfl, rfl, { j' with f4 := fun _ => Made.new z64 W' (Nat.le_trans (by omega) j.hb.size), ne := fun _ h5 e => ?_, o7 := fun h => by cases h }⟩)
      have hm := j.f5 h5
      rw [← e] at hm
      exact absurd hm.lt (by omega)
    · refine wpOp_step ho (fun K' hK' => ?_)
      obtain rfl := Option.some.inj ho
      have h8 : b8 = false := by
        cases hb8 : b8 with
        | false => rfl
        | true => have h5 := j.o8 hb8; rw [h5] at hl; cases hl
      subst h8
      have j' := j.later (W'' := W'.alloc (.cells z64 72)) (by omega) (below_alloc (Below.refl _ _) _)
      refine value_ (by rfl) rfl (exec_alloc _ W' 72 z64 rfl zero78) (hK' _ _ ⟨b0, b1, b2, b3, b4, true, b6, b7, false, b9, v5, _, v7, v18, v19, v20, v21, rfl, rfl, { j' with f5 := fun _ => Made.new z64 W' (Nat.le_trans (by omega) j.hb.size), ne := fun h4 _ e => ?_, o8 := fun h => by cases h }⟩)
      have hm := j.f4 h4
      rw [e] at hm
      exact absurd hm.lt (by omega)
    · refine wpOp_step ho (fun K' hK' => ?_)
      obtain rfl := Option.some.inj ho
      have h9 : b9 = false := by
        cases hb9 : b9 with
        | false => rfl
        | true => have h6 := j.o9 hb9; rw [h6] at hl; cases hl
      subst h9
      have j' := j.later (W'' := W'.alloc (.cells z8 66)) (by omega) (below_alloc (Below.refl _ _) _)
      exact value_ (by rfl) rfl (exec_alloc _ W' 66 z8 rfl zero33) (hK' _ _ ⟨b0, b1, b2, b3, b4, b5, true, b7, b8, false, v5, v6, _, v18, v19, v20, v21, rfl, rfl, { j' with f6 := fun _ => Made.new z8 W' (Nat.le_trans (by omega) j.hb.size), o9 := fun h => by cases h }⟩)
    · refine wpOp_step ho (fun K' hK' => ?_)
      obtain rfl := Option.some.inj ho
      have h1 : b1 = true := haf ⟨1, .data⟩ (by simp) rfl
      have h4 : b4 = true := haf ⟨4, .data⟩ (by simp) rfl
      have h5 : b5 = true := haf ⟨5, .phase⟩ (by simp) rfl
      have h6 : b6 = true := haf ⟨6, .phase⟩ (by simp) rfl
      have h7 : b7 = false := hl
      subst h7
      have m4 := j.f4 h4
      rw [if_neg (by decide)] at m4
      obtain ⟨p, hv, hp, hg⟩ := m4.open_
      exact skip_ (by rfl) rfl (exec_store _ W' 72 (.tmp 5) (.tmp 19) rfl p (us (spread s.toList)) hv (j.f1 h1) 72 z64 hg (size78 _ (spread_length _)) (by rw [us_size, spread_length]; rfl) (us_one _)) (hK' _ _ ⟨b0, b1, b2, b3, b4, b5, b6, true, b8, b9, v5, v6, v7, v18, v19, v20, v21, rfl, rfl,
        { j with hb := below_setRow j.hb hp _, f4 := fun _ => m4.putv hv _, f5 := fun k => (j.f5 k).setRow p (fun e => j.ne h4 h5 (hv.trans e.symm)) _, f6 := fun k => (j.f6 k).setRow p ((j.f6 k).typesv m4 hv (by decide)) _, o7 := fun _ => h4 }⟩)
    · refine wpOp_step ho (fun K' hK' => ?_)
      obtain rfl := Option.some.inj ho
      have h2 : b2 = true := haf ⟨2, .data⟩ (by simp) rfl
      have h4 : b4 = true := haf ⟨4, .phase⟩ (by simp) rfl
      have h5 : b5 = true := haf ⟨5, .data⟩ (by simp) rfl
      have h6 : b6 = true := haf ⟨6, .phase⟩ (by simp) rfl
      have h8 : b8 = false := hl
      subst h8
      have m5 := j.f5 h5
      rw [if_neg (by decide)] at m5
      obtain ⟨p, hv, hp, hg⟩ := m5.open_
      exact skip_ (by rfl) rfl (exec_store _ W' 72 (.tmp 6) (.tmp 20) rfl p (us keys) hv (j.f2 h2) 72 z64 hg (size78 _ keys_length) (by rw [us_size, keys_length]; rfl) (us_one _)) (hK' _ _ ⟨b0, b1, b2, b3, b4, b5, b6, b7, true, b9, v5, v6, v7, v18, v19, v20, v21, rfl, rfl,
        { j with hb := below_setRow j.hb hp _, f4 := fun k => (j.f4 k).setRow p (fun e => j.ne h4 h5 (e.trans hv.symm)) _, f5 := fun _ => m5.putv hv _, f6 := fun k => (j.f6 k).setRow p ((j.f6 k).typesv m5 hv (by decide)) _, o8 := fun _ => h5 }⟩)
    · refine wpOp_step ho (fun K' hK' => ?_)
      obtain rfl := Option.some.inj ho
      have h3 : b3 = true := haf ⟨3, .data⟩ (by simp) rfl
      have h6 : b6 = true := haf ⟨6, .data⟩ (by simp) rfl
      have h9 : b9 = false := hl
      subst h9
      have m6 := j.f6 h6
      rw [if_neg (by decide)] at m6
      obtain ⟨p, hv, hp, hg⟩ := m6.open_
      exact skip_ (by rfl) rfl (exec_store _ W' 66 (.tmp 7) (.tmp 21) rfl p (us h.l) hv (j.f3 h3) 66 z8 hg (size33 _ rfl) (by rw [us_size]; rfl) (us_one _)) (hK' _ _ ⟨b0, b1, b2, b3, b4, b5, b6, b7, b8, true, v5, v6, v7, v18, v19, v20, v21, rfl, rfl,
        { j with hb := below_setRow j.hb hp _, f4 := fun k => (j.f4 k).setRow p ((j.f4 k).typesv m6 hv (by decide)) _, f5 := fun k => (j.f5 k).setRow p ((j.f5 k).typesv m6 hv (by decide)) _, f6 := fun _ => m6.putv hv _, o9 := fun _ => h6 }⟩)
  · exact ⟨false, false, false, false, false, false, false, false, false, false, undef, undef, undef, undef, undef, undef, undef, rfl, rfl,
      { hb := below_drew (Below.refl _ _), f0 := nofun, f1 := nofun, f2 := nofun, f3 := nofun, f4 := nofun, f5 := nofun, f6 := nofun, ne := nofun, o7 := nofun, o8 := nofun, o9 := nofun }⟩
  · rintro l a W' ⟨b0, b1, b2, b3, b4, b5, b6, b7, b8, b9, v5, v6, v7, v18, v19, v20, v21, rfl, rfl, j⟩ hall
    have a0 : b0 = true := hall 0 (by decide)
    have a1 : b1 = true := hall 1 (by decide)
    have a2 : b2 = true := hall 2 (by decide)
    have a3 : b3 = true := hall 3 (by decide)
    have a4 : b4 = true := hall 4 (by decide)
    have a5 : b5 = true := hall 5 (by decide)
    have a6 : b6 = true := hall 6 (by decide)
    have a7 : b7 = true := hall 7 (by decide)
    have a8 : b8 = true := hall 8 (by decide)
    have a9 : b9 = true := hall 9 (by decide)
    obtain ⟨p5, e5, q5, g5⟩ := (j.f4 a4).open_
    obtain ⟨p6, e6, q6, g6⟩ := (j.f5 a5).open_
    obtain ⟨p7, e7, q7, g7⟩ := (j.f6 a6).open_
    rw [if_pos a7] at g5
    rw [if_pos a8] at g6
    rw [if_pos a9] at g7
    rw [e5, e6, e7, j.f0 a0, j.f1 a1, j.f2 a2, j.f3 a3]
    have hb := j.hb
    have n57 := Lib.hid (blk_ne g5 g7 (by decide))
    have n67 := Lib.hid (blk_ne g6 g7 (by decide))
    have n07 : Hid (g ≠ p7) := Lib.hid (by omega)
    have n17 : Hid (g + 1 ≠ p7) := Lib.hid (by omega)
    have n7 : Hid (g ≤ p7) := Lib.hid (by omega)
    clear j hall HZ S1
    unfold fr22
    dsimp only
    have hl5 := spread_length s.toList
    have hg0' := (hb.block g (by omega)).trans hg0
    have hg1' := (hb.block (g + 1) (by omega)).trans hg1
    have hBw : Below g w W' := hB.trans (hb.mono (by omega))
    go_wp2_with fail
    go_loopw [22] (fun v wr => ∃ i : Nat, i ≤ 64 ∧ v = .int .i64 i ∧ wr.heap[p7]? = some (.cells (us (rnds (spread s.toList) h i).l) 66 (0, 0)) ∧ wr.heap[p5]? = some (.cells (us (spread s.toList)) 72 (0, 0)) ∧ wr.heap[p6]? = some (.cells (us keys) 72 (0, 0)) ∧ wr.heap[g]? = some (.cells (us h.l) 66 (0, 0)) ∧ wr.heap[g + 1]? = some (.cells z8 66 (0, 0)) ∧ Below g w wr) (fun v _ => (64 - intOf v).toNat)
    case atStart => exact ⟨0, by omega, rfl, g7, g5, g6, hg0', hg1', hBw⟩
    case round =>
      clear g5 g6 g7 hg0' hg1' hBw
      obtain ⟨i, hi, rfl, c7, c5, c6, c0, c1, hbr⟩ := hrel
      by_cases hlt : i < 64
      · have b0 : decide ((i : Int) < 64) = true := decide_eq_true (by omega)
        obtain ⟨x, hx⟩ : ∃ x, rnds (spread s.toList) h i = x := ⟨_, rfl⟩
        obtain ⟨kk, hkk⟩ : ∃ y, at_ keys i = y := ⟨_, rfl⟩
        obtain ⟨ww, hww⟩ : ∃ y, at_ (spread s.toList) i = y := ⟨_, rfl⟩
        have hnx : rnds (spread s.toList) h (i + 1) = rnd x kk ww := by rw [← hx, ← hkk, ← hww]; rfl
        rw [hx] at c7
        have d0 := us_cell c7 0 (by simp [St.l])
        have d1 := us_cell c7 1 (by simp [St.l])
        have d2 := us_cell c7 2 (by simp [St.l])
        have d4 := us_cell c7 4 (by simp [St.l])
        have d5 := us_cell c7 5 (by simp [St.l])
        have d6 := us_cell c7 6 (by simp [St.l])
        have d7 := us_cell c7 7 (by simp [St.l])
        have dw := us_cell c5 i (by rw [hl5]; exact hlt)
        have dk := us_cell c6 i (by rw [keys_length]; exact hlt)
        rw [hww] at dw
        rw [hkk] at dk
        have y5 := at78 p5 i (i : Int) rfl hlt
        have y6 := at78 p6 i (i : Int) rfl hlt
        have HX := Lib.hid hnx
        have C7 := Lib.hid c7
        have C5 := Lib.hid c5
        have C6 := Lib.hid c6
        have C0 := Lib.hid c0
        have C1 := Lib.hid c1
        have HB := Lib.hid hbr
        clear hnx c7 c5 c6 c0 c1 hbr hx hkk hww
        simp only [at_, St.l, List.getD_cons_zero, List.getD_cons_succ] at d0 d1 d2 d4 d5 d6 d7
        go_wp2
        go_quiet (fail)
        go_wp2
        clear d0
        have d1 : (wr.drewN nq).cell? _ = _ := d1
        have d2 : (wr.drewN nq).cell? _ = _ := d2
        have d4 : (wr.drewN nq).cell? _ = _ := d4
        have d5 : (wr.drewN nq).cell? _ = _ := d5
        have d6 : (wr.drewN nq).cell? _ = _ := d6
        have d7 : (wr.drewN nq).cell? _ = _ := d7
        have dw : (wr.drewN nq).cell? _ = _ := dw
        have dk : (wr.drewN nq).cell? _ = _ := dk
        have C7 : Hid ((wr.drewN nq).heap[p7]? = _) := C7
        have C5 : Hid ((wr.drewN nq).heap[p5]? = _) := C5
        have C6 : Hid ((wr.drewN nq).heap[p6]? = _) := C6
        have C0 : Hid ((wr.drewN nq).heap[g]? = _) := C0
        have C1 : Hid ((wr.drewN nq).heap[g + 1]? = _) := C1
        have HB : Hid (Below g w (wr.drewN nq)) := Lib.hid (pw_below_drewN HB.out _)
        generalize wr.drewN nq = w1 at d1 d2 d4 d5 d6 d7 dw dk C7 C5 C6 C0 C1 HB ⊢
        refine wp_region_still_lit (by kernel_rfl) (by kernel_rfl) ?_
        repeat still_step
        still_call (rot6 x.e _)
        repeat still_step
        still_call (rot11 x.e _)
        repeat still_step
        still_call (rot25 x.e _)
        repeat still_step
        refine wpStill_nil ?_
        rw [rT_int, u_not2]
        change Exit.then _ _ Exit.normal _ w1.drew
        have d1 : (w1.drew).cell? _ = _ := d1
        have d2 : (w1.drew).cell? _ = _ := d2
        have d4 : (w1.drew).cell? _ = _ := d4
        have C7 : Hid ((w1.drew).heap[p7]? = _) := C7
        have C5 : Hid ((w1.drew).heap[p5]? = _) := C5
        have C6 : Hid ((w1.drew).heap[p6]? = _) := C6
        have C0 : Hid ((w1.drew).heap[g]? = _) := C0
        have C1 : Hid ((w1.drew).heap[g + 1]? = _) := C1
        have HB : Hid (Below g w (w1.drew)) := Lib.hid (below_drew HB.out)
        generalize w1.drew = w2 at d1 d2 d4 C7 C5 C6 C0 C1 HB ⊢
        clear d5 d6 d7 dw dk y5 y6
        go_wp2
        refine wp_region_still_lit (by kernel_rfl) (by kernel_rfl) ?_
        repeat still_step
        still_call (rot2 x.a _)
        repeat still_step
        still_call (rot13 x.a _)
        repeat still_step
        still_call (rot22 x.a _)
        repeat still_step
        refine wpStill_nil ?_
        rw [rU_int]
        change Exit.then _ _ Exit.normal _ w2.drew
        have d4 : (w2.drew).cell? _ = _ := d4
        have C7 : Hid ((w2.drew).heap[p7]? = _) := C7
        have C5 : Hid ((w2.drew).heap[p5]? = _) := C5
        have C6 : Hid ((w2.drew).heap[p6]? = _) := C6
        have C0 : Hid ((w2.drew).heap[g]? = _) := C0
        have C1 : Hid ((w2.drew).heap[g + 1]? = _) := C1
        have HB : Hid (Below g w (w2.drew)) := Lib.hid (below_drew HB.out)
        generalize w2.drew = w3 at d4 C7 C5 C6 C0 C1 HB ⊢
        clear d1 d2
        go_wp2
        go_still_tail 2, (by kernel_rfl)
        change wpList _ _ _ _ _ w3.drew
        have C7 : Hid ((w3.drew).heap[p7]? = _) := C7
        have C5 : Hid ((w3.drew).heap[p5]? = _) := C5
        have C6 : Hid ((w3.drew).heap[p6]? = _) := C6
        have C0 : Hid ((w3.drew).heap[g]? = _) := C0
        have C1 : Hid ((w3.drew).heap[g + 1]? = _) := C1
        have HB : Hid (Below g w (w3.drew)) := Lib.hid (below_drew HB.out)
        clear d4
        generalize w3.drew = w4 at C7 C5 C6 C0 C1 HB ⊢
        have hcopy := copy_run w4 p7 x C7.out
        refine wpList_plain rfl (fun K' hK' => ?_)
        go_simp
        refine hK' _ _ ?_
        clear hK' K'
        apply wpList_nil
        have C7 : Hid ((w4.setRow p7 (us (St.mk x.a x.a x.b x.c x.d x.e x.f x.g).l)).heap[p7]? = _) := Lib.hid (setRow_heap w4 p7 _ _ _ _ C7.out)
        have C5 : Hid ((w4.setRow p7 (us (St.mk x.a x.a x.b x.c x.d x.e x.f x.g).l)).heap[p5]? = _) := Lib.hid (blk_setRow C5.out n57.out _)
        have C6 : Hid ((w4.setRow p7 (us (St.mk x.a x.a x.b x.c x.d x.e x.f x.g).l)).heap[p6]? = _) := Lib.hid (blk_setRow C6.out n67.out _)
        have C0 : Hid ((w4.setRow p7 (us (St.mk x.a x.a x.b x.c x.d x.e x.f x.g).l)).heap[g]? = _) := Lib.hid (blk_setRow C0.out n07.out _)
        have C1 : Hid ((w4.setRow p7 (us (St.mk x.a x.a x.b x.c x.d x.e x.f x.g).l)).heap[g + 1]? = _) := Lib.hid (blk_setRow C1.out n17.out _)
        have HB : Hid (Below g w (w4.setRow p7 (us (St.mk x.a x.a x.b x.c x.d x.e x.f x.g).l))) := Lib.hid (below_setRow HB.out n7.out _)
        clear hcopy
        generalize w4.setRow p7 (us (St.mk x.a x.a x.b x.c x.d x.e x.f x.g).l) = w5 at C7 C5 C6 C0 C1 HB ⊢
        have d4 := us_cell C7.out 4 (by simp [St.l])
        have d0 := us_cell C7.out 0 (by simp [St.l])
        have f4 := blk_frozen C7.out 4
        have f0 := blk_frozen C7.out 0
        simp only [at_, St.l, List.getD_cons_zero, List.getD_cons_succ] at d0 d4
        go_wp2
        go_roundw
        case rel =>
          rw [u_add', u_add']
          refine ⟨i + 1, by omega, by go_num, ?_, blk_far (blk_far C5.out n57.out _) n57.out _, blk_far (blk_far C6.out n67.out _) n67.out _, blk_far (blk_far C0.out n07.out _) n07.out _, blk_far (blk_far C1.out n17.out _) n17.out _, (HB.out.setCell n7.out _).setCell n7.out _⟩
          rw [HX.out]
          exact us_put (us_put C7.out 4 (x.d + rT x kk ww)) 0 (rT x kk ww + rU x)
        case measure => simp [intOf]; omega
      · obtain rfl : i = 64 := by omega
        have b0 : decide ((64 : Int) < 64) = false := by decide
        rw [show ((64 : Nat) : Int) = (64 : Int) from rfl]
        obtain ⟨x, hx⟩ : ∃ x, rnds (spread s.toList) h 64 = x := ⟨_, rfl⟩
        rw [hx] at c7
        have HM : Hid (mix h s.toList = addSt x h) := Lib.hid (by rw [← hx]; rfl)
        have C7 := Lib.hid c7
        have C0 := Lib.hid c0
        have C1 := Lib.hid c1
        have HB := Lib.hid hbr
        clear c7 c5 c6 c0 c1 hbr hx hlt hi
        go_wp2
        go_loopw [96] (fun v wr => ∃ j : Nat, j ≤ 8 ∧ v = .int .i64 j ∧ wr.heap[p7]? = some (.cells (us (addL x.l h.l j)) 66 (0, 0)) ∧ wr.heap[g]? = some (.cells (us h.l) 66 (0, 0)) ∧ wr.heap[g + 1]? = some (.cells z8 66 (0, 0)) ∧ Below g w wr) (fun v _ => (8 - intOf v).toNat)
        case atStart => exact ⟨0, by omega, rfl, C7.out, C0.out, C1.out, HB.out⟩
        case round =>
          clear C7 C0 C1 HB
          obtain ⟨j, hj, rfl, c7, c0, c1, hbr⟩ := hrel
          by_cases hlt : j < 8
          · have b1 : decide ((j : Int) < 8) = true := decide_eq_true (by omega)
            have dx := us_cell c7 j (by rw [addL_length]; exact hlt)
            have dh := us_cell c0 j hlt
            have fx := blk_frozen c7 j
            have yx := at33 p7 j (j : Int) rfl hlt
            have yh := at33 g j (j : Int) rfl hlt
            rw [addL_at _ _ _ hlt] at dx
            obtain ⟨a1, ha1⟩ : ∃ y, at_ x.l j = y := ⟨_, rfl⟩
            obtain ⟨a2, ha2⟩ : ∃ y, at_ h.l j = y := ⟨_, rfl⟩
            rw [ha1] at dx
            rw [ha2] at dh
            have HS2 : Hid ((addL x.l h.l j).set j (a1 + a2) = addL x.l h.l (j + 1)) := Lib.hid (by rw [← ha1, ← ha2]; exact addL_set _ _ _ hlt)
            have C7 := Lib.hid c7
            have C0 := Lib.hid c0
            have C1 := Lib.hid c1
            have HB := Lib.hid hbr
            clear c7 c0 c1 hbr ha1 ha2
            go_wp2
            go_still_tail 8, (by kernel_rfl)
            change wpList _ _ _ _ _ wr.drew
            have C7 : Hid ((wr.drew).heap[p7]? = _) := C7
            have C0 : Hid ((wr.drew).heap[g]? = _) := C0
            have C1 : Hid ((wr.drew).heap[g + 1]? = _) := C1
            have HB : Hid (Below g w (wr.drew)) := Lib.hid (below_drew HB.out)
            have dx : (wr.drew).cell? _ = _ := dx
            have fx : (wr.drew).frozen? _ = _ := fx
            clear dh
            generalize wr.drew = w2 at C7 C0 C1 HB dx fx ⊢
            go_wp2
            go_roundw
            case rel =>
              first | rw [u_add'] | rw [u_add]
              refine ⟨j + 1, by omega, by go_num, ?_, blk_far C0.out n07.out _, blk_far C1.out n17.out _, HB.out.setCell n7.out _⟩
              have hp := us_put C7.out j (a1 + a2)
              rw [HS2.out] at hp
              exact hp
            case measure => simp [intOf]; omega
          · obtain rfl : j = 8 := by omega
            have b1 : decide ((8 : Int) < 8) = false := by decide
            rw [show ((8 : Nat) : Int) = (8 : Int) from rfl]
            have e8 : addL x.l h.l 8 = (addSt x h).l := rfl
            rw [e8] at c7
            have C7 := Lib.hid c7
            have C1 := Lib.hid c1
            have HB := Lib.hid hbr
            clear c7 c0 c1 hbr hlt hj e8
            go_wp2_with (first | (refine wpList_load_row rfl 66 _ rfl p7 rfl 66 (us (addSt x h).l) (0, 0) _ C7.out Try.underlying66 rfl (size33 _ rfl) ?_) | (refine wpList_store_row rfl 66 _ _ rfl (g + 1) (us (addSt x h).l) rfl rfl 66 z8 C1.out (size33 _ rfl) rfl (us_one _) ?_))
            refine bodyPost_ret (results_cell_row rfl _ _ (g + 1) 66 (us (addSt x h).l) (0, 0) _ rfl (setRow_heap wr (g + 1) z8 _ 66 _ C1.out) Try.underlying66 rfl (size33 _ rfl)) rfl ⟨by rw [HM.out], ?_⟩
            rw [HG.out]
            exact below_setRow HB.out (by omega) _
end Go.Proofs.Ytnipbdlljfifhaa.H
