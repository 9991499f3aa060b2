/- What the walk needs of arrays of words: cells out of lists of words, whole arrays made, loaded and stored, and a region that draws its order, by what holds behind each operation. -/
import Derived.Test.YtnipbdlljfifhaaProg
import Derived.Test.YtnipbdlljfifhaaSha
import Derived.Test.YtnipbdlljfifhaaWWords
import Derived.Test.YtnipbdlljfifhaaWLast
import Derived.WalkKit
import Derived.KernelRfl
import Derived.Deep.WholeRow
import Derived.Laws.Rows
import Derived.Laws.Tables
import Derived.Deep.QuietTactic
import Derived.BigQuiet
set_option linter.unusedVariables false
set_option linter.unusedSimpArgs false
namespace Go.Proofs.Ytnipbdlljfifhaa.H
open Go.RowKit Go.Proofs.Ytnipbdlljfifhaa.Sha Go.Proofs.YtnipbdlljfifhaaW.PrintWords Go.Proofs.YtnipbdlljfifhaaW.PrintLast

/-- A word as a value; words as cells. -/
def uv (x : UInt32) : Value := .int .u32 (x.toNat : Int)
def us (l : List UInt32) : Array Value := (l.map uv).toArray
theorem us_size (l : List UInt32) : (us l).size = l.length := by simp [us]
theorem us_get (l : List UInt32) (i : Nat) (h : i < l.length) : (us l)[i]? = some (.int .u32 ((at_ l i).toNat : Int)) := by
  simp [us, at_, h, List.getD_eq_getElem?_getD, uv]
theorem us_set (l : List UInt32) (i : Nat) (x : UInt32) : (us l).setIfInBounds i (.int .u32 (x.toNat : Int)) = us (l.set i x) := by
  simp [us, List.map_set, uv]
theorem us_one (l : List UInt32) : (us l).all (·.oneCell') = true := by
  rw [Array.all_eq_true_iff_forall_mem]
  intro v hv
  simp [us] at hv
  obtain ⟨x, _, rfl⟩ := hv
  rfl
theorem us_st (x : St) : us x.l = #[.int .u32 x.a.toNat, .int .u32 x.b.toNat, .int .u32 x.c.toNat, .int .u32 x.d.toNat, .int .u32 x.e.toNat, .int .u32 x.f.toNat, .int .u32 x.g.toNat, .int .u32 x.h.toNat] := rfl

section
variable {P : Program}
theorem run_alloc_arr (w : World) (ty : TypeId) (Z : Array Value) (hz : (P.info? ty).map (·.zero) = some (some (.agg Z))) (old : Value) :
    (Instr.alloc ty true old).run P w = .ok (.pointer (some ⟨w.heap.size, 0, none⟩)) (w.alloc (.cells Z ty)) := by
  cases hq : P.info? ty with
  | none => simp [hq] at hz
  | some i =>
    simp [hq] at hz
    have hzero : (zeroValue ty).run P w = .ok (.agg Z) w := by simp [zeroValue, typeInfo, hq, hz]
    simp [Instr.alloc, hzero, newVar, newRow, Value.cells]
theorem exec_alloc {oi : Oper} (ev : Operand → Value) (w : World) (ty : TypeId) (Z : Array Value) (ho : oi.op = .alloc ty) (hz : (P.info? ty).map (·.zero) = some (some (.agg Z))) :
    (execOp ev oi).run P w = .ok (.value (.pointer (some ⟨w.heap.size, 0, none⟩))) (w.alloc (.cells Z ty)) := by
  unfold execOp
  simp only [ho, Sem.run_bind, run_alloc_arr w ty Z hz, Result.andThen_ok, Sem.run_pure]
theorem exec_load {oi : Oper} (ev : Operand → Value) (w : World) (ty : TypeId) (x : Operand) (ho : oi.op = .load ty x) (g : Nat) (hx : ev x = .pointer (some ⟨g, 0, none⟩)) (t : TypeId) (cs : Array Value) (fr : Nat × Nat) (d : TypeDesc)
    (hg : w.heap[g]? = some (.cells cs t fr)) (hu : P.underlying ty = some d) (hd : (match d with | .struct _ | .array _ _ => true | _ => false) = true) (hi : (P.info? ty).map (·.size) = some cs.size) :
    (execOp ev oi).run P w = .ok (.value (.agg cs)) w := by
  unfold execOp
  simp only [ho, hx, Instr.loadAt, Instr.sureAddr, Sem.run_bind, Sem.run_pure, Result.andThen_ok, run_loadVar_row w g t ty cs fr d hg hu hd hi]
theorem exec_store {oi : Oper} (ev : Operand → Value) (w : World) (ty : TypeId) (x y : Operand) (ho : oi.op = .store ty x y) (g : Nat) (cells : Array Value) (hx : ev x = .pointer (some ⟨g, 0, none⟩)) (hy : ev y = .agg cells)
    (t : TypeId) (old : Array Value) (hg : w.heap[g]? = some (.cells old t (0, 0))) (hi : (P.info? ty).map (·.size) = some cells.size) (hold : old.size = cells.size) (h1 : cells.all (·.oneCell') = true) :
    (execOp ev oi).run P w = .ok .skip (w.setRow g cells) := by
  unfold execOp
  simp only [ho, hx, hy, Instr.storeAt, Instr.sureAddr, Sem.run_bind, Sem.run_pure, Result.andThen_ok, run_storeVar_row w g t ty old cells hg hi hold h1]

/-- The arm of an allocation of an array in a plain list of operations. -/
theorem wpList_alloc_arr {ops : Array Oper} {rest : List Oper} {o : Oper} {a : Act} {w : World} {Q : Exit → Act → World → Prop} (hgd : o.guard = none) (ty : TypeId) (ho : o.op = .alloc ty) (Z : Array Value)
    (hz : (P.info? ty).map (·.zero) = some (some (.agg Z))) (h : wpList P ops Q rest (a.put o.dst (.pointer (some ⟨w.heap.size, 0, none⟩))) (w.alloc (.cells Z ty))) : wpList P ops Q (o :: rest) a w :=
  wpList_plain hgd fun K hK => by
    unfold Oper.wp
    rw [exec_alloc a.eval w ty Z ho hz]
    exact hK _ _ h

/-! A region that draws its order, by what holds behind each set of operations. -/
def countF (l : Array Bool) : Nat := (l.toList.filter fun b => !b).length
theorem countF_set (l : Array Bool) (i : Nat) (h : l.getD i true = false) : countF (l.setIfInBounds i true) + 1 = countF l := by
  have hi : i < l.size := by
    by_cases h' : i < l.size
    · exact h'
    · simp [Array.getElem?_eq_none (by omega : l.size ≤ i)] at h
  have hv : l.toList[i]'(by simpa using hi) = false := by simpa [hi] using h
  have key : ∀ (m : List Bool) (j : Nat) (hj : j < m.length), m[j] = false → ((m.set j true).filter fun b => !b).length + 1 = (m.filter fun b => !b).length := by
    intro m
    induction m with
    | nil => intro j hj; simp at hj
    | cons b m ih =>
      intro j hj hb
      cases j with
      | zero => simp only [List.getElem_cons_zero] at hb; subst hb; simp
      | succ j =>
        simp only [List.getElem_cons_succ] at hb
        have := ih j (by simpa using hj) hb
        cases b <;> simp [List.filter_cons] <;> omega
  have := key l.toList i (by simpa using hi) hv
  unfold countF
  simpa using this
theorem getD_set_b (l : Array Bool) (i j : Nat) (d : Bool) (h : (l.setIfInBounds i true).getD j d = true) (hl : i < l.size) : l.getD j d = true ∨ j = i := by
  by_cases hij : j = i
  · exact .inr hij
  · refine .inl ?_
    simpa [Array.getElem?_setIfInBounds_ne (Ne.symm hij)] using h

theorem wpAny_inv {ops : Array Oper} {Q : Exit → Act → World → Prop} {md : Region.Mode} (I : Array Bool → Act → World → Prop) (hsize : ∀ l a w, I l a w → l.size = ops.size)
    (hback : ∀ i o, ops[i]? = some o → ∀ e ∈ o.after, Region.binds md e = true → e.on < i)
    (hstep : ∀ l a w i o, I l a w → l.getD i true = false → ops[i]? = some o → (∀ e ∈ o.after, Region.binds md e = true → l.getD e.on false = true) → wpOp P ops Q i (fun a' w' => I (l.setIfInBounds i true) a' w') a w)
    (hend : ∀ l a w, I l a w → (∀ i, i < ops.size → l.getD i true = true) → Q .normal a w) :
    ∀ fuel l a w, I l a w → countF l ≤ fuel → wpAny P md ops Q fuel l a w := by
  have all : ∀ l : Array Bool, l.size = ops.size → Region.ready md ops l = [] → ∀ i, i < ops.size → l.getD i true = true := by
    intro l hl hr i
    induction i using Nat.strongRecOn with
    | _ i ih =>
      intro hi
      cases hb : l.getD i true with
      | true => rfl
      | false =>
        obtain ⟨o, ho⟩ : ∃ o, ops[i]? = some o := ⟨ops[i], by simp [hi]⟩
        have : i ∈ Region.ready md ops l := mem_ready.2 ⟨hb, o, ho, fun e he hbd => by
          have hlt := hback i o ho e he hbd
          have := ih e.on hlt (by omega)
          have hes : e.on < l.size := by omega
          simpa [hes] using this⟩
        rw [hr] at this
        cases this
  intro fuel
  induction fuel with
  | zero =>
    intro l a w hI hc
    have hsz := hsize l a w hI
    have hr : Region.ready md ops l = [] := by
      apply List.eq_nil_iff_forall_not_mem.2
      intro i hi
      have := countF_set l i (mem_ready.1 hi).1
      omega
    exact ⟨hr, hend l a w hI (all l hsz hr)⟩
  | succ fuel ih =>
    intro l a w hI hc
    have hsz := hsize l a w hI
    refine ⟨fun hr => hend l a w hI (all l hsz hr), fun i hi => ?_⟩
    obtain ⟨hf, o, ho, haf⟩ := mem_ready.1 hi
    have hcf := countF_set l i hf
    exact wpOp_mono (fun a' w' h' => ih _ a' w' h' (by omega)) (hstep l a w i o hI hf ho haf)

theorem wp_region_inv {ops : Array Oper} {Q : Exit → Act → World → Prop} {id : Nat} {a : Act} {w : World} (I : Array Bool → Act → World → Prop) (hm : P.follows .mixedOrders = true) (hsize : ∀ l a w, I l a w → l.size = ops.size)
    (hback : ∀ i o, ops[i]? = some o → ∀ e ∈ o.after, Region.binds .any e = true → e.on < i)
    (hstep : ∀ l a w i o, I l a w → l.getD i true = false → ops[i]? = some o → (∀ e ∈ o.after, Region.binds .any e = true → l.getD e.on false = true) → wpOp P ops Q i (fun a' w' => I (l.setIfInBounds i true) a' w') a w)
    (h0 : I (Array.replicate ops.size false) a w.drew) (hend : ∀ l a w, I l a w → (∀ i, i < ops.size → l.getD i true = true) → Q .normal a w) : (Code.region id ops true).wp P Q a w := by
  refine wp_region_any hm (wpAny_inv I hsize hback hstep hend ops.size _ _ _ h0 ?_)
  simp [countF]
end
end Go.Proofs.Ytnipbdlljfifhaa.H
