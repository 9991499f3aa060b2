/- HashMixes: the row: eight words that come in, laid open and shut. -/
import Derived.Test.YtfnijaiaodplgaaRows
import Derived.Test.YtfnijaiaodplgaaHm
import Derived.WalkKit
import Derived.ProofKit
import Derived.OpenShut
import Derived.ShutString
import Derived.ChangeOld
import Derived.Below
import Derived.SizedLaws
set_option linter.unusedVariables false
set_option linter.unusedSimpArgs false
namespace Go.Proofs.Ytfnijaiaodplgaa.H
open Go.ChangeShapes Go.WideShapes Go.ChangeAt Go.RowKit Go.Proofs.Ytfnijaiaodplgaa.Sha
theorem cells31 : Try.prog.cellsOf 31 = 1 := by kernel_rfl
theorem cells33 : Try.prog.cellsOf 33 = 8 := by kernel_rfl
section
variable {H : Type} {enc : TypeId × Value → H} {W : World} {base : Nat} {sp : Nat → Bool} {held : Bool}
theorem words_of {m : Nat} (xs : List Value) : ∀ (L : List Nat) ys, L.mapM (fun i => DataW.trod enc Try.prog W base sp held m 31 ((xs.drop (i * 1)).take 1)) = some ys →
    ∃ zs : List UInt32, ys = zs.map (fun a => (DataW.lit (.int .u32 (a.toNat : Int)), ([] : List MemPlace))) ∧ L.map (fun i => (xs.drop (i * 1)).take 1) = zs.map (fun a => [uv a]) := by
  intro L
  induction L with
  | nil => intro ys h; simp at h; subst h; exact ⟨[], rfl, rfl⟩
  | cons i L ih =>
    intro ys h
    rw [List.mapM_cons] at h
    simp only [bind, Option.bind_eq_some_iff, pure, Option.some.injEq] at h
    obtain ⟨y, hy, ys', hys, rfl⟩ := h
    obtain ⟨zs, rfl, hl⟩ := ih ys' hys
    obtain ⟨a, ea, rfl, wa⟩ := DataW.trod_int Try.underlying31 hy
    have hw : 0 ≤ a ∧ a < 4294967296 := by
      simp [Lit.wf, IntKind.min, IntKind.max, IntKind.bits, IntKind.signed] at wa
      omega
    have e : a = ((UInt32.ofNat a.toNat).toNat : Int) := by rw [UInt32.toNat_ofNat']; omega
    refine ⟨UInt32.ofNat a.toNat :: zs, ?_, ?_⟩
    · rw [List.map_cons, ← e]
    · rw [List.map_cons, List.map_cons, hl, ea]
      unfold uv
      rw [← e]
theorem open_words {r : Reach} {b0 : Nat} {v : Value} {d : DataW H} {ps : List MemPlace} (hval : Value.okWide Try.prog W r b0 33 v) (hd : DataW.Trod enc Try.prog W base sp held 33 v d ps) :
    ∃ h : St, v = .agg (us h.l) ∧ d = .agg (h.l.map fun a => DataW.lit (.int .u32 (a.toNat : Int))) ∧ ps = [] := by
  simp only [Value.okWide, Try.underlying33] at hval
  obtain ⟨cs, rfl, hn, _⟩ := hval
  obtain ⟨fuel, hf⟩ := hd
  cases fuel with
  | zero => simp [DataW.trod] at hf
  | succ m =>
    rw [DataW.trod_step] at hf
    unfold DataW.trodStep at hf
    simp only [Try.underlying33, Value.cells, cells31, cells33] at hf
    obtain ⟨xs, rfl⟩ : ∃ xs : List Value, cs = xs.toArray := ⟨cs.toList, rfl⟩
    by_cases hl : xs.length = 8
    · rw [if_pos (by simpa using hl)] at hf
      simp only [Option.map_eq_some_iff] at hf
      obtain ⟨ys, hy, e1⟩ := hf
      obtain ⟨zs, rfl, hm⟩ := words_of xs _ ys hy
      match xs, hl with
      | [x0, x1, x2, x3, x4, x5, x6, x7], _ =>
        have hm' : [[x0], [x1], [x2], [x3], [x4], [x5], [x6], [x7]] = zs.map (fun a => [uv a]) := hm
        match zs, hm' with
        | [a0, a1, a2, a3, a4, a5, a6, a7], hm' =>
          simp only [List.map_cons, List.map_nil, List.cons.injEq, and_true] at hm'
          obtain ⟨rfl, rfl, rfl, rfl, rfl, rfl, rfl, rfl⟩ := hm'
          simp only [Prod.mk.injEq] at e1
          exact ⟨⟨a0, a1, a2, a3, a4, a5, a6, a7⟩, rfl, e1.1.symm, e1.2.symm⟩
    · rw [if_neg (by simpa using hl)] at hf
      cases hf
theorem shut_words (h : St) : DataW.Trod enc Try.prog W base sp held 33 (.agg (us h.l)) (.agg (h.l.map fun a => DataW.lit (.int .u32 (a.toNat : Int)))) [] := by
  refine ⟨2, ?_⟩
  have w : ∀ a : UInt32, (Lit.int .u32 (a.toNat : Int)).wf = true := fun a => by
    have := a.toNat_lt
    simp [Lit.wf, IntKind.min, IntKind.max, IntKind.bits, IntKind.signed]
    omega
  have one : ∀ a : UInt32, DataW.trod enc Try.prog W base sp held 1 31 [.int .u32 (a.toNat : Int)] = some (.lit (.int .u32 (a.toNat : Int)), []) := fun a => by
    rw [DataW.trod_step]
    unfold DataW.trodStep
    simp only [Try.underlying31]
    simp [w a]
  rw [DataW.trod_step]
  unfold DataW.trodStep
  simp only [Try.underlying33, Value.cells, cells31, cells33]
  rw [us_st]
  simp [List.range_succ, List.mapM_cons, one, St.l]
end
end Go.Proofs.Ytfnijaiaodplgaa.H
