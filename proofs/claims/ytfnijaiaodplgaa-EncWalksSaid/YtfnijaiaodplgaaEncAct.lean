/- EncWalks: a slice of acts that comes in, laid open. -/
import Derived.Test.YtfnijaiaodplgaaPureEncWalks
import Derived.Deep.SlicePairs
import Derived.ProofKit
set_option linter.unusedVariables false
set_option linter.unusedSimpArgs false
namespace Go.Proofs.Ytfnijaiaodplgaa.EncAct
open Go.ChangeShapes Go.WideShapes Go.ChangeAt Go.RowKit Go.Proofs.Ytfnijaiaodplgaa.PEnc Go.Proofs.YtfnijaiaodplgaaW.PrintWords
theorem open_acts {H : Type} {enc : TypeId × Value → H} {W : World} {base : Nat} {sp : Nat → Bool} {held : Bool} {fuel : Nat} {a : Option Addr} {len cap : Nat} {x : DataW H × List MemPlace}
    (h : DataW.trod enc Try.prog W base sp held fuel 58 [.slice a len cap] = some x) :
    ∃ l : List S60, l.length = len ∧ len ≤ cap ∧ Kd.C k60 W a l.length l ∧ ∀ y ∈ l, y.f1 < 9223372036854775808 := by
  rcases Go.Deep.open_slice_pairs Try.underlying58 Try.underlying60 (by kernel_rfl) rfl rfl (by kernel_rfl) (by kernel_rfl) h with ⟨hcs, _⟩ | ⟨b, l, c, m, n, V0, V1, D0, D1, P0, P1, hcs, hb, hl, hm, hmm, hx, hi⟩
  · simp at hcs
    obtain ⟨rfl, rfl, rfl⟩ := hcs
    exact ⟨[], rfl, Nat.le_refl _, ⟨rfl, by simp, fun h => absurd h (by simp)⟩, fun y hy => by cases hy⟩
  · simp at hcs
    obtain ⟨rfl, rfl, rfl⟩ := hcs
    have hlm : len ≤ m := by rw [hmm]; split <;> omega
    have each : ∀ i, i < len → W.cell? (b.add (i * 2)) = some (.int .i64 (intOf (V0 i))) ∧ W.cell? (b.add (i * 2 + 1)) = some (.int .i64 (intOf (V1 i))) ∧ intOf (V1 i) < 9223372036854775808 := by
      intro i h
      obtain ⟨c0, c1, t0, t1⟩ := hi i (by omega)
      obtain ⟨n0, e0, _, w0⟩ := DataW.trod_int Try.underlying3 t0
      obtain ⟨n1, e1, _, w1⟩ := DataW.trod_int Try.underlying3 t1
      simp at e0 e1
      rw [e0] at c0
      rw [e1] at c1
      rw [e0, e1]
      refine ⟨c0, c1, ?_⟩
      simp [Lit.wf, IntKind.min, IntKind.max, IntKind.bits, IntKind.signed] at w1
      show n1 < _
      omega
    refine ⟨(List.range len).map fun i => ⟨intOf (V0 i), intOf (V1 i)⟩, by simp, hl, ⟨rfl, ?_, fun _ => ⟨b, rfl, fun j p hp => ?_⟩⟩, ?_⟩
    · simp
      have : maxLen ≤ 9223372036854775807 := by decide
      omega
    · have hj : j < len := by
        have := (List.getElem?_eq_some_iff.1 hp).1
        simpa using this
      have ep : p = ⟨intOf (V0 j), intOf (V1 j)⟩ := by
        rw [List.getElem?_map, List.getElem?_range hj] at hp
        exact (Option.some.inj hp).symm
      subst ep
      obtain ⟨c0, c1, _⟩ := each j hj
      refine ⟨[.int .i64 (intOf (V0 j)), .int .i64 (intOf (V1 j))], rfl, k60_mk W _, fun i u hu => ?_⟩
      match i, hu with
      | 0, hu => simp at hu; subst hu; exact c0
      | 1, hu => simp at hu; subst hu; exact c1
    · intro y hy
      obtain ⟨i, hi', rfl⟩ := List.mem_map.1 hy
      exact (each i (List.mem_range.1 hi')).2.2
end Go.Proofs.Ytfnijaiaodplgaa.EncAct
