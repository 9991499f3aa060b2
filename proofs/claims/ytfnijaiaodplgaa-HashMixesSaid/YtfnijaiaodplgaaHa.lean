import Derived.Test.YtfnijaiaodplgaaHw
import Derived.Outline
set_option linter.unusedVariables false
set_option linter.unusedSimpArgs false
namespace Go.Proofs.Ytfnijaiaodplgaa.H
open Go.RowKit Go.Proofs.Ytfnijaiaodplgaa.Sha Go.Proofs.YtfnijaiaodplgaaW.PrintWords Go.Proofs.YtfnijaiaodplgaaW.PrintLast

def z64 : Array Value := us (List.replicate 64 0)
def z8 : Array Value := us (List.replicate 8 0)
theorem zero78 : (Try.prog.info? 78).map (·.zero) = some (some (.agg z64)) := by kernel_rfl
theorem zero33 : (Try.prog.info? 33).map (·.zero) = some (some (.agg z8)) := by kernel_rfl
theorem size78 (l : List UInt32) (h : l.length = 64) : (Try.prog.info? 78).map (·.size) = some (us l).size := by
  rw [us_size, h]; kernel_rfl
theorem size33 (l : List UInt32) (h : l.length = 8) : (Try.prog.info? 33).map (·.size) = some (us l).size := by
  rw [us_size, h]; kernel_rfl

/-- hash.Start: the words ahead of all bytes. -/
theorem start_any (w : World) : Calls Try.prog 20 #[] w fun e w' => e = .returned (.agg (us Sha.start.l)) ∧ Below w.heap.size w w' := by
  go_enter Try.func20, Try.ntmps20
  go_wp2
  refine bodyPost_ret (results_cell_row rfl _ _ w.heap.size 33 _ (0, 0) _ rfl (heap_alloc_last w _) Try.underlying33 rfl (by kernel_rfl)) rfl ⟨?_, (Below.refl _ _).alloc (Nat.le_refl _) _⟩
  rfl

set_option maxHeartbeats 1000000 in
set_option maxRecDepth 100000 in
theorem keys_any (w : World) : Calls Try.prog 57 #[] w fun e w' => e = .returned (.agg (us keys)) ∧ Below w.heap.size w w' := by
  go_enter Try.func57, Try.ntmps57
  apply wp_seq_k
  intro K1 hK1
  apply wp_region_lit
  refine wpList_alloc_arr rfl 78 rfl z64 zero78 ?_
  apply wpList_nil
  refine hK1 _ _ ?_
  apply wp_seq_k
  intro K2 hK2
  apply wp_region_lit
  refine wpList_build rfl 78 _ rfl (by kernel_rfl) ?_
  refine wpList_store_row rfl 78 _ _ rfl w.heap.size (us keys) rfl (by kernel_rfl) 78 z64 (heap_alloc_last w _) (size78 _ rfl) (by rw [us_size]; kernel_rfl) (us_one _) ?_
  rw [World.setRow_alloc_new]
  apply wpList_nil
  refine hK2 _ _ ?_
  apply wp_ret
  exact bodyPost_ret (results_cell_row rfl _ _ w.heap.size 78 (us keys) (0, 0) _ rfl (heap_alloc_last w _) Try.underlying78 rfl (size78 _ rfl)) rfl ⟨rfl, (Below.refl _ _).alloc (Nat.le_refl _) _⟩
end Go.Proofs.Ytfnijaiaodplgaa.H
