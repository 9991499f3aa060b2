/- HashStarts: the walk of the law itself. -/
import Derived.Test.YtfnijaiaodplgaaHk
set_option linter.unusedVariables false
set_option linter.unusedSimpArgs false
namespace Go.Proofs.Ytfnijaiaodplgaa.H
open Go.Proofs.Ytfnijaiaodplgaa.PHsh Go.RowKit Go.Proofs.Ytfnijaiaodplgaa.Sha Go.Proofs.YtfnijaiaodplgaaW.PrintWords Go.Proofs.YtfnijaiaodplgaaW.PrintLast
theorem eq31 (a : UInt32) (w : World) : (Op.equalIn 9999 31 (.int .u32 (a.toNat : Int)) (.int .u32 (a.toNat : Int))).run Try.prog w = .ok true w := by
  have h := run_equalIn_int w 9998 31 .u32 .u32 (a.toNat : Int) (a.toNat : Int) Try.underlying31
  simpa using h
theorem equal33 (x : St) (w : World) : (Op.equalIn 10000 33 (.agg (us x.l)) (.agg (us x.l))).run Try.prog w = .ok true w := by
  unfold Op.equalIn
  simp [us_st, run_underlying Try.underlying33, go_sem, part, isAgg, run_underlying Try.underlying31, eq31, List.range'_succ]
theorem equal32 (x : St) (w : World) : (Op.equalIn 10000 32 (.agg (us x.l)) (.agg (us x.l))).run Try.prog w = .ok true w := by
  unfold Op.equalIn
  simp [us_st, run_underlying Try.underlying32, go_sem, part, isAgg, run_underlying Try.underlying31, eq31, List.range'_succ]
set_option maxHeartbeats 4000000 in
set_option maxRecDepth 100000 in
theorem hashStarts_any (a0 : ByteArray) (w : World) : Calls Try.prog 4 #[.string a0] w fun e w' => e = .returned (.bool true) ∧ Below w.heap.size w w' := by
  obtain ⟨t, ht, hs⟩ := Dig.few a0
  have HT := Lib.hid ht
  have hz : (9223372036854775807 < t.size + 1) = False := eq_false (by omega)
  clear ht hs
  go_enter Try.func4, Try.ntmps4
  go_wp2_with fail
  refine (start_any _).mono ?_
  rintro e w1 ⟨rfl, hb1⟩
  go_wp2_with fail
  refine (refStart_any _).mono ?_
  rintro e w2 ⟨rfl, hb2⟩
  have HB := Lib.hid (below_step hb1 hb2)
  clear hb1 hb2
  have he := equal33 Sha.start w2
  go_wp2_with fail
  clear he
  refine (start_any _).mono ?_
  rintro e w3 ⟨rfl, hb3⟩
  have HB3 := Lib.hid (below_step HB.out hb3)
  clear hb3 HB
  go_wp2_with fail
  refine (parchmentlaw01_few.calls a0 t _ HT.out).mono ?_
  rintro e w' ⟨rfl, ⟨nd, rfl⟩⟩
  go_wp2_with fail
  refine (mix_all _ _ _).mono ?_
  rintro e w4 ⟨rfl, hb4⟩
  have HB4 := Lib.hid (below_step (pw_below_drewN HB3.out _) hb4)
  clear hb4 HB3
  go_wp2_with fail
  refine (refStart_any _).mono ?_
  rintro e w5 ⟨rfl, hb5⟩
  have HB5 := Lib.hid (below_step HB4.out hb5)
  clear hb5 HB4
  go_wp2_with fail
  refine (parchmentlaw01_few.calls a0 t _ HT.out).mono ?_
  rintro e w' ⟨rfl, ⟨nd, rfl⟩⟩
  go_wp2_with fail
  refine (mix_all _ _ _).mono ?_
  rintro e w6 ⟨rfl, hb6⟩
  have HB6 := Lib.hid (below_step (pw_below_drewN HB5.out _) hb6)
  clear hb6 HB5
  have he := equal33 (mixB Sha.start (t ++ ⟨#[120]⟩ : ByteArray).toList) w6
  go_wp2_with fail
  go_ret
  exact ⟨rfl, HB6.out⟩
end Go.Proofs.Ytfnijaiaodplgaa.H
