-- WRITTEN BY wip/xprint.py, a program of this session over the kit's printer; Lean checks it
import Derived.Test.YtfnijaiaodplgaaPEncx0
import Derived.Test.YtfnijaiaodplgaaPEncx1
import Derived.Test.YtfnijaiaodplgaaPEncx2
import Derived.Test.YtfnijaiaodplgaaPEncx3
import Derived.Test.YtfnijaiaodplgaaPEncx5
import Derived.Test.YtfnijaiaodplgaaPEncx6
import Derived.Test.YtfnijaiaodplgaaPEncx7
namespace Go.Proofs.Ytfnijaiaodplgaa.PEnc
open Go.RowKit Go.Proofs.YtfnijaiaodplgaaW.PrintWords Go.Proofs.YtfnijaiaodplgaaW.PrintLast Go.Proofs.YtfnijaiaodplgaaW.PrintMore
attribute [local go_sem] max2_int min2_int max_two min_two max_three min_three max_four min_four   -- for this text's walks alone
set_option linter.unusedVariables false
set_option linter.unusedSimpArgs false

theorem field43_2 (a b : Value) (s : Int) (w : World) : (Instr.field 43 (.agg #[a, b, .int .i64 s]) 2).run Try.prog w = .ok (.int .i64 s) w := by
  have hu := run_underlying (w := w) Try.underlying43
  unfold Instr.field
  simp [go_sem, hu, part, isAgg, asAgg]
attribute [local go_sem] field43_2
/-! ### parchmentlaw02_EncWalks: function 12 -/
mutual
def parchmentlaw02_EncWalks.l0 : Nat → List (S60) → Int → ByteArray → Int → Int → ByteArray → Int → Int → Option (Bool)
  | 0, _, _, _, _, _, _, _, _ => none
  | k + 1, x1, x8, x343000, x343001, x343002, x344000, x344001, x344002 => if x8 < (x1.length : Int) then (parchmentlaw02_EncWalks.j1 k x1 x8 (decide (x8 < 30)) x343000 x343001 x343002 x344000 x344001 x344002) else (parchmentlaw02_EncWalks.j1 k x1 x8 false x343000 x343001 x343002 x344000 x344001 x344002)
def parchmentlaw02_EncWalks.j1 : Nat → List (S60) → Int → Bool → ByteArray → Int → Int → ByteArray → Int → Int → Option (Bool)
  | 0, _, _, _, _, _, _, _, _, _ => none
  | k + 1, x1, x8, x36, x343000, x343001, x343002, x344000, x344001, x344002 => if x36 = true then (if 0 ≤ x8 then (if x8 < (x1.length : Int) then (if ((rd_T60 x1 x8).f0) = 1 then ((parchmentref02_Cursor_Uint.f k x344000 x344001 x344002).bind fun bt354 => ((enc_Cursor_Uint.f k x343000 x343001 x343002).bind fun bt359 => (parchmentlaw02_EncWalks.j2 k x1 x8 (bt359.1 == bt354.2.2.2) bt359.2.1 bt359.2.2.1 bt359.2.2.2 bt354.1 bt354.2.1 bt354.2.2.1))) else (if ((rd_T60 x1 x8).f0) = 2 then ((parchmentref02_Cursor_Int.f k x344000 x344001 x344002).bind fun bt363 => ((enc_Cursor_Int.f k x343000 x343001 x343002).bind fun bt368 => (parchmentlaw02_EncWalks.j2 k x1 x8 (bt368.1 == bt363.2.2.2) bt368.2.1 bt368.2.2.1 bt368.2.2.2 bt363.1 bt363.2.1 bt363.2.2.1))) else (if ((rd_T60 x1 x8).f0) = 3 then ((parchmentref02_Cursor_Count.f k x344000 x344001 x344002 ((rd_T60 x1 x8).f1)).bind fun bt372 => ((enc_Cursor_Count.f k x343000 x343001 x343002 ((rd_T60 x1 x8).f1)).bind fun bt377 => (parchmentlaw02_EncWalks.j2 k x1 x8 (bt377.1 == bt372.2.2.2) bt377.2.1 bt377.2.2.1 bt377.2.2.2 bt372.1 bt372.2.1 bt372.2.2.1))) else (if ((rd_T60 x1 x8).f0) = 4 then ((parchmentref02_Cursor_Text.f k x344000 x344001 x344002 ((rd_T60 x1 x8).f1)).bind fun bt381 => ((enc_Cursor_Text.f k x343000 x343001 x343002 ((rd_T60 x1 x8).f1)).bind fun bt386 => (parchmentlaw02_EncWalks.j2 k x1 x8 (bt386.1.toList == bt381.2.2.2.toList) bt386.2.1 bt386.2.2.1 bt386.2.2.2 bt381.1 bt381.2.1 bt381.2.2.1))) else (if ((rd_T60 x1 x8).f0) = 5 then ((parchmentref02_Cursor_Bool.f x344000 x344001 x344002).bind fun bt390 => ((enc_Cursor_Bool.f x343000 x343001 x343002).bind fun bt395 => (parchmentlaw02_EncWalks.j2 k x1 x8 (bt395.1 == bt390.2.2.2) bt395.2.1 bt395.2.2.1 bt395.2.2.2 bt390.1 bt390.2.1 bt390.2.2.1))) else (if ((rd_T60 x1 x8).f0) = 6 then ((enc_Cursor_Fail.f x343000 x343001 x343002 7).bind fun bt399 => (if x344002 = 0 then (parchmentlaw02_EncWalks.j2 k x1 x8 true bt399.1 bt399.2.1 bt399.2.2 x344000 x344001 7) else (parchmentlaw02_EncWalks.j2 k x1 x8 true bt399.1 bt399.2.1 bt399.2.2 x344000 x344001 x344002))) else ((parchmentref02_Cursor_Bytes.f x344000 x344001 x344002 ((rd_T60 x1 x8).f1)).bind fun bt402 => ((enc_Cursor_Bytes.f x343000 x343001 x343002 ((rd_T60 x1 x8).f1)).bind fun bt407 => (parchmentlaw02_EncWalks.j2 k x1 x8 (bt407.1.toList == bt402.2.2.2.toList) bt407.2.1 bt407.2.2.1 bt407.2.2.2 bt402.1 bt402.2.1 bt402.2.2.1))))))))) else (none)) else (none)) else ((parchmentlaw02_awake.f k).bind fun t344 => (if t344 = true then ((enc_Cursor_End.f x343000 x343001 x343002).bind fun bt345 => ((parchmentref02_Cursor_End.f x344000 x344001 x344002).bind fun bt349 => (some (bt345.1 == bt349.2.2)))) else (some false)))
def parchmentlaw02_EncWalks.j2 : Nat → List (S60) → Int → Bool → ByteArray → Int → Int → ByteArray → Int → Int → Option (Bool)
  | 0, _, _, _, _, _, _, _, _, _ => none
  | k + 1, x1, x8, x10, x343000, x343001, x343002, x344000, x344001, x344002 => if x10 = true then ((enc_Cursor_Err.f x343000 x343001 x343002).bind fun bt411 => (if bt411.1 = x344002 then ((enc_Cursor_Off.f bt411.2.1 bt411.2.2.1 bt411.2.2.2).bind fun bt415 => (if bt415.1 = x344001 then (parchmentlaw02_EncWalks.l0 k x1 (wrap64 (x8 + 1)) bt415.2.1 bt415.2.2.1 bt415.2.2.2 x344000 x344001 x344002) else (some false))) else (some false))) else (some false)
end
def parchmentlaw02_EncWalks.f (k : Nat) (a0 : ByteArray) (l1 : List (S60)) : Option (Bool) := (parchmentlaw02_few.f a0).bind fun t338 => ((enc_At.f t338).bind fun bt339 => (parchmentlaw02_EncWalks.l0 k l1 0 bt339.1 bt339.2.1 bt339.2.2 t338 0 0))
theorem parchmentlaw02_EncWalks.mono_l : ∀ k, (∀ y0 y1 y2 y3 y4 y5 y6 y7, LeO (parchmentlaw02_EncWalks.l0 k y0 y1 y2 y3 y4 y5 y6 y7) (parchmentlaw02_EncWalks.l0 (k + 1) y0 y1 y2 y3 y4 y5 y6 y7)) ∧ (∀ y0 y1 y2 y3 y4 y5 y6 y7 y8, LeO (parchmentlaw02_EncWalks.j1 k y0 y1 y2 y3 y4 y5 y6 y7 y8) (parchmentlaw02_EncWalks.j1 (k + 1) y0 y1 y2 y3 y4 y5 y6 y7 y8)) ∧ (∀ y0 y1 y2 y3 y4 y5 y6 y7 y8, LeO (parchmentlaw02_EncWalks.j2 k y0 y1 y2 y3 y4 y5 y6 y7 y8) (parchmentlaw02_EncWalks.j2 (k + 1) y0 y1 y2 y3 y4 y5 y6 y7 y8))
  | 0 => ⟨fun _ _ _ _ _ _ _ _ r h => by simp [parchmentlaw02_EncWalks.l0] at h, fun _ _ _ _ _ _ _ _ _ r h => by simp [parchmentlaw02_EncWalks.j1] at h, fun _ _ _ _ _ _ _ _ _ r h => by simp [parchmentlaw02_EncWalks.j2] at h⟩
  | k + 1 => by
    obtain ⟨ih0, ih1, ih2⟩ := parchmentlaw02_EncWalks.mono_l k
    refine ⟨?_, ?_, ?_⟩
    · intro y0 y1 y2 y3 y4 y5 y6 y7
      unfold parchmentlaw02_EncWalks.l0
      repeat' first
      | (with_reducible exact ih0 _ _ _ _ _ _ _ _)
      | (with_reducible exact ih1 _ _ _ _ _ _ _ _ _)
      | (with_reducible exact ih2 _ _ _ _ _ _ _ _ _)
      | (with_reducible exact enc_Cursor_Count.mono _ _ _ _ _)
      | (with_reducible exact enc_Cursor_Int.mono _ _ _ _)
      | (with_reducible exact enc_Cursor_Text.mono _ _ _ _ _)
      | (with_reducible exact enc_Cursor_Uint.mono _ _ _ _)
      | (with_reducible exact parchmentlaw02_awake.mono _)
      | (with_reducible exact parchmentref02_Cursor_Count.mono _ _ _ _ _)
      | (with_reducible exact parchmentref02_Cursor_Int.mono _ _ _ _)
      | (with_reducible exact parchmentref02_Cursor_Text.mono _ _ _ _ _)
      | (with_reducible exact parchmentref02_Cursor_Uint.mono _ _ _ _)
      | (with_reducible exact LeO.refl _)
      | (with_reducible exact LeO.none _)
      | (with_reducible refine LeO.ite ?_ ?_)
      | (with_reducible refine LeO.bind ?_ (fun _ => ?_))
      | exact ih0 _ _ _ _ _ _ _ _
      | exact ih1 _ _ _ _ _ _ _ _ _
      | exact ih2 _ _ _ _ _ _ _ _ _
      | exact enc_Cursor_Count.mono _ _ _ _ _
      | exact enc_Cursor_Int.mono _ _ _ _
      | exact enc_Cursor_Text.mono _ _ _ _ _
      | exact enc_Cursor_Uint.mono _ _ _ _
      | exact parchmentlaw02_awake.mono _
      | exact parchmentref02_Cursor_Count.mono _ _ _ _ _
      | exact parchmentref02_Cursor_Int.mono _ _ _ _
      | exact parchmentref02_Cursor_Text.mono _ _ _ _ _
      | exact parchmentref02_Cursor_Uint.mono _ _ _ _
      | exact LeO.none _
      | refine LeO.ite ?_ ?_
      | refine LeO.bind ?_ (fun _ => ?_)
    · intro y0 y1 y2 y3 y4 y5 y6 y7 y8
      unfold parchmentlaw02_EncWalks.j1
      repeat' first
      | (with_reducible exact ih0 _ _ _ _ _ _ _ _)
      | (with_reducible exact ih1 _ _ _ _ _ _ _ _ _)
      | (with_reducible exact ih2 _ _ _ _ _ _ _ _ _)
      | (with_reducible exact enc_Cursor_Count.mono _ _ _ _ _)
      | (with_reducible exact enc_Cursor_Int.mono _ _ _ _)
      | (with_reducible exact enc_Cursor_Text.mono _ _ _ _ _)
      | (with_reducible exact enc_Cursor_Uint.mono _ _ _ _)
      | (with_reducible exact parchmentlaw02_awake.mono _)
      | (with_reducible exact parchmentref02_Cursor_Count.mono _ _ _ _ _)
      | (with_reducible exact parchmentref02_Cursor_Int.mono _ _ _ _)
      | (with_reducible exact parchmentref02_Cursor_Text.mono _ _ _ _ _)
      | (with_reducible exact parchmentref02_Cursor_Uint.mono _ _ _ _)
      | (with_reducible exact LeO.refl _)
      | (with_reducible exact LeO.none _)
      | (with_reducible refine LeO.ite ?_ ?_)
      | (with_reducible refine LeO.bind ?_ (fun _ => ?_))
      | exact ih0 _ _ _ _ _ _ _ _
      | exact ih1 _ _ _ _ _ _ _ _ _
      | exact ih2 _ _ _ _ _ _ _ _ _
      | exact enc_Cursor_Count.mono _ _ _ _ _
      | exact enc_Cursor_Int.mono _ _ _ _
      | exact enc_Cursor_Text.mono _ _ _ _ _
      | exact enc_Cursor_Uint.mono _ _ _ _
      | exact parchmentlaw02_awake.mono _
      | exact parchmentref02_Cursor_Count.mono _ _ _ _ _
      | exact parchmentref02_Cursor_Int.mono _ _ _ _
      | exact parchmentref02_Cursor_Text.mono _ _ _ _ _
      | exact parchmentref02_Cursor_Uint.mono _ _ _ _
      | exact LeO.none _
      | refine LeO.ite ?_ ?_
      | refine LeO.bind ?_ (fun _ => ?_)
    · intro y0 y1 y2 y3 y4 y5 y6 y7 y8
      unfold parchmentlaw02_EncWalks.j2
      repeat' first
      | (with_reducible exact ih0 _ _ _ _ _ _ _ _)
      | (with_reducible exact ih1 _ _ _ _ _ _ _ _ _)
      | (with_reducible exact ih2 _ _ _ _ _ _ _ _ _)
      | (with_reducible exact enc_Cursor_Count.mono _ _ _ _ _)
      | (with_reducible exact enc_Cursor_Int.mono _ _ _ _)
      | (with_reducible exact enc_Cursor_Text.mono _ _ _ _ _)
      | (with_reducible exact enc_Cursor_Uint.mono _ _ _ _)
      | (with_reducible exact parchmentlaw02_awake.mono _)
      | (with_reducible exact parchmentref02_Cursor_Count.mono _ _ _ _ _)
      | (with_reducible exact parchmentref02_Cursor_Int.mono _ _ _ _)
      | (with_reducible exact parchmentref02_Cursor_Text.mono _ _ _ _ _)
      | (with_reducible exact parchmentref02_Cursor_Uint.mono _ _ _ _)
      | (with_reducible exact LeO.refl _)
      | (with_reducible exact LeO.none _)
      | (with_reducible refine LeO.ite ?_ ?_)
      | (with_reducible refine LeO.bind ?_ (fun _ => ?_))
      | exact ih0 _ _ _ _ _ _ _ _
      | exact ih1 _ _ _ _ _ _ _ _ _
      | exact ih2 _ _ _ _ _ _ _ _ _
      | exact enc_Cursor_Count.mono _ _ _ _ _
      | exact enc_Cursor_Int.mono _ _ _ _
      | exact enc_Cursor_Text.mono _ _ _ _ _
      | exact enc_Cursor_Uint.mono _ _ _ _
      | exact parchmentlaw02_awake.mono _
      | exact parchmentref02_Cursor_Count.mono _ _ _ _ _
      | exact parchmentref02_Cursor_Int.mono _ _ _ _
      | exact parchmentref02_Cursor_Text.mono _ _ _ _ _
      | exact parchmentref02_Cursor_Uint.mono _ _ _ _
      | exact LeO.none _
      | refine LeO.ite ?_ ?_
      | refine LeO.bind ?_ (fun _ => ?_)
theorem parchmentlaw02_EncWalks.mono : ∀ a0 a1 k, LeO (parchmentlaw02_EncWalks.f k a0 a1) (parchmentlaw02_EncWalks.f (k + 1) a0 a1) := by
  intro a0 a1 k
  obtain ⟨ih0, ih1, ih2⟩ := parchmentlaw02_EncWalks.mono_l k
  unfold parchmentlaw02_EncWalks.f
  repeat' first
      | (with_reducible exact ih0 _ _ _ _ _ _ _ _)
      | (with_reducible exact ih1 _ _ _ _ _ _ _ _ _)
      | (with_reducible exact ih2 _ _ _ _ _ _ _ _ _)
      | (with_reducible exact enc_Cursor_Count.mono _ _ _ _ _)
      | (with_reducible exact enc_Cursor_Int.mono _ _ _ _)
      | (with_reducible exact enc_Cursor_Text.mono _ _ _ _ _)
      | (with_reducible exact enc_Cursor_Uint.mono _ _ _ _)
      | (with_reducible exact parchmentlaw02_awake.mono _)
      | (with_reducible exact parchmentref02_Cursor_Count.mono _ _ _ _ _)
      | (with_reducible exact parchmentref02_Cursor_Int.mono _ _ _ _)
      | (with_reducible exact parchmentref02_Cursor_Text.mono _ _ _ _ _)
      | (with_reducible exact parchmentref02_Cursor_Uint.mono _ _ _ _)
      | (with_reducible exact LeO.refl _)
      | (with_reducible exact LeO.none _)
      | (with_reducible refine LeO.ite ?_ ?_)
      | (with_reducible refine LeO.bind ?_ (fun _ => ?_))
      | exact ih0 _ _ _ _ _ _ _ _
      | exact ih1 _ _ _ _ _ _ _ _ _
      | exact ih2 _ _ _ _ _ _ _ _ _
      | exact enc_Cursor_Count.mono _ _ _ _ _
      | exact enc_Cursor_Int.mono _ _ _ _
      | exact enc_Cursor_Text.mono _ _ _ _ _
      | exact enc_Cursor_Uint.mono _ _ _ _
      | exact parchmentlaw02_awake.mono _
      | exact parchmentref02_Cursor_Count.mono _ _ _ _ _
      | exact parchmentref02_Cursor_Int.mono _ _ _ _
      | exact parchmentref02_Cursor_Text.mono _ _ _ _ _
      | exact parchmentref02_Cursor_Uint.mono _ _ _ _
      | exact LeO.none _
      | refine LeO.ite ?_ ?_
      | refine LeO.bind ?_ (fun _ => ?_)
def parchmentlaw02_EncWalks.T9 : Bool × List (List Nat × List Nat) := (true, [([], []), ([], []), ([], []), ([1, 2], [1, 2]), ([], []), ([3, 4], [3, 4]), ([0, 3, 0], [0]), ([5, 6, 0, 1, 2, 3, 4, 5, 6], [5])])
def parchmentlaw02_EncWalks.B9 : List Nat := [0, 0, 0, 6, 0, 30, 15, 127]
theorem parchmentlaw02_EncWalks.tab9 : rtab .any (opsOf Try.f12 9) = parchmentlaw02_EncWalks.T9 := by kernel_rfl
theorem parchmentlaw02_EncWalks.bits9 : waitsOk parchmentlaw02_EncWalks.T9.2 parchmentlaw02_EncWalks.B9 = true := by kernel_rfl
def parchmentlaw02_EncWalks.T18 : Bool × List (List Nat × List Nat) := (true, [([], []), ([], []), ([], []), ([1, 2], [1, 2]), ([], []), ([3, 4], [3, 4]), ([0, 3, 0], [0]), ([5, 6, 0, 1, 2, 3, 4, 5, 6], [5])])
def parchmentlaw02_EncWalks.B18 : List Nat := [0, 0, 0, 6, 0, 30, 15, 127]
theorem parchmentlaw02_EncWalks.tab18 : rtab .any (opsOf Try.f12 18) = parchmentlaw02_EncWalks.T18 := by kernel_rfl
theorem parchmentlaw02_EncWalks.bits18 : waitsOk parchmentlaw02_EncWalks.T18.2 parchmentlaw02_EncWalks.B18 = true := by kernel_rfl
def parchmentlaw02_EncWalks.T21 : Bool × List (List Nat × List Nat) := (true, [([], []), ([], []), ([], []), ([1, 2], [1, 2]), ([], []), ([3, 4], [3, 4]), ([0, 3, 0], [0]), ([5, 6, 0, 1, 2, 3, 4, 5, 6], [5])])
def parchmentlaw02_EncWalks.B21 : List Nat := [0, 0, 0, 6, 0, 30, 15, 127]
theorem parchmentlaw02_EncWalks.tab21 : rtab .any (opsOf Try.f12 21) = parchmentlaw02_EncWalks.T21 := by kernel_rfl
theorem parchmentlaw02_EncWalks.bits21 : waitsOk parchmentlaw02_EncWalks.T21.2 parchmentlaw02_EncWalks.B21 = true := by kernel_rfl
def parchmentlaw02_EncWalks.T29 : Bool × List (List Nat × List Nat) := (true, [([], []), ([0], [0]), ([1], [1]), ([2], [2]), ([3, 2, 2], [2, 3]), ([2], [2]), ([5, 2], [2, 5]), ([4, 6, 2], [2, 4, 6]), ([2, 7], [2, 7]), ([8, 4], [8]), ([9], [9]), ([10, 9, 9], [9, 10]), ([9], [9]), ([12, 9], [9, 12]), ([11, 13, 9], [9, 11, 13]), ([9, 14], [9, 14])])
def parchmentlaw02_EncWalks.B29 : List Nat := [0, 1, 3, 7, 15, 7, 39, 127, 255, 511, 1023, 2047, 1023, 5119, 16383, 32767]
theorem parchmentlaw02_EncWalks.tab29 : rtab .any (opsOf Try.f12 29) = parchmentlaw02_EncWalks.T29 := by kernel_rfl
theorem parchmentlaw02_EncWalks.bits29 : waitsOk parchmentlaw02_EncWalks.T29.2 parchmentlaw02_EncWalks.B29 = true := by kernel_rfl
def parchmentlaw02_EncWalks.T31 : Bool × List (List Nat × List Nat) := (true, [([], []), ([0, 0], [0]), ([1], [1]), ([2, 1, 1], [1, 2]), ([1], [1]), ([4, 3, 1], [1, 4]), ([5, 1], [1, 5]), ([3, 6, 1], [1, 3, 6]), ([1, 7], [1, 7]), ([8, 5, 0, 1, 2, 3, 4, 5, 6, 7, 8], [8])])
def parchmentlaw02_EncWalks.B31 : List Nat := [0, 1, 3, 7, 3, 31, 63, 127, 255, 511]
theorem parchmentlaw02_EncWalks.tab31 : rtab .any (opsOf Try.f12 31) = parchmentlaw02_EncWalks.T31 := by kernel_rfl
theorem parchmentlaw02_EncWalks.bits31 : waitsOk parchmentlaw02_EncWalks.T31.2 parchmentlaw02_EncWalks.B31 = true := by kernel_rfl
set_option maxHeartbeats 8000000 in
set_option maxRecDepth 100000 in
theorem parchmentlaw02_EncWalks.calls (k : Nat) (a0 : ByteArray) (A1 : Option Addr) (c1 : Nat) (l1 : List (S60)) (r : Bool) (w : World) (hr1 : Kd.C k60 w A1 l1.length l1) (hc1 : l1.length ≤ c1) (h : parchmentlaw02_EncWalks.f k a0 l1 = some r) :
    Calls Try.prog 12 #[.string a0, .slice A1 l1.length c1] w fun e w' => e = .returned (.bool r) ∧ Below w.heap.size w w' := by
  have hu43 := Try.underlying43
  have HR1 := Aside0.mk hr1
  have HC1 := Aside0.mk hc1
  clear hr1 hc1
  have HB := Aside0.mk (Below.refl w.heap.size w)
  have H : ((parchmentlaw02_few.f a0).bind fun t338 => ((enc_At.f t338).bind fun bt339 => (parchmentlaw02_EncWalks.l0 k l1 0 bt339.1 bt339.2.1 bt339.2.2 t338 0 0))) = some r := h
  clear h
  replace H := Option.bind_eq_some_iff.mp H
  obtain ⟨t338, A30, H⟩ := H
  replace H : ((enc_At.f t338).bind fun bt339 => (parchmentlaw02_EncWalks.l0 k l1 0 bt339.1 bt339.2.1 bt339.2.2 t338 0 0)) = some r := H
  have A3 := Aside0.mk A30
  clear A30
  replace H := Option.bind_eq_some_iff.mp H
  obtain ⟨⟨t339, t340, t341⟩, A40, H⟩ := H
  replace H : (parchmentlaw02_EncWalks.l0 k l1 0 t339 t340 t341 t338 0 0) = some r := H
  have A4 := Aside0.mk A40
  clear A40
  have H' := Aside0.mk H
  clear H
  go_enter Try.func12, Try.ntmps12
  go_wp2_with (first | ((with_reducible refine gate_callee (f := 27) rfl ?_); refine goesL_ (some 24) rfl rfl Try.func27 (by kernel_rfl) rfl #[.string a0] rfl (by (try simp only [List.map_toArray, List.map_cons, List.map_nil]); first | done | rfl | (simp only [List.length_drop, List.length_take]; rfl)) ?_; (with_reducible refine (parchmentlaw02_few.calls a0 t338 _ A3.out).mono ?_); rintro e w' ⟨rfl, ⟨nd, rfl⟩⟩; refine ⟨_, rfl, ?_⟩) | ((with_reducible refine gate_callee (f := 14) rfl ?_); refine goesL_ (some 26) rfl rfl Try.func14 (by kernel_rfl) rfl #[.string t338] rfl (by (try simp only [List.map_toArray, List.map_cons, List.map_nil]); first | done | rfl | (simp only [List.length_drop, List.length_take]; rfl)) ?_; (with_reducible refine (enc_At.calls t338 t339 t340 t341 w _ ?side1 A4.out).mono ?_); (case side1 => repeat (first | (with_reducible first | exact HB.out | apply below_alloc | apply pw_below_drewN | apply below_drew1) | exact HB.out)); rintro e w5 ⟨g342, rfl, hi, hb, hb2⟩; refine ⟨_, rfl, ?_⟩; have n0_ := Aside0.mk (hb); have n1_ := Aside0.mk (hi); clear HB; have HB := n0_; have HI342 := n1_; clear n0_ n1_; (try clear hb); (try clear hb2); (try clear hk); (try clear hi)) | ((with_reducible refine gate_dst (N := 7) rfl ?_); refine box_event ?hg (N := 7) ?hd (cs := #[.string (⟨#[]⟩ : ByteArray), .int .i64 0, .int .i64 0]) (t := 43) ?hr ?_; (case hd => rfl); (case hg => rfl); (case hr => first | (go_simp; done) | (go_simp; rfl)); intro gb343 hg w6 hbox hb; have n0_ := Aside0.mk (IsS75.below (by repeat (first | (with_reducible first | exact HI342.out | apply IsS75.alloc | apply IsS75.drewN | apply IsS75.drew | apply IsS75.set_0 | apply IsS75.set_1 | apply IsS75.set_2) | exact HI342.out)) hb); have n1_ := Aside0.mk (below_step (by repeat (first | (with_reducible first | exact HB.out | apply below_alloc | apply pw_below_drewN | apply below_drew1 | refine below_set ?_ (IsS75.ge HI342.out)) | exact HB.out)) hb); have n2_ := Aside0.mk (hbox); have n3_ := Aside0.mk ((by rw [hg]; exact (below_size (by repeat (first | (with_reducible first | exact HB.out | apply below_alloc | apply pw_below_drewN | apply below_drew1 | refine below_set ?_ (IsS75.ge HI342.out)) | exact HB.out))) : w.heap.size ≤ gb343)); have n4_ := Aside0.mk ((by rw [hg]; exact (below_size (by repeat (first | (with_reducible first | exact HB.out | apply below_alloc | apply pw_below_drewN | apply below_drew1 | refine below_set ?_ (IsS75.ge HI342.out)) | exact HB.out))) : w.heap.size ≤ gb343)); have n5_ := Aside0.mk ((by rw [hg]; exact Nat.ne_of_lt (IsS75.lt (show IsS75 w _ g342 t339 t340 t341 from by repeat (first | (with_reducible first | exact HI342.out | apply IsS75.alloc | apply IsS75.drewN | apply IsS75.drew | apply IsS75.set_0 | apply IsS75.set_1 | apply IsS75.set_2) | exact HI342.out))) : g342 ≠ gb343)); have n6_ := Aside0.mk ((by rw [hg]; exact Nat.ne_of_gt (IsS75.lt (show IsS75 w _ g342 t339 t340 t341 from by repeat (first | (with_reducible first | exact HI342.out | apply IsS75.alloc | apply IsS75.drewN | apply IsS75.drew | apply IsS75.set_0 | apply IsS75.set_1 | apply IsS75.set_2) | exact HI342.out))) : gb343 ≠ g342)); clear HI342; clear HB; have HI342 := n0_; have HB := n1_; have BK343 := n2_; have GW343 := n3_; have GE343 := n4_; have NB342_343 := n5_; have NB343_342 := n6_; clear n0_ n1_ n2_ n3_ n4_ n5_ n6_; clear hb hbox hg; have hnb7 := NB343_342.out; have hnc7 := NB342_343.out; have hcz8_0 : w6.cell? ⟨gb343, 0, none⟩ = some (.string (⟨#[]⟩ : ByteArray)) := (blk_cell BK343.out 0).trans rfl; have hcz8_1 : w6.cell? ⟨gb343, 1, none⟩ = some (.int .i64 0) := (blk_cell BK343.out 1).trans rfl; have hcz8_2 : w6.cell? ⟨gb343, 2, none⟩ = some (.int .i64 0) := (blk_cell BK343.out 2).trans rfl; have hfz8_0 := blk_frozen BK343.out 0; have hfz8_1 := blk_frozen BK343.out 1; have hfz8_2 := blk_frozen BK343.out 2))
  go_loopg [8] k (fun kq v8 w' => ∃ (x8_1 : Int) (x343000_1 : ByteArray) (x343001_1 : Int) (x343002_1 : Int) (x344000_1 : ByteArray) (x344001_1 : Int) (x344002_1 : Int), v8 = .int .i64 x8_1 ∧ Aside0 (parchmentlaw02_EncWalks.l0 kq l1 x8_1 x343000_1 x343001_1 x343002_1 x344000_1 x344001_1 x344002_1 = some r) ∧ Aside0 (kq ≤ k) ∧ Aside0 (w'.heap[gb343]? = some (.cells #[.string x344000_1, .int .i64 x344001_1, .int .i64 x344002_1] 43 (0, 0))) ∧ Aside0 (IsS75 w w' g342 x343000_1 x343001_1 x343002_1) ∧ Aside0 (Below w.heap.size w w'))
  case atStart => exact ⟨(0), (t339), (t340), (t341), (t338), (0), (0), (by first | rfl | (simp; done) | (simp [*]; done)), H', ⟨Nat.le_refl _⟩, ⟨by (with_reducible repeat (first | refine blk_drewN ?_ _ | refine blk_drew ?_ | refine blk_alloc ?_ _)); refine blk_put (cs := #[.string t338, .int .i64 0, .int .i64 0]) ?_ 2 _ rfl; (with_reducible repeat (first | refine blk_drewN ?_ _ | refine blk_drew ?_ | refine blk_alloc ?_ _)); refine blk_put (cs := #[.string t338, .int .i64 0, .int .i64 0]) ?_ 1 _ rfl; (with_reducible repeat (first | refine blk_drewN ?_ _ | refine blk_drew ?_ | refine blk_alloc ?_ _)); refine blk_put (cs := #[.string (⟨#[]⟩ : ByteArray), .int .i64 0, .int .i64 0]) ?_ 0 _ rfl; (with_reducible repeat (first | refine blk_drewN ?_ _ | refine blk_drew ?_ | refine blk_alloc ?_ _)); exact BK343.out⟩, ⟨by repeat (first | (with_reducible first | exact HI342.out | apply IsS75.alloc | apply IsS75.drewN | apply IsS75.drew | apply IsS75.set_0 | apply IsS75.set_1 | apply IsS75.set_2 | refine IsS75.far ?_ NB342_343.out _) | exact HI342.out)⟩, ⟨by repeat (first | (with_reducible first | exact HB.out | apply below_alloc | apply pw_below_drewN | apply below_drew1 | refine below_set ?_ (IsS75.ge HI342.out) | refine below_set ?_ GE343.out) | exact HB.out)⟩⟩
  case round =>
    clear H'
    try clear c1
    try clear c2
    try clear p2
    try clear c7
    try clear hcz8_0
    try clear hcz8_1
    try clear hcz8_2
    try clear hfz8_0
    try clear hfz8_1
    try clear hfz8_2
    obtain ⟨x8_1, x343000_1, x343001_1, x343002_1, x344000_1, x344001_1, x344002_1, rfl, HA, HK1, BK343, HI342, HB⟩ := hrel
    cases gk with
    | zero => exact absurd HA.out (by simp [parchmentlaw02_EncWalks.l0])
    | succ k1 =>
      have H := HA.out
      clear HA
      simp only [parchmentlaw02_EncWalks.l0] at H
      have HC9 := Aside0.mk H
      clear H
      go_upto_region 4 with (fail)
      go_cut [36] (fun v36 wc => ∃ (kq : Nat) (x36_8 : Bool), v36 = .bool x36_8 ∧ Aside0 (parchmentlaw02_EncWalks.j1 kq l1 x8_1 x36_8 x343000_1 x343001_1 x343002_1 x344000_1 x344001_1 x344002_1 = some r) ∧ Aside0 (kq ≤ k1) ∧ Aside0 (wc.heap[gb343]? = some (.cells #[.string x344000_1, .int .i64 x344001_1, .int .i64 x344002_1] 43 (0, 0))) ∧ Aside0 (IsS75 w wc g342 x343000_1 x343001_1 x343002_1) ∧ Aside0 (Below w.heap.size w wc))
      case first =>
        have H := HC9.out
        clear HC9
        by_cases c10 : x8_1 < (l1.length : Int)
        · rw [if_pos c10] at H
          have c10b0 : decide (x8_1 < (l1.length : Int)) = true := decide_eq_true c10
          clear c10
          (first | rw [c10b0] | (simp only [i64_w, i32_w]; rw [c10b0]) | skip)
          have H' := Aside0.mk H
          clear H
          go_wp2
          go_meet
          case rel => exact ⟨_, (decide (x8_1 < 30)), (by first | rfl | (simp; done) | (simp [*]; done)), H', ⟨by have := HK1.out; first | omega | exact Nat.le_refl _⟩, ⟨by (with_reducible repeat (first | refine blk_drewN ?_ _ | refine blk_drew ?_ | refine blk_alloc ?_ _)); exact BK343.out⟩, ⟨by repeat (first | (with_reducible first | exact HI342.out | apply IsS75.alloc | apply IsS75.drewN | apply IsS75.drew | apply IsS75.set_0 | apply IsS75.set_1 | apply IsS75.set_2 | refine IsS75.far ?_ NB342_343.out _) | exact HI342.out)⟩, ⟨by repeat (first | (with_reducible first | exact HB.out | apply below_alloc | apply pw_below_drewN | apply below_drew1 | refine below_set ?_ (IsS75.ge HI342.out) | refine below_set ?_ GE343.out) | exact HB.out)⟩⟩
        · rw [if_neg c10] at H
          have c10b0 : decide (x8_1 < (l1.length : Int)) = false := decide_eq_false c10
          clear c10
          (first | rw [c10b0] | (simp only [i64_w, i32_w]; rw [c10b0]) | skip)
          have H' := Aside0.mk H
          clear H
          go_wp2
          go_meet
          case rel => exact ⟨_, (false), (by first | rfl | (simp; done) | (simp [*]; done)), H', ⟨by have := HK1.out; first | omega | exact Nat.le_refl _⟩, ⟨by (with_reducible repeat (first | refine blk_drewN ?_ _ | refine blk_drew ?_ | refine blk_alloc ?_ _)); exact BK343.out⟩, ⟨by repeat (first | (with_reducible first | exact HI342.out | apply IsS75.alloc | apply IsS75.drewN | apply IsS75.drew | apply IsS75.set_0 | apply IsS75.set_1 | apply IsS75.set_2 | refine IsS75.far ?_ NB342_343.out _) | exact HI342.out)⟩, ⟨by repeat (first | (with_reducible first | exact HB.out | apply below_alloc | apply pw_below_drewN | apply below_drew1 | refine below_set ?_ (IsS75.ge HI342.out) | refine below_set ?_ GE343.out) | exact HB.out)⟩⟩
      case rest =>
        clear HC9
        try clear c1
        try clear c2
        try clear p2
        try clear c7
        try clear c10
        try clear c10b0
        try clear hcz8_0
        try clear hcz8_1
        try clear hcz8_2
        try clear hfz8_0
        try clear hfz8_1
        try clear hfz8_2
        try clear p2
        obtain ⟨kq, x36_8, rfl, HA, HJ8, BK343, HI342, HB⟩ := hcut
        cases kq with
        | zero => exact absurd HA.out (by simp [parchmentlaw02_EncWalks.j1])
        | succ kj8 =>
          have H := HA.out
          clear HA
          simp only [parchmentlaw02_EncWalks.j1] at H
          by_cases c11 : x36_8 = true
          · subst c11
            have H1 : (if 0 ≤ x8_1 then (if x8_1 < (l1.length : Int) then (if ((rd_T60 l1 x8_1).f0) = 1 then ((parchmentref02_Cursor_Uint.f kj8 x344000_1 x344001_1 x344002_1).bind fun bt354 => ((enc_Cursor_Uint.f kj8 x343000_1 x343001_1 x343002_1).bind fun bt359 => (parchmentlaw02_EncWalks.j2 kj8 l1 x8_1 (bt359.1 == bt354.2.2.2) bt359.2.1 bt359.2.2.1 bt359.2.2.2 bt354.1 bt354.2.1 bt354.2.2.1))) else (if ((rd_T60 l1 x8_1).f0) = 2 then ((parchmentref02_Cursor_Int.f kj8 x344000_1 x344001_1 x344002_1).bind fun bt363 => ((enc_Cursor_Int.f kj8 x343000_1 x343001_1 x343002_1).bind fun bt368 => (parchmentlaw02_EncWalks.j2 kj8 l1 x8_1 (bt368.1 == bt363.2.2.2) bt368.2.1 bt368.2.2.1 bt368.2.2.2 bt363.1 bt363.2.1 bt363.2.2.1))) else (if ((rd_T60 l1 x8_1).f0) = 3 then ((parchmentref02_Cursor_Count.f kj8 x344000_1 x344001_1 x344002_1 ((rd_T60 l1 x8_1).f1)).bind fun bt372 => ((enc_Cursor_Count.f kj8 x343000_1 x343001_1 x343002_1 ((rd_T60 l1 x8_1).f1)).bind fun bt377 => (parchmentlaw02_EncWalks.j2 kj8 l1 x8_1 (bt377.1 == bt372.2.2.2) bt377.2.1 bt377.2.2.1 bt377.2.2.2 bt372.1 bt372.2.1 bt372.2.2.1))) else (if ((rd_T60 l1 x8_1).f0) = 4 then ((parchmentref02_Cursor_Text.f kj8 x344000_1 x344001_1 x344002_1 ((rd_T60 l1 x8_1).f1)).bind fun bt381 => ((enc_Cursor_Text.f kj8 x343000_1 x343001_1 x343002_1 ((rd_T60 l1 x8_1).f1)).bind fun bt386 => (parchmentlaw02_EncWalks.j2 kj8 l1 x8_1 (bt386.1.toList == bt381.2.2.2.toList) bt386.2.1 bt386.2.2.1 bt386.2.2.2 bt381.1 bt381.2.1 bt381.2.2.1))) else (if ((rd_T60 l1 x8_1).f0) = 5 then ((parchmentref02_Cursor_Bool.f x344000_1 x344001_1 x344002_1).bind fun bt390 => ((enc_Cursor_Bool.f x343000_1 x343001_1 x343002_1).bind fun bt395 => (parchmentlaw02_EncWalks.j2 kj8 l1 x8_1 (bt395.1 == bt390.2.2.2) bt395.2.1 bt395.2.2.1 bt395.2.2.2 bt390.1 bt390.2.1 bt390.2.2.1))) else (if ((rd_T60 l1 x8_1).f0) = 6 then ((enc_Cursor_Fail.f x343000_1 x343001_1 x343002_1 7).bind fun bt399 => (if x344002_1 = 0 then (parchmentlaw02_EncWalks.j2 kj8 l1 x8_1 true bt399.1 bt399.2.1 bt399.2.2 x344000_1 x344001_1 7) else (parchmentlaw02_EncWalks.j2 kj8 l1 x8_1 true bt399.1 bt399.2.1 bt399.2.2 x344000_1 x344001_1 x344002_1))) else ((parchmentref02_Cursor_Bytes.f x344000_1 x344001_1 x344002_1 ((rd_T60 l1 x8_1).f1)).bind fun bt402 => ((enc_Cursor_Bytes.f x343000_1 x343001_1 x343002_1 ((rd_T60 l1 x8_1).f1)).bind fun bt407 => (parchmentlaw02_EncWalks.j2 kj8 l1 x8_1 (bt407.1.toList == bt402.2.2.2.toList) bt407.2.1 bt407.2.2.1 bt407.2.2.2 bt402.1 bt402.2.1 bt402.2.2.1))))))))) else (none)) else (none)) = some r := by rw [if_pos rfl] at H; exact H
            clear H
            have H := H1
            clear H1
            by_cases c12 : 0 ≤ x8_1
            · rw [if_pos c12] at H
              have c12b0 : decide (0 ≤ x8_1) = true := decide_eq_true c12
              clear c12
              by_cases c13 : x8_1 < (l1.length : Int)
              · rw [if_pos c13] at H
                have c13b0 : decide (x8_1 < (l1.length : Int)) = true := decide_eq_true c13
                clear c13
                have HC14 := Aside0.mk H
                clear H
                have p352 : 0 ≤ (x8_1 : Int) := of_decide_eq_true (by first | (with_reducible assumption) | assumption)
                have q352 : x8_1 < (l1.length : Int) := of_decide_eq_true (by first | (with_reducible assumption) | assumption)
                obtain ⟨ad352, e352, hx352_0, hx352_1⟩ := at_T60 HR1.out x8_1 p352 q352
                cases e352
                replace hx352_0 := (HB.out.cell (World.block_lt_of_cell? w _ hx352_0)).trans hx352_0
                replace hx352_1 := (HB.out.cell (World.block_lt_of_cell? w _ hx352_1)).trans hx352_1
                replace p352 := eq_true p352
                replace q352 := eq_true q352
                have p353 : 0 ≤ (x8_1 : Int) := of_decide_eq_true (by first | (with_reducible assumption) | assumption)
                have q353 : x8_1 < (l1.length : Int) := of_decide_eq_true (by first | (with_reducible assumption) | assumption)
                obtain ⟨ad353, e353, hx353_0, hx353_1⟩ := at_T60 HR1.out x8_1 p353 q353
                obtain rfl : ad352 = ad353 := (by injection e353)
                replace hx353_0 := (HB.out.cell (World.block_lt_of_cell? w _ hx353_0)).trans hx353_0
                replace hx353_1 := (HB.out.cell (World.block_lt_of_cell? w _ hx353_1)).trans hx353_1
                replace p353 := eq_true p353
                replace q353 := eq_true q353
                go_upto_block 2 with (fail)
                go_cut [10] (fun v10 wc => ∃ (kq : Nat) (x10_13 : Bool) (x343000_13 : ByteArray) (x343001_13 : Int) (x343002_13 : Int) (x344000_13 : ByteArray) (x344001_13 : Int) (x344002_13 : Int), v10 = .bool x10_13 ∧ Aside0 (parchmentlaw02_EncWalks.j2 kq l1 x8_1 x10_13 x343000_13 x343001_13 x343002_13 x344000_13 x344001_13 x344002_13 = some r) ∧ Aside0 (kq ≤ kj8) ∧ Aside0 (wc.heap[gb343]? = some (.cells #[.string x344000_13, .int .i64 x344001_13, .int .i64 x344002_13] 43 (0, 0))) ∧ Aside0 (IsS75 w wc g342 x343000_13 x343001_13 x343002_13) ∧ Aside0 (Below w.heap.size w wc))
                case first =>
                  have H := HC14.out
                  clear HC14
                  by_cases c15 : ((rd_T60 l1 x8_1).f0) = 1
                  · rw [if_pos c15] at H
                    have c15b0 : (((rd_T60 l1 x8_1).f0) == 1) = true := beq_iff_eq.mpr c15
                    have c15b1 : (((rd_T60 l1 x8_1).f0) != 1) = false := bne_eq_false_iff_eq.mpr c15
                    clear c15
                    (first | rw [c15b0] | (simp only [i64_w, i32_w]; rw [c15b0]) | skip)
                    replace H := Option.bind_eq_some_iff.mp H
                    obtain ⟨⟨t354, t355, t356, t357⟩, A160, H⟩ := H
                    replace H : ((enc_Cursor_Uint.f kj8 x343000_1 x343001_1 x343002_1).bind fun bt359 => (parchmentlaw02_EncWalks.j2 kj8 l1 x8_1 (bt359.1 == t357) bt359.2.1 bt359.2.2.1 bt359.2.2.2 t354 t355 t356)) = some r := H
                    have A16 := Aside0.mk A160
                    clear A160
                    replace H := Option.bind_eq_some_iff.mp H
                    obtain ⟨⟨t359, t360, t361, t362⟩, A170, H⟩ := H
                    replace H : (parchmentlaw02_EncWalks.j2 kj8 l1 x8_1 (t359 == t357) t360 t361 t362 t354 t355 t356) = some r := H
                    have A17 := Aside0.mk A170
                    clear A170
                    have H' := Aside0.mk H
                    clear H
                    have hnb18 := NB343_342.out
                    have hnc18 := NB342_343.out
                    have hcz19_0 : wc.cell? ⟨gb343, 0, none⟩ = some (.string x344000_1) := (blk_cell BK343.out 0).trans rfl
                    have hcz19_1 : wc.cell? ⟨gb343, 1, none⟩ = some (.int .i64 x344001_1) := (blk_cell BK343.out 1).trans rfl
                    have hcz19_2 : wc.cell? ⟨gb343, 2, none⟩ = some (.int .i64 x344002_1) := (blk_cell BK343.out 2).trans rfl
                    have hfz19_0 := blk_frozen BK343.out 0
                    have hfz19_1 := blk_frozen BK343.out 1
                    have hfz19_2 := blk_frozen BK343.out 2
                    try go_wp2_with (first | ((with_reducible refine gate_callee (f := 28) rfl ?_); refine goesL_ (some 65) rfl rfl Try.func28 (by kernel_rfl) rfl #[.agg #[.string x344000_1, .int .i64 x344001_1, .int .i64 x344002_1]] rfl (by (try simp only [List.map_toArray, List.map_cons, List.map_nil]); first | done | rfl | (simp only [List.length_drop, List.length_take]; rfl)) ?_; (with_reducible refine (parchmentref02_Cursor_Uint.calls kj8 x344000_1 x344001_1 x344002_1 t354 t355 t356 t357 _ A16.out).mono ?_); rintro e w20 ⟨rfl, hb⟩; refine ⟨_, rfl, ?_⟩; have n0_ := Aside0.mk (blk_below (g := gb343) (o := .cells #[.string x344000_1, .int .i64 x344001_1, .int .i64 x344002_1] 43 (0, 0)) (by (with_reducible repeat (first | refine blk_drewN ?_ _ | refine blk_drew ?_ | refine blk_alloc ?_ _)); exact BK343.out) hb); have n1_ := Aside0.mk (IsS75.below (by repeat (first | (with_reducible first | exact HI342.out | apply IsS75.alloc | apply IsS75.drewN | apply IsS75.drew | apply IsS75.set_0 | apply IsS75.set_1 | apply IsS75.set_2 | refine IsS75.far ?_ NB342_343.out _) | exact HI342.out)) hb); have n2_ := Aside0.mk (below_step (by repeat (first | (with_reducible first | exact HB.out | apply below_alloc | apply pw_below_drewN | apply below_drew1 | refine below_set ?_ (IsS75.ge HI342.out) | refine below_set ?_ GE343.out) | exact HB.out)) hb); clear BK343; clear HI342; clear HB; have BK343 := n0_; have HI342 := n1_; have HB := n2_; clear n0_ n1_ n2_; (try clear hb); (try clear hb2); (try clear hk); (try clear hi)) | ((with_reducible refine gate_dst (N := 11) rfl ?_); refine box_event ?hg (N := 11) ?hd (cs := #[.string (⟨#[]⟩ : ByteArray), .int .i64 0, .int .i64 0]) (t := 43) ?hr ?_; (case hd => rfl); (case hg => rfl); (case hr => first | (go_simp; done) | (go_simp; rfl)); intro gb358 hg w21 hbox hb; have n0_ := Aside0.mk (blk_below (g := gb343) (o := .cells #[.string x344000_1, .int .i64 x344001_1, .int .i64 x344002_1] 43 (0, 0)) (by (with_reducible repeat (first | refine blk_drewN ?_ _ | refine blk_drew ?_ | refine blk_alloc ?_ _)); exact BK343.out) hb); have n1_ := Aside0.mk (IsS75.below (by repeat (first | (with_reducible first | exact HI342.out | apply IsS75.alloc | apply IsS75.drewN | apply IsS75.drew | apply IsS75.set_0 | apply IsS75.set_1 | apply IsS75.set_2 | refine IsS75.far ?_ NB342_343.out _) | exact HI342.out)) hb); have n2_ := Aside0.mk (below_step (by repeat (first | (with_reducible first | exact HB.out | apply below_alloc | apply pw_below_drewN | apply below_drew1 | refine below_set ?_ (IsS75.ge HI342.out) | refine below_set ?_ GE343.out) | exact HB.out)) hb); have n3_ := Aside0.mk (hbox); have n4_ := Aside0.mk ((by rw [hg]; exact (below_size (by repeat (first | (with_reducible first | exact HB.out | apply below_alloc | apply pw_below_drewN | apply below_drew1 | refine below_set ?_ (IsS75.ge HI342.out) | refine below_set ?_ GE343.out) | exact HB.out))) : w.heap.size ≤ gb358)); have n5_ := Aside0.mk ((by rw [hg]; exact (below_size (by repeat (first | (with_reducible first | exact HB.out | apply below_alloc | apply pw_below_drewN | apply below_drew1 | refine below_set ?_ (IsS75.ge HI342.out) | refine below_set ?_ GE343.out) | exact HB.out))) : w.heap.size ≤ gb358)); have n6_ := Aside0.mk ((by rw [hg]; exact Nat.ne_of_lt (blk_lt (g := gb343) (o := .cells #[.string x344000_1, .int .i64 x344001_1, .int .i64 x344002_1] 43 (0, 0)) (by (with_reducible repeat (first | refine blk_drewN ?_ _ | refine blk_drew ?_ | refine blk_alloc ?_ _)); exact BK343.out)) : gb343 ≠ gb358)); have n7_ := Aside0.mk ((by rw [hg]; exact Nat.ne_of_gt (blk_lt (g := gb343) (o := .cells #[.string x344000_1, .int .i64 x344001_1, .int .i64 x344002_1] 43 (0, 0)) (by (with_reducible repeat (first | refine blk_drewN ?_ _ | refine blk_drew ?_ | refine blk_alloc ?_ _)); exact BK343.out)) : gb358 ≠ gb343)); have n8_ := Aside0.mk ((by rw [hg]; exact Nat.ne_of_lt (IsS75.lt (show IsS75 w _ g342 x343000_1 x343001_1 x343002_1 from by repeat (first | (with_reducible first | exact HI342.out | apply IsS75.alloc | apply IsS75.drewN | apply IsS75.drew | apply IsS75.set_0 | apply IsS75.set_1 | apply IsS75.set_2 | refine IsS75.far ?_ NB342_343.out _) | exact HI342.out))) : g342 ≠ gb358)); have n9_ := Aside0.mk ((by rw [hg]; exact Nat.ne_of_gt (IsS75.lt (show IsS75 w _ g342 x343000_1 x343001_1 x343002_1 from by repeat (first | (with_reducible first | exact HI342.out | apply IsS75.alloc | apply IsS75.drewN | apply IsS75.drew | apply IsS75.set_0 | apply IsS75.set_1 | apply IsS75.set_2 | refine IsS75.far ?_ NB342_343.out _) | exact HI342.out))) : gb358 ≠ g342)); clear BK343; clear HI342; clear HB; have BK343 := n0_; have HI342 := n1_; have HB := n2_; have BK358 := n3_; have GW358 := n4_; have GE358 := n5_; have NB343_358 := n6_; have NB358_343 := n7_; have NB342_358 := n8_; have NB358_342 := n9_; clear n0_ n1_ n2_ n3_ n4_ n5_ n6_ n7_ n8_ n9_; clear hb hbox hg; have hnb22 := NB358_343.out; have hnc22 := NB343_358.out; have hnb23 := NB358_342.out; have hnc23 := NB342_358.out; have hcz24_0 : w21.cell? ⟨gb358, 0, none⟩ = some (.string (⟨#[]⟩ : ByteArray)) := (blk_cell BK358.out 0).trans rfl; have hcz24_1 : w21.cell? ⟨gb358, 1, none⟩ = some (.int .i64 0) := (blk_cell BK358.out 1).trans rfl; have hcz24_2 : w21.cell? ⟨gb358, 2, none⟩ = some (.int .i64 0) := (blk_cell BK358.out 2).trans rfl; have hfz24_0 := blk_frozen BK358.out 0; have hfz24_1 := blk_frozen BK358.out 1; have hfz24_2 := blk_frozen BK358.out 2))
                    have n0_ : Aside0 ((((w21.setCell ⟨gb358, 0, none⟩ (.string t354)).setCell ⟨gb358, 1, none⟩ (.int .i64 t355)).setCell ⟨gb358, 2, none⟩ (.int .i64 t356)).heap[gb343]? = some (.cells #[.string x344000_1, .int .i64 x344001_1, .int .i64 x344002_1] 43 (0, 0))) := ⟨by (with_reducible repeat (first | refine blk_drewN ?_ _ | refine blk_drew ?_ | refine blk_alloc ?_ _)); refine blk_far ?_ NB343_358.out _; (with_reducible repeat (first | refine blk_drewN ?_ _ | refine blk_drew ?_ | refine blk_alloc ?_ _)); refine blk_far ?_ NB343_358.out _; (with_reducible repeat (first | refine blk_drewN ?_ _ | refine blk_drew ?_ | refine blk_alloc ?_ _)); refine blk_far ?_ NB343_358.out _; (with_reducible repeat (first | refine blk_drewN ?_ _ | refine blk_drew ?_ | refine blk_alloc ?_ _)); exact BK343.out⟩
                    have n1_ : Aside0 ((((w21.setCell ⟨gb358, 0, none⟩ (.string t354)).setCell ⟨gb358, 1, none⟩ (.int .i64 t355)).setCell ⟨gb358, 2, none⟩ (.int .i64 t356)).heap[gb358]? = some (.cells #[.string t354, .int .i64 t355, .int .i64 t356] 43 (0, 0))) := ⟨by (with_reducible repeat (first | refine blk_drewN ?_ _ | refine blk_drew ?_ | refine blk_alloc ?_ _)); refine blk_put (cs := #[.string t354, .int .i64 t355, .int .i64 0]) ?_ 2 _ rfl; (with_reducible repeat (first | refine blk_drewN ?_ _ | refine blk_drew ?_ | refine blk_alloc ?_ _)); refine blk_put (cs := #[.string t354, .int .i64 0, .int .i64 0]) ?_ 1 _ rfl; (with_reducible repeat (first | refine blk_drewN ?_ _ | refine blk_drew ?_ | refine blk_alloc ?_ _)); refine blk_put (cs := #[.string (⟨#[]⟩ : ByteArray), .int .i64 0, .int .i64 0]) ?_ 0 _ rfl; (with_reducible repeat (first | refine blk_drewN ?_ _ | refine blk_drew ?_ | refine blk_alloc ?_ _)); exact BK358.out⟩
                    have n2_ : Aside0 (IsS75 w (((w21.setCell ⟨gb358, 0, none⟩ (.string t354)).setCell ⟨gb358, 1, none⟩ (.int .i64 t355)).setCell ⟨gb358, 2, none⟩ (.int .i64 t356)) g342 x343000_1 x343001_1 x343002_1) := ⟨by repeat (first | (with_reducible first | exact HI342.out | apply IsS75.alloc | apply IsS75.drewN | apply IsS75.drew | apply IsS75.set_0 | apply IsS75.set_1 | apply IsS75.set_2 | refine IsS75.far ?_ NB342_343.out _ | refine IsS75.far ?_ NB342_358.out _) | exact HI342.out)⟩
                    have n3_ : Aside0 (Below w.heap.size w (((w21.setCell ⟨gb358, 0, none⟩ (.string t354)).setCell ⟨gb358, 1, none⟩ (.int .i64 t355)).setCell ⟨gb358, 2, none⟩ (.int .i64 t356))) := ⟨by repeat (first | (with_reducible first | exact HB.out | apply below_alloc | apply pw_below_drewN | apply below_drew1 | refine below_set ?_ (IsS75.ge HI342.out) | refine below_set ?_ GE343.out | refine below_set ?_ GE358.out) | exact HB.out)⟩
                    (try clear BK343)
                    (try clear BK358)
                    (try clear HI342)
                    (try clear HB)
                    generalize (((w21.setCell ⟨gb358, 0, none⟩ (.string t354)).setCell ⟨gb358, 1, none⟩ (.int .i64 t355)).setCell ⟨gb358, 2, none⟩ (.int .i64 t356)) = w25 at n0_ n1_ n2_ n3_ ⊢
                    have BK343 := n0_
                    have BK358 := n1_
                    have HI342 := n2_
                    have HB := n3_
                    clear n0_ n1_ n2_ n3_
                    have n0_ := Aside0.mk (blk_drew BK343.out)
                    have n1_ := Aside0.mk (blk_drew BK358.out)
                    have n2_ := Aside0.mk (IsS75.drew HI342.out)
                    have n3_ := Aside0.mk (below_drew1 HB.out)
                    clear BK343
                    clear BK358
                    clear HI342
                    clear HB
                    have BK343 := n0_
                    have BK358 := n1_
                    have HI342 := n2_
                    have HB := n3_
                    clear n0_ n1_ n2_ n3_
                    refine start_ (n := 7) (S := fun w' => w'.cell? ⟨gb358, 0, none⟩ = some (.string t354) ∧ w'.cell? ⟨gb358, 1, none⟩ = some (.int .i64 t355) ∧ w'.cell? ⟨gb358, 2, none⟩ = some (.int .i64 t356)) (ds := []) #[false, false, false, false, false, false, false] (by kernel_rfl) rfl rfl ⟨(blk_cell BK358.out 0).trans rfl, (blk_cell BK358.out 1).trans rfl, (blk_cell BK358.out 2).trans rfl⟩ (fun hHeld => ?_)
                    generalize w25.drew = w26 at BK343 BK358 HI342 HB hHeld ⊢
                    refine pure_ (i := 1) (N := some 69) (v := ?_) (a' := ?_) #[false, true, false, false, false, false, false] rfl rfl (by kernel_rfl) (fun _ _ _ h => h) (Or.inl ⟨by rfl, ?_⟩) ?_ ?_
                    rotate_left
                    · intro w'
                      go_simp
                      with_reducible rfl
                    rotate_left
                    · simp only [Act.put, List.setIfInBounds_toArray, List.set_cons_zero, List.set_cons_succ, i64_w, i32_w]
                      rfl
                    refine pure_ (i := 3) (N := some 71) (v := ?_) (a' := ?_) #[false, true, false, true, false, false, false] rfl rfl (by kernel_rfl) (fun _ _ _ h => h) (Or.inl ⟨by rfl, ?_⟩) ?_ ?_
                    rotate_left
                    · intro w'
                      go_simp
                      with_reducible rfl
                    rotate_left
                    · simp only [Act.put, List.setIfInBounds_toArray, List.set_cons_zero, List.set_cons_succ, i64_w, i32_w]
                      rfl
                    refine take_ (i := 0) (N := some 68) (v := ?_) (a' := ?_) #[true, true, false, true, false, false, false] rfl rfl (by kernel_rfl) (fun _ _ _ h => h) (Or.inl ⟨by rfl, ?_⟩) hHeld ?_ ?_
                    rotate_left
                    · rintro w' ⟨s0, s1, s2⟩
                      go_simp
                      with_reducible rfl
                    rotate_left
                    · simp only [Act.put, List.setIfInBounds_toArray, List.set_cons_zero, List.set_cons_succ, i64_w, i32_w]
                      rfl
                    refine one_ (i := 2) (N := some 70) #[true, true, true, true, false, false, false] rfl rfl (by kernel_rfl) (by decide) (fun K hK => ?_)
                    refine goes_ Try.func18 (by kernel_rfl) rfl #[.pointer (some ⟨g342, 0, none⟩)] (by rfl) rfl rfl (by (try simp only [List.map_toArray, List.map_cons, List.map_nil]); first | done | rfl | (simp only [List.length_drop, List.length_take]; rfl)) ?_
                    with_reducible refine (enc_Cursor_Uint.calls kj8 g342 x343000_1 x343001_1 x343002_1 t359 t360 t361 t362 w _ ?side1 ?side2 A17.out).mono ?_
                    (case side1 => repeat (first | (with_reducible first | exact HI342.out | apply IsS75.alloc | apply IsS75.drewN | apply IsS75.drew | apply IsS75.set_0 | apply IsS75.set_1 | apply IsS75.set_2 | refine IsS75.far ?_ NB342_343.out _ | refine IsS75.far ?_ NB342_358.out _) | exact HI342.out))
                    (case side2 => repeat (first | (with_reducible first | exact HB.out | apply below_alloc | apply pw_below_drewN | apply below_drew1 | refine below_set ?_ (IsS75.ge HI342.out) | refine below_set ?_ GE343.out | refine below_set ?_ GE358.out) | exact HB.out))
                    rintro e w27 ⟨rfl, hi, hb, hk⟩
                    refine ⟨_, rfl, ?_⟩
                    have n0_ := Aside0.mk (KeepBut.blk hk (g' := gb343) (o := .cells #[.string x344000_1, .int .i64 x344001_1, .int .i64 x344002_1] 43 (0, 0)) (by (with_reducible repeat (first | refine blk_drewN ?_ _ | refine blk_drew ?_ | refine blk_alloc ?_ _)); exact BK343.out) NB343_342.out (by simp))
                    have n1_ := Aside0.mk (KeepBut.blk hk (g' := gb358) (o := .cells #[.string t354, .int .i64 t355, .int .i64 t356] 43 (0, 0)) (by (with_reducible repeat (first | refine blk_drewN ?_ _ | refine blk_drew ?_ | refine blk_alloc ?_ _)); exact BK358.out) NB358_342.out (by simp))
                    have n2_ := Aside0.mk (hb)
                    have n3_ := Aside0.mk (hi)
                    clear BK343
                    clear BK358
                    clear HB
                    clear HI342
                    have BK343 := n0_
                    have BK358 := n1_
                    have HB := n2_
                    have HI342 := n3_
                    clear n0_ n1_ n2_ n3_
                    (try clear hb)
                    (try clear hb2)
                    (try clear hk)
                    (try clear hi)
                    refine hK.out _ _ ⟨(blk_cell BK358.out 0).trans rfl, (blk_cell BK358.out 1).trans rfl, (blk_cell BK358.out 2).trans rfl⟩ (fun hHeld => ?_)
                    clear hK K
                    refine norm_ (a' := ?_) ?_ ?_
                    rotate_left
                    · show Act.put _ (some 70) _ = _
                      simp only [Act.put, List.setIfInBounds_toArray, List.set_cons_zero, List.set_cons_succ, i64_w, i32_w]
                      rfl
                    refine pure_ (i := 4) (N := some 72) (v := ?_) (a' := ?_) #[true, true, true, true, true, false, false] rfl rfl (by kernel_rfl) (fun _ _ _ h => h) (Or.inl ⟨by rfl, ?_⟩) ?_ ?_
                    rotate_left
                    · intro w'
                      go_simp
                      with_reducible rfl
                    rotate_left
                    · simp only [Act.put, List.setIfInBounds_toArray, List.set_cons_zero, List.set_cons_succ, i64_w, i32_w]
                      rfl
                    refine one_ (i := 5) (N := none) #[true, true, true, true, true, true, false] rfl rfl (by kernel_rfl) (by decide) (fun K hK => ?_)
                    have hs28 : w27.cell? ⟨gb343, 0, none⟩ = some (.string x344000_1) := (blk_cell BK343.out 0).trans rfl
                    have hfs28 := blk_frozen BK343.out 0
                    have hns28_1 := NB358_343.out
                    have hms28_1 := NB343_358.out
                    have hs29 : w27.cell? ⟨gb343, 1, none⟩ = some (.int .i64 x344001_1) := (blk_cell BK343.out 1).trans rfl
                    have hfs29 := blk_frozen BK343.out 1
                    have hns29_1 := NB358_343.out
                    have hms29_1 := NB343_358.out
                    have hs30 : w27.cell? ⟨gb343, 2, none⟩ = some (.int .i64 x344002_1) := (blk_cell BK343.out 2).trans rfl
                    have hfs30 := blk_frozen BK343.out 2
                    have hns30_1 := NB358_343.out
                    have hms30_1 := NB343_358.out
                    refine skip_ (w1 := ?_) (by rfl) rfl ?_ ?_
                    rotate_left
                    · go_simp
                      rfl
                    refine hK.out _ _ ⟨((cell_far (p := ⟨gb343, _, none⟩) NB358_343.out _).trans (((cell_far (p := ⟨gb343, _, none⟩) NB358_343.out _).trans (((cell_far (p := ⟨gb343, _, none⟩) NB358_343.out _).trans (hHeld.1)))))), ((cell_far (p := ⟨gb343, _, none⟩) NB358_343.out _).trans (((cell_far (p := ⟨gb343, _, none⟩) NB358_343.out _).trans (((cell_far (p := ⟨gb343, _, none⟩) NB358_343.out _).trans (hHeld.2.1)))))), ((cell_far (p := ⟨gb343, _, none⟩) NB358_343.out _).trans (((cell_far (p := ⟨gb343, _, none⟩) NB358_343.out _).trans (((cell_far (p := ⟨gb343, _, none⟩) NB358_343.out _).trans (hHeld.2.2))))))⟩ (fun hHeld => ?_)
                    clear hK K
                    refine pure_ (i := 6) (N := some 10) (v := ?_) (a' := ?_) #[true, true, true, true, true, true, true] rfl rfl (by kernel_rfl) (fun _ _ _ h => h) (Or.inl ⟨by rfl, ?_⟩) ?_ ?_
                    rotate_left
                    · intro w'
                      go_simp
                      with_reducible rfl
                    rotate_left
                    · simp only [Act.put, List.setIfInBounds_toArray, List.set_cons_zero, List.set_cons_succ, i64_w, i32_w]
                      rfl
                    refine done_ (by kernel_rfl) ?_
                    try go_wp2
                    go_meet
                    case rel => exact ⟨_, ((t359 == t357)), (t360), (t361), (t362), (t354), (t355), (t356), (by first | rfl | (simp; done) | (simp [*]; done)), H', ⟨by have := HK1.out; have := HJ8.out; first | omega | exact Nat.le_refl _⟩, ⟨by (with_reducible repeat (first | refine blk_drewN ?_ _ | refine blk_drew ?_ | refine blk_alloc ?_ _)); refine blk_put (cs := #[.string t354, .int .i64 t355, .int .i64 x344002_1]) ?_ 2 _ rfl; (with_reducible repeat (first | refine blk_drewN ?_ _ | refine blk_drew ?_ | refine blk_alloc ?_ _)); refine blk_put (cs := #[.string t354, .int .i64 x344001_1, .int .i64 x344002_1]) ?_ 1 _ rfl; (with_reducible repeat (first | refine blk_drewN ?_ _ | refine blk_drew ?_ | refine blk_alloc ?_ _)); refine blk_put (cs := #[.string x344000_1, .int .i64 x344001_1, .int .i64 x344002_1]) ?_ 0 _ rfl; (with_reducible repeat (first | refine blk_drewN ?_ _ | refine blk_drew ?_ | refine blk_alloc ?_ _)); exact BK343.out⟩, ⟨by repeat (first | (with_reducible first | exact HI342.out | apply IsS75.alloc | apply IsS75.drewN | apply IsS75.drew | apply IsS75.set_0 | apply IsS75.set_1 | apply IsS75.set_2 | refine IsS75.far ?_ NB342_343.out _ | refine IsS75.far ?_ NB342_358.out _) | exact HI342.out)⟩, ⟨by repeat (first | (with_reducible first | exact HB.out | apply below_alloc | apply pw_below_drewN | apply below_drew1 | refine below_set ?_ (IsS75.ge HI342.out) | refine below_set ?_ GE343.out | refine below_set ?_ GE358.out) | exact HB.out)⟩⟩
                  · rw [if_neg c15] at H
                    have c15b0 : (((rd_T60 l1 x8_1).f0) == 1) = false := beq_eq_false_iff_ne.mpr c15
                    have c15b1 : (((rd_T60 l1 x8_1).f0) != 1) = true := bne_iff_ne.mpr c15
                    (first | rw [c15b0] | (simp only [i64_w, i32_w]; rw [c15b0]) | skip)
                    by_cases c31 : ((rd_T60 l1 x8_1).f0) = 2
                    · rw [if_pos c31] at H
                      have c31b0 : (((rd_T60 l1 x8_1).f0) == 2) = true := beq_iff_eq.mpr c31
                      have c31b1 : (((rd_T60 l1 x8_1).f0) != 2) = false := bne_eq_false_iff_eq.mpr c31
                      clear c31
                      replace H := Option.bind_eq_some_iff.mp H
                      obtain ⟨⟨t363, t364, t365, t366⟩, A320, H⟩ := H
                      replace H : ((enc_Cursor_Int.f kj8 x343000_1 x343001_1 x343002_1).bind fun bt368 => (parchmentlaw02_EncWalks.j2 kj8 l1 x8_1 (bt368.1 == t366) bt368.2.1 bt368.2.2.1 bt368.2.2.2 t363 t364 t365)) = some r := H
                      have A32 := Aside0.mk A320
                      clear A320
                      replace H := Option.bind_eq_some_iff.mp H
                      obtain ⟨⟨t368, t369, t370, t371⟩, A330, H⟩ := H
                      replace H : (parchmentlaw02_EncWalks.j2 kj8 l1 x8_1 (t368 == t366) t369 t370 t371 t363 t364 t365) = some r := H
                      have A33 := Aside0.mk A330
                      clear A330
                      have H' := Aside0.mk H
                      clear H
                      have hnb34 := NB343_342.out
                      have hnc34 := NB342_343.out
                      have hcz35_0 : wc.cell? ⟨gb343, 0, none⟩ = some (.string x344000_1) := (blk_cell BK343.out 0).trans rfl
                      have hcz35_1 : wc.cell? ⟨gb343, 1, none⟩ = some (.int .i64 x344001_1) := (blk_cell BK343.out 1).trans rfl
                      have hcz35_2 : wc.cell? ⟨gb343, 2, none⟩ = some (.int .i64 x344002_1) := (blk_cell BK343.out 2).trans rfl
                      have hfz35_0 := blk_frozen BK343.out 0
                      have hfz35_1 := blk_frozen BK343.out 1
                      have hfz35_2 := blk_frozen BK343.out 2
                      try go_wp2_with (first | ((with_reducible refine gate_callee (f := 46) rfl ?_); refine goesL_ (some 77) rfl rfl Try.func46 (by kernel_rfl) rfl #[.agg #[.string x344000_1, .int .i64 x344001_1, .int .i64 x344002_1]] rfl (by (try simp only [List.map_toArray, List.map_cons, List.map_nil]); first | done | rfl | (simp only [List.length_drop, List.length_take]; rfl)) ?_; (with_reducible refine (parchmentref02_Cursor_Int.calls kj8 x344000_1 x344001_1 x344002_1 t363 t364 t365 t366 _ A32.out).mono ?_); rintro e w36 ⟨rfl, hb⟩; refine ⟨_, rfl, ?_⟩; have n0_ := Aside0.mk (blk_below (g := gb343) (o := .cells #[.string x344000_1, .int .i64 x344001_1, .int .i64 x344002_1] 43 (0, 0)) (by (with_reducible repeat (first | refine blk_drewN ?_ _ | refine blk_drew ?_ | refine blk_alloc ?_ _)); exact BK343.out) hb); have n1_ := Aside0.mk (IsS75.below (by repeat (first | (with_reducible first | exact HI342.out | apply IsS75.alloc | apply IsS75.drewN | apply IsS75.drew | apply IsS75.set_0 | apply IsS75.set_1 | apply IsS75.set_2 | refine IsS75.far ?_ NB342_343.out _) | exact HI342.out)) hb); have n2_ := Aside0.mk (below_step (by repeat (first | (with_reducible first | exact HB.out | apply below_alloc | apply pw_below_drewN | apply below_drew1 | refine below_set ?_ (IsS75.ge HI342.out) | refine below_set ?_ GE343.out) | exact HB.out)) hb); clear BK343; clear HI342; clear HB; have BK343 := n0_; have HI342 := n1_; have HB := n2_; clear n0_ n1_ n2_; (try clear hb); (try clear hb2); (try clear hk); (try clear hi)) | ((with_reducible refine gate_dst (N := 13) rfl ?_); refine box_event ?hg (N := 13) ?hd (cs := #[.string (⟨#[]⟩ : ByteArray), .int .i64 0, .int .i64 0]) (t := 43) ?hr ?_; (case hd => rfl); (case hg => rfl); (case hr => first | (go_simp; done) | (go_simp; rfl)); intro gb367 hg w37 hbox hb; have n0_ := Aside0.mk (blk_below (g := gb343) (o := .cells #[.string x344000_1, .int .i64 x344001_1, .int .i64 x344002_1] 43 (0, 0)) (by (with_reducible repeat (first | refine blk_drewN ?_ _ | refine blk_drew ?_ | refine blk_alloc ?_ _)); exact BK343.out) hb); have n1_ := Aside0.mk (IsS75.below (by repeat (first | (with_reducible first | exact HI342.out | apply IsS75.alloc | apply IsS75.drewN | apply IsS75.drew | apply IsS75.set_0 | apply IsS75.set_1 | apply IsS75.set_2 | refine IsS75.far ?_ NB342_343.out _) | exact HI342.out)) hb); have n2_ := Aside0.mk (below_step (by repeat (first | (with_reducible first | exact HB.out | apply below_alloc | apply pw_below_drewN | apply below_drew1 | refine below_set ?_ (IsS75.ge HI342.out) | refine below_set ?_ GE343.out) | exact HB.out)) hb); have n3_ := Aside0.mk (hbox); have n4_ := Aside0.mk ((by rw [hg]; exact (below_size (by repeat (first | (with_reducible first | exact HB.out | apply below_alloc | apply pw_below_drewN | apply below_drew1 | refine below_set ?_ (IsS75.ge HI342.out) | refine below_set ?_ GE343.out) | exact HB.out))) : w.heap.size ≤ gb367)); have n5_ := Aside0.mk ((by rw [hg]; exact (below_size (by repeat (first | (with_reducible first | exact HB.out | apply below_alloc | apply pw_below_drewN | apply below_drew1 | refine below_set ?_ (IsS75.ge HI342.out) | refine below_set ?_ GE343.out) | exact HB.out))) : w.heap.size ≤ gb367)); have n6_ := Aside0.mk ((by rw [hg]; exact Nat.ne_of_lt (blk_lt (g := gb343) (o := .cells #[.string x344000_1, .int .i64 x344001_1, .int .i64 x344002_1] 43 (0, 0)) (by (with_reducible repeat (first | refine blk_drewN ?_ _ | refine blk_drew ?_ | refine blk_alloc ?_ _)); exact BK343.out)) : gb343 ≠ gb367)); have n7_ := Aside0.mk ((by rw [hg]; exact Nat.ne_of_gt (blk_lt (g := gb343) (o := .cells #[.string x344000_1, .int .i64 x344001_1, .int .i64 x344002_1] 43 (0, 0)) (by (with_reducible repeat (first | refine blk_drewN ?_ _ | refine blk_drew ?_ | refine blk_alloc ?_ _)); exact BK343.out)) : gb367 ≠ gb343)); have n8_ := Aside0.mk ((by rw [hg]; exact Nat.ne_of_lt (IsS75.lt (show IsS75 w _ g342 x343000_1 x343001_1 x343002_1 from by repeat (first | (with_reducible first | exact HI342.out | apply IsS75.alloc | apply IsS75.drewN | apply IsS75.drew | apply IsS75.set_0 | apply IsS75.set_1 | apply IsS75.set_2 | refine IsS75.far ?_ NB342_343.out _) | exact HI342.out))) : g342 ≠ gb367)); have n9_ := Aside0.mk ((by rw [hg]; exact Nat.ne_of_gt (IsS75.lt (show IsS75 w _ g342 x343000_1 x343001_1 x343002_1 from by repeat (first | (with_reducible first | exact HI342.out | apply IsS75.alloc | apply IsS75.drewN | apply IsS75.drew | apply IsS75.set_0 | apply IsS75.set_1 | apply IsS75.set_2 | refine IsS75.far ?_ NB342_343.out _) | exact HI342.out))) : gb367 ≠ g342)); clear BK343; clear HI342; clear HB; have BK343 := n0_; have HI342 := n1_; have HB := n2_; have BK367 := n3_; have GW367 := n4_; have GE367 := n5_; have NB343_367 := n6_; have NB367_343 := n7_; have NB342_367 := n8_; have NB367_342 := n9_; clear n0_ n1_ n2_ n3_ n4_ n5_ n6_ n7_ n8_ n9_; clear hb hbox hg; have hnb38 := NB367_343.out; have hnc38 := NB343_367.out; have hnb39 := NB367_342.out; have hnc39 := NB342_367.out; have hcz40_0 : w37.cell? ⟨gb367, 0, none⟩ = some (.string (⟨#[]⟩ : ByteArray)) := (blk_cell BK367.out 0).trans rfl; have hcz40_1 : w37.cell? ⟨gb367, 1, none⟩ = some (.int .i64 0) := (blk_cell BK367.out 1).trans rfl; have hcz40_2 : w37.cell? ⟨gb367, 2, none⟩ = some (.int .i64 0) := (blk_cell BK367.out 2).trans rfl; have hfz40_0 := blk_frozen BK367.out 0; have hfz40_1 := blk_frozen BK367.out 1; have hfz40_2 := blk_frozen BK367.out 2))
                      have n0_ : Aside0 ((((w37.setCell ⟨gb367, 0, none⟩ (.string t363)).setCell ⟨gb367, 1, none⟩ (.int .i64 t364)).setCell ⟨gb367, 2, none⟩ (.int .i64 t365)).heap[gb343]? = some (.cells #[.string x344000_1, .int .i64 x344001_1, .int .i64 x344002_1] 43 (0, 0))) := ⟨by (with_reducible repeat (first | refine blk_drewN ?_ _ | refine blk_drew ?_ | refine blk_alloc ?_ _)); refine blk_far ?_ NB343_367.out _; (with_reducible repeat (first | refine blk_drewN ?_ _ | refine blk_drew ?_ | refine blk_alloc ?_ _)); refine blk_far ?_ NB343_367.out _; (with_reducible repeat (first | refine blk_drewN ?_ _ | refine blk_drew ?_ | refine blk_alloc ?_ _)); refine blk_far ?_ NB343_367.out _; (with_reducible repeat (first | refine blk_drewN ?_ _ | refine blk_drew ?_ | refine blk_alloc ?_ _)); exact BK343.out⟩
                      have n1_ : Aside0 ((((w37.setCell ⟨gb367, 0, none⟩ (.string t363)).setCell ⟨gb367, 1, none⟩ (.int .i64 t364)).setCell ⟨gb367, 2, none⟩ (.int .i64 t365)).heap[gb367]? = some (.cells #[.string t363, .int .i64 t364, .int .i64 t365] 43 (0, 0))) := ⟨by (with_reducible repeat (first | refine blk_drewN ?_ _ | refine blk_drew ?_ | refine blk_alloc ?_ _)); refine blk_put (cs := #[.string t363, .int .i64 t364, .int .i64 0]) ?_ 2 _ rfl; (with_reducible repeat (first | refine blk_drewN ?_ _ | refine blk_drew ?_ | refine blk_alloc ?_ _)); refine blk_put (cs := #[.string t363, .int .i64 0, .int .i64 0]) ?_ 1 _ rfl; (with_reducible repeat (first | refine blk_drewN ?_ _ | refine blk_drew ?_ | refine blk_alloc ?_ _)); refine blk_put (cs := #[.string (⟨#[]⟩ : ByteArray), .int .i64 0, .int .i64 0]) ?_ 0 _ rfl; (with_reducible repeat (first | refine blk_drewN ?_ _ | refine blk_drew ?_ | refine blk_alloc ?_ _)); exact BK367.out⟩
                      have n2_ : Aside0 (IsS75 w (((w37.setCell ⟨gb367, 0, none⟩ (.string t363)).setCell ⟨gb367, 1, none⟩ (.int .i64 t364)).setCell ⟨gb367, 2, none⟩ (.int .i64 t365)) g342 x343000_1 x343001_1 x343002_1) := ⟨by repeat (first | (with_reducible first | exact HI342.out | apply IsS75.alloc | apply IsS75.drewN | apply IsS75.drew | apply IsS75.set_0 | apply IsS75.set_1 | apply IsS75.set_2 | refine IsS75.far ?_ NB342_343.out _ | refine IsS75.far ?_ NB342_367.out _) | exact HI342.out)⟩
                      have n3_ : Aside0 (Below w.heap.size w (((w37.setCell ⟨gb367, 0, none⟩ (.string t363)).setCell ⟨gb367, 1, none⟩ (.int .i64 t364)).setCell ⟨gb367, 2, none⟩ (.int .i64 t365))) := ⟨by repeat (first | (with_reducible first | exact HB.out | apply below_alloc | apply pw_below_drewN | apply below_drew1 | refine below_set ?_ (IsS75.ge HI342.out) | refine below_set ?_ GE343.out | refine below_set ?_ GE367.out) | exact HB.out)⟩
                      (try clear BK343)
                      (try clear BK367)
                      (try clear HI342)
                      (try clear HB)
                      generalize (((w37.setCell ⟨gb367, 0, none⟩ (.string t363)).setCell ⟨gb367, 1, none⟩ (.int .i64 t364)).setCell ⟨gb367, 2, none⟩ (.int .i64 t365)) = w41 at n0_ n1_ n2_ n3_ ⊢
                      have BK343 := n0_
                      have BK367 := n1_
                      have HI342 := n2_
                      have HB := n3_
                      clear n0_ n1_ n2_ n3_
                      have n0_ := Aside0.mk (blk_drew BK343.out)
                      have n1_ := Aside0.mk (blk_drew BK367.out)
                      have n2_ := Aside0.mk (IsS75.drew HI342.out)
                      have n3_ := Aside0.mk (below_drew1 HB.out)
                      clear BK343
                      clear BK367
                      clear HI342
                      clear HB
                      have BK343 := n0_
                      have BK367 := n1_
                      have HI342 := n2_
                      have HB := n3_
                      clear n0_ n1_ n2_ n3_
                      refine start_ (n := 7) (S := fun w' => w'.cell? ⟨gb367, 0, none⟩ = some (.string t363) ∧ w'.cell? ⟨gb367, 1, none⟩ = some (.int .i64 t364) ∧ w'.cell? ⟨gb367, 2, none⟩ = some (.int .i64 t365)) (ds := []) #[false, false, false, false, false, false, false] (by kernel_rfl) rfl rfl ⟨(blk_cell BK367.out 0).trans rfl, (blk_cell BK367.out 1).trans rfl, (blk_cell BK367.out 2).trans rfl⟩ (fun hHeld => ?_)
                      generalize w41.drew = w42 at BK343 BK367 HI342 HB hHeld ⊢
                      refine pure_ (i := 1) (N := some 81) (v := ?_) (a' := ?_) #[false, true, false, false, false, false, false] rfl rfl (by kernel_rfl) (fun _ _ _ h => h) (Or.inl ⟨by rfl, ?_⟩) ?_ ?_
                      rotate_left
                      · intro w'
                        go_simp
                        with_reducible rfl
                      rotate_left
                      · simp only [Act.put, List.setIfInBounds_toArray, List.set_cons_zero, List.set_cons_succ, i64_w, i32_w]
                        rfl
                      refine pure_ (i := 3) (N := some 83) (v := ?_) (a' := ?_) #[false, true, false, true, false, false, false] rfl rfl (by kernel_rfl) (fun _ _ _ h => h) (Or.inl ⟨by rfl, ?_⟩) ?_ ?_
                      rotate_left
                      · intro w'
                        go_simp
                        with_reducible rfl
                      rotate_left
                      · simp only [Act.put, List.setIfInBounds_toArray, List.set_cons_zero, List.set_cons_succ, i64_w, i32_w]
                        rfl
                      refine take_ (i := 0) (N := some 80) (v := ?_) (a' := ?_) #[true, true, false, true, false, false, false] rfl rfl (by kernel_rfl) (fun _ _ _ h => h) (Or.inl ⟨by rfl, ?_⟩) hHeld ?_ ?_
                      rotate_left
                      · rintro w' ⟨s0, s1, s2⟩
                        go_simp
                        with_reducible rfl
                      rotate_left
                      · simp only [Act.put, List.setIfInBounds_toArray, List.set_cons_zero, List.set_cons_succ, i64_w, i32_w]
                        rfl
                      refine one_ (i := 2) (N := some 82) #[true, true, true, true, false, false, false] rfl rfl (by kernel_rfl) (by decide) (fun K hK => ?_)
                      refine goes_ Try.func26 (by kernel_rfl) rfl #[.pointer (some ⟨g342, 0, none⟩)] (by rfl) rfl rfl (by (try simp only [List.map_toArray, List.map_cons, List.map_nil]); first | done | rfl | (simp only [List.length_drop, List.length_take]; rfl)) ?_
                      with_reducible refine (enc_Cursor_Int.calls kj8 g342 x343000_1 x343001_1 x343002_1 t368 t369 t370 t371 w _ ?side1 ?side2 A33.out).mono ?_
                      (case side1 => repeat (first | (with_reducible first | exact HI342.out | apply IsS75.alloc | apply IsS75.drewN | apply IsS75.drew | apply IsS75.set_0 | apply IsS75.set_1 | apply IsS75.set_2 | refine IsS75.far ?_ NB342_343.out _ | refine IsS75.far ?_ NB342_367.out _) | exact HI342.out))
                      (case side2 => repeat (first | (with_reducible first | exact HB.out | apply below_alloc | apply pw_below_drewN | apply below_drew1 | refine below_set ?_ (IsS75.ge HI342.out) | refine below_set ?_ GE343.out | refine below_set ?_ GE367.out) | exact HB.out))
                      rintro e w43 ⟨rfl, hi, hb, hk⟩
                      refine ⟨_, rfl, ?_⟩
                      have n0_ := Aside0.mk (KeepBut.blk hk (g' := gb343) (o := .cells #[.string x344000_1, .int .i64 x344001_1, .int .i64 x344002_1] 43 (0, 0)) (by (with_reducible repeat (first | refine blk_drewN ?_ _ | refine blk_drew ?_ | refine blk_alloc ?_ _)); exact BK343.out) NB343_342.out (by simp))
                      have n1_ := Aside0.mk (KeepBut.blk hk (g' := gb367) (o := .cells #[.string t363, .int .i64 t364, .int .i64 t365] 43 (0, 0)) (by (with_reducible repeat (first | refine blk_drewN ?_ _ | refine blk_drew ?_ | refine blk_alloc ?_ _)); exact BK367.out) NB367_342.out (by simp))
                      have n2_ := Aside0.mk (hb)
                      have n3_ := Aside0.mk (hi)
                      clear BK343
                      clear BK367
                      clear HB
                      clear HI342
                      have BK343 := n0_
                      have BK367 := n1_
                      have HB := n2_
                      have HI342 := n3_
                      clear n0_ n1_ n2_ n3_
                      (try clear hb)
                      (try clear hb2)
                      (try clear hk)
                      (try clear hi)
                      refine hK.out _ _ ⟨(blk_cell BK367.out 0).trans rfl, (blk_cell BK367.out 1).trans rfl, (blk_cell BK367.out 2).trans rfl⟩ (fun hHeld => ?_)
                      clear hK K
                      refine norm_ (a' := ?_) ?_ ?_
                      rotate_left
                      · show Act.put _ (some 82) _ = _
                        simp only [Act.put, List.setIfInBounds_toArray, List.set_cons_zero, List.set_cons_succ, i64_w, i32_w]
                        rfl
                      refine pure_ (i := 4) (N := some 84) (v := ?_) (a' := ?_) #[true, true, true, true, true, false, false] rfl rfl (by kernel_rfl) (fun _ _ _ h => h) (Or.inl ⟨by rfl, ?_⟩) ?_ ?_
                      rotate_left
                      · intro w'
                        go_simp
                        with_reducible rfl
                      rotate_left
                      · simp only [Act.put, List.setIfInBounds_toArray, List.set_cons_zero, List.set_cons_succ, i64_w, i32_w]
                        rfl
                      refine one_ (i := 5) (N := none) #[true, true, true, true, true, true, false] rfl rfl (by kernel_rfl) (by decide) (fun K hK => ?_)
                      have hs44 : w43.cell? ⟨gb343, 0, none⟩ = some (.string x344000_1) := (blk_cell BK343.out 0).trans rfl
                      have hfs44 := blk_frozen BK343.out 0
                      have hns44_1 := NB367_343.out
                      have hms44_1 := NB343_367.out
                      have hs45 : w43.cell? ⟨gb343, 1, none⟩ = some (.int .i64 x344001_1) := (blk_cell BK343.out 1).trans rfl
                      have hfs45 := blk_frozen BK343.out 1
                      have hns45_1 := NB367_343.out
                      have hms45_1 := NB343_367.out
                      have hs46 : w43.cell? ⟨gb343, 2, none⟩ = some (.int .i64 x344002_1) := (blk_cell BK343.out 2).trans rfl
                      have hfs46 := blk_frozen BK343.out 2
                      have hns46_1 := NB367_343.out
                      have hms46_1 := NB343_367.out
                      refine skip_ (w1 := ?_) (by rfl) rfl ?_ ?_
                      rotate_left
                      · go_simp
                        rfl
                      refine hK.out _ _ ⟨((cell_far (p := ⟨gb343, _, none⟩) NB367_343.out _).trans (((cell_far (p := ⟨gb343, _, none⟩) NB367_343.out _).trans (((cell_far (p := ⟨gb343, _, none⟩) NB367_343.out _).trans (hHeld.1)))))), ((cell_far (p := ⟨gb343, _, none⟩) NB367_343.out _).trans (((cell_far (p := ⟨gb343, _, none⟩) NB367_343.out _).trans (((cell_far (p := ⟨gb343, _, none⟩) NB367_343.out _).trans (hHeld.2.1)))))), ((cell_far (p := ⟨gb343, _, none⟩) NB367_343.out _).trans (((cell_far (p := ⟨gb343, _, none⟩) NB367_343.out _).trans (((cell_far (p := ⟨gb343, _, none⟩) NB367_343.out _).trans (hHeld.2.2))))))⟩ (fun hHeld => ?_)
                      clear hK K
                      refine pure_ (i := 6) (N := some 10) (v := ?_) (a' := ?_) #[true, true, true, true, true, true, true] rfl rfl (by kernel_rfl) (fun _ _ _ h => h) (Or.inl ⟨by rfl, ?_⟩) ?_ ?_
                      rotate_left
                      · intro w'
                        go_simp
                        with_reducible rfl
                      rotate_left
                      · simp only [Act.put, List.setIfInBounds_toArray, List.set_cons_zero, List.set_cons_succ, i64_w, i32_w]
                        rfl
                      refine done_ (by kernel_rfl) ?_
                      try go_wp2
                      go_meet
                      case rel => exact ⟨_, ((t368 == t366)), (t369), (t370), (t371), (t363), (t364), (t365), (by first | rfl | (simp; done) | (simp [*]; done)), H', ⟨by have := HK1.out; have := HJ8.out; first | omega | exact Nat.le_refl _⟩, ⟨by (with_reducible repeat (first | refine blk_drewN ?_ _ | refine blk_drew ?_ | refine blk_alloc ?_ _)); refine blk_put (cs := #[.string t363, .int .i64 t364, .int .i64 x344002_1]) ?_ 2 _ rfl; (with_reducible repeat (first | refine blk_drewN ?_ _ | refine blk_drew ?_ | refine blk_alloc ?_ _)); refine blk_put (cs := #[.string t363, .int .i64 x344001_1, .int .i64 x344002_1]) ?_ 1 _ rfl; (with_reducible repeat (first | refine blk_drewN ?_ _ | refine blk_drew ?_ | refine blk_alloc ?_ _)); refine blk_put (cs := #[.string x344000_1, .int .i64 x344001_1, .int .i64 x344002_1]) ?_ 0 _ rfl; (with_reducible repeat (first | refine blk_drewN ?_ _ | refine blk_drew ?_ | refine blk_alloc ?_ _)); exact BK343.out⟩, ⟨by repeat (first | (with_reducible first | exact HI342.out | apply IsS75.alloc | apply IsS75.drewN | apply IsS75.drew | apply IsS75.set_0 | apply IsS75.set_1 | apply IsS75.set_2 | refine IsS75.far ?_ NB342_343.out _ | refine IsS75.far ?_ NB342_367.out _) | exact HI342.out)⟩, ⟨by repeat (first | (with_reducible first | exact HB.out | apply below_alloc | apply pw_below_drewN | apply below_drew1 | refine below_set ?_ (IsS75.ge HI342.out) | refine below_set ?_ GE343.out | refine below_set ?_ GE367.out) | exact HB.out)⟩⟩
                    · rw [if_neg c31] at H
                      have c31b0 : (((rd_T60 l1 x8_1).f0) == 2) = false := beq_eq_false_iff_ne.mpr c31
                      have c31b1 : (((rd_T60 l1 x8_1).f0) != 2) = true := bne_iff_ne.mpr c31
                      by_cases c47 : ((rd_T60 l1 x8_1).f0) = 3
                      · rw [if_pos c47] at H
                        have c47b0 : (((rd_T60 l1 x8_1).f0) == 3) = true := beq_iff_eq.mpr c47
                        have c47b1 : (((rd_T60 l1 x8_1).f0) != 3) = false := bne_eq_false_iff_eq.mpr c47
                        clear c47
                        replace H := Option.bind_eq_some_iff.mp H
                        obtain ⟨⟨t372, t373, t374, t375⟩, A480, H⟩ := H
                        replace H : ((enc_Cursor_Count.f kj8 x343000_1 x343001_1 x343002_1 ((rd_T60 l1 x8_1).f1)).bind fun bt377 => (parchmentlaw02_EncWalks.j2 kj8 l1 x8_1 (bt377.1 == t375) bt377.2.1 bt377.2.2.1 bt377.2.2.2 t372 t373 t374)) = some r := H
                        have A48 := Aside0.mk A480
                        clear A480
                        replace H := Option.bind_eq_some_iff.mp H
                        obtain ⟨⟨t377, t378, t379, t380⟩, A490, H⟩ := H
                        replace H : (parchmentlaw02_EncWalks.j2 kj8 l1 x8_1 (t377 == t375) t378 t379 t380 t372 t373 t374) = some r := H
                        have A49 := Aside0.mk A490
                        clear A490
                        have H' := Aside0.mk H
                        clear H
                        have hnb50 := NB343_342.out
                        have hnc50 := NB342_343.out
                        have hcz51_0 : wc.cell? ⟨gb343, 0, none⟩ = some (.string x344000_1) := (blk_cell BK343.out 0).trans rfl
                        have hcz51_1 : wc.cell? ⟨gb343, 1, none⟩ = some (.int .i64 x344001_1) := (blk_cell BK343.out 1).trans rfl
                        have hcz51_2 : wc.cell? ⟨gb343, 2, none⟩ = some (.int .i64 x344002_1) := (blk_cell BK343.out 2).trans rfl
                        have hfz51_0 := blk_frozen BK343.out 0
                        have hfz51_1 := blk_frozen BK343.out 1
                        have hfz51_2 := blk_frozen BK343.out 2
                        try go_wp2_with (first | ((with_reducible refine gate_callee (f := 47) rfl ?_); refine goesL_ (some 90) rfl rfl Try.func47 (by kernel_rfl) rfl #[.agg #[.string x344000_1, .int .i64 x344001_1, .int .i64 x344002_1], .int .i64 ((rd_T60 l1 x8_1).f1)] rfl (by (try simp only [List.map_toArray, List.map_cons, List.map_nil]); first | done | rfl | (simp only [List.length_drop, List.length_take]; rfl)) ?_; (with_reducible refine (parchmentref02_Cursor_Count.calls kj8 x344000_1 x344001_1 x344002_1 ((rd_T60 l1 x8_1).f1) t372 t373 t374 t375 _ A48.out).mono ?_); rintro e w52 ⟨rfl, hb⟩; refine ⟨_, rfl, ?_⟩; have n0_ := Aside0.mk (blk_below (g := gb343) (o := .cells #[.string x344000_1, .int .i64 x344001_1, .int .i64 x344002_1] 43 (0, 0)) (by (with_reducible repeat (first | refine blk_drewN ?_ _ | refine blk_drew ?_ | refine blk_alloc ?_ _)); exact BK343.out) hb); have n1_ := Aside0.mk (IsS75.below (by repeat (first | (with_reducible first | exact HI342.out | apply IsS75.alloc | apply IsS75.drewN | apply IsS75.drew | apply IsS75.set_0 | apply IsS75.set_1 | apply IsS75.set_2 | refine IsS75.far ?_ NB342_343.out _) | exact HI342.out)) hb); have n2_ := Aside0.mk (below_step (by repeat (first | (with_reducible first | exact HB.out | apply below_alloc | apply pw_below_drewN | apply below_drew1 | refine below_set ?_ (IsS75.ge HI342.out) | refine below_set ?_ GE343.out) | exact HB.out)) hb); clear BK343; clear HI342; clear HB; have BK343 := n0_; have HI342 := n1_; have HB := n2_; clear n0_ n1_ n2_; (try clear hb); (try clear hb2); (try clear hk); (try clear hi)) | ((with_reducible refine gate_dst (N := 15) rfl ?_); refine box_event ?hg (N := 15) ?hd (cs := #[.string (⟨#[]⟩ : ByteArray), .int .i64 0, .int .i64 0]) (t := 43) ?hr ?_; (case hd => rfl); (case hg => rfl); (case hr => first | (go_simp; done) | (go_simp; rfl)); intro gb376 hg w53 hbox hb; have n0_ := Aside0.mk (blk_below (g := gb343) (o := .cells #[.string x344000_1, .int .i64 x344001_1, .int .i64 x344002_1] 43 (0, 0)) (by (with_reducible repeat (first | refine blk_drewN ?_ _ | refine blk_drew ?_ | refine blk_alloc ?_ _)); exact BK343.out) hb); have n1_ := Aside0.mk (IsS75.below (by repeat (first | (with_reducible first | exact HI342.out | apply IsS75.alloc | apply IsS75.drewN | apply IsS75.drew | apply IsS75.set_0 | apply IsS75.set_1 | apply IsS75.set_2 | refine IsS75.far ?_ NB342_343.out _) | exact HI342.out)) hb); have n2_ := Aside0.mk (below_step (by repeat (first | (with_reducible first | exact HB.out | apply below_alloc | apply pw_below_drewN | apply below_drew1 | refine below_set ?_ (IsS75.ge HI342.out) | refine below_set ?_ GE343.out) | exact HB.out)) hb); have n3_ := Aside0.mk (hbox); have n4_ := Aside0.mk ((by rw [hg]; exact (below_size (by repeat (first | (with_reducible first | exact HB.out | apply below_alloc | apply pw_below_drewN | apply below_drew1 | refine below_set ?_ (IsS75.ge HI342.out) | refine below_set ?_ GE343.out) | exact HB.out))) : w.heap.size ≤ gb376)); have n5_ := Aside0.mk ((by rw [hg]; exact (below_size (by repeat (first | (with_reducible first | exact HB.out | apply below_alloc | apply pw_below_drewN | apply below_drew1 | refine below_set ?_ (IsS75.ge HI342.out) | refine below_set ?_ GE343.out) | exact HB.out))) : w.heap.size ≤ gb376)); have n6_ := Aside0.mk ((by rw [hg]; exact Nat.ne_of_lt (blk_lt (g := gb343) (o := .cells #[.string x344000_1, .int .i64 x344001_1, .int .i64 x344002_1] 43 (0, 0)) (by (with_reducible repeat (first | refine blk_drewN ?_ _ | refine blk_drew ?_ | refine blk_alloc ?_ _)); exact BK343.out)) : gb343 ≠ gb376)); have n7_ := Aside0.mk ((by rw [hg]; exact Nat.ne_of_gt (blk_lt (g := gb343) (o := .cells #[.string x344000_1, .int .i64 x344001_1, .int .i64 x344002_1] 43 (0, 0)) (by (with_reducible repeat (first | refine blk_drewN ?_ _ | refine blk_drew ?_ | refine blk_alloc ?_ _)); exact BK343.out)) : gb376 ≠ gb343)); have n8_ := Aside0.mk ((by rw [hg]; exact Nat.ne_of_lt (IsS75.lt (show IsS75 w _ g342 x343000_1 x343001_1 x343002_1 from by repeat (first | (with_reducible first | exact HI342.out | apply IsS75.alloc | apply IsS75.drewN | apply IsS75.drew | apply IsS75.set_0 | apply IsS75.set_1 | apply IsS75.set_2 | refine IsS75.far ?_ NB342_343.out _) | exact HI342.out))) : g342 ≠ gb376)); have n9_ := Aside0.mk ((by rw [hg]; exact Nat.ne_of_gt (IsS75.lt (show IsS75 w _ g342 x343000_1 x343001_1 x343002_1 from by repeat (first | (with_reducible first | exact HI342.out | apply IsS75.alloc | apply IsS75.drewN | apply IsS75.drew | apply IsS75.set_0 | apply IsS75.set_1 | apply IsS75.set_2 | refine IsS75.far ?_ NB342_343.out _) | exact HI342.out))) : gb376 ≠ g342)); clear BK343; clear HI342; clear HB; have BK343 := n0_; have HI342 := n1_; have HB := n2_; have BK376 := n3_; have GW376 := n4_; have GE376 := n5_; have NB343_376 := n6_; have NB376_343 := n7_; have NB342_376 := n8_; have NB376_342 := n9_; clear n0_ n1_ n2_ n3_ n4_ n5_ n6_ n7_ n8_ n9_; clear hb hbox hg; have hnb54 := NB376_343.out; have hnc54 := NB343_376.out; have hnb55 := NB376_342.out; have hnc55 := NB342_376.out; have hcz56_0 : w53.cell? ⟨gb376, 0, none⟩ = some (.string (⟨#[]⟩ : ByteArray)) := (blk_cell BK376.out 0).trans rfl; have hcz56_1 : w53.cell? ⟨gb376, 1, none⟩ = some (.int .i64 0) := (blk_cell BK376.out 1).trans rfl; have hcz56_2 : w53.cell? ⟨gb376, 2, none⟩ = some (.int .i64 0) := (blk_cell BK376.out 2).trans rfl; have hfz56_0 := blk_frozen BK376.out 0; have hfz56_1 := blk_frozen BK376.out 1; have hfz56_2 := blk_frozen BK376.out 2))
                        have n0_ : Aside0 ((((w53.setCell ⟨gb376, 0, none⟩ (.string t372)).setCell ⟨gb376, 1, none⟩ (.int .i64 t373)).setCell ⟨gb376, 2, none⟩ (.int .i64 t374)).heap[gb343]? = some (.cells #[.string x344000_1, .int .i64 x344001_1, .int .i64 x344002_1] 43 (0, 0))) := ⟨by (with_reducible repeat (first | refine blk_drewN ?_ _ | refine blk_drew ?_ | refine blk_alloc ?_ _)); refine blk_far ?_ NB343_376.out _; (with_reducible repeat (first | refine blk_drewN ?_ _ | refine blk_drew ?_ | refine blk_alloc ?_ _)); refine blk_far ?_ NB343_376.out _; (with_reducible repeat (first | refine blk_drewN ?_ _ | refine blk_drew ?_ | refine blk_alloc ?_ _)); refine blk_far ?_ NB343_376.out _; (with_reducible repeat (first | refine blk_drewN ?_ _ | refine blk_drew ?_ | refine blk_alloc ?_ _)); exact BK343.out⟩
                        have n1_ : Aside0 ((((w53.setCell ⟨gb376, 0, none⟩ (.string t372)).setCell ⟨gb376, 1, none⟩ (.int .i64 t373)).setCell ⟨gb376, 2, none⟩ (.int .i64 t374)).heap[gb376]? = some (.cells #[.string t372, .int .i64 t373, .int .i64 t374] 43 (0, 0))) := ⟨by (with_reducible repeat (first | refine blk_drewN ?_ _ | refine blk_drew ?_ | refine blk_alloc ?_ _)); refine blk_put (cs := #[.string t372, .int .i64 t373, .int .i64 0]) ?_ 2 _ rfl; (with_reducible repeat (first | refine blk_drewN ?_ _ | refine blk_drew ?_ | refine blk_alloc ?_ _)); refine blk_put (cs := #[.string t372, .int .i64 0, .int .i64 0]) ?_ 1 _ rfl; (with_reducible repeat (first | refine blk_drewN ?_ _ | refine blk_drew ?_ | refine blk_alloc ?_ _)); refine blk_put (cs := #[.string (⟨#[]⟩ : ByteArray), .int .i64 0, .int .i64 0]) ?_ 0 _ rfl; (with_reducible repeat (first | refine blk_drewN ?_ _ | refine blk_drew ?_ | refine blk_alloc ?_ _)); exact BK376.out⟩
                        have n2_ : Aside0 (IsS75 w (((w53.setCell ⟨gb376, 0, none⟩ (.string t372)).setCell ⟨gb376, 1, none⟩ (.int .i64 t373)).setCell ⟨gb376, 2, none⟩ (.int .i64 t374)) g342 x343000_1 x343001_1 x343002_1) := ⟨by repeat (first | (with_reducible first | exact HI342.out | apply IsS75.alloc | apply IsS75.drewN | apply IsS75.drew | apply IsS75.set_0 | apply IsS75.set_1 | apply IsS75.set_2 | refine IsS75.far ?_ NB342_343.out _ | refine IsS75.far ?_ NB342_376.out _) | exact HI342.out)⟩
                        have n3_ : Aside0 (Below w.heap.size w (((w53.setCell ⟨gb376, 0, none⟩ (.string t372)).setCell ⟨gb376, 1, none⟩ (.int .i64 t373)).setCell ⟨gb376, 2, none⟩ (.int .i64 t374))) := ⟨by repeat (first | (with_reducible first | exact HB.out | apply below_alloc | apply pw_below_drewN | apply below_drew1 | refine below_set ?_ (IsS75.ge HI342.out) | refine below_set ?_ GE343.out | refine below_set ?_ GE376.out) | exact HB.out)⟩
                        (try clear BK343)
                        (try clear BK376)
                        (try clear HI342)
                        (try clear HB)
                        generalize (((w53.setCell ⟨gb376, 0, none⟩ (.string t372)).setCell ⟨gb376, 1, none⟩ (.int .i64 t373)).setCell ⟨gb376, 2, none⟩ (.int .i64 t374)) = w57 at n0_ n1_ n2_ n3_ ⊢
                        have BK343 := n0_
                        have BK376 := n1_
                        have HI342 := n2_
                        have HB := n3_
                        clear n0_ n1_ n2_ n3_
                        have n0_ := Aside0.mk (blk_drew BK343.out)
                        have n1_ := Aside0.mk (blk_drew BK376.out)
                        have n2_ := Aside0.mk (IsS75.drew HI342.out)
                        have n3_ := Aside0.mk (below_drew1 HB.out)
                        clear BK343
                        clear BK376
                        clear HI342
                        clear HB
                        have BK343 := n0_
                        have BK376 := n1_
                        have HI342 := n2_
                        have HB := n3_
                        clear n0_ n1_ n2_ n3_
                        refine start_ (n := 8) (S := fun w' => w'.cell? ⟨gb376, 0, none⟩ = some (.string t372) ∧ w'.cell? ⟨gb376, 1, none⟩ = some (.int .i64 t373) ∧ w'.cell? ⟨gb376, 2, none⟩ = some (.int .i64 t374)) (ds := []) #[false, false, false, false, false, false, false, false] (by kernel_rfl) rfl rfl ⟨(blk_cell BK376.out 0).trans rfl, (blk_cell BK376.out 1).trans rfl, (blk_cell BK376.out 2).trans rfl⟩ (fun hHeld => ?_); refine with_tabW parchmentlaw02_EncWalks.tab18 parchmentlaw02_EncWalks.bits18 (fun HT_ HW_ => ?_)
                        generalize w57.drew = w58 at BK343 BK376 HI342 HB hHeld ⊢
                        refine pure_ (i := 1) (N := some 94) (v := ?_) (a' := ?_) #[false, true, false, false, false, false, false, false] rfl rfl (any_of HT_.out (by kernel_rfl)) (fun _ _ _ h => h) (Or.inl ⟨by rfl, ?_⟩) ?_ ?_
                        rotate_left
                        · intro w'
                          go_simp
                          with_reducible rfl
                        rotate_left
                        · simp only [Act.put, List.setIfInBounds_toArray, List.set_cons_zero, List.set_cons_succ, i64_w, i32_w]
                          rfl
                        refine pure_ (i := 2) (N := some 95) (v := ?_) (a' := ?_) #[false, true, true, false, false, false, false, false] rfl rfl (any_of HT_.out (by kernel_rfl)) (fun _ _ _ h => h) (Or.inl ⟨by rfl, ?_⟩) ?_ ?_
                        rotate_left
                        · intro w'
                          go_simp
                          with_reducible rfl
                        rotate_left
                        · simp only [Act.put, List.setIfInBounds_toArray, List.set_cons_zero, List.set_cons_succ, i64_w, i32_w]
                          rfl
                        refine pure_ (i := 4) (N := some 97) (v := ?_) (a' := ?_) #[false, true, true, false, true, false, false, false] rfl rfl (any_of HT_.out (by kernel_rfl)) (fun _ _ _ h => h) (Or.inl ⟨by rfl, ?_⟩) ?_ ?_
                        rotate_left
                        · intro w'
                          go_simp
                          with_reducible rfl
                        rotate_left
                        · simp only [Act.put, List.setIfInBounds_toArray, List.set_cons_zero, List.set_cons_succ, i64_w, i32_w]
                          rfl
                        refine take_ (i := 0) (N := some 93) (v := ?_) (a' := ?_) #[true, true, true, false, true, false, false, false] rfl rfl (take_ofW HT_.out HW_.out (by kernel_rfl)) (fun _ _ _ h => h) (Or.inl ⟨by rfl, ?_⟩) hHeld ?_ ?_
                        rotate_left
                        · rintro w' ⟨s0, s1, s2⟩
                          go_simp
                          with_reducible rfl
                        rotate_left
                        · simp only [Act.put, List.setIfInBounds_toArray, List.set_cons_zero, List.set_cons_succ, i64_w, i32_w]
                          rfl
                        refine one_ (i := 3) (N := some 96) #[true, true, true, true, true, false, false, false] rfl rfl (one_of HT_.out (by kernel_rfl)) (by decide) (fun K hK => ?_)
                        refine goes_ Try.func48 (by kernel_rfl) rfl #[.pointer (some ⟨g342, 0, none⟩), .int .i64 ((rd_T60 l1 x8_1).f1)] (by rfl) rfl rfl (by (try simp only [List.map_toArray, List.map_cons, List.map_nil]); first | done | rfl | (simp only [List.length_drop, List.length_take]; rfl)) ?_
                        with_reducible refine (enc_Cursor_Count.calls kj8 g342 x343000_1 x343001_1 x343002_1 ((rd_T60 l1 x8_1).f1) t377 t378 t379 t380 w _ ?side1 ?side2 A49.out).mono ?_
                        (case side1 => repeat (first | (with_reducible first | exact HI342.out | apply IsS75.alloc | apply IsS75.drewN | apply IsS75.drew | apply IsS75.set_0 | apply IsS75.set_1 | apply IsS75.set_2 | refine IsS75.far ?_ NB342_343.out _ | refine IsS75.far ?_ NB342_376.out _) | exact HI342.out))
                        (case side2 => repeat (first | (with_reducible first | exact HB.out | apply below_alloc | apply pw_below_drewN | apply below_drew1 | refine below_set ?_ (IsS75.ge HI342.out) | refine below_set ?_ GE343.out | refine below_set ?_ GE376.out) | exact HB.out))
                        rintro e w59 ⟨rfl, hi, hb, hk⟩
                        refine ⟨_, rfl, ?_⟩
                        have n0_ := Aside0.mk (KeepBut.blk hk (g' := gb343) (o := .cells #[.string x344000_1, .int .i64 x344001_1, .int .i64 x344002_1] 43 (0, 0)) (by (with_reducible repeat (first | refine blk_drewN ?_ _ | refine blk_drew ?_ | refine blk_alloc ?_ _)); exact BK343.out) NB343_342.out (by simp))
                        have n1_ := Aside0.mk (KeepBut.blk hk (g' := gb376) (o := .cells #[.string t372, .int .i64 t373, .int .i64 t374] 43 (0, 0)) (by (with_reducible repeat (first | refine blk_drewN ?_ _ | refine blk_drew ?_ | refine blk_alloc ?_ _)); exact BK376.out) NB376_342.out (by simp))
                        have n2_ := Aside0.mk (hb)
                        have n3_ := Aside0.mk (hi)
                        clear BK343
                        clear BK376
                        clear HB
                        clear HI342
                        have BK343 := n0_
                        have BK376 := n1_
                        have HB := n2_
                        have HI342 := n3_
                        clear n0_ n1_ n2_ n3_
                        (try clear hb)
                        (try clear hb2)
                        (try clear hk)
                        (try clear hi)
                        refine hK.out _ _ ⟨(blk_cell BK376.out 0).trans rfl, (blk_cell BK376.out 1).trans rfl, (blk_cell BK376.out 2).trans rfl⟩ (fun hHeld => ?_)
                        clear hK K
                        refine norm_ (a' := ?_) ?_ ?_
                        rotate_left
                        · show Act.put _ (some 96) _ = _
                          simp only [Act.put, List.setIfInBounds_toArray, List.set_cons_zero, List.set_cons_succ, i64_w, i32_w]
                          rfl
                        refine pure_ (i := 5) (N := some 98) (v := ?_) (a' := ?_) #[true, true, true, true, true, true, false, false] rfl rfl (any_of HT_.out (by kernel_rfl)) (fun _ _ _ h => h) (Or.inl ⟨by rfl, ?_⟩) ?_ ?_
                        rotate_left
                        · intro w'
                          go_simp
                          with_reducible rfl
                        rotate_left
                        · simp only [Act.put, List.setIfInBounds_toArray, List.set_cons_zero, List.set_cons_succ, i64_w, i32_w]
                          rfl
                        refine one_ (i := 6) (N := none) #[true, true, true, true, true, true, true, false] rfl rfl (one_of HT_.out (by kernel_rfl)) (by decide) (fun K hK => ?_)
                        have hs60 : w59.cell? ⟨gb343, 0, none⟩ = some (.string x344000_1) := (blk_cell BK343.out 0).trans rfl
                        have hfs60 := blk_frozen BK343.out 0
                        have hns60_1 := NB376_343.out
                        have hms60_1 := NB343_376.out
                        have hs61 : w59.cell? ⟨gb343, 1, none⟩ = some (.int .i64 x344001_1) := (blk_cell BK343.out 1).trans rfl
                        have hfs61 := blk_frozen BK343.out 1
                        have hns61_1 := NB376_343.out
                        have hms61_1 := NB343_376.out
                        have hs62 : w59.cell? ⟨gb343, 2, none⟩ = some (.int .i64 x344002_1) := (blk_cell BK343.out 2).trans rfl
                        have hfs62 := blk_frozen BK343.out 2
                        have hns62_1 := NB376_343.out
                        have hms62_1 := NB343_376.out
                        refine skip_ (w1 := ?_) (by rfl) rfl ?_ ?_
                        rotate_left
                        · go_simp
                          rfl
                        refine hK.out _ _ ⟨((cell_far (p := ⟨gb343, _, none⟩) NB376_343.out _).trans (((cell_far (p := ⟨gb343, _, none⟩) NB376_343.out _).trans (((cell_far (p := ⟨gb343, _, none⟩) NB376_343.out _).trans (hHeld.1)))))), ((cell_far (p := ⟨gb343, _, none⟩) NB376_343.out _).trans (((cell_far (p := ⟨gb343, _, none⟩) NB376_343.out _).trans (((cell_far (p := ⟨gb343, _, none⟩) NB376_343.out _).trans (hHeld.2.1)))))), ((cell_far (p := ⟨gb343, _, none⟩) NB376_343.out _).trans (((cell_far (p := ⟨gb343, _, none⟩) NB376_343.out _).trans (((cell_far (p := ⟨gb343, _, none⟩) NB376_343.out _).trans (hHeld.2.2))))))⟩ (fun hHeld => ?_)
                        clear hK K
                        refine pure_ (i := 7) (N := some 10) (v := ?_) (a' := ?_) #[true, true, true, true, true, true, true, true] rfl rfl (any_of HT_.out (by kernel_rfl)) (fun _ _ _ h => h) (Or.inl ⟨by rfl, ?_⟩) ?_ ?_
                        rotate_left
                        · intro w'
                          go_simp
                          with_reducible rfl
                        rotate_left
                        · simp only [Act.put, List.setIfInBounds_toArray, List.set_cons_zero, List.set_cons_succ, i64_w, i32_w]
                          rfl
                        refine done_ (done_of HT_.out (by kernel_rfl)) ?_
                        try go_wp2
                        go_meet
                        case rel => exact ⟨_, ((t377 == t375)), (t378), (t379), (t380), (t372), (t373), (t374), (by first | rfl | (simp; done) | (simp [*]; done)), H', ⟨by have := HK1.out; have := HJ8.out; first | omega | exact Nat.le_refl _⟩, ⟨by (with_reducible repeat (first | refine blk_drewN ?_ _ | refine blk_drew ?_ | refine blk_alloc ?_ _)); refine blk_put (cs := #[.string t372, .int .i64 t373, .int .i64 x344002_1]) ?_ 2 _ rfl; (with_reducible repeat (first | refine blk_drewN ?_ _ | refine blk_drew ?_ | refine blk_alloc ?_ _)); refine blk_put (cs := #[.string t372, .int .i64 x344001_1, .int .i64 x344002_1]) ?_ 1 _ rfl; (with_reducible repeat (first | refine blk_drewN ?_ _ | refine blk_drew ?_ | refine blk_alloc ?_ _)); refine blk_put (cs := #[.string x344000_1, .int .i64 x344001_1, .int .i64 x344002_1]) ?_ 0 _ rfl; (with_reducible repeat (first | refine blk_drewN ?_ _ | refine blk_drew ?_ | refine blk_alloc ?_ _)); exact BK343.out⟩, ⟨by repeat (first | (with_reducible first | exact HI342.out | apply IsS75.alloc | apply IsS75.drewN | apply IsS75.drew | apply IsS75.set_0 | apply IsS75.set_1 | apply IsS75.set_2 | refine IsS75.far ?_ NB342_343.out _ | refine IsS75.far ?_ NB342_376.out _) | exact HI342.out)⟩, ⟨by repeat (first | (with_reducible first | exact HB.out | apply below_alloc | apply pw_below_drewN | apply below_drew1 | refine below_set ?_ (IsS75.ge HI342.out) | refine below_set ?_ GE343.out | refine below_set ?_ GE376.out) | exact HB.out)⟩⟩
                      · rw [if_neg c47] at H
                        have c47b0 : (((rd_T60 l1 x8_1).f0) == 3) = false := beq_eq_false_iff_ne.mpr c47
                        have c47b1 : (((rd_T60 l1 x8_1).f0) != 3) = true := bne_iff_ne.mpr c47
                        by_cases c63 : ((rd_T60 l1 x8_1).f0) = 4
                        · rw [if_pos c63] at H
                          have c63b0 : (((rd_T60 l1 x8_1).f0) == 4) = true := beq_iff_eq.mpr c63
                          have c63b1 : (((rd_T60 l1 x8_1).f0) != 4) = false := bne_eq_false_iff_eq.mpr c63
                          clear c63
                          replace H := Option.bind_eq_some_iff.mp H
                          obtain ⟨⟨t381, t382, t383, t384⟩, A640, H⟩ := H
                          replace H : ((enc_Cursor_Text.f kj8 x343000_1 x343001_1 x343002_1 ((rd_T60 l1 x8_1).f1)).bind fun bt386 => (parchmentlaw02_EncWalks.j2 kj8 l1 x8_1 (bt386.1.toList == t384.toList) bt386.2.1 bt386.2.2.1 bt386.2.2.2 t381 t382 t383)) = some r := H
                          have A64 := Aside0.mk A640
                          clear A640
                          replace H := Option.bind_eq_some_iff.mp H
                          obtain ⟨⟨t386, t387, t388, t389⟩, A650, H⟩ := H
                          replace H : (parchmentlaw02_EncWalks.j2 kj8 l1 x8_1 (t386.toList == t384.toList) t387 t388 t389 t381 t382 t383) = some r := H
                          have A65 := Aside0.mk A650
                          clear A650
                          have H' := Aside0.mk H
                          clear H
                          have hnb66 := NB343_342.out
                          have hnc66 := NB342_343.out
                          have hcz67_0 : wc.cell? ⟨gb343, 0, none⟩ = some (.string x344000_1) := (blk_cell BK343.out 0).trans rfl
                          have hcz67_1 : wc.cell? ⟨gb343, 1, none⟩ = some (.int .i64 x344001_1) := (blk_cell BK343.out 1).trans rfl
                          have hcz67_2 : wc.cell? ⟨gb343, 2, none⟩ = some (.int .i64 x344002_1) := (blk_cell BK343.out 2).trans rfl
                          have hfz67_0 := blk_frozen BK343.out 0
                          have hfz67_1 := blk_frozen BK343.out 1
                          have hfz67_2 := blk_frozen BK343.out 2
                          try go_wp2_with (first | ((with_reducible refine gate_callee (f := 49) rfl ?_); refine goesL_ (some 104) rfl rfl Try.func49 (by kernel_rfl) rfl #[.agg #[.string x344000_1, .int .i64 x344001_1, .int .i64 x344002_1], .int .i64 ((rd_T60 l1 x8_1).f1)] rfl (by (try simp only [List.map_toArray, List.map_cons, List.map_nil]); first | done | rfl | (simp only [List.length_drop, List.length_take]; rfl)) ?_; (with_reducible refine (parchmentref02_Cursor_Text.calls kj8 x344000_1 x344001_1 x344002_1 ((rd_T60 l1 x8_1).f1) t381 t382 t383 t384 _ A64.out).mono ?_); rintro e w68 ⟨rfl, hb⟩; refine ⟨_, rfl, ?_⟩; have n0_ := Aside0.mk (blk_below (g := gb343) (o := .cells #[.string x344000_1, .int .i64 x344001_1, .int .i64 x344002_1] 43 (0, 0)) (by (with_reducible repeat (first | refine blk_drewN ?_ _ | refine blk_drew ?_ | refine blk_alloc ?_ _)); exact BK343.out) hb); have n1_ := Aside0.mk (IsS75.below (by repeat (first | (with_reducible first | exact HI342.out | apply IsS75.alloc | apply IsS75.drewN | apply IsS75.drew | apply IsS75.set_0 | apply IsS75.set_1 | apply IsS75.set_2 | refine IsS75.far ?_ NB342_343.out _) | exact HI342.out)) hb); have n2_ := Aside0.mk (below_step (by repeat (first | (with_reducible first | exact HB.out | apply below_alloc | apply pw_below_drewN | apply below_drew1 | refine below_set ?_ (IsS75.ge HI342.out) | refine below_set ?_ GE343.out) | exact HB.out)) hb); clear BK343; clear HI342; clear HB; have BK343 := n0_; have HI342 := n1_; have HB := n2_; clear n0_ n1_ n2_; (try clear hb); (try clear hb2); (try clear hk); (try clear hi)) | ((with_reducible refine gate_dst (N := 17) rfl ?_); refine box_event ?hg (N := 17) ?hd (cs := #[.string (⟨#[]⟩ : ByteArray), .int .i64 0, .int .i64 0]) (t := 43) ?hr ?_; (case hd => rfl); (case hg => rfl); (case hr => first | (go_simp; done) | (go_simp; rfl)); intro gb385 hg w69 hbox hb; have n0_ := Aside0.mk (blk_below (g := gb343) (o := .cells #[.string x344000_1, .int .i64 x344001_1, .int .i64 x344002_1] 43 (0, 0)) (by (with_reducible repeat (first | refine blk_drewN ?_ _ | refine blk_drew ?_ | refine blk_alloc ?_ _)); exact BK343.out) hb); have n1_ := Aside0.mk (IsS75.below (by repeat (first | (with_reducible first | exact HI342.out | apply IsS75.alloc | apply IsS75.drewN | apply IsS75.drew | apply IsS75.set_0 | apply IsS75.set_1 | apply IsS75.set_2 | refine IsS75.far ?_ NB342_343.out _) | exact HI342.out)) hb); have n2_ := Aside0.mk (below_step (by repeat (first | (with_reducible first | exact HB.out | apply below_alloc | apply pw_below_drewN | apply below_drew1 | refine below_set ?_ (IsS75.ge HI342.out) | refine below_set ?_ GE343.out) | exact HB.out)) hb); have n3_ := Aside0.mk (hbox); have n4_ := Aside0.mk ((by rw [hg]; exact (below_size (by repeat (first | (with_reducible first | exact HB.out | apply below_alloc | apply pw_below_drewN | apply below_drew1 | refine below_set ?_ (IsS75.ge HI342.out) | refine below_set ?_ GE343.out) | exact HB.out))) : w.heap.size ≤ gb385)); have n5_ := Aside0.mk ((by rw [hg]; exact (below_size (by repeat (first | (with_reducible first | exact HB.out | apply below_alloc | apply pw_below_drewN | apply below_drew1 | refine below_set ?_ (IsS75.ge HI342.out) | refine below_set ?_ GE343.out) | exact HB.out))) : w.heap.size ≤ gb385)); have n6_ := Aside0.mk ((by rw [hg]; exact Nat.ne_of_lt (blk_lt (g := gb343) (o := .cells #[.string x344000_1, .int .i64 x344001_1, .int .i64 x344002_1] 43 (0, 0)) (by (with_reducible repeat (first | refine blk_drewN ?_ _ | refine blk_drew ?_ | refine blk_alloc ?_ _)); exact BK343.out)) : gb343 ≠ gb385)); have n7_ := Aside0.mk ((by rw [hg]; exact Nat.ne_of_gt (blk_lt (g := gb343) (o := .cells #[.string x344000_1, .int .i64 x344001_1, .int .i64 x344002_1] 43 (0, 0)) (by (with_reducible repeat (first | refine blk_drewN ?_ _ | refine blk_drew ?_ | refine blk_alloc ?_ _)); exact BK343.out)) : gb385 ≠ gb343)); have n8_ := Aside0.mk ((by rw [hg]; exact Nat.ne_of_lt (IsS75.lt (show IsS75 w _ g342 x343000_1 x343001_1 x343002_1 from by repeat (first | (with_reducible first | exact HI342.out | apply IsS75.alloc | apply IsS75.drewN | apply IsS75.drew | apply IsS75.set_0 | apply IsS75.set_1 | apply IsS75.set_2 | refine IsS75.far ?_ NB342_343.out _) | exact HI342.out))) : g342 ≠ gb385)); have n9_ := Aside0.mk ((by rw [hg]; exact Nat.ne_of_gt (IsS75.lt (show IsS75 w _ g342 x343000_1 x343001_1 x343002_1 from by repeat (first | (with_reducible first | exact HI342.out | apply IsS75.alloc | apply IsS75.drewN | apply IsS75.drew | apply IsS75.set_0 | apply IsS75.set_1 | apply IsS75.set_2 | refine IsS75.far ?_ NB342_343.out _) | exact HI342.out))) : gb385 ≠ g342)); clear BK343; clear HI342; clear HB; have BK343 := n0_; have HI342 := n1_; have HB := n2_; have BK385 := n3_; have GW385 := n4_; have GE385 := n5_; have NB343_385 := n6_; have NB385_343 := n7_; have NB342_385 := n8_; have NB385_342 := n9_; clear n0_ n1_ n2_ n3_ n4_ n5_ n6_ n7_ n8_ n9_; clear hb hbox hg; have hnb70 := NB385_343.out; have hnc70 := NB343_385.out; have hnb71 := NB385_342.out; have hnc71 := NB342_385.out; have hcz72_0 : w69.cell? ⟨gb385, 0, none⟩ = some (.string (⟨#[]⟩ : ByteArray)) := (blk_cell BK385.out 0).trans rfl; have hcz72_1 : w69.cell? ⟨gb385, 1, none⟩ = some (.int .i64 0) := (blk_cell BK385.out 1).trans rfl; have hcz72_2 : w69.cell? ⟨gb385, 2, none⟩ = some (.int .i64 0) := (blk_cell BK385.out 2).trans rfl; have hfz72_0 := blk_frozen BK385.out 0; have hfz72_1 := blk_frozen BK385.out 1; have hfz72_2 := blk_frozen BK385.out 2))
                          have n0_ : Aside0 ((((w69.setCell ⟨gb385, 0, none⟩ (.string t381)).setCell ⟨gb385, 1, none⟩ (.int .i64 t382)).setCell ⟨gb385, 2, none⟩ (.int .i64 t383)).heap[gb343]? = some (.cells #[.string x344000_1, .int .i64 x344001_1, .int .i64 x344002_1] 43 (0, 0))) := ⟨by (with_reducible repeat (first | refine blk_drewN ?_ _ | refine blk_drew ?_ | refine blk_alloc ?_ _)); refine blk_far ?_ NB343_385.out _; (with_reducible repeat (first | refine blk_drewN ?_ _ | refine blk_drew ?_ | refine blk_alloc ?_ _)); refine blk_far ?_ NB343_385.out _; (with_reducible repeat (first | refine blk_drewN ?_ _ | refine blk_drew ?_ | refine blk_alloc ?_ _)); refine blk_far ?_ NB343_385.out _; (with_reducible repeat (first | refine blk_drewN ?_ _ | refine blk_drew ?_ | refine blk_alloc ?_ _)); exact BK343.out⟩
                          have n1_ : Aside0 ((((w69.setCell ⟨gb385, 0, none⟩ (.string t381)).setCell ⟨gb385, 1, none⟩ (.int .i64 t382)).setCell ⟨gb385, 2, none⟩ (.int .i64 t383)).heap[gb385]? = some (.cells #[.string t381, .int .i64 t382, .int .i64 t383] 43 (0, 0))) := ⟨by (with_reducible repeat (first | refine blk_drewN ?_ _ | refine blk_drew ?_ | refine blk_alloc ?_ _)); refine blk_put (cs := #[.string t381, .int .i64 t382, .int .i64 0]) ?_ 2 _ rfl; (with_reducible repeat (first | refine blk_drewN ?_ _ | refine blk_drew ?_ | refine blk_alloc ?_ _)); refine blk_put (cs := #[.string t381, .int .i64 0, .int .i64 0]) ?_ 1 _ rfl; (with_reducible repeat (first | refine blk_drewN ?_ _ | refine blk_drew ?_ | refine blk_alloc ?_ _)); refine blk_put (cs := #[.string (⟨#[]⟩ : ByteArray), .int .i64 0, .int .i64 0]) ?_ 0 _ rfl; (with_reducible repeat (first | refine blk_drewN ?_ _ | refine blk_drew ?_ | refine blk_alloc ?_ _)); exact BK385.out⟩
                          have n2_ : Aside0 (IsS75 w (((w69.setCell ⟨gb385, 0, none⟩ (.string t381)).setCell ⟨gb385, 1, none⟩ (.int .i64 t382)).setCell ⟨gb385, 2, none⟩ (.int .i64 t383)) g342 x343000_1 x343001_1 x343002_1) := ⟨by repeat (first | (with_reducible first | exact HI342.out | apply IsS75.alloc | apply IsS75.drewN | apply IsS75.drew | apply IsS75.set_0 | apply IsS75.set_1 | apply IsS75.set_2 | refine IsS75.far ?_ NB342_343.out _ | refine IsS75.far ?_ NB342_385.out _) | exact HI342.out)⟩
                          have n3_ : Aside0 (Below w.heap.size w (((w69.setCell ⟨gb385, 0, none⟩ (.string t381)).setCell ⟨gb385, 1, none⟩ (.int .i64 t382)).setCell ⟨gb385, 2, none⟩ (.int .i64 t383))) := ⟨by repeat (first | (with_reducible first | exact HB.out | apply below_alloc | apply pw_below_drewN | apply below_drew1 | refine below_set ?_ (IsS75.ge HI342.out) | refine below_set ?_ GE343.out | refine below_set ?_ GE385.out) | exact HB.out)⟩
                          (try clear BK343)
                          (try clear BK385)
                          (try clear HI342)
                          (try clear HB)
                          generalize (((w69.setCell ⟨gb385, 0, none⟩ (.string t381)).setCell ⟨gb385, 1, none⟩ (.int .i64 t382)).setCell ⟨gb385, 2, none⟩ (.int .i64 t383)) = w73 at n0_ n1_ n2_ n3_ ⊢
                          have BK343 := n0_
                          have BK385 := n1_
                          have HI342 := n2_
                          have HB := n3_
                          clear n0_ n1_ n2_ n3_
                          have n0_ := Aside0.mk (blk_drew BK343.out)
                          have n1_ := Aside0.mk (blk_drew BK385.out)
                          have n2_ := Aside0.mk (IsS75.drew HI342.out)
                          have n3_ := Aside0.mk (below_drew1 HB.out)
                          clear BK343
                          clear BK385
                          clear HI342
                          clear HB
                          have BK343 := n0_
                          have BK385 := n1_
                          have HI342 := n2_
                          have HB := n3_
                          clear n0_ n1_ n2_ n3_
                          refine start_ (n := 8) (S := fun w' => w'.cell? ⟨gb385, 0, none⟩ = some (.string t381) ∧ w'.cell? ⟨gb385, 1, none⟩ = some (.int .i64 t382) ∧ w'.cell? ⟨gb385, 2, none⟩ = some (.int .i64 t383)) (ds := []) #[false, false, false, false, false, false, false, false] (by kernel_rfl) rfl rfl ⟨(blk_cell BK385.out 0).trans rfl, (blk_cell BK385.out 1).trans rfl, (blk_cell BK385.out 2).trans rfl⟩ (fun hHeld => ?_); refine with_tabW parchmentlaw02_EncWalks.tab21 parchmentlaw02_EncWalks.bits21 (fun HT_ HW_ => ?_)
                          generalize w73.drew = w74 at BK343 BK385 HI342 HB hHeld ⊢
                          refine pure_ (i := 1) (N := some 108) (v := ?_) (a' := ?_) #[false, true, false, false, false, false, false, false] rfl rfl (any_of HT_.out (by kernel_rfl)) (fun _ _ _ h => h) (Or.inl ⟨by rfl, ?_⟩) ?_ ?_
                          rotate_left
                          · intro w'
                            go_simp
                            with_reducible rfl
                          rotate_left
                          · simp only [Act.put, List.setIfInBounds_toArray, List.set_cons_zero, List.set_cons_succ, i64_w, i32_w]
                            rfl
                          refine pure_ (i := 2) (N := some 109) (v := ?_) (a' := ?_) #[false, true, true, false, false, false, false, false] rfl rfl (any_of HT_.out (by kernel_rfl)) (fun _ _ _ h => h) (Or.inl ⟨by rfl, ?_⟩) ?_ ?_
                          rotate_left
                          · intro w'
                            go_simp
                            with_reducible rfl
                          rotate_left
                          · simp only [Act.put, List.setIfInBounds_toArray, List.set_cons_zero, List.set_cons_succ, i64_w, i32_w]
                            rfl
                          refine pure_ (i := 4) (N := some 111) (v := ?_) (a' := ?_) #[false, true, true, false, true, false, false, false] rfl rfl (any_of HT_.out (by kernel_rfl)) (fun _ _ _ h => h) (Or.inl ⟨by rfl, ?_⟩) ?_ ?_
                          rotate_left
                          · intro w'
                            go_simp
                            with_reducible rfl
                          rotate_left
                          · simp only [Act.put, List.setIfInBounds_toArray, List.set_cons_zero, List.set_cons_succ, i64_w, i32_w]
                            rfl
                          refine take_ (i := 0) (N := some 107) (v := ?_) (a' := ?_) #[true, true, true, false, true, false, false, false] rfl rfl (take_ofW HT_.out HW_.out (by kernel_rfl)) (fun _ _ _ h => h) (Or.inl ⟨by rfl, ?_⟩) hHeld ?_ ?_
                          rotate_left
                          · rintro w' ⟨s0, s1, s2⟩
                            go_simp
                            with_reducible rfl
                          rotate_left
                          · simp only [Act.put, List.setIfInBounds_toArray, List.set_cons_zero, List.set_cons_succ, i64_w, i32_w]
                            rfl
                          refine one_ (i := 3) (N := some 110) #[true, true, true, true, true, false, false, false] rfl rfl (one_of HT_.out (by kernel_rfl)) (by decide) (fun K hK => ?_)
                          refine goes_ Try.func42 (by kernel_rfl) rfl #[.pointer (some ⟨g342, 0, none⟩), .int .i64 ((rd_T60 l1 x8_1).f1)] (by rfl) rfl rfl (by (try simp only [List.map_toArray, List.map_cons, List.map_nil]); first | done | rfl | (simp only [List.length_drop, List.length_take]; rfl)) ?_
                          with_reducible refine (enc_Cursor_Text.calls kj8 g342 x343000_1 x343001_1 x343002_1 ((rd_T60 l1 x8_1).f1) t386 t387 t388 t389 w _ ?side1 ?side2 A65.out).mono ?_
                          (case side1 => repeat (first | (with_reducible first | exact HI342.out | apply IsS75.alloc | apply IsS75.drewN | apply IsS75.drew | apply IsS75.set_0 | apply IsS75.set_1 | apply IsS75.set_2 | refine IsS75.far ?_ NB342_343.out _ | refine IsS75.far ?_ NB342_385.out _) | exact HI342.out))
                          (case side2 => repeat (first | (with_reducible first | exact HB.out | apply below_alloc | apply pw_below_drewN | apply below_drew1 | refine below_set ?_ (IsS75.ge HI342.out) | refine below_set ?_ GE343.out | refine below_set ?_ GE385.out) | exact HB.out))
                          rintro e w75 ⟨rfl, hi, hb, hk⟩
                          refine ⟨_, rfl, ?_⟩
                          have n0_ := Aside0.mk (KeepBut.blk hk (g' := gb343) (o := .cells #[.string x344000_1, .int .i64 x344001_1, .int .i64 x344002_1] 43 (0, 0)) (by (with_reducible repeat (first | refine blk_drewN ?_ _ | refine blk_drew ?_ | refine blk_alloc ?_ _)); exact BK343.out) NB343_342.out (by simp))
                          have n1_ := Aside0.mk (KeepBut.blk hk (g' := gb385) (o := .cells #[.string t381, .int .i64 t382, .int .i64 t383] 43 (0, 0)) (by (with_reducible repeat (first | refine blk_drewN ?_ _ | refine blk_drew ?_ | refine blk_alloc ?_ _)); exact BK385.out) NB385_342.out (by simp))
                          have n2_ := Aside0.mk (hb)
                          have n3_ := Aside0.mk (hi)
                          clear BK343
                          clear BK385
                          clear HB
                          clear HI342
                          have BK343 := n0_
                          have BK385 := n1_
                          have HB := n2_
                          have HI342 := n3_
                          clear n0_ n1_ n2_ n3_
                          (try clear hb)
                          (try clear hb2)
                          (try clear hk)
                          (try clear hi)
                          refine hK.out _ _ ⟨(blk_cell BK385.out 0).trans rfl, (blk_cell BK385.out 1).trans rfl, (blk_cell BK385.out 2).trans rfl⟩ (fun hHeld => ?_)
                          clear hK K
                          refine norm_ (a' := ?_) ?_ ?_
                          rotate_left
                          · show Act.put _ (some 110) _ = _
                            simp only [Act.put, List.setIfInBounds_toArray, List.set_cons_zero, List.set_cons_succ, i64_w, i32_w]
                            rfl
                          refine pure_ (i := 5) (N := some 112) (v := ?_) (a' := ?_) #[true, true, true, true, true, true, false, false] rfl rfl (any_of HT_.out (by kernel_rfl)) (fun _ _ _ h => h) (Or.inl ⟨by rfl, ?_⟩) ?_ ?_
                          rotate_left
                          · intro w'
                            go_simp
                            with_reducible rfl
                          rotate_left
                          · simp only [Act.put, List.setIfInBounds_toArray, List.set_cons_zero, List.set_cons_succ, i64_w, i32_w]
                            rfl
                          refine one_ (i := 6) (N := none) #[true, true, true, true, true, true, true, false] rfl rfl (one_of HT_.out (by kernel_rfl)) (by decide) (fun K hK => ?_)
                          have hs76 : w75.cell? ⟨gb343, 0, none⟩ = some (.string x344000_1) := (blk_cell BK343.out 0).trans rfl
                          have hfs76 := blk_frozen BK343.out 0
                          have hns76_1 := NB385_343.out
                          have hms76_1 := NB343_385.out
                          have hs77 : w75.cell? ⟨gb343, 1, none⟩ = some (.int .i64 x344001_1) := (blk_cell BK343.out 1).trans rfl
                          have hfs77 := blk_frozen BK343.out 1
                          have hns77_1 := NB385_343.out
                          have hms77_1 := NB343_385.out
                          have hs78 : w75.cell? ⟨gb343, 2, none⟩ = some (.int .i64 x344002_1) := (blk_cell BK343.out 2).trans rfl
                          have hfs78 := blk_frozen BK343.out 2
                          have hns78_1 := NB385_343.out
                          have hms78_1 := NB343_385.out
                          refine skip_ (w1 := ?_) (by rfl) rfl ?_ ?_
                          rotate_left
                          · go_simp
                            rfl
                          refine hK.out _ _ ⟨((cell_far (p := ⟨gb343, _, none⟩) NB385_343.out _).trans (((cell_far (p := ⟨gb343, _, none⟩) NB385_343.out _).trans (((cell_far (p := ⟨gb343, _, none⟩) NB385_343.out _).trans (hHeld.1)))))), ((cell_far (p := ⟨gb343, _, none⟩) NB385_343.out _).trans (((cell_far (p := ⟨gb343, _, none⟩) NB385_343.out _).trans (((cell_far (p := ⟨gb343, _, none⟩) NB385_343.out _).trans (hHeld.2.1)))))), ((cell_far (p := ⟨gb343, _, none⟩) NB385_343.out _).trans (((cell_far (p := ⟨gb343, _, none⟩) NB385_343.out _).trans (((cell_far (p := ⟨gb343, _, none⟩) NB385_343.out _).trans (hHeld.2.2))))))⟩ (fun hHeld => ?_)
                          clear hK K
                          refine pure_ (i := 7) (N := some 10) (v := ?_) (a' := ?_) #[true, true, true, true, true, true, true, true] rfl rfl (any_of HT_.out (by kernel_rfl)) (fun _ _ _ h => h) (Or.inl ⟨by rfl, ?_⟩) ?_ ?_
                          rotate_left
                          · intro w'
                            go_simp
                            with_reducible rfl
                          rotate_left
                          · simp only [Act.put, List.setIfInBounds_toArray, List.set_cons_zero, List.set_cons_succ, i64_w, i32_w]
                            rfl
                          refine done_ (done_of HT_.out (by kernel_rfl)) ?_
                          try go_wp2
                          go_meet
                          case rel => exact ⟨_, ((t386.toList == t384.toList)), (t387), (t388), (t389), (t381), (t382), (t383), (by first | rfl | (simp; done) | (simp [*]; done)), H', ⟨by have := HK1.out; have := HJ8.out; first | omega | exact Nat.le_refl _⟩, ⟨by (with_reducible repeat (first | refine blk_drewN ?_ _ | refine blk_drew ?_ | refine blk_alloc ?_ _)); refine blk_put (cs := #[.string t381, .int .i64 t382, .int .i64 x344002_1]) ?_ 2 _ rfl; (with_reducible repeat (first | refine blk_drewN ?_ _ | refine blk_drew ?_ | refine blk_alloc ?_ _)); refine blk_put (cs := #[.string t381, .int .i64 x344001_1, .int .i64 x344002_1]) ?_ 1 _ rfl; (with_reducible repeat (first | refine blk_drewN ?_ _ | refine blk_drew ?_ | refine blk_alloc ?_ _)); refine blk_put (cs := #[.string x344000_1, .int .i64 x344001_1, .int .i64 x344002_1]) ?_ 0 _ rfl; (with_reducible repeat (first | refine blk_drewN ?_ _ | refine blk_drew ?_ | refine blk_alloc ?_ _)); exact BK343.out⟩, ⟨by repeat (first | (with_reducible first | exact HI342.out | apply IsS75.alloc | apply IsS75.drewN | apply IsS75.drew | apply IsS75.set_0 | apply IsS75.set_1 | apply IsS75.set_2 | refine IsS75.far ?_ NB342_343.out _ | refine IsS75.far ?_ NB342_385.out _) | exact HI342.out)⟩, ⟨by repeat (first | (with_reducible first | exact HB.out | apply below_alloc | apply pw_below_drewN | apply below_drew1 | refine below_set ?_ (IsS75.ge HI342.out) | refine below_set ?_ GE343.out | refine below_set ?_ GE385.out) | exact HB.out)⟩⟩
                        · rw [if_neg c63] at H
                          have c63b0 : (((rd_T60 l1 x8_1).f0) == 4) = false := beq_eq_false_iff_ne.mpr c63
                          have c63b1 : (((rd_T60 l1 x8_1).f0) != 4) = true := bne_iff_ne.mpr c63
                          by_cases c79 : ((rd_T60 l1 x8_1).f0) = 5
                          · rw [if_pos c79] at H
                            have c79b0 : (((rd_T60 l1 x8_1).f0) == 5) = true := beq_iff_eq.mpr c79
                            have c79b1 : (((rd_T60 l1 x8_1).f0) != 5) = false := bne_eq_false_iff_eq.mpr c79
                            clear c79
                            replace H := Option.bind_eq_some_iff.mp H
                            obtain ⟨⟨t390, t391, t392, t393⟩, A800, H⟩ := H
                            replace H : ((enc_Cursor_Bool.f x343000_1 x343001_1 x343002_1).bind fun bt395 => (parchmentlaw02_EncWalks.j2 kj8 l1 x8_1 (bt395.1 == t393) bt395.2.1 bt395.2.2.1 bt395.2.2.2 t390 t391 t392)) = some r := H
                            have A80 := Aside0.mk A800
                            clear A800
                            replace H := Option.bind_eq_some_iff.mp H
                            obtain ⟨⟨t395, t396, t397, t398⟩, A810, H⟩ := H
                            replace H : (parchmentlaw02_EncWalks.j2 kj8 l1 x8_1 (t395 == t393) t396 t397 t398 t390 t391 t392) = some r := H
                            have A81 := Aside0.mk A810
                            clear A810
                            have H' := Aside0.mk H
                            clear H
                            have hnb82 := NB343_342.out
                            have hnc82 := NB342_343.out
                            have hcz83_0 : wc.cell? ⟨gb343, 0, none⟩ = some (.string x344000_1) := (blk_cell BK343.out 0).trans rfl
                            have hcz83_1 : wc.cell? ⟨gb343, 1, none⟩ = some (.int .i64 x344001_1) := (blk_cell BK343.out 1).trans rfl
                            have hcz83_2 : wc.cell? ⟨gb343, 2, none⟩ = some (.int .i64 x344002_1) := (blk_cell BK343.out 2).trans rfl
                            have hfz83_0 := blk_frozen BK343.out 0
                            have hfz83_1 := blk_frozen BK343.out 1
                            have hfz83_2 := blk_frozen BK343.out 2
                            try go_wp2_with (first | ((with_reducible refine gate_callee (f := 50) rfl ?_); refine goesL_ (some 117) rfl rfl Try.func50 (by kernel_rfl) rfl #[.agg #[.string x344000_1, .int .i64 x344001_1, .int .i64 x344002_1]] rfl (by (try simp only [List.map_toArray, List.map_cons, List.map_nil]); first | done | rfl | (simp only [List.length_drop, List.length_take]; rfl)) ?_; (with_reducible refine (parchmentref02_Cursor_Bool.calls x344000_1 x344001_1 x344002_1 t390 t391 t392 t393 _ A80.out).mono ?_); rintro e w84 ⟨rfl, hb⟩; refine ⟨_, rfl, ?_⟩; have n0_ := Aside0.mk (blk_below (g := gb343) (o := .cells #[.string x344000_1, .int .i64 x344001_1, .int .i64 x344002_1] 43 (0, 0)) (by (with_reducible repeat (first | refine blk_drewN ?_ _ | refine blk_drew ?_ | refine blk_alloc ?_ _)); exact BK343.out) hb); have n1_ := Aside0.mk (IsS75.below (by repeat (first | (with_reducible first | exact HI342.out | apply IsS75.alloc | apply IsS75.drewN | apply IsS75.drew | apply IsS75.set_0 | apply IsS75.set_1 | apply IsS75.set_2 | refine IsS75.far ?_ NB342_343.out _) | exact HI342.out)) hb); have n2_ := Aside0.mk (below_step (by repeat (first | (with_reducible first | exact HB.out | apply below_alloc | apply pw_below_drewN | apply below_drew1 | refine below_set ?_ (IsS75.ge HI342.out) | refine below_set ?_ GE343.out) | exact HB.out)) hb); clear BK343; clear HI342; clear HB; have BK343 := n0_; have HI342 := n1_; have HB := n2_; clear n0_ n1_ n2_; (try clear hb); (try clear hb2); (try clear hk); (try clear hi)) | ((with_reducible refine gate_dst (N := 19) rfl ?_); refine box_event ?hg (N := 19) ?hd (cs := #[.string (⟨#[]⟩ : ByteArray), .int .i64 0, .int .i64 0]) (t := 43) ?hr ?_; (case hd => rfl); (case hg => rfl); (case hr => first | (go_simp; done) | (go_simp; rfl)); intro gb394 hg w85 hbox hb; have n0_ := Aside0.mk (blk_below (g := gb343) (o := .cells #[.string x344000_1, .int .i64 x344001_1, .int .i64 x344002_1] 43 (0, 0)) (by (with_reducible repeat (first | refine blk_drewN ?_ _ | refine blk_drew ?_ | refine blk_alloc ?_ _)); exact BK343.out) hb); have n1_ := Aside0.mk (IsS75.below (by repeat (first | (with_reducible first | exact HI342.out | apply IsS75.alloc | apply IsS75.drewN | apply IsS75.drew | apply IsS75.set_0 | apply IsS75.set_1 | apply IsS75.set_2 | refine IsS75.far ?_ NB342_343.out _) | exact HI342.out)) hb); have n2_ := Aside0.mk (below_step (by repeat (first | (with_reducible first | exact HB.out | apply below_alloc | apply pw_below_drewN | apply below_drew1 | refine below_set ?_ (IsS75.ge HI342.out) | refine below_set ?_ GE343.out) | exact HB.out)) hb); have n3_ := Aside0.mk (hbox); have n4_ := Aside0.mk ((by rw [hg]; exact (below_size (by repeat (first | (with_reducible first | exact HB.out | apply below_alloc | apply pw_below_drewN | apply below_drew1 | refine below_set ?_ (IsS75.ge HI342.out) | refine below_set ?_ GE343.out) | exact HB.out))) : w.heap.size ≤ gb394)); have n5_ := Aside0.mk ((by rw [hg]; exact (below_size (by repeat (first | (with_reducible first | exact HB.out | apply below_alloc | apply pw_below_drewN | apply below_drew1 | refine below_set ?_ (IsS75.ge HI342.out) | refine below_set ?_ GE343.out) | exact HB.out))) : w.heap.size ≤ gb394)); have n6_ := Aside0.mk ((by rw [hg]; exact Nat.ne_of_lt (blk_lt (g := gb343) (o := .cells #[.string x344000_1, .int .i64 x344001_1, .int .i64 x344002_1] 43 (0, 0)) (by (with_reducible repeat (first | refine blk_drewN ?_ _ | refine blk_drew ?_ | refine blk_alloc ?_ _)); exact BK343.out)) : gb343 ≠ gb394)); have n7_ := Aside0.mk ((by rw [hg]; exact Nat.ne_of_gt (blk_lt (g := gb343) (o := .cells #[.string x344000_1, .int .i64 x344001_1, .int .i64 x344002_1] 43 (0, 0)) (by (with_reducible repeat (first | refine blk_drewN ?_ _ | refine blk_drew ?_ | refine blk_alloc ?_ _)); exact BK343.out)) : gb394 ≠ gb343)); have n8_ := Aside0.mk ((by rw [hg]; exact Nat.ne_of_lt (IsS75.lt (show IsS75 w _ g342 x343000_1 x343001_1 x343002_1 from by repeat (first | (with_reducible first | exact HI342.out | apply IsS75.alloc | apply IsS75.drewN | apply IsS75.drew | apply IsS75.set_0 | apply IsS75.set_1 | apply IsS75.set_2 | refine IsS75.far ?_ NB342_343.out _) | exact HI342.out))) : g342 ≠ gb394)); have n9_ := Aside0.mk ((by rw [hg]; exact Nat.ne_of_gt (IsS75.lt (show IsS75 w _ g342 x343000_1 x343001_1 x343002_1 from by repeat (first | (with_reducible first | exact HI342.out | apply IsS75.alloc | apply IsS75.drewN | apply IsS75.drew | apply IsS75.set_0 | apply IsS75.set_1 | apply IsS75.set_2 | refine IsS75.far ?_ NB342_343.out _) | exact HI342.out))) : gb394 ≠ g342)); clear BK343; clear HI342; clear HB; have BK343 := n0_; have HI342 := n1_; have HB := n2_; have BK394 := n3_; have GW394 := n4_; have GE394 := n5_; have NB343_394 := n6_; have NB394_343 := n7_; have NB342_394 := n8_; have NB394_342 := n9_; clear n0_ n1_ n2_ n3_ n4_ n5_ n6_ n7_ n8_ n9_; clear hb hbox hg; have hnb86 := NB394_343.out; have hnc86 := NB343_394.out; have hnb87 := NB394_342.out; have hnc87 := NB342_394.out; have hcz88_0 : w85.cell? ⟨gb394, 0, none⟩ = some (.string (⟨#[]⟩ : ByteArray)) := (blk_cell BK394.out 0).trans rfl; have hcz88_1 : w85.cell? ⟨gb394, 1, none⟩ = some (.int .i64 0) := (blk_cell BK394.out 1).trans rfl; have hcz88_2 : w85.cell? ⟨gb394, 2, none⟩ = some (.int .i64 0) := (blk_cell BK394.out 2).trans rfl; have hfz88_0 := blk_frozen BK394.out 0; have hfz88_1 := blk_frozen BK394.out 1; have hfz88_2 := blk_frozen BK394.out 2))
                            have n0_ : Aside0 ((((w85.setCell ⟨gb394, 0, none⟩ (.string t390)).setCell ⟨gb394, 1, none⟩ (.int .i64 t391)).setCell ⟨gb394, 2, none⟩ (.int .i64 t392)).heap[gb343]? = some (.cells #[.string x344000_1, .int .i64 x344001_1, .int .i64 x344002_1] 43 (0, 0))) := ⟨by (with_reducible repeat (first | refine blk_drewN ?_ _ | refine blk_drew ?_ | refine blk_alloc ?_ _)); refine blk_far ?_ NB343_394.out _; (with_reducible repeat (first | refine blk_drewN ?_ _ | refine blk_drew ?_ | refine blk_alloc ?_ _)); refine blk_far ?_ NB343_394.out _; (with_reducible repeat (first | refine blk_drewN ?_ _ | refine blk_drew ?_ | refine blk_alloc ?_ _)); refine blk_far ?_ NB343_394.out _; (with_reducible repeat (first | refine blk_drewN ?_ _ | refine blk_drew ?_ | refine blk_alloc ?_ _)); exact BK343.out⟩
                            have n1_ : Aside0 ((((w85.setCell ⟨gb394, 0, none⟩ (.string t390)).setCell ⟨gb394, 1, none⟩ (.int .i64 t391)).setCell ⟨gb394, 2, none⟩ (.int .i64 t392)).heap[gb394]? = some (.cells #[.string t390, .int .i64 t391, .int .i64 t392] 43 (0, 0))) := ⟨by (with_reducible repeat (first | refine blk_drewN ?_ _ | refine blk_drew ?_ | refine blk_alloc ?_ _)); refine blk_put (cs := #[.string t390, .int .i64 t391, .int .i64 0]) ?_ 2 _ rfl; (with_reducible repeat (first | refine blk_drewN ?_ _ | refine blk_drew ?_ | refine blk_alloc ?_ _)); refine blk_put (cs := #[.string t390, .int .i64 0, .int .i64 0]) ?_ 1 _ rfl; (with_reducible repeat (first | refine blk_drewN ?_ _ | refine blk_drew ?_ | refine blk_alloc ?_ _)); refine blk_put (cs := #[.string (⟨#[]⟩ : ByteArray), .int .i64 0, .int .i64 0]) ?_ 0 _ rfl; (with_reducible repeat (first | refine blk_drewN ?_ _ | refine blk_drew ?_ | refine blk_alloc ?_ _)); exact BK394.out⟩
                            have n2_ : Aside0 (IsS75 w (((w85.setCell ⟨gb394, 0, none⟩ (.string t390)).setCell ⟨gb394, 1, none⟩ (.int .i64 t391)).setCell ⟨gb394, 2, none⟩ (.int .i64 t392)) g342 x343000_1 x343001_1 x343002_1) := ⟨by repeat (first | (with_reducible first | exact HI342.out | apply IsS75.alloc | apply IsS75.drewN | apply IsS75.drew | apply IsS75.set_0 | apply IsS75.set_1 | apply IsS75.set_2 | refine IsS75.far ?_ NB342_343.out _ | refine IsS75.far ?_ NB342_394.out _) | exact HI342.out)⟩
                            have n3_ : Aside0 (Below w.heap.size w (((w85.setCell ⟨gb394, 0, none⟩ (.string t390)).setCell ⟨gb394, 1, none⟩ (.int .i64 t391)).setCell ⟨gb394, 2, none⟩ (.int .i64 t392))) := ⟨by repeat (first | (with_reducible first | exact HB.out | apply below_alloc | apply pw_below_drewN | apply below_drew1 | refine below_set ?_ (IsS75.ge HI342.out) | refine below_set ?_ GE343.out | refine below_set ?_ GE394.out) | exact HB.out)⟩
                            (try clear BK343)
                            (try clear BK394)
                            (try clear HI342)
                            (try clear HB)
                            generalize (((w85.setCell ⟨gb394, 0, none⟩ (.string t390)).setCell ⟨gb394, 1, none⟩ (.int .i64 t391)).setCell ⟨gb394, 2, none⟩ (.int .i64 t392)) = w89 at n0_ n1_ n2_ n3_ ⊢
                            have BK343 := n0_
                            have BK394 := n1_
                            have HI342 := n2_
                            have HB := n3_
                            clear n0_ n1_ n2_ n3_
                            have n0_ := Aside0.mk (blk_drew BK343.out)
                            have n1_ := Aside0.mk (blk_drew BK394.out)
                            have n2_ := Aside0.mk (IsS75.drew HI342.out)
                            have n3_ := Aside0.mk (below_drew1 HB.out)
                            clear BK343
                            clear BK394
                            clear HI342
                            clear HB
                            have BK343 := n0_
                            have BK394 := n1_
                            have HI342 := n2_
                            have HB := n3_
                            clear n0_ n1_ n2_ n3_
                            refine start_ (n := 7) (S := fun w' => w'.cell? ⟨gb394, 0, none⟩ = some (.string t390) ∧ w'.cell? ⟨gb394, 1, none⟩ = some (.int .i64 t391) ∧ w'.cell? ⟨gb394, 2, none⟩ = some (.int .i64 t392)) (ds := []) #[false, false, false, false, false, false, false] (by kernel_rfl) rfl rfl ⟨(blk_cell BK394.out 0).trans rfl, (blk_cell BK394.out 1).trans rfl, (blk_cell BK394.out 2).trans rfl⟩ (fun hHeld => ?_)
                            generalize w89.drew = w90 at BK343 BK394 HI342 HB hHeld ⊢
                            refine pure_ (i := 1) (N := some 121) (v := ?_) (a' := ?_) #[false, true, false, false, false, false, false] rfl rfl (by kernel_rfl) (fun _ _ _ h => h) (Or.inl ⟨by rfl, ?_⟩) ?_ ?_
                            rotate_left
                            · intro w'
                              go_simp
                              with_reducible rfl
                            rotate_left
                            · simp only [Act.put, List.setIfInBounds_toArray, List.set_cons_zero, List.set_cons_succ, i64_w, i32_w]
                              rfl
                            refine pure_ (i := 3) (N := some 123) (v := ?_) (a' := ?_) #[false, true, false, true, false, false, false] rfl rfl (by kernel_rfl) (fun _ _ _ h => h) (Or.inl ⟨by rfl, ?_⟩) ?_ ?_
                            rotate_left
                            · intro w'
                              go_simp
                              with_reducible rfl
                            rotate_left
                            · simp only [Act.put, List.setIfInBounds_toArray, List.set_cons_zero, List.set_cons_succ, i64_w, i32_w]
                              rfl
                            refine take_ (i := 0) (N := some 120) (v := ?_) (a' := ?_) #[true, true, false, true, false, false, false] rfl rfl (by kernel_rfl) (fun _ _ _ h => h) (Or.inl ⟨by rfl, ?_⟩) hHeld ?_ ?_
                            rotate_left
                            · rintro w' ⟨s0, s1, s2⟩
                              go_simp
                              with_reducible rfl
                            rotate_left
                            · simp only [Act.put, List.setIfInBounds_toArray, List.set_cons_zero, List.set_cons_succ, i64_w, i32_w]
                              rfl
                            refine one_ (i := 2) (N := some 122) #[true, true, true, true, false, false, false] rfl rfl (by kernel_rfl) (by decide) (fun K hK => ?_)
                            refine goes_ Try.func45 (by kernel_rfl) rfl #[.pointer (some ⟨g342, 0, none⟩)] (by rfl) rfl rfl (by (try simp only [List.map_toArray, List.map_cons, List.map_nil]); first | done | rfl | (simp only [List.length_drop, List.length_take]; rfl)) ?_
                            with_reducible refine (enc_Cursor_Bool.calls g342 x343000_1 x343001_1 x343002_1 t395 t396 t397 t398 w _ ?side1 ?side2 A81.out).mono ?_
                            (case side1 => repeat (first | (with_reducible first | exact HI342.out | apply IsS75.alloc | apply IsS75.drewN | apply IsS75.drew | apply IsS75.set_0 | apply IsS75.set_1 | apply IsS75.set_2 | refine IsS75.far ?_ NB342_343.out _ | refine IsS75.far ?_ NB342_394.out _) | exact HI342.out))
                            (case side2 => repeat (first | (with_reducible first | exact HB.out | apply below_alloc | apply pw_below_drewN | apply below_drew1 | refine below_set ?_ (IsS75.ge HI342.out) | refine below_set ?_ GE343.out | refine below_set ?_ GE394.out) | exact HB.out))
                            rintro e w91 ⟨rfl, hi, hb, hk⟩
                            refine ⟨_, rfl, ?_⟩
                            have n0_ := Aside0.mk (KeepBut.blk hk (g' := gb343) (o := .cells #[.string x344000_1, .int .i64 x344001_1, .int .i64 x344002_1] 43 (0, 0)) (by (with_reducible repeat (first | refine blk_drewN ?_ _ | refine blk_drew ?_ | refine blk_alloc ?_ _)); exact BK343.out) NB343_342.out (by simp))
                            have n1_ := Aside0.mk (KeepBut.blk hk (g' := gb394) (o := .cells #[.string t390, .int .i64 t391, .int .i64 t392] 43 (0, 0)) (by (with_reducible repeat (first | refine blk_drewN ?_ _ | refine blk_drew ?_ | refine blk_alloc ?_ _)); exact BK394.out) NB394_342.out (by simp))
                            have n2_ := Aside0.mk (hb)
                            have n3_ := Aside0.mk (hi)
                            clear BK343
                            clear BK394
                            clear HB
                            clear HI342
                            have BK343 := n0_
                            have BK394 := n1_
                            have HB := n2_
                            have HI342 := n3_
                            clear n0_ n1_ n2_ n3_
                            (try clear hb)
                            (try clear hb2)
                            (try clear hk)
                            (try clear hi)
                            refine hK.out _ _ ⟨(blk_cell BK394.out 0).trans rfl, (blk_cell BK394.out 1).trans rfl, (blk_cell BK394.out 2).trans rfl⟩ (fun hHeld => ?_)
                            clear hK K
                            refine norm_ (a' := ?_) ?_ ?_
                            rotate_left
                            · show Act.put _ (some 122) _ = _
                              simp only [Act.put, List.setIfInBounds_toArray, List.set_cons_zero, List.set_cons_succ, i64_w, i32_w]
                              rfl
                            refine pure_ (i := 4) (N := some 124) (v := ?_) (a' := ?_) #[true, true, true, true, true, false, false] rfl rfl (by kernel_rfl) (fun _ _ _ h => h) (Or.inl ⟨by rfl, ?_⟩) ?_ ?_
                            rotate_left
                            · intro w'
                              go_simp
                              with_reducible rfl
                            rotate_left
                            · simp only [Act.put, List.setIfInBounds_toArray, List.set_cons_zero, List.set_cons_succ, i64_w, i32_w]
                              rfl
                            refine one_ (i := 5) (N := none) #[true, true, true, true, true, true, false] rfl rfl (by kernel_rfl) (by decide) (fun K hK => ?_)
                            have hs92 : w91.cell? ⟨gb343, 0, none⟩ = some (.string x344000_1) := (blk_cell BK343.out 0).trans rfl
                            have hfs92 := blk_frozen BK343.out 0
                            have hns92_1 := NB394_343.out
                            have hms92_1 := NB343_394.out
                            have hs93 : w91.cell? ⟨gb343, 1, none⟩ = some (.int .i64 x344001_1) := (blk_cell BK343.out 1).trans rfl
                            have hfs93 := blk_frozen BK343.out 1
                            have hns93_1 := NB394_343.out
                            have hms93_1 := NB343_394.out
                            have hs94 : w91.cell? ⟨gb343, 2, none⟩ = some (.int .i64 x344002_1) := (blk_cell BK343.out 2).trans rfl
                            have hfs94 := blk_frozen BK343.out 2
                            have hns94_1 := NB394_343.out
                            have hms94_1 := NB343_394.out
                            refine skip_ (w1 := ?_) (by rfl) rfl ?_ ?_
                            rotate_left
                            · go_simp
                              rfl
                            refine hK.out _ _ ⟨((cell_far (p := ⟨gb343, _, none⟩) NB394_343.out _).trans (((cell_far (p := ⟨gb343, _, none⟩) NB394_343.out _).trans (((cell_far (p := ⟨gb343, _, none⟩) NB394_343.out _).trans (hHeld.1)))))), ((cell_far (p := ⟨gb343, _, none⟩) NB394_343.out _).trans (((cell_far (p := ⟨gb343, _, none⟩) NB394_343.out _).trans (((cell_far (p := ⟨gb343, _, none⟩) NB394_343.out _).trans (hHeld.2.1)))))), ((cell_far (p := ⟨gb343, _, none⟩) NB394_343.out _).trans (((cell_far (p := ⟨gb343, _, none⟩) NB394_343.out _).trans (((cell_far (p := ⟨gb343, _, none⟩) NB394_343.out _).trans (hHeld.2.2))))))⟩ (fun hHeld => ?_)
                            clear hK K
                            refine pure_ (i := 6) (N := some 10) (v := ?_) (a' := ?_) #[true, true, true, true, true, true, true] rfl rfl (by kernel_rfl) (fun _ _ _ h => h) (Or.inl ⟨by rfl, ?_⟩) ?_ ?_
                            rotate_left
                            · intro w'
                              go_simp
                              with_reducible rfl
                            rotate_left
                            · simp only [Act.put, List.setIfInBounds_toArray, List.set_cons_zero, List.set_cons_succ, i64_w, i32_w]
                              rfl
                            refine done_ (by kernel_rfl) ?_
                            try go_wp2
                            go_meet
                            case rel => exact ⟨_, ((t395 == t393)), (t396), (t397), (t398), (t390), (t391), (t392), (by first | rfl | (simp; done) | (simp [*]; done)), H', ⟨by have := HK1.out; have := HJ8.out; first | omega | exact Nat.le_refl _⟩, ⟨by (with_reducible repeat (first | refine blk_drewN ?_ _ | refine blk_drew ?_ | refine blk_alloc ?_ _)); refine blk_put (cs := #[.string t390, .int .i64 t391, .int .i64 x344002_1]) ?_ 2 _ rfl; (with_reducible repeat (first | refine blk_drewN ?_ _ | refine blk_drew ?_ | refine blk_alloc ?_ _)); refine blk_put (cs := #[.string t390, .int .i64 x344001_1, .int .i64 x344002_1]) ?_ 1 _ rfl; (with_reducible repeat (first | refine blk_drewN ?_ _ | refine blk_drew ?_ | refine blk_alloc ?_ _)); refine blk_put (cs := #[.string x344000_1, .int .i64 x344001_1, .int .i64 x344002_1]) ?_ 0 _ rfl; (with_reducible repeat (first | refine blk_drewN ?_ _ | refine blk_drew ?_ | refine blk_alloc ?_ _)); exact BK343.out⟩, ⟨by repeat (first | (with_reducible first | exact HI342.out | apply IsS75.alloc | apply IsS75.drewN | apply IsS75.drew | apply IsS75.set_0 | apply IsS75.set_1 | apply IsS75.set_2 | refine IsS75.far ?_ NB342_343.out _ | refine IsS75.far ?_ NB342_394.out _) | exact HI342.out)⟩, ⟨by repeat (first | (with_reducible first | exact HB.out | apply below_alloc | apply pw_below_drewN | apply below_drew1 | refine below_set ?_ (IsS75.ge HI342.out) | refine below_set ?_ GE343.out | refine below_set ?_ GE394.out) | exact HB.out)⟩⟩
                          · rw [if_neg c79] at H
                            have c79b0 : (((rd_T60 l1 x8_1).f0) == 5) = false := beq_eq_false_iff_ne.mpr c79
                            have c79b1 : (((rd_T60 l1 x8_1).f0) != 5) = true := bne_iff_ne.mpr c79
                            by_cases c95 : ((rd_T60 l1 x8_1).f0) = 6
                            · rw [if_pos c95] at H
                              have c95b0 : (((rd_T60 l1 x8_1).f0) == 6) = true := beq_iff_eq.mpr c95
                              have c95b1 : (((rd_T60 l1 x8_1).f0) != 6) = false := bne_eq_false_iff_eq.mpr c95
                              clear c95
                              replace H := Option.bind_eq_some_iff.mp H
                              obtain ⟨⟨t399, t400, t401⟩, A960, H⟩ := H
                              replace H : (if x344002_1 = 0 then (parchmentlaw02_EncWalks.j2 kj8 l1 x8_1 true t399 t400 t401 x344000_1 x344001_1 7) else (parchmentlaw02_EncWalks.j2 kj8 l1 x8_1 true t399 t400 t401 x344000_1 x344001_1 x344002_1)) = some r := H
                              have A96 := Aside0.mk A960
                              clear A960
                              by_cases c97 : x344002_1 = 0
                              · rw [if_pos c97] at H
                                have c97b0 : (x344002_1 == 0) = true := beq_iff_eq.mpr c97
                                have c97b1 : (x344002_1 != 0) = false := bne_eq_false_iff_eq.mpr c97
                                clear c97
                                have H' := Aside0.mk H
                                clear H
                                go_wp2_with (first | ((with_reducible refine gate_callee (f := 51) rfl ?_); refine goesL_ (some 128) rfl rfl Try.func51 (by kernel_rfl) rfl #[.pointer (some ⟨g342, 0, none⟩), .int .i64 7] rfl (by (try simp only [List.map_toArray, List.map_cons, List.map_nil]); first | done | rfl | (simp only [List.length_drop, List.length_take]; rfl)) ?_; (with_reducible refine (enc_Cursor_Fail.calls g342 x343000_1 x343001_1 x343002_1 7 t399 t400 t401 w _ ?side1 ?side2 A96.out).mono ?_); (case side1 => repeat (first | (with_reducible first | exact HI342.out | apply IsS75.alloc | apply IsS75.drewN | apply IsS75.drew | apply IsS75.set_0 | apply IsS75.set_1 | apply IsS75.set_2 | refine IsS75.far ?_ NB342_343.out _) | exact HI342.out)); (case side2 => repeat (first | (with_reducible first | exact HB.out | apply below_alloc | apply pw_below_drewN | apply below_drew1 | refine below_set ?_ (IsS75.ge HI342.out) | refine below_set ?_ GE343.out) | exact HB.out)); rintro e w98 ⟨rfl, hi, hb, hk⟩; refine ⟨_, rfl, ?_⟩; have n0_ := Aside0.mk (KeepBut.blk hk (g' := gb343) (o := .cells #[.string x344000_1, .int .i64 x344001_1, .int .i64 x344002_1] 43 (0, 0)) (by (with_reducible repeat (first | refine blk_drewN ?_ _ | refine blk_drew ?_ | refine blk_alloc ?_ _)); exact BK343.out) NB343_342.out (by simp)); have n1_ := Aside0.mk (hb); have n2_ := Aside0.mk (hi); clear BK343; clear HB; clear HI342; have BK343 := n0_; have HB := n1_; have HI342 := n2_; clear n0_ n1_ n2_; (try clear hb); (try clear hb2); (try clear hk); (try clear hi); have hnb99 := NB343_342.out; have hnc99 := NB342_343.out; have hcz100_0 : w98.cell? ⟨gb343, 0, none⟩ = some (.string x344000_1) := (blk_cell BK343.out 0).trans rfl; have hcz100_1 : w98.cell? ⟨gb343, 1, none⟩ = some (.int .i64 x344001_1) := (blk_cell BK343.out 1).trans rfl; have hcz100_2 : w98.cell? ⟨gb343, 2, none⟩ = some (.int .i64 x344002_1) := (blk_cell BK343.out 2).trans rfl; have hfz100_0 := blk_frozen BK343.out 0; have hfz100_1 := blk_frozen BK343.out 1; have hfz100_2 := blk_frozen BK343.out 2))
                                go_meet
                                case rel => exact ⟨_, (true), (t399), (t400), (t401), (x344000_1), (x344001_1), (7), (by first | rfl | (simp; done) | (simp [*]; done)), H', ⟨by have := HK1.out; have := HJ8.out; first | omega | exact Nat.le_refl _⟩, ⟨by (with_reducible repeat (first | refine blk_drewN ?_ _ | refine blk_drew ?_ | refine blk_alloc ?_ _)); refine blk_put (cs := #[.string x344000_1, .int .i64 x344001_1, .int .i64 x344002_1]) ?_ 2 _ rfl; (with_reducible repeat (first | refine blk_drewN ?_ _ | refine blk_drew ?_ | refine blk_alloc ?_ _)); exact BK343.out⟩, ⟨by repeat (first | (with_reducible first | exact HI342.out | apply IsS75.alloc | apply IsS75.drewN | apply IsS75.drew | apply IsS75.set_0 | apply IsS75.set_1 | apply IsS75.set_2 | refine IsS75.far ?_ NB342_343.out _) | exact HI342.out)⟩, ⟨by repeat (first | (with_reducible first | exact HB.out | apply below_alloc | apply pw_below_drewN | apply below_drew1 | refine below_set ?_ (IsS75.ge HI342.out) | refine below_set ?_ GE343.out) | exact HB.out)⟩⟩
                              · rw [if_neg c97] at H
                                have c97b0 : (x344002_1 == 0) = false := beq_eq_false_iff_ne.mpr c97
                                have c97b1 : (x344002_1 != 0) = true := bne_iff_ne.mpr c97
                                have H' := Aside0.mk H
                                clear H
                                go_wp2_with (first | ((with_reducible refine gate_callee (f := 51) rfl ?_); refine goesL_ (some 128) rfl rfl Try.func51 (by kernel_rfl) rfl #[.pointer (some ⟨g342, 0, none⟩), .int .i64 7] rfl (by (try simp only [List.map_toArray, List.map_cons, List.map_nil]); first | done | rfl | (simp only [List.length_drop, List.length_take]; rfl)) ?_; (with_reducible refine (enc_Cursor_Fail.calls g342 x343000_1 x343001_1 x343002_1 7 t399 t400 t401 w _ ?side1 ?side2 A96.out).mono ?_); (case side1 => repeat (first | (with_reducible first | exact HI342.out | apply IsS75.alloc | apply IsS75.drewN | apply IsS75.drew | apply IsS75.set_0 | apply IsS75.set_1 | apply IsS75.set_2 | refine IsS75.far ?_ NB342_343.out _) | exact HI342.out)); (case side2 => repeat (first | (with_reducible first | exact HB.out | apply below_alloc | apply pw_below_drewN | apply below_drew1 | refine below_set ?_ (IsS75.ge HI342.out) | refine below_set ?_ GE343.out) | exact HB.out)); rintro e w101 ⟨rfl, hi, hb, hk⟩; refine ⟨_, rfl, ?_⟩; have n0_ := Aside0.mk (KeepBut.blk hk (g' := gb343) (o := .cells #[.string x344000_1, .int .i64 x344001_1, .int .i64 x344002_1] 43 (0, 0)) (by (with_reducible repeat (first | refine blk_drewN ?_ _ | refine blk_drew ?_ | refine blk_alloc ?_ _)); exact BK343.out) NB343_342.out (by simp)); have n1_ := Aside0.mk (hb); have n2_ := Aside0.mk (hi); clear BK343; clear HB; clear HI342; have BK343 := n0_; have HB := n1_; have HI342 := n2_; clear n0_ n1_ n2_; (try clear hb); (try clear hb2); (try clear hk); (try clear hi); have hnb102 := NB343_342.out; have hnc102 := NB342_343.out; have hcz103_0 : w101.cell? ⟨gb343, 0, none⟩ = some (.string x344000_1) := (blk_cell BK343.out 0).trans rfl; have hcz103_1 : w101.cell? ⟨gb343, 1, none⟩ = some (.int .i64 x344001_1) := (blk_cell BK343.out 1).trans rfl; have hcz103_2 : w101.cell? ⟨gb343, 2, none⟩ = some (.int .i64 x344002_1) := (blk_cell BK343.out 2).trans rfl; have hfz103_0 := blk_frozen BK343.out 0; have hfz103_1 := blk_frozen BK343.out 1; have hfz103_2 := blk_frozen BK343.out 2))
                                go_meet
                                case rel => exact ⟨_, (true), (t399), (t400), (t401), (x344000_1), (x344001_1), (x344002_1), (by first | rfl | (simp; done) | (simp [*]; done)), H', ⟨by have := HK1.out; have := HJ8.out; first | omega | exact Nat.le_refl _⟩, ⟨by (with_reducible repeat (first | refine blk_drewN ?_ _ | refine blk_drew ?_ | refine blk_alloc ?_ _)); exact BK343.out⟩, ⟨by repeat (first | (with_reducible first | exact HI342.out | apply IsS75.alloc | apply IsS75.drewN | apply IsS75.drew | apply IsS75.set_0 | apply IsS75.set_1 | apply IsS75.set_2 | refine IsS75.far ?_ NB342_343.out _) | exact HI342.out)⟩, ⟨by repeat (first | (with_reducible first | exact HB.out | apply below_alloc | apply pw_below_drewN | apply below_drew1 | refine below_set ?_ (IsS75.ge HI342.out) | refine below_set ?_ GE343.out) | exact HB.out)⟩⟩
                            · rw [if_neg c95] at H
                              have c95b0 : (((rd_T60 l1 x8_1).f0) == 6) = false := beq_eq_false_iff_ne.mpr c95
                              have c95b1 : (((rd_T60 l1 x8_1).f0) != 6) = true := bne_iff_ne.mpr c95
                              replace H := Option.bind_eq_some_iff.mp H
                              obtain ⟨⟨t402, t403, t404, t405⟩, A1040, H⟩ := H
                              replace H : ((enc_Cursor_Bytes.f x343000_1 x343001_1 x343002_1 ((rd_T60 l1 x8_1).f1)).bind fun bt407 => (parchmentlaw02_EncWalks.j2 kj8 l1 x8_1 (bt407.1.toList == t405.toList) bt407.2.1 bt407.2.2.1 bt407.2.2.2 t402 t403 t404)) = some r := H
                              have A104 := Aside0.mk A1040
                              clear A1040
                              replace H := Option.bind_eq_some_iff.mp H
                              obtain ⟨⟨t407, t408, t409, t410⟩, A1050, H⟩ := H
                              replace H : (parchmentlaw02_EncWalks.j2 kj8 l1 x8_1 (t407.toList == t405.toList) t408 t409 t410 t402 t403 t404) = some r := H
                              have A105 := Aside0.mk A1050
                              clear A1050
                              have H' := Aside0.mk H
                              clear H
                              have hnb106 := NB343_342.out
                              have hnc106 := NB342_343.out
                              have hcz107_0 : wc.cell? ⟨gb343, 0, none⟩ = some (.string x344000_1) := (blk_cell BK343.out 0).trans rfl
                              have hcz107_1 : wc.cell? ⟨gb343, 1, none⟩ = some (.int .i64 x344001_1) := (blk_cell BK343.out 1).trans rfl
                              have hcz107_2 : wc.cell? ⟨gb343, 2, none⟩ = some (.int .i64 x344002_1) := (blk_cell BK343.out 2).trans rfl
                              have hfz107_0 := blk_frozen BK343.out 0
                              have hfz107_1 := blk_frozen BK343.out 1
                              have hfz107_2 := blk_frozen BK343.out 2
                              try go_wp2_with (first | ((with_reducible refine gate_callee (f := 52) rfl ?_); refine goesL_ (some 52) rfl rfl Try.func52 (by kernel_rfl) rfl #[.agg #[.string x344000_1, .int .i64 x344001_1, .int .i64 x344002_1], .int .i64 ((rd_T60 l1 x8_1).f1)] rfl (by (try simp only [List.map_toArray, List.map_cons, List.map_nil]); first | done | rfl | (simp only [List.length_drop, List.length_take]; rfl)) ?_; (with_reducible refine (parchmentref02_Cursor_Bytes.calls x344000_1 x344001_1 x344002_1 ((rd_T60 l1 x8_1).f1) t402 t403 t404 t405 _ A104.out).mono ?_); rintro e w108 ⟨rfl, hb⟩; refine ⟨_, rfl, ?_⟩; have n0_ := Aside0.mk (blk_below (g := gb343) (o := .cells #[.string x344000_1, .int .i64 x344001_1, .int .i64 x344002_1] 43 (0, 0)) (by (with_reducible repeat (first | refine blk_drewN ?_ _ | refine blk_drew ?_ | refine blk_alloc ?_ _)); exact BK343.out) hb); have n1_ := Aside0.mk (IsS75.below (by repeat (first | (with_reducible first | exact HI342.out | apply IsS75.alloc | apply IsS75.drewN | apply IsS75.drew | apply IsS75.set_0 | apply IsS75.set_1 | apply IsS75.set_2 | refine IsS75.far ?_ NB342_343.out _) | exact HI342.out)) hb); have n2_ := Aside0.mk (below_step (by repeat (first | (with_reducible first | exact HB.out | apply below_alloc | apply pw_below_drewN | apply below_drew1 | refine below_set ?_ (IsS75.ge HI342.out) | refine below_set ?_ GE343.out) | exact HB.out)) hb); clear BK343; clear HI342; clear HB; have BK343 := n0_; have HI342 := n1_; have HB := n2_; clear n0_ n1_ n2_; (try clear hb); (try clear hb2); (try clear hk); (try clear hi)) | ((with_reducible refine gate_dst (N := 21) rfl ?_); refine box_event ?hg (N := 21) ?hd (cs := #[.string (⟨#[]⟩ : ByteArray), .int .i64 0, .int .i64 0]) (t := 43) ?hr ?_; (case hd => rfl); (case hg => rfl); (case hr => first | (go_simp; done) | (go_simp; rfl)); intro gb406 hg w109 hbox hb; have n0_ := Aside0.mk (blk_below (g := gb343) (o := .cells #[.string x344000_1, .int .i64 x344001_1, .int .i64 x344002_1] 43 (0, 0)) (by (with_reducible repeat (first | refine blk_drewN ?_ _ | refine blk_drew ?_ | refine blk_alloc ?_ _)); exact BK343.out) hb); have n1_ := Aside0.mk (IsS75.below (by repeat (first | (with_reducible first | exact HI342.out | apply IsS75.alloc | apply IsS75.drewN | apply IsS75.drew | apply IsS75.set_0 | apply IsS75.set_1 | apply IsS75.set_2 | refine IsS75.far ?_ NB342_343.out _) | exact HI342.out)) hb); have n2_ := Aside0.mk (below_step (by repeat (first | (with_reducible first | exact HB.out | apply below_alloc | apply pw_below_drewN | apply below_drew1 | refine below_set ?_ (IsS75.ge HI342.out) | refine below_set ?_ GE343.out) | exact HB.out)) hb); have n3_ := Aside0.mk (hbox); have n4_ := Aside0.mk ((by rw [hg]; exact (below_size (by repeat (first | (with_reducible first | exact HB.out | apply below_alloc | apply pw_below_drewN | apply below_drew1 | refine below_set ?_ (IsS75.ge HI342.out) | refine below_set ?_ GE343.out) | exact HB.out))) : w.heap.size ≤ gb406)); have n5_ := Aside0.mk ((by rw [hg]; exact (below_size (by repeat (first | (with_reducible first | exact HB.out | apply below_alloc | apply pw_below_drewN | apply below_drew1 | refine below_set ?_ (IsS75.ge HI342.out) | refine below_set ?_ GE343.out) | exact HB.out))) : w.heap.size ≤ gb406)); have n6_ := Aside0.mk ((by rw [hg]; exact Nat.ne_of_lt (blk_lt (g := gb343) (o := .cells #[.string x344000_1, .int .i64 x344001_1, .int .i64 x344002_1] 43 (0, 0)) (by (with_reducible repeat (first | refine blk_drewN ?_ _ | refine blk_drew ?_ | refine blk_alloc ?_ _)); exact BK343.out)) : gb343 ≠ gb406)); have n7_ := Aside0.mk ((by rw [hg]; exact Nat.ne_of_gt (blk_lt (g := gb343) (o := .cells #[.string x344000_1, .int .i64 x344001_1, .int .i64 x344002_1] 43 (0, 0)) (by (with_reducible repeat (first | refine blk_drewN ?_ _ | refine blk_drew ?_ | refine blk_alloc ?_ _)); exact BK343.out)) : gb406 ≠ gb343)); have n8_ := Aside0.mk ((by rw [hg]; exact Nat.ne_of_lt (IsS75.lt (show IsS75 w _ g342 x343000_1 x343001_1 x343002_1 from by repeat (first | (with_reducible first | exact HI342.out | apply IsS75.alloc | apply IsS75.drewN | apply IsS75.drew | apply IsS75.set_0 | apply IsS75.set_1 | apply IsS75.set_2 | refine IsS75.far ?_ NB342_343.out _) | exact HI342.out))) : g342 ≠ gb406)); have n9_ := Aside0.mk ((by rw [hg]; exact Nat.ne_of_gt (IsS75.lt (show IsS75 w _ g342 x343000_1 x343001_1 x343002_1 from by repeat (first | (with_reducible first | exact HI342.out | apply IsS75.alloc | apply IsS75.drewN | apply IsS75.drew | apply IsS75.set_0 | apply IsS75.set_1 | apply IsS75.set_2 | refine IsS75.far ?_ NB342_343.out _) | exact HI342.out))) : gb406 ≠ g342)); clear BK343; clear HI342; clear HB; have BK343 := n0_; have HI342 := n1_; have HB := n2_; have BK406 := n3_; have GW406 := n4_; have GE406 := n5_; have NB343_406 := n6_; have NB406_343 := n7_; have NB342_406 := n8_; have NB406_342 := n9_; clear n0_ n1_ n2_ n3_ n4_ n5_ n6_ n7_ n8_ n9_; clear hb hbox hg; have hnb110 := NB406_343.out; have hnc110 := NB343_406.out; have hnb111 := NB406_342.out; have hnc111 := NB342_406.out; have hcz112_0 : w109.cell? ⟨gb406, 0, none⟩ = some (.string (⟨#[]⟩ : ByteArray)) := (blk_cell BK406.out 0).trans rfl; have hcz112_1 : w109.cell? ⟨gb406, 1, none⟩ = some (.int .i64 0) := (blk_cell BK406.out 1).trans rfl; have hcz112_2 : w109.cell? ⟨gb406, 2, none⟩ = some (.int .i64 0) := (blk_cell BK406.out 2).trans rfl; have hfz112_0 := blk_frozen BK406.out 0; have hfz112_1 := blk_frozen BK406.out 1; have hfz112_2 := blk_frozen BK406.out 2))
                              have n0_ : Aside0 ((((w109.setCell ⟨gb406, 0, none⟩ (.string t402)).setCell ⟨gb406, 1, none⟩ (.int .i64 t403)).setCell ⟨gb406, 2, none⟩ (.int .i64 t404)).heap[gb343]? = some (.cells #[.string x344000_1, .int .i64 x344001_1, .int .i64 x344002_1] 43 (0, 0))) := ⟨by (with_reducible repeat (first | refine blk_drewN ?_ _ | refine blk_drew ?_ | refine blk_alloc ?_ _)); refine blk_far ?_ NB343_406.out _; (with_reducible repeat (first | refine blk_drewN ?_ _ | refine blk_drew ?_ | refine blk_alloc ?_ _)); refine blk_far ?_ NB343_406.out _; (with_reducible repeat (first | refine blk_drewN ?_ _ | refine blk_drew ?_ | refine blk_alloc ?_ _)); refine blk_far ?_ NB343_406.out _; (with_reducible repeat (first | refine blk_drewN ?_ _ | refine blk_drew ?_ | refine blk_alloc ?_ _)); exact BK343.out⟩
                              have n1_ : Aside0 ((((w109.setCell ⟨gb406, 0, none⟩ (.string t402)).setCell ⟨gb406, 1, none⟩ (.int .i64 t403)).setCell ⟨gb406, 2, none⟩ (.int .i64 t404)).heap[gb406]? = some (.cells #[.string t402, .int .i64 t403, .int .i64 t404] 43 (0, 0))) := ⟨by (with_reducible repeat (first | refine blk_drewN ?_ _ | refine blk_drew ?_ | refine blk_alloc ?_ _)); refine blk_put (cs := #[.string t402, .int .i64 t403, .int .i64 0]) ?_ 2 _ rfl; (with_reducible repeat (first | refine blk_drewN ?_ _ | refine blk_drew ?_ | refine blk_alloc ?_ _)); refine blk_put (cs := #[.string t402, .int .i64 0, .int .i64 0]) ?_ 1 _ rfl; (with_reducible repeat (first | refine blk_drewN ?_ _ | refine blk_drew ?_ | refine blk_alloc ?_ _)); refine blk_put (cs := #[.string (⟨#[]⟩ : ByteArray), .int .i64 0, .int .i64 0]) ?_ 0 _ rfl; (with_reducible repeat (first | refine blk_drewN ?_ _ | refine blk_drew ?_ | refine blk_alloc ?_ _)); exact BK406.out⟩
                              have n2_ : Aside0 (IsS75 w (((w109.setCell ⟨gb406, 0, none⟩ (.string t402)).setCell ⟨gb406, 1, none⟩ (.int .i64 t403)).setCell ⟨gb406, 2, none⟩ (.int .i64 t404)) g342 x343000_1 x343001_1 x343002_1) := ⟨by repeat (first | (with_reducible first | exact HI342.out | apply IsS75.alloc | apply IsS75.drewN | apply IsS75.drew | apply IsS75.set_0 | apply IsS75.set_1 | apply IsS75.set_2 | refine IsS75.far ?_ NB342_343.out _ | refine IsS75.far ?_ NB342_406.out _) | exact HI342.out)⟩
                              have n3_ : Aside0 (Below w.heap.size w (((w109.setCell ⟨gb406, 0, none⟩ (.string t402)).setCell ⟨gb406, 1, none⟩ (.int .i64 t403)).setCell ⟨gb406, 2, none⟩ (.int .i64 t404))) := ⟨by repeat (first | (with_reducible first | exact HB.out | apply below_alloc | apply pw_below_drewN | apply below_drew1 | refine below_set ?_ (IsS75.ge HI342.out) | refine below_set ?_ GE343.out | refine below_set ?_ GE406.out) | exact HB.out)⟩
                              (try clear BK343)
                              (try clear BK406)
                              (try clear HI342)
                              (try clear HB)
                              generalize (((w109.setCell ⟨gb406, 0, none⟩ (.string t402)).setCell ⟨gb406, 1, none⟩ (.int .i64 t403)).setCell ⟨gb406, 2, none⟩ (.int .i64 t404)) = w113 at n0_ n1_ n2_ n3_ ⊢
                              have BK343 := n0_
                              have BK406 := n1_
                              have HI342 := n2_
                              have HB := n3_
                              clear n0_ n1_ n2_ n3_
                              have n0_ := Aside0.mk (blk_drew BK343.out)
                              have n1_ := Aside0.mk (blk_drew BK406.out)
                              have n2_ := Aside0.mk (IsS75.drew HI342.out)
                              have n3_ := Aside0.mk (below_drew1 HB.out)
                              clear BK343
                              clear BK406
                              clear HI342
                              clear HB
                              have BK343 := n0_
                              have BK406 := n1_
                              have HI342 := n2_
                              have HB := n3_
                              clear n0_ n1_ n2_ n3_
                              refine start_ (n := 8) (S := fun w' => w'.cell? ⟨gb406, 0, none⟩ = some (.string t402) ∧ w'.cell? ⟨gb406, 1, none⟩ = some (.int .i64 t403) ∧ w'.cell? ⟨gb406, 2, none⟩ = some (.int .i64 t404)) (ds := []) #[false, false, false, false, false, false, false, false] (by kernel_rfl) rfl rfl ⟨(blk_cell BK406.out 0).trans rfl, (blk_cell BK406.out 1).trans rfl, (blk_cell BK406.out 2).trans rfl⟩ (fun hHeld => ?_); refine with_tabW parchmentlaw02_EncWalks.tab9 parchmentlaw02_EncWalks.bits9 (fun HT_ HW_ => ?_)
                              generalize w113.drew = w114 at BK343 BK406 HI342 HB hHeld ⊢
                              refine pure_ (i := 1) (N := some 56) (v := ?_) (a' := ?_) #[false, true, false, false, false, false, false, false] rfl rfl (any_of HT_.out (by kernel_rfl)) (fun _ _ _ h => h) (Or.inl ⟨by rfl, ?_⟩) ?_ ?_
                              rotate_left
                              · intro w'
                                go_simp
                                with_reducible rfl
                              rotate_left
                              · simp only [Act.put, List.setIfInBounds_toArray, List.set_cons_zero, List.set_cons_succ, i64_w, i32_w]
                                rfl
                              refine pure_ (i := 2) (N := some 57) (v := ?_) (a' := ?_) #[false, true, true, false, false, false, false, false] rfl rfl (any_of HT_.out (by kernel_rfl)) (fun _ _ _ h => h) (Or.inl ⟨by rfl, ?_⟩) ?_ ?_
                              rotate_left
                              · intro w'
                                go_simp
                                with_reducible rfl
                              rotate_left
                              · simp only [Act.put, List.setIfInBounds_toArray, List.set_cons_zero, List.set_cons_succ, i64_w, i32_w]
                                rfl
                              refine pure_ (i := 4) (N := some 59) (v := ?_) (a' := ?_) #[false, true, true, false, true, false, false, false] rfl rfl (any_of HT_.out (by kernel_rfl)) (fun _ _ _ h => h) (Or.inl ⟨by rfl, ?_⟩) ?_ ?_
                              rotate_left
                              · intro w'
                                go_simp
                                with_reducible rfl
                              rotate_left
                              · simp only [Act.put, List.setIfInBounds_toArray, List.set_cons_zero, List.set_cons_succ, i64_w, i32_w]
                                rfl
                              refine take_ (i := 0) (N := some 55) (v := ?_) (a' := ?_) #[true, true, true, false, true, false, false, false] rfl rfl (take_ofW HT_.out HW_.out (by kernel_rfl)) (fun _ _ _ h => h) (Or.inl ⟨by rfl, ?_⟩) hHeld ?_ ?_
                              rotate_left
                              · rintro w' ⟨s0, s1, s2⟩
                                go_simp
                                with_reducible rfl
                              rotate_left
                              · simp only [Act.put, List.setIfInBounds_toArray, List.set_cons_zero, List.set_cons_succ, i64_w, i32_w]
                                rfl
                              refine one_ (i := 3) (N := some 58) #[true, true, true, true, true, false, false, false] rfl rfl (one_of HT_.out (by kernel_rfl)) (by decide) (fun K hK => ?_)
                              refine goes_ Try.func53 (by kernel_rfl) rfl #[.pointer (some ⟨g342, 0, none⟩), .int .i64 ((rd_T60 l1 x8_1).f1)] (by rfl) rfl rfl (by (try simp only [List.map_toArray, List.map_cons, List.map_nil]); first | done | rfl | (simp only [List.length_drop, List.length_take]; rfl)) ?_
                              with_reducible refine (enc_Cursor_Bytes.calls g342 x343000_1 x343001_1 x343002_1 ((rd_T60 l1 x8_1).f1) t407 t408 t409 t410 w _ ?side1 ?side2 A105.out).mono ?_
                              (case side1 => repeat (first | (with_reducible first | exact HI342.out | apply IsS75.alloc | apply IsS75.drewN | apply IsS75.drew | apply IsS75.set_0 | apply IsS75.set_1 | apply IsS75.set_2 | refine IsS75.far ?_ NB342_343.out _ | refine IsS75.far ?_ NB342_406.out _) | exact HI342.out))
                              (case side2 => repeat (first | (with_reducible first | exact HB.out | apply below_alloc | apply pw_below_drewN | apply below_drew1 | refine below_set ?_ (IsS75.ge HI342.out) | refine below_set ?_ GE343.out | refine below_set ?_ GE406.out) | exact HB.out))
                              rintro e w115 ⟨rfl, hi, hb, hk⟩
                              refine ⟨_, rfl, ?_⟩
                              have n0_ := Aside0.mk (KeepBut.blk hk (g' := gb343) (o := .cells #[.string x344000_1, .int .i64 x344001_1, .int .i64 x344002_1] 43 (0, 0)) (by (with_reducible repeat (first | refine blk_drewN ?_ _ | refine blk_drew ?_ | refine blk_alloc ?_ _)); exact BK343.out) NB343_342.out (by simp))
                              have n1_ := Aside0.mk (KeepBut.blk hk (g' := gb406) (o := .cells #[.string t402, .int .i64 t403, .int .i64 t404] 43 (0, 0)) (by (with_reducible repeat (first | refine blk_drewN ?_ _ | refine blk_drew ?_ | refine blk_alloc ?_ _)); exact BK406.out) NB406_342.out (by simp))
                              have n2_ := Aside0.mk (hb)
                              have n3_ := Aside0.mk (hi)
                              clear BK343
                              clear BK406
                              clear HB
                              clear HI342
                              have BK343 := n0_
                              have BK406 := n1_
                              have HB := n2_
                              have HI342 := n3_
                              clear n0_ n1_ n2_ n3_
                              (try clear hb)
                              (try clear hb2)
                              (try clear hk)
                              (try clear hi)
                              refine hK.out _ _ ⟨(blk_cell BK406.out 0).trans rfl, (blk_cell BK406.out 1).trans rfl, (blk_cell BK406.out 2).trans rfl⟩ (fun hHeld => ?_)
                              clear hK K
                              refine norm_ (a' := ?_) ?_ ?_
                              rotate_left
                              · show Act.put _ (some 58) _ = _
                                simp only [Act.put, List.setIfInBounds_toArray, List.set_cons_zero, List.set_cons_succ, i64_w, i32_w]
                                rfl
                              refine pure_ (i := 5) (N := some 60) (v := ?_) (a' := ?_) #[true, true, true, true, true, true, false, false] rfl rfl (any_of HT_.out (by kernel_rfl)) (fun _ _ _ h => h) (Or.inl ⟨by rfl, ?_⟩) ?_ ?_
                              rotate_left
                              · intro w'
                                go_simp
                                with_reducible rfl
                              rotate_left
                              · simp only [Act.put, List.setIfInBounds_toArray, List.set_cons_zero, List.set_cons_succ, i64_w, i32_w]
                                rfl
                              refine one_ (i := 6) (N := none) #[true, true, true, true, true, true, true, false] rfl rfl (one_of HT_.out (by kernel_rfl)) (by decide) (fun K hK => ?_)
                              have hs116 : w115.cell? ⟨gb343, 0, none⟩ = some (.string x344000_1) := (blk_cell BK343.out 0).trans rfl
                              have hfs116 := blk_frozen BK343.out 0
                              have hns116_1 := NB406_343.out
                              have hms116_1 := NB343_406.out
                              have hs117 : w115.cell? ⟨gb343, 1, none⟩ = some (.int .i64 x344001_1) := (blk_cell BK343.out 1).trans rfl
                              have hfs117 := blk_frozen BK343.out 1
                              have hns117_1 := NB406_343.out
                              have hms117_1 := NB343_406.out
                              have hs118 : w115.cell? ⟨gb343, 2, none⟩ = some (.int .i64 x344002_1) := (blk_cell BK343.out 2).trans rfl
                              have hfs118 := blk_frozen BK343.out 2
                              have hns118_1 := NB406_343.out
                              have hms118_1 := NB343_406.out
                              refine skip_ (w1 := ?_) (by rfl) rfl ?_ ?_
                              rotate_left
                              · go_simp
                                rfl
                              refine hK.out _ _ ⟨((cell_far (p := ⟨gb343, _, none⟩) NB406_343.out _).trans (((cell_far (p := ⟨gb343, _, none⟩) NB406_343.out _).trans (((cell_far (p := ⟨gb343, _, none⟩) NB406_343.out _).trans (hHeld.1)))))), ((cell_far (p := ⟨gb343, _, none⟩) NB406_343.out _).trans (((cell_far (p := ⟨gb343, _, none⟩) NB406_343.out _).trans (((cell_far (p := ⟨gb343, _, none⟩) NB406_343.out _).trans (hHeld.2.1)))))), ((cell_far (p := ⟨gb343, _, none⟩) NB406_343.out _).trans (((cell_far (p := ⟨gb343, _, none⟩) NB406_343.out _).trans (((cell_far (p := ⟨gb343, _, none⟩) NB406_343.out _).trans (hHeld.2.2))))))⟩ (fun hHeld => ?_)
                              clear hK K
                              refine pure_ (i := 7) (N := some 10) (v := ?_) (a' := ?_) #[true, true, true, true, true, true, true, true] rfl rfl (any_of HT_.out (by kernel_rfl)) (fun _ _ _ h => h) (Or.inl ⟨by rfl, ?_⟩) ?_ ?_
                              rotate_left
                              · intro w'
                                go_simp
                                with_reducible rfl
                              rotate_left
                              · simp only [Act.put, List.setIfInBounds_toArray, List.set_cons_zero, List.set_cons_succ, i64_w, i32_w]
                                rfl
                              refine done_ (done_of HT_.out (by kernel_rfl)) ?_
                              try go_wp2
                              go_meet
                              case rel => exact ⟨_, ((t407.toList == t405.toList)), (t408), (t409), (t410), (t402), (t403), (t404), (by first | rfl | (simp; done) | (simp [*]; done)), H', ⟨by have := HK1.out; have := HJ8.out; first | omega | exact Nat.le_refl _⟩, ⟨by (with_reducible repeat (first | refine blk_drewN ?_ _ | refine blk_drew ?_ | refine blk_alloc ?_ _)); refine blk_put (cs := #[.string t402, .int .i64 t403, .int .i64 x344002_1]) ?_ 2 _ rfl; (with_reducible repeat (first | refine blk_drewN ?_ _ | refine blk_drew ?_ | refine blk_alloc ?_ _)); refine blk_put (cs := #[.string t402, .int .i64 x344001_1, .int .i64 x344002_1]) ?_ 1 _ rfl; (with_reducible repeat (first | refine blk_drewN ?_ _ | refine blk_drew ?_ | refine blk_alloc ?_ _)); refine blk_put (cs := #[.string x344000_1, .int .i64 x344001_1, .int .i64 x344002_1]) ?_ 0 _ rfl; (with_reducible repeat (first | refine blk_drewN ?_ _ | refine blk_drew ?_ | refine blk_alloc ?_ _)); exact BK343.out⟩, ⟨by repeat (first | (with_reducible first | exact HI342.out | apply IsS75.alloc | apply IsS75.drewN | apply IsS75.drew | apply IsS75.set_0 | apply IsS75.set_1 | apply IsS75.set_2 | refine IsS75.far ?_ NB342_343.out _ | refine IsS75.far ?_ NB342_406.out _) | exact HI342.out)⟩, ⟨by repeat (first | (with_reducible first | exact HB.out | apply below_alloc | apply pw_below_drewN | apply below_drew1 | refine below_set ?_ (IsS75.ge HI342.out) | refine below_set ?_ GE343.out | refine below_set ?_ GE406.out) | exact HB.out)⟩⟩
                case rest =>
                  clear HC14
                  try clear c1
                  try clear p2
                  try clear c4
                  try clear c5
                  try clear c6
                  try clear c7
                  try clear c8
                  try clear c9
                  try clear c10
                  try clear c11
                  try clear c42
                  try clear c45
                  try clear c47
                  try clear c47b0
                  try clear c47b1
                  try clear c48
                  try clear c49
                  try clear c50
                  try clear c51
                  try clear c52
                  try clear c53
                  try clear c63
                  try clear c63b0
                  try clear c63b1
                  try clear c66
                  try clear c70
                  try clear c71
                  try clear c79
                  try clear c79b0
                  try clear c79b1
                  try clear c82
                  try clear c86
                  try clear c87
                  try clear c95
                  try clear c95b0
                  try clear c95b1
                  try clear c97
                  try clear c97b0
                  try clear c97b1
                  try clear c99
                  try clear c102
                  try clear c106
                  try clear c110
                  try clear c111
                  try clear hcz100_0
                  try clear hcz100_1
                  try clear hcz100_2
                  try clear hcz103_0
                  try clear hcz103_1
                  try clear hcz103_2
                  try clear hcz107_0
                  try clear hcz107_1
                  try clear hcz107_2
                  try clear hcz112_0
                  try clear hcz112_1
                  try clear hcz112_2
                  try clear hcz67_0
                  try clear hcz67_1
                  try clear hcz67_2
                  try clear hcz72_0
                  try clear hcz72_1
                  try clear hcz72_2
                  try clear hcz83_0
                  try clear hcz83_1
                  try clear hcz83_2
                  try clear hcz88_0
                  try clear hcz88_1
                  try clear hcz88_2
                  try clear hfz100_0
                  try clear hfz100_1
                  try clear hfz100_2
                  try clear hfz103_0
                  try clear hfz103_1
                  try clear hfz103_2
                  try clear hfz107_0
                  try clear hfz107_1
                  try clear hfz107_2
                  try clear hfz112_0
                  try clear hfz112_1
                  try clear hfz112_2
                  try clear hfz67_0
                  try clear hfz67_1
                  try clear hfz67_2
                  try clear hfz72_0
                  try clear hfz72_1
                  try clear hfz72_2
                  try clear hfz83_0
                  try clear hfz83_1
                  try clear hfz83_2
                  try clear hfz88_0
                  try clear hfz88_1
                  try clear hfz88_2
                  obtain ⟨kq, x10_13, x343000_13, x343001_13, x343002_13, x344000_13, x344001_13, x344002_13, rfl, HA, HJ13, BK343, HI342, HB⟩ := hcut
                  cases kq with
                  | zero => exact absurd HA.out (by simp [parchmentlaw02_EncWalks.j2])
                  | succ kj13 =>
                    have H := HA.out
                    clear HA
                    simp only [parchmentlaw02_EncWalks.j2] at H
                    by_cases c119 : x10_13 = true
                    · subst c119
                      have H1 : ((enc_Cursor_Err.f x343000_13 x343001_13 x343002_13).bind fun bt411 => (if bt411.1 = x344002_13 then ((enc_Cursor_Off.f bt411.2.1 bt411.2.2.1 bt411.2.2.2).bind fun bt415 => (if bt415.1 = x344001_13 then (parchmentlaw02_EncWalks.l0 kj13 l1 (wrap64 (x8_1 + 1)) bt415.2.1 bt415.2.2.1 bt415.2.2.2 x344000_13 x344001_13 x344002_13) else (some false))) else (some false))) = some r := by rw [if_pos rfl] at H; exact H
                      clear H
                      have H := H1
                      clear H1
                      replace H := Option.bind_eq_some_iff.mp H
                      obtain ⟨⟨t411, t412, t413, t414⟩, A1200, H⟩ := H
                      replace H : (if t411 = x344002_13 then ((enc_Cursor_Off.f t412 t413 t414).bind fun bt415 => (if bt415.1 = x344001_13 then (parchmentlaw02_EncWalks.l0 kj13 l1 (wrap64 (x8_1 + 1)) bt415.2.1 bt415.2.2.1 bt415.2.2.2 x344000_13 x344001_13 x344002_13) else (some false))) else (some false)) = some r := H
                      have A120 := Aside0.mk A1200
                      clear A1200
                      by_cases c121 : t411 = x344002_13
                      · rw [if_pos c121] at H
                        have c121b0 : (t411 == x344002_13) = true := beq_iff_eq.mpr c121
                        have c121b1 : (t411 != x344002_13) = false := bne_eq_false_iff_eq.mpr c121
                        clear c121
                        replace H := Option.bind_eq_some_iff.mp H
                        obtain ⟨⟨t415, t416, t417, t418⟩, A1220, H⟩ := H
                        replace H : (if t415 = x344001_13 then (parchmentlaw02_EncWalks.l0 kj13 l1 (wrap64 (x8_1 + 1)) t416 t417 t418 x344000_13 x344001_13 x344002_13) else (some false)) = some r := H
                        have A122 := Aside0.mk A1220
                        clear A1220
                        by_cases c123 : t415 = x344001_13
                        · rw [if_pos c123] at H
                          have c123b0 : (t415 == x344001_13) = true := beq_iff_eq.mpr c123
                          have c123b1 : (t415 != x344001_13) = false := bne_eq_false_iff_eq.mpr c123
                          clear c123
                          have H' := Aside0.mk H
                          clear H
                          try go_wp2
                          have n0_ := Aside0.mk (blk_drew BK343.out)
                          have n1_ := Aside0.mk (IsS75.drew HI342.out)
                          have n2_ := Aside0.mk (below_drew1 HB.out)
                          clear BK343
                          clear HI342
                          clear HB
                          have BK343 := n0_
                          have HI342 := n1_
                          have HB := n2_
                          clear n0_ n1_ n2_
                          refine start_ (n := 16) (S := fun w' => w'.cell? ⟨gb343, 0, none⟩ = some (.string x344000_13) ∧ w'.cell? ⟨gb343, 1, none⟩ = some (.int .i64 x344001_13) ∧ w'.cell? ⟨gb343, 2, none⟩ = some (.int .i64 x344002_13)) (ds := []) #[false, false, false, false, false, false, false, false, false, false, false, false, false, false, false, false] (by kernel_rfl) rfl rfl ⟨(blk_cell BK343.out 0).trans rfl, (blk_cell BK343.out 1).trans rfl, (blk_cell BK343.out 2).trans rfl⟩ (fun hHeld => ?_); refine with_tabW parchmentlaw02_EncWalks.tab29 parchmentlaw02_EncWalks.bits29 (fun HT_ HW_ => ?_)
                          generalize wc.drew = w124 at BK343 HI342 HB hHeld ⊢
                          refine pure_ (i := 0) (N := some 133) (v := ?_) (a' := ?_) #[true, false, false, false, false, false, false, false, false, false, false, false, false, false, false, false] rfl rfl (any_of HT_.out (by kernel_rfl)) (fun _ _ _ h => h) (Or.inl ⟨by rfl, ?_⟩) ?_ ?_
                          rotate_left
                          · intro w'
                            go_simp
                            with_reducible rfl
                          rotate_left
                          · simp only [Act.put, List.setIfInBounds_toArray, List.set_cons_zero, List.set_cons_succ, i64_w, i32_w]
                            rfl
                          refine pure_ (i := 1) (N := some 134) (v := ?_) (a' := ?_) #[true, true, false, false, false, false, false, false, false, false, false, false, false, false, false, false] rfl rfl (any_of HT_.out (by kernel_rfl)) (fun _ _ _ h => h) (Or.inl ⟨by rfl, ?_⟩) ?_ ?_
                          rotate_left
                          · intro w'
                            go_simp
                            with_reducible rfl
                          rotate_left
                          · simp only [Act.put, List.setIfInBounds_toArray, List.set_cons_zero, List.set_cons_succ, i64_w, i32_w]
                            rfl
                          refine pure_ (i := 2) (N := some 135) (v := ?_) (a' := ?_) #[true, true, true, false, false, false, false, false, false, false, false, false, false, false, false, false] rfl rfl (any_of HT_.out (by kernel_rfl)) (fun _ _ _ h => h) (Or.inl ⟨by rfl, ?_⟩) ?_ ?_
                          rotate_left
                          · intro w'
                            go_simp
                            with_reducible rfl
                          rotate_left
                          · simp only [Act.put, List.setIfInBounds_toArray, List.set_cons_zero, List.set_cons_succ, i64_w, i32_w]
                            rfl
                          refine pure_ (i := 3) (N := some 136) (v := ?_) (a' := ?_) #[true, true, true, true, false, false, false, false, false, false, false, false, false, false, false, false] rfl rfl (any_of HT_.out (by kernel_rfl)) (fun _ _ _ h => h) (Or.inl ⟨by rfl, ?_⟩) ?_ ?_
                          rotate_left
                          · intro w'
                            go_simp
                            with_reducible rfl
                          rotate_left
                          · simp only [Act.put, List.setIfInBounds_toArray, List.set_cons_zero, List.set_cons_succ, i64_w, i32_w]
                            rfl
                          refine pure_ (i := 5) (N := some 138) (v := ?_) (a' := ?_) #[true, true, true, true, false, true, false, false, false, false, false, false, false, false, false, false] rfl rfl (any_of HT_.out (by kernel_rfl)) (fun _ _ _ h => h) (Or.inl ⟨by rfl, ?_⟩) ?_ ?_
                          rotate_left
                          · intro w'
                            go_simp
                            with_reducible rfl
                          rotate_left
                          · simp only [Act.put, List.setIfInBounds_toArray, List.set_cons_zero, List.set_cons_succ, i64_w, i32_w]
                            rfl
                          refine take_ (i := 6) (N := some 139) (v := ?_) (a' := ?_) #[true, true, true, true, false, true, true, false, false, false, false, false, false, false, false, false] rfl rfl (take_ofW HT_.out HW_.out (by kernel_rfl)) (fun _ _ _ h => h) (Or.inl ⟨by rfl, ?_⟩) hHeld ?_ ?_
                          rotate_left
                          · rintro w' ⟨s0, s1, s2⟩
                            go_simp
                            with_reducible rfl
                          rotate_left
                          · simp only [Act.put, List.setIfInBounds_toArray, List.set_cons_zero, List.set_cons_succ, i64_w, i32_w]
                            rfl
                          refine one_ (i := 4) (N := some 137) #[true, true, true, true, true, true, true, false, false, false, false, false, false, false, false, false] rfl rfl (one_of HT_.out (by kernel_rfl)) (by decide) (fun K hK => ?_)
                          refine goes_ Try.func29 (by kernel_rfl) rfl #[.pointer (some ⟨g342, 0, none⟩)] (by rfl) rfl rfl (by (try simp only [List.map_toArray, List.map_cons, List.map_nil]); first | done | rfl | (simp only [List.length_drop, List.length_take]; rfl)) ?_
                          with_reducible refine (enc_Cursor_Err.calls g342 x343000_13 x343001_13 x343002_13 t411 t412 t413 t414 w _ ?side1 ?side2 A120.out).mono ?_
                          (case side1 => repeat (first | (with_reducible first | exact HI342.out | apply IsS75.alloc | apply IsS75.drewN | apply IsS75.drew | apply IsS75.set_0 | apply IsS75.set_1 | apply IsS75.set_2 | refine IsS75.far ?_ NB342_343.out _) | exact HI342.out))
                          (case side2 => repeat (first | (with_reducible first | exact HB.out | apply below_alloc | apply pw_below_drewN | apply below_drew1 | refine below_set ?_ (IsS75.ge HI342.out) | refine below_set ?_ GE343.out) | exact HB.out))
                          rintro e w125 ⟨rfl, hi, hb, hk⟩
                          refine ⟨_, rfl, ?_⟩
                          have n0_ := Aside0.mk (KeepBut.blk hk (g' := gb343) (o := .cells #[.string x344000_13, .int .i64 x344001_13, .int .i64 x344002_13] 43 (0, 0)) (by (with_reducible repeat (first | refine blk_drewN ?_ _ | refine blk_drew ?_ | refine blk_alloc ?_ _)); exact BK343.out) NB343_342.out (by simp))
                          have n1_ := Aside0.mk (hb)
                          have n2_ := Aside0.mk (hi)
                          clear BK343
                          clear HB
                          clear HI342
                          have BK343 := n0_
                          have HB := n1_
                          have HI342 := n2_
                          clear n0_ n1_ n2_
                          (try clear hb)
                          (try clear hb2)
                          (try clear hk)
                          (try clear hi)
                          refine hK.out _ _ ⟨(blk_cell BK343.out 0).trans rfl, (blk_cell BK343.out 1).trans rfl, (blk_cell BK343.out 2).trans rfl⟩ (fun hHeld => ?_)
                          clear hK K
                          refine norm_ (a' := ?_) ?_ ?_
                          rotate_left
                          · show Act.put _ (some 137) _ = _
                            simp only [Act.put, List.setIfInBounds_toArray, List.set_cons_zero, List.set_cons_succ, i64_w, i32_w]
                            rfl
                          refine pure_ (i := 7) (N := some 140) (v := ?_) (a' := ?_) #[true, true, true, true, true, true, true, true, false, false, false, false, false, false, false, false] rfl rfl (any_of HT_.out (by kernel_rfl)) (fun _ _ _ h => h) (Or.inl ⟨by rfl, ?_⟩) ?_ ?_
                          rotate_left
                          · intro w'
                            go_simp
                            with_reducible rfl
                          rotate_left
                          · simp only [Act.put, List.setIfInBounds_toArray, List.set_cons_zero, List.set_cons_succ, i64_w, i32_w]
                            rfl
                          refine pure_ (i := 8) (N := some 141) (v := ?_) (a' := ?_) #[true, true, true, true, true, true, true, true, true, false, false, false, false, false, false, false] rfl rfl (any_of HT_.out (by kernel_rfl)) (fun _ _ _ h => h) (Or.inl ⟨by rfl, ?_⟩) ?_ ?_
                          rotate_left
                          · intro w'
                            go_simp
                            with_reducible rfl
                          rotate_left
                          · simp only [Act.put, List.setIfInBounds_toArray, List.set_cons_zero, List.set_cons_succ, i64_w, i32_w]
                            rfl
                          refine pure_ (i := 9) (N := some 142) (v := ?_) (a' := ?_) #[true, true, true, true, true, true, true, true, true, true, false, false, false, false, false, false] rfl rfl (any_of HT_.out (by kernel_rfl)) (fun _ _ _ h => h) (Or.inl ⟨by rfl, ?_⟩) ?_ ?_
                          rotate_left
                          · intro w'
                            go_simp
                            with_reducible rfl
                          rotate_left
                          · simp only [Act.put, List.setIfInBounds_toArray, List.set_cons_zero, List.set_cons_succ, i64_w, i32_w]
                            rfl
                          refine pure_ (i := 10) (N := some 143) (v := ?_) (a' := ?_) #[true, true, true, true, true, true, true, true, true, true, true, false, false, false, false, false] rfl rfl (any_of HT_.out (by kernel_rfl)) (fun _ _ _ h => h) (Or.inl ⟨by rfl, ?_⟩) ?_ ?_
                          rotate_left
                          · intro w'
                            go_simp
                            with_reducible rfl
                          rotate_left
                          · simp only [Act.put, List.setIfInBounds_toArray, List.set_cons_zero, List.set_cons_succ, i64_w, i32_w]
                            rfl
                          refine pure_ (i := 12) (N := some 145) (v := ?_) (a' := ?_) #[true, true, true, true, true, true, true, true, true, true, true, false, true, false, false, false] rfl rfl (any_of HT_.out (by kernel_rfl)) (fun _ _ _ h => h) (Or.inl ⟨by rfl, ?_⟩) ?_ ?_
                          rotate_left
                          · intro w'
                            go_simp
                            with_reducible rfl
                          rotate_left
                          · simp only [Act.put, List.setIfInBounds_toArray, List.set_cons_zero, List.set_cons_succ, i64_w, i32_w]
                            rfl
                          refine take_ (i := 13) (N := some 146) (v := ?_) (a' := ?_) #[true, true, true, true, true, true, true, true, true, true, true, false, true, true, false, false] rfl rfl (take_ofW HT_.out HW_.out (by kernel_rfl)) (fun _ _ _ h => h) (Or.inl ⟨by rfl, ?_⟩) hHeld ?_ ?_
                          rotate_left
                          · rintro w' ⟨s0, s1, s2⟩
                            go_simp
                            with_reducible rfl
                          rotate_left
                          · simp only [Act.put, List.setIfInBounds_toArray, List.set_cons_zero, List.set_cons_succ, i64_w, i32_w]
                            rfl
                          refine one_ (i := 11) (N := some 144) #[true, true, true, true, true, true, true, true, true, true, true, true, true, true, false, false] rfl rfl (one_of HT_.out (by kernel_rfl)) (by decide) (fun K hK => ?_)
                          refine goes_ Try.func30 (by kernel_rfl) rfl #[.pointer (some ⟨g342, 0, none⟩)] (by rfl) rfl rfl (by (try simp only [List.map_toArray, List.map_cons, List.map_nil]); first | done | rfl | (simp only [List.length_drop, List.length_take]; rfl)) ?_
                          with_reducible refine (enc_Cursor_Off.calls g342 t412 t413 t414 t415 t416 t417 t418 w _ ?side1 ?side2 A122.out).mono ?_
                          (case side1 => repeat (first | (with_reducible first | exact HI342.out | apply IsS75.alloc | apply IsS75.drewN | apply IsS75.drew | apply IsS75.set_0 | apply IsS75.set_1 | apply IsS75.set_2 | refine IsS75.far ?_ NB342_343.out _) | exact HI342.out))
                          (case side2 => repeat (first | (with_reducible first | exact HB.out | apply below_alloc | apply pw_below_drewN | apply below_drew1 | refine below_set ?_ (IsS75.ge HI342.out) | refine below_set ?_ GE343.out) | exact HB.out))
                          rintro e w126 ⟨rfl, hi, hb, hk⟩
                          refine ⟨_, rfl, ?_⟩
                          have n0_ := Aside0.mk (KeepBut.blk hk (g' := gb343) (o := .cells #[.string x344000_13, .int .i64 x344001_13, .int .i64 x344002_13] 43 (0, 0)) (by (with_reducible repeat (first | refine blk_drewN ?_ _ | refine blk_drew ?_ | refine blk_alloc ?_ _)); exact BK343.out) NB343_342.out (by simp))
                          have n1_ := Aside0.mk (hb)
                          have n2_ := Aside0.mk (hi)
                          clear BK343
                          clear HB
                          clear HI342
                          have BK343 := n0_
                          have HB := n1_
                          have HI342 := n2_
                          clear n0_ n1_ n2_
                          (try clear hb)
                          (try clear hb2)
                          (try clear hk)
                          (try clear hi)
                          refine hK.out _ _ ⟨(blk_cell BK343.out 0).trans rfl, (blk_cell BK343.out 1).trans rfl, (blk_cell BK343.out 2).trans rfl⟩ (fun hHeld => ?_)
                          clear hK K
                          refine norm_ (a' := ?_) ?_ ?_
                          rotate_left
                          · show Act.put _ (some 144) _ = _
                            simp only [Act.put, List.setIfInBounds_toArray, List.set_cons_zero, List.set_cons_succ, i64_w, i32_w]
                            rfl
                          refine pure_ (i := 14) (N := some 147) (v := ?_) (a' := ?_) #[true, true, true, true, true, true, true, true, true, true, true, true, true, true, true, false] rfl rfl (any_of HT_.out (by kernel_rfl)) (fun _ _ _ h => h) (Or.inl ⟨by rfl, ?_⟩) ?_ ?_
                          rotate_left
                          · intro w'
                            go_simp
                            with_reducible rfl
                          rotate_left
                          · simp only [Act.put, List.setIfInBounds_toArray, List.set_cons_zero, List.set_cons_succ, i64_w, i32_w]
                            rfl
                          refine pure_ (i := 15) (N := some 148) (v := ?_) (a' := ?_) #[true, true, true, true, true, true, true, true, true, true, true, true, true, true, true, true] rfl rfl (any_of HT_.out (by kernel_rfl)) (fun _ _ _ h => h) (Or.inl ⟨by rfl, ?_⟩) ?_ ?_
                          rotate_left
                          · intro w'
                            go_simp
                            with_reducible rfl
                          rotate_left
                          · simp only [Act.put, List.setIfInBounds_toArray, List.set_cons_zero, List.set_cons_succ, i64_w, i32_w]
                            rfl
                          refine done_ (done_of HT_.out (by kernel_rfl)) ?_
                          try go_wp2
                          go_roundg kj13
                          case measure => have := HK1.out; have := HJ8.out; have := HJ13.out; omega
                          case rel => exact ⟨(wrap64 (x8_1 + 1)), (t416), (t417), (t418), (x344000_13), (x344001_13), (x344002_13), (by first | rfl | (simp; done) | (simp [*]; done)), H', ⟨by have := HK1.out; have := HJ8.out; have := HJ13.out; omega⟩, ⟨by (with_reducible repeat (first | refine blk_drewN ?_ _ | refine blk_drew ?_ | refine blk_alloc ?_ _)); exact BK343.out⟩, ⟨by repeat (first | (with_reducible first | exact HI342.out | apply IsS75.alloc | apply IsS75.drewN | apply IsS75.drew | apply IsS75.set_0 | apply IsS75.set_1 | apply IsS75.set_2 | refine IsS75.far ?_ NB342_343.out _) | exact HI342.out)⟩, ⟨by repeat (first | (with_reducible first | exact HB.out | apply below_alloc | apply pw_below_drewN | apply below_drew1 | refine below_set ?_ (IsS75.ge HI342.out) | refine below_set ?_ GE343.out) | exact HB.out)⟩⟩
                        · rw [if_neg c123] at H
                          have c123b0 : (t415 == x344001_13) = false := beq_eq_false_iff_ne.mpr c123
                          have c123b1 : (t415 != x344001_13) = true := bne_iff_ne.mpr c123
                          obtain rfl := Option.some.inj H
                          try go_wp2
                          have n0_ := Aside0.mk (blk_drew BK343.out)
                          have n1_ := Aside0.mk (IsS75.drew HI342.out)
                          have n2_ := Aside0.mk (below_drew1 HB.out)
                          clear BK343
                          clear HI342
                          clear HB
                          have BK343 := n0_
                          have HI342 := n1_
                          have HB := n2_
                          clear n0_ n1_ n2_
                          refine start_ (n := 16) (S := fun w' => w'.cell? ⟨gb343, 0, none⟩ = some (.string x344000_13) ∧ w'.cell? ⟨gb343, 1, none⟩ = some (.int .i64 x344001_13) ∧ w'.cell? ⟨gb343, 2, none⟩ = some (.int .i64 x344002_13)) (ds := []) #[false, false, false, false, false, false, false, false, false, false, false, false, false, false, false, false] (by kernel_rfl) rfl rfl ⟨(blk_cell BK343.out 0).trans rfl, (blk_cell BK343.out 1).trans rfl, (blk_cell BK343.out 2).trans rfl⟩ (fun hHeld => ?_); refine with_tabW parchmentlaw02_EncWalks.tab29 parchmentlaw02_EncWalks.bits29 (fun HT_ HW_ => ?_)
                          generalize wc.drew = w127 at BK343 HI342 HB hHeld ⊢
                          refine pure_ (i := 0) (N := some 133) (v := ?_) (a' := ?_) #[true, false, false, false, false, false, false, false, false, false, false, false, false, false, false, false] rfl rfl (any_of HT_.out (by kernel_rfl)) (fun _ _ _ h => h) (Or.inl ⟨by rfl, ?_⟩) ?_ ?_
                          rotate_left
                          · intro w'
                            go_simp
                            with_reducible rfl
                          rotate_left
                          · simp only [Act.put, List.setIfInBounds_toArray, List.set_cons_zero, List.set_cons_succ, i64_w, i32_w]
                            rfl
                          refine pure_ (i := 1) (N := some 134) (v := ?_) (a' := ?_) #[true, true, false, false, false, false, false, false, false, false, false, false, false, false, false, false] rfl rfl (any_of HT_.out (by kernel_rfl)) (fun _ _ _ h => h) (Or.inl ⟨by rfl, ?_⟩) ?_ ?_
                          rotate_left
                          · intro w'
                            go_simp
                            with_reducible rfl
                          rotate_left
                          · simp only [Act.put, List.setIfInBounds_toArray, List.set_cons_zero, List.set_cons_succ, i64_w, i32_w]
                            rfl
                          refine pure_ (i := 2) (N := some 135) (v := ?_) (a' := ?_) #[true, true, true, false, false, false, false, false, false, false, false, false, false, false, false, false] rfl rfl (any_of HT_.out (by kernel_rfl)) (fun _ _ _ h => h) (Or.inl ⟨by rfl, ?_⟩) ?_ ?_
                          rotate_left
                          · intro w'
                            go_simp
                            with_reducible rfl
                          rotate_left
                          · simp only [Act.put, List.setIfInBounds_toArray, List.set_cons_zero, List.set_cons_succ, i64_w, i32_w]
                            rfl
                          refine pure_ (i := 3) (N := some 136) (v := ?_) (a' := ?_) #[true, true, true, true, false, false, false, false, false, false, false, false, false, false, false, false] rfl rfl (any_of HT_.out (by kernel_rfl)) (fun _ _ _ h => h) (Or.inl ⟨by rfl, ?_⟩) ?_ ?_
                          rotate_left
                          · intro w'
                            go_simp
                            with_reducible rfl
                          rotate_left
                          · simp only [Act.put, List.setIfInBounds_toArray, List.set_cons_zero, List.set_cons_succ, i64_w, i32_w]
                            rfl
                          refine pure_ (i := 5) (N := some 138) (v := ?_) (a' := ?_) #[true, true, true, true, false, true, false, false, false, false, false, false, false, false, false, false] rfl rfl (any_of HT_.out (by kernel_rfl)) (fun _ _ _ h => h) (Or.inl ⟨by rfl, ?_⟩) ?_ ?_
                          rotate_left
                          · intro w'
                            go_simp
                            with_reducible rfl
                          rotate_left
                          · simp only [Act.put, List.setIfInBounds_toArray, List.set_cons_zero, List.set_cons_succ, i64_w, i32_w]
                            rfl
                          refine take_ (i := 6) (N := some 139) (v := ?_) (a' := ?_) #[true, true, true, true, false, true, true, false, false, false, false, false, false, false, false, false] rfl rfl (take_ofW HT_.out HW_.out (by kernel_rfl)) (fun _ _ _ h => h) (Or.inl ⟨by rfl, ?_⟩) hHeld ?_ ?_
                          rotate_left
                          · rintro w' ⟨s0, s1, s2⟩
                            go_simp
                            with_reducible rfl
                          rotate_left
                          · simp only [Act.put, List.setIfInBounds_toArray, List.set_cons_zero, List.set_cons_succ, i64_w, i32_w]
                            rfl
                          refine one_ (i := 4) (N := some 137) #[true, true, true, true, true, true, true, false, false, false, false, false, false, false, false, false] rfl rfl (one_of HT_.out (by kernel_rfl)) (by decide) (fun K hK => ?_)
                          refine goes_ Try.func29 (by kernel_rfl) rfl #[.pointer (some ⟨g342, 0, none⟩)] (by rfl) rfl rfl (by (try simp only [List.map_toArray, List.map_cons, List.map_nil]); first | done | rfl | (simp only [List.length_drop, List.length_take]; rfl)) ?_
                          with_reducible refine (enc_Cursor_Err.calls g342 x343000_13 x343001_13 x343002_13 t411 t412 t413 t414 w _ ?side1 ?side2 A120.out).mono ?_
                          (case side1 => repeat (first | (with_reducible first | exact HI342.out | apply IsS75.alloc | apply IsS75.drewN | apply IsS75.drew | apply IsS75.set_0 | apply IsS75.set_1 | apply IsS75.set_2 | refine IsS75.far ?_ NB342_343.out _) | exact HI342.out))
                          (case side2 => repeat (first | (with_reducible first | exact HB.out | apply below_alloc | apply pw_below_drewN | apply below_drew1 | refine below_set ?_ (IsS75.ge HI342.out) | refine below_set ?_ GE343.out) | exact HB.out))
                          rintro e w128 ⟨rfl, hi, hb, hk⟩
                          refine ⟨_, rfl, ?_⟩
                          have n0_ := Aside0.mk (KeepBut.blk hk (g' := gb343) (o := .cells #[.string x344000_13, .int .i64 x344001_13, .int .i64 x344002_13] 43 (0, 0)) (by (with_reducible repeat (first | refine blk_drewN ?_ _ | refine blk_drew ?_ | refine blk_alloc ?_ _)); exact BK343.out) NB343_342.out (by simp))
                          have n1_ := Aside0.mk (hb)
                          have n2_ := Aside0.mk (hi)
                          clear BK343
                          clear HB
                          clear HI342
                          have BK343 := n0_
                          have HB := n1_
                          have HI342 := n2_
                          clear n0_ n1_ n2_
                          (try clear hb)
                          (try clear hb2)
                          (try clear hk)
                          (try clear hi)
                          refine hK.out _ _ ⟨(blk_cell BK343.out 0).trans rfl, (blk_cell BK343.out 1).trans rfl, (blk_cell BK343.out 2).trans rfl⟩ (fun hHeld => ?_)
                          clear hK K
                          refine norm_ (a' := ?_) ?_ ?_
                          rotate_left
                          · show Act.put _ (some 137) _ = _
                            simp only [Act.put, List.setIfInBounds_toArray, List.set_cons_zero, List.set_cons_succ, i64_w, i32_w]
                            rfl
                          refine pure_ (i := 7) (N := some 140) (v := ?_) (a' := ?_) #[true, true, true, true, true, true, true, true, false, false, false, false, false, false, false, false] rfl rfl (any_of HT_.out (by kernel_rfl)) (fun _ _ _ h => h) (Or.inl ⟨by rfl, ?_⟩) ?_ ?_
                          rotate_left
                          · intro w'
                            go_simp
                            with_reducible rfl
                          rotate_left
                          · simp only [Act.put, List.setIfInBounds_toArray, List.set_cons_zero, List.set_cons_succ, i64_w, i32_w]
                            rfl
                          refine pure_ (i := 8) (N := some 141) (v := ?_) (a' := ?_) #[true, true, true, true, true, true, true, true, true, false, false, false, false, false, false, false] rfl rfl (any_of HT_.out (by kernel_rfl)) (fun _ _ _ h => h) (Or.inl ⟨by rfl, ?_⟩) ?_ ?_
                          rotate_left
                          · intro w'
                            go_simp
                            with_reducible rfl
                          rotate_left
                          · simp only [Act.put, List.setIfInBounds_toArray, List.set_cons_zero, List.set_cons_succ, i64_w, i32_w]
                            rfl
                          refine pure_ (i := 9) (N := some 142) (v := ?_) (a' := ?_) #[true, true, true, true, true, true, true, true, true, true, false, false, false, false, false, false] rfl rfl (any_of HT_.out (by kernel_rfl)) (fun _ _ _ h => h) (Or.inl ⟨by rfl, ?_⟩) ?_ ?_
                          rotate_left
                          · intro w'
                            go_simp
                            with_reducible rfl
                          rotate_left
                          · simp only [Act.put, List.setIfInBounds_toArray, List.set_cons_zero, List.set_cons_succ, i64_w, i32_w]
                            rfl
                          refine pure_ (i := 10) (N := some 143) (v := ?_) (a' := ?_) #[true, true, true, true, true, true, true, true, true, true, true, false, false, false, false, false] rfl rfl (any_of HT_.out (by kernel_rfl)) (fun _ _ _ h => h) (Or.inl ⟨by rfl, ?_⟩) ?_ ?_
                          rotate_left
                          · intro w'
                            go_simp
                            with_reducible rfl
                          rotate_left
                          · simp only [Act.put, List.setIfInBounds_toArray, List.set_cons_zero, List.set_cons_succ, i64_w, i32_w]
                            rfl
                          refine pure_ (i := 12) (N := some 145) (v := ?_) (a' := ?_) #[true, true, true, true, true, true, true, true, true, true, true, false, true, false, false, false] rfl rfl (any_of HT_.out (by kernel_rfl)) (fun _ _ _ h => h) (Or.inl ⟨by rfl, ?_⟩) ?_ ?_
                          rotate_left
                          · intro w'
                            go_simp
                            with_reducible rfl
                          rotate_left
                          · simp only [Act.put, List.setIfInBounds_toArray, List.set_cons_zero, List.set_cons_succ, i64_w, i32_w]
                            rfl
                          refine take_ (i := 13) (N := some 146) (v := ?_) (a' := ?_) #[true, true, true, true, true, true, true, true, true, true, true, false, true, true, false, false] rfl rfl (take_ofW HT_.out HW_.out (by kernel_rfl)) (fun _ _ _ h => h) (Or.inl ⟨by rfl, ?_⟩) hHeld ?_ ?_
                          rotate_left
                          · rintro w' ⟨s0, s1, s2⟩
                            go_simp
                            with_reducible rfl
                          rotate_left
                          · simp only [Act.put, List.setIfInBounds_toArray, List.set_cons_zero, List.set_cons_succ, i64_w, i32_w]
                            rfl
                          refine one_ (i := 11) (N := some 144) #[true, true, true, true, true, true, true, true, true, true, true, true, true, true, false, false] rfl rfl (one_of HT_.out (by kernel_rfl)) (by decide) (fun K hK => ?_)
                          refine goes_ Try.func30 (by kernel_rfl) rfl #[.pointer (some ⟨g342, 0, none⟩)] (by rfl) rfl rfl (by (try simp only [List.map_toArray, List.map_cons, List.map_nil]); first | done | rfl | (simp only [List.length_drop, List.length_take]; rfl)) ?_
                          with_reducible refine (enc_Cursor_Off.calls g342 t412 t413 t414 t415 t416 t417 t418 w _ ?side1 ?side2 A122.out).mono ?_
                          (case side1 => repeat (first | (with_reducible first | exact HI342.out | apply IsS75.alloc | apply IsS75.drewN | apply IsS75.drew | apply IsS75.set_0 | apply IsS75.set_1 | apply IsS75.set_2 | refine IsS75.far ?_ NB342_343.out _) | exact HI342.out))
                          (case side2 => repeat (first | (with_reducible first | exact HB.out | apply below_alloc | apply pw_below_drewN | apply below_drew1 | refine below_set ?_ (IsS75.ge HI342.out) | refine below_set ?_ GE343.out) | exact HB.out))
                          rintro e w129 ⟨rfl, hi, hb, hk⟩
                          refine ⟨_, rfl, ?_⟩
                          have n0_ := Aside0.mk (KeepBut.blk hk (g' := gb343) (o := .cells #[.string x344000_13, .int .i64 x344001_13, .int .i64 x344002_13] 43 (0, 0)) (by (with_reducible repeat (first | refine blk_drewN ?_ _ | refine blk_drew ?_ | refine blk_alloc ?_ _)); exact BK343.out) NB343_342.out (by simp))
                          have n1_ := Aside0.mk (hb)
                          have n2_ := Aside0.mk (hi)
                          clear BK343
                          clear HB
                          clear HI342
                          have BK343 := n0_
                          have HB := n1_
                          have HI342 := n2_
                          clear n0_ n1_ n2_
                          (try clear hb)
                          (try clear hb2)
                          (try clear hk)
                          (try clear hi)
                          refine hK.out _ _ ⟨(blk_cell BK343.out 0).trans rfl, (blk_cell BK343.out 1).trans rfl, (blk_cell BK343.out 2).trans rfl⟩ (fun hHeld => ?_)
                          clear hK K
                          refine norm_ (a' := ?_) ?_ ?_
                          rotate_left
                          · show Act.put _ (some 144) _ = _
                            simp only [Act.put, List.setIfInBounds_toArray, List.set_cons_zero, List.set_cons_succ, i64_w, i32_w]
                            rfl
                          refine pure_ (i := 14) (N := some 147) (v := ?_) (a' := ?_) #[true, true, true, true, true, true, true, true, true, true, true, true, true, true, true, false] rfl rfl (any_of HT_.out (by kernel_rfl)) (fun _ _ _ h => h) (Or.inl ⟨by rfl, ?_⟩) ?_ ?_
                          rotate_left
                          · intro w'
                            go_simp
                            with_reducible rfl
                          rotate_left
                          · simp only [Act.put, List.setIfInBounds_toArray, List.set_cons_zero, List.set_cons_succ, i64_w, i32_w]
                            rfl
                          refine pure_ (i := 15) (N := some 148) (v := ?_) (a' := ?_) #[true, true, true, true, true, true, true, true, true, true, true, true, true, true, true, true] rfl rfl (any_of HT_.out (by kernel_rfl)) (fun _ _ _ h => h) (Or.inl ⟨by rfl, ?_⟩) ?_ ?_
                          rotate_left
                          · intro w'
                            go_simp
                            with_reducible rfl
                          rotate_left
                          · simp only [Act.put, List.setIfInBounds_toArray, List.set_cons_zero, List.set_cons_succ, i64_w, i32_w]
                            rfl
                          refine done_ (done_of HT_.out (by kernel_rfl)) ?_
                          try go_wp2
                          go_ret
                          exact ⟨by first | rfl | (simp [errW_none, errW_some] <;> rfl) | (simp [*, errW_none, errW_some] <;> rfl), by repeat (first | (with_reducible first | exact HB.out | apply below_alloc | apply pw_below_drewN | apply below_drew1 | refine below_set ?_ (IsS75.ge HI342.out) | refine below_set ?_ GE343.out) | exact HB.out)⟩
                      · rw [if_neg c121] at H
                        have c121b0 : (t411 == x344002_13) = false := beq_eq_false_iff_ne.mpr c121
                        have c121b1 : (t411 != x344002_13) = true := bne_iff_ne.mpr c121
                        obtain rfl := Option.some.inj H
                        try go_wp2
                        have n0_ := Aside0.mk (blk_drew BK343.out)
                        have n1_ := Aside0.mk (IsS75.drew HI342.out)
                        have n2_ := Aside0.mk (below_drew1 HB.out)
                        clear BK343
                        clear HI342
                        clear HB
                        have BK343 := n0_
                        have HI342 := n1_
                        have HB := n2_
                        clear n0_ n1_ n2_
                        refine start_ (n := 16) (S := fun w' => w'.cell? ⟨gb343, 0, none⟩ = some (.string x344000_13) ∧ w'.cell? ⟨gb343, 1, none⟩ = some (.int .i64 x344001_13) ∧ w'.cell? ⟨gb343, 2, none⟩ = some (.int .i64 x344002_13)) (ds := []) #[false, false, false, false, false, false, false, false, false, false, false, false, false, false, false, false] (by kernel_rfl) rfl rfl ⟨(blk_cell BK343.out 0).trans rfl, (blk_cell BK343.out 1).trans rfl, (blk_cell BK343.out 2).trans rfl⟩ (fun hHeld => ?_); refine with_tabW parchmentlaw02_EncWalks.tab29 parchmentlaw02_EncWalks.bits29 (fun HT_ HW_ => ?_)
                        generalize wc.drew = w130 at BK343 HI342 HB hHeld ⊢
                        refine pure_ (i := 0) (N := some 133) (v := ?_) (a' := ?_) #[true, false, false, false, false, false, false, false, false, false, false, false, false, false, false, false] rfl rfl (any_of HT_.out (by kernel_rfl)) (fun _ _ _ h => h) (Or.inl ⟨by rfl, ?_⟩) ?_ ?_
                        rotate_left
                        · intro w'
                          go_simp
                          with_reducible rfl
                        rotate_left
                        · simp only [Act.put, List.setIfInBounds_toArray, List.set_cons_zero, List.set_cons_succ, i64_w, i32_w]
                          rfl
                        refine pure_ (i := 1) (N := some 134) (v := ?_) (a' := ?_) #[true, true, false, false, false, false, false, false, false, false, false, false, false, false, false, false] rfl rfl (any_of HT_.out (by kernel_rfl)) (fun _ _ _ h => h) (Or.inl ⟨by rfl, ?_⟩) ?_ ?_
                        rotate_left
                        · intro w'
                          go_simp
                          with_reducible rfl
                        rotate_left
                        · simp only [Act.put, List.setIfInBounds_toArray, List.set_cons_zero, List.set_cons_succ, i64_w, i32_w]
                          rfl
                        refine pure_ (i := 2) (N := some 135) (v := ?_) (a' := ?_) #[true, true, true, false, false, false, false, false, false, false, false, false, false, false, false, false] rfl rfl (any_of HT_.out (by kernel_rfl)) (fun _ _ _ h => h) (Or.inl ⟨by rfl, ?_⟩) ?_ ?_
                        rotate_left
                        · intro w'
                          go_simp
                          with_reducible rfl
                        rotate_left
                        · simp only [Act.put, List.setIfInBounds_toArray, List.set_cons_zero, List.set_cons_succ, i64_w, i32_w]
                          rfl
                        refine pure_ (i := 3) (N := some 136) (v := ?_) (a' := ?_) #[true, true, true, true, false, false, false, false, false, false, false, false, false, false, false, false] rfl rfl (any_of HT_.out (by kernel_rfl)) (fun _ _ _ h => h) (Or.inl ⟨by rfl, ?_⟩) ?_ ?_
                        rotate_left
                        · intro w'
                          go_simp
                          with_reducible rfl
                        rotate_left
                        · simp only [Act.put, List.setIfInBounds_toArray, List.set_cons_zero, List.set_cons_succ, i64_w, i32_w]
                          rfl
                        refine pure_ (i := 5) (N := some 138) (v := ?_) (a' := ?_) #[true, true, true, true, false, true, false, false, false, false, false, false, false, false, false, false] rfl rfl (any_of HT_.out (by kernel_rfl)) (fun _ _ _ h => h) (Or.inl ⟨by rfl, ?_⟩) ?_ ?_
                        rotate_left
                        · intro w'
                          go_simp
                          with_reducible rfl
                        rotate_left
                        · simp only [Act.put, List.setIfInBounds_toArray, List.set_cons_zero, List.set_cons_succ, i64_w, i32_w]
                          rfl
                        refine take_ (i := 6) (N := some 139) (v := ?_) (a' := ?_) #[true, true, true, true, false, true, true, false, false, false, false, false, false, false, false, false] rfl rfl (take_ofW HT_.out HW_.out (by kernel_rfl)) (fun _ _ _ h => h) (Or.inl ⟨by rfl, ?_⟩) hHeld ?_ ?_
                        rotate_left
                        · rintro w' ⟨s0, s1, s2⟩
                          go_simp
                          with_reducible rfl
                        rotate_left
                        · simp only [Act.put, List.setIfInBounds_toArray, List.set_cons_zero, List.set_cons_succ, i64_w, i32_w]
                          rfl
                        refine one_ (i := 4) (N := some 137) #[true, true, true, true, true, true, true, false, false, false, false, false, false, false, false, false] rfl rfl (one_of HT_.out (by kernel_rfl)) (by decide) (fun K hK => ?_)
                        refine goes_ Try.func29 (by kernel_rfl) rfl #[.pointer (some ⟨g342, 0, none⟩)] (by rfl) rfl rfl (by (try simp only [List.map_toArray, List.map_cons, List.map_nil]); first | done | rfl | (simp only [List.length_drop, List.length_take]; rfl)) ?_
                        with_reducible refine (enc_Cursor_Err.calls g342 x343000_13 x343001_13 x343002_13 t411 t412 t413 t414 w _ ?side1 ?side2 A120.out).mono ?_
                        (case side1 => repeat (first | (with_reducible first | exact HI342.out | apply IsS75.alloc | apply IsS75.drewN | apply IsS75.drew | apply IsS75.set_0 | apply IsS75.set_1 | apply IsS75.set_2 | refine IsS75.far ?_ NB342_343.out _) | exact HI342.out))
                        (case side2 => repeat (first | (with_reducible first | exact HB.out | apply below_alloc | apply pw_below_drewN | apply below_drew1 | refine below_set ?_ (IsS75.ge HI342.out) | refine below_set ?_ GE343.out) | exact HB.out))
                        rintro e w131 ⟨rfl, hi, hb, hk⟩
                        refine ⟨_, rfl, ?_⟩
                        have n0_ := Aside0.mk (KeepBut.blk hk (g' := gb343) (o := .cells #[.string x344000_13, .int .i64 x344001_13, .int .i64 x344002_13] 43 (0, 0)) (by (with_reducible repeat (first | refine blk_drewN ?_ _ | refine blk_drew ?_ | refine blk_alloc ?_ _)); exact BK343.out) NB343_342.out (by simp))
                        have n1_ := Aside0.mk (hb)
                        have n2_ := Aside0.mk (hi)
                        clear BK343
                        clear HB
                        clear HI342
                        have BK343 := n0_
                        have HB := n1_
                        have HI342 := n2_
                        clear n0_ n1_ n2_
                        (try clear hb)
                        (try clear hb2)
                        (try clear hk)
                        (try clear hi)
                        refine hK.out _ _ ⟨(blk_cell BK343.out 0).trans rfl, (blk_cell BK343.out 1).trans rfl, (blk_cell BK343.out 2).trans rfl⟩ (fun hHeld => ?_)
                        clear hK K
                        refine norm_ (a' := ?_) ?_ ?_
                        rotate_left
                        · show Act.put _ (some 137) _ = _
                          simp only [Act.put, List.setIfInBounds_toArray, List.set_cons_zero, List.set_cons_succ, i64_w, i32_w]
                          rfl
                        refine pure_ (i := 7) (N := some 140) (v := ?_) (a' := ?_) #[true, true, true, true, true, true, true, true, false, false, false, false, false, false, false, false] rfl rfl (any_of HT_.out (by kernel_rfl)) (fun _ _ _ h => h) (Or.inl ⟨by rfl, ?_⟩) ?_ ?_
                        rotate_left
                        · intro w'
                          go_simp
                          with_reducible rfl
                        rotate_left
                        · simp only [Act.put, List.setIfInBounds_toArray, List.set_cons_zero, List.set_cons_succ, i64_w, i32_w]
                          rfl
                        refine pure_ (i := 8) (N := some 141) (v := ?_) (a' := ?_) #[true, true, true, true, true, true, true, true, true, false, false, false, false, false, false, false] rfl rfl (any_of HT_.out (by kernel_rfl)) (fun _ _ _ h => h) (Or.inl ⟨by rfl, ?_⟩) ?_ ?_
                        rotate_left
                        · intro w'
                          go_simp
                          with_reducible rfl
                        rotate_left
                        · simp only [Act.put, List.setIfInBounds_toArray, List.set_cons_zero, List.set_cons_succ, i64_w, i32_w]
                          rfl
                        refine pure_ (i := 9) (N := some 142) (v := ?_) (a' := ?_) #[true, true, true, true, true, true, true, true, true, true, false, false, false, false, false, false] rfl rfl (any_of HT_.out (by kernel_rfl)) (fun _ _ _ h => h) (Or.inl ⟨by rfl, ?_⟩) ?_ ?_
                        rotate_left
                        · intro w'
                          go_simp
                          with_reducible rfl
                        rotate_left
                        · simp only [Act.put, List.setIfInBounds_toArray, List.set_cons_zero, List.set_cons_succ, i64_w, i32_w]
                          rfl
                        refine pure_ (i := 10) (N := some 143) (v := undef) (a' := ?_) #[true, true, true, true, true, true, true, true, true, true, true, false, false, false, false, false] rfl rfl (any_of HT_.out (by kernel_rfl)) (fun _ _ _ h => h) (Or.inr ⟨by rfl, rfl⟩) ?_ ?_
                        rotate_left
                        · simp only [Act.put, List.setIfInBounds_toArray, List.set_cons_zero, List.set_cons_succ, i64_w, i32_w]
                          rfl
                        refine pure_ (i := 11) (N := some 144) (v := undef) (a' := ?_) #[true, true, true, true, true, true, true, true, true, true, true, true, false, false, false, false] rfl rfl (any_of HT_.out (by kernel_rfl)) (fun _ _ _ h => h) (Or.inr ⟨by rfl, rfl⟩) ?_ ?_
                        rotate_left
                        · simp only [Act.put, List.setIfInBounds_toArray, List.set_cons_zero, List.set_cons_succ, i64_w, i32_w]
                          rfl
                        refine pure_ (i := 12) (N := some 145) (v := undef) (a' := ?_) #[true, true, true, true, true, true, true, true, true, true, true, true, true, false, false, false] rfl rfl (any_of HT_.out (by kernel_rfl)) (fun _ _ _ h => h) (Or.inr ⟨by rfl, rfl⟩) ?_ ?_
                        rotate_left
                        · simp only [Act.put, List.setIfInBounds_toArray, List.set_cons_zero, List.set_cons_succ, i64_w, i32_w]
                          rfl
                        refine pure_ (i := 13) (N := some 146) (v := undef) (a' := ?_) #[true, true, true, true, true, true, true, true, true, true, true, true, true, true, false, false] rfl rfl (any_of HT_.out (by kernel_rfl)) (fun _ _ _ h => h) (Or.inr ⟨by rfl, rfl⟩) ?_ ?_
                        rotate_left
                        · simp only [Act.put, List.setIfInBounds_toArray, List.set_cons_zero, List.set_cons_succ, i64_w, i32_w]
                          rfl
                        refine pure_ (i := 14) (N := some 147) (v := undef) (a' := ?_) #[true, true, true, true, true, true, true, true, true, true, true, true, true, true, true, false] rfl rfl (any_of HT_.out (by kernel_rfl)) (fun _ _ _ h => h) (Or.inr ⟨by rfl, rfl⟩) ?_ ?_
                        rotate_left
                        · simp only [Act.put, List.setIfInBounds_toArray, List.set_cons_zero, List.set_cons_succ, i64_w, i32_w]
                          rfl
                        refine pure_ (i := 15) (N := some 148) (v := ?_) (a' := ?_) #[true, true, true, true, true, true, true, true, true, true, true, true, true, true, true, true] rfl rfl (any_of HT_.out (by kernel_rfl)) (fun _ _ _ h => h) (Or.inl ⟨by rfl, ?_⟩) ?_ ?_
                        rotate_left
                        · intro w'
                          go_simp
                          with_reducible rfl
                        rotate_left
                        · simp only [Act.put, List.setIfInBounds_toArray, List.set_cons_zero, List.set_cons_succ, i64_w, i32_w]
                          rfl
                        refine done_ (done_of HT_.out (by kernel_rfl)) ?_
                        try go_wp2
                        go_ret
                        exact ⟨by first | rfl | (simp [errW_none, errW_some] <;> rfl) | (simp [*, errW_none, errW_some] <;> rfl), by repeat (first | (with_reducible first | exact HB.out | apply below_alloc | apply pw_below_drewN | apply below_drew1 | refine below_set ?_ (IsS75.ge HI342.out) | refine below_set ?_ GE343.out) | exact HB.out)⟩
                    · replace c119 := Bool.eq_false_iff.mpr c119
                      subst c119
                      have H1 : (some false) = some r := by rw [if_neg (show ¬ (false = true) by decide)] at H; exact H
                      clear H
                      have H := H1
                      clear H1
                      obtain rfl := Option.some.inj H
                      try go_wp2
                      have n0_ := Aside0.mk (blk_drew BK343.out)
                      have n1_ := Aside0.mk (IsS75.drew HI342.out)
                      have n2_ := Aside0.mk (below_drew1 HB.out)
                      clear BK343
                      clear HI342
                      clear HB
                      have BK343 := n0_
                      have HI342 := n1_
                      have HB := n2_
                      clear n0_ n1_ n2_
                      refine start_ (n := 16) (S := fun w' => True) (ds := []) #[false, false, false, false, false, false, false, false, false, false, false, false, false, false, false, false] (by kernel_rfl) rfl rfl trivial (fun hHeld => ?_); refine with_tabW parchmentlaw02_EncWalks.tab29 parchmentlaw02_EncWalks.bits29 (fun HT_ HW_ => ?_)
                      generalize wc.drew = w132 at BK343 HI342 HB hHeld ⊢
                      refine pure_ (i := 0) (N := some 133) (v := ?_) (a' := ?_) #[true, false, false, false, false, false, false, false, false, false, false, false, false, false, false, false] rfl rfl (any_of HT_.out (by kernel_rfl)) (fun _ _ _ h => h) (Or.inl ⟨by rfl, ?_⟩) ?_ ?_
                      rotate_left
                      · intro w'
                        go_simp
                        with_reducible rfl
                      rotate_left
                      · simp only [Act.put, List.setIfInBounds_toArray, List.set_cons_zero, List.set_cons_succ, i64_w, i32_w]
                        rfl
                      refine pure_ (i := 1) (N := some 134) (v := ?_) (a' := ?_) #[true, true, false, false, false, false, false, false, false, false, false, false, false, false, false, false] rfl rfl (any_of HT_.out (by kernel_rfl)) (fun _ _ _ h => h) (Or.inl ⟨by rfl, ?_⟩) ?_ ?_
                      rotate_left
                      · intro w'
                        go_simp
                        with_reducible rfl
                      rotate_left
                      · simp only [Act.put, List.setIfInBounds_toArray, List.set_cons_zero, List.set_cons_succ, i64_w, i32_w]
                        rfl
                      refine pure_ (i := 2) (N := some 135) (v := ?_) (a' := ?_) #[true, true, true, false, false, false, false, false, false, false, false, false, false, false, false, false] rfl rfl (any_of HT_.out (by kernel_rfl)) (fun _ _ _ h => h) (Or.inl ⟨by rfl, ?_⟩) ?_ ?_
                      rotate_left
                      · intro w'
                        go_simp
                        with_reducible rfl
                      rotate_left
                      · simp only [Act.put, List.setIfInBounds_toArray, List.set_cons_zero, List.set_cons_succ, i64_w, i32_w]
                        rfl
                      refine pure_ (i := 3) (N := some 136) (v := undef) (a' := ?_) #[true, true, true, true, false, false, false, false, false, false, false, false, false, false, false, false] rfl rfl (any_of HT_.out (by kernel_rfl)) (fun _ _ _ h => h) (Or.inr ⟨by rfl, rfl⟩) ?_ ?_
                      rotate_left
                      · simp only [Act.put, List.setIfInBounds_toArray, List.set_cons_zero, List.set_cons_succ, i64_w, i32_w]
                        rfl
                      refine pure_ (i := 4) (N := some 137) (v := undef) (a' := ?_) #[true, true, true, true, true, false, false, false, false, false, false, false, false, false, false, false] rfl rfl (any_of HT_.out (by kernel_rfl)) (fun _ _ _ h => h) (Or.inr ⟨by rfl, rfl⟩) ?_ ?_
                      rotate_left
                      · simp only [Act.put, List.setIfInBounds_toArray, List.set_cons_zero, List.set_cons_succ, i64_w, i32_w]
                        rfl
                      refine pure_ (i := 5) (N := some 138) (v := undef) (a' := ?_) #[true, true, true, true, true, true, false, false, false, false, false, false, false, false, false, false] rfl rfl (any_of HT_.out (by kernel_rfl)) (fun _ _ _ h => h) (Or.inr ⟨by rfl, rfl⟩) ?_ ?_
                      rotate_left
                      · simp only [Act.put, List.setIfInBounds_toArray, List.set_cons_zero, List.set_cons_succ, i64_w, i32_w]
                        rfl
                      refine pure_ (i := 6) (N := some 139) (v := undef) (a' := ?_) #[true, true, true, true, true, true, true, false, false, false, false, false, false, false, false, false] rfl rfl (any_of HT_.out (by kernel_rfl)) (fun _ _ _ h => h) (Or.inr ⟨by rfl, rfl⟩) ?_ ?_
                      rotate_left
                      · simp only [Act.put, List.setIfInBounds_toArray, List.set_cons_zero, List.set_cons_succ, i64_w, i32_w]
                        rfl
                      refine pure_ (i := 7) (N := some 140) (v := undef) (a' := ?_) #[true, true, true, true, true, true, true, true, false, false, false, false, false, false, false, false] rfl rfl (any_of HT_.out (by kernel_rfl)) (fun _ _ _ h => h) (Or.inr ⟨by rfl, rfl⟩) ?_ ?_
                      rotate_left
                      · simp only [Act.put, List.setIfInBounds_toArray, List.set_cons_zero, List.set_cons_succ, i64_w, i32_w]
                        rfl
                      refine pure_ (i := 8) (N := some 141) (v := ?_) (a' := ?_) #[true, true, true, true, true, true, true, true, true, false, false, false, false, false, false, false] rfl rfl (any_of HT_.out (by kernel_rfl)) (fun _ _ _ h => h) (Or.inl ⟨by rfl, ?_⟩) ?_ ?_
                      rotate_left
                      · intro w'
                        go_simp
                        with_reducible rfl
                      rotate_left
                      · simp only [Act.put, List.setIfInBounds_toArray, List.set_cons_zero, List.set_cons_succ, i64_w, i32_w]
                        rfl
                      refine pure_ (i := 9) (N := some 142) (v := ?_) (a' := ?_) #[true, true, true, true, true, true, true, true, true, true, false, false, false, false, false, false] rfl rfl (any_of HT_.out (by kernel_rfl)) (fun _ _ _ h => h) (Or.inl ⟨by rfl, ?_⟩) ?_ ?_
                      rotate_left
                      · intro w'
                        go_simp
                        with_reducible rfl
                      rotate_left
                      · simp only [Act.put, List.setIfInBounds_toArray, List.set_cons_zero, List.set_cons_succ, i64_w, i32_w]
                        rfl
                      refine pure_ (i := 10) (N := some 143) (v := undef) (a' := ?_) #[true, true, true, true, true, true, true, true, true, true, true, false, false, false, false, false] rfl rfl (any_of HT_.out (by kernel_rfl)) (fun _ _ _ h => h) (Or.inr ⟨by rfl, rfl⟩) ?_ ?_
                      rotate_left
                      · simp only [Act.put, List.setIfInBounds_toArray, List.set_cons_zero, List.set_cons_succ, i64_w, i32_w]
                        rfl
                      refine pure_ (i := 11) (N := some 144) (v := undef) (a' := ?_) #[true, true, true, true, true, true, true, true, true, true, true, true, false, false, false, false] rfl rfl (any_of HT_.out (by kernel_rfl)) (fun _ _ _ h => h) (Or.inr ⟨by rfl, rfl⟩) ?_ ?_
                      rotate_left
                      · simp only [Act.put, List.setIfInBounds_toArray, List.set_cons_zero, List.set_cons_succ, i64_w, i32_w]
                        rfl
                      refine pure_ (i := 12) (N := some 145) (v := undef) (a' := ?_) #[true, true, true, true, true, true, true, true, true, true, true, true, true, false, false, false] rfl rfl (any_of HT_.out (by kernel_rfl)) (fun _ _ _ h => h) (Or.inr ⟨by rfl, rfl⟩) ?_ ?_
                      rotate_left
                      · simp only [Act.put, List.setIfInBounds_toArray, List.set_cons_zero, List.set_cons_succ, i64_w, i32_w]
                        rfl
                      refine pure_ (i := 13) (N := some 146) (v := undef) (a' := ?_) #[true, true, true, true, true, true, true, true, true, true, true, true, true, true, false, false] rfl rfl (any_of HT_.out (by kernel_rfl)) (fun _ _ _ h => h) (Or.inr ⟨by rfl, rfl⟩) ?_ ?_
                      rotate_left
                      · simp only [Act.put, List.setIfInBounds_toArray, List.set_cons_zero, List.set_cons_succ, i64_w, i32_w]
                        rfl
                      refine pure_ (i := 14) (N := some 147) (v := undef) (a' := ?_) #[true, true, true, true, true, true, true, true, true, true, true, true, true, true, true, false] rfl rfl (any_of HT_.out (by kernel_rfl)) (fun _ _ _ h => h) (Or.inr ⟨by rfl, rfl⟩) ?_ ?_
                      rotate_left
                      · simp only [Act.put, List.setIfInBounds_toArray, List.set_cons_zero, List.set_cons_succ, i64_w, i32_w]
                        rfl
                      refine pure_ (i := 15) (N := some 148) (v := ?_) (a' := ?_) #[true, true, true, true, true, true, true, true, true, true, true, true, true, true, true, true] rfl rfl (any_of HT_.out (by kernel_rfl)) (fun _ _ _ h => h) (Or.inl ⟨by rfl, ?_⟩) ?_ ?_
                      rotate_left
                      · intro w'
                        go_simp
                        with_reducible rfl
                      rotate_left
                      · simp only [Act.put, List.setIfInBounds_toArray, List.set_cons_zero, List.set_cons_succ, i64_w, i32_w]
                        rfl
                      refine done_ (done_of HT_.out (by kernel_rfl)) ?_
                      try go_wp2
                      go_ret
                      exact ⟨by first | rfl | (simp [errW_none, errW_some] <;> rfl) | (simp [*, errW_none, errW_some] <;> rfl), by repeat (first | (with_reducible first | exact HB.out | apply below_alloc | apply pw_below_drewN | apply below_drew1 | refine below_set ?_ (IsS75.ge HI342.out) | refine below_set ?_ GE343.out) | exact HB.out)⟩
              · rw [if_neg c13] at H
                exact absurd H (by simp)
            · rw [if_neg c12] at H
              exact absurd H (by simp)
          · replace c11 := Bool.eq_false_iff.mpr c11
            subst c11
            have H1 : ((parchmentlaw02_awake.f kj8).bind fun t344 => (if t344 = true then ((enc_Cursor_End.f x343000_1 x343001_1 x343002_1).bind fun bt345 => ((parchmentref02_Cursor_End.f x344000_1 x344001_1 x344002_1).bind fun bt349 => (some (bt345.1 == bt349.2.2)))) else (some false))) = some r := by rw [if_neg (show ¬ (false = true) by decide)] at H; exact H
            clear H
            have H := H1
            clear H1
            replace H := Option.bind_eq_some_iff.mp H
            obtain ⟨t344, A1330, H⟩ := H
            replace H : (if t344 = true then ((enc_Cursor_End.f x343000_1 x343001_1 x343002_1).bind fun bt345 => ((parchmentref02_Cursor_End.f x344000_1 x344001_1 x344002_1).bind fun bt349 => (some (bt345.1 == bt349.2.2)))) else (some false)) = some r := H
            have A133 := Aside0.mk A1330
            clear A1330
            by_cases c134 : t344 = true
            · subst c134
              have H1 : ((enc_Cursor_End.f x343000_1 x343001_1 x343002_1).bind fun bt345 => ((parchmentref02_Cursor_End.f x344000_1 x344001_1 x344002_1).bind fun bt349 => (some (bt345.1 == bt349.2.2)))) = some r := by rw [if_pos rfl] at H; exact H
              clear H
              have H := H1
              clear H1
              replace H := Option.bind_eq_some_iff.mp H
              obtain ⟨⟨t345, t346, t347, t348⟩, A1350, H⟩ := H
              replace H : ((parchmentref02_Cursor_End.f x344000_1 x344001_1 x344002_1).bind fun bt349 => (some (t345 == bt349.2.2))) = some r := H
              have A135 := Aside0.mk A1350
              clear A1350
              replace H := Option.bind_eq_some_iff.mp H
              obtain ⟨⟨t349, t350, t351⟩, A1360, H⟩ := H
              replace H : (some (t345 == t351)) = some r := H
              have A136 := Aside0.mk A1360
              clear A1360
              obtain rfl := Option.some.inj H
              try go_wp2
              have n0_ := Aside0.mk (blk_drew BK343.out)
              have n1_ := Aside0.mk (IsS75.drew HI342.out)
              have n2_ := Aside0.mk (below_drew1 HB.out)
              clear BK343
              clear HI342
              clear HB
              have BK343 := n0_
              have HI342 := n1_
              have HB := n2_
              clear n0_ n1_ n2_
              refine start_ (n := 10) (S := fun w' => w'.cell? ⟨gb343, 0, none⟩ = some (.string x344000_1) ∧ w'.cell? ⟨gb343, 1, none⟩ = some (.int .i64 x344001_1) ∧ w'.cell? ⟨gb343, 2, none⟩ = some (.int .i64 x344002_1)) (ds := []) #[false, false, false, false, false, false, false, false, false, false] (by kernel_rfl) rfl rfl ⟨(blk_cell BK343.out 0).trans rfl, (blk_cell BK343.out 1).trans rfl, (blk_cell BK343.out 2).trans rfl⟩ (fun hHeld => ?_); refine with_tabW parchmentlaw02_EncWalks.tab31 parchmentlaw02_EncWalks.bits31 (fun HT_ HW_ => ?_)
              generalize wc.drew = w137 at BK343 HI342 HB hHeld ⊢
              refine one_ (i := 0) (N := some 149) #[true, false, false, false, false, false, false, false, false, false] rfl rfl (one_of HT_.out (by kernel_rfl)) (by decide) (fun K hK => ?_)
              refine goes_ Try.func16 (by kernel_rfl) rfl #[] (by rfl) rfl rfl (by (try simp only [List.map_toArray, List.map_cons, List.map_nil]); first | done | rfl | (simp only [List.length_drop, List.length_take]; rfl)) ?_
              with_reducible refine (parchmentlaw02_awake.calls kj8  true _ A133.out).mono ?_
              rintro e w138 ⟨rfl, hb⟩
              refine ⟨_, rfl, ?_⟩
              have n0_ := Aside0.mk (blk_below (g := gb343) (o := .cells #[.string x344000_1, .int .i64 x344001_1, .int .i64 x344002_1] 43 (0, 0)) (by (with_reducible repeat (first | refine blk_drewN ?_ _ | refine blk_drew ?_ | refine blk_alloc ?_ _)); exact BK343.out) hb)
              have n1_ := Aside0.mk (IsS75.below (by repeat (first | (with_reducible first | exact HI342.out | apply IsS75.alloc | apply IsS75.drewN | apply IsS75.drew | apply IsS75.set_0 | apply IsS75.set_1 | apply IsS75.set_2 | refine IsS75.far ?_ NB342_343.out _) | exact HI342.out)) hb)
              have n2_ := Aside0.mk (below_step (by repeat (first | (with_reducible first | exact HB.out | apply below_alloc | apply pw_below_drewN | apply below_drew1 | refine below_set ?_ (IsS75.ge HI342.out) | refine below_set ?_ GE343.out) | exact HB.out)) hb)
              clear BK343
              clear HI342
              clear HB
              have BK343 := n0_
              have HI342 := n1_
              have HB := n2_
              clear n0_ n1_ n2_
              (try clear hb)
              (try clear hb2)
              (try clear hk)
              (try clear hi)
              refine hK.out _ _ ⟨(blk_cell BK343.out 0).trans rfl, (blk_cell BK343.out 1).trans rfl, (blk_cell BK343.out 2).trans rfl⟩ (fun hHeld => ?_)
              clear hK K
              refine norm_ (a' := ?_) ?_ ?_
              rotate_left
              · show Act.put _ (some 149) _ = _
                simp only [Act.put, List.setIfInBounds_toArray, List.set_cons_zero, List.set_cons_succ, i64_w, i32_w]
                rfl
              refine pure_ (i := 1) (N := some 150) (v := ?_) (a' := ?_) #[true, true, false, false, false, false, false, false, false, false] rfl rfl (any_of HT_.out (by kernel_rfl)) (fun _ _ _ h => h) (Or.inl ⟨by rfl, ?_⟩) ?_ ?_
              rotate_left
              · intro w'
                go_simp
                with_reducible rfl
              rotate_left
              · simp only [Act.put, List.setIfInBounds_toArray, List.set_cons_zero, List.set_cons_succ, i64_w, i32_w]
                rfl
              refine pure_ (i := 2) (N := some 151) (v := ?_) (a' := ?_) #[true, true, true, false, false, false, false, false, false, false] rfl rfl (any_of HT_.out (by kernel_rfl)) (fun _ _ _ h => h) (Or.inl ⟨by rfl, ?_⟩) ?_ ?_
              rotate_left
              · intro w'
                go_simp
                with_reducible rfl
              rotate_left
              · simp only [Act.put, List.setIfInBounds_toArray, List.set_cons_zero, List.set_cons_succ, i64_w, i32_w]
                rfl
              refine take_ (i := 4) (N := some 153) (v := ?_) (a' := ?_) #[true, true, true, false, true, false, false, false, false, false] rfl rfl (take_ofW HT_.out HW_.out (by kernel_rfl)) (fun _ _ _ h => h) (Or.inl ⟨by rfl, ?_⟩) hHeld ?_ ?_
              rotate_left
              · rintro w' ⟨s0, s1, s2⟩
                go_simp
                with_reducible rfl
              rotate_left
              · simp only [Act.put, List.setIfInBounds_toArray, List.set_cons_zero, List.set_cons_succ, i64_w, i32_w]
                rfl
              refine one_ (i := 3) (N := some 152) #[true, true, true, true, true, false, false, false, false, false] rfl rfl (one_of HT_.out (by kernel_rfl)) (by decide) (fun K hK => ?_)
              refine goes_ Try.func19 (by kernel_rfl) rfl #[.pointer (some ⟨g342, 0, none⟩)] (by rfl) rfl rfl (by (try simp only [List.map_toArray, List.map_cons, List.map_nil]); first | done | rfl | (simp only [List.length_drop, List.length_take]; rfl)) ?_
              with_reducible refine (enc_Cursor_End.calls g342 x343000_1 x343001_1 x343002_1 t345 t346 t347 t348 w _ ?side1 ?side2 A135.out).mono ?_
              (case side1 => repeat (first | (with_reducible first | exact HI342.out | apply IsS75.alloc | apply IsS75.drewN | apply IsS75.drew | apply IsS75.set_0 | apply IsS75.set_1 | apply IsS75.set_2 | refine IsS75.far ?_ NB342_343.out _) | exact HI342.out))
              (case side2 => repeat (first | (with_reducible first | exact HB.out | apply below_alloc | apply pw_below_drewN | apply below_drew1 | refine below_set ?_ (IsS75.ge HI342.out) | refine below_set ?_ GE343.out) | exact HB.out))
              rintro e w139 ⟨rfl, hi, hb, hk⟩
              refine ⟨_, rfl, ?_⟩
              have n0_ := Aside0.mk (KeepBut.blk hk (g' := gb343) (o := .cells #[.string x344000_1, .int .i64 x344001_1, .int .i64 x344002_1] 43 (0, 0)) (by (with_reducible repeat (first | refine blk_drewN ?_ _ | refine blk_drew ?_ | refine blk_alloc ?_ _)); exact BK343.out) NB343_342.out (by simp))
              have n1_ := Aside0.mk (hb)
              have n2_ := Aside0.mk (hi)
              clear BK343
              clear HB
              clear HI342
              have BK343 := n0_
              have HB := n1_
              have HI342 := n2_
              clear n0_ n1_ n2_
              (try clear hb)
              (try clear hb2)
              (try clear hk)
              (try clear hi)
              refine hK.out _ _ ⟨(blk_cell BK343.out 0).trans rfl, (blk_cell BK343.out 1).trans rfl, (blk_cell BK343.out 2).trans rfl⟩ (fun hHeld => ?_)
              clear hK K
              refine norm_ (a' := ?_) ?_ ?_
              rotate_left
              · show Act.put _ (some 152) _ = _
                simp only [Act.put, List.setIfInBounds_toArray, List.set_cons_zero, List.set_cons_succ, i64_w, i32_w]
                rfl
              refine one_ (i := 5) (N := some 154) #[true, true, true, true, true, true, false, false, false, false] rfl rfl (one_of HT_.out (by kernel_rfl)) (by decide) (fun K hK => ?_)
              refine goes_ Try.func54 (by kernel_rfl) rfl #[.agg #[.string x344000_1, .int .i64 x344001_1, .int .i64 x344002_1]] (by rfl) rfl rfl (by (try simp only [List.map_toArray, List.map_cons, List.map_nil]); first | done | rfl | (simp only [List.length_drop, List.length_take]; rfl)) ?_
              with_reducible refine (parchmentref02_Cursor_End.calls x344000_1 x344001_1 x344002_1 t349 t350 t351 _ A136.out).mono ?_
              rintro e w140 ⟨rfl, hb⟩
              refine ⟨_, rfl, ?_⟩
              have n0_ := Aside0.mk (blk_below (g := gb343) (o := .cells #[.string x344000_1, .int .i64 x344001_1, .int .i64 x344002_1] 43 (0, 0)) (by (with_reducible repeat (first | refine blk_drewN ?_ _ | refine blk_drew ?_ | refine blk_alloc ?_ _)); exact BK343.out) hb)
              have n1_ := Aside0.mk (IsS75.below (by repeat (first | (with_reducible first | exact HI342.out | apply IsS75.alloc | apply IsS75.drewN | apply IsS75.drew | apply IsS75.set_0 | apply IsS75.set_1 | apply IsS75.set_2 | refine IsS75.far ?_ NB342_343.out _) | exact HI342.out)) hb)
              have n2_ := Aside0.mk (below_step (by repeat (first | (with_reducible first | exact HB.out | apply below_alloc | apply pw_below_drewN | apply below_drew1 | refine below_set ?_ (IsS75.ge HI342.out) | refine below_set ?_ GE343.out) | exact HB.out)) hb)
              clear BK343
              clear HI342
              clear HB
              have BK343 := n0_
              have HI342 := n1_
              have HB := n2_
              clear n0_ n1_ n2_
              (try clear hb)
              (try clear hb2)
              (try clear hk)
              (try clear hi)
              refine hK.out _ _ ⟨(blk_cell BK343.out 0).trans rfl, (blk_cell BK343.out 1).trans rfl, (blk_cell BK343.out 2).trans rfl⟩ (fun hHeld => ?_)
              clear hK K
              refine norm_ (a' := ?_) ?_ ?_
              rotate_left
              · show Act.put _ (some 154) _ = _
                simp only [Act.put, List.setIfInBounds_toArray, List.set_cons_zero, List.set_cons_succ, i64_w, i32_w]
                rfl
              refine pure_ (i := 6) (N := some 155) (v := ?_) (a' := ?_) #[true, true, true, true, true, true, true, false, false, false] rfl rfl (any_of HT_.out (by kernel_rfl)) (fun _ _ _ h => h) (Or.inl ⟨by rfl, ?_⟩) ?_ ?_
              rotate_left
              · intro w'
                go_simp
                with_reducible rfl
              rotate_left
              · simp only [Act.put, List.setIfInBounds_toArray, List.set_cons_zero, List.set_cons_succ, i64_w, i32_w]
                rfl
              refine pure_ (i := 7) (N := some 156) (v := ?_) (a' := ?_) #[true, true, true, true, true, true, true, true, false, false] rfl rfl (any_of HT_.out (by kernel_rfl)) (fun _ _ _ h => h) (Or.inl ⟨by rfl, ?_⟩) ?_ ?_
              rotate_left
              · intro w'
                go_simp
                with_reducible rfl
              rotate_left
              · simp only [Act.put, List.setIfInBounds_toArray, List.set_cons_zero, List.set_cons_succ, i64_w, i32_w]
                rfl
              refine pure_ (i := 8) (N := some 157) (v := ?_) (a' := ?_) #[true, true, true, true, true, true, true, true, true, false] rfl rfl (any_of HT_.out (by kernel_rfl)) (fun _ _ _ h => h) (Or.inl ⟨by rfl, ?_⟩) ?_ ?_
              rotate_left
              · intro w'
                go_simp
                with_reducible rfl
              rotate_left
              · simp only [Act.put, List.setIfInBounds_toArray, List.set_cons_zero, List.set_cons_succ, i64_w, i32_w]
                rfl
              refine pure_ (i := 9) (N := some 4) (v := ?_) (a' := ?_) #[true, true, true, true, true, true, true, true, true, true] rfl rfl (any_of HT_.out (by kernel_rfl)) (fun _ _ _ h => h) (Or.inl ⟨by rfl, ?_⟩) ?_ ?_
              rotate_left
              · intro w'
                go_simp
                with_reducible rfl
              rotate_left
              · simp only [Act.put, List.setIfInBounds_toArray, List.set_cons_zero, List.set_cons_succ, i64_w, i32_w]
                rfl
              refine done_ (done_of HT_.out (by kernel_rfl)) ?_
              try go_wp2
              go_ret
              exact ⟨by first | rfl | (simp [errW_none, errW_some] <;> rfl) | (simp [*, errW_none, errW_some] <;> rfl), by repeat (first | (with_reducible first | exact HB.out | apply below_alloc | apply pw_below_drewN | apply below_drew1 | refine below_set ?_ (IsS75.ge HI342.out) | refine below_set ?_ GE343.out) | exact HB.out)⟩
            · replace c134 := Bool.eq_false_iff.mpr c134
              subst c134
              have H1 : (some false) = some r := by rw [if_neg (show ¬ (false = true) by decide)] at H; exact H
              clear H
              have H := H1
              clear H1
              obtain rfl := Option.some.inj H
              try go_wp2
              have n0_ := Aside0.mk (blk_drew BK343.out)
              have n1_ := Aside0.mk (IsS75.drew HI342.out)
              have n2_ := Aside0.mk (below_drew1 HB.out)
              clear BK343
              clear HI342
              clear HB
              have BK343 := n0_
              have HI342 := n1_
              have HB := n2_
              clear n0_ n1_ n2_
              refine start_ (n := 10) (S := fun w' => True) (ds := []) #[false, false, false, false, false, false, false, false, false, false] (by kernel_rfl) rfl rfl trivial (fun hHeld => ?_); refine with_tabW parchmentlaw02_EncWalks.tab31 parchmentlaw02_EncWalks.bits31 (fun HT_ HW_ => ?_)
              generalize wc.drew = w141 at BK343 HI342 HB hHeld ⊢
              refine one_ (i := 0) (N := some 149) #[true, false, false, false, false, false, false, false, false, false] rfl rfl (one_of HT_.out (by kernel_rfl)) (by decide) (fun K hK => ?_)
              refine goes_ Try.func16 (by kernel_rfl) rfl #[] (by rfl) rfl rfl (by (try simp only [List.map_toArray, List.map_cons, List.map_nil]); first | done | rfl | (simp only [List.length_drop, List.length_take]; rfl)) ?_
              with_reducible refine (parchmentlaw02_awake.calls kj8  false _ A133.out).mono ?_
              rintro e w142 ⟨rfl, hb⟩
              refine ⟨_, rfl, ?_⟩
              have n0_ := Aside0.mk (blk_below (g := gb343) (o := .cells #[.string x344000_1, .int .i64 x344001_1, .int .i64 x344002_1] 43 (0, 0)) (by (with_reducible repeat (first | refine blk_drewN ?_ _ | refine blk_drew ?_ | refine blk_alloc ?_ _)); exact BK343.out) hb)
              have n1_ := Aside0.mk (IsS75.below (by repeat (first | (with_reducible first | exact HI342.out | apply IsS75.alloc | apply IsS75.drewN | apply IsS75.drew | apply IsS75.set_0 | apply IsS75.set_1 | apply IsS75.set_2 | refine IsS75.far ?_ NB342_343.out _) | exact HI342.out)) hb)
              have n2_ := Aside0.mk (below_step (by repeat (first | (with_reducible first | exact HB.out | apply below_alloc | apply pw_below_drewN | apply below_drew1 | refine below_set ?_ (IsS75.ge HI342.out) | refine below_set ?_ GE343.out) | exact HB.out)) hb)
              clear BK343
              clear HI342
              clear HB
              have BK343 := n0_
              have HI342 := n1_
              have HB := n2_
              clear n0_ n1_ n2_
              (try clear hb)
              (try clear hb2)
              (try clear hk)
              (try clear hi)
              refine hK.out _ _ trivial (fun hHeld => ?_)
              clear hK K
              refine norm_ (a' := ?_) ?_ ?_
              rotate_left
              · show Act.put _ (some 149) _ = _
                simp only [Act.put, List.setIfInBounds_toArray, List.set_cons_zero, List.set_cons_succ, i64_w, i32_w]
                rfl
              refine pure_ (i := 1) (N := some 150) (v := ?_) (a' := ?_) #[true, true, false, false, false, false, false, false, false, false] rfl rfl (any_of HT_.out (by kernel_rfl)) (fun _ _ _ h => h) (Or.inl ⟨by rfl, ?_⟩) ?_ ?_
              rotate_left
              · intro w'
                go_simp
                with_reducible rfl
              rotate_left
              · simp only [Act.put, List.setIfInBounds_toArray, List.set_cons_zero, List.set_cons_succ, i64_w, i32_w]
                rfl
              refine pure_ (i := 2) (N := some 151) (v := undef) (a' := ?_) #[true, true, true, false, false, false, false, false, false, false] rfl rfl (any_of HT_.out (by kernel_rfl)) (fun _ _ _ h => h) (Or.inr ⟨by rfl, rfl⟩) ?_ ?_
              rotate_left
              · simp only [Act.put, List.setIfInBounds_toArray, List.set_cons_zero, List.set_cons_succ, i64_w, i32_w]
                rfl
              refine pure_ (i := 3) (N := some 152) (v := undef) (a' := ?_) #[true, true, true, true, false, false, false, false, false, false] rfl rfl (any_of HT_.out (by kernel_rfl)) (fun _ _ _ h => h) (Or.inr ⟨by rfl, rfl⟩) ?_ ?_
              rotate_left
              · simp only [Act.put, List.setIfInBounds_toArray, List.set_cons_zero, List.set_cons_succ, i64_w, i32_w]
                rfl
              refine pure_ (i := 4) (N := some 153) (v := undef) (a' := ?_) #[true, true, true, true, true, false, false, false, false, false] rfl rfl (any_of HT_.out (by kernel_rfl)) (fun _ _ _ h => h) (Or.inr ⟨by rfl, rfl⟩) ?_ ?_
              rotate_left
              · simp only [Act.put, List.setIfInBounds_toArray, List.set_cons_zero, List.set_cons_succ, i64_w, i32_w]
                rfl
              refine pure_ (i := 5) (N := some 154) (v := undef) (a' := ?_) #[true, true, true, true, true, true, false, false, false, false] rfl rfl (any_of HT_.out (by kernel_rfl)) (fun _ _ _ h => h) (Or.inr ⟨by rfl, rfl⟩) ?_ ?_
              rotate_left
              · simp only [Act.put, List.setIfInBounds_toArray, List.set_cons_zero, List.set_cons_succ, i64_w, i32_w]
                rfl
              refine pure_ (i := 6) (N := some 155) (v := undef) (a' := ?_) #[true, true, true, true, true, true, true, false, false, false] rfl rfl (any_of HT_.out (by kernel_rfl)) (fun _ _ _ h => h) (Or.inr ⟨by rfl, rfl⟩) ?_ ?_
              rotate_left
              · simp only [Act.put, List.setIfInBounds_toArray, List.set_cons_zero, List.set_cons_succ, i64_w, i32_w]
                rfl
              refine pure_ (i := 7) (N := some 156) (v := undef) (a' := ?_) #[true, true, true, true, true, true, true, true, false, false] rfl rfl (any_of HT_.out (by kernel_rfl)) (fun _ _ _ h => h) (Or.inr ⟨by rfl, rfl⟩) ?_ ?_
              rotate_left
              · simp only [Act.put, List.setIfInBounds_toArray, List.set_cons_zero, List.set_cons_succ, i64_w, i32_w]
                rfl
              refine pure_ (i := 8) (N := some 157) (v := ?_) (a' := ?_) #[true, true, true, true, true, true, true, true, true, false] rfl rfl (any_of HT_.out (by kernel_rfl)) (fun _ _ _ h => h) (Or.inl ⟨by rfl, ?_⟩) ?_ ?_
              rotate_left
              · intro w'
                go_simp
                with_reducible rfl
              rotate_left
              · simp only [Act.put, List.setIfInBounds_toArray, List.set_cons_zero, List.set_cons_succ, i64_w, i32_w]
                rfl
              refine pure_ (i := 9) (N := some 4) (v := ?_) (a' := ?_) #[true, true, true, true, true, true, true, true, true, true] rfl rfl (any_of HT_.out (by kernel_rfl)) (fun _ _ _ h => h) (Or.inl ⟨by rfl, ?_⟩) ?_ ?_
              rotate_left
              · intro w'
                go_simp
                with_reducible rfl
              rotate_left
              · simp only [Act.put, List.setIfInBounds_toArray, List.set_cons_zero, List.set_cons_succ, i64_w, i32_w]
                rfl
              refine done_ (done_of HT_.out (by kernel_rfl)) ?_
              try go_wp2
              go_ret
              exact ⟨by first | rfl | (simp [errW_none, errW_some] <;> rfl) | (simp [*, errW_none, errW_some] <;> rfl), by repeat (first | (with_reducible first | exact HB.out | apply below_alloc | apply pw_below_drewN | apply below_drew1 | refine below_set ?_ (IsS75.ge HI342.out) | refine below_set ?_ GE343.out) | exact HB.out)⟩

end Go.Proofs.Ytfnijaiaodplgaa.PEnc
