/- Part 7 of what the proof of BlockUnlike stands on. -/
import Derived.Lib.SmallJoins
import Derived.Deep.Slices
import Derived.SizedLaws
import Derived.ProofKit
import Derived.Test.YtdcbacbilncnnaaProg
import Derived.Below
import Derived.Deep.Draws
import Derived.Deep.AppendLies
import Derived.Maps.AppendAt
import Derived.OwnWalk
import Derived.Laws.BytesArg
import Derived.Laws.MakeOwn
import Derived.Laws.OwnMore
import Derived.Deep.OwnRows
import Derived.Tactics
import Derived.Lib.ConvBytes
import Derived.Laws.Slices
import Derived.WalkKit
import Derived.KernelRfl
import Derived.RowKit3
import Derived.Deep.LoopGhost
import Derived.Deep.QuietTactic
import Derived.BigQuiet
import Derived.WideLaws
import Derived.Deep.DeepCutAuto
import Derived.Deep.CutBlock
import Derived.Deep.RegionHeld3
import Derived.Laws.Rows
import Derived.Lib.AppendStr
import Derived.ArgAppend
import Derived.Laws.IdiomCopy
import Derived.OrdersHeld
import Derived.Laws.BitsLemmas
import Derived.RowKit
import Derived.Test.YtdcbacbilncnnaaBun6
section
/- Root, Header, Frame and Follows of a block: what the reference comes to, and the program's Frame. -/
set_option linter.unusedVariables false
set_option linter.unusedSimpArgs false
namespace Go.Proofs.Ytdcbacbilncnnaa.T
open Go.RowKit Go.Proofs.Ytdcbacbilncnnaa.PMk Go.Proofs.Ytdcbacbilncnnaa.M Go.Proofs.Ytdcbacbilncnnaa.EncS Go.Proofs.Ytdcbacbilncnnaa.EncL Go.Proofs.YtdcbacbilncnnaaW.PrintWords Go.Proofs.YtdcbacbilncnnaaW.PrintLast
theorem rd_map (l : List S47) (i : Nat) (h : i < l.length) : rd_T44 (l.map rf) (i : Int) = rf (rd_T47 l (i : Int)) := by
  unfold rd_T44 rd_T47
  simp [List.getD_eq_getElem?_getD, List.getElem?_eq_getElem h]
theorem rd_mem (l : List S47) (i : Nat) (h : i < l.length) : rd_T47 l (i : Int) ∈ l := by
  unfold rd_T47
  simp [List.getD_eq_getElem?_getD, List.getElem?_eq_getElem h]
theorem rd_drop (l : List S47) (i : Nat) (h : i < l.length) : l.drop i = rd_T47 l (i : Int) :: l.drop (i + 1) := by
  unfold rd_T47
  rw [List.drop_eq_getElem_cons h]
  simp [List.getD_eq_getElem?_getD, List.getElem?_eq_getElem h]
def chks : List S47 → Int
  | [] => 0
  | x :: l => if chk x = 0 then chks l else chk x
def fol (a0 : Int) (a1 : ByteArray) (l : List S47) (n : Int) (p : ByteArray) : Int :=
  if l.length = 0 ∨ l.length > 64 then 3 else if chks l = 0 then (if a0 = n ∧ a1.toList = p.toList then 0 else 90) else chks l
theorem rfol_l0 (a0 : Int) (a1 : ByteArray) (a2 : Int) (l : List S47) (hl : l.length < 4611686018427387904) (hs : ∀ x ∈ l, Small x) (n : Int) (p : ByteArray) : ∀ (m i : Nat), i + m = l.length →
    Ev (fun k => parchmentref09_Follows.l0 k n p (i : Int) a0 a1 a2 (l.map rf)) (if chks (l.drop i) = 0 then (if a0 = n ∧ a1.toList = p.toList then 0 else 90) else chks (l.drop i)) := by
  intro m
  induction m with
  | zero =>
    intro i hi
    refine Ev.step (f := fun k => _) (fun k => by rw [parchmentref09_Follows.l0, if_neg (by rw [List.length_map]; omega)]) ?_
    rw [List.drop_eq_nil_of_le (by omega), chks, if_pos rfl]
    by_cases h1 : a0 = n
    · simp only [if_pos h1]
      by_cases h2 : a1.toList = p.toList
      · simp only [if_pos h2]; rw [if_pos ⟨h1, h2⟩]; exact Ev.now _
      · simp only [if_neg h2]; rw [if_neg (fun h => h2 h.2)]; exact Ev.now _
    · simp only [if_neg h1]; rw [if_neg (fun h => h1 h.1)]; exact Ev.now _
  | succ m ih =>
    intro i hi
    have hlt : i < l.length := by omega
    refine Ev.step (f := fun k => _) (fun k => by rw [parchmentref09_Follows.l0, if_pos (by rw [List.length_map]; omega), if_pos (by omega), rd_map l i hlt, wr1 i l.length hlt hl]) ?_
    refine Ev.bind (r_check (rd_T47 l (i : Int)) (hs _ (rd_mem l i hlt))) ?_
    rw [rd_drop l i hlt, chks]
    by_cases hc : chk (rd_T47 l (i : Int)) = 0
    · simp only [if_pos hc]; exact ih (i + 1) (by omega)
    · simp only [if_neg hc]; exact Ev.now _
theorem r_fol (a0 : Int) (a1 : ByteArray) (a2 : Int) (l : List S47) (hl : l.length < 4611686018427387904) (hs : ∀ x ∈ l, Small x) (n : Int) (p : ByteArray) : Ev (fun k => parchmentref09_Follows.f k a0 a1 a2 (l.map rf) n p) (fol a0 a1 l n p) := by
  have key : ∀ b : Bool, (b = true ↔ (l.length = 0 ∨ l.length > 64)) → Ev (fun k => parchmentref09_Follows.j0 k n p b a0 a1 a2 (l.map rf)) (fol a0 a1 l n p) := by
    intro b hb
    refine Ev.step (f := fun k => _) (fun k => by rw [parchmentref09_Follows.j0]) ?_
    unfold fol
    by_cases h : b = true
    · simp only [if_pos h, if_pos (hb.1 h)]; exact Ev.now _
    · simp only [if_neg h, if_neg (fun q => h (hb.2 q))]
      have h := rfol_l0 a0 a1 a2 l hl hs n p l.length 0 (by omega)
      rw [List.drop_zero] at h
      exact h
  unfold parchmentref09_Follows.f
  rw [List.length_map]
  by_cases h0 : l.length = 0
  · simp only [if_pos (show (l.length : Int) = 0 by omega)]; exact key true (by simp [h0])
  · simp only [if_neg (show ¬ (l.length : Int) = 0 by omega)]; exact key _ (by rw [decide_eq_true_iff]; omega)
theorem toList_len (s : ByteArray) : s.toList.length = s.size := by rw [ByteArray.toList_eq, Array.length_toList]; rfl
theorem rroot_l0 (a0 : Int) (a1 : ByteArray) (a2 : Int) (l : List S47) (g : FitsL l) (hn : l.length < 1000) : ∀ (m i : Nat), i + m = l.length →
    Ev (fun k => parchmentref09_Root.l0 k (lv (ms l) i) (i : Int) a0 a1 a2 (l.map rf)) (mroot (lvs l)) := by
  intro m
  have hml := ms_len l
  induction m with
  | zero =>
    intro i hi
    refine Ev.step (f := fun k => _) (fun k => by rw [parchmentref09_Root.l0, if_neg (by rw [List.length_map]; omega)]) ?_
    have e : lv (ms l) i = lvs l := by unfold lvs; rw [hml, show i = l.length by omega]
    rw [e]
    refine Ev.bind (a := mroot (lvs l)) ?_ (Ev.now _)
    exact ⟨l.length + 1, fun k hk => rroot_f k (lvs l) (lvs_w32 l) (by rw [lvs_len]; omega) (by rw [lvs_len]; omega)⟩
  | succ m ih =>
    intro i hi
    have hlt : i < l.length := by omega
    refine Ev.step (f := fun k => _) (fun k => by rw [parchmentref09_Root.l0, if_pos (by rw [List.length_map]; omega), if_pos (by omega), rd_map l i hlt, wr1 i l.length hlt (by omega)]) ?_
    have gx := g _ (rd_mem l i hlt)
    refine Ev.bind (rmeta_ev _ _ gx) ?_
    have hz := mt_len (op := (rd_T47 l (i : Int)).f0) gx
    have hL : parchmentref01_Leaf.f (S (mx (rd_T47 l (i : Int)))) = some (leaf (S (mx (rd_T47 l (i : Int))))) := rleaf_f _ (by rw [S_size]; show (mt _ _ _ _ _ _).length < _; omega)
    refine Ev.congr (fun k => congrArg (fun q => Option.bind q _) hL) ?_
    have e : lv (ms l) i ++ [leaf (S (mx (rd_T47 l (i : Int))))] = lv (ms l) (i + 1) := by
      rw [← lv_succ (by rw [hml]; omega)]
      congr 2
      unfold ms rd_T47
      simp [List.getD_eq_getElem?_getD, List.getElem?_eq_getElem hlt]
    have hll : (lv (ms l) i).length = i := lv_len (by rw [hml]; omega)
    refine Ev.congr (fun k => ?_) (ih (i + 1) (by omega))
    simp only [Option.bind_some]
    rw [if_pos (by rw [hll]; omega), e]
theorem r_root (a0 : Int) (a1 : ByteArray) (a2 : Int) (l : List S47) (g : FitsL l) (hn : l.length < 1000) : Ev (fun k => parchmentref09_Root.f k a0 a1 a2 (l.map rf)) (mroot (lvs l)) := rroot_l0 a0 a1 a2 l g hn l.length 0 (by omega)
theorem r_header (a0 : Int) (a1 : ByteArray) (a2 : Int) (l : List S47) (g : FitsB a0 a1 a2 l) : Ev (fun k => parchmentref09_Header.f k a0 a1 a2 (l.map rf)) (hdr a0 a1 a2 l) := by
  obtain ⟨h1, h2, h3, h4⟩ := pre_size g
  have hn := g.n
  have hw := u64_in (l.length : Int) (by omega) (by omega)
  have hz := mroot_size (lvs_w32 l)
  unfold parchmentref09_Header.f
  rw [List.length_map, hw]
  refine Ev.bind (rnum_ev a0 g.p0 g.p1) ?_
  refine Ev.bind (ref_text_f a1 (by have := g.s; omega)) ?_
  show Ev (fun k => if (S (num a0)).size + (S (txt a1)).size ≤ 9223372036854775807 then _ else none) _
  refine Ev.congr (fun k => if_pos (by omega)) ?_
  refine Ev.bind (rnum_ev a2 g.q0 g.q1) ?_
  refine Ev.congr (fun k => if_pos (by show (S (num a0) ++ S (txt a1)).size + _ ≤ _; rw [ByteArray.size_append]; omega)) ?_
  refine Ev.bind (ref_uint_f l.length l.length (Nat.le_refl _) (by omega)) ?_
  refine Ev.congr (fun k => if_pos (by show ((S (num a0) ++ S (txt a1)) ++ S (num a2)).size + _ ≤ _; rw [ByteArray.size_append, ByteArray.size_append]; omega)) ?_
  refine Ev.bind (r_root a0 a1 a2 l g.ls hn) ?_
  refine Ev.congr (fun k => if_pos (by show (((S (num a0) ++ S (txt a1)) ++ S (num a2)) ++ S (encU l.length)).size + _ ≤ _; rw [ByteArray.size_append, ByteArray.size_append, ByteArray.size_append]; omega)) ?_
  exact Ev.now _
/-- A block's bytes. -/
def frm (a0 : Int) (a1 : ByteArray) (a2 : Int) (l : List S47) : ByteArray := pre a0 a1 a2 l.length ++ S (l.flatMap mx)
theorem flat_len {l : List S47} (g : FitsL l) : (l.flatMap mx).length ≤ l.length * 3377699720527973 := by
  induction l with
  | nil => simp
  | cons x l ih =>
    have h1 := ih fun y hy => g y (by simp [hy])
    have h2 := mt_len (op := x.f0) (g x (by simp))
    rw [List.flatMap_cons, List.length_append, List.length_cons]
    show (mt _ _ _ _ _ _).length + _ ≤ _
    omega
theorem rfrm_l0 (a0 : Int) (a1 : ByteArray) (a2 : Int) (l : List S47) (g : FitsL l) (hn : l.length < 1000) (P : ByteArray) (hP : P.size ≤ 1125899906842700) : ∀ (m i : Nat), i + m = l.length →
    Ev (fun k => parchmentref09_Frame.l0 k (P ++ S ((l.take i).flatMap mx)) (i : Int) a0 a1 a2 (l.map rf)) (P ++ S (l.flatMap mx)) := by
  intro m
  induction m with
  | zero =>
    intro i hi
    refine Ev.step (f := fun k => some (P ++ S (l.flatMap mx))) (fun k => ?_) (Ev.now _)
    rw [parchmentref09_Frame.l0, if_neg (by rw [List.length_map]; omega), List.take_of_length_le (by omega)]
  | succ m ih =>
    intro i hi
    have hlt : i < l.length := by omega
    refine Ev.step (f := fun k => _) (fun k => by rw [parchmentref09_Frame.l0, if_pos (by rw [List.length_map]; omega), if_pos (by omega), rd_map l i hlt, wr1 i l.length hlt (by omega)]) ?_
    have gx := g _ (rd_mem l i hlt)
    refine Ev.bind (rmeta_ev _ _ gx) ?_
    have hz := mt_len (op := (rd_T47 l (i : Int)).f0) gx
    have hf := flat_len (l := l.take i) (fun y hy => g y (List.mem_of_mem_take hy))
    rw [List.length_take] at hf
    have e : (P ++ S ((l.take i).flatMap mx)) ++ S (mx (rd_T47 l (i : Int))) = P ++ S ((l.take (i + 1)).flatMap mx) := by
      rw [ByteArray.append_assoc, S_append]
      congr 2
      rw [List.take_succ_eq_append_getElem hlt, List.flatMap_append]
      unfold rd_T47
      simp [List.getD_eq_getElem?_getD, List.getElem?_eq_getElem hlt]
    have hmin : (min i l.length) * 3377699720527973 ≤ 1000 * 3377699720527973 := Nat.mul_le_mul_right _ (by omega)
    refine Ev.congr (fun k => if_pos ?_) ?_
    · rw [ByteArray.size_append, S_size]
      show P.size + _ + (S (mt _ _ _ _ _ _)).size ≤ _
      rw [S_size]
      have hz' : (mt (rf (rd_T47 l (i : Int))).f0 (rf (rd_T47 l (i : Int))).f1 (rf (rd_T47 l (i : Int))).f2 (rf (rd_T47 l (i : Int))).f3 (rf (rd_T47 l (i : Int))).f4 (rf (rd_T47 l (i : Int))).f5).length ≤ 3377699720527973 := hz
      omega
    · refine Ev.congr (fun k => ?_) (ih (i + 1) (by omega))
      rw [← e]
      rfl
theorem r_frame (a0 : Int) (a1 : ByteArray) (a2 : Int) (l : List S47) (g : FitsB a0 a1 a2 l) : Ev (fun k => parchmentref09_Frame.f k a0 a1 a2 (l.map rf)) (frm a0 a1 a2 l) := by
  obtain ⟨h1, h2, h3, h4⟩ := pre_size g
  have hn := g.n
  have hw := u64_in (l.length : Int) (by omega) (by omega)
  unfold parchmentref09_Frame.f
  rw [List.length_map, hw]
  refine Ev.bind (rnum_ev a0 g.p0 g.p1) ?_
  refine Ev.bind (ref_text_f a1 (by have := g.s; omega)) ?_
  show Ev (fun k => if (S (num a0)).size + (S (txt a1)).size ≤ 9223372036854775807 then _ else none) _
  refine Ev.congr (fun k => if_pos (by omega)) ?_
  refine Ev.bind (rnum_ev a2 g.q0 g.q1) ?_
  refine Ev.congr (fun k => if_pos (by show (S (num a0) ++ S (txt a1)).size + _ ≤ _; rw [ByteArray.size_append]; omega)) ?_
  refine Ev.bind (ref_uint_f l.length l.length (Nat.le_refl _) (by omega)) ?_
  refine Ev.congr (fun k => if_pos (by show ((S (num a0) ++ S (txt a1)) ++ S (num a2)).size + _ ≤ _; rw [ByteArray.size_append, ByteArray.size_append]; omega)) ?_
  have hp : (pre a0 a1 a2 l.length).size ≤ 1125899906842700 := by
    unfold pre
    rw [ByteArray.size_append, ByteArray.size_append, ByteArray.size_append]
    omega
  have h := rfrm_l0 a0 a1 a2 l g.ls hn (pre a0 a1 a2 l.length) hp l.length 0 (by omega)
  refine Ev.congr (fun k => ?_) h
  show parchmentref09_Frame.l0 k (pre a0 a1 a2 l.length) 0 a0 a1 a2 (l.map rf) = parchmentref09_Frame.l0 k (pre a0 a1 a2 l.length ++ S []) 0 a0 a1 a2 (l.map rf)
  congr 1
  exact (ByteArray.append_empty).symm
end Go.Proofs.Ytdcbacbilncnnaa.T
end
section
/- What comes in is laid open: revisions, blocks. -/
set_option linter.unusedVariables false
set_option linter.unusedSimpArgs false
namespace Go.Proofs.Ytdcbacbilncnnaa.Opn
open Go.Joins Go.ChangeShapes Go.WideShapes Go.ChangeAt Go.RowKit Go.Deep Go.Proofs.Ytdcbacbilncnnaa.PMk Go.Proofs.Ytdcbacbilncnnaa.T Go.Proofs.Ytdcbacbilncnnaa.EncL Go.Proofs.YtdcbacbilncnnaaW.PrintWords Go.Proofs.YtdcbacbilncnnaaW.PrintLast
/-- A revision that a caller can hand in. -/
structure Wide (x : S47) : Prop where
  d0 : 0 ≤ x.f3
  d1 : x.f3 < 18446744073709551616
  v0 : 0 ≤ x.f4
  v1 : x.f4 < 18446744073709551616
  t : x.f1.size ≤ 140737488351232
  f : x.f2.size ≤ 140737488351232
  h : x.f5.size ≤ 140737488351232
  b : x.f6.size ≤ 140737488351232
theorem u64_wf (a : Int) (h : (Lit.int .u64 a).wf = true) : 0 ≤ a ∧ a < 18446744073709551616 := by
  simp [Lit.wf, IntKind.min, IntKind.max, IntKind.signed, IntKind.bits] at h
  omega
instance : Inhabited S47 := ⟨z47⟩
section
variable {H : Type} {enc : TypeId × Value → H} {W : World} {base : Nat} {sp : Nat → Bool} {held : Bool}
abbrev vals (x : S47) : List Value := [.int .i64 x.f0, .string x.f1, .string x.f2, .int .u64 x.f3, .int .u64 x.f4, .string x.f5, .string x.f6, .bool x.f7]
theorem data_len (s : ByteArray) : s.data.toList.length = s.size := by rw [Array.length_toList]; rfl
set_option maxRecDepth 20000 in
theorem open_rev {n : Nat} {cs : List Value} {y : DataW H × List MemPlace} (h : DataW.trod enc Try.prog W base sp held n 47 cs = some y) :
    ∃ x : S47, cs = vals x ∧ ((∀ m ∈ y.1.weights Try.prog 47, m ≤ reachBytes) → Wide x) := by
  obtain ⟨xs, k, _, hy, hcl, hxl, hf⟩ := DataW.trod_struct Try.underlying47 h
  have c47 : Try.prog.cellsOf 47 = 8 := by kernel_rfl
  have c3 : Try.prog.cellsOf 3 = 1 := by kernel_rfl
  have c9 : Try.prog.cellsOf 9 = 1 := by kernel_rfl
  have c22 : Try.prog.cellsOf 22 = 1 := by kernel_rfl
  have c4 : Try.prog.cellsOf 4 = 1 := by kernel_rfl
  rw [c47] at hcl
  match xs, hxl, cs, hcl with
  | [y0, y1, y2, y3, y4, y5, y6, y7], _, [v0, v1, v2, v3, v4, v5, v6, v7], _ =>
    have g0 := hf 0 _ rfl
    have g1 := hf 1 _ rfl
    have g2 := hf 2 _ rfl
    have g3 := hf 3 _ rfl
    have g4 := hf 4 _ rfl
    have g5 := hf 5 _ rfl
    have g6 := hf 6 _ rfl
    have g7 := hf 7 _ rfl
    simp [c3, c9, c22, c4] at g0 g1 g2 g3 g4 g5 g6 g7
    obtain ⟨n0, e0, d0, _⟩ := DataW.trod_int Try.underlying3 g0
    obtain ⟨s1, e1, d1, _⟩ := DataW.trod_string Try.underlying9 g1
    obtain ⟨s2, e2, d2, _⟩ := DataW.trod_string Try.underlying9 g2
    obtain ⟨n3, e3, d3, w3⟩ := DataW.trod_int Try.underlying22 g3
    obtain ⟨n4, e4, d4, w4⟩ := DataW.trod_int Try.underlying22 g4
    obtain ⟨s5, e5, d5, _⟩ := DataW.trod_string Try.underlying9 g5
    obtain ⟨s6, e6, d6, _⟩ := DataW.trod_string Try.underlying9 g6
    obtain ⟨b7, e7, d7⟩ := DataW.trod_bool Try.underlying4 g7
    simp only [List.cons.injEq, and_true] at e0 e1 e2 e3 e4 e5 e6 e7
    subst e0 e1 e2 e3 e4 e5 e6 e7
    refine ⟨⟨n0, s1, s2, n3, n4, s5, s6, b7⟩, rfl, fun hw => ?_⟩
    have hu := Try.underlying47
    subst d0 d1 d2 d3 d4 d5 d6 d7
    rw [hy] at hw
    simp only [List.map_cons, List.map_nil, DataW.weights, hu, DataW.weightsEach, List.nil_append, List.append_nil, List.cons_append, List.mem_cons, List.not_mem_nil, or_false, forall_eq_or_imp, forall_eq, data_len, List.toList_toArray] at hw
    obtain ⟨q1, q2, q5, q6⟩ := hw
    obtain ⟨a3, b3⟩ := u64_wf _ w3
    obtain ⟨a4, b4⟩ := u64_wf _ w4
    exact ⟨a3, b3, a4, b4, q1, q2, q5, q6⟩
theorem weightsAll_mem {P : Program} {t : TypeId} : ∀ {l : List (DataW H)} {d : DataW H}, d ∈ l → ∀ n ∈ d.weights P t, n ∈ DataW.weightsAll P t l
  | e :: l, d, hd, n, hn => by
    rw [DataW.weightsAll, List.mem_append]
    rcases List.mem_cons.1 hd with rfl | hd
    · exact .inl hn
    · exact .inr (weightsAll_mem hd n hn)
/-- A slice of revisions that came in. -/
theorem open_revs {fuel : Nat} {v : Value} {x : DataW H × List MemPlace} (h : DataW.trod enc Try.prog W base sp held fuel 23 [v] = some x) (hw : ∀ m ∈ x.1.weights Try.prog 23, m ≤ reachBytes) :
    ∃ A c l, v = .slice A l.length c ∧ l.length ≤ c ∧ Kd.C k47 W A l.length l ∧ ∀ y ∈ l, Wide y := by
  rcases open_slice Try.underlying23 h with ⟨hcs, _⟩ | ⟨a, len, cap, m, n, D, Pl, hcs, hb, hl, hm, hmm, hx, hi⟩
  · simp at hcs
    subst hcs
    exact ⟨none, 0, [], rfl, Nat.le_refl _, Kd.C_nil _ _, fun y hy => absurd hy (by simp)⟩
  · simp at hcs
    subst hcs
    have hlm : len ≤ m := by rw [hmm]; split <;> omega
    have c47 : Try.prog.cellsOf 47 = 8 := by kernel_rfl
    have each : ∀ i, i < len → ∃ q : S47, W.cells? base (a.add (i * 8)) 8 = some (vals q) ∧ Wide q := by
      intro i hlt
      obtain ⟨cs, h1, h2⟩ := hi i (by omega)
      obtain ⟨q, rfl, hq⟩ := open_rev h2
      rw [c47] at h1
      refine ⟨q, h1, hq fun n hn => hw n ?_⟩
      have hu := Try.underlying23
      rw [hx]
      simp only [DataW.weights, hu]
      exact List.mem_cons_of_mem _ (List.mem_append_left _ (weightsAll_mem (List.mem_map.2 ⟨i, List.mem_range.2 hlt, rfl⟩) n hn))
    obtain ⟨q, hq⟩ := choose_lt each
    have hln : ((List.range len).map q).length = len := by simp
    have hmx : maxLen ≤ 9223372036854775807 := by decide
    refine ⟨some a, cap, (List.range len).map q, by rw [hln], by rw [hln]; simpa using hl, ⟨rfl, by rw [hln]; omega, fun _ => ⟨a, rfl, fun j p hj => ?_⟩⟩, ?_⟩
    · have hjl : j < len := by
        have := (List.getElem?_eq_some_iff.1 hj).1
        rw [hln] at this
        exact this
      obtain rfl : q j = p := by
        rw [List.getElem?_map, List.getElem?_range hjl] at hj
        exact Option.some.inj hj
      refine ⟨vals (q j), rfl, k47_mk _ _, fun i u hu => ?_⟩
      obtain ⟨_, hlen, hcell⟩ := World.cells?_some (hq j hjl).1
      have hi8 : i < 8 := (List.getElem?_eq_some_iff.1 hu).1
      have e0 := hcell i hi8
      rw [Go.Deep.add_add] at e0
      rw [hu] at e0
      exact e0
    · intro y hy
      obtain ⟨i, hi', rfl⟩ := List.mem_map.1 hy
      exact (hq i (List.mem_range.1 hi')).2
set_option maxRecDepth 20000 in
/-- A block that came in. -/
theorem open_block {r : Reach} {b0 : Nat} {v : Value} {d : DataW H} {p : List MemPlace} (hv : Value.okWide Try.prog W r b0 25 v) (h : DataW.Trod enc Try.prog W base sp held 25 v d p) (hw : ∀ m ∈ d.weights Try.prog 25, m ≤ reachBytes) :
    ∃ (a0 : Int) (a1 : ByteArray) (a2 : Int) (A : Option Addr) (c : Nat) (l : List S47), v = .agg #[.int .u64 a0, .string a1, .int .u64 a2, .slice A l.length c] ∧ l.length ≤ c ∧ Kd.C k47 W A l.length l ∧
      0 ≤ a0 ∧ a0 < 18446744073709551616 ∧ a1.size ≤ 140737488351232 ∧ 0 ≤ a2 ∧ a2 < 18446744073709551616 ∧ ∀ y ∈ l, Wide y := by
  obtain ⟨cs, rfl, hsz⟩ := okWide_struct Try.underlying25 hv
  obtain ⟨l⟩ := cs
  have c25 : Try.prog.cellsOf 25 = 4 := by kernel_rfl
  match l, hsz.trans c25 with
  | [v0, v1, v2, v3], _ =>
    obtain ⟨fuel, hf⟩ := h
    obtain ⟨xs, n, _, hy, hcl, hxl, hf⟩ := DataW.trod_struct Try.underlying25 hf
    have c9 : Try.prog.cellsOf 9 = 1 := by kernel_rfl
    have c22 : Try.prog.cellsOf 22 = 1 := by kernel_rfl
    have c23 : Try.prog.cellsOf 23 = 1 := by kernel_rfl
    match xs, hxl with
    | [y0, y1, y2, y3], _ =>
      have g0 := hf 0 _ rfl
      have g1 := hf 1 _ rfl
      have g2 := hf 2 _ rfl
      have g3 := hf 3 _ rfl
      simp [Value.cells, c9, c22, c23] at g0 g1 g2 g3
      obtain ⟨n0, e0, d0, w0⟩ := DataW.trod_int Try.underlying22 g0
      obtain ⟨s1, e1, d1, _⟩ := DataW.trod_string Try.underlying9 g1
      obtain ⟨n2, e2, d2, w2⟩ := DataW.trod_int Try.underlying22 g2
      have hu := Try.underlying25
      subst d0 d1 d2
      simp only [List.map_cons, List.map_nil, Prod.mk.injEq] at hy
      rw [hy.1] at hw
      simp only [DataW.weights, hu, DataW.weightsEach, List.nil_append, List.append_nil, List.cons_append, List.mem_cons, forall_eq_or_imp, data_len, List.map_cons, List.map_nil] at hw
      obtain ⟨q1, q3⟩ := hw
      obtain ⟨A, c, l, rfl, hc, hC, hW⟩ := open_revs g3 q3
      simp only [List.cons.injEq, and_true] at e0 e1 e2
      subst e0 e1 e2
      obtain ⟨a3, b3⟩ := u64_wf _ w0
      obtain ⟨a4, b4⟩ := u64_wf _ w2
      exact ⟨n0, s1, n2, A, c, l, rfl, hc, hC, a3, b3, q1, a4, b4, hW⟩
end
end Go.Proofs.Ytdcbacbilncnnaa.Opn
end
section
/- The laws' guard: a block's digest does not hang on whether a body is gone. -/
set_option linter.unusedVariables false
set_option linter.unusedSimpArgs false
namespace Go.Proofs.Ytdcbacbilncnnaa.T
open Go.RowKit Go.Proofs.Ytdcbacbilncnnaa.PMk Go.Proofs.Ytdcbacbilncnnaa.M Go.Proofs.Ytdcbacbilncnnaa.EncS Go.Proofs.Ytdcbacbilncnnaa.EncL Go.Proofs.YtdcbacbilncnnaaW.PrintWords Go.Proofs.YtdcbacbilncnnaaW.PrintLast
theorem C_one {W : World} {g : Nat} {x : S47} {fr : Nat × Nat} (h : W.heap[g]? = some (.cells #[.int .i64 x.f0, .string x.f1, .string x.f2, .int .u64 x.f3, .int .u64 x.f4, .string x.f5, .string x.f6, .bool x.f7] 47 fr)) : Kd.C k47 W (some ⟨g, 0, none⟩) 1 [x] := by
  refine ⟨rfl, by decide, fun _ => ⟨⟨g, 0, none⟩, rfl, fun j p hj => ?_⟩⟩
  have hj0 : j = 0 := by
    have := (List.getElem?_eq_some_iff.1 hj).1
    simp at this
    exact this
  subst hj0
  simp only [List.getElem?_cons_zero, Option.some.injEq] at hj
  subst hj
  refine ⟨_, rfl, k47_mk W x, fun i u hu => ?_⟩
  rw [show 0 * k47.sz + i = i by omega]
  exact World.news_of_block h i u hu
def awx (H : ByteArray) : S47 := ⟨3, ⟨#[116]⟩, ⟨#[]⟩, 1, 0, H, ⟨#[120]⟩, false⟩
theorem aw_fits (H : ByteArray) (hH : H.size = 32) : Fits 1 0 ⟨#[116]⟩ ⟨#[]⟩ H := ⟨by decide, by decide, by decide, by decide, by decide, by decide, by omega⟩
theorem name_t : value_Name.f 9 ⟨#[116]⟩ = some true := by decide +kernel
theorem aw_check (H : ByteArray) (h : hash_Leaf.f ⟨#[120]⟩ = some H) : block_Check.f 10 3 ⟨#[116]⟩ ⟨#[]⟩ 1 0 H ⟨#[120]⟩ false = some 0 := by
  have e : ((⟨#[]⟩ : ByteArray).toList == ([] : List UInt8)) = true := by decide +kernel
  have hn : block_numbers.f 3 ⟨#[116]⟩ ⟨#[]⟩ 1 0 H ⟨#[120]⟩ false = some true := rfl
  have hb : block_bytes.f 3 ⟨#[116]⟩ ⟨#[]⟩ 1 0 H ⟨#[120]⟩ false = some true := by
    unfold block_bytes.f
    rw [show block_bodied.f 3 = some true from rfl, Option.bind_some, if_pos rfl, if_neg (by decide), h, Option.bind_some, if_pos rfl]
    rfl
  show block_Check.j0 (9 + 1) ((⟨#[]⟩ : ByteArray).toList == ([] : List UInt8)) 3 ⟨#[116]⟩ ⟨#[]⟩ 1 0 H ⟨#[120]⟩ false = some 0
  rw [e, block_Check.j0]
  rw [if_neg (by decide), if_neg (by decide), name_t, Option.bind_some, if_pos rfl, if_pos rfl, hn, Option.bind_some, if_pos rfl, hb, Option.bind_some, if_pos rfl]
theorem aw_follows (H : ByteArray) (h : hash_Leaf.f ⟨#[120]⟩ = some H) : block_Follows.f 13 0 ⟨#[]⟩ 0 [awx H] 0 ⟨#[]⟩ = some 0 := by
  have hc := aw_check H h
  have h1 : block_Follows.l0 (10 + 1) 0 ⟨#[]⟩ [awx H] 1 (wrap64 (0 + 1)) 0 ⟨#[]⟩ 0 [awx H] = some 0 := by
    rw [block_Follows.l0]
    rw [if_neg (by decide +kernel), if_pos rfl, if_pos rfl]
  have h0 : block_Follows.l0 (11 + 1) 0 ⟨#[]⟩ [awx H] 1 0 0 ⟨#[]⟩ 0 [awx H] = some 0 := by
    rw [block_Follows.l0]
    have hc' : block_Check.f 11 3 ⟨#[116]⟩ ⟨#[]⟩ 1 0 H ⟨#[120]⟩ false = some 0 := block_Check.mono _ _ _ _ _ _ _ _ 10 _ hc
    rw [if_pos (by decide), if_pos (by decide), if_pos (by show (0 : Int) < 1; decide)]
    show (block_Check.f 11 3 ⟨#[116]⟩ ⟨#[]⟩ 1 0 H ⟨#[120]⟩ false).bind _ = _
    rw [hc', Option.bind_some, if_pos rfl]
    exact h1
  show block_Follows.j0 (12 + 1) 0 ⟨#[]⟩ false 0 ⟨#[]⟩ 0 [awx H] = some 0
  rw [block_Follows.j0]
  rw [if_neg (by decide)]
  exact h0
/-- What holds ahead of the guard's comparisons: two blocks in memory. -/
structure AW (w wr : World) (gb gs gc gr cr : Nat) (H : ByteArray) : Prop where
  b0 : wr.cell? ⟨gb, 0, none⟩ = some (.int .u64 0)
  b1 : wr.cell? ⟨gb, 1, none⟩ = some (.string ⟨#[]⟩)
  b2 : wr.cell? ⟨gb, 2, none⟩ = some (.int .u64 0)
  b3 : wr.cell? ⟨gb, 3, none⟩ = some (.slice (some ⟨gs, 0, none⟩) 1 1)
  c0 : wr.cell? ⟨gc, 0, none⟩ = some (.int .u64 0)
  c1 : wr.cell? ⟨gc, 1, none⟩ = some (.string ⟨#[]⟩)
  c2 : wr.cell? ⟨gc, 2, none⟩ = some (.int .u64 0)
  c3 : wr.cell? ⟨gc, 3, none⟩ = some (.slice (some ⟨gr, 0, none⟩) 1 cr)
  r7 : wr.cell? ⟨gr, 7, none⟩ = some (.bool true)
  k1 : Kd.C k47 wr (some ⟨gs, 0, none⟩) 1 [awx H]
  k2 : Kd.C k47 wr (some ⟨gr, 0, none⟩) 1 [bare (awx H)]
  b : Below w.heap.size w wr
theorem AW.below {w wr w1 : World} {gb gs gc gr cr : Nat} {H : ByteArray} (h : AW w wr gb gs gc gr cr H) (hb : Below wr.heap.size wr w1) : AW w w1 gb gs gc gr cr H :=
  ⟨(hb.cell (World.block_lt_of_cell? _ _ h.b0)).trans h.b0, (hb.cell (World.block_lt_of_cell? _ _ h.b1)).trans h.b1, (hb.cell (World.block_lt_of_cell? _ _ h.b2)).trans h.b2, (hb.cell (World.block_lt_of_cell? _ _ h.b3)).trans h.b3,
   (hb.cell (World.block_lt_of_cell? _ _ h.c0)).trans h.c0, (hb.cell (World.block_lt_of_cell? _ _ h.c1)).trans h.c1, (hb.cell (World.block_lt_of_cell? _ _ h.c2)).trans h.c2, (hb.cell (World.block_lt_of_cell? _ _ h.c3)).trans h.c3, (hb.cell (World.block_lt_of_cell? _ _ h.r7)).trans h.r7,
   Kd.C_below h.k1 hb, Kd.C_below h.k2 hb, h.b.trans (hb.mono h.b.size)⟩
theorem sealed_aw (H : ByteArray) (h : hash_Leaf.f ⟨#[120]⟩ = some H) (w : World) : Calls Try.prog 30 #[.agg #[.int .i64 3, .string ⟨#[116]⟩, .string ⟨#[]⟩, .int .u64 1, .int .u64 0, .string ⟨#[]⟩, .string ⟨#[120]⟩, .bool false]] w fun e w' => e = .returned (.agg #[.int .i64 3, .string ⟨#[116]⟩, .string ⟨#[]⟩, .int .u64 1, .int .u64 0, .string H, .string ⟨#[120]⟩, .bool false]) ∧ Below w.heap.size w w' := by
  refine block_Sealed.calls 3 ⟨#[116]⟩ ⟨#[]⟩ 1 0 ⟨#[]⟩ ⟨#[120]⟩ false 3 ⟨#[116]⟩ ⟨#[]⟩ 1 0 H ⟨#[120]⟩ false w ?_
  unfold block_Sealed.f
  rw [show block_bodied.f 3 = some true from rfl, Option.bind_some, if_pos rfl, h]
  rfl
theorem follows_any (k : Nat) (a0 : Int) (a1 : ByteArray) (a2 : Int) (A : Option Addr) (c n : Nat) (l : List S47) (x : Int) (y : ByteArray) (r : Int) (w : World) (hn : l.length = n) (hC : Kd.C k47 w A n l) (hc : n ≤ c) (h : block_Follows.f k a0 a1 a2 l x y = some r) :
    Calls Try.prog 40 #[.agg #[.int .u64 a0, .string a1, .int .u64 a2, .slice A n c], .int .u64 x, .string y] w fun e w' => e = .returned (.int .i64 r) ∧ Below w.heap.size w w' := by
  subst hn
  exact block_Follows.calls k a0 a1 a2 A c l x y r w hC hc h
theorem hash_n (a0 : Int) (a1 : ByteArray) (a2 : Int) (A : Option Addr) (c n : Nat) (l : List S47) (d : ByteArray) (hn : l.length = n) (g : FitsB a0 a1 a2 l) (hd : bhash a0 a1 a2 l = d) (w : World) (hC : Kd.C k47 w A n l) :
    Calls Try.prog 14 #[.agg #[.int .u64 a0, .string a1, .int .u64 a2, .slice A n c]] w fun e w' => e = .returned (.string d) ∧ Below w.heap.size w w' := by
  subst hn
  subst hd
  exact hash_any a0 a1 a2 A c l g w hC
theorem aw_fitsB (H : ByteArray) (hH : H.size = 32) (x : S47) (hx : x = awx H ∨ x = bare (awx H)) : FitsB 0 ⟨#[]⟩ 0 [x] := by
  refine ⟨by decide, by decide, by decide, by decide, by decide, ?_, by simp⟩
  intro y hy
  simp at hy
  subst hy
  rcases hx with rfl | rfl <;> exact aw_fits H hH
theorem without_n (a0 : Int) (a1 : ByteArray) (a2 : Int) (A : Option Addr) (c n : Nat) (l : List S47) (i : Int) (w : World) (hl : l.length = n) (hC : Kd.C k47 w A n l) (hb : wo l i = true) (hn : n < 1000000) :
    Calls Try.prog 19 #[.agg #[.int .u64 a0, .string a1, .int .u64 a2, .slice A n c], .int .i64 i] w fun e w' => ∃ v, e = .returned (.tuple #[.agg #[.int .u64 a0, .string a1, .int .u64 a2, v], .int .i64 0]) ∧ Kd.R k47 47 w' w.heap.size (fun _ => True) v (l.set i.toNat (bare (rd_T47 l i))) ∧ Below w.heap.size w w' := by
  subst hl
  exact without_ok a0 a1 a2 A c l i w hC hb hn
set_option maxRecDepth 100000 in
set_option maxHeartbeats 4000000 in
theorem awake_raw (w : World) : Calls Try.prog 12 #[] w fun e w' => e = .returned (.bool true) ∧ Below w.heap.size w w' := by
  obtain ⟨H, hH⟩ : ∃ H, leaf ⟨#[120]⟩ = H := ⟨_, rfl⟩
  have hH32 : H.size = 32 := hH ▸ leaf_size _
  have hL : hash_Leaf.f ⟨#[120]⟩ = some H := hH ▸ leaf_f _ (by decide)
  obtain ⟨d, hd⟩ : ∃ d, bhash 0 ⟨#[]⟩ 0 [awx H] = d := ⟨_, rfl⟩
  have hd2 : bhash 0 ⟨#[]⟩ 0 [bare (awx H)] = d := hd ▸ rfl
  have hd32 : d.size = 32 := hd ▸ Dig.dig_size _
  have HS := Lib.hid (sealed_aw H hL)
  have HF := Lib.hid (fun w' gs hC => follows_any 13 0 ⟨#[]⟩ 0 (some ⟨gs, 0, none⟩) 1 1 [awx H] 0 ⟨#[]⟩ 0 w' rfl hC (Nat.le_refl _) (aw_follows H hL))
  have HH := Lib.hid (fun A c w' hC => hash_n 0 ⟨#[]⟩ 0 A c 1 [awx H] d rfl (aw_fitsB H hH32 _ (.inl rfl)) hd w' hC)
  have HG := Lib.hid (fun A c w' hC => hash_n 0 ⟨#[]⟩ 0 A c 1 [bare (awx H)] d rfl (aw_fitsB H hH32 _ (.inr rfl)) hd2 w' hC)
  have hdz : ((d.size : Int) == 32) = true := by rw [hd32]; rfl
  have HW := Lib.hid (fun A c w' hC => without_n 0 ⟨#[]⟩ 0 A c 1 [awx H] 0 w' rfl hC rfl (by decide))
  clear hd hd2 hL hH
  go_enter Try.func12, Try.ntmps12
  go_wp2_with (first
    | (go_at_call 30; refine (HS.out _).mono ?_; rintro e w1 ⟨rfl, hb⟩; have HB1 := Lib.hid hb; clear hb)
    | (go_at_call 19; refine (HW.out _ _ _ (C_one (x := awx H) (blk_alloc (heap_alloc_new w1 _) _))).mono ?_; rintro e w2 ⟨v, rfl, hR, hb⟩; replace hR : Kd.R k47 47 w2 _ (fun _ => True) v [bare (awx H)] := hR; obtain ⟨gr, cr, rfl, hg1, hg2, _⟩ := Kd.R_form hR (by simp); have HR := Lib.hid hR; have HB2 := Lib.hid hb; clear hR hb))
  have HQ : Hid (AW w (w2.alloc (.cells #[.int .u64 0, .string ⟨#[]⟩, .int .u64 0, .slice (some ⟨gr, 0, none⟩) 1 cr] 25)) (w1.heap.size + 1) w1.heap.size w2.heap.size gr cr H) := by
    have hb2 := HB2.out
    have hb3 := (Below.refl w2.heap.size w2).alloc (Nat.le_refl _) (.cells #[.int .u64 0, .string ⟨#[]⟩, .int .u64 0, .slice (some ⟨gr, 0, none⟩) 1 cr] 25)
    have Gb := blk_below (blk_below (g := w1.heap.size + 1) (by have h := heap_alloc_new (w1.alloc (.cells #[.int .i64 3, .string ⟨#[116]⟩, .string ⟨#[]⟩, .int .u64 1, .int .u64 0, .string H, .string ⟨#[120]⟩, .bool false] 47)) (.cells #[.int .u64 0, .string ⟨#[]⟩, .int .u64 0, .slice (some ⟨w1.heap.size, 0, none⟩) 1 1] 25); rw [World.size_alloc] at h; exact h) hb2) hb3
    have Gc := heap_alloc_new w2 (.cells #[.int .u64 0, .string ⟨#[]⟩, .int .u64 0, .slice (some ⟨gr, 0, none⟩) 1 cr] 25)
    obtain ⟨cf, hcl, hN, hcc, hfr⟩ := Kd.R_elem HR.out z47 0 (by decide) (by simp)
    obtain rfl := k47_openM hN
    have h7 : w2.cell? ⟨gr, 7, none⟩ = some (.bool true) := hcc 7 _ rfl
    exact Lib.hid ⟨(blk_cell Gb 0).trans rfl, (blk_cell Gb 1).trans rfl, (blk_cell Gb 2).trans rfl, (blk_cell Gb 3).trans rfl, (blk_cell Gc 0).trans rfl, (blk_cell Gc 1).trans rfl, (blk_cell Gc 2).trans rfl, (blk_cell Gc 3).trans rfl,
      (hb3.cell (World.block_lt_of_cell? _ _ h7)).trans h7, Kd.C_below (Kd.C_below (C_one (x := awx H) (blk_alloc (heap_alloc_new w1 _) _)) hb2) hb3, Kd.C_below (Kd.R_reads' HR.out).2.2 hb3,
      ((((HB1.out.alloc HB1.out.size _).alloc (by have := HB1.out.size; simp; omega) _).trans (hb2.mono (by have := HB1.out.size; simp; omega))).alloc (by have := HB1.out.size; have := hb2.size; simp at *; omega) _)⟩
  clear HR HB1 HB2 HS HW hg1 hg2
  generalize w2.alloc (.cells #[.int .u64 0, .string ⟨#[]⟩, .int .u64 0, .slice (some ⟨gr, 0, none⟩) 1 cr] 25) = W at HQ ⊢
  generalize w1.heap.size + 1 = gb at HQ ⊢
  generalize w1.heap.size = gs at HQ ⊢
  generalize w2.heap.size = gc at HQ ⊢
  refine start_ (n := 34) (S := fun w' => w'.cell? ⟨gb, 0, none⟩ = some (.int .u64 0) ∧ w'.cell? ⟨gb, 1, none⟩ = some (.string ⟨#[]⟩) ∧ w'.cell? ⟨gb, 2, none⟩ = some (.int .u64 0) ∧ w'.cell? ⟨gb, 3, none⟩ = some (.slice (some ⟨gs, 0, none⟩) 1 1) ∧ w'.cell? ⟨gc, 0, none⟩ = some (.int .u64 0) ∧ w'.cell? ⟨gc, 1, none⟩ = some (.string ⟨#[]⟩) ∧ w'.cell? ⟨gc, 2, none⟩ = some (.int .u64 0) ∧ w'.cell? ⟨gc, 3, none⟩ = some (.slice (some ⟨gr, 0, none⟩) 1 cr) ∧ w'.cell? ⟨gr, 7, none⟩ = some (.bool true)) (ds := []) #[false, false, false, false, false, false, false, false, false, false, false, false, false, false, false, false, false, false, false, false, false, false, false, false, false, false, false, false, false, false, false, false, false, false] (by kernel_rfl) rfl rfl ⟨HQ.out.b0, HQ.out.b1, HQ.out.b2, HQ.out.b3, HQ.out.c0, HQ.out.c1, HQ.out.c2, HQ.out.c3, HQ.out.r7⟩ (fun hHeld => ?_)
  refine pure_ (i := 0) (N := some 13) (v := ?_) (a' := ?_) #[true, false, false, false, false, false, false, false, false, false, false, false, false, false, false, false, false, false, false, false, false, false, false, false, false, false, false, false, false, false, false, false, false, false] rfl rfl (by kernel_rfl) (fun _ _ _ h => h) (Or.inl ⟨by rfl, ?_⟩) ?_ ?_
  rotate_left
  · intro w'
    go_simp
    with_reducible rfl
  rotate_left
  · simp only [Act.put, List.setIfInBounds_toArray, List.set_cons_zero, List.set_cons_succ, i64_w, i32_w]
    rfl
  refine pure_ (i := 1) (N := some 14) (v := ?_) (a' := ?_) #[true, true, false, false, false, false, false, false, false, false, false, false, false, false, false, false, false, false, false, false, false, false, false, false, false, false, false, false, false, false, false, false, false, false] rfl rfl (by kernel_rfl) (fun _ _ _ h => h) (Or.inl ⟨by rfl, ?_⟩) ?_ ?_
  rotate_left
  · intro w'
    go_simp
    with_reducible rfl
  rotate_left
  · simp only [Act.put, List.setIfInBounds_toArray, List.set_cons_zero, List.set_cons_succ, i64_w, i32_w]
    rfl
  refine pure_ (i := 2) (N := some 15) (v := ?_) (a' := ?_) #[true, true, true, false, false, false, false, false, false, false, false, false, false, false, false, false, false, false, false, false, false, false, false, false, false, false, false, false, false, false, false, false, false, false] rfl rfl (by kernel_rfl) (fun _ _ _ h => h) (Or.inl ⟨by rfl, ?_⟩) ?_ ?_
  rotate_left
  · intro w'
    go_simp
    with_reducible rfl
  rotate_left
  · simp only [Act.put, List.setIfInBounds_toArray, List.set_cons_zero, List.set_cons_succ, i64_w, i32_w]
    rfl
  refine pure_ (i := 3) (N := some 16) (v := ?_) (a' := ?_) #[true, true, true, true, false, false, false, false, false, false, false, false, false, false, false, false, false, false, false, false, false, false, false, false, false, false, false, false, false, false, false, false, false, false] rfl rfl (by kernel_rfl) (fun _ _ _ h => h) (Or.inl ⟨by rfl, ?_⟩) ?_ ?_
  rotate_left
  · intro w'
    go_simp
    with_reducible rfl
  rotate_left
  · simp only [Act.put, List.setIfInBounds_toArray, List.set_cons_zero, List.set_cons_succ, i64_w, i32_w]
    rfl
  refine take_ (i := 4) (N := some 17) (v := ?_) (a' := ?_) #[true, true, true, true, true, false, false, false, false, false, false, false, false, false, false, false, false, false, false, false, false, false, false, false, false, false, false, false, false, false, false, false, false, false] rfl rfl (by kernel_rfl) (fun _ _ _ h => h) (Or.inl ⟨by rfl, ?_⟩) hHeld ?_ ?_
  rotate_left
  · rintro w' ⟨s0, s1, s2, s3, s4, s5, s6, s7, s8⟩
    go_simp
    with_reducible rfl
  rotate_left
  · simp only [Act.put, List.setIfInBounds_toArray, List.set_cons_zero, List.set_cons_succ, i64_w, i32_w]
    rfl
  refine pure_ (i := 5) (N := some 18) (v := ?_) (a' := ?_) #[true, true, true, true, true, true, false, false, false, false, false, false, false, false, false, false, false, false, false, false, false, false, false, false, false, false, false, false, false, false, false, false, false, false] rfl rfl (by kernel_rfl) (fun _ _ _ h => h) (Or.inl ⟨by rfl, ?_⟩) ?_ ?_
  rotate_left
  · intro w'
    go_simp
    with_reducible rfl
  rotate_left
  · simp only [Act.put, List.setIfInBounds_toArray, List.set_cons_zero, List.set_cons_succ, i64_w, i32_w]
    rfl
  refine pure_ (i := 6) (N := some 19) (v := ?_) (a' := ?_) #[true, true, true, true, true, true, true, false, false, false, false, false, false, false, false, false, false, false, false, false, false, false, false, false, false, false, false, false, false, false, false, false, false, false] rfl rfl (by kernel_rfl) (fun _ _ _ h => h) (Or.inl ⟨by rfl, ?_⟩) ?_ ?_
  rotate_left
  · intro w'
    go_simp
    with_reducible rfl
  rotate_left
  · simp only [Act.put, List.setIfInBounds_toArray, List.set_cons_zero, List.set_cons_succ, i64_w, i32_w]
    rfl
  refine pure_ (i := 7) (N := some 20) (v := ?_) (a' := ?_) #[true, true, true, true, true, true, true, true, false, false, false, false, false, false, false, false, false, false, false, false, false, false, false, false, false, false, false, false, false, false, false, false, false, false] rfl rfl (by kernel_rfl) (fun _ _ _ h => h) (Or.inl ⟨by rfl, ?_⟩) ?_ ?_
  rotate_left
  · intro w'
    go_simp
    with_reducible rfl
  rotate_left
  · simp only [Act.put, List.setIfInBounds_toArray, List.set_cons_zero, List.set_cons_succ, i64_w, i32_w]
    rfl
  refine pure_ (i := 8) (N := some 21) (v := ?_) (a' := ?_) #[true, true, true, true, true, true, true, true, true, false, false, false, false, false, false, false, false, false, false, false, false, false, false, false, false, false, false, false, false, false, false, false, false, false] rfl rfl (by kernel_rfl) (fun _ _ _ h => h) (Or.inl ⟨by rfl, ?_⟩) ?_ ?_
  rotate_left
  · intro w'
    go_simp
    with_reducible rfl
  rotate_left
  · simp only [Act.put, List.setIfInBounds_toArray, List.set_cons_zero, List.set_cons_succ, i64_w, i32_w]
    rfl
  refine pure_ (i := 9) (N := some 22) (v := ?_) (a' := ?_) #[true, true, true, true, true, true, true, true, true, true, false, false, false, false, false, false, false, false, false, false, false, false, false, false, false, false, false, false, false, false, false, false, false, false] rfl rfl (by kernel_rfl) (fun _ _ _ h => h) (Or.inl ⟨by rfl, ?_⟩) ?_ ?_
  rotate_left
  · intro w'
    go_simp
    with_reducible rfl
  rotate_left
  · simp only [Act.put, List.setIfInBounds_toArray, List.set_cons_zero, List.set_cons_succ, i64_w, i32_w]
    rfl
  refine take_ (i := 10) (N := some 23) (v := ?_) (a' := ?_) #[true, true, true, true, true, true, true, true, true, true, true, false, false, false, false, false, false, false, false, false, false, false, false, false, false, false, false, false, false, false, false, false, false, false] rfl rfl (by kernel_rfl) (fun _ _ _ h => h) (Or.inl ⟨by rfl, ?_⟩) hHeld ?_ ?_
  rotate_left
  · rintro w' ⟨s0, s1, s2, s3, s4, s5, s6, s7, s8⟩
    go_simp
    with_reducible rfl
  rotate_left
  · simp only [Act.put, List.setIfInBounds_toArray, List.set_cons_zero, List.set_cons_succ, i64_w, i32_w]
    rfl
  refine pure_ (i := 11) (N := some 24) (v := ?_) (a' := ?_) #[true, true, true, true, true, true, true, true, true, true, true, true, false, false, false, false, false, false, false, false, false, false, false, false, false, false, false, false, false, false, false, false, false, false] rfl rfl (by kernel_rfl) (fun _ _ _ h => h) (Or.inl ⟨by rfl, ?_⟩) ?_ ?_
  rotate_left
  · intro w'
    go_simp
    with_reducible rfl
  rotate_left
  · simp only [Act.put, List.setIfInBounds_toArray, List.set_cons_zero, List.set_cons_succ, i64_w, i32_w]
    rfl
  refine pure_ (i := 12) (N := some 25) (v := ?_) (a' := ?_) #[true, true, true, true, true, true, true, true, true, true, true, true, true, false, false, false, false, false, false, false, false, false, false, false, false, false, false, false, false, false, false, false, false, false] rfl rfl (by kernel_rfl) (fun _ _ _ h => h) (Or.inl ⟨by rfl, ?_⟩) ?_ ?_
  rotate_left
  · intro w'
    go_simp
    with_reducible rfl
  rotate_left
  · simp only [Act.put, List.setIfInBounds_toArray, List.set_cons_zero, List.set_cons_succ, i64_w, i32_w]
    rfl
  refine take_ (i := 13) (N := some 26) (v := ?_) (a' := ?_) #[true, true, true, true, true, true, true, true, true, true, true, true, true, true, false, false, false, false, false, false, false, false, false, false, false, false, false, false, false, false, false, false, false, false] rfl rfl (by kernel_rfl) (fun _ _ _ h => h) (Or.inl ⟨by rfl, ?_⟩) hHeld ?_ ?_
  rotate_left
  · rintro w' ⟨s0, s1, s2, s3, s4, s5, s6, s7, s8⟩
    go_simp
    with_reducible rfl
  rotate_left
  · simp only [Act.put, List.setIfInBounds_toArray, List.set_cons_zero, List.set_cons_succ, i64_w, i32_w]
    rfl
  refine pure_ (i := 14) (N := some 27) (v := ?_) (a' := ?_) #[true, true, true, true, true, true, true, true, true, true, true, true, true, true, true, false, false, false, false, false, false, false, false, false, false, false, false, false, false, false, false, false, false, false] rfl rfl (by kernel_rfl) (fun _ _ _ h => h) (Or.inl ⟨by rfl, ?_⟩) ?_ ?_
  rotate_left
  · intro w'
    go_simp
    with_reducible rfl
  rotate_left
  · simp only [Act.put, List.setIfInBounds_toArray, List.set_cons_zero, List.set_cons_succ, i64_w, i32_w]
    rfl
  refine pure_ (i := 15) (N := some 28) (v := ?_) (a' := ?_) #[true, true, true, true, true, true, true, true, true, true, true, true, true, true, true, true, false, false, false, false, false, false, false, false, false, false, false, false, false, false, false, false, false, false] rfl rfl (by kernel_rfl) (fun _ _ _ h => h) (Or.inl ⟨by rfl, ?_⟩) ?_ ?_
  rotate_left
  · intro w'
    go_simp
    with_reducible rfl
  rotate_left
  · simp only [Act.put, List.setIfInBounds_toArray, List.set_cons_zero, List.set_cons_succ, i64_w, i32_w]
    rfl
  refine take_ (i := 16) (N := some 29) (v := ?_) (a' := ?_) #[true, true, true, true, true, true, true, true, true, true, true, true, true, true, true, true, true, false, false, false, false, false, false, false, false, false, false, false, false, false, false, false, false, false] rfl rfl (by kernel_rfl) (fun _ _ _ h => h) (Or.inl ⟨by rfl, ?_⟩) hHeld ?_ ?_
  rotate_left
  · rintro w' ⟨s0, s1, s2, s3, s4, s5, s6, s7, s8⟩
    go_simp
    with_reducible rfl
  rotate_left
  · simp only [Act.put, List.setIfInBounds_toArray, List.set_cons_zero, List.set_cons_succ, i64_w, i32_w]
    rfl
  refine one_ (i := 17) (N := some 30) #[true, true, true, true, true, true, true, true, true, true, true, true, true, true, true, true, true, true, false, false, false, false, false, false, false, false, false, false, false, false, false, false, false, false] rfl rfl (by kernel_rfl) (by decide) (fun K hK => ?_)
  refine goes_ Try.func40 (by kernel_rfl) rfl #[.agg #[.int .u64 0, .string ⟨#[]⟩, .int .u64 0, .slice (some ⟨gs, 0, none⟩) 1 1], .int .u64 0, .string ⟨#[]⟩] (by rfl) rfl rfl (by simp only [List.map_toArray, List.map_cons, List.map_nil]; rfl) ?_
  with_reducible refine (HF.out W.drew gs (Kd.C_below HQ.out.k1 (below_drew1 (Below.refl _ W)))).mono ?_
  rintro e w2 ⟨rfl, hb⟩
  refine ⟨_, rfl, ?_⟩
  have hb' : Below W.heap.size W w2 := ⟨hb.os, hb.tape, hb.output, hb.size, hb.block⟩
  have HQ2 := Lib.hid (HQ.out.below hb')
  clear hb hb'
  refine hK.out _ _ ⟨HQ2.out.b0, HQ2.out.b1, HQ2.out.b2, HQ2.out.b3, HQ2.out.c0, HQ2.out.c1, HQ2.out.c2, HQ2.out.c3, HQ2.out.r7⟩ (fun hHeld => ?_)
  clear hK K
  refine norm_ (a' := ?_) ?_ ?_
  rotate_left
  · show Act.put _ (some 30) _ = _
    simp only [Act.put, List.setIfInBounds_toArray, List.set_cons_zero, List.set_cons_succ, i64_w, i32_w]
    rfl
  refine pure_ (i := 18) (N := some 31) (v := ?_) (a' := ?_) #[true, true, true, true, true, true, true, true, true, true, true, true, true, true, true, true, true, true, true, false, false, false, false, false, false, false, false, false, false, false, false, false, false, false] rfl rfl (by kernel_rfl) (fun _ _ _ h => h) (Or.inl ⟨by rfl, ?_⟩) ?_ ?_
  rotate_left
  · intro w'
    go_simp
    with_reducible rfl
  rotate_left
  · simp only [Act.put, List.setIfInBounds_toArray, List.set_cons_zero, List.set_cons_succ, i64_w, i32_w]
    rfl
  refine pure_ (i := 19) (N := some 32) (v := ?_) (a' := ?_) #[true, true, true, true, true, true, true, true, true, true, true, true, true, true, true, true, true, true, true, true, false, false, false, false, false, false, false, false, false, false, false, false, false, false] rfl rfl (by kernel_rfl) (fun _ _ _ h => h) (Or.inl ⟨by rfl, ?_⟩) ?_ ?_
  rotate_left
  · intro w'
    go_simp
    with_reducible rfl
  rotate_left
  · simp only [Act.put, List.setIfInBounds_toArray, List.set_cons_zero, List.set_cons_succ, i64_w, i32_w]
    rfl
  refine pure_ (i := 20) (N := some 33) (v := ?_) (a' := ?_) #[true, true, true, true, true, true, true, true, true, true, true, true, true, true, true, true, true, true, true, true, true, false, false, false, false, false, false, false, false, false, false, false, false, false] rfl rfl (by kernel_rfl) (fun _ _ _ h => h) (Or.inl ⟨by rfl, ?_⟩) ?_ ?_
  rotate_left
  · intro w'
    go_simp
    with_reducible rfl
  rotate_left
  · simp only [Act.put, List.setIfInBounds_toArray, List.set_cons_zero, List.set_cons_succ, i64_w, i32_w]
    rfl
  refine take_ (i := 21) (N := some 34) (v := ?_) (a' := ?_) #[true, true, true, true, true, true, true, true, true, true, true, true, true, true, true, true, true, true, true, true, true, true, false, false, false, false, false, false, false, false, false, false, false, false] rfl rfl (by kernel_rfl) (fun _ _ _ h => h) (Or.inl ⟨by rfl, ?_⟩) hHeld ?_ ?_
  rotate_left
  · rintro w' ⟨s0, s1, s2, s3, s4, s5, s6, s7, s8⟩
    go_simp
    with_reducible rfl
  rotate_left
  · simp only [Act.put, List.setIfInBounds_toArray, List.set_cons_zero, List.set_cons_succ, i64_w, i32_w]
    rfl
  refine take_ (i := 23) (N := some 36) (v := ?_) (a' := ?_) #[true, true, true, true, true, true, true, true, true, true, true, true, true, true, true, true, true, true, true, true, true, true, false, true, false, false, false, false, false, false, false, false, false, false] rfl rfl (by kernel_rfl) (fun _ _ _ h => h) (Or.inl ⟨by rfl, ?_⟩) hHeld ?_ ?_
  rotate_left
  · rintro w' ⟨s0, s1, s2, s3, s4, s5, s6, s7, s8⟩
    go_simp
    with_reducible rfl
  rotate_left
  · simp only [Act.put, List.setIfInBounds_toArray, List.set_cons_zero, List.set_cons_succ, i64_w, i32_w]
    rfl
  refine one_ (i := 22) (N := some 35) #[true, true, true, true, true, true, true, true, true, true, true, true, true, true, true, true, true, true, true, true, true, true, true, true, false, false, false, false, false, false, false, false, false, false] rfl rfl (by kernel_rfl) (by decide) (fun K hK => ?_)
  refine goes_ Try.func14 (by kernel_rfl) rfl #[.agg #[.int .u64 0, .string ⟨#[]⟩, .int .u64 0, .slice (some ⟨gs, 0, none⟩) 1 1]] (by rfl) rfl rfl (by simp only [List.map_toArray, List.map_cons, List.map_nil]; rfl) ?_
  with_reducible refine (HH.out _ _ _ HQ2.out.k1).mono ?_
  rintro e w3 ⟨rfl, hb⟩
  refine ⟨_, rfl, ?_⟩
  have HQ3 := Lib.hid (HQ2.out.below hb)
  clear hb
  refine hK.out _ _ ⟨HQ3.out.b0, HQ3.out.b1, HQ3.out.b2, HQ3.out.b3, HQ3.out.c0, HQ3.out.c1, HQ3.out.c2, HQ3.out.c3, HQ3.out.r7⟩ (fun hHeld => ?_)
  clear hK K
  refine norm_ (a' := ?_) ?_ ?_
  rotate_left
  · show Act.put _ (some 35) _ = _
    simp only [Act.put, List.setIfInBounds_toArray, List.set_cons_zero, List.set_cons_succ, i64_w, i32_w]
    rfl
  refine one_ (i := 24) (N := some 37) #[true, true, true, true, true, true, true, true, true, true, true, true, true, true, true, true, true, true, true, true, true, true, true, true, true, false, false, false, false, false, false, false, false, false] rfl rfl (by kernel_rfl) (by decide) (fun K hK => ?_)
  refine goes_ Try.func14 (by kernel_rfl) rfl #[.agg #[.int .u64 0, .string ⟨#[]⟩, .int .u64 0, .slice (some ⟨gr, 0, none⟩) 1 cr]] (by rfl) rfl rfl (by simp only [List.map_toArray, List.map_cons, List.map_nil]; rfl) ?_
  with_reducible refine (HG.out _ _ _ HQ3.out.k2).mono ?_
  rintro e w4 ⟨rfl, hb⟩
  refine ⟨_, rfl, ?_⟩
  have HQ4 := Lib.hid (HQ3.out.below hb)
  clear hb
  refine hK.out _ _ ⟨HQ4.out.b0, HQ4.out.b1, HQ4.out.b2, HQ4.out.b3, HQ4.out.c0, HQ4.out.c1, HQ4.out.c2, HQ4.out.c3, HQ4.out.r7⟩ (fun hHeld => ?_)
  clear hK K
  refine norm_ (a' := ?_) ?_ ?_
  rotate_left
  · show Act.put _ (some 37) _ = _
    simp only [Act.put, List.setIfInBounds_toArray, List.set_cons_zero, List.set_cons_succ, i64_w, i32_w]
    rfl
  refine pure_ (i := 25) (N := some 38) (v := ?_) (a' := ?_) #[true, true, true, true, true, true, true, true, true, true, true, true, true, true, true, true, true, true, true, true, true, true, true, true, true, true, false, false, false, false, false, false, false, false] rfl rfl (by kernel_rfl) (fun _ _ _ h => h) (Or.inl ⟨by rfl, ?_⟩) ?_ ?_
  rotate_left
  · intro w'
    go_simp
    with_reducible rfl
  rotate_left
  · simp only [Act.put, List.setIfInBounds_toArray, List.set_cons_zero, List.set_cons_succ, i64_w, i32_w]
    rfl
  refine pure_ (i := 26) (N := some 39) (v := ?_) (a' := ?_) #[true, true, true, true, true, true, true, true, true, true, true, true, true, true, true, true, true, true, true, true, true, true, true, true, true, true, true, false, false, false, false, false, false, false] rfl rfl (by kernel_rfl) (fun _ _ _ h => h) (Or.inl ⟨by rfl, ?_⟩) ?_ ?_
  rotate_left
  · intro w'
    go_simp
    with_reducible rfl
  rotate_left
  · simp only [Act.put, List.setIfInBounds_toArray, List.set_cons_zero, List.set_cons_succ, i64_w, i32_w]
    rfl
  refine pure_ (i := 27) (N := some 40) (v := ?_) (a' := ?_) #[true, true, true, true, true, true, true, true, true, true, true, true, true, true, true, true, true, true, true, true, true, true, true, true, true, true, true, true, false, false, false, false, false, false] rfl rfl (by kernel_rfl) (fun _ _ _ h => h) (Or.inl ⟨by rfl, ?_⟩) ?_ ?_
  rotate_left
  · intro w'
    go_simp
    with_reducible rfl
  rotate_left
  · simp only [Act.put, List.setIfInBounds_toArray, List.set_cons_zero, List.set_cons_succ, i64_w, i32_w]
    rfl
  refine take_ (i := 28) (N := some 41) (v := ?_) (a' := ?_) #[true, true, true, true, true, true, true, true, true, true, true, true, true, true, true, true, true, true, true, true, true, true, true, true, true, true, true, true, true, false, false, false, false, false] rfl rfl (by kernel_rfl) (fun _ _ _ h => h) (Or.inl ⟨by rfl, ?_⟩) hHeld ?_ ?_
  rotate_left
  · rintro w' ⟨s0, s1, s2, s3, s4, s5, s6, s7, s8⟩
    go_simp
    with_reducible rfl
  rotate_left
  · simp only [Act.put, List.setIfInBounds_toArray, List.set_cons_zero, List.set_cons_succ, i64_w, i32_w]
    rfl
  refine one_ (i := 29) (N := some 42) #[true, true, true, true, true, true, true, true, true, true, true, true, true, true, true, true, true, true, true, true, true, true, true, true, true, true, true, true, true, true, false, false, false, false] rfl rfl (by kernel_rfl) (by decide) (fun K hK => ?_)
  refine goes_ Try.func14 (by kernel_rfl) rfl #[.agg #[.int .u64 0, .string ⟨#[]⟩, .int .u64 0, .slice (some ⟨gs, 0, none⟩) 1 1]] (by rfl) rfl rfl (by simp only [List.map_toArray, List.map_cons, List.map_nil]; rfl) ?_
  with_reducible refine (HH.out _ _ _ HQ4.out.k1).mono ?_
  rintro e w5 ⟨rfl, hb⟩
  refine ⟨_, rfl, ?_⟩
  have HQ5 := Lib.hid (HQ4.out.below hb)
  clear hb
  refine hK.out _ _ ⟨HQ5.out.b0, HQ5.out.b1, HQ5.out.b2, HQ5.out.b3, HQ5.out.c0, HQ5.out.c1, HQ5.out.c2, HQ5.out.c3, HQ5.out.r7⟩ (fun hHeld => ?_)
  clear hK K
  refine norm_ (a' := ?_) ?_ ?_
  rotate_left
  · show Act.put _ (some 42) _ = _
    simp only [Act.put, List.setIfInBounds_toArray, List.set_cons_zero, List.set_cons_succ, i64_w, i32_w]
    rfl
  refine pure_ (i := 30) (N := some 43) (v := ?_) (a' := ?_) #[true, true, true, true, true, true, true, true, true, true, true, true, true, true, true, true, true, true, true, true, true, true, true, true, true, true, true, true, true, true, true, false, false, false] rfl rfl (by kernel_rfl) (fun _ _ _ h => h) (Or.inl ⟨by rfl, ?_⟩) ?_ ?_
  rotate_left
  · intro w'
    go_simp
    with_reducible rfl
  rotate_left
  · simp only [Act.put, List.setIfInBounds_toArray, List.set_cons_zero, List.set_cons_succ, i64_w, i32_w]
    rfl
  refine pure_ (i := 31) (N := some 44) (v := ?_) (a' := ?_) #[true, true, true, true, true, true, true, true, true, true, true, true, true, true, true, true, true, true, true, true, true, true, true, true, true, true, true, true, true, true, true, true, false, false] rfl rfl (by kernel_rfl) (fun _ _ _ h => h) (Or.inl ⟨by rfl, ?_⟩) ?_ ?_
  rotate_left
  · intro w'
    go_simp
    with_reducible rfl
  rotate_left
  · simp only [Act.put, List.setIfInBounds_toArray, List.set_cons_zero, List.set_cons_succ, i64_w, i32_w]
    rfl
  refine pure_ (i := 32) (N := some 45) (v := ?_) (a' := ?_) #[true, true, true, true, true, true, true, true, true, true, true, true, true, true, true, true, true, true, true, true, true, true, true, true, true, true, true, true, true, true, true, true, true, false] rfl rfl (by kernel_rfl) (fun _ _ _ h => h) (Or.inl ⟨by rfl, ?_⟩) ?_ ?_
  rotate_left
  · intro w'
    go_simp
    with_reducible rfl
  rotate_left
  · simp only [Act.put, List.setIfInBounds_toArray, List.set_cons_zero, List.set_cons_succ, i64_w, i32_w]
    rfl
  refine pure_ (i := 33) (N := some 0) (v := ?_) (a' := ?_) #[true, true, true, true, true, true, true, true, true, true, true, true, true, true, true, true, true, true, true, true, true, true, true, true, true, true, true, true, true, true, true, true, true, true] rfl rfl (by kernel_rfl) (fun _ _ _ h => h) (Or.inl ⟨by rfl, ?_⟩) ?_ ?_
  rotate_left
  · intro w'
    go_simp
    with_reducible rfl
  rotate_left
  · simp only [Act.put, List.setIfInBounds_toArray, List.set_cons_zero, List.set_cons_succ, i64_w, i32_w]
    rfl
  refine done_ (by kernel_rfl) ?_
  go_wp2
  go_ret
  exact ⟨rfl, HQ5.out.b⟩
end Go.Proofs.Ytdcbacbilncnnaa.T
end
section
/- Header, Block and awake of a block, in the printed form. -/
set_option linter.unusedVariables false
set_option linter.unusedSimpArgs false
namespace Go.Proofs.Ytdcbacbilncnnaa.T
open Go.RowKit Go.Proofs.Ytdcbacbilncnnaa.PMk Go.Proofs.Ytdcbacbilncnnaa.EncL Go.Proofs.YtdcbacbilncnnaaW.PrintWords Go.Proofs.YtdcbacbilncnnaaW.PrintLast Go.Proofs.YtdcbacbilncnnaaW.PrintMore
def fx (x : S47) : Bool := decide (0 ≤ x.f3 ∧ x.f3 < 18446744073709551616 ∧ 0 ≤ x.f4 ∧ x.f4 < 18446744073709551616 ∧ x.f1.size ≤ 1125899906842624 ∧ x.f2.size ≤ 1125899906842624 ∧ x.f5.size ≤ 1125899906842624)
theorem fx_iff (x : S47) : fx x = true ↔ Fits x.f3 x.f4 x.f1 x.f2 x.f5 := by
  unfold fx
  rw [decide_eq_true_iff]
  exact ⟨fun ⟨a, b, c, d, e, f, g⟩ => ⟨a, b, c, d, e, f, g⟩, fun ⟨a, b, c, d, e, f, g⟩ => ⟨a, b, c, d, e, f, g⟩⟩
def fB (a0 : Int) (a1 : ByteArray) (a2 : Int) (l : List S47) : Bool := decide (0 ≤ a0 ∧ a0 < 18446744073709551616 ∧ a1.size ≤ 1125899906842624 ∧ 0 ≤ a2 ∧ a2 < 18446744073709551616 ∧ l.length < 1000) && l.all fx
theorem fB_iff (a0 : Int) (a1 : ByteArray) (a2 : Int) (l : List S47) : fB a0 a1 a2 l = true ↔ FitsB a0 a1 a2 l := by
  unfold fB
  rw [Bool.and_eq_true, decide_eq_true_iff, List.all_eq_true]
  constructor
  · rintro ⟨⟨a, b, c, d, e, f⟩, g⟩
    exact ⟨a, b, c, d, e, fun x hx => (fx_iff x).1 (g x hx), f⟩
  · rintro ⟨a, b, c, d, e, g, f⟩
    exact ⟨⟨a, b, c, d, e, f⟩, fun x hx => (fx_iff x).2 (g x hx)⟩
end Go.Proofs.Ytdcbacbilncnnaa.T
namespace Go.Proofs.Ytdcbacbilncnnaa.Blk
open Go.RowKit Go.Proofs.Ytdcbacbilncnnaa.PMk Go.Proofs.Ytdcbacbilncnnaa.T Go.Proofs.Ytdcbacbilncnnaa.EncL Go.Proofs.YtdcbacbilncnnaaW.PrintWords Go.Proofs.YtdcbacbilncnnaaW.PrintLast Go.Proofs.YtdcbacbilncnnaaW.PrintMore
def block_Header.f (k : Nat) (a0 : Int) (a1 : ByteArray) (a2 : Int) (l : List S47) : Option ByteArray := if fB a0 a1 a2 l = true then some (hdr a0 a1 a2 l) else none
theorem block_Header.calls (k : Nat) (a0_0 : Int) (a0_1 : ByteArray) (a0_2 : Int) (A0_3 : Option Addr) (c0_3 : Nat) (l0_3 : List (S47)) (r : ByteArray) (w : World) (hr0_3 : Kd.C k47 w A0_3 l0_3.length l0_3) (hc0_3 : l0_3.length ≤ c0_3) (h : block_Header.f k a0_0 a0_1 a0_2 l0_3 = some r) :
    Calls Try.prog 16 #[.agg #[.int .u64 a0_0, .string a0_1, .int .u64 a0_2, .slice A0_3 l0_3.length c0_3]] w fun e w' => e = .returned (.string r) ∧ Below w.heap.size w w' := by
  unfold block_Header.f at h
  split at h
  · next hf =>
    obtain rfl := Option.some.inj h
    exact header_any a0_0 a0_1 a0_2 A0_3 c0_3 l0_3 ((fB_iff _ _ _ _).1 hf) w hr0_3
  · cases h
def law_awake.f : Option Bool := some true
theorem law_awake.calls (r : Bool) (w : World) (h : law_awake.f = some r) : Calls Try.prog 12 #[] w fun e w' => e = .returned (.bool r) ∧ Below w.heap.size w w' := by
  obtain rfl := Option.some.inj h
  exact awake_raw w
def law_Block.f (a0 : Int) (a1 : ByteArray) (a2 : Int) (l : List S47) : Option (Int × ByteArray × Int × List S47 × Int × ByteArray × Int × List S44) := some (a0, a1, a2, l.take 66, a0, a1, a2, (l.take 66).map rf)
theorem law_Block.calls (a0_0 : Int) (a0_1 : ByteArray) (a0_2 : Int) (S : Nat → Prop) (A0_3 : Option Addr) (c0_3 : Nat) (l0_3 : List (S47)) (r1 : Int) (r2 : ByteArray) (r3 : Int) (r4 : List S47) (r5 : Int) (r6 : ByteArray) (r7 : Int) (r8 : List S44) (w : World)
    (hv0_3 : Kd.V k47 47 w w.heap.size S (.slice A0_3 l0_3.length c0_3) l0_3) (h : law_Block.f a0_0 a0_1 a0_2 l0_3 = some (r1, r2, r3, r4, r5, r6, r7, r8)) :
    Calls Try.prog 10 #[.agg #[.int .u64 a0_0, .string a0_1, .int .u64 a0_2, .slice A0_3 l0_3.length c0_3]] w fun e w' => ∃ v0 v1 : Value, e = .returned (.tuple #[.agg #[.int .u64 r1, .string r2, .int .u64 r3, v0], .agg #[.int .u64 r5, .string r6, .int .u64 r7, v1]]) ∧
      Kd.V k47 47 w' w.heap.size (fun k_ => (S k_ ∨ w.heap.size ≤ k_) ∧ some k_ ≠ v1.ownBlock) v0 r4 ∧ Kd.R k44 44 w' w.heap.size (fun _ => True) v1 r8 ∧ Below w.heap.size w w' := by
  simp only [law_Block.f, Option.some.injEq, Prod.mk.injEq] at h
  obtain ⟨rfl, rfl, rfl, rfl, rfl, rfl, rfl, rfl⟩ := h
  obtain ⟨_, hc, hC⟩ := Kd.V_reads' hv0_3
  refine (block_raw a0_0 a0_1 a0_2 A0_3 c0_3 l0_3 w hC hc).mono ?_
  rintro e w' ⟨v, rfl, hR, hb⟩
  refine ⟨_, v, rfl, ?_, hR, hb⟩
  have hm : min l0_3.length 66 = (l0_3.take 66).length := by rw [List.length_take]; omega
  have ht : l0_3.take (l0_3.take 66).length = l0_3.take 66 := by
    rw [← hm]
    rcases Nat.le_total l0_3.length 66 with h | h
    · rw [Nat.min_eq_left h, List.take_of_length_le h, List.take_length]
    · rw [Nat.min_eq_right h]
  have hF := Kd.F_take (m := (l0_3.take 66).length) (Kd.V_F hv0_3) (by rw [List.length_take]; omega)
  rw [ht] at hF
  rw [hm]
  have hV : Kd.V k47 47 w w.heap.size S (.slice A0_3 (l0_3.take 66).length c0_3) (l0_3.take 66) := Kd.V_mk (by rw [List.length_take]; omega) hF
  exact Kd.V_mono (Kd.V_below (Kd.V_bound hV) hb) (fun k hk => ⟨.inl hk.1, fun e => by have := Kd.R_base hR k e.symm; omega⟩)
end Go.Proofs.Ytdcbacbilncnnaa.Blk
end
section
namespace Go.Proofs.Ytdcbacbilncnnaa.PMu
open Go.RowKit Go.Proofs.Ytdcbacbilncnnaa.PMk Go.Proofs.YtdcbacbilncnnaaW.PrintWords Go.Proofs.YtdcbacbilncnnaaW.PrintLast Go.Proofs.YtdcbacbilncnnaaW.PrintMore
attribute [local go_sem] max2_int min2_int max_two min_two max_three min_three max_four min_four   -- for this text's walks alone
set_option linter.unusedVariables false
set_option linter.unusedSimpArgs false
-- the values' own types
/-! #### struct type 47 -/
theorem k47_heap : Kd.Heap k47 := Kd.heap_iso _ (Kd.heap_pair (Kd.heap_int .i64) (Kd.heap_pair Kd.heap_string (Kd.heap_pair Kd.heap_string (Kd.heap_pair (Kd.heap_int .u64) (Kd.heap_pair (Kd.heap_int .u64) (Kd.heap_pair Kd.heap_string (Kd.heap_pair Kd.heap_string Kd.heap_bool)))))))
/-! #### struct type 44 -/
end Go.Proofs.Ytdcbacbilncnnaa.PMu
end
section
namespace Go.Proofs.Ytdcbacbilncnnaa.PMu
open Go.RowKit Go.Proofs.Ytdcbacbilncnnaa.PMk Go.Proofs.YtdcbacbilncnnaaW.PrintWords Go.Proofs.YtdcbacbilncnnaaW.PrintLast Go.Proofs.YtdcbacbilncnnaaW.PrintMore
attribute [local go_sem] max2_int min2_int max_two min_two max_three min_three max_four min_four   -- for this text's walks alone
set_option linter.unusedVariables false
set_option linter.unusedSimpArgs false
/-! ### block_Hash: function 14 -/
def block_Hash.f (k : Nat) (a0_0 : Int) (a0_1 : ByteArray) (a0_2 : Int) (l0_3 : List (S47)) : Option (ByteArray) := (Blk.block_Header.f k a0_0 a0_1 a0_2 l0_3).bind fun t113 => (if 1 + t113.size ≤ 9223372036854775807 then ((Dig.hash_Sum.f ((⟨#[2]⟩ : ByteArray) ++ t113)).bind fun t114 => (some t114)) else (none))
set_option maxHeartbeats 8000000 in
set_option maxRecDepth 100000 in
theorem block_Hash.calls (k : Nat) (a0_0 : Int) (a0_1 : ByteArray) (a0_2 : Int) (A0_3 : Option Addr) (c0_3 : Nat) (l0_3 : List (S47)) (r : ByteArray) (w : World) (hr0_3 : Kd.C k47 w A0_3 l0_3.length l0_3) (hc0_3 : l0_3.length ≤ c0_3) (h : block_Hash.f k a0_0 a0_1 a0_2 l0_3 = some r) :
  Calls Try.prog 14 #[.agg #[.int .u64 a0_0, .string a0_1, .int .u64 a0_2, .slice A0_3 l0_3.length c0_3]] w fun e w' => e = .returned (.string r) ∧ Below w.heap.size w w' := by
 have hu25 := Try.underlying25
 have HR0_3 := Aside0.mk hr0_3
 have HC0_3 := Aside0.mk hc0_3
 clear hr0_3 hc0_3
 have HB := Aside0.mk (Below.refl w.heap.size w)
 have H : ((Blk.block_Header.f k a0_0 a0_1 a0_2 l0_3).bind fun t113 => (if 1 + t113.size ≤ 9223372036854775807 then ((Dig.hash_Sum.f ((⟨#[2]⟩ : ByteArray) ++ t113)).bind fun t114 => (some t114)) else (none))) = some r := h
 clear h
 replace H := Option.bind_eq_some_iff.mp H
 obtain ⟨t113, A20, H⟩ := H
 replace H : (if 1 + t113.size ≤ 9223372036854775807 then ((Dig.hash_Sum.f ((⟨#[2]⟩ : ByteArray) ++ t113)).bind fun t114 => (some t114)) else (none)) = some r := H
 have A2 := Aside0.mk A20
 clear A20
 by_cases c3 : 1 + t113.size ≤ 9223372036854775807
 ·rw [if_pos c3] at H
  have c3b0 := eq_true c3
  have c3b1 : decide (1 + t113.size ≤ 9223372036854775807) = true := decide_eq_true c3
  try have c3b2 : (9223372036854775807 < 1 + t113.size) = False := eq_false (Nat.not_lt.2 c3)
  replace H := Option.bind_eq_some_iff.mp H
  obtain ⟨t114, A40, H⟩ := H
  replace H : (some t114) = some r := H
  have A4 := Aside0.mk A40
  clear A40
  obtain rfl := Option.some.inj H
  go_enter Try.func14, Try.ntmps14
  go_wp2_with (first | ((with_reducible refine gate_dst (N := 1) rfl ?_); refine box_event ?hg (N := 1) ?hd (cs := #[.int .u64 a0_0, .string a0_1, .int .u64 a0_2, .slice A0_3 l0_3.length c0_3]) (t := 25) ?hr ?_; (case hd => rfl); (case hg => rfl); (case hr => first | (go_simp; done) | (go_simp; rfl)); intro gb112 hg w5 hbox hb; have n0_ := Aside0.mk (below_step (bh_ HB.out) hb); have n1_ := Aside0.mk (hbox); have n2_ := Aside0.mk ((by rw [hg]; exact (below_size (bh_ HB.out)) : w.heap.size ≤ gb112)); have n3_ := Aside0.mk ((by rw [hg]; exact (below_size (bh_ HB.out)) : w.heap.size ≤ gb112)); clear HB; have HB := n0_; have BK112 := n1_; have GW112 := n2_; have GE112 := n3_; clear n0_ n1_ n2_ n3_; clear hb hbox hg; obtain ⟨z6_0, z6_1, z6_2, z6_3, f6_0, f6_1, f6_2, f6_3⟩ := bc4_ BK112.out) | ((with_reducible refine gate_callee (f := 16) rfl ?_); refine goesL_ (some 4) rfl rfl Try.func16 (by kernel_rfl) rfl #[.agg #[.int .u64 a0_0, .string a0_1, .int .u64 a0_2, .slice A0_3 l0_3.length c0_3]] rfl (by (try simp only [List.map_toArray, List.map_cons, List.map_nil]); first | done | rfl | (simp only [List.length_drop, List.length_take]; rfl)) ?_; (with_reducible refine (Blk.block_Header.calls k a0_0 a0_1 a0_2 _ _ l0_3 t113 _ ?side1 ?side2 A2.out).mono ?_); (case side1 => repeat (first | exact (Kd.C_below HR0_3.out HB.out) | (with_reducible refine Kd.C_alloc ?_ _) | (with_reducible refine Kd.C_drewN ?_ _) | (with_reducible refine Kd.C_drew ?_))); (case side2 => exact HC0_3.out); rintro e w7 ⟨rfl, hb⟩; refine ⟨_, rfl, ?_⟩; replace BK112 := Aside0.mk (bk_ BK112.out hb); replace HB := Aside0.mk (below_step (bh_ HB.out) hb); (try clear hb)) | ((with_reducible refine gate_callee (f := 44) rfl ?_); refine goesL_ (some 6) rfl rfl Try.func44 (by kernel_rfl) rfl #[.string ((⟨#[2]⟩ : ByteArray) ++ t113)] rfl (by (try simp only [List.map_toArray, List.map_cons, List.map_nil]); first | done | rfl | (simp only [List.length_drop, List.length_take]; rfl)) ?_; (with_reducible refine (Dig.hash_Sum.calls ((⟨#[2]⟩ : ByteArray) ++ t113) t114 _ A4.out).mono ?_); rintro e w8 ⟨rfl, hb⟩; refine ⟨_, rfl, ?_⟩; replace BK112 := Aside0.mk (bk_ BK112.out hb); replace HB := Aside0.mk (below_step (bh_ HB.out) hb); (try clear hb)))
  go_ret
  exact ⟨by first | rfl | (simp [errW_none, errW_some] <;> rfl) | (simp [*, errW_none, errW_some] <;> rfl), by repeat (first | (with_reducible first | exact HB.out | apply below_alloc | apply pw_below_drewN | apply below_drew1 | refine below_set ?_ GE112.out) | exact HB.out)⟩
 ·rw [if_neg c3] at H
  exact absurd H (by simp)
end Go.Proofs.Ytdcbacbilncnnaa.PMu
end
section
namespace Go.Proofs.Ytdcbacbilncnnaa.PMu
open Go.RowKit Go.Proofs.Ytdcbacbilncnnaa.PMk Go.Proofs.YtdcbacbilncnnaaW.PrintWords Go.Proofs.YtdcbacbilncnnaaW.PrintLast Go.Proofs.YtdcbacbilncnnaaW.PrintMore
attribute [local go_sem] max2_int min2_int max_two min_two max_three min_three max_four min_four   -- for this text's walks alone
set_option linter.unusedVariables false
set_option linter.unusedSimpArgs false
theorem q1_ {α : Type} (l : List α) (i : Nat) (a : α) : l.toArray.setIfInBounds i a = (l.set i a).toArray := List.setIfInBounds_toArray ..
theorem q2_ {α : Type} (a b : α) (l : List α) : (a :: l).set 0 b = b :: l := rfl
theorem q3_ {α : Type} (a b : α) (l : List α) (n : Nat) : (a :: l).set (n + 1) b = a :: l.set n b := rfl
/-! ### parchmentlaw09_BlockUnlike: function 3 -/
mutual
def parchmentlaw09_BlockUnlike.j0 : Nat → Bool → Int → ByteArray → Int → List (S47) → Int → ByteArray → Int → List (S44) → Int → ByteArray → Int → List (S47) → Int → ByteArray → Int → List (S44) → Option (Bool)
 | 0, _, _, _, _, _, _, _, _, _, _, _, _, _, _, _, _, _ => none
 | k + 1, x48, x130000, x130001, x130002, x130003, x131000, x131001, x131002, x131003, x144000, x144001, x144002, x144003, x145000, x145001, x145002, x145003 => if x48 = true then ((Blk.law_awake.f).bind fun t147 => (some t147)) else ((PMk.parchmentref09_Header.f k x131000 x131001 x131002 x131003).bind fun t148 => ((PMk.parchmentref09_Header.f k x145000 x145001 x145002 x145003).bind fun t149 => ((Blk.law_awake.f).bind fun t150 => (if t150 = true then ((block_Hash.f k x130000 x130001 x130002 x130003).bind fun t151 => ((block_Hash.f k x144000 x144001 x144002 x144003).bind fun t152 => (if ((t151.toList == t152.toList) != (t148.toList == t149.toList)) = true then ((Blk.block_Header.f k x130000 x130001 x130002 x130003).bind fun t153 => (if 1 + t153.size ≤ 9223372036854775807 then ((Blk.block_Header.f k x144000 x144001 x144002 x144003).bind fun t154 => (if 1 + t154.size ≤ 9223372036854775807 then ((PMk.hash_Collides.f ((⟨#[2]⟩ : ByteArray) ++ t153) ((⟨#[2]⟩ : ByteArray) ++ t154)).bind fun t155 => (parchmentlaw09_BlockUnlike.j1 k (t148.toList == t149.toList) (!t155) x131000 x131001 x131002 x131003 x145000 x145001 x145002 x145003)) else (none))) else (none))) else (parchmentlaw09_BlockUnlike.j1 k (t148.toList == t149.toList) false x131000 x131001 x131002 x131003 x145000 x145001 x145002 x145003)))) else (parchmentlaw09_BlockUnlike.j1 k (t148.toList == t149.toList) true x131000 x131001 x131002 x131003 x145000 x145001 x145002 x145003)))))
def parchmentlaw09_BlockUnlike.j1 : Nat → Bool → Bool → Int → ByteArray → Int → List (S44) → Int → ByteArray → Int → List (S44) → Option (Bool)
 | 0, _, _, _, _, _, _, _, _, _, _ => none
 | k + 1, x9, x76, x131000, x131001, x131002, x131003, x145000, x145001, x145002, x145003 => if x76 = true then (some false) else ((PMk.parchmentref09_Frame.f k x131000 x131001 x131002 x131003).bind fun t156 => ((PMk.parchmentref09_Frame.f k x145000 x145001 x145002 x145003).bind fun t157 => (if t156.toList = t157.toList then (some x9) else (some true))))
end
def parchmentlaw09_BlockUnlike.f (k : Nat) (a0_0 : Int) (a0_1 : ByteArray) (a0_2 : Int) (l0_3 : List (S47)) (a1_0 : Int) (a1_1 : ByteArray) (a1_2 : Int) (l1_3 : List (S47)) : Option (Bool) := (Blk.law_Block.f a0_0 a0_1 a0_2 l0_3).bind fun bt117 => ((Blk.law_Block.f a1_0 a1_1 a1_2 l1_3).bind fun bt131 => ((PMk.parchmentref09_Follows.f k bt117.2.2.2.2.1 bt117.2.2.2.2.2.1 bt117.2.2.2.2.2.2.1 bt117.2.2.2.2.2.2.2 bt117.2.2.2.2.1 bt117.2.2.2.2.2.1).bind fun t145 => (if t145 = 0 then ((PMk.parchmentref09_Follows.f k bt131.2.2.2.2.1 bt131.2.2.2.2.2.1 bt131.2.2.2.2.2.2.1 bt131.2.2.2.2.2.2.2 bt131.2.2.2.2.1 bt131.2.2.2.2.2.1).bind fun t146 => (if t146 = 0 then (if (bt117.2.2.2.2.2.1.size : Int) > 32 then (parchmentlaw09_BlockUnlike.j0 k true bt117.1 bt117.2.1 bt117.2.2.1 bt117.2.2.2.1 bt117.2.2.2.2.1 bt117.2.2.2.2.2.1 bt117.2.2.2.2.2.2.1 bt117.2.2.2.2.2.2.2 bt131.1 bt131.2.1 bt131.2.2.1 bt131.2.2.2.1 bt131.2.2.2.2.1 bt131.2.2.2.2.2.1 bt131.2.2.2.2.2.2.1 bt131.2.2.2.2.2.2.2) else (parchmentlaw09_BlockUnlike.j0 k (decide ((bt131.2.2.2.2.2.1.size : Int) > 32)) bt117.1 bt117.2.1 bt117.2.2.1 bt117.2.2.2.1 bt117.2.2.2.2.1 bt117.2.2.2.2.2.1 bt117.2.2.2.2.2.2.1 bt117.2.2.2.2.2.2.2 bt131.1 bt131.2.1 bt131.2.2.1 bt131.2.2.2.1 bt131.2.2.2.2.1 bt131.2.2.2.2.2.1 bt131.2.2.2.2.2.2.1 bt131.2.2.2.2.2.2.2)) else (parchmentlaw09_BlockUnlike.j0 k true bt117.1 bt117.2.1 bt117.2.2.1 bt117.2.2.2.1 bt117.2.2.2.2.1 bt117.2.2.2.2.2.1 bt117.2.2.2.2.2.2.1 bt117.2.2.2.2.2.2.2 bt131.1 bt131.2.1 bt131.2.2.1 bt131.2.2.2.1 bt131.2.2.2.2.1 bt131.2.2.2.2.2.1 bt131.2.2.2.2.2.2.1 bt131.2.2.2.2.2.2.2))) else (parchmentlaw09_BlockUnlike.j0 k true bt117.1 bt117.2.1 bt117.2.2.1 bt117.2.2.2.1 bt117.2.2.2.2.1 bt117.2.2.2.2.2.1 bt117.2.2.2.2.2.2.1 bt117.2.2.2.2.2.2.2 bt131.1 bt131.2.1 bt131.2.2.1 bt131.2.2.2.1 bt131.2.2.2.2.1 bt131.2.2.2.2.2.1 bt131.2.2.2.2.2.2.1 bt131.2.2.2.2.2.2.2))))
def parchmentlaw09_BlockUnlike.T6 : Bool × List (List Nat × List Nat) := (true, [([], []), ([0], [0]), ([1, 0], [1]), ([2], [2]), ([3, 2, 2], [2, 3]), ([2], [2]), ([5, 4, 2], [2, 5]), ([4, 6, 2], [2, 4, 6]), ([2], [2]), ([7, 8, 2], [2, 7, 8]), ([9, 6, 2], [2, 9]), ([10], [10]), ([11, 10, 10], [10, 11]), ([12, 10], [10, 12]), ([10], [10]), ([14, 12, 10], [10, 14]), ([15, 10], [10, 15]), ([13, 16, 10], [10, 13, 16]), ([17, 15, 10], [10, 17]), ([18, 10], [10, 18]), ([10, 19, 2], [2, 10, 19]), ([2, 20], [2, 20])])
def parchmentlaw09_BlockUnlike.B6 : List Nat := [0, 1, 3, 7, 15, 7, 63, 127, 7, 511, 1023, 2047, 4095, 8191, 2047, 24575, 57343, 131071, 262143, 524287, 1048575, 2097151]
theorem parchmentlaw09_BlockUnlike.tab6 : rtab .any (opsOf Try.f3 6) = parchmentlaw09_BlockUnlike.T6 := by kernel_rfl
theorem parchmentlaw09_BlockUnlike.bits6 : waitsOk parchmentlaw09_BlockUnlike.T6.2 parchmentlaw09_BlockUnlike.B6 = true := by kernel_rfl
set_option maxHeartbeats 8000000 in
set_option maxRecDepth 100000 in
theorem parchmentlaw09_BlockUnlike.calls (k : Nat) (a0_0 : Int) (a0_1 : ByteArray) (a0_2 : Int) (A0_3 : Option Addr) (c0_3 : Nat) (l0_3 : List (S47)) (a1_0 : Int) (a1_1 : ByteArray) (a1_2 : Int) (A1_3 : Option Addr) (c1_3 : Nat) (l1_3 : List (S47)) (r : Bool) (w : World) (hr0_3 : Kd.C k47 w A0_3 l0_3.length l0_3) (hc0_3 : l0_3.length ≤ c0_3) (hr1_3 : Kd.C k47 w A1_3 l1_3.length l1_3) (hc1_3 : l1_3.length ≤ c1_3) (h : parchmentlaw09_BlockUnlike.f k a0_0 a0_1 a0_2 l0_3 a1_0 a1_1 a1_2 l1_3 = some r) :
  Calls Try.prog 3 #[.agg #[.int .u64 a0_0, .string a0_1, .int .u64 a0_2, .slice A0_3 l0_3.length c0_3], .agg #[.int .u64 a1_0, .string a1_1, .int .u64 a1_2, .slice A1_3 l1_3.length c1_3]] w fun e w' => e = .returned (.bool r) ∧ Below w.heap.size w w' := by
 have hu25 := Try.underlying25
 have hu28 := Try.underlying28
 have hu37 := Try.underlying37
 have HR0_3 := Aside0.mk hr0_3
 have HC0_3 := Aside0.mk hc0_3
 clear hr0_3 hc0_3
 have HR1_3 := Aside0.mk hr1_3
 have HC1_3 := Aside0.mk hc1_3
 clear hr1_3 hc1_3
 have HB := Aside0.mk (Below.refl w.heap.size w)
 have H : ((Blk.law_Block.f a0_0 a0_1 a0_2 l0_3).bind fun bt117 => ((Blk.law_Block.f a1_0 a1_1 a1_2 l1_3).bind fun bt131 => ((PMk.parchmentref09_Follows.f k bt117.2.2.2.2.1 bt117.2.2.2.2.2.1 bt117.2.2.2.2.2.2.1 bt117.2.2.2.2.2.2.2 bt117.2.2.2.2.1 bt117.2.2.2.2.2.1).bind fun t145 => (if t145 = 0 then ((PMk.parchmentref09_Follows.f k bt131.2.2.2.2.1 bt131.2.2.2.2.2.1 bt131.2.2.2.2.2.2.1 bt131.2.2.2.2.2.2.2 bt131.2.2.2.2.1 bt131.2.2.2.2.2.1).bind fun t146 => (if t146 = 0 then (if (bt117.2.2.2.2.2.1.size : Int) > 32 then (parchmentlaw09_BlockUnlike.j0 k true bt117.1 bt117.2.1 bt117.2.2.1 bt117.2.2.2.1 bt117.2.2.2.2.1 bt117.2.2.2.2.2.1 bt117.2.2.2.2.2.2.1 bt117.2.2.2.2.2.2.2 bt131.1 bt131.2.1 bt131.2.2.1 bt131.2.2.2.1 bt131.2.2.2.2.1 bt131.2.2.2.2.2.1 bt131.2.2.2.2.2.2.1 bt131.2.2.2.2.2.2.2) else (parchmentlaw09_BlockUnlike.j0 k (decide ((bt131.2.2.2.2.2.1.size : Int) > 32)) bt117.1 bt117.2.1 bt117.2.2.1 bt117.2.2.2.1 bt117.2.2.2.2.1 bt117.2.2.2.2.2.1 bt117.2.2.2.2.2.2.1 bt117.2.2.2.2.2.2.2 bt131.1 bt131.2.1 bt131.2.2.1 bt131.2.2.2.1 bt131.2.2.2.2.1 bt131.2.2.2.2.2.1 bt131.2.2.2.2.2.2.1 bt131.2.2.2.2.2.2.2)) else (parchmentlaw09_BlockUnlike.j0 k true bt117.1 bt117.2.1 bt117.2.2.1 bt117.2.2.2.1 bt117.2.2.2.2.1 bt117.2.2.2.2.2.1 bt117.2.2.2.2.2.2.1 bt117.2.2.2.2.2.2.2 bt131.1 bt131.2.1 bt131.2.2.1 bt131.2.2.2.1 bt131.2.2.2.2.1 bt131.2.2.2.2.2.1 bt131.2.2.2.2.2.2.1 bt131.2.2.2.2.2.2.2))) else (parchmentlaw09_BlockUnlike.j0 k true bt117.1 bt117.2.1 bt117.2.2.1 bt117.2.2.2.1 bt117.2.2.2.2.1 bt117.2.2.2.2.2.1 bt117.2.2.2.2.2.2.1 bt117.2.2.2.2.2.2.2 bt131.1 bt131.2.1 bt131.2.2.1 bt131.2.2.2.1 bt131.2.2.2.2.1 bt131.2.2.2.2.2.1 bt131.2.2.2.2.2.2.1 bt131.2.2.2.2.2.2.2))))) = some r := h
 clear h
 replace H := Option.bind_eq_some_iff.mp H
 obtain ⟨⟨t117, t118, t119, t120, t123, t124, t125, t126⟩, A30, H⟩ := H
 replace H : ((Blk.law_Block.f a1_0 a1_1 a1_2 l1_3).bind fun bt131 => ((PMk.parchmentref09_Follows.f k t123 t124 t125 t126 t123 t124).bind fun t145 => (if t145 = 0 then ((PMk.parchmentref09_Follows.f k bt131.2.2.2.2.1 bt131.2.2.2.2.2.1 bt131.2.2.2.2.2.2.1 bt131.2.2.2.2.2.2.2 bt131.2.2.2.2.1 bt131.2.2.2.2.2.1).bind fun t146 => (if t146 = 0 then (if (t124.size : Int) > 32 then (parchmentlaw09_BlockUnlike.j0 k true t117 t118 t119 t120 t123 t124 t125 t126 bt131.1 bt131.2.1 bt131.2.2.1 bt131.2.2.2.1 bt131.2.2.2.2.1 bt131.2.2.2.2.2.1 bt131.2.2.2.2.2.2.1 bt131.2.2.2.2.2.2.2) else (parchmentlaw09_BlockUnlike.j0 k (decide ((bt131.2.2.2.2.2.1.size : Int) > 32)) t117 t118 t119 t120 t123 t124 t125 t126 bt131.1 bt131.2.1 bt131.2.2.1 bt131.2.2.2.1 bt131.2.2.2.2.1 bt131.2.2.2.2.2.1 bt131.2.2.2.2.2.2.1 bt131.2.2.2.2.2.2.2)) else (parchmentlaw09_BlockUnlike.j0 k true t117 t118 t119 t120 t123 t124 t125 t126 bt131.1 bt131.2.1 bt131.2.2.1 bt131.2.2.2.1 bt131.2.2.2.2.1 bt131.2.2.2.2.2.1 bt131.2.2.2.2.2.2.1 bt131.2.2.2.2.2.2.2))) else (parchmentlaw09_BlockUnlike.j0 k true t117 t118 t119 t120 t123 t124 t125 t126 bt131.1 bt131.2.1 bt131.2.2.1 bt131.2.2.2.1 bt131.2.2.2.2.1 bt131.2.2.2.2.2.1 bt131.2.2.2.2.2.2.1 bt131.2.2.2.2.2.2.2)))) = some r := H
 have A3 := Aside0.mk A30
 clear A30
 replace H := Option.bind_eq_some_iff.mp H
 obtain ⟨⟨t131, t132, t133, t134, t137, t138, t139, t140⟩, A40, H⟩ := H
 replace H : ((PMk.parchmentref09_Follows.f k t123 t124 t125 t126 t123 t124).bind fun t145 => (if t145 = 0 then ((PMk.parchmentref09_Follows.f k t137 t138 t139 t140 t137 t138).bind fun t146 => (if t146 = 0 then (if (t124.size : Int) > 32 then (parchmentlaw09_BlockUnlike.j0 k true t117 t118 t119 t120 t123 t124 t125 t126 t131 t132 t133 t134 t137 t138 t139 t140) else (parchmentlaw09_BlockUnlike.j0 k (decide ((t138.size : Int) > 32)) t117 t118 t119 t120 t123 t124 t125 t126 t131 t132 t133 t134 t137 t138 t139 t140)) else (parchmentlaw09_BlockUnlike.j0 k true t117 t118 t119 t120 t123 t124 t125 t126 t131 t132 t133 t134 t137 t138 t139 t140))) else (parchmentlaw09_BlockUnlike.j0 k true t117 t118 t119 t120 t123 t124 t125 t126 t131 t132 t133 t134 t137 t138 t139 t140))) = some r := H
 have A4 := Aside0.mk A40
 clear A40
 have HC5 := Aside0.mk H
 clear H
 go_enter Try.func3, Try.ntmps3
 go_upto_region 3 with (first | ((with_reducible refine gate_dst (N := 2) rfl ?_); (try (refine gate_guard (by rfl) ?_; dsimp only)); refine box_event ?hg (N := 2) ?hd (cs := #[.int .u64 a0_0, .string a0_1, .int .u64 a0_2, .slice A0_3 l0_3.length c0_3]) (t := 25) ?hr ?_; (case hd => rfl); (case hg => rfl); (case hr => first | (go_simp; done) | (go_simp; rfl)); intro gb115 hg w6 hbox hb; have n0_ := Aside0.mk (below_step (bh_ HB.out) hb); have n1_ := Aside0.mk (hbox); have n2_ := Aside0.mk ((by rw [hg]; exact (below_size (bh_ HB.out)) : w.heap.size ≤ gb115)); have n3_ := Aside0.mk ((by rw [hg]; exact (below_size (bh_ HB.out)) : w.heap.size ≤ gb115)); clear HB; have HB := n0_; have BK115 := n1_; have GW115 := n2_; have GE115 := n3_; clear n0_ n1_ n2_ n3_; clear hb hbox hg) | ((with_reducible refine gate_dst (N := 3) rfl ?_); (try (refine gate_guard (by rfl) ?_; dsimp only)); refine box_event ?hg (N := 3) ?hd (cs := #[.int .u64 a1_0, .string a1_1, .int .u64 a1_2, .slice A1_3 l1_3.length c1_3]) (t := 25) ?hr ?_; (case hd => rfl); (case hg => rfl); (case hr => first | (go_simp; done) | (go_simp; rfl)); intro gb116 hg w7 hbox hb; have n0_ := Aside0.mk (bk_ BK115.out hb); have n1_ := Aside0.mk (below_step (bh_ HB.out) hb); have n2_ := Aside0.mk (hbox); have n3_ := Aside0.mk ((by rw [hg]; exact (below_size (bh_ HB.out)) : w.heap.size ≤ gb116)); have n4_ := Aside0.mk ((by rw [hg]; exact (below_size (bh_ HB.out)) : w.heap.size ≤ gb116)); have n5_ := Aside0.mk ((by rw [hg]; exact Nat.ne_of_lt (blk_lt (g := gb115) (o := .cells #[.int .u64 a0_0, .string a0_1, .int .u64 a0_2, .slice A0_3 l0_3.length c0_3] 25 (0, 0)) (bq_ BK115.out)) : gb115 ≠ gb116)); have n6_ := Aside0.mk ((by rw [hg]; exact Nat.ne_of_gt (blk_lt (g := gb115) (o := .cells #[.int .u64 a0_0, .string a0_1, .int .u64 a0_2, .slice A0_3 l0_3.length c0_3] 25 (0, 0)) (bq_ BK115.out)) : gb116 ≠ gb115)); clear BK115; clear HB; have BK115 := n0_; have HB := n1_; have BK116 := n2_; have GW116 := n3_; have GE116 := n4_; have NB115_116 := n5_; have NB116_115 := n6_; clear n0_ n1_ n2_ n3_ n4_ n5_ n6_; clear hb hbox hg; have hnb8 := NB115_116.out; have hnc8 := NB116_115.out; obtain ⟨z9_0, z9_1, z9_2, z9_3, f9_0, f9_1, f9_2, f9_3⟩ := bc4_ BK115.out) | ((with_reducible refine gate_callee (f := 10) rfl ?_); refine goesL_ (some 13) rfl rfl Try.func10 (by kernel_rfl) rfl #[.agg #[.int .u64 a0_0, .string a0_1, .int .u64 a0_2, .slice A0_3 l0_3.length c0_3]] rfl (by (try simp only [List.map_toArray, List.map_cons, List.map_nil]); first | done | rfl | (simp only [List.length_drop, List.length_take]; rfl)) ?_; (with_reducible refine (Blk.law_Block.calls a0_0 a0_1 a0_2 (fun k_ => k_ < w.heap.size) _ _ l0_3 t117 t118 t119 t120 t123 t124 t125 t126 _ ?side1 A3.out).mono ?_); (case side1 => exact Kd.V_mk HC0_3.out (Kd.F_below (Kd.C_F k47_heap HR0_3.out) (bh_ HB.out))); rintro e w10 ⟨v121, v127, rfl, ho0, ho1, hb⟩; refine ⟨_, rfl, ?_⟩; have HO122 := Aside0.mk (Kd.V_lower (Kd.V_mono (ok' := fun k_ => some k_ ≠ (v127 : Value).ownBlock ∧ k_ ≠ gb115 ∧ k_ ≠ gb116) ho0 (fun k_ hk_ => ⟨hk_.2, Or.elim hk_.1 (fun hs_ => fun e_ => Nat.not_le.2 hs_ (by rw [e_]; exact GW115.out)) (fun hn_ => (Kd.freshB (g := gb115) (o := .cells #[.int .u64 a0_0, .string a0_1, .int .u64 a0_2, .slice A0_3 l0_3.length c0_3] 25 (0, 0)) (bq_ BK115.out) k_ hn_)), Or.elim hk_.1 (fun hs_ => fun e_ => Nat.not_le.2 hs_ (by rw [e_]; exact GW116.out)) (fun hn_ => (Kd.freshB (g := gb116) (o := .cells #[.int .u64 a1_0, .string a1_1, .int .u64 a1_2, .slice A1_3 l1_3.length c1_3] 25 (0, 0)) (bq_ BK116.out) k_ hn_))⟩)) (below_size (bh_ HB.out))); have HO128 := Aside0.mk (Kd.R_lower (Kd.R_mono (ok' := fun k_ => True) ho1 (fun _ hk_ => trivial)) (below_size (bh_ HB.out))); replace BK115 := Aside0.mk (bk_ BK115.out hb); replace BK116 := Aside0.mk (bk_ BK116.out hb); replace HB := Aside0.mk (below_step (bh_ HB.out) hb); (try clear hb); (try clear ho0); (try clear ho1)) | ((with_reducible refine gate_dst (N := 5) rfl ?_); (try (refine gate_guard (by rfl) ?_; dsimp only)); refine box_event ?hg (N := 5) ?hd (cs := #[.int .u64 0, .string (⟨#[]⟩ : ByteArray), .int .u64 0, .slice none 0 0]) (t := 25) ?hr ?_; (case hd => rfl); (case hg => rfl); (case hr => first | (go_simp; done) | (go_simp; rfl)); intro gb129 hg w11 hbox hb; have n0_ := Aside0.mk (Kd.V_below (Kd.V_elderB (by (with_reducible repeat (first | apply Kd.V_alloc | apply Kd.V_drewN | apply Kd.V_drew)); exact HO122.out) gb129 (Nat.le_of_eq hg.symm)) hb); have n1_ := Aside0.mk (Kd.R_below (br_ HO128.out) hb); have n2_ := Aside0.mk (bk_ BK115.out hb); have n3_ := Aside0.mk (bk_ BK116.out hb); have n4_ := Aside0.mk (below_step (bh_ HB.out) hb); have n5_ := Aside0.mk (hbox); have n6_ := Aside0.mk ((by rw [hg]; exact (below_size (bh_ HB.out)) : w.heap.size ≤ gb129)); have n7_ := Aside0.mk ((by rw [hg]; exact (below_size (bh_ HB.out)) : w.heap.size ≤ gb129)); have n8_ := Aside0.mk ((by rw [hg]; exact Nat.ne_of_lt (blk_lt (g := gb115) (o := .cells #[.int .u64 a0_0, .string a0_1, .int .u64 a0_2, .slice A0_3 l0_3.length c0_3] 25 (0, 0)) (bq_ BK115.out)) : gb115 ≠ gb129)); have n9_ := Aside0.mk ((by rw [hg]; exact Nat.ne_of_gt (blk_lt (g := gb115) (o := .cells #[.int .u64 a0_0, .string a0_1, .int .u64 a0_2, .slice A0_3 l0_3.length c0_3] 25 (0, 0)) (bq_ BK115.out)) : gb129 ≠ gb115)); have n10_ := Aside0.mk ((by rw [hg]; exact Nat.ne_of_lt (blk_lt (g := gb116) (o := .cells #[.int .u64 a1_0, .string a1_1, .int .u64 a1_2, .slice A1_3 l1_3.length c1_3] 25 (0, 0)) (bq_ BK116.out)) : gb116 ≠ gb129)); have n11_ := Aside0.mk ((by rw [hg]; exact Nat.ne_of_gt (blk_lt (g := gb116) (o := .cells #[.int .u64 a1_0, .string a1_1, .int .u64 a1_2, .slice A1_3 l1_3.length c1_3] 25 (0, 0)) (bq_ BK116.out)) : gb129 ≠ gb116)); clear HO122; clear HO128; clear BK115; clear BK116; clear HB; have HO122 := n0_; have HO128 := n1_; have BK115 := n2_; have BK116 := n3_; have HB := n4_; have BK129 := n5_; have GW129 := n6_; have GE129 := n7_; have NB115_129 := n8_; have NB129_115 := n9_; have NB116_129 := n10_; have NB129_116 := n11_; clear n0_ n1_ n2_ n3_ n4_ n5_ n6_ n7_ n8_ n9_ n10_ n11_; clear hb hbox hg) | ((with_reducible refine gate_dst (N := 6) rfl ?_); (try (refine gate_guard (by rfl) ?_; dsimp only)); refine box_event ?hg (N := 6) ?hd (cs := #[.int .u64 0, .string (⟨#[]⟩ : ByteArray), .int .u64 0, .slice none 0 0]) (t := 28) ?hr ?_; (case hd => rfl); (case hg => rfl); (case hr => first | (go_simp; done) | (go_simp; rfl)); intro gb130 hg w12 hbox hb; have n0_ := Aside0.mk (Kd.V_below (Kd.V_elderB (by (with_reducible repeat (first | apply Kd.V_alloc | apply Kd.V_drewN | apply Kd.V_drew)); exact HO122.out) gb130 (Nat.le_of_eq hg.symm)) hb); have n1_ := Aside0.mk (Kd.R_below (br_ HO128.out) hb); have n2_ := Aside0.mk (bk_ BK115.out hb); have n3_ := Aside0.mk (bk_ BK116.out hb); have n4_ := Aside0.mk (bk_ BK129.out hb); have n5_ := Aside0.mk (below_step (bh_ HB.out) hb); have n6_ := Aside0.mk (hbox); have n7_ := Aside0.mk ((by rw [hg]; exact (below_size (bh_ HB.out)) : w.heap.size ≤ gb130)); have n8_ := Aside0.mk ((by rw [hg]; exact (below_size (bh_ HB.out)) : w.heap.size ≤ gb130)); have n9_ := Aside0.mk ((by rw [hg]; exact Nat.ne_of_lt (blk_lt (g := gb115) (o := .cells #[.int .u64 a0_0, .string a0_1, .int .u64 a0_2, .slice A0_3 l0_3.length c0_3] 25 (0, 0)) (bq_ BK115.out)) : gb115 ≠ gb130)); have n10_ := Aside0.mk ((by rw [hg]; exact Nat.ne_of_gt (blk_lt (g := gb115) (o := .cells #[.int .u64 a0_0, .string a0_1, .int .u64 a0_2, .slice A0_3 l0_3.length c0_3] 25 (0, 0)) (bq_ BK115.out)) : gb130 ≠ gb115)); have n11_ := Aside0.mk ((by rw [hg]; exact Nat.ne_of_lt (blk_lt (g := gb116) (o := .cells #[.int .u64 a1_0, .string a1_1, .int .u64 a1_2, .slice A1_3 l1_3.length c1_3] 25 (0, 0)) (bq_ BK116.out)) : gb116 ≠ gb130)); have n12_ := Aside0.mk ((by rw [hg]; exact Nat.ne_of_gt (blk_lt (g := gb116) (o := .cells #[.int .u64 a1_0, .string a1_1, .int .u64 a1_2, .slice A1_3 l1_3.length c1_3] 25 (0, 0)) (bq_ BK116.out)) : gb130 ≠ gb116)); have n13_ := Aside0.mk ((by rw [hg]; exact Nat.ne_of_lt (blk_lt (g := gb129) (o := .cells #[.int .u64 0, .string (⟨#[]⟩ : ByteArray), .int .u64 0, .slice none 0 0] 25 (0, 0)) (bq_ BK129.out)) : gb129 ≠ gb130)); have n14_ := Aside0.mk ((by rw [hg]; exact Nat.ne_of_gt (blk_lt (g := gb129) (o := .cells #[.int .u64 0, .string (⟨#[]⟩ : ByteArray), .int .u64 0, .slice none 0 0] 25 (0, 0)) (bq_ BK129.out)) : gb130 ≠ gb129)); clear HO122; clear HO128; clear BK115; clear BK116; clear BK129; clear HB; have HO122 := n0_; have HO128 := n1_; have BK115 := n2_; have BK116 := n3_; have BK129 := n4_; have HB := n5_; have BK130 := n6_; have GW130 := n7_; have GE130 := n8_; have NB115_130 := n9_; have NB130_115 := n10_; have NB116_130 := n11_; have NB130_116 := n12_; have NB129_130 := n13_; have NB130_129 := n14_; clear n0_ n1_ n2_ n3_ n4_ n5_ n6_ n7_ n8_ n9_ n10_ n11_ n12_ n13_ n14_; clear hb hbox hg; have hnb13 := NB129_115.out; have hnc13 := NB115_129.out; have hnb14 := NB129_116.out; have hnc14 := NB116_129.out; have hnb15 := NB129_130.out; have hnc15 := NB130_129.out; obtain ⟨z16_0, z16_1, z16_2, z16_3, f16_0, f16_1, f16_2, f16_3⟩ := bc4_ BK129.out; obtain ⟨Ao17, co17, eo17⟩ := Kd.V_slice HO122.out; subst eo17) | ((with_reducible refine gate_store (t := 25) (p := 5) rfl ?_); refine store_event (t := 25) (p := 5) (v := ?vo_w18) (w1 := ((((w12.setCell ⟨gb129, 0, none⟩ (.int .u64 t117)).setCell ⟨gb129, 1, none⟩ (.string t118)).setCell ⟨gb129, 2, none⟩ (.int .u64 t119)).setCell ⟨gb129, 3, none⟩ (.slice Ao17 t120.length co17))) ?hg ?ho ?hn ?hr ?_; (case ho => rfl); (case hg => rfl); (case hn => rfl); (case hr => first | (go_simp; done) | (go_simp; rfl)); intro w18 hw; have n0_ : Aside0 (Kd.V k47 47 w18 w.heap.size (fun k_ => some k_ ≠ (v127 : Value).ownBlock ∧ k_ ≠ gb115 ∧ k_ ≠ gb116 ∧ k_ ≠ gb129 ∧ k_ ≠ gb130) (.slice Ao17 t120.length co17) t120) := ⟨(by rw [hw]; exact (by (with_reducible repeat (first | apply Kd.V_alloc | apply Kd.V_drewN | apply Kd.V_drew)); exact Kd.V_mono (Kd.V_far (p := ⟨gb129, 3, none⟩) (Kd.V_far (p := ⟨gb129, 2, none⟩) (Kd.V_far (p := ⟨gb129, 1, none⟩) (Kd.V_far (p := ⟨gb129, 0, none⟩) (Kd.V_mono HO122.out (fun k_ hk => (⟨hk, hk.1.2⟩ : _ ∧ k_ ≠ gb129))) (fun _ hk => hk.2) (.int .u64 t117)) (fun _ hk => hk.2) (.string t118)) (fun _ hk => hk.2) (.int .u64 t119)) (fun _ hk => hk.2) (.slice Ao17 t120.length co17)) (fun _ hk => ⟨hk.1.1.1.1, ⟨hk.1.1.1.2.1, ⟨hk.1.1.1.2.2, ⟨hk.1.1.2, hk.1.2⟩⟩⟩⟩)))⟩; have n1_ : Aside0 (Kd.R k44 44 w18 w.heap.size (fun _ => True) v127 t126) := ⟨(by rw [hw]; exact (by (with_reducible repeat (first | apply Kd.R_alloc | apply Kd.R_drewN | apply Kd.R_drew)); exact Kd.R_mono (Kd.R_far (p := ⟨gb129, 3, none⟩) (Kd.R_far (p := ⟨gb129, 2, none⟩) (Kd.R_far (p := ⟨gb129, 1, none⟩) (Kd.R_far (p := ⟨gb129, 0, none⟩) (Kd.R_types HO128.out BK129.out (by decide)) (fun _ hk => hk.2) (.int .u64 t117)) (fun _ hk => hk.2) (.string t118)) (fun _ hk => hk.2) (.int .u64 t119)) (fun _ hk => hk.2) (.slice Ao17 t120.length co17)) (fun _ hk => trivial)))⟩; have n2_ : Aside0 (w18.heap[gb115]? = some (.cells #[.int .u64 a0_0, .string a0_1, .int .u64 a0_2, .slice A0_3 l0_3.length c0_3] 25 (0, 0))) := ⟨(by rw [hw]; exact (by (repeat (first | (with_reducible first | refine blk_drewN ?_ _ | refine blk_drew ?_ | refine blk_alloc ?_ _) | refine blk_far ?_ NB115_129.out _)); exact BK115.out))⟩; have n3_ : Aside0 (w18.heap[gb116]? = some (.cells #[.int .u64 a1_0, .string a1_1, .int .u64 a1_2, .slice A1_3 l1_3.length c1_3] 25 (0, 0))) := ⟨(by rw [hw]; exact (by (repeat (first | (with_reducible first | refine blk_drewN ?_ _ | refine blk_drew ?_ | refine blk_alloc ?_ _) | refine blk_far ?_ NB116_129.out _)); exact BK116.out))⟩; have n4_ : Aside0 (w18.heap[gb129]? = some (.cells #[.int .u64 t117, .string t118, .int .u64 t119, .slice Ao17 t120.length co17] 25 (0, 0))) := ⟨(by rw [hw]; exact (by (with_reducible repeat (first | refine blk_drewN ?_ _ | refine blk_drew ?_ | refine blk_alloc ?_ _)); refine blk_put (cs := #[.int .u64 t117, .string t118, .int .u64 t119, .slice none 0 0]) ?_ 3 _ rfl; (with_reducible repeat (first | refine blk_drewN ?_ _ | refine blk_drew ?_ | refine blk_alloc ?_ _)); refine blk_put (cs := #[.int .u64 t117, .string t118, .int .u64 0, .slice none 0 0]) ?_ 2 _ rfl; (with_reducible repeat (first | refine blk_drewN ?_ _ | refine blk_drew ?_ | refine blk_alloc ?_ _)); refine blk_put (cs := #[.int .u64 t117, .string (⟨#[]⟩ : ByteArray), .int .u64 0, .slice none 0 0]) ?_ 1 _ rfl; (with_reducible repeat (first | refine blk_drewN ?_ _ | refine blk_drew ?_ | refine blk_alloc ?_ _)); refine blk_put (cs := #[.int .u64 0, .string (⟨#[]⟩ : ByteArray), .int .u64 0, .slice none 0 0]) ?_ 0 _ rfl; (with_reducible repeat (first | refine blk_drewN ?_ _ | refine blk_drew ?_ | refine blk_alloc ?_ _)); exact BK129.out))⟩; have n5_ : Aside0 (w18.heap[gb130]? = some (.cells #[.int .u64 0, .string (⟨#[]⟩ : ByteArray), .int .u64 0, .slice none 0 0] 28 (0, 0))) := ⟨(by rw [hw]; exact (by (repeat (first | (with_reducible first | refine blk_drewN ?_ _ | refine blk_drew ?_ | refine blk_alloc ?_ _) | refine blk_far ?_ NB130_129.out _)); exact BK130.out))⟩; have n6_ : Aside0 (Below w.heap.size w w18) := ⟨(by rw [hw]; exact (bh_ HB.out))⟩; clear hw; clear HO122; clear HO128; clear BK115; clear BK116; clear BK129; clear BK130; clear HB; have HO122 := n0_; have HO128 := n1_; have BK115 := n2_; have BK116 := n3_; have BK129 := n4_; have BK130 := n5_; have HB := n6_; clear n0_ n1_ n2_ n3_ n4_ n5_ n6_; have hnb19 := NB130_115.out; have hnc19 := NB115_130.out; have hnb20 := NB130_116.out; have hnc20 := NB116_130.out; obtain ⟨z21_0, z21_1, z21_2, z21_3, f21_0, f21_1, f21_2, f21_3⟩ := bc4_ BK130.out; obtain ⟨Ao22, co22, eo22⟩ := Kd.R_slice HO128.out; subst eo22) | ((with_reducible refine gate_store (t := 28) (p := 6) rfl ?_); refine store_event (t := 28) (p := 6) (v := ?vo_w23) (w1 := ((((w18.setCell ⟨gb130, 0, none⟩ (.int .u64 t123)).setCell ⟨gb130, 1, none⟩ (.string t124)).setCell ⟨gb130, 2, none⟩ (.int .u64 t125)).setCell ⟨gb130, 3, none⟩ (.slice Ao22 t126.length co22))) ?hg ?ho ?hn ?hr ?_; (case ho => rfl); (case hg => rfl); (case hn => rfl); (case hr => first | (go_simp; done) | (go_simp; rfl)); intro w23 hw; have n0_ : Aside0 (Kd.V k47 47 w23 w.heap.size (fun k_ => some k_ ≠ (.slice Ao22 t126.length co22 : Value).ownBlock ∧ k_ ≠ gb115 ∧ k_ ≠ gb116 ∧ k_ ≠ gb129 ∧ k_ ≠ gb130) (.slice Ao17 t120.length co17) t120) := ⟨(by rw [hw]; exact (by (with_reducible repeat (first | apply Kd.V_alloc | apply Kd.V_drewN | apply Kd.V_drew)); exact Kd.V_mono (Kd.V_far (p := ⟨gb130, 3, none⟩) (Kd.V_far (p := ⟨gb130, 2, none⟩) (Kd.V_far (p := ⟨gb130, 1, none⟩) (Kd.V_far (p := ⟨gb130, 0, none⟩) (Kd.V_mono HO122.out (fun k_ hk => (⟨hk, hk.2.2.2.2⟩ : _ ∧ k_ ≠ gb130))) (fun _ hk => hk.2) (.int .u64 t123)) (fun _ hk => hk.2) (.string t124)) (fun _ hk => hk.2) (.int .u64 t125)) (fun _ hk => hk.2) (.slice Ao22 t126.length co22)) (fun _ hk => ⟨hk.1.1, ⟨hk.1.2.1, ⟨hk.1.2.2.1, ⟨hk.1.2.2.2.1, hk.1.2.2.2.2⟩⟩⟩⟩)))⟩; have n1_ : Aside0 (Kd.R k44 44 w23 w.heap.size (fun _ => True) (.slice Ao22 t126.length co22) t126) := ⟨(by rw [hw]; exact (by (with_reducible repeat (first | apply Kd.R_alloc | apply Kd.R_drewN | apply Kd.R_drew)); exact Kd.R_mono (Kd.R_far (p := ⟨gb130, 3, none⟩) (Kd.R_far (p := ⟨gb130, 2, none⟩) (Kd.R_far (p := ⟨gb130, 1, none⟩) (Kd.R_far (p := ⟨gb130, 0, none⟩) (Kd.R_types HO128.out BK130.out (by decide)) (fun _ hk => hk.2) (.int .u64 t123)) (fun _ hk => hk.2) (.string t124)) (fun _ hk => hk.2) (.int .u64 t125)) (fun _ hk => hk.2) (.slice Ao22 t126.length co22)) (fun _ hk => trivial)))⟩; have n2_ : Aside0 (w23.heap[gb115]? = some (.cells #[.int .u64 a0_0, .string a0_1, .int .u64 a0_2, .slice A0_3 l0_3.length c0_3] 25 (0, 0))) := ⟨(by rw [hw]; exact (by (repeat (first | (with_reducible first | refine blk_drewN ?_ _ | refine blk_drew ?_ | refine blk_alloc ?_ _) | refine blk_far ?_ NB115_130.out _)); exact BK115.out))⟩; have n3_ : Aside0 (w23.heap[gb116]? = some (.cells #[.int .u64 a1_0, .string a1_1, .int .u64 a1_2, .slice A1_3 l1_3.length c1_3] 25 (0, 0))) := ⟨(by rw [hw]; exact (by (repeat (first | (with_reducible first | refine blk_drewN ?_ _ | refine blk_drew ?_ | refine blk_alloc ?_ _) | refine blk_far ?_ NB116_130.out _)); exact BK116.out))⟩; have n4_ : Aside0 (w23.heap[gb129]? = some (.cells #[.int .u64 t117, .string t118, .int .u64 t119, .slice Ao17 t120.length co17] 25 (0, 0))) := ⟨(by rw [hw]; exact (by (repeat (first | (with_reducible first | refine blk_drewN ?_ _ | refine blk_drew ?_ | refine blk_alloc ?_ _) | refine blk_far ?_ NB129_130.out _)); exact BK129.out))⟩; have n5_ : Aside0 (w23.heap[gb130]? = some (.cells #[.int .u64 t123, .string t124, .int .u64 t125, .slice Ao22 t126.length co22] 28 (0, 0))) := ⟨(by rw [hw]; exact (by (with_reducible repeat (first | refine blk_drewN ?_ _ | refine blk_drew ?_ | refine blk_alloc ?_ _)); refine blk_put (cs := #[.int .u64 t123, .string t124, .int .u64 t125, .slice none 0 0]) ?_ 3 _ rfl; (with_reducible repeat (first | refine blk_drewN ?_ _ | refine blk_drew ?_ | refine blk_alloc ?_ _)); refine blk_put (cs := #[.int .u64 t123, .string t124, .int .u64 0, .slice none 0 0]) ?_ 2 _ rfl; (with_reducible repeat (first | refine blk_drewN ?_ _ | refine blk_drew ?_ | refine blk_alloc ?_ _)); refine blk_put (cs := #[.int .u64 t123, .string (⟨#[]⟩ : ByteArray), .int .u64 0, .slice none 0 0]) ?_ 1 _ rfl; (with_reducible repeat (first | refine blk_drewN ?_ _ | refine blk_drew ?_ | refine blk_alloc ?_ _)); refine blk_put (cs := #[.int .u64 0, .string (⟨#[]⟩ : ByteArray), .int .u64 0, .slice none 0 0]) ?_ 0 _ rfl; (with_reducible repeat (first | refine blk_drewN ?_ _ | refine blk_drew ?_ | refine blk_alloc ?_ _)); exact BK130.out))⟩; have n6_ : Aside0 (Below w.heap.size w w23) := ⟨(by rw [hw]; exact (bh_ HB.out))⟩; clear hw; clear HO122; clear HO128; clear BK115; clear BK116; clear BK129; clear BK130; clear HB; have HO122 := n0_; have HO128 := n1_; have BK115 := n2_; have BK116 := n3_; have BK129 := n4_; have BK130 := n5_; have HB := n6_; clear n0_ n1_ n2_ n3_ n4_ n5_ n6_; obtain ⟨z24_0, z24_1, z24_2, z24_3, f24_0, f24_1, f24_2, f24_3⟩ := bc4_ BK116.out) | ((with_reducible refine gate_callee (f := 10) rfl ?_); refine goesL_ (some 18) rfl rfl Try.func10 (by kernel_rfl) rfl #[.agg #[.int .u64 a1_0, .string a1_1, .int .u64 a1_2, .slice A1_3 l1_3.length c1_3]] rfl (by (try simp only [List.map_toArray, List.map_cons, List.map_nil]); first | done | rfl | (simp only [List.length_drop, List.length_take]; rfl)) ?_; (with_reducible refine (Blk.law_Block.calls a1_0 a1_1 a1_2 (fun k_ => k_ < w.heap.size) _ _ l1_3 t131 t132 t133 t134 t137 t138 t139 t140 _ ?side1 A4.out).mono ?_); (case side1 => exact Kd.V_mk HC1_3.out (Kd.F_below (Kd.C_F k47_heap HR1_3.out) (bh_ HB.out))); rintro e w25 ⟨v135, v141, rfl, ho0, ho1, hb⟩; refine ⟨_, rfl, ?_⟩; have n0_ := Aside0.mk (Kd.V_elder' (by (with_reducible repeat (first | apply Kd.V_alloc | apply Kd.V_drewN | apply Kd.V_drew)); exact HO122.out) (Kd.R_base ho1) hb); have n1_ := Aside0.mk (Kd.R_elder' (br_ HO128.out) (Kd.R_base ho1) hb); have n2_ := Aside0.mk (Kd.V_lower (Kd.V_mono (ok' := fun k_ => some k_ ≠ (v141 : Value).ownBlock ∧ some k_ ≠ (.slice Ao22 t126.length co22 : Value).ownBlock ∧ k_ ≠ gb115 ∧ k_ ≠ gb116 ∧ k_ ≠ gb129 ∧ k_ ≠ gb130) ho0 (fun k_ hk_ => ⟨hk_.2, Or.elim hk_.1 (fun hs_ => fun e_ => Nat.not_le.2 hs_ (Kd.R_base HO128.out k_ e_.symm)) (fun hn_ => (Kd.fresh' (Kd.R_lt (br_ HO128.out)) k_ hn_)), Or.elim hk_.1 (fun hs_ => fun e_ => Nat.not_le.2 hs_ (by rw [e_]; exact GW115.out)) (fun hn_ => (Kd.freshB (g := gb115) (o := .cells #[.int .u64 a0_0, .string a0_1, .int .u64 a0_2, .slice A0_3 l0_3.length c0_3] 25 (0, 0)) (bq_ BK115.out) k_ hn_)), Or.elim hk_.1 (fun hs_ => fun e_ => Nat.not_le.2 hs_ (by rw [e_]; exact GW116.out)) (fun hn_ => (Kd.freshB (g := gb116) (o := .cells #[.int .u64 a1_0, .string a1_1, .int .u64 a1_2, .slice A1_3 l1_3.length c1_3] 25 (0, 0)) (bq_ BK116.out) k_ hn_)), Or.elim hk_.1 (fun hs_ => fun e_ => Nat.not_le.2 hs_ (by rw [e_]; exact GW129.out)) (fun hn_ => (Kd.freshB (g := gb129) (o := .cells #[.int .u64 t117, .string t118, .int .u64 t119, .slice Ao17 t120.length co17] 25 (0, 0)) (bq_ BK129.out) k_ hn_)), Or.elim hk_.1 (fun hs_ => fun e_ => Nat.not_le.2 hs_ (by rw [e_]; exact GW130.out)) (fun hn_ => (Kd.freshB (g := gb130) (o := .cells #[.int .u64 t123, .string t124, .int .u64 t125, .slice Ao22 t126.length co22] 28 (0, 0)) (bq_ BK130.out) k_ hn_))⟩)) (below_size (bh_ HB.out))); have n3_ := Aside0.mk (Kd.R_lower (Kd.R_new' (Kd.R_mono (ok' := fun k_ => True) ho1 (fun _ hk_ => trivial)) (Kd.R_lt (br_ HO128.out))) (below_size (bh_ HB.out))); have n4_ := Aside0.mk (bk_ BK115.out hb); have n5_ := Aside0.mk (bk_ BK116.out hb); have n6_ := Aside0.mk (bk_ BK129.out hb); have n7_ := Aside0.mk (bk_ BK130.out hb); have n8_ := Aside0.mk (below_step (bh_ HB.out) hb); clear HO122; clear HO128; clear BK115; clear BK116; clear BK129; clear BK130; clear HB; have HO122 := n0_; have HO128 := n1_; have HO136 := n2_; have HO142 := n3_; have BK115 := n4_; have BK116 := n5_; have BK129 := n6_; have BK130 := n7_; have HB := n8_; clear n0_ n1_ n2_ n3_ n4_ n5_ n6_ n7_ n8_; (try clear hb); (try clear ho0); (try clear ho1)) | ((with_reducible refine gate_dst (N := 7) rfl ?_); (try (refine gate_guard (by rfl) ?_; dsimp only)); refine box_event ?hg (N := 7) ?hd (cs := #[.int .u64 0, .string (⟨#[]⟩ : ByteArray), .int .u64 0, .slice none 0 0]) (t := 25) ?hr ?_; (case hd => rfl); (case hg => rfl); (case hr => first | (go_simp; done) | (go_simp; rfl)); intro gb143 hg w26 hbox hb; have n0_ := Aside0.mk (Kd.V_below (Kd.V_elderB (by (with_reducible repeat (first | apply Kd.V_alloc | apply Kd.V_drewN | apply Kd.V_drew)); exact HO122.out) gb143 (Nat.le_of_eq hg.symm)) hb); have n1_ := Aside0.mk (Kd.R_below (br_ HO128.out) hb); have n2_ := Aside0.mk (Kd.V_below (Kd.V_elderB (by (with_reducible repeat (first | apply Kd.V_alloc | apply Kd.V_drewN | apply Kd.V_drew)); exact HO136.out) gb143 (Nat.le_of_eq hg.symm)) hb); have n3_ := Aside0.mk (Kd.R_below (br_ HO142.out) hb); have n4_ := Aside0.mk (bk_ BK115.out hb); have n5_ := Aside0.mk (bk_ BK116.out hb); have n6_ := Aside0.mk (bk_ BK129.out hb); have n7_ := Aside0.mk (bk_ BK130.out hb); have n8_ := Aside0.mk (below_step (bh_ HB.out) hb); have n9_ := Aside0.mk (hbox); have n10_ := Aside0.mk ((by rw [hg]; exact (below_size (bh_ HB.out)) : w.heap.size ≤ gb143)); have n11_ := Aside0.mk ((by rw [hg]; exact (below_size (bh_ HB.out)) : w.heap.size ≤ gb143)); have n12_ := Aside0.mk ((by rw [hg]; exact Nat.ne_of_lt (blk_lt (g := gb115) (o := .cells #[.int .u64 a0_0, .string a0_1, .int .u64 a0_2, .slice A0_3 l0_3.length c0_3] 25 (0, 0)) (bq_ BK115.out)) : gb115 ≠ gb143)); have n13_ := Aside0.mk ((by rw [hg]; exact Nat.ne_of_gt (blk_lt (g := gb115) (o := .cells #[.int .u64 a0_0, .string a0_1, .int .u64 a0_2, .slice A0_3 l0_3.length c0_3] 25 (0, 0)) (bq_ BK115.out)) : gb143 ≠ gb115)); have n14_ := Aside0.mk ((by rw [hg]; exact Nat.ne_of_lt (blk_lt (g := gb116) (o := .cells #[.int .u64 a1_0, .string a1_1, .int .u64 a1_2, .slice A1_3 l1_3.length c1_3] 25 (0, 0)) (bq_ BK116.out)) : gb116 ≠ gb143)); have n15_ := Aside0.mk ((by rw [hg]; exact Nat.ne_of_gt (blk_lt (g := gb116) (o := .cells #[.int .u64 a1_0, .string a1_1, .int .u64 a1_2, .slice A1_3 l1_3.length c1_3] 25 (0, 0)) (bq_ BK116.out)) : gb143 ≠ gb116)); have n16_ := Aside0.mk ((by rw [hg]; exact Nat.ne_of_lt (blk_lt (g := gb129) (o := .cells #[.int .u64 t117, .string t118, .int .u64 t119, .slice Ao17 t120.length co17] 25 (0, 0)) (bq_ BK129.out)) : gb129 ≠ gb143)); have n17_ := Aside0.mk ((by rw [hg]; exact Nat.ne_of_gt (blk_lt (g := gb129) (o := .cells #[.int .u64 t117, .string t118, .int .u64 t119, .slice Ao17 t120.length co17] 25 (0, 0)) (bq_ BK129.out)) : gb143 ≠ gb129)); have n18_ := Aside0.mk ((by rw [hg]; exact Nat.ne_of_lt (blk_lt (g := gb130) (o := .cells #[.int .u64 t123, .string t124, .int .u64 t125, .slice Ao22 t126.length co22] 28 (0, 0)) (bq_ BK130.out)) : gb130 ≠ gb143)); have n19_ := Aside0.mk ((by rw [hg]; exact Nat.ne_of_gt (blk_lt (g := gb130) (o := .cells #[.int .u64 t123, .string t124, .int .u64 t125, .slice Ao22 t126.length co22] 28 (0, 0)) (bq_ BK130.out)) : gb143 ≠ gb130)); clear HO122; clear HO128; clear HO136; clear HO142; clear BK115; clear BK116; clear BK129; clear BK130; clear HB; have HO122 := n0_; have HO128 := n1_; have HO136 := n2_; have HO142 := n3_; have BK115 := n4_; have BK116 := n5_; have BK129 := n6_; have BK130 := n7_; have HB := n8_; have BK143 := n9_; have GW143 := n10_; have GE143 := n11_; have NB115_143 := n12_; have NB143_115 := n13_; have NB116_143 := n14_; have NB143_116 := n15_; have NB129_143 := n16_; have NB143_129 := n17_; have NB130_143 := n18_; have NB143_130 := n19_; clear n0_ n1_ n2_ n3_ n4_ n5_ n6_ n7_ n8_ n9_ n10_ n11_ n12_ n13_ n14_ n15_ n16_ n17_ n18_ n19_; clear hb hbox hg) | ((with_reducible refine gate_dst (N := 8) rfl ?_); (try (refine gate_guard (by rfl) ?_; dsimp only)); refine box_event ?hg (N := 8) ?hd (cs := #[.int .u64 0, .string (⟨#[]⟩ : ByteArray), .int .u64 0, .slice none 0 0]) (t := 28) ?hr ?_; (case hd => rfl); (case hg => rfl); (case hr => first | (go_simp; done) | (go_simp; rfl)); intro gb144 hg w27 hbox hb; have n0_ := Aside0.mk (Kd.V_below (Kd.V_elderB (by (with_reducible repeat (first | apply Kd.V_alloc | apply Kd.V_drewN | apply Kd.V_drew)); exact HO122.out) gb144 (Nat.le_of_eq hg.symm)) hb); have n1_ := Aside0.mk (Kd.R_below (br_ HO128.out) hb); have n2_ := Aside0.mk (Kd.V_below (Kd.V_elderB (by (with_reducible repeat (first | apply Kd.V_alloc | apply Kd.V_drewN | apply Kd.V_drew)); exact HO136.out) gb144 (Nat.le_of_eq hg.symm)) hb); have n3_ := Aside0.mk (Kd.R_below (br_ HO142.out) hb); have n4_ := Aside0.mk (bk_ BK115.out hb); have n5_ := Aside0.mk (bk_ BK116.out hb); have n6_ := Aside0.mk (bk_ BK129.out hb); have n7_ := Aside0.mk (bk_ BK130.out hb); have n8_ := Aside0.mk (bk_ BK143.out hb); have n9_ := Aside0.mk (below_step (bh_ HB.out) hb); have n10_ := Aside0.mk (hbox); have n11_ := Aside0.mk ((by rw [hg]; exact (below_size (bh_ HB.out)) : w.heap.size ≤ gb144)); have n12_ := Aside0.mk ((by rw [hg]; exact (below_size (bh_ HB.out)) : w.heap.size ≤ gb144)); have n13_ := Aside0.mk ((by rw [hg]; exact Nat.ne_of_lt (blk_lt (g := gb115) (o := .cells #[.int .u64 a0_0, .string a0_1, .int .u64 a0_2, .slice A0_3 l0_3.length c0_3] 25 (0, 0)) (bq_ BK115.out)) : gb115 ≠ gb144)); have n14_ := Aside0.mk ((by rw [hg]; exact Nat.ne_of_gt (blk_lt (g := gb115) (o := .cells #[.int .u64 a0_0, .string a0_1, .int .u64 a0_2, .slice A0_3 l0_3.length c0_3] 25 (0, 0)) (bq_ BK115.out)) : gb144 ≠ gb115)); have n15_ := Aside0.mk ((by rw [hg]; exact Nat.ne_of_lt (blk_lt (g := gb116) (o := .cells #[.int .u64 a1_0, .string a1_1, .int .u64 a1_2, .slice A1_3 l1_3.length c1_3] 25 (0, 0)) (bq_ BK116.out)) : gb116 ≠ gb144)); have n16_ := Aside0.mk ((by rw [hg]; exact Nat.ne_of_gt (blk_lt (g := gb116) (o := .cells #[.int .u64 a1_0, .string a1_1, .int .u64 a1_2, .slice A1_3 l1_3.length c1_3] 25 (0, 0)) (bq_ BK116.out)) : gb144 ≠ gb116)); have n17_ := Aside0.mk ((by rw [hg]; exact Nat.ne_of_lt (blk_lt (g := gb129) (o := .cells #[.int .u64 t117, .string t118, .int .u64 t119, .slice Ao17 t120.length co17] 25 (0, 0)) (bq_ BK129.out)) : gb129 ≠ gb144)); have n18_ := Aside0.mk ((by rw [hg]; exact Nat.ne_of_gt (blk_lt (g := gb129) (o := .cells #[.int .u64 t117, .string t118, .int .u64 t119, .slice Ao17 t120.length co17] 25 (0, 0)) (bq_ BK129.out)) : gb144 ≠ gb129)); have n19_ := Aside0.mk ((by rw [hg]; exact Nat.ne_of_lt (blk_lt (g := gb130) (o := .cells #[.int .u64 t123, .string t124, .int .u64 t125, .slice Ao22 t126.length co22] 28 (0, 0)) (bq_ BK130.out)) : gb130 ≠ gb144)); have n20_ := Aside0.mk ((by rw [hg]; exact Nat.ne_of_gt (blk_lt (g := gb130) (o := .cells #[.int .u64 t123, .string t124, .int .u64 t125, .slice Ao22 t126.length co22] 28 (0, 0)) (bq_ BK130.out)) : gb144 ≠ gb130)); have n21_ := Aside0.mk ((by rw [hg]; exact Nat.ne_of_lt (blk_lt (g := gb143) (o := .cells #[.int .u64 0, .string (⟨#[]⟩ : ByteArray), .int .u64 0, .slice none 0 0] 25 (0, 0)) (bq_ BK143.out)) : gb143 ≠ gb144)); have n22_ := Aside0.mk ((by rw [hg]; exact Nat.ne_of_gt (blk_lt (g := gb143) (o := .cells #[.int .u64 0, .string (⟨#[]⟩ : ByteArray), .int .u64 0, .slice none 0 0] 25 (0, 0)) (bq_ BK143.out)) : gb144 ≠ gb143)); clear HO122; clear HO128; clear HO136; clear HO142; clear BK115; clear BK116; clear BK129; clear BK130; clear BK143; clear HB; have HO122 := n0_; have HO128 := n1_; have HO136 := n2_; have HO142 := n3_; have BK115 := n4_; have BK116 := n5_; have BK129 := n6_; have BK130 := n7_; have BK143 := n8_; have HB := n9_; have BK144 := n10_; have GW144 := n11_; have GE144 := n12_; have NB115_144 := n13_; have NB144_115 := n14_; have NB116_144 := n15_; have NB144_116 := n16_; have NB129_144 := n17_; have NB144_129 := n18_; have NB130_144 := n19_; have NB144_130 := n20_; have NB143_144 := n21_; have NB144_143 := n22_; clear n0_ n1_ n2_ n3_ n4_ n5_ n6_ n7_ n8_ n9_ n10_ n11_ n12_ n13_ n14_ n15_ n16_ n17_ n18_ n19_ n20_ n21_ n22_; clear hb hbox hg; have hnb28 := NB143_115.out; have hnc28 := NB115_143.out; have hnb29 := NB143_116.out; have hnc29 := NB116_143.out; have hnb30 := NB143_129.out; have hnc30 := NB129_143.out; have hnb31 := NB143_130.out; have hnc31 := NB130_143.out; have hnb32 := NB143_144.out; have hnc32 := NB144_143.out; obtain ⟨z33_0, z33_1, z33_2, z33_3, f33_0, f33_1, f33_2, f33_3⟩ := bc4_ BK143.out; obtain ⟨Ao34, co34, eo34⟩ := Kd.V_slice HO136.out; subst eo34; have hnb35 := NB144_115.out; have hnc35 := NB115_144.out; have hnb36 := NB144_116.out; have hnc36 := NB116_144.out; have hnb37 := NB144_129.out; have hnc37 := NB129_144.out; have hnb38 := NB144_130.out; have hnc38 := NB130_144.out; obtain ⟨z39_0, z39_1, z39_2, z39_3, f39_0, f39_1, f39_2, f39_3⟩ := bc4_ BK144.out; obtain ⟨Ao40, co40, eo40⟩ := Kd.R_slice HO142.out; subst eo40))
 (try simp only [Act.put, q1_, q2_, q3_])
 go_cut [48] (fun v48 wc => ∃ (kq : Nat) (x48_4 : Bool), v48 = .bool x48_4 ∧ Aside0 (parchmentlaw09_BlockUnlike.j0 kq x48_4 t117 t118 t119 t120 t123 t124 t125 t126 t131 t132 t133 t134 t137 t138 t139 t140 = some r) ∧ Aside0 (kq ≤ k) ∧ Aside0 (Kd.V k47 47 wc w.heap.size (fun k_ => some k_ ≠ ((.slice Ao22 t126.length co22) : Value).ownBlock ∧ some k_ ≠ ((.slice Ao40 t140.length co40) : Value).ownBlock ∧ k_ ≠ gb115 ∧ k_ ≠ gb116 ∧ k_ ≠ gb129 ∧ k_ ≠ gb130 ∧ k_ ≠ gb143 ∧ k_ ≠ gb144) (.slice Ao17 t120.length co17) t120) ∧ Aside0 (Kd.R k44 44 wc w.heap.size (fun k_ => some k_ ≠ ((.slice Ao40 t140.length co40) : Value).ownBlock) (.slice Ao22 t126.length co22) t126) ∧ Aside0 (Kd.V k47 47 wc w.heap.size (fun k_ => some k_ ≠ ((.slice Ao22 t126.length co22) : Value).ownBlock ∧ some k_ ≠ ((.slice Ao40 t140.length co40) : Value).ownBlock ∧ k_ ≠ gb115 ∧ k_ ≠ gb116 ∧ k_ ≠ gb129 ∧ k_ ≠ gb130 ∧ k_ ≠ gb143 ∧ k_ ≠ gb144) (.slice Ao34 t134.length co34) t134) ∧ Aside0 (Kd.R k44 44 wc w.heap.size (fun k_ => some k_ ≠ ((.slice Ao22 t126.length co22) : Value).ownBlock) (.slice Ao40 t140.length co40) t140) ∧ Aside0 (wc.heap[gb115]? = some (.cells #[.int .u64 a0_0, .string a0_1, .int .u64 a0_2, (.slice A0_3 l0_3.length c0_3)] 25 (0, 0))) ∧ Aside0 (wc.heap[gb116]? = some (.cells #[.int .u64 a1_0, .string a1_1, .int .u64 a1_2, (.slice A1_3 l1_3.length c1_3)] 25 (0, 0))) ∧ Aside0 (wc.heap[gb129]? = some (.cells #[.int .u64 t117, .string t118, .int .u64 t119, (.slice Ao17 t120.length co17)] 25 (0, 0))) ∧ Aside0 (wc.heap[gb130]? = some (.cells #[.int .u64 t123, .string t124, .int .u64 t125, (.slice Ao22 t126.length co22)] 28 (0, 0))) ∧ Aside0 (wc.heap[gb143]? = some (.cells #[.int .u64 t131, .string t132, .int .u64 t133, (.slice Ao34 t134.length co34)] 25 (0, 0))) ∧ Aside0 (wc.heap[gb144]? = some (.cells #[.int .u64 t137, .string t138, .int .u64 t139, (.slice Ao40 t140.length co40)] 28 (0, 0))) ∧ Aside0 (Below w.heap.size w wc))
 case first =>
  have H := HC5.out
  clear HC5
  replace H := Option.bind_eq_some_iff.mp H
  obtain ⟨t145, A410, H⟩ := H
  replace H : (if t145 = 0 then ((PMk.parchmentref09_Follows.f k t137 t138 t139 t140 t137 t138).bind fun t146 => (if t146 = 0 then (if (t124.size : Int) > 32 then (parchmentlaw09_BlockUnlike.j0 k true t117 t118 t119 t120 t123 t124 t125 t126 t131 t132 t133 t134 t137 t138 t139 t140) else (parchmentlaw09_BlockUnlike.j0 k (decide ((t138.size : Int) > 32)) t117 t118 t119 t120 t123 t124 t125 t126 t131 t132 t133 t134 t137 t138 t139 t140)) else (parchmentlaw09_BlockUnlike.j0 k true t117 t118 t119 t120 t123 t124 t125 t126 t131 t132 t133 t134 t137 t138 t139 t140))) else (parchmentlaw09_BlockUnlike.j0 k true t117 t118 t119 t120 t123 t124 t125 t126 t131 t132 t133 t134 t137 t138 t139 t140)) = some r := H
  have A41 := Aside0.mk A410
  clear A410
  by_cases c42 : t145 = 0
  ·rw [if_pos c42] at H
   have c42b0 : (t145 == 0) = true := beq_iff_eq.mpr c42
   have c42b1 : (t145 != 0) = false := bne_eq_false_iff_eq.mpr c42
   clear c42
   (first | rw [c42b0] | (simp only [i64_w, i32_w]; rw [c42b0]) | skip)
   replace H := Option.bind_eq_some_iff.mp H
   obtain ⟨t146, A430, H⟩ := H
   replace H : (if t146 = 0 then (if (t124.size : Int) > 32 then (parchmentlaw09_BlockUnlike.j0 k true t117 t118 t119 t120 t123 t124 t125 t126 t131 t132 t133 t134 t137 t138 t139 t140) else (parchmentlaw09_BlockUnlike.j0 k (decide ((t138.size : Int) > 32)) t117 t118 t119 t120 t123 t124 t125 t126 t131 t132 t133 t134 t137 t138 t139 t140)) else (parchmentlaw09_BlockUnlike.j0 k true t117 t118 t119 t120 t123 t124 t125 t126 t131 t132 t133 t134 t137 t138 t139 t140)) = some r := H
   have A43 := Aside0.mk A430
   clear A430
   by_cases c44 : t146 = 0
   ·rw [if_pos c44] at H
    have c44b0 : (t146 == 0) = true := beq_iff_eq.mpr c44
    have c44b1 : (t146 != 0) = false := bne_eq_false_iff_eq.mpr c44
    clear c44
    by_cases c45 : (t124.size : Int) > 32
    ·rw [if_pos c45] at H
     have c45b0 : decide (32 < (t124.size : Int)) = true := decide_eq_true c45
     have c45b1 : decide (32 < t124.size) = true := decide_eq_true (by omega)
     clear c45
     have H' := Aside0.mk H
     clear H
     have hnb46 := NB130_115.out
     have hnc46 := NB115_130.out
     have hnb47 := NB130_116.out
     have hnc47 := NB116_130.out
     have hnb48 := NB130_129.out
     have hnc48 := NB129_130.out
     have hnb49 := NB130_143.out
     have hnc49 := NB143_130.out
     have hnb50 := NB130_144.out
     have hnc50 := NB144_130.out
     obtain ⟨z51_0, z51_1, z51_2, z51_3, f51_0, f51_1, f51_2, f51_3⟩ := bc4_ BK130.out
     go_wp2_with (first | ((with_reducible refine gate_callee (f := 11) rfl ?_); refine goesL_ (some 26) rfl rfl Try.func11 (by kernel_rfl) rfl #[.agg #[.int .u64 t123, .string t124, .int .u64 t125, .slice Ao22 t126.length co22], .int .u64 t123, .string t124] rfl (by (try simp only [List.map_toArray, List.map_cons, List.map_nil]); first | done | rfl | (simp only [List.length_drop, List.length_take]; rfl)) ?_; (with_reducible refine (PMk.parchmentref09_Follows.calls k t123 t124 t125 _ _ t126 t123 t124 t145 _ ?side1 ?side2 A41.out).mono ?_); (case side1 => refine (Kd.R_reads' (e := 44) (base := w.heap.size) (ok := fun k_ => (True ∧ some k_ ≠ (.slice Ao40 t140.length co40 : Value).ownBlock)) (n := t126.length) (c := co22) ?_).2.2; exact (by (with_reducible repeat (first | apply Kd.R_alloc | apply Kd.R_drewN | apply Kd.R_drew)); exact (Kd.R_mono (Kd.R_mono (Kd.R_far (p := ⟨gb144, 3, none⟩) (Kd.R_far (p := ⟨gb144, 2, none⟩) (Kd.R_far (p := ⟨gb144, 1, none⟩) (Kd.R_far (p := ⟨gb144, 0, none⟩) (Kd.R_far (p := ⟨gb143, 3, none⟩) (Kd.R_far (p := ⟨gb143, 2, none⟩) (Kd.R_far (p := ⟨gb143, 1, none⟩) (Kd.R_far (p := ⟨gb143, 0, none⟩) (Kd.R_types (Kd.R_types HO128.out BK143.out (by decide)) BK144.out (by decide)) (fun _ hk => hk.1.2) (.int .u64 t131)) (fun _ hk => hk.1.2) (.string t132)) (fun _ hk => hk.1.2) (.int .u64 t133)) (fun _ hk => hk.1.2) (.slice Ao34 t134.length co34)) (fun _ hk => hk.2) (.int .u64 t137)) (fun _ hk => hk.2) (.string t138)) (fun _ hk => hk.2) (.int .u64 t139)) (fun _ hk => hk.2) (.slice Ao40 t140.length co40)) (fun _ h_ => h_.1)) (fun _ h_ => h_.1)))); (case side2 => exact (Kd.R_reads' HO128.out).2.1); rintro e w52 ⟨rfl, hb⟩; refine ⟨_, rfl, ?_⟩; replace HO122 := Aside0.mk (Kd.V_below (by (with_reducible repeat (first | apply Kd.V_alloc | apply Kd.V_drewN | apply Kd.V_drew)); exact (Kd.V_mono (Kd.V_mono (Kd.V_far (p := ⟨gb144, 3, none⟩) (Kd.V_far (p := ⟨gb144, 2, none⟩) (Kd.V_far (p := ⟨gb144, 1, none⟩) (Kd.V_far (p := ⟨gb144, 0, none⟩) (Kd.V_far (p := ⟨gb143, 3, none⟩) (Kd.V_far (p := ⟨gb143, 2, none⟩) (Kd.V_far (p := ⟨gb143, 1, none⟩) (Kd.V_far (p := ⟨gb143, 0, none⟩) (Kd.V_mono (Kd.V_mono HO122.out (fun k_ hk => (⟨hk, hk.1.2⟩ : _ ∧ k_ ≠ gb143))) (fun k_ hk => (⟨hk, hk.1.2⟩ : _ ∧ k_ ≠ gb144))) (fun _ hk => hk.1.2) (.int .u64 t131)) (fun _ hk => hk.1.2) (.string t132)) (fun _ hk => hk.1.2) (.int .u64 t133)) (fun _ hk => hk.1.2) (.slice Ao34 t134.length co34)) (fun _ hk => hk.2) (.int .u64 t137)) (fun _ hk => hk.2) (.string t138)) (fun _ hk => hk.2) (.int .u64 t139)) (fun _ hk => hk.2) (.slice Ao40 t140.length co40)) (fun _ h_ => h_.1)) (fun _ h_ => h_.1))) hb); replace HO128 := Aside0.mk (Kd.R_below (by (with_reducible repeat (first | apply Kd.R_alloc | apply Kd.R_drewN | apply Kd.R_drew)); exact (Kd.R_mono (Kd.R_mono (Kd.R_far (p := ⟨gb144, 3, none⟩) (Kd.R_far (p := ⟨gb144, 2, none⟩) (Kd.R_far (p := ⟨gb144, 1, none⟩) (Kd.R_far (p := ⟨gb144, 0, none⟩) (Kd.R_far (p := ⟨gb143, 3, none⟩) (Kd.R_far (p := ⟨gb143, 2, none⟩) (Kd.R_far (p := ⟨gb143, 1, none⟩) (Kd.R_far (p := ⟨gb143, 0, none⟩) (Kd.R_types (Kd.R_types HO128.out BK143.out (by decide)) BK144.out (by decide)) (fun _ hk => hk.1.2) (.int .u64 t131)) (fun _ hk => hk.1.2) (.string t132)) (fun _ hk => hk.1.2) (.int .u64 t133)) (fun _ hk => hk.1.2) (.slice Ao34 t134.length co34)) (fun _ hk => hk.2) (.int .u64 t137)) (fun _ hk => hk.2) (.string t138)) (fun _ hk => hk.2) (.int .u64 t139)) (fun _ hk => hk.2) (.slice Ao40 t140.length co40)) (fun _ h_ => h_.1)) (fun _ h_ => h_.1))) hb); replace HO136 := Aside0.mk (Kd.V_below (by (with_reducible repeat (first | apply Kd.V_alloc | apply Kd.V_drewN | apply Kd.V_drew)); exact (Kd.V_mono (Kd.V_mono (Kd.V_far (p := ⟨gb144, 3, none⟩) (Kd.V_far (p := ⟨gb144, 2, none⟩) (Kd.V_far (p := ⟨gb144, 1, none⟩) (Kd.V_far (p := ⟨gb144, 0, none⟩) (Kd.V_far (p := ⟨gb143, 3, none⟩) (Kd.V_far (p := ⟨gb143, 2, none⟩) (Kd.V_far (p := ⟨gb143, 1, none⟩) (Kd.V_far (p := ⟨gb143, 0, none⟩) (Kd.V_mono (Kd.V_mono HO136.out (fun k_ hk => (⟨hk, hk.1.2⟩ : _ ∧ k_ ≠ gb143))) (fun k_ hk => (⟨hk, hk.1.2⟩ : _ ∧ k_ ≠ gb144))) (fun _ hk => hk.1.2) (.int .u64 t131)) (fun _ hk => hk.1.2) (.string t132)) (fun _ hk => hk.1.2) (.int .u64 t133)) (fun _ hk => hk.1.2) (.slice Ao34 t134.length co34)) (fun _ hk => hk.2) (.int .u64 t137)) (fun _ hk => hk.2) (.string t138)) (fun _ hk => hk.2) (.int .u64 t139)) (fun _ hk => hk.2) (.slice Ao40 t140.length co40)) (fun _ h_ => h_.1)) (fun _ h_ => h_.1))) hb); replace HO142 := Aside0.mk (Kd.R_below (by (with_reducible repeat (first | apply Kd.R_alloc | apply Kd.R_drewN | apply Kd.R_drew)); exact (Kd.R_mono (Kd.R_mono (Kd.R_far (p := ⟨gb144, 3, none⟩) (Kd.R_far (p := ⟨gb144, 2, none⟩) (Kd.R_far (p := ⟨gb144, 1, none⟩) (Kd.R_far (p := ⟨gb144, 0, none⟩) (Kd.R_far (p := ⟨gb143, 3, none⟩) (Kd.R_far (p := ⟨gb143, 2, none⟩) (Kd.R_far (p := ⟨gb143, 1, none⟩) (Kd.R_far (p := ⟨gb143, 0, none⟩) (Kd.R_types (Kd.R_types HO142.out BK143.out (by decide)) BK144.out (by decide)) (fun _ hk => hk.1.2) (.int .u64 t131)) (fun _ hk => hk.1.2) (.string t132)) (fun _ hk => hk.1.2) (.int .u64 t133)) (fun _ hk => hk.1.2) (.slice Ao34 t134.length co34)) (fun _ hk => hk.2) (.int .u64 t137)) (fun _ hk => hk.2) (.string t138)) (fun _ hk => hk.2) (.int .u64 t139)) (fun _ hk => hk.2) (.slice Ao40 t140.length co40)) (fun _ h_ => h_.1)) (fun _ h_ => h_.1))) hb); replace BK115 := Aside0.mk (blk_below (g := gb115) (o := .cells #[.int .u64 a0_0, .string a0_1, .int .u64 a0_2, .slice A0_3 l0_3.length c0_3] 25 (0, 0)) (by (repeat (first | (with_reducible first | refine blk_drewN ?_ _ | refine blk_drew ?_ | refine blk_alloc ?_ _) | refine blk_far ?_ NB115_144.out _ | refine blk_far ?_ NB115_143.out _)); exact BK115.out) hb); replace BK116 := Aside0.mk (blk_below (g := gb116) (o := .cells #[.int .u64 a1_0, .string a1_1, .int .u64 a1_2, .slice A1_3 l1_3.length c1_3] 25 (0, 0)) (by (repeat (first | (with_reducible first | refine blk_drewN ?_ _ | refine blk_drew ?_ | refine blk_alloc ?_ _) | refine blk_far ?_ NB116_144.out _ | refine blk_far ?_ NB116_143.out _)); exact BK116.out) hb); replace BK129 := Aside0.mk (blk_below (g := gb129) (o := .cells #[.int .u64 t117, .string t118, .int .u64 t119, .slice Ao17 t120.length co17] 25 (0, 0)) (by (repeat (first | (with_reducible first | refine blk_drewN ?_ _ | refine blk_drew ?_ | refine blk_alloc ?_ _) | refine blk_far ?_ NB129_144.out _ | refine blk_far ?_ NB129_143.out _)); exact BK129.out) hb); replace BK130 := Aside0.mk (blk_below (g := gb130) (o := .cells #[.int .u64 t123, .string t124, .int .u64 t125, .slice Ao22 t126.length co22] 28 (0, 0)) (by (repeat (first | (with_reducible first | refine blk_drewN ?_ _ | refine blk_drew ?_ | refine blk_alloc ?_ _) | refine blk_far ?_ NB130_144.out _ | refine blk_far ?_ NB130_143.out _)); exact BK130.out) hb); replace BK143 := Aside0.mk (blk_below (g := gb143) (o := .cells #[.int .u64 t131, .string t132, .int .u64 t133, .slice Ao34 t134.length co34] 25 (0, 0)) (by (repeat (first | (with_reducible first | refine blk_drewN ?_ _ | refine blk_drew ?_ | refine blk_alloc ?_ _) | refine blk_far ?_ NB143_144.out _)); refine blk_put (cs := #[.int .u64 t131, .string t132, .int .u64 t133, .slice none 0 0]) ?_ 3 _ rfl; (with_reducible repeat (first | refine blk_drewN ?_ _ | refine blk_drew ?_ | refine blk_alloc ?_ _)); refine blk_put (cs := #[.int .u64 t131, .string t132, .int .u64 0, .slice none 0 0]) ?_ 2 _ rfl; (with_reducible repeat (first | refine blk_drewN ?_ _ | refine blk_drew ?_ | refine blk_alloc ?_ _)); refine blk_put (cs := #[.int .u64 t131, .string (⟨#[]⟩ : ByteArray), .int .u64 0, .slice none 0 0]) ?_ 1 _ rfl; (with_reducible repeat (first | refine blk_drewN ?_ _ | refine blk_drew ?_ | refine blk_alloc ?_ _)); refine blk_put (cs := #[.int .u64 0, .string (⟨#[]⟩ : ByteArray), .int .u64 0, .slice none 0 0]) ?_ 0 _ rfl; (with_reducible repeat (first | refine blk_drewN ?_ _ | refine blk_drew ?_ | refine blk_alloc ?_ _)); exact BK143.out) hb); replace BK144 := Aside0.mk (blk_below (g := gb144) (o := .cells #[.int .u64 t137, .string t138, .int .u64 t139, .slice Ao40 t140.length co40] 28 (0, 0)) (by (with_reducible repeat (first | refine blk_drewN ?_ _ | refine blk_drew ?_ | refine blk_alloc ?_ _)); refine blk_put (cs := #[.int .u64 t137, .string t138, .int .u64 t139, .slice none 0 0]) ?_ 3 _ rfl; (with_reducible repeat (first | refine blk_drewN ?_ _ | refine blk_drew ?_ | refine blk_alloc ?_ _)); refine blk_put (cs := #[.int .u64 t137, .string t138, .int .u64 0, .slice none 0 0]) ?_ 2 _ rfl; (with_reducible repeat (first | refine blk_drewN ?_ _ | refine blk_drew ?_ | refine blk_alloc ?_ _)); refine blk_put (cs := #[.int .u64 t137, .string (⟨#[]⟩ : ByteArray), .int .u64 0, .slice none 0 0]) ?_ 1 _ rfl; (with_reducible repeat (first | refine blk_drewN ?_ _ | refine blk_drew ?_ | refine blk_alloc ?_ _)); refine blk_put (cs := #[.int .u64 0, .string (⟨#[]⟩ : ByteArray), .int .u64 0, .slice none 0 0]) ?_ 0 _ rfl; (repeat (first | (with_reducible first | refine blk_drewN ?_ _ | refine blk_drew ?_ | refine blk_alloc ?_ _) | refine blk_far ?_ NB144_143.out _)); exact BK144.out) hb); replace HB := Aside0.mk (below_step (bh_ HB.out) hb); (try clear hb); have hnb53 := NB144_115.out; have hnc53 := NB115_144.out; have hnb54 := NB144_116.out; have hnc54 := NB116_144.out; have hnb55 := NB144_129.out; have hnc55 := NB129_144.out; have hnb56 := NB144_143.out; have hnc56 := NB143_144.out; obtain ⟨z57_0, z57_1, z57_2, z57_3, f57_0, f57_1, f57_2, f57_3⟩ := bc4_ BK144.out) | (go_at_call 11; (with_reducible refine (PMk.parchmentref09_Follows.calls k t137 t138 t139 _ _ t140 t137 t138 t146 _ ?side1 ?side2 A43.out).mono ?_); (case side1 => repeat (first | exact (Kd.R_reads' HO142.out).2.2 | (with_reducible refine Kd.C_alloc ?_ _) | (with_reducible refine Kd.C_drewN ?_ _) | (with_reducible refine Kd.C_drew ?_))); (case side2 => exact (Kd.R_reads' HO142.out).2.1); rintro e w58 ⟨rfl, hb⟩; replace HO122 := Aside0.mk (Kd.V_below (by (with_reducible repeat (first | apply Kd.V_alloc | apply Kd.V_drewN | apply Kd.V_drew)); exact HO122.out) hb); replace HO128 := Aside0.mk (Kd.R_below (br_ HO128.out) hb); replace HO136 := Aside0.mk (Kd.V_below (by (with_reducible repeat (first | apply Kd.V_alloc | apply Kd.V_drewN | apply Kd.V_drew)); exact HO136.out) hb); replace HO142 := Aside0.mk (Kd.R_below (br_ HO142.out) hb); replace BK115 := Aside0.mk (bk_ BK115.out hb); replace BK116 := Aside0.mk (bk_ BK116.out hb); replace BK129 := Aside0.mk (bk_ BK129.out hb); replace BK130 := Aside0.mk (bk_ BK130.out hb); replace BK143 := Aside0.mk (bk_ BK143.out hb); replace BK144 := Aside0.mk (bk_ BK144.out hb); replace HB := Aside0.mk (below_step (bh_ HB.out) hb); (try clear hb); obtain ⟨z59_0, z59_1, z59_2, z59_3, f59_0, f59_1, f59_2, f59_3⟩ := bc4_ BK130.out))
     go_meet
     case rel => exact ⟨_, (true), (by first | rfl | (simp; done) | (simp [*]; done)), H', ⟨by first | omega | exact Nat.le_refl _⟩, ⟨by (with_reducible repeat (first | apply Kd.V_alloc | apply Kd.V_drewN | apply Kd.V_drew)); exact Kd.V_mono HO122.out (fun _ hk => ⟨hk.1.1.1.1, ⟨hk.1.1.2, ⟨hk.1.1.1.2.1, ⟨hk.1.1.1.2.2.1, ⟨hk.1.1.1.2.2.2.1, ⟨hk.1.1.1.2.2.2.2, ⟨hk.1.2, hk.2⟩⟩⟩⟩⟩⟩⟩)⟩, ⟨by (with_reducible repeat (first | apply Kd.R_alloc | apply Kd.R_drewN | apply Kd.R_drew)); exact Kd.R_mono HO128.out (fun _ hk => hk.2)⟩, ⟨by (with_reducible repeat (first | apply Kd.V_alloc | apply Kd.V_drewN | apply Kd.V_drew)); exact Kd.V_mono HO136.out (fun _ hk => ⟨hk.1.1.2.1, ⟨hk.1.1.1, ⟨hk.1.1.2.2.1, ⟨hk.1.1.2.2.2.1, ⟨hk.1.1.2.2.2.2.1, ⟨hk.1.1.2.2.2.2.2, ⟨hk.1.2, hk.2⟩⟩⟩⟩⟩⟩⟩)⟩, ⟨by (with_reducible repeat (first | apply Kd.R_alloc | apply Kd.R_drewN | apply Kd.R_drew)); exact Kd.R_mono HO142.out (fun _ hk => hk.2)⟩, ⟨bq_ BK115.out⟩, ⟨bq_ BK116.out⟩, ⟨bq_ BK129.out⟩, ⟨bq_ BK130.out⟩, ⟨bq_ BK143.out⟩, ⟨bq_ BK144.out⟩, ⟨bh_ HB.out⟩⟩
    ·rw [if_neg c45] at H
     have c45b0 : decide (32 < (t124.size : Int)) = false := decide_eq_false c45
     have c45b1 : decide (32 < t124.size) = false := decide_eq_false (by omega)
     clear c45
     have H' := Aside0.mk H
     clear H
     have hnb60 := NB130_115.out
     have hnc60 := NB115_130.out
     have hnb61 := NB130_116.out
     have hnc61 := NB116_130.out
     have hnb62 := NB130_129.out
     have hnc62 := NB129_130.out
     have hnb63 := NB130_143.out
     have hnc63 := NB143_130.out
     have hnb64 := NB130_144.out
     have hnc64 := NB144_130.out
     obtain ⟨z65_0, z65_1, z65_2, z65_3, f65_0, f65_1, f65_2, f65_3⟩ := bc4_ BK130.out
     go_wp2_with (first | ((with_reducible refine gate_callee (f := 11) rfl ?_); refine goesL_ (some 26) rfl rfl Try.func11 (by kernel_rfl) rfl #[.agg #[.int .u64 t123, .string t124, .int .u64 t125, .slice Ao22 t126.length co22], .int .u64 t123, .string t124] rfl (by (try simp only [List.map_toArray, List.map_cons, List.map_nil]); first | done | rfl | (simp only [List.length_drop, List.length_take]; rfl)) ?_; (with_reducible refine (PMk.parchmentref09_Follows.calls k t123 t124 t125 _ _ t126 t123 t124 t145 _ ?side1 ?side2 A41.out).mono ?_); (case side1 => refine (Kd.R_reads' (e := 44) (base := w.heap.size) (ok := fun k_ => (True ∧ some k_ ≠ (.slice Ao40 t140.length co40 : Value).ownBlock)) (n := t126.length) (c := co22) ?_).2.2; exact (by (with_reducible repeat (first | apply Kd.R_alloc | apply Kd.R_drewN | apply Kd.R_drew)); exact (Kd.R_mono (Kd.R_mono (Kd.R_far (p := ⟨gb144, 3, none⟩) (Kd.R_far (p := ⟨gb144, 2, none⟩) (Kd.R_far (p := ⟨gb144, 1, none⟩) (Kd.R_far (p := ⟨gb144, 0, none⟩) (Kd.R_far (p := ⟨gb143, 3, none⟩) (Kd.R_far (p := ⟨gb143, 2, none⟩) (Kd.R_far (p := ⟨gb143, 1, none⟩) (Kd.R_far (p := ⟨gb143, 0, none⟩) (Kd.R_types (Kd.R_types HO128.out BK143.out (by decide)) BK144.out (by decide)) (fun _ hk => hk.1.2) (.int .u64 t131)) (fun _ hk => hk.1.2) (.string t132)) (fun _ hk => hk.1.2) (.int .u64 t133)) (fun _ hk => hk.1.2) (.slice Ao34 t134.length co34)) (fun _ hk => hk.2) (.int .u64 t137)) (fun _ hk => hk.2) (.string t138)) (fun _ hk => hk.2) (.int .u64 t139)) (fun _ hk => hk.2) (.slice Ao40 t140.length co40)) (fun _ h_ => h_.1)) (fun _ h_ => h_.1)))); (case side2 => exact (Kd.R_reads' HO128.out).2.1); rintro e w66 ⟨rfl, hb⟩; refine ⟨_, rfl, ?_⟩; replace HO122 := Aside0.mk (Kd.V_below (by (with_reducible repeat (first | apply Kd.V_alloc | apply Kd.V_drewN | apply Kd.V_drew)); exact (Kd.V_mono (Kd.V_mono (Kd.V_far (p := ⟨gb144, 3, none⟩) (Kd.V_far (p := ⟨gb144, 2, none⟩) (Kd.V_far (p := ⟨gb144, 1, none⟩) (Kd.V_far (p := ⟨gb144, 0, none⟩) (Kd.V_far (p := ⟨gb143, 3, none⟩) (Kd.V_far (p := ⟨gb143, 2, none⟩) (Kd.V_far (p := ⟨gb143, 1, none⟩) (Kd.V_far (p := ⟨gb143, 0, none⟩) (Kd.V_mono (Kd.V_mono HO122.out (fun k_ hk => (⟨hk, hk.1.2⟩ : _ ∧ k_ ≠ gb143))) (fun k_ hk => (⟨hk, hk.1.2⟩ : _ ∧ k_ ≠ gb144))) (fun _ hk => hk.1.2) (.int .u64 t131)) (fun _ hk => hk.1.2) (.string t132)) (fun _ hk => hk.1.2) (.int .u64 t133)) (fun _ hk => hk.1.2) (.slice Ao34 t134.length co34)) (fun _ hk => hk.2) (.int .u64 t137)) (fun _ hk => hk.2) (.string t138)) (fun _ hk => hk.2) (.int .u64 t139)) (fun _ hk => hk.2) (.slice Ao40 t140.length co40)) (fun _ h_ => h_.1)) (fun _ h_ => h_.1))) hb); replace HO128 := Aside0.mk (Kd.R_below (by (with_reducible repeat (first | apply Kd.R_alloc | apply Kd.R_drewN | apply Kd.R_drew)); exact (Kd.R_mono (Kd.R_mono (Kd.R_far (p := ⟨gb144, 3, none⟩) (Kd.R_far (p := ⟨gb144, 2, none⟩) (Kd.R_far (p := ⟨gb144, 1, none⟩) (Kd.R_far (p := ⟨gb144, 0, none⟩) (Kd.R_far (p := ⟨gb143, 3, none⟩) (Kd.R_far (p := ⟨gb143, 2, none⟩) (Kd.R_far (p := ⟨gb143, 1, none⟩) (Kd.R_far (p := ⟨gb143, 0, none⟩) (Kd.R_types (Kd.R_types HO128.out BK143.out (by decide)) BK144.out (by decide)) (fun _ hk => hk.1.2) (.int .u64 t131)) (fun _ hk => hk.1.2) (.string t132)) (fun _ hk => hk.1.2) (.int .u64 t133)) (fun _ hk => hk.1.2) (.slice Ao34 t134.length co34)) (fun _ hk => hk.2) (.int .u64 t137)) (fun _ hk => hk.2) (.string t138)) (fun _ hk => hk.2) (.int .u64 t139)) (fun _ hk => hk.2) (.slice Ao40 t140.length co40)) (fun _ h_ => h_.1)) (fun _ h_ => h_.1))) hb); replace HO136 := Aside0.mk (Kd.V_below (by (with_reducible repeat (first | apply Kd.V_alloc | apply Kd.V_drewN | apply Kd.V_drew)); exact (Kd.V_mono (Kd.V_mono (Kd.V_far (p := ⟨gb144, 3, none⟩) (Kd.V_far (p := ⟨gb144, 2, none⟩) (Kd.V_far (p := ⟨gb144, 1, none⟩) (Kd.V_far (p := ⟨gb144, 0, none⟩) (Kd.V_far (p := ⟨gb143, 3, none⟩) (Kd.V_far (p := ⟨gb143, 2, none⟩) (Kd.V_far (p := ⟨gb143, 1, none⟩) (Kd.V_far (p := ⟨gb143, 0, none⟩) (Kd.V_mono (Kd.V_mono HO136.out (fun k_ hk => (⟨hk, hk.1.2⟩ : _ ∧ k_ ≠ gb143))) (fun k_ hk => (⟨hk, hk.1.2⟩ : _ ∧ k_ ≠ gb144))) (fun _ hk => hk.1.2) (.int .u64 t131)) (fun _ hk => hk.1.2) (.string t132)) (fun _ hk => hk.1.2) (.int .u64 t133)) (fun _ hk => hk.1.2) (.slice Ao34 t134.length co34)) (fun _ hk => hk.2) (.int .u64 t137)) (fun _ hk => hk.2) (.string t138)) (fun _ hk => hk.2) (.int .u64 t139)) (fun _ hk => hk.2) (.slice Ao40 t140.length co40)) (fun _ h_ => h_.1)) (fun _ h_ => h_.1))) hb); replace HO142 := Aside0.mk (Kd.R_below (by (with_reducible repeat (first | apply Kd.R_alloc | apply Kd.R_drewN | apply Kd.R_drew)); exact (Kd.R_mono (Kd.R_mono (Kd.R_far (p := ⟨gb144, 3, none⟩) (Kd.R_far (p := ⟨gb144, 2, none⟩) (Kd.R_far (p := ⟨gb144, 1, none⟩) (Kd.R_far (p := ⟨gb144, 0, none⟩) (Kd.R_far (p := ⟨gb143, 3, none⟩) (Kd.R_far (p := ⟨gb143, 2, none⟩) (Kd.R_far (p := ⟨gb143, 1, none⟩) (Kd.R_far (p := ⟨gb143, 0, none⟩) (Kd.R_types (Kd.R_types HO142.out BK143.out (by decide)) BK144.out (by decide)) (fun _ hk => hk.1.2) (.int .u64 t131)) (fun _ hk => hk.1.2) (.string t132)) (fun _ hk => hk.1.2) (.int .u64 t133)) (fun _ hk => hk.1.2) (.slice Ao34 t134.length co34)) (fun _ hk => hk.2) (.int .u64 t137)) (fun _ hk => hk.2) (.string t138)) (fun _ hk => hk.2) (.int .u64 t139)) (fun _ hk => hk.2) (.slice Ao40 t140.length co40)) (fun _ h_ => h_.1)) (fun _ h_ => h_.1))) hb); replace BK115 := Aside0.mk (blk_below (g := gb115) (o := .cells #[.int .u64 a0_0, .string a0_1, .int .u64 a0_2, .slice A0_3 l0_3.length c0_3] 25 (0, 0)) (by (repeat (first | (with_reducible first | refine blk_drewN ?_ _ | refine blk_drew ?_ | refine blk_alloc ?_ _) | refine blk_far ?_ NB115_144.out _ | refine blk_far ?_ NB115_143.out _)); exact BK115.out) hb); replace BK116 := Aside0.mk (blk_below (g := gb116) (o := .cells #[.int .u64 a1_0, .string a1_1, .int .u64 a1_2, .slice A1_3 l1_3.length c1_3] 25 (0, 0)) (by (repeat (first | (with_reducible first | refine blk_drewN ?_ _ | refine blk_drew ?_ | refine blk_alloc ?_ _) | refine blk_far ?_ NB116_144.out _ | refine blk_far ?_ NB116_143.out _)); exact BK116.out) hb); replace BK129 := Aside0.mk (blk_below (g := gb129) (o := .cells #[.int .u64 t117, .string t118, .int .u64 t119, .slice Ao17 t120.length co17] 25 (0, 0)) (by (repeat (first | (with_reducible first | refine blk_drewN ?_ _ | refine blk_drew ?_ | refine blk_alloc ?_ _) | refine blk_far ?_ NB129_144.out _ | refine blk_far ?_ NB129_143.out _)); exact BK129.out) hb); replace BK130 := Aside0.mk (blk_below (g := gb130) (o := .cells #[.int .u64 t123, .string t124, .int .u64 t125, .slice Ao22 t126.length co22] 28 (0, 0)) (by (repeat (first | (with_reducible first | refine blk_drewN ?_ _ | refine blk_drew ?_ | refine blk_alloc ?_ _) | refine blk_far ?_ NB130_144.out _ | refine blk_far ?_ NB130_143.out _)); exact BK130.out) hb); replace BK143 := Aside0.mk (blk_below (g := gb143) (o := .cells #[.int .u64 t131, .string t132, .int .u64 t133, .slice Ao34 t134.length co34] 25 (0, 0)) (by (repeat (first | (with_reducible first | refine blk_drewN ?_ _ | refine blk_drew ?_ | refine blk_alloc ?_ _) | refine blk_far ?_ NB143_144.out _)); refine blk_put (cs := #[.int .u64 t131, .string t132, .int .u64 t133, .slice none 0 0]) ?_ 3 _ rfl; (with_reducible repeat (first | refine blk_drewN ?_ _ | refine blk_drew ?_ | refine blk_alloc ?_ _)); refine blk_put (cs := #[.int .u64 t131, .string t132, .int .u64 0, .slice none 0 0]) ?_ 2 _ rfl; (with_reducible repeat (first | refine blk_drewN ?_ _ | refine blk_drew ?_ | refine blk_alloc ?_ _)); refine blk_put (cs := #[.int .u64 t131, .string (⟨#[]⟩ : ByteArray), .int .u64 0, .slice none 0 0]) ?_ 1 _ rfl; (with_reducible repeat (first | refine blk_drewN ?_ _ | refine blk_drew ?_ | refine blk_alloc ?_ _)); refine blk_put (cs := #[.int .u64 0, .string (⟨#[]⟩ : ByteArray), .int .u64 0, .slice none 0 0]) ?_ 0 _ rfl; (with_reducible repeat (first | refine blk_drewN ?_ _ | refine blk_drew ?_ | refine blk_alloc ?_ _)); exact BK143.out) hb); replace BK144 := Aside0.mk (blk_below (g := gb144) (o := .cells #[.int .u64 t137, .string t138, .int .u64 t139, .slice Ao40 t140.length co40] 28 (0, 0)) (by (with_reducible repeat (first | refine blk_drewN ?_ _ | refine blk_drew ?_ | refine blk_alloc ?_ _)); refine blk_put (cs := #[.int .u64 t137, .string t138, .int .u64 t139, .slice none 0 0]) ?_ 3 _ rfl; (with_reducible repeat (first | refine blk_drewN ?_ _ | refine blk_drew ?_ | refine blk_alloc ?_ _)); refine blk_put (cs := #[.int .u64 t137, .string t138, .int .u64 0, .slice none 0 0]) ?_ 2 _ rfl; (with_reducible repeat (first | refine blk_drewN ?_ _ | refine blk_drew ?_ | refine blk_alloc ?_ _)); refine blk_put (cs := #[.int .u64 t137, .string (⟨#[]⟩ : ByteArray), .int .u64 0, .slice none 0 0]) ?_ 1 _ rfl; (with_reducible repeat (first | refine blk_drewN ?_ _ | refine blk_drew ?_ | refine blk_alloc ?_ _)); refine blk_put (cs := #[.int .u64 0, .string (⟨#[]⟩ : ByteArray), .int .u64 0, .slice none 0 0]) ?_ 0 _ rfl; (repeat (first | (with_reducible first | refine blk_drewN ?_ _ | refine blk_drew ?_ | refine blk_alloc ?_ _) | refine blk_far ?_ NB144_143.out _)); exact BK144.out) hb); replace HB := Aside0.mk (below_step (bh_ HB.out) hb); (try clear hb); have hnb67 := NB144_115.out; have hnc67 := NB115_144.out; have hnb68 := NB144_116.out; have hnc68 := NB116_144.out; have hnb69 := NB144_129.out; have hnc69 := NB129_144.out; have hnb70 := NB144_143.out; have hnc70 := NB143_144.out; obtain ⟨z71_0, z71_1, z71_2, z71_3, f71_0, f71_1, f71_2, f71_3⟩ := bc4_ BK144.out) | (go_at_call 11; (with_reducible refine (PMk.parchmentref09_Follows.calls k t137 t138 t139 _ _ t140 t137 t138 t146 _ ?side1 ?side2 A43.out).mono ?_); (case side1 => repeat (first | exact (Kd.R_reads' HO142.out).2.2 | (with_reducible refine Kd.C_alloc ?_ _) | (with_reducible refine Kd.C_drewN ?_ _) | (with_reducible refine Kd.C_drew ?_))); (case side2 => exact (Kd.R_reads' HO142.out).2.1); rintro e w72 ⟨rfl, hb⟩; replace HO122 := Aside0.mk (Kd.V_below (by (with_reducible repeat (first | apply Kd.V_alloc | apply Kd.V_drewN | apply Kd.V_drew)); exact HO122.out) hb); replace HO128 := Aside0.mk (Kd.R_below (br_ HO128.out) hb); replace HO136 := Aside0.mk (Kd.V_below (by (with_reducible repeat (first | apply Kd.V_alloc | apply Kd.V_drewN | apply Kd.V_drew)); exact HO136.out) hb); replace HO142 := Aside0.mk (Kd.R_below (br_ HO142.out) hb); replace BK115 := Aside0.mk (bk_ BK115.out hb); replace BK116 := Aside0.mk (bk_ BK116.out hb); replace BK129 := Aside0.mk (bk_ BK129.out hb); replace BK130 := Aside0.mk (bk_ BK130.out hb); replace BK143 := Aside0.mk (bk_ BK143.out hb); replace BK144 := Aside0.mk (bk_ BK144.out hb); replace HB := Aside0.mk (below_step (bh_ HB.out) hb); (try clear hb); obtain ⟨z73_0, z73_1, z73_2, z73_3, f73_0, f73_1, f73_2, f73_3⟩ := bc4_ BK130.out; obtain ⟨z74_0, z74_1, z74_2, z74_3, f74_0, f74_1, f74_2, f74_3⟩ := bc4_ BK144.out))
     go_meet
     case rel => exact ⟨_, (decide ((t138.size : Int) > 32)), (by first | rfl | (simp; done) | (simp [*]; done)), H', ⟨by first | omega | exact Nat.le_refl _⟩, ⟨by (with_reducible repeat (first | apply Kd.V_alloc | apply Kd.V_drewN | apply Kd.V_drew)); exact Kd.V_mono HO122.out (fun _ hk => ⟨hk.1.1.1.1, ⟨hk.1.1.2, ⟨hk.1.1.1.2.1, ⟨hk.1.1.1.2.2.1, ⟨hk.1.1.1.2.2.2.1, ⟨hk.1.1.1.2.2.2.2, ⟨hk.1.2, hk.2⟩⟩⟩⟩⟩⟩⟩)⟩, ⟨by (with_reducible repeat (first | apply Kd.R_alloc | apply Kd.R_drewN | apply Kd.R_drew)); exact Kd.R_mono HO128.out (fun _ hk => hk.2)⟩, ⟨by (with_reducible repeat (first | apply Kd.V_alloc | apply Kd.V_drewN | apply Kd.V_drew)); exact Kd.V_mono HO136.out (fun _ hk => ⟨hk.1.1.2.1, ⟨hk.1.1.1, ⟨hk.1.1.2.2.1, ⟨hk.1.1.2.2.2.1, ⟨hk.1.1.2.2.2.2.1, ⟨hk.1.1.2.2.2.2.2, ⟨hk.1.2, hk.2⟩⟩⟩⟩⟩⟩⟩)⟩, ⟨by (with_reducible repeat (first | apply Kd.R_alloc | apply Kd.R_drewN | apply Kd.R_drew)); exact Kd.R_mono HO142.out (fun _ hk => hk.2)⟩, ⟨bq_ BK115.out⟩, ⟨bq_ BK116.out⟩, ⟨bq_ BK129.out⟩, ⟨bq_ BK130.out⟩, ⟨bq_ BK143.out⟩, ⟨bq_ BK144.out⟩, ⟨bh_ HB.out⟩⟩
   ·rw [if_neg c44] at H
    have c44b0 : (t146 == 0) = false := beq_eq_false_iff_ne.mpr c44
    have c44b1 : (t146 != 0) = true := bne_iff_ne.mpr c44
    have H' := Aside0.mk H
    clear H
    have hnb75 := NB130_115.out
    have hnc75 := NB115_130.out
    have hnb76 := NB130_116.out
    have hnc76 := NB116_130.out
    have hnb77 := NB130_129.out
    have hnc77 := NB129_130.out
    have hnb78 := NB130_143.out
    have hnc78 := NB143_130.out
    have hnb79 := NB130_144.out
    have hnc79 := NB144_130.out
    obtain ⟨z80_0, z80_1, z80_2, z80_3, f80_0, f80_1, f80_2, f80_3⟩ := bc4_ BK130.out
    go_wp2_with (first | ((with_reducible refine gate_callee (f := 11) rfl ?_); refine goesL_ (some 26) rfl rfl Try.func11 (by kernel_rfl) rfl #[.agg #[.int .u64 t123, .string t124, .int .u64 t125, .slice Ao22 t126.length co22], .int .u64 t123, .string t124] rfl (by (try simp only [List.map_toArray, List.map_cons, List.map_nil]); first | done | rfl | (simp only [List.length_drop, List.length_take]; rfl)) ?_; (with_reducible refine (PMk.parchmentref09_Follows.calls k t123 t124 t125 _ _ t126 t123 t124 t145 _ ?side1 ?side2 A41.out).mono ?_); (case side1 => refine (Kd.R_reads' (e := 44) (base := w.heap.size) (ok := fun k_ => (True ∧ some k_ ≠ (.slice Ao40 t140.length co40 : Value).ownBlock)) (n := t126.length) (c := co22) ?_).2.2; exact (by (with_reducible repeat (first | apply Kd.R_alloc | apply Kd.R_drewN | apply Kd.R_drew)); exact (Kd.R_mono (Kd.R_mono (Kd.R_far (p := ⟨gb144, 3, none⟩) (Kd.R_far (p := ⟨gb144, 2, none⟩) (Kd.R_far (p := ⟨gb144, 1, none⟩) (Kd.R_far (p := ⟨gb144, 0, none⟩) (Kd.R_far (p := ⟨gb143, 3, none⟩) (Kd.R_far (p := ⟨gb143, 2, none⟩) (Kd.R_far (p := ⟨gb143, 1, none⟩) (Kd.R_far (p := ⟨gb143, 0, none⟩) (Kd.R_types (Kd.R_types HO128.out BK143.out (by decide)) BK144.out (by decide)) (fun _ hk => hk.1.2) (.int .u64 t131)) (fun _ hk => hk.1.2) (.string t132)) (fun _ hk => hk.1.2) (.int .u64 t133)) (fun _ hk => hk.1.2) (.slice Ao34 t134.length co34)) (fun _ hk => hk.2) (.int .u64 t137)) (fun _ hk => hk.2) (.string t138)) (fun _ hk => hk.2) (.int .u64 t139)) (fun _ hk => hk.2) (.slice Ao40 t140.length co40)) (fun _ h_ => h_.1)) (fun _ h_ => h_.1)))); (case side2 => exact (Kd.R_reads' HO128.out).2.1); rintro e w81 ⟨rfl, hb⟩; refine ⟨_, rfl, ?_⟩; replace HO122 := Aside0.mk (Kd.V_below (by (with_reducible repeat (first | apply Kd.V_alloc | apply Kd.V_drewN | apply Kd.V_drew)); exact (Kd.V_mono (Kd.V_mono (Kd.V_far (p := ⟨gb144, 3, none⟩) (Kd.V_far (p := ⟨gb144, 2, none⟩) (Kd.V_far (p := ⟨gb144, 1, none⟩) (Kd.V_far (p := ⟨gb144, 0, none⟩) (Kd.V_far (p := ⟨gb143, 3, none⟩) (Kd.V_far (p := ⟨gb143, 2, none⟩) (Kd.V_far (p := ⟨gb143, 1, none⟩) (Kd.V_far (p := ⟨gb143, 0, none⟩) (Kd.V_mono (Kd.V_mono HO122.out (fun k_ hk => (⟨hk, hk.1.2⟩ : _ ∧ k_ ≠ gb143))) (fun k_ hk => (⟨hk, hk.1.2⟩ : _ ∧ k_ ≠ gb144))) (fun _ hk => hk.1.2) (.int .u64 t131)) (fun _ hk => hk.1.2) (.string t132)) (fun _ hk => hk.1.2) (.int .u64 t133)) (fun _ hk => hk.1.2) (.slice Ao34 t134.length co34)) (fun _ hk => hk.2) (.int .u64 t137)) (fun _ hk => hk.2) (.string t138)) (fun _ hk => hk.2) (.int .u64 t139)) (fun _ hk => hk.2) (.slice Ao40 t140.length co40)) (fun _ h_ => h_.1)) (fun _ h_ => h_.1))) hb); replace HO128 := Aside0.mk (Kd.R_below (by (with_reducible repeat (first | apply Kd.R_alloc | apply Kd.R_drewN | apply Kd.R_drew)); exact (Kd.R_mono (Kd.R_mono (Kd.R_far (p := ⟨gb144, 3, none⟩) (Kd.R_far (p := ⟨gb144, 2, none⟩) (Kd.R_far (p := ⟨gb144, 1, none⟩) (Kd.R_far (p := ⟨gb144, 0, none⟩) (Kd.R_far (p := ⟨gb143, 3, none⟩) (Kd.R_far (p := ⟨gb143, 2, none⟩) (Kd.R_far (p := ⟨gb143, 1, none⟩) (Kd.R_far (p := ⟨gb143, 0, none⟩) (Kd.R_types (Kd.R_types HO128.out BK143.out (by decide)) BK144.out (by decide)) (fun _ hk => hk.1.2) (.int .u64 t131)) (fun _ hk => hk.1.2) (.string t132)) (fun _ hk => hk.1.2) (.int .u64 t133)) (fun _ hk => hk.1.2) (.slice Ao34 t134.length co34)) (fun _ hk => hk.2) (.int .u64 t137)) (fun _ hk => hk.2) (.string t138)) (fun _ hk => hk.2) (.int .u64 t139)) (fun _ hk => hk.2) (.slice Ao40 t140.length co40)) (fun _ h_ => h_.1)) (fun _ h_ => h_.1))) hb); replace HO136 := Aside0.mk (Kd.V_below (by (with_reducible repeat (first | apply Kd.V_alloc | apply Kd.V_drewN | apply Kd.V_drew)); exact (Kd.V_mono (Kd.V_mono (Kd.V_far (p := ⟨gb144, 3, none⟩) (Kd.V_far (p := ⟨gb144, 2, none⟩) (Kd.V_far (p := ⟨gb144, 1, none⟩) (Kd.V_far (p := ⟨gb144, 0, none⟩) (Kd.V_far (p := ⟨gb143, 3, none⟩) (Kd.V_far (p := ⟨gb143, 2, none⟩) (Kd.V_far (p := ⟨gb143, 1, none⟩) (Kd.V_far (p := ⟨gb143, 0, none⟩) (Kd.V_mono (Kd.V_mono HO136.out (fun k_ hk => (⟨hk, hk.1.2⟩ : _ ∧ k_ ≠ gb143))) (fun k_ hk => (⟨hk, hk.1.2⟩ : _ ∧ k_ ≠ gb144))) (fun _ hk => hk.1.2) (.int .u64 t131)) (fun _ hk => hk.1.2) (.string t132)) (fun _ hk => hk.1.2) (.int .u64 t133)) (fun _ hk => hk.1.2) (.slice Ao34 t134.length co34)) (fun _ hk => hk.2) (.int .u64 t137)) (fun _ hk => hk.2) (.string t138)) (fun _ hk => hk.2) (.int .u64 t139)) (fun _ hk => hk.2) (.slice Ao40 t140.length co40)) (fun _ h_ => h_.1)) (fun _ h_ => h_.1))) hb); replace HO142 := Aside0.mk (Kd.R_below (by (with_reducible repeat (first | apply Kd.R_alloc | apply Kd.R_drewN | apply Kd.R_drew)); exact (Kd.R_mono (Kd.R_mono (Kd.R_far (p := ⟨gb144, 3, none⟩) (Kd.R_far (p := ⟨gb144, 2, none⟩) (Kd.R_far (p := ⟨gb144, 1, none⟩) (Kd.R_far (p := ⟨gb144, 0, none⟩) (Kd.R_far (p := ⟨gb143, 3, none⟩) (Kd.R_far (p := ⟨gb143, 2, none⟩) (Kd.R_far (p := ⟨gb143, 1, none⟩) (Kd.R_far (p := ⟨gb143, 0, none⟩) (Kd.R_types (Kd.R_types HO142.out BK143.out (by decide)) BK144.out (by decide)) (fun _ hk => hk.1.2) (.int .u64 t131)) (fun _ hk => hk.1.2) (.string t132)) (fun _ hk => hk.1.2) (.int .u64 t133)) (fun _ hk => hk.1.2) (.slice Ao34 t134.length co34)) (fun _ hk => hk.2) (.int .u64 t137)) (fun _ hk => hk.2) (.string t138)) (fun _ hk => hk.2) (.int .u64 t139)) (fun _ hk => hk.2) (.slice Ao40 t140.length co40)) (fun _ h_ => h_.1)) (fun _ h_ => h_.1))) hb); replace BK115 := Aside0.mk (blk_below (g := gb115) (o := .cells #[.int .u64 a0_0, .string a0_1, .int .u64 a0_2, .slice A0_3 l0_3.length c0_3] 25 (0, 0)) (by (repeat (first | (with_reducible first | refine blk_drewN ?_ _ | refine blk_drew ?_ | refine blk_alloc ?_ _) | refine blk_far ?_ NB115_144.out _ | refine blk_far ?_ NB115_143.out _)); exact BK115.out) hb); replace BK116 := Aside0.mk (blk_below (g := gb116) (o := .cells #[.int .u64 a1_0, .string a1_1, .int .u64 a1_2, .slice A1_3 l1_3.length c1_3] 25 (0, 0)) (by (repeat (first | (with_reducible first | refine blk_drewN ?_ _ | refine blk_drew ?_ | refine blk_alloc ?_ _) | refine blk_far ?_ NB116_144.out _ | refine blk_far ?_ NB116_143.out _)); exact BK116.out) hb); replace BK129 := Aside0.mk (blk_below (g := gb129) (o := .cells #[.int .u64 t117, .string t118, .int .u64 t119, .slice Ao17 t120.length co17] 25 (0, 0)) (by (repeat (first | (with_reducible first | refine blk_drewN ?_ _ | refine blk_drew ?_ | refine blk_alloc ?_ _) | refine blk_far ?_ NB129_144.out _ | refine blk_far ?_ NB129_143.out _)); exact BK129.out) hb); replace BK130 := Aside0.mk (blk_below (g := gb130) (o := .cells #[.int .u64 t123, .string t124, .int .u64 t125, .slice Ao22 t126.length co22] 28 (0, 0)) (by (repeat (first | (with_reducible first | refine blk_drewN ?_ _ | refine blk_drew ?_ | refine blk_alloc ?_ _) | refine blk_far ?_ NB130_144.out _ | refine blk_far ?_ NB130_143.out _)); exact BK130.out) hb); replace BK143 := Aside0.mk (blk_below (g := gb143) (o := .cells #[.int .u64 t131, .string t132, .int .u64 t133, .slice Ao34 t134.length co34] 25 (0, 0)) (by (repeat (first | (with_reducible first | refine blk_drewN ?_ _ | refine blk_drew ?_ | refine blk_alloc ?_ _) | refine blk_far ?_ NB143_144.out _)); refine blk_put (cs := #[.int .u64 t131, .string t132, .int .u64 t133, .slice none 0 0]) ?_ 3 _ rfl; (with_reducible repeat (first | refine blk_drewN ?_ _ | refine blk_drew ?_ | refine blk_alloc ?_ _)); refine blk_put (cs := #[.int .u64 t131, .string t132, .int .u64 0, .slice none 0 0]) ?_ 2 _ rfl; (with_reducible repeat (first | refine blk_drewN ?_ _ | refine blk_drew ?_ | refine blk_alloc ?_ _)); refine blk_put (cs := #[.int .u64 t131, .string (⟨#[]⟩ : ByteArray), .int .u64 0, .slice none 0 0]) ?_ 1 _ rfl; (with_reducible repeat (first | refine blk_drewN ?_ _ | refine blk_drew ?_ | refine blk_alloc ?_ _)); refine blk_put (cs := #[.int .u64 0, .string (⟨#[]⟩ : ByteArray), .int .u64 0, .slice none 0 0]) ?_ 0 _ rfl; (with_reducible repeat (first | refine blk_drewN ?_ _ | refine blk_drew ?_ | refine blk_alloc ?_ _)); exact BK143.out) hb); replace BK144 := Aside0.mk (blk_below (g := gb144) (o := .cells #[.int .u64 t137, .string t138, .int .u64 t139, .slice Ao40 t140.length co40] 28 (0, 0)) (by (with_reducible repeat (first | refine blk_drewN ?_ _ | refine blk_drew ?_ | refine blk_alloc ?_ _)); refine blk_put (cs := #[.int .u64 t137, .string t138, .int .u64 t139, .slice none 0 0]) ?_ 3 _ rfl; (with_reducible repeat (first | refine blk_drewN ?_ _ | refine blk_drew ?_ | refine blk_alloc ?_ _)); refine blk_put (cs := #[.int .u64 t137, .string t138, .int .u64 0, .slice none 0 0]) ?_ 2 _ rfl; (with_reducible repeat (first | refine blk_drewN ?_ _ | refine blk_drew ?_ | refine blk_alloc ?_ _)); refine blk_put (cs := #[.int .u64 t137, .string (⟨#[]⟩ : ByteArray), .int .u64 0, .slice none 0 0]) ?_ 1 _ rfl; (with_reducible repeat (first | refine blk_drewN ?_ _ | refine blk_drew ?_ | refine blk_alloc ?_ _)); refine blk_put (cs := #[.int .u64 0, .string (⟨#[]⟩ : ByteArray), .int .u64 0, .slice none 0 0]) ?_ 0 _ rfl; (repeat (first | (with_reducible first | refine blk_drewN ?_ _ | refine blk_drew ?_ | refine blk_alloc ?_ _) | refine blk_far ?_ NB144_143.out _)); exact BK144.out) hb); replace HB := Aside0.mk (below_step (bh_ HB.out) hb); (try clear hb); have hnb82 := NB144_115.out; have hnc82 := NB115_144.out; have hnb83 := NB144_116.out; have hnc83 := NB116_144.out; have hnb84 := NB144_129.out; have hnc84 := NB129_144.out; have hnb85 := NB144_143.out; have hnc85 := NB143_144.out; obtain ⟨z86_0, z86_1, z86_2, z86_3, f86_0, f86_1, f86_2, f86_3⟩ := bc4_ BK144.out) | (go_at_call 11; (with_reducible refine (PMk.parchmentref09_Follows.calls k t137 t138 t139 _ _ t140 t137 t138 t146 _ ?side1 ?side2 A43.out).mono ?_); (case side1 => repeat (first | exact (Kd.R_reads' HO142.out).2.2 | (with_reducible refine Kd.C_alloc ?_ _) | (with_reducible refine Kd.C_drewN ?_ _) | (with_reducible refine Kd.C_drew ?_))); (case side2 => exact (Kd.R_reads' HO142.out).2.1); rintro e w87 ⟨rfl, hb⟩; replace HO122 := Aside0.mk (Kd.V_below (by (with_reducible repeat (first | apply Kd.V_alloc | apply Kd.V_drewN | apply Kd.V_drew)); exact HO122.out) hb); replace HO128 := Aside0.mk (Kd.R_below (br_ HO128.out) hb); replace HO136 := Aside0.mk (Kd.V_below (by (with_reducible repeat (first | apply Kd.V_alloc | apply Kd.V_drewN | apply Kd.V_drew)); exact HO136.out) hb); replace HO142 := Aside0.mk (Kd.R_below (br_ HO142.out) hb); replace BK115 := Aside0.mk (bk_ BK115.out hb); replace BK116 := Aside0.mk (bk_ BK116.out hb); replace BK129 := Aside0.mk (bk_ BK129.out hb); replace BK130 := Aside0.mk (bk_ BK130.out hb); replace BK143 := Aside0.mk (bk_ BK143.out hb); replace BK144 := Aside0.mk (bk_ BK144.out hb); replace HB := Aside0.mk (below_step (bh_ HB.out) hb); (try clear hb)))
    go_meet
    case rel => exact ⟨_, (true), (by first | rfl | (simp; done) | (simp [*]; done)), H', ⟨by first | omega | exact Nat.le_refl _⟩, ⟨by (with_reducible repeat (first | apply Kd.V_alloc | apply Kd.V_drewN | apply Kd.V_drew)); exact Kd.V_mono HO122.out (fun _ hk => ⟨hk.1.1.1.1, ⟨hk.1.1.2, ⟨hk.1.1.1.2.1, ⟨hk.1.1.1.2.2.1, ⟨hk.1.1.1.2.2.2.1, ⟨hk.1.1.1.2.2.2.2, ⟨hk.1.2, hk.2⟩⟩⟩⟩⟩⟩⟩)⟩, ⟨by (with_reducible repeat (first | apply Kd.R_alloc | apply Kd.R_drewN | apply Kd.R_drew)); exact Kd.R_mono HO128.out (fun _ hk => hk.2)⟩, ⟨by (with_reducible repeat (first | apply Kd.V_alloc | apply Kd.V_drewN | apply Kd.V_drew)); exact Kd.V_mono HO136.out (fun _ hk => ⟨hk.1.1.2.1, ⟨hk.1.1.1, ⟨hk.1.1.2.2.1, ⟨hk.1.1.2.2.2.1, ⟨hk.1.1.2.2.2.2.1, ⟨hk.1.1.2.2.2.2.2, ⟨hk.1.2, hk.2⟩⟩⟩⟩⟩⟩⟩)⟩, ⟨by (with_reducible repeat (first | apply Kd.R_alloc | apply Kd.R_drewN | apply Kd.R_drew)); exact Kd.R_mono HO142.out (fun _ hk => hk.2)⟩, ⟨bq_ BK115.out⟩, ⟨bq_ BK116.out⟩, ⟨bq_ BK129.out⟩, ⟨bq_ BK130.out⟩, ⟨bq_ BK143.out⟩, ⟨bq_ BK144.out⟩, ⟨bh_ HB.out⟩⟩
  ·rw [if_neg c42] at H
   have c42b0 : (t145 == 0) = false := beq_eq_false_iff_ne.mpr c42
   have c42b1 : (t145 != 0) = true := bne_iff_ne.mpr c42
   (first | rw [c42b0] | (simp only [i64_w, i32_w]; rw [c42b0]) | skip)
   have H' := Aside0.mk H
   clear H
   have hnb88 := NB130_115.out
   have hnc88 := NB115_130.out
   have hnb89 := NB130_116.out
   have hnc89 := NB116_130.out
   have hnb90 := NB130_129.out
   have hnc90 := NB129_130.out
   have hnb91 := NB130_143.out
   have hnc91 := NB143_130.out
   have hnb92 := NB130_144.out
   have hnc92 := NB144_130.out
   obtain ⟨z93_0, z93_1, z93_2, z93_3, f93_0, f93_1, f93_2, f93_3⟩ := bc4_ BK130.out
   go_wp2_with (first | ((with_reducible refine gate_callee (f := 11) rfl ?_); refine goesL_ (some 26) rfl rfl Try.func11 (by kernel_rfl) rfl #[.agg #[.int .u64 t123, .string t124, .int .u64 t125, .slice Ao22 t126.length co22], .int .u64 t123, .string t124] rfl (by (try simp only [List.map_toArray, List.map_cons, List.map_nil]); first | done | rfl | (simp only [List.length_drop, List.length_take]; rfl)) ?_; (with_reducible refine (PMk.parchmentref09_Follows.calls k t123 t124 t125 _ _ t126 t123 t124 t145 _ ?side1 ?side2 A41.out).mono ?_); (case side1 => refine (Kd.R_reads' (e := 44) (base := w.heap.size) (ok := fun k_ => (True ∧ some k_ ≠ (.slice Ao40 t140.length co40 : Value).ownBlock)) (n := t126.length) (c := co22) ?_).2.2; exact (by (with_reducible repeat (first | apply Kd.R_alloc | apply Kd.R_drewN | apply Kd.R_drew)); exact (Kd.R_mono (Kd.R_mono (Kd.R_far (p := ⟨gb144, 3, none⟩) (Kd.R_far (p := ⟨gb144, 2, none⟩) (Kd.R_far (p := ⟨gb144, 1, none⟩) (Kd.R_far (p := ⟨gb144, 0, none⟩) (Kd.R_far (p := ⟨gb143, 3, none⟩) (Kd.R_far (p := ⟨gb143, 2, none⟩) (Kd.R_far (p := ⟨gb143, 1, none⟩) (Kd.R_far (p := ⟨gb143, 0, none⟩) (Kd.R_types (Kd.R_types HO128.out BK143.out (by decide)) BK144.out (by decide)) (fun _ hk => hk.1.2) (.int .u64 t131)) (fun _ hk => hk.1.2) (.string t132)) (fun _ hk => hk.1.2) (.int .u64 t133)) (fun _ hk => hk.1.2) (.slice Ao34 t134.length co34)) (fun _ hk => hk.2) (.int .u64 t137)) (fun _ hk => hk.2) (.string t138)) (fun _ hk => hk.2) (.int .u64 t139)) (fun _ hk => hk.2) (.slice Ao40 t140.length co40)) (fun _ h_ => h_.1)) (fun _ h_ => h_.1)))); (case side2 => exact (Kd.R_reads' HO128.out).2.1); rintro e w94 ⟨rfl, hb⟩; refine ⟨_, rfl, ?_⟩; replace HO122 := Aside0.mk (Kd.V_below (by (with_reducible repeat (first | apply Kd.V_alloc | apply Kd.V_drewN | apply Kd.V_drew)); exact (Kd.V_mono (Kd.V_mono (Kd.V_far (p := ⟨gb144, 3, none⟩) (Kd.V_far (p := ⟨gb144, 2, none⟩) (Kd.V_far (p := ⟨gb144, 1, none⟩) (Kd.V_far (p := ⟨gb144, 0, none⟩) (Kd.V_far (p := ⟨gb143, 3, none⟩) (Kd.V_far (p := ⟨gb143, 2, none⟩) (Kd.V_far (p := ⟨gb143, 1, none⟩) (Kd.V_far (p := ⟨gb143, 0, none⟩) (Kd.V_mono (Kd.V_mono HO122.out (fun k_ hk => (⟨hk, hk.1.2⟩ : _ ∧ k_ ≠ gb143))) (fun k_ hk => (⟨hk, hk.1.2⟩ : _ ∧ k_ ≠ gb144))) (fun _ hk => hk.1.2) (.int .u64 t131)) (fun _ hk => hk.1.2) (.string t132)) (fun _ hk => hk.1.2) (.int .u64 t133)) (fun _ hk => hk.1.2) (.slice Ao34 t134.length co34)) (fun _ hk => hk.2) (.int .u64 t137)) (fun _ hk => hk.2) (.string t138)) (fun _ hk => hk.2) (.int .u64 t139)) (fun _ hk => hk.2) (.slice Ao40 t140.length co40)) (fun _ h_ => h_.1)) (fun _ h_ => h_.1))) hb); replace HO128 := Aside0.mk (Kd.R_below (by (with_reducible repeat (first | apply Kd.R_alloc | apply Kd.R_drewN | apply Kd.R_drew)); exact (Kd.R_mono (Kd.R_mono (Kd.R_far (p := ⟨gb144, 3, none⟩) (Kd.R_far (p := ⟨gb144, 2, none⟩) (Kd.R_far (p := ⟨gb144, 1, none⟩) (Kd.R_far (p := ⟨gb144, 0, none⟩) (Kd.R_far (p := ⟨gb143, 3, none⟩) (Kd.R_far (p := ⟨gb143, 2, none⟩) (Kd.R_far (p := ⟨gb143, 1, none⟩) (Kd.R_far (p := ⟨gb143, 0, none⟩) (Kd.R_types (Kd.R_types HO128.out BK143.out (by decide)) BK144.out (by decide)) (fun _ hk => hk.1.2) (.int .u64 t131)) (fun _ hk => hk.1.2) (.string t132)) (fun _ hk => hk.1.2) (.int .u64 t133)) (fun _ hk => hk.1.2) (.slice Ao34 t134.length co34)) (fun _ hk => hk.2) (.int .u64 t137)) (fun _ hk => hk.2) (.string t138)) (fun _ hk => hk.2) (.int .u64 t139)) (fun _ hk => hk.2) (.slice Ao40 t140.length co40)) (fun _ h_ => h_.1)) (fun _ h_ => h_.1))) hb); replace HO136 := Aside0.mk (Kd.V_below (by (with_reducible repeat (first | apply Kd.V_alloc | apply Kd.V_drewN | apply Kd.V_drew)); exact (Kd.V_mono (Kd.V_mono (Kd.V_far (p := ⟨gb144, 3, none⟩) (Kd.V_far (p := ⟨gb144, 2, none⟩) (Kd.V_far (p := ⟨gb144, 1, none⟩) (Kd.V_far (p := ⟨gb144, 0, none⟩) (Kd.V_far (p := ⟨gb143, 3, none⟩) (Kd.V_far (p := ⟨gb143, 2, none⟩) (Kd.V_far (p := ⟨gb143, 1, none⟩) (Kd.V_far (p := ⟨gb143, 0, none⟩) (Kd.V_mono (Kd.V_mono HO136.out (fun k_ hk => (⟨hk, hk.1.2⟩ : _ ∧ k_ ≠ gb143))) (fun k_ hk => (⟨hk, hk.1.2⟩ : _ ∧ k_ ≠ gb144))) (fun _ hk => hk.1.2) (.int .u64 t131)) (fun _ hk => hk.1.2) (.string t132)) (fun _ hk => hk.1.2) (.int .u64 t133)) (fun _ hk => hk.1.2) (.slice Ao34 t134.length co34)) (fun _ hk => hk.2) (.int .u64 t137)) (fun _ hk => hk.2) (.string t138)) (fun _ hk => hk.2) (.int .u64 t139)) (fun _ hk => hk.2) (.slice Ao40 t140.length co40)) (fun _ h_ => h_.1)) (fun _ h_ => h_.1))) hb); replace HO142 := Aside0.mk (Kd.R_below (by (with_reducible repeat (first | apply Kd.R_alloc | apply Kd.R_drewN | apply Kd.R_drew)); exact (Kd.R_mono (Kd.R_mono (Kd.R_far (p := ⟨gb144, 3, none⟩) (Kd.R_far (p := ⟨gb144, 2, none⟩) (Kd.R_far (p := ⟨gb144, 1, none⟩) (Kd.R_far (p := ⟨gb144, 0, none⟩) (Kd.R_far (p := ⟨gb143, 3, none⟩) (Kd.R_far (p := ⟨gb143, 2, none⟩) (Kd.R_far (p := ⟨gb143, 1, none⟩) (Kd.R_far (p := ⟨gb143, 0, none⟩) (Kd.R_types (Kd.R_types HO142.out BK143.out (by decide)) BK144.out (by decide)) (fun _ hk => hk.1.2) (.int .u64 t131)) (fun _ hk => hk.1.2) (.string t132)) (fun _ hk => hk.1.2) (.int .u64 t133)) (fun _ hk => hk.1.2) (.slice Ao34 t134.length co34)) (fun _ hk => hk.2) (.int .u64 t137)) (fun _ hk => hk.2) (.string t138)) (fun _ hk => hk.2) (.int .u64 t139)) (fun _ hk => hk.2) (.slice Ao40 t140.length co40)) (fun _ h_ => h_.1)) (fun _ h_ => h_.1))) hb); replace BK115 := Aside0.mk (blk_below (g := gb115) (o := .cells #[.int .u64 a0_0, .string a0_1, .int .u64 a0_2, .slice A0_3 l0_3.length c0_3] 25 (0, 0)) (by (repeat (first | (with_reducible first | refine blk_drewN ?_ _ | refine blk_drew ?_ | refine blk_alloc ?_ _) | refine blk_far ?_ NB115_144.out _ | refine blk_far ?_ NB115_143.out _)); exact BK115.out) hb); replace BK116 := Aside0.mk (blk_below (g := gb116) (o := .cells #[.int .u64 a1_0, .string a1_1, .int .u64 a1_2, .slice A1_3 l1_3.length c1_3] 25 (0, 0)) (by (repeat (first | (with_reducible first | refine blk_drewN ?_ _ | refine blk_drew ?_ | refine blk_alloc ?_ _) | refine blk_far ?_ NB116_144.out _ | refine blk_far ?_ NB116_143.out _)); exact BK116.out) hb); replace BK129 := Aside0.mk (blk_below (g := gb129) (o := .cells #[.int .u64 t117, .string t118, .int .u64 t119, .slice Ao17 t120.length co17] 25 (0, 0)) (by (repeat (first | (with_reducible first | refine blk_drewN ?_ _ | refine blk_drew ?_ | refine blk_alloc ?_ _) | refine blk_far ?_ NB129_144.out _ | refine blk_far ?_ NB129_143.out _)); exact BK129.out) hb); replace BK130 := Aside0.mk (blk_below (g := gb130) (o := .cells #[.int .u64 t123, .string t124, .int .u64 t125, .slice Ao22 t126.length co22] 28 (0, 0)) (by (repeat (first | (with_reducible first | refine blk_drewN ?_ _ | refine blk_drew ?_ | refine blk_alloc ?_ _) | refine blk_far ?_ NB130_144.out _ | refine blk_far ?_ NB130_143.out _)); exact BK130.out) hb); replace BK143 := Aside0.mk (blk_below (g := gb143) (o := .cells #[.int .u64 t131, .string t132, .int .u64 t133, .slice Ao34 t134.length co34] 25 (0, 0)) (by (repeat (first | (with_reducible first | refine blk_drewN ?_ _ | refine blk_drew ?_ | refine blk_alloc ?_ _) | refine blk_far ?_ NB143_144.out _)); refine blk_put (cs := #[.int .u64 t131, .string t132, .int .u64 t133, .slice none 0 0]) ?_ 3 _ rfl; (with_reducible repeat (first | refine blk_drewN ?_ _ | refine blk_drew ?_ | refine blk_alloc ?_ _)); refine blk_put (cs := #[.int .u64 t131, .string t132, .int .u64 0, .slice none 0 0]) ?_ 2 _ rfl; (with_reducible repeat (first | refine blk_drewN ?_ _ | refine blk_drew ?_ | refine blk_alloc ?_ _)); refine blk_put (cs := #[.int .u64 t131, .string (⟨#[]⟩ : ByteArray), .int .u64 0, .slice none 0 0]) ?_ 1 _ rfl; (with_reducible repeat (first | refine blk_drewN ?_ _ | refine blk_drew ?_ | refine blk_alloc ?_ _)); refine blk_put (cs := #[.int .u64 0, .string (⟨#[]⟩ : ByteArray), .int .u64 0, .slice none 0 0]) ?_ 0 _ rfl; (with_reducible repeat (first | refine blk_drewN ?_ _ | refine blk_drew ?_ | refine blk_alloc ?_ _)); exact BK143.out) hb); replace BK144 := Aside0.mk (blk_below (g := gb144) (o := .cells #[.int .u64 t137, .string t138, .int .u64 t139, .slice Ao40 t140.length co40] 28 (0, 0)) (by (with_reducible repeat (first | refine blk_drewN ?_ _ | refine blk_drew ?_ | refine blk_alloc ?_ _)); refine blk_put (cs := #[.int .u64 t137, .string t138, .int .u64 t139, .slice none 0 0]) ?_ 3 _ rfl; (with_reducible repeat (first | refine blk_drewN ?_ _ | refine blk_drew ?_ | refine blk_alloc ?_ _)); refine blk_put (cs := #[.int .u64 t137, .string t138, .int .u64 0, .slice none 0 0]) ?_ 2 _ rfl; (with_reducible repeat (first | refine blk_drewN ?_ _ | refine blk_drew ?_ | refine blk_alloc ?_ _)); refine blk_put (cs := #[.int .u64 t137, .string (⟨#[]⟩ : ByteArray), .int .u64 0, .slice none 0 0]) ?_ 1 _ rfl; (with_reducible repeat (first | refine blk_drewN ?_ _ | refine blk_drew ?_ | refine blk_alloc ?_ _)); refine blk_put (cs := #[.int .u64 0, .string (⟨#[]⟩ : ByteArray), .int .u64 0, .slice none 0 0]) ?_ 0 _ rfl; (repeat (first | (with_reducible first | refine blk_drewN ?_ _ | refine blk_drew ?_ | refine blk_alloc ?_ _) | refine blk_far ?_ NB144_143.out _)); exact BK144.out) hb); replace HB := Aside0.mk (below_step (bh_ HB.out) hb); (try clear hb)))
   go_meet
   case rel => exact ⟨_, (true), (by first | rfl | (simp; done) | (simp [*]; done)), H', ⟨by first | omega | exact Nat.le_refl _⟩, ⟨by (with_reducible repeat (first | apply Kd.V_alloc | apply Kd.V_drewN | apply Kd.V_drew)); exact Kd.V_mono HO122.out (fun _ hk => ⟨hk.1.1.1.1, ⟨hk.1.1.2, ⟨hk.1.1.1.2.1, ⟨hk.1.1.1.2.2.1, ⟨hk.1.1.1.2.2.2.1, ⟨hk.1.1.1.2.2.2.2, ⟨hk.1.2, hk.2⟩⟩⟩⟩⟩⟩⟩)⟩, ⟨by (with_reducible repeat (first | apply Kd.R_alloc | apply Kd.R_drewN | apply Kd.R_drew)); exact Kd.R_mono HO128.out (fun _ hk => hk.2)⟩, ⟨by (with_reducible repeat (first | apply Kd.V_alloc | apply Kd.V_drewN | apply Kd.V_drew)); exact Kd.V_mono HO136.out (fun _ hk => ⟨hk.1.1.2.1, ⟨hk.1.1.1, ⟨hk.1.1.2.2.1, ⟨hk.1.1.2.2.2.1, ⟨hk.1.1.2.2.2.2.1, ⟨hk.1.1.2.2.2.2.2, ⟨hk.1.2, hk.2⟩⟩⟩⟩⟩⟩⟩)⟩, ⟨by (with_reducible repeat (first | apply Kd.R_alloc | apply Kd.R_drewN | apply Kd.R_drew)); exact Kd.R_mono HO142.out (fun _ hk => hk.2)⟩, ⟨bq_ BK115.out⟩, ⟨bq_ BK116.out⟩, ⟨bq_ BK129.out⟩, ⟨bq_ BK130.out⟩, ⟨bq_ BK143.out⟩, ⟨bq_ BK144.out⟩, ⟨bh_ HB.out⟩⟩
 case rest =>
  clear HC5
  try clear c1
  try clear c2
  try clear p2
  try clear c3
  try clear c4
  try clear c5
  try clear c6
  try clear c7
  try clear c8
  try clear c9
  try clear c10
  try clear c11
  try clear c13
  try clear c14
  try clear c15
  try clear c19
  try clear c20
  try clear c28
  try clear c29
  try clear c30
  try clear c31
  try clear c32
  try clear c35
  try clear c36
  try clear c37
  try clear c38
  try clear c42
  try clear c42b0
  try clear c42b1
  try clear c44
  try clear c44b0
  try clear c44b1
  try clear c45
  try clear c45b0
  try clear c45b1
  try clear c46
  try clear c47
  try clear c48
  try clear c49
  try clear c50
  try clear c53
  try clear c54
  try clear c55
  try clear c56
  try clear c60
  try clear c61
  try clear c62
  try clear c63
  try clear c64
  try clear c67
  try clear c68
  try clear c69
  try clear c70
  try clear c75
  try clear c76
  try clear c77
  try clear c78
  try clear c79
  try clear c82
  try clear c83
  try clear c84
  try clear c85
  try clear c88
  try clear c89
  try clear c90
  try clear c91
  try clear c92
  try clear z16_0 z16_1 z16_2 z16_3
  try clear z21_0 z21_1 z21_2 z21_3
  try clear z24_0 z24_1 z24_2 z24_3
  try clear z33_0 z33_1 z33_2 z33_3
  try clear z39_0 z39_1 z39_2 z39_3
  try clear z51_0 z51_1 z51_2 z51_3
  try clear z57_0 z57_1 z57_2 z57_3
  try clear z59_0 z59_1 z59_2 z59_3
  try clear z65_0 z65_1 z65_2 z65_3
  try clear z71_0 z71_1 z71_2 z71_3
  try clear z73_0 z73_1 z73_2 z73_3
  try clear z74_0 z74_1 z74_2 z74_3
  try clear z80_0 z80_1 z80_2 z80_3
  try clear z86_0 z86_1 z86_2 z86_3
  try clear z93_0 z93_1 z93_2 z93_3
  try clear z9_0 z9_1 z9_2 z9_3
  try clear f16_0 f16_1 f16_2 f16_3
  try clear f21_0 f21_1 f21_2 f21_3
  try clear f24_0 f24_1 f24_2 f24_3
  try clear f33_0 f33_1 f33_2 f33_3
  try clear f39_0 f39_1 f39_2 f39_3
  try clear f51_0 f51_1 f51_2 f51_3
  try clear f57_0 f57_1 f57_2 f57_3
  try clear f59_0 f59_1 f59_2 f59_3
  try clear f65_0 f65_1 f65_2 f65_3
  try clear f71_0 f71_1 f71_2 f71_3
  try clear f73_0 f73_1 f73_2 f73_3
  try clear f74_0 f74_1 f74_2 f74_3
  try clear f80_0 f80_1 f80_2 f80_3
  try clear f86_0 f86_1 f86_2 f86_3
  try clear f93_0 f93_1 f93_2 f93_3
  try clear f9_0 f9_1 f9_2 f9_3
  obtain ⟨kq, x48_4, rfl, HA, HJ4, HO_130003, HO_131003, HO_144003, HO_145003, BK115, BK116, BK129, BK130, BK143, BK144, HB⟩ := hcut
  cases kq with
  | zero => exact absurd HA.out (by simp [parchmentlaw09_BlockUnlike.j0])
  | succ kj4 =>
   have H := HA.out
   clear HA
   simp only [parchmentlaw09_BlockUnlike.j0] at H
   by_cases c95 : x48_4 = true
   ·subst c95
    have H1 : ((Blk.law_awake.f).bind fun t147 => (some t147)) = some r := by rw [if_pos rfl] at H; exact H
    clear H
    have H := H1
    clear H1
    replace H := Option.bind_eq_some_iff.mp H
    obtain ⟨t147, A960, H⟩ := H
    replace H : (some t147) = some r := H
    have A96 := Aside0.mk A960
    clear A960
    obtain rfl := Option.some.inj H
    go_wp2_with (first | ((with_reducible refine gate_callee (f := 12) rfl ?_); refine goesL_ (some 49) rfl rfl Try.func12 (by kernel_rfl) rfl #[] rfl (by (try simp only [List.map_toArray, List.map_cons, List.map_nil]); first | done | rfl | (simp only [List.length_drop, List.length_take]; rfl)) ?_; (with_reducible refine (Blk.law_awake.calls  t147 _ A96.out).mono ?_); rintro e w97 ⟨rfl, hb⟩; refine ⟨_, rfl, ?_⟩; replace HO_130003 := Aside0.mk (Kd.V_below (by (with_reducible repeat (first | apply Kd.V_alloc | apply Kd.V_drewN | apply Kd.V_drew)); exact HO_130003.out) hb); replace HO_131003 := Aside0.mk (Kd.R_below (br_ HO_131003.out) hb); replace HO_144003 := Aside0.mk (Kd.V_below (by (with_reducible repeat (first | apply Kd.V_alloc | apply Kd.V_drewN | apply Kd.V_drew)); exact HO_144003.out) hb); replace HO_145003 := Aside0.mk (Kd.R_below (br_ HO_145003.out) hb); replace BK115 := Aside0.mk (bk_ BK115.out hb); replace BK116 := Aside0.mk (bk_ BK116.out hb); replace BK129 := Aside0.mk (bk_ BK129.out hb); replace BK130 := Aside0.mk (bk_ BK130.out hb); replace BK143 := Aside0.mk (bk_ BK143.out hb); replace BK144 := Aside0.mk (bk_ BK144.out hb); replace HB := Aside0.mk (below_step (bh_ HB.out) hb); (try clear hb)))
    go_ret
    exact ⟨by first | rfl | (simp [errW_none, errW_some] <;> rfl) | (simp [*, errW_none, errW_some] <;> rfl), by repeat (first | (with_reducible first | exact HB.out | apply below_alloc | apply pw_below_drewN | apply below_drew1 | refine below_set ?_ GE115.out | refine below_set ?_ GE116.out | refine below_set ?_ GE129.out | refine below_set ?_ GE130.out | refine below_set ?_ GE143.out | refine below_set ?_ GE144.out) | exact HB.out)⟩
   ·replace c95 := Bool.eq_false_iff.mpr c95
    subst c95
    have H1 : ((PMk.parchmentref09_Header.f kj4 t123 t124 t125 t126).bind fun t148 => ((PMk.parchmentref09_Header.f kj4 t137 t138 t139 t140).bind fun t149 => ((Blk.law_awake.f).bind fun t150 => (if t150 = true then ((block_Hash.f kj4 t117 t118 t119 t120).bind fun t151 => ((block_Hash.f kj4 t131 t132 t133 t134).bind fun t152 => (if ((t151.toList == t152.toList) != (t148.toList == t149.toList)) = true then ((Blk.block_Header.f kj4 t117 t118 t119 t120).bind fun t153 => (if 1 + t153.size ≤ 9223372036854775807 then ((Blk.block_Header.f kj4 t131 t132 t133 t134).bind fun t154 => (if 1 + t154.size ≤ 9223372036854775807 then ((PMk.hash_Collides.f ((⟨#[2]⟩ : ByteArray) ++ t153) ((⟨#[2]⟩ : ByteArray) ++ t154)).bind fun t155 => (parchmentlaw09_BlockUnlike.j1 kj4 (t148.toList == t149.toList) (!t155) t123 t124 t125 t126 t137 t138 t139 t140)) else (none))) else (none))) else (parchmentlaw09_BlockUnlike.j1 kj4 (t148.toList == t149.toList) false t123 t124 t125 t126 t137 t138 t139 t140)))) else (parchmentlaw09_BlockUnlike.j1 kj4 (t148.toList == t149.toList) true t123 t124 t125 t126 t137 t138 t139 t140))))) = some r := by rw [if_neg (show ¬ (false = true) by decide)] at H; exact H
    clear H
    have H := H1
    clear H1
    replace H := Option.bind_eq_some_iff.mp H
    obtain ⟨t148, A980, H⟩ := H
    replace H : ((PMk.parchmentref09_Header.f kj4 t137 t138 t139 t140).bind fun t149 => ((Blk.law_awake.f).bind fun t150 => (if t150 = true then ((block_Hash.f kj4 t117 t118 t119 t120).bind fun t151 => ((block_Hash.f kj4 t131 t132 t133 t134).bind fun t152 => (if ((t151.toList == t152.toList) != (t148.toList == t149.toList)) = true then ((Blk.block_Header.f kj4 t117 t118 t119 t120).bind fun t153 => (if 1 + t153.size ≤ 9223372036854775807 then ((Blk.block_Header.f kj4 t131 t132 t133 t134).bind fun t154 => (if 1 + t154.size ≤ 9223372036854775807 then ((PMk.hash_Collides.f ((⟨#[2]⟩ : ByteArray) ++ t153) ((⟨#[2]⟩ : ByteArray) ++ t154)).bind fun t155 => (parchmentlaw09_BlockUnlike.j1 kj4 (t148.toList == t149.toList) (!t155) t123 t124 t125 t126 t137 t138 t139 t140)) else (none))) else (none))) else (parchmentlaw09_BlockUnlike.j1 kj4 (t148.toList == t149.toList) false t123 t124 t125 t126 t137 t138 t139 t140)))) else (parchmentlaw09_BlockUnlike.j1 kj4 (t148.toList == t149.toList) true t123 t124 t125 t126 t137 t138 t139 t140)))) = some r := H
    have A98 := Aside0.mk A980
    clear A980
    replace H := Option.bind_eq_some_iff.mp H
    obtain ⟨t149, A990, H⟩ := H
    replace H : ((Blk.law_awake.f).bind fun t150 => (if t150 = true then ((block_Hash.f kj4 t117 t118 t119 t120).bind fun t151 => ((block_Hash.f kj4 t131 t132 t133 t134).bind fun t152 => (if ((t151.toList == t152.toList) != (t148.toList == t149.toList)) = true then ((Blk.block_Header.f kj4 t117 t118 t119 t120).bind fun t153 => (if 1 + t153.size ≤ 9223372036854775807 then ((Blk.block_Header.f kj4 t131 t132 t133 t134).bind fun t154 => (if 1 + t154.size ≤ 9223372036854775807 then ((PMk.hash_Collides.f ((⟨#[2]⟩ : ByteArray) ++ t153) ((⟨#[2]⟩ : ByteArray) ++ t154)).bind fun t155 => (parchmentlaw09_BlockUnlike.j1 kj4 (t148.toList == t149.toList) (!t155) t123 t124 t125 t126 t137 t138 t139 t140)) else (none))) else (none))) else (parchmentlaw09_BlockUnlike.j1 kj4 (t148.toList == t149.toList) false t123 t124 t125 t126 t137 t138 t139 t140)))) else (parchmentlaw09_BlockUnlike.j1 kj4 (t148.toList == t149.toList) true t123 t124 t125 t126 t137 t138 t139 t140))) = some r := H
    have A99 := Aside0.mk A990
    clear A990
    have HC100 := Aside0.mk H
    clear H
    try go_wp2
    replace HO_130003 := Aside0.mk (Kd.V_drew HO_130003.out)
    replace HO_131003 := Aside0.mk (Kd.R_drew HO_131003.out)
    replace HO_144003 := Aside0.mk (Kd.V_drew HO_144003.out)
    replace HO_145003 := Aside0.mk (Kd.R_drew HO_145003.out)
    replace BK115 := Aside0.mk (blk_drew BK115.out)
    replace BK116 := Aside0.mk (blk_drew BK116.out)
    replace BK129 := Aside0.mk (blk_drew BK129.out)
    replace BK130 := Aside0.mk (blk_drew BK130.out)
    replace BK143 := Aside0.mk (blk_drew BK143.out)
    replace BK144 := Aside0.mk (blk_drew BK144.out)
    replace HB := Aside0.mk (below_drew1 HB.out)
    refine start_ (n := 6) (S := fun w' => w'.cell? ⟨gb130, 0, none⟩ = some (.int .u64 t123) ∧ w'.cell? ⟨gb130, 1, none⟩ = some (.string t124) ∧ w'.cell? ⟨gb130, 2, none⟩ = some (.int .u64 t125) ∧ w'.cell? ⟨gb130, 3, none⟩ = some (.slice Ao22 t126.length co22) ∧ w'.cell? ⟨gb144, 0, none⟩ = some (.int .u64 t137) ∧ w'.cell? ⟨gb144, 1, none⟩ = some (.string t138) ∧ w'.cell? ⟨gb144, 2, none⟩ = some (.int .u64 t139) ∧ w'.cell? ⟨gb144, 3, none⟩ = some (.slice Ao40 t140.length co40)) (ds := []) #[N_, N_, N_, N_, N_, N_] (by kernel_rfl) rfl rfl ⟨(blk_cell BK130.out 0).trans rfl, (blk_cell BK130.out 1).trans rfl, (blk_cell BK130.out 2).trans rfl, (blk_cell BK130.out 3).trans rfl, (blk_cell BK144.out 0).trans rfl, (blk_cell BK144.out 1).trans rfl, (blk_cell BK144.out 2).trans rfl, (blk_cell BK144.out 3).trans rfl⟩ (fun hHeld => ?_)
    generalize wc.drew = w101 at HO_130003 HO_131003 HO_144003 HO_145003 BK115 BK116 BK129 BK130 BK143 BK144 HB hHeld ⊢
    refine take_ (i := 0) (N := some 50) (v := ?_) (a' := ?_) #[Y_, N_, N_, N_, N_, N_] rfl rfl (by kernel_rfl) (fun _ _ _ h => h) (Or.inl ⟨by rfl, ?_⟩) hHeld ?_ ?_
    rotate_left
    ·rintro w' ⟨s0, s1, s2, s3, s4, s5, s6, s7⟩
     go_simp
     with_reducible rfl
    rotate_left
    ·simp only [Act.put, q1_, q2_, q3_, i64_w, i32_w]
     rfl
    refine take_ (i := 2) (N := some 52) (v := ?_) (a' := ?_) #[Y_, N_, Y_, N_, N_, N_] rfl rfl (by kernel_rfl) (fun _ _ _ h => h) (Or.inl ⟨by rfl, ?_⟩) hHeld ?_ ?_
    rotate_left
    ·rintro w' ⟨s0, s1, s2, s3, s4, s5, s6, s7⟩
     go_simp
     with_reducible rfl
    rotate_left
    ·simp only [Act.put, q1_, q2_, q3_, i64_w, i32_w]
     rfl
    refine one_ (i := 1) (N := some 51) #[Y_, Y_, Y_, N_, N_, N_] rfl rfl (by kernel_rfl) (by decide) (fun K hK => ?_)
    refine goes_ Try.func13 (by kernel_rfl) rfl #[.agg #[.int .u64 t123, .string t124, .int .u64 t125, .slice Ao22 t126.length co22]] (by rfl) rfl rfl (by (try simp only [List.map_toArray, List.map_cons, List.map_nil]); first | done | rfl | (simp only [List.length_drop, List.length_take]; rfl)) ?_
    with_reducible refine (PMk.parchmentref09_Header.calls kj4 t123 t124 t125 _ _ t126 t148 _ ?side1 ?side2 A98.out).mono ?_
    (case side1 => repeat (first | exact (Kd.R_reads' HO_131003.out).2.2 | (with_reducible refine Kd.C_alloc ?_ _) | (with_reducible refine Kd.C_drewN ?_ _) | (with_reducible refine Kd.C_drew ?_)))
    (case side2 => exact (Kd.R_reads' HO_131003.out).2.1)
    rintro e w102 ⟨rfl, hb⟩
    refine ⟨_, rfl, ?_⟩
    replace HO_130003 := Aside0.mk (Kd.V_below (by (with_reducible repeat (first | apply Kd.V_alloc | apply Kd.V_drewN | apply Kd.V_drew)); exact HO_130003.out) hb)
    replace HO_131003 := Aside0.mk (Kd.R_below (br_ HO_131003.out) hb)
    replace HO_144003 := Aside0.mk (Kd.V_below (by (with_reducible repeat (first | apply Kd.V_alloc | apply Kd.V_drewN | apply Kd.V_drew)); exact HO_144003.out) hb)
    replace HO_145003 := Aside0.mk (Kd.R_below (br_ HO_145003.out) hb)
    replace BK115 := Aside0.mk (bk_ BK115.out hb)
    replace BK116 := Aside0.mk (bk_ BK116.out hb)
    replace BK129 := Aside0.mk (bk_ BK129.out hb)
    replace BK130 := Aside0.mk (bk_ BK130.out hb)
    replace BK143 := Aside0.mk (bk_ BK143.out hb)
    replace BK144 := Aside0.mk (bk_ BK144.out hb)
    replace HB := Aside0.mk (below_step (bh_ HB.out) hb)
    (try clear hb)
    (try clear hb2)
    (try clear hk)
    (try clear hi)
    refine hK.out _ _ ⟨(blk_cell BK130.out 0).trans rfl, (blk_cell BK130.out 1).trans rfl, (blk_cell BK130.out 2).trans rfl, (blk_cell BK130.out 3).trans rfl, (blk_cell BK144.out 0).trans rfl, (blk_cell BK144.out 1).trans rfl, (blk_cell BK144.out 2).trans rfl, (blk_cell BK144.out 3).trans rfl⟩ (fun hHeld => ?_)
    clear hK K
    refine norm_ (a' := ?_) ?_ ?_
    rotate_left
    ·show Act.put _ (some 51) _ = _
     simp only [Act.put, q1_, q2_, q3_, i64_w, i32_w]
     rfl
    refine one_ (i := 3) (N := some 53) #[Y_, Y_, Y_, Y_, N_, N_] rfl rfl (by kernel_rfl) (by decide) (fun K hK => ?_)
    refine goes_ Try.func13 (by kernel_rfl) rfl #[.agg #[.int .u64 t137, .string t138, .int .u64 t139, .slice Ao40 t140.length co40]] (by rfl) rfl rfl (by (try simp only [List.map_toArray, List.map_cons, List.map_nil]); first | done | rfl | (simp only [List.length_drop, List.length_take]; rfl)) ?_
    with_reducible refine (PMk.parchmentref09_Header.calls kj4 t137 t138 t139 _ _ t140 t149 _ ?side1 ?side2 A99.out).mono ?_
    (case side1 => repeat (first | exact (Kd.R_reads' HO_145003.out).2.2 | (with_reducible refine Kd.C_alloc ?_ _) | (with_reducible refine Kd.C_drewN ?_ _) | (with_reducible refine Kd.C_drew ?_)))
    (case side2 => exact (Kd.R_reads' HO_145003.out).2.1)
    rintro e w103 ⟨rfl, hb⟩
    refine ⟨_, rfl, ?_⟩
    replace HO_130003 := Aside0.mk (Kd.V_below (by (with_reducible repeat (first | apply Kd.V_alloc | apply Kd.V_drewN | apply Kd.V_drew)); exact HO_130003.out) hb)
    replace HO_131003 := Aside0.mk (Kd.R_below (br_ HO_131003.out) hb)
    replace HO_144003 := Aside0.mk (Kd.V_below (by (with_reducible repeat (first | apply Kd.V_alloc | apply Kd.V_drewN | apply Kd.V_drew)); exact HO_144003.out) hb)
    replace HO_145003 := Aside0.mk (Kd.R_below (br_ HO_145003.out) hb)
    replace BK115 := Aside0.mk (bk_ BK115.out hb)
    replace BK116 := Aside0.mk (bk_ BK116.out hb)
    replace BK129 := Aside0.mk (bk_ BK129.out hb)
    replace BK130 := Aside0.mk (bk_ BK130.out hb)
    replace BK143 := Aside0.mk (bk_ BK143.out hb)
    replace BK144 := Aside0.mk (bk_ BK144.out hb)
    replace HB := Aside0.mk (below_step (bh_ HB.out) hb)
    (try clear hb)
    (try clear hb2)
    (try clear hk)
    (try clear hi)
    refine hK.out _ _ ⟨(blk_cell BK130.out 0).trans rfl, (blk_cell BK130.out 1).trans rfl, (blk_cell BK130.out 2).trans rfl, (blk_cell BK130.out 3).trans rfl, (blk_cell BK144.out 0).trans rfl, (blk_cell BK144.out 1).trans rfl, (blk_cell BK144.out 2).trans rfl, (blk_cell BK144.out 3).trans rfl⟩ (fun hHeld => ?_)
    clear hK K
    refine norm_ (a' := ?_) ?_ ?_
    rotate_left
    ·show Act.put _ (some 53) _ = _
     simp only [Act.put, q1_, q2_, q3_, i64_w, i32_w]
     rfl
    refine pure_ (i := 4) (N := some 54) (v := ?_) (a' := ?_) #[Y_, Y_, Y_, Y_, Y_, N_] rfl rfl (by kernel_rfl) (fun _ _ _ h => h) (Or.inl ⟨by rfl, ?_⟩) ?_ ?_
    rotate_left
    ·intro w'
     go_simp
     with_reducible rfl
    rotate_left
    ·simp only [Act.put, q1_, q2_, q3_, i64_w, i32_w]
     rfl
    refine pure_ (i := 5) (N := some 9) (v := ?_) (a' := ?_) #[Y_, Y_, Y_, Y_, Y_, Y_] rfl rfl (by kernel_rfl) (fun _ _ _ h => h) (Or.inl ⟨by rfl, ?_⟩) ?_ ?_
    rotate_left
    ·intro w'
     go_simp
     with_reducible rfl
    rotate_left
    ·simp only [Act.put, q1_, q2_, q3_, i64_w, i32_w]
     rfl
    refine done_ (by kernel_rfl) ?_
    go_upto_region 6 with (fail)
    go_cut [76] (fun v76 wc => ∃ (kq : Nat) (x76_99 : Bool), v76 = .bool x76_99 ∧ Aside0 (parchmentlaw09_BlockUnlike.j1 kq (t148.toList == t149.toList) x76_99 t123 t124 t125 t126 t137 t138 t139 t140 = some r) ∧ Aside0 (kq ≤ kj4) ∧ Aside0 (Kd.V k47 47 wc w.heap.size (fun k_ => some k_ ≠ ((.slice Ao22 t126.length co22) : Value).ownBlock ∧ some k_ ≠ ((.slice Ao40 t140.length co40) : Value).ownBlock ∧ k_ ≠ gb115 ∧ k_ ≠ gb116 ∧ k_ ≠ gb129 ∧ k_ ≠ gb130 ∧ k_ ≠ gb143 ∧ k_ ≠ gb144) (.slice Ao17 t120.length co17) t120) ∧ Aside0 (Kd.R k44 44 wc w.heap.size (fun k_ => some k_ ≠ ((.slice Ao40 t140.length co40) : Value).ownBlock) (.slice Ao22 t126.length co22) t126) ∧ Aside0 (Kd.V k47 47 wc w.heap.size (fun k_ => some k_ ≠ ((.slice Ao22 t126.length co22) : Value).ownBlock ∧ some k_ ≠ ((.slice Ao40 t140.length co40) : Value).ownBlock ∧ k_ ≠ gb115 ∧ k_ ≠ gb116 ∧ k_ ≠ gb129 ∧ k_ ≠ gb130 ∧ k_ ≠ gb143 ∧ k_ ≠ gb144) (.slice Ao34 t134.length co34) t134) ∧ Aside0 (Kd.R k44 44 wc w.heap.size (fun k_ => some k_ ≠ ((.slice Ao22 t126.length co22) : Value).ownBlock) (.slice Ao40 t140.length co40) t140) ∧ Aside0 (wc.heap[gb115]? = some (.cells #[.int .u64 a0_0, .string a0_1, .int .u64 a0_2, (.slice A0_3 l0_3.length c0_3)] 25 (0, 0))) ∧ Aside0 (wc.heap[gb116]? = some (.cells #[.int .u64 a1_0, .string a1_1, .int .u64 a1_2, (.slice A1_3 l1_3.length c1_3)] 25 (0, 0))) ∧ Aside0 (wc.heap[gb129]? = some (.cells #[.int .u64 t117, .string t118, .int .u64 t119, (.slice Ao17 t120.length co17)] 25 (0, 0))) ∧ Aside0 (wc.heap[gb130]? = some (.cells #[.int .u64 t123, .string t124, .int .u64 t125, (.slice Ao22 t126.length co22)] 28 (0, 0))) ∧ Aside0 (wc.heap[gb143]? = some (.cells #[.int .u64 t131, .string t132, .int .u64 t133, (.slice Ao34 t134.length co34)] 25 (0, 0))) ∧ Aside0 (wc.heap[gb144]? = some (.cells #[.int .u64 t137, .string t138, .int .u64 t139, (.slice Ao40 t140.length co40)] 28 (0, 0))) ∧ Aside0 (Below w.heap.size w wc))
    case first =>
     have H := HC100.out
     clear HC100
     replace H := Option.bind_eq_some_iff.mp H
     obtain ⟨t150, A1040, H⟩ := H
     replace H : (if t150 = true then ((block_Hash.f kj4 t117 t118 t119 t120).bind fun t151 => ((block_Hash.f kj4 t131 t132 t133 t134).bind fun t152 => (if ((t151.toList == t152.toList) != (t148.toList == t149.toList)) = true then ((Blk.block_Header.f kj4 t117 t118 t119 t120).bind fun t153 => (if 1 + t153.size ≤ 9223372036854775807 then ((Blk.block_Header.f kj4 t131 t132 t133 t134).bind fun t154 => (if 1 + t154.size ≤ 9223372036854775807 then ((PMk.hash_Collides.f ((⟨#[2]⟩ : ByteArray) ++ t153) ((⟨#[2]⟩ : ByteArray) ++ t154)).bind fun t155 => (parchmentlaw09_BlockUnlike.j1 kj4 (t148.toList == t149.toList) (!t155) t123 t124 t125 t126 t137 t138 t139 t140)) else (none))) else (none))) else (parchmentlaw09_BlockUnlike.j1 kj4 (t148.toList == t149.toList) false t123 t124 t125 t126 t137 t138 t139 t140)))) else (parchmentlaw09_BlockUnlike.j1 kj4 (t148.toList == t149.toList) true t123 t124 t125 t126 t137 t138 t139 t140)) = some r := H
     have A104 := Aside0.mk A1040
     clear A1040
     by_cases c105 : t150 = true
     ·subst c105
      have H1 : ((block_Hash.f kj4 t117 t118 t119 t120).bind fun t151 => ((block_Hash.f kj4 t131 t132 t133 t134).bind fun t152 => (if ((t151.toList == t152.toList) != (t148.toList == t149.toList)) = true then ((Blk.block_Header.f kj4 t117 t118 t119 t120).bind fun t153 => (if 1 + t153.size ≤ 9223372036854775807 then ((Blk.block_Header.f kj4 t131 t132 t133 t134).bind fun t154 => (if 1 + t154.size ≤ 9223372036854775807 then ((PMk.hash_Collides.f ((⟨#[2]⟩ : ByteArray) ++ t153) ((⟨#[2]⟩ : ByteArray) ++ t154)).bind fun t155 => (parchmentlaw09_BlockUnlike.j1 kj4 (t148.toList == t149.toList) (!t155) t123 t124 t125 t126 t137 t138 t139 t140)) else (none))) else (none))) else (parchmentlaw09_BlockUnlike.j1 kj4 (t148.toList == t149.toList) false t123 t124 t125 t126 t137 t138 t139 t140)))) = some r := by rw [if_pos rfl] at H; exact H
      clear H
      have H := H1
      clear H1
      replace H := Option.bind_eq_some_iff.mp H
      obtain ⟨t151, A1060, H⟩ := H
      replace H : ((block_Hash.f kj4 t131 t132 t133 t134).bind fun t152 => (if ((t151.toList == t152.toList) != (t148.toList == t149.toList)) = true then ((Blk.block_Header.f kj4 t117 t118 t119 t120).bind fun t153 => (if 1 + t153.size ≤ 9223372036854775807 then ((Blk.block_Header.f kj4 t131 t132 t133 t134).bind fun t154 => (if 1 + t154.size ≤ 9223372036854775807 then ((PMk.hash_Collides.f ((⟨#[2]⟩ : ByteArray) ++ t153) ((⟨#[2]⟩ : ByteArray) ++ t154)).bind fun t155 => (parchmentlaw09_BlockUnlike.j1 kj4 (t148.toList == t149.toList) (!t155) t123 t124 t125 t126 t137 t138 t139 t140)) else (none))) else (none))) else (parchmentlaw09_BlockUnlike.j1 kj4 (t148.toList == t149.toList) false t123 t124 t125 t126 t137 t138 t139 t140))) = some r := H
      have A106 := Aside0.mk A1060
      clear A1060
      replace H := Option.bind_eq_some_iff.mp H
      obtain ⟨t152, A1070, H⟩ := H
      replace H : (if ((t151.toList == t152.toList) != (t148.toList == t149.toList)) = true then ((Blk.block_Header.f kj4 t117 t118 t119 t120).bind fun t153 => (if 1 + t153.size ≤ 9223372036854775807 then ((Blk.block_Header.f kj4 t131 t132 t133 t134).bind fun t154 => (if 1 + t154.size ≤ 9223372036854775807 then ((PMk.hash_Collides.f ((⟨#[2]⟩ : ByteArray) ++ t153) ((⟨#[2]⟩ : ByteArray) ++ t154)).bind fun t155 => (parchmentlaw09_BlockUnlike.j1 kj4 (t148.toList == t149.toList) (!t155) t123 t124 t125 t126 t137 t138 t139 t140)) else (none))) else (none))) else (parchmentlaw09_BlockUnlike.j1 kj4 (t148.toList == t149.toList) false t123 t124 t125 t126 t137 t138 t139 t140)) = some r := H
      have A107 := Aside0.mk A1070
      clear A1070
      by_cases c108 : ((t151.toList == t152.toList) != (t148.toList == t149.toList)) = true
      ·rw [if_pos c108] at H
       have c108b0 : ((t151.toList == t152.toList) != (t148.toList == t149.toList)) = true := c108
       (try (have c108b1 : decide ((t151.toList == t152.toList) = (t148.toList == t149.toList)) = false := by simpa using c108))
       (try (have c108b2 : ((t151.toList == t152.toList) == (t148.toList == t149.toList)) = false := by simpa using c108))
       (try (have c108b3 : ¬ ((t151.toList == t152.toList) = (t148.toList == t149.toList)) := by simpa using c108))
       clear c108
       (first | rw [c108b0] | (simp only [i64_w, i32_w]; rw [c108b0]) | skip)
       replace H := Option.bind_eq_some_iff.mp H
       obtain ⟨t153, A1090, H⟩ := H
       replace H : (if 1 + t153.size ≤ 9223372036854775807 then ((Blk.block_Header.f kj4 t131 t132 t133 t134).bind fun t154 => (if 1 + t154.size ≤ 9223372036854775807 then ((PMk.hash_Collides.f ((⟨#[2]⟩ : ByteArray) ++ t153) ((⟨#[2]⟩ : ByteArray) ++ t154)).bind fun t155 => (parchmentlaw09_BlockUnlike.j1 kj4 (t148.toList == t149.toList) (!t155) t123 t124 t125 t126 t137 t138 t139 t140)) else (none))) else (none)) = some r := H
       have A109 := Aside0.mk A1090
       clear A1090
       by_cases c110 : 1 + t153.size ≤ 9223372036854775807
       ·rw [if_pos c110] at H
        have c110b0 := eq_true c110
        have c110b1 : decide (1 + t153.size ≤ 9223372036854775807) = true := decide_eq_true c110
        try have c110b2 : (9223372036854775807 < 1 + t153.size) = False := eq_false (Nat.not_lt.2 c110)
        replace H := Option.bind_eq_some_iff.mp H
        obtain ⟨t154, A1110, H⟩ := H
        replace H : (if 1 + t154.size ≤ 9223372036854775807 then ((PMk.hash_Collides.f ((⟨#[2]⟩ : ByteArray) ++ t153) ((⟨#[2]⟩ : ByteArray) ++ t154)).bind fun t155 => (parchmentlaw09_BlockUnlike.j1 kj4 (t148.toList == t149.toList) (!t155) t123 t124 t125 t126 t137 t138 t139 t140)) else (none)) = some r := H
        have A111 := Aside0.mk A1110
        clear A1110
        by_cases c112 : 1 + t154.size ≤ 9223372036854775807
        ·rw [if_pos c112] at H
         have c112b0 := eq_true c112
         have c112b1 : decide (1 + t154.size ≤ 9223372036854775807) = true := decide_eq_true c112
         try have c112b2 : (9223372036854775807 < 1 + t154.size) = False := eq_false (Nat.not_lt.2 c112)
         replace H := Option.bind_eq_some_iff.mp H
         obtain ⟨t155, A1130, H⟩ := H
         replace H : (parchmentlaw09_BlockUnlike.j1 kj4 (t148.toList == t149.toList) (!t155) t123 t124 t125 t126 t137 t138 t139 t140) = some r := H
         have A113 := Aside0.mk A1130
         clear A1130
         have H' := Aside0.mk H
         clear H
         try go_wp2
         replace HO_130003 := Aside0.mk (Kd.V_drew HO_130003.out)
         replace HO_131003 := Aside0.mk (Kd.R_drew HO_131003.out)
         replace HO_144003 := Aside0.mk (Kd.V_drew HO_144003.out)
         replace HO_145003 := Aside0.mk (Kd.R_drew HO_145003.out)
         replace BK115 := Aside0.mk (blk_drew BK115.out)
         replace BK116 := Aside0.mk (blk_drew BK116.out)
         replace BK129 := Aside0.mk (blk_drew BK129.out)
         replace BK130 := Aside0.mk (blk_drew BK130.out)
         replace BK143 := Aside0.mk (blk_drew BK143.out)
         replace BK144 := Aside0.mk (blk_drew BK144.out)
         replace HB := Aside0.mk (below_drew1 HB.out)
         refine start_ (n := 22) (S := fun w' => w'.cell? ⟨gb129, 0, none⟩ = some (.int .u64 t117) ∧ w'.cell? ⟨gb129, 1, none⟩ = some (.string t118) ∧ w'.cell? ⟨gb129, 2, none⟩ = some (.int .u64 t119) ∧ w'.cell? ⟨gb129, 3, none⟩ = some (.slice Ao17 t120.length co17) ∧ w'.cell? ⟨gb143, 0, none⟩ = some (.int .u64 t131) ∧ w'.cell? ⟨gb143, 1, none⟩ = some (.string t132) ∧ w'.cell? ⟨gb143, 2, none⟩ = some (.int .u64 t133) ∧ w'.cell? ⟨gb143, 3, none⟩ = some (.slice Ao34 t134.length co34)) (ds := []) #[N_, N_, N_, N_, N_, N_, N_, N_, N_, N_, N_, N_, N_, N_, N_, N_, N_, N_, N_, N_, N_, N_] (by kernel_rfl) rfl rfl ⟨(blk_cell BK129.out 0).trans rfl, (blk_cell BK129.out 1).trans rfl, (blk_cell BK129.out 2).trans rfl, (blk_cell BK129.out 3).trans rfl, (blk_cell BK143.out 0).trans rfl, (blk_cell BK143.out 1).trans rfl, (blk_cell BK143.out 2).trans rfl, (blk_cell BK143.out 3).trans rfl⟩ (fun hHeld => ?_); refine with_tabW parchmentlaw09_BlockUnlike.tab6 parchmentlaw09_BlockUnlike.bits6 (fun HT_ HW_ => ?_)
         generalize w103.drew = w114 at HO_130003 HO_131003 HO_144003 HO_145003 BK115 BK116 BK129 BK130 BK143 BK144 HB hHeld ⊢
         refine one_ (i := 0) (N := some 55) #[Y_, N_, N_, N_, N_, N_, N_, N_, N_, N_, N_, N_, N_, N_, N_, N_, N_, N_, N_, N_, N_, N_] rfl rfl (one_of HT_.out (by kernel_rfl)) (by decide) (fun K hK => ?_)
         refine goes_ Try.func12 (by kernel_rfl) rfl #[] (by rfl) rfl rfl (by (try simp only [List.map_toArray, List.map_cons, List.map_nil]); first | done | rfl | (simp only [List.length_drop, List.length_take]; rfl)) ?_
         with_reducible refine (Blk.law_awake.calls  true _ A104.out).mono ?_
         rintro e w115 ⟨rfl, hb⟩
         refine ⟨_, rfl, ?_⟩
         replace HO_130003 := Aside0.mk (Kd.V_below (by (with_reducible repeat (first | apply Kd.V_alloc | apply Kd.V_drewN | apply Kd.V_drew)); exact HO_130003.out) hb)
         replace HO_131003 := Aside0.mk (Kd.R_below (br_ HO_131003.out) hb)
         replace HO_144003 := Aside0.mk (Kd.V_below (by (with_reducible repeat (first | apply Kd.V_alloc | apply Kd.V_drewN | apply Kd.V_drew)); exact HO_144003.out) hb)
         replace HO_145003 := Aside0.mk (Kd.R_below (br_ HO_145003.out) hb)
         replace BK115 := Aside0.mk (bk_ BK115.out hb)
         replace BK116 := Aside0.mk (bk_ BK116.out hb)
         replace BK129 := Aside0.mk (bk_ BK129.out hb)
         replace BK130 := Aside0.mk (bk_ BK130.out hb)
         replace BK143 := Aside0.mk (bk_ BK143.out hb)
         replace BK144 := Aside0.mk (bk_ BK144.out hb)
         replace HB := Aside0.mk (below_step (bh_ HB.out) hb)
         (try clear hb)
         (try clear hb2)
         (try clear hk)
         (try clear hi)
         refine hK.out _ _ ⟨(blk_cell BK129.out 0).trans rfl, (blk_cell BK129.out 1).trans rfl, (blk_cell BK129.out 2).trans rfl, (blk_cell BK129.out 3).trans rfl, (blk_cell BK143.out 0).trans rfl, (blk_cell BK143.out 1).trans rfl, (blk_cell BK143.out 2).trans rfl, (blk_cell BK143.out 3).trans rfl⟩ (fun hHeld => ?_)
         clear hK K
         refine norm_ (a' := ?_) ?_ ?_
         rotate_left
         ·show Act.put _ (some 55) _ = _
          simp only [Act.put, q1_, q2_, q3_, i64_w, i32_w]
          rfl
         refine pure_ (i := 1) (N := some 56) (v := ?_) (a' := ?_) #[Y_, Y_, N_, N_, N_, N_, N_, N_, N_, N_, N_, N_, N_, N_, N_, N_, N_, N_, N_, N_, N_, N_] rfl rfl (any_of HT_.out (by kernel_rfl)) (fun _ _ _ h => h) (Or.inl ⟨by rfl, ?_⟩) ?_ ?_
         rotate_left
         ·intro w'
          go_simp
          with_reducible rfl
         rotate_left
         ·simp only [Act.put, q1_, q2_, q3_, i64_w, i32_w]
          rfl
         refine pure_ (i := 2) (N := some 57) (v := ?_) (a' := ?_) #[Y_, Y_, Y_, N_, N_, N_, N_, N_, N_, N_, N_, N_, N_, N_, N_, N_, N_, N_, N_, N_, N_, N_] rfl rfl (any_of HT_.out (by kernel_rfl)) (fun _ _ _ h => h) (Or.inl ⟨by rfl, ?_⟩) ?_ ?_
         rotate_left
         ·intro w'
          go_simp
          with_reducible rfl
         rotate_left
         ·simp only [Act.put, q1_, q2_, q3_, i64_w, i32_w]
          rfl
         refine pure_ (i := 8) (N := some 63) (v := ?_) (a' := ?_) #[Y_, Y_, Y_, N_, N_, N_, N_, N_, Y_, N_, N_, N_, N_, N_, N_, N_, N_, N_, N_, N_, N_, N_] rfl rfl (any_of HT_.out (by kernel_rfl)) (fun _ _ _ h => h) (Or.inl ⟨by rfl, ?_⟩) ?_ ?_
         rotate_left
         ·intro w'
          go_simp
          with_reducible rfl
         rotate_left
         ·simp only [Act.put, q1_, q2_, q3_, i64_w, i32_w]
          rfl
         refine take_ (i := 3) (N := some 58) (v := ?_) (a' := ?_) #[Y_, Y_, Y_, Y_, N_, N_, N_, N_, Y_, N_, N_, N_, N_, N_, N_, N_, N_, N_, N_, N_, N_, N_] rfl rfl (take_ofW HT_.out HW_.out (by kernel_rfl)) (fun _ _ _ h => h) (Or.inl ⟨by rfl, ?_⟩) hHeld ?_ ?_
         rotate_left
         ·rintro w' ⟨s0, s1, s2, s3, s4, s5, s6, s7⟩
          go_simp
          with_reducible rfl
         rotate_left
         ·simp only [Act.put, q1_, q2_, q3_, i64_w, i32_w]
          rfl
         refine take_ (i := 5) (N := some 60) (v := ?_) (a' := ?_) #[Y_, Y_, Y_, Y_, N_, Y_, N_, N_, Y_, N_, N_, N_, N_, N_, N_, N_, N_, N_, N_, N_, N_, N_] rfl rfl (take_ofW HT_.out HW_.out (by kernel_rfl)) (fun _ _ _ h => h) (Or.inl ⟨by rfl, ?_⟩) hHeld ?_ ?_
         rotate_left
         ·rintro w' ⟨s0, s1, s2, s3, s4, s5, s6, s7⟩
          go_simp
          with_reducible rfl
         rotate_left
         ·simp only [Act.put, q1_, q2_, q3_, i64_w, i32_w]
          rfl
         refine one_ (i := 4) (N := some 59) #[Y_, Y_, Y_, Y_, Y_, Y_, N_, N_, Y_, N_, N_, N_, N_, N_, N_, N_, N_, N_, N_, N_, N_, N_] rfl rfl (one_of HT_.out (by kernel_rfl)) (by decide) (fun K hK => ?_)
         refine goes_ Try.func14 (by kernel_rfl) rfl #[.agg #[.int .u64 t117, .string t118, .int .u64 t119, .slice Ao17 t120.length co17]] (by rfl) rfl rfl (by (try simp only [List.map_toArray, List.map_cons, List.map_nil]); first | done | rfl | (simp only [List.length_drop, List.length_take]; rfl)) ?_
         with_reducible refine (block_Hash.calls kj4 t117 t118 t119 _ _ t120 t151 _ ?side1 ?side2 A106.out).mono ?_
         (case side1 => repeat (first | exact (Kd.V_reads' HO_130003.out).2.2 | (with_reducible refine Kd.C_alloc ?_ _) | (with_reducible refine Kd.C_drewN ?_ _) | (with_reducible refine Kd.C_drew ?_)))
         (case side2 => exact (Kd.V_reads' HO_130003.out).2.1)
         rintro e w116 ⟨rfl, hb⟩
         refine ⟨_, rfl, ?_⟩
         replace HO_130003 := Aside0.mk (Kd.V_below (by (with_reducible repeat (first | apply Kd.V_alloc | apply Kd.V_drewN | apply Kd.V_drew)); exact HO_130003.out) hb)
         replace HO_131003 := Aside0.mk (Kd.R_below (br_ HO_131003.out) hb)
         replace HO_144003 := Aside0.mk (Kd.V_below (by (with_reducible repeat (first | apply Kd.V_alloc | apply Kd.V_drewN | apply Kd.V_drew)); exact HO_144003.out) hb)
         replace HO_145003 := Aside0.mk (Kd.R_below (br_ HO_145003.out) hb)
         replace BK115 := Aside0.mk (bk_ BK115.out hb)
         replace BK116 := Aside0.mk (bk_ BK116.out hb)
         replace BK129 := Aside0.mk (bk_ BK129.out hb)
         replace BK130 := Aside0.mk (bk_ BK130.out hb)
         replace BK143 := Aside0.mk (bk_ BK143.out hb)
         replace BK144 := Aside0.mk (bk_ BK144.out hb)
         replace HB := Aside0.mk (below_step (bh_ HB.out) hb)
         (try clear hb)
         (try clear hb2)
         (try clear hk)
         (try clear hi)
         refine hK.out _ _ ⟨(blk_cell BK129.out 0).trans rfl, (blk_cell BK129.out 1).trans rfl, (blk_cell BK129.out 2).trans rfl, (blk_cell BK129.out 3).trans rfl, (blk_cell BK143.out 0).trans rfl, (blk_cell BK143.out 1).trans rfl, (blk_cell BK143.out 2).trans rfl, (blk_cell BK143.out 3).trans rfl⟩ (fun hHeld => ?_)
         clear hK K
         refine norm_ (a' := ?_) ?_ ?_
         rotate_left
         ·show Act.put _ (some 59) _ = _
          simp only [Act.put, q1_, q2_, q3_, i64_w, i32_w]
          rfl
         refine one_ (i := 6) (N := some 61) #[Y_, Y_, Y_, Y_, Y_, Y_, Y_, N_, Y_, N_, N_, N_, N_, N_, N_, N_, N_, N_, N_, N_, N_, N_] rfl rfl (one_of HT_.out (by kernel_rfl)) (by decide) (fun K hK => ?_)
         refine goes_ Try.func14 (by kernel_rfl) rfl #[.agg #[.int .u64 t131, .string t132, .int .u64 t133, .slice Ao34 t134.length co34]] (by rfl) rfl rfl (by (try simp only [List.map_toArray, List.map_cons, List.map_nil]); first | done | rfl | (simp only [List.length_drop, List.length_take]; rfl)) ?_
         with_reducible refine (block_Hash.calls kj4 t131 t132 t133 _ _ t134 t152 _ ?side1 ?side2 A107.out).mono ?_
         (case side1 => repeat (first | exact (Kd.V_reads' HO_144003.out).2.2 | (with_reducible refine Kd.C_alloc ?_ _) | (with_reducible refine Kd.C_drewN ?_ _) | (with_reducible refine Kd.C_drew ?_)))
         (case side2 => exact (Kd.V_reads' HO_144003.out).2.1)
         rintro e w117 ⟨rfl, hb⟩
         refine ⟨_, rfl, ?_⟩
         replace HO_130003 := Aside0.mk (Kd.V_below (by (with_reducible repeat (first | apply Kd.V_alloc | apply Kd.V_drewN | apply Kd.V_drew)); exact HO_130003.out) hb)
         replace HO_131003 := Aside0.mk (Kd.R_below (br_ HO_131003.out) hb)
         replace HO_144003 := Aside0.mk (Kd.V_below (by (with_reducible repeat (first | apply Kd.V_alloc | apply Kd.V_drewN | apply Kd.V_drew)); exact HO_144003.out) hb)
         replace HO_145003 := Aside0.mk (Kd.R_below (br_ HO_145003.out) hb)
         replace BK115 := Aside0.mk (bk_ BK115.out hb)
         replace BK116 := Aside0.mk (bk_ BK116.out hb)
         replace BK129 := Aside0.mk (bk_ BK129.out hb)
         replace BK130 := Aside0.mk (bk_ BK130.out hb)
         replace BK143 := Aside0.mk (bk_ BK143.out hb)
         replace BK144 := Aside0.mk (bk_ BK144.out hb)
         replace HB := Aside0.mk (below_step (bh_ HB.out) hb)
         (try clear hb)
         (try clear hb2)
         (try clear hk)
         (try clear hi)
         refine hK.out _ _ ⟨(blk_cell BK129.out 0).trans rfl, (blk_cell BK129.out 1).trans rfl, (blk_cell BK129.out 2).trans rfl, (blk_cell BK129.out 3).trans rfl, (blk_cell BK143.out 0).trans rfl, (blk_cell BK143.out 1).trans rfl, (blk_cell BK143.out 2).trans rfl, (blk_cell BK143.out 3).trans rfl⟩ (fun hHeld => ?_)
         clear hK K
         refine norm_ (a' := ?_) ?_ ?_
         rotate_left
         ·show Act.put _ (some 61) _ = _
          simp only [Act.put, q1_, q2_, q3_, i64_w, i32_w]
          rfl
         refine pure_ (i := 7) (N := some 62) (v := ?_) (a' := ?_) #[Y_, Y_, Y_, Y_, Y_, Y_, Y_, Y_, Y_, N_, N_, N_, N_, N_, N_, N_, N_, N_, N_, N_, N_, N_] rfl rfl (any_of HT_.out (by kernel_rfl)) (fun _ _ _ h => h) (Or.inl ⟨by rfl, ?_⟩) ?_ ?_
         rotate_left
         ·intro w'
          go_simp
          with_reducible rfl
         rotate_left
         ·simp only [Act.put, q1_, q2_, q3_, i64_w, i32_w]
          rfl
         refine pure_ (i := 9) (N := some 64) (v := ?_) (a' := ?_) #[Y_, Y_, Y_, Y_, Y_, Y_, Y_, Y_, Y_, Y_, N_, N_, N_, N_, N_, N_, N_, N_, N_, N_, N_, N_] rfl rfl (any_of HT_.out (by kernel_rfl)) (fun _ _ _ h => h) (Or.inl ⟨by rfl, ?_⟩) ?_ ?_
         rotate_left
         ·intro w'
          go_simp
          with_reducible rfl
         rotate_left
         ·simp only [Act.put, q1_, q2_, q3_, i64_w, i32_w]
          rfl
         refine pure_ (i := 10) (N := some 65) (v := ?_) (a' := ?_) #[Y_, Y_, Y_, Y_, Y_, Y_, Y_, Y_, Y_, Y_, Y_, N_, N_, N_, N_, N_, N_, N_, N_, N_, N_, N_] rfl rfl (any_of HT_.out (by kernel_rfl)) (fun _ _ _ h => h) (Or.inl ⟨by rfl, ?_⟩) ?_ ?_
         rotate_left
         ·intro w'
          go_simp
          with_reducible rfl
         rotate_left
         ·simp only [Act.put, q1_, q2_, q3_, i64_w, i32_w]
          rfl
         refine take_ (i := 11) (N := some 66) (v := ?_) (a' := ?_) #[Y_, Y_, Y_, Y_, Y_, Y_, Y_, Y_, Y_, Y_, Y_, Y_, N_, N_, N_, N_, N_, N_, N_, N_, N_, N_] rfl rfl (take_ofW HT_.out HW_.out (by kernel_rfl)) (fun _ _ _ h => h) (Or.inl ⟨by rfl, ?_⟩) hHeld ?_ ?_
         rotate_left
         ·rintro w' ⟨s0, s1, s2, s3, s4, s5, s6, s7⟩
          go_simp
          with_reducible rfl
         rotate_left
         ·simp only [Act.put, q1_, q2_, q3_, i64_w, i32_w]
          rfl
         refine take_ (i := 14) (N := some 69) (v := ?_) (a' := ?_) #[Y_, Y_, Y_, Y_, Y_, Y_, Y_, Y_, Y_, Y_, Y_, Y_, N_, N_, Y_, N_, N_, N_, N_, N_, N_, N_] rfl rfl (take_ofW HT_.out HW_.out (by kernel_rfl)) (fun _ _ _ h => h) (Or.inl ⟨by rfl, ?_⟩) hHeld ?_ ?_
         rotate_left
         ·rintro w' ⟨s0, s1, s2, s3, s4, s5, s6, s7⟩
          go_simp
          with_reducible rfl
         rotate_left
         ·simp only [Act.put, q1_, q2_, q3_, i64_w, i32_w]
          rfl
         refine one_ (i := 12) (N := some 67) #[Y_, Y_, Y_, Y_, Y_, Y_, Y_, Y_, Y_, Y_, Y_, Y_, Y_, N_, Y_, N_, N_, N_, N_, N_, N_, N_] rfl rfl (one_of HT_.out (by kernel_rfl)) (by decide) (fun K hK => ?_)
         refine goes_ Try.func16 (by kernel_rfl) rfl #[.agg #[.int .u64 t117, .string t118, .int .u64 t119, .slice Ao17 t120.length co17]] (by rfl) rfl rfl (by (try simp only [List.map_toArray, List.map_cons, List.map_nil]); first | done | rfl | (simp only [List.length_drop, List.length_take]; rfl)) ?_
         with_reducible refine (Blk.block_Header.calls kj4 t117 t118 t119 _ _ t120 t153 _ ?side1 ?side2 A109.out).mono ?_
         (case side1 => repeat (first | exact (Kd.V_reads' HO_130003.out).2.2 | (with_reducible refine Kd.C_alloc ?_ _) | (with_reducible refine Kd.C_drewN ?_ _) | (with_reducible refine Kd.C_drew ?_)))
         (case side2 => exact (Kd.V_reads' HO_130003.out).2.1)
         rintro e w118 ⟨rfl, hb⟩
         refine ⟨_, rfl, ?_⟩
         replace HO_130003 := Aside0.mk (Kd.V_below (by (with_reducible repeat (first | apply Kd.V_alloc | apply Kd.V_drewN | apply Kd.V_drew)); exact HO_130003.out) hb)
         replace HO_131003 := Aside0.mk (Kd.R_below (br_ HO_131003.out) hb)
         replace HO_144003 := Aside0.mk (Kd.V_below (by (with_reducible repeat (first | apply Kd.V_alloc | apply Kd.V_drewN | apply Kd.V_drew)); exact HO_144003.out) hb)
         replace HO_145003 := Aside0.mk (Kd.R_below (br_ HO_145003.out) hb)
         replace BK115 := Aside0.mk (bk_ BK115.out hb)
         replace BK116 := Aside0.mk (bk_ BK116.out hb)
         replace BK129 := Aside0.mk (bk_ BK129.out hb)
         replace BK130 := Aside0.mk (bk_ BK130.out hb)
         replace BK143 := Aside0.mk (bk_ BK143.out hb)
         replace BK144 := Aside0.mk (bk_ BK144.out hb)
         replace HB := Aside0.mk (below_step (bh_ HB.out) hb)
         (try clear hb)
         (try clear hb2)
         (try clear hk)
         (try clear hi)
         refine hK.out _ _ ⟨(blk_cell BK129.out 0).trans rfl, (blk_cell BK129.out 1).trans rfl, (blk_cell BK129.out 2).trans rfl, (blk_cell BK129.out 3).trans rfl, (blk_cell BK143.out 0).trans rfl, (blk_cell BK143.out 1).trans rfl, (blk_cell BK143.out 2).trans rfl, (blk_cell BK143.out 3).trans rfl⟩ (fun hHeld => ?_)
         clear hK K
         refine norm_ (a' := ?_) ?_ ?_
         rotate_left
         ·show Act.put _ (some 67) _ = _
          simp only [Act.put, q1_, q2_, q3_, i64_w, i32_w]
          rfl
         refine pure_ (i := 13) (N := some 68) (v := ?_) (a' := ?_) #[Y_, Y_, Y_, Y_, Y_, Y_, Y_, Y_, Y_, Y_, Y_, Y_, Y_, Y_, Y_, N_, N_, N_, N_, N_, N_, N_] rfl rfl (any_of HT_.out (by kernel_rfl)) (fun _ _ _ h => h) (Or.inl ⟨by rfl, ?_⟩) ?_ ?_
         rotate_left
         ·intro w'
          go_simp
          with_reducible rfl
         rotate_left
         ·simp only [Act.put, q1_, q2_, q3_, i64_w, i32_w]
          rfl
         refine one_ (i := 15) (N := some 70) #[Y_, Y_, Y_, Y_, Y_, Y_, Y_, Y_, Y_, Y_, Y_, Y_, Y_, Y_, Y_, Y_, N_, N_, N_, N_, N_, N_] rfl rfl (one_of HT_.out (by kernel_rfl)) (by decide) (fun K hK => ?_)
         refine goes_ Try.func16 (by kernel_rfl) rfl #[.agg #[.int .u64 t131, .string t132, .int .u64 t133, .slice Ao34 t134.length co34]] (by rfl) rfl rfl (by (try simp only [List.map_toArray, List.map_cons, List.map_nil]); first | done | rfl | (simp only [List.length_drop, List.length_take]; rfl)) ?_
         with_reducible refine (Blk.block_Header.calls kj4 t131 t132 t133 _ _ t134 t154 _ ?side1 ?side2 A111.out).mono ?_
         (case side1 => repeat (first | exact (Kd.V_reads' HO_144003.out).2.2 | (with_reducible refine Kd.C_alloc ?_ _) | (with_reducible refine Kd.C_drewN ?_ _) | (with_reducible refine Kd.C_drew ?_)))
         (case side2 => exact (Kd.V_reads' HO_144003.out).2.1)
         rintro e w119 ⟨rfl, hb⟩
         refine ⟨_, rfl, ?_⟩
         replace HO_130003 := Aside0.mk (Kd.V_below (by (with_reducible repeat (first | apply Kd.V_alloc | apply Kd.V_drewN | apply Kd.V_drew)); exact HO_130003.out) hb)
         replace HO_131003 := Aside0.mk (Kd.R_below (br_ HO_131003.out) hb)
         replace HO_144003 := Aside0.mk (Kd.V_below (by (with_reducible repeat (first | apply Kd.V_alloc | apply Kd.V_drewN | apply Kd.V_drew)); exact HO_144003.out) hb)
         replace HO_145003 := Aside0.mk (Kd.R_below (br_ HO_145003.out) hb)
         replace BK115 := Aside0.mk (bk_ BK115.out hb)
         replace BK116 := Aside0.mk (bk_ BK116.out hb)
         replace BK129 := Aside0.mk (bk_ BK129.out hb)
         replace BK130 := Aside0.mk (bk_ BK130.out hb)
         replace BK143 := Aside0.mk (bk_ BK143.out hb)
         replace BK144 := Aside0.mk (bk_ BK144.out hb)
         replace HB := Aside0.mk (below_step (bh_ HB.out) hb)
         (try clear hb)
         (try clear hb2)
         (try clear hk)
         (try clear hi)
         refine hK.out _ _ ⟨(blk_cell BK129.out 0).trans rfl, (blk_cell BK129.out 1).trans rfl, (blk_cell BK129.out 2).trans rfl, (blk_cell BK129.out 3).trans rfl, (blk_cell BK143.out 0).trans rfl, (blk_cell BK143.out 1).trans rfl, (blk_cell BK143.out 2).trans rfl, (blk_cell BK143.out 3).trans rfl⟩ (fun hHeld => ?_)
         clear hK K
         refine norm_ (a' := ?_) ?_ ?_
         rotate_left
         ·show Act.put _ (some 70) _ = _
          simp only [Act.put, q1_, q2_, q3_, i64_w, i32_w]
          rfl
         refine pure_ (i := 16) (N := some 71) (v := ?_) (a' := ?_) #[Y_, Y_, Y_, Y_, Y_, Y_, Y_, Y_, Y_, Y_, Y_, Y_, Y_, Y_, Y_, Y_, Y_, N_, N_, N_, N_, N_] rfl rfl (any_of HT_.out (by kernel_rfl)) (fun _ _ _ h => h) (Or.inl ⟨by rfl, ?_⟩) ?_ ?_
         rotate_left
         ·intro w'
          go_simp
          with_reducible rfl
         rotate_left
         ·simp only [Act.put, q1_, q2_, q3_, i64_w, i32_w]
          rfl
         refine pure_ (i := 17) (N := some 72) (v := ?_) (a' := ?_) #[Y_, Y_, Y_, Y_, Y_, Y_, Y_, Y_, Y_, Y_, Y_, Y_, Y_, Y_, Y_, Y_, Y_, Y_, N_, N_, N_, N_] rfl rfl (any_of HT_.out (by kernel_rfl)) (fun _ _ _ h => h) (Or.inl ⟨by rfl, ?_⟩) ?_ ?_
         rotate_left
         ·intro w'
          go_simp
          with_reducible rfl
         rotate_left
         ·simp only [Act.put, q1_, q2_, q3_, i64_w, i32_w]
          rfl
         refine one_ (i := 18) (N := some 73) #[Y_, Y_, Y_, Y_, Y_, Y_, Y_, Y_, Y_, Y_, Y_, Y_, Y_, Y_, Y_, Y_, Y_, Y_, Y_, N_, N_, N_] rfl rfl (one_of HT_.out (by kernel_rfl)) (by decide) (fun K hK => ?_)
         refine goes_ Try.func15 (by kernel_rfl) rfl #[.agg #[.string ((⟨#[2]⟩ : ByteArray) ++ t153), .string ((⟨#[2]⟩ : ByteArray) ++ t154)]] (by rfl) rfl rfl (by (try simp only [List.map_toArray, List.map_cons, List.map_nil]); first | done | rfl | (simp only [List.length_drop, List.length_take]; rfl)) ?_
         with_reducible refine (PMk.hash_Collides.calls ((⟨#[2]⟩ : ByteArray) ++ t153) ((⟨#[2]⟩ : ByteArray) ++ t154) t155 _ A113.out).mono ?_
         rintro e w120 ⟨rfl, hb⟩
         refine ⟨_, rfl, ?_⟩
         replace HO_130003 := Aside0.mk (Kd.V_below (by (with_reducible repeat (first | apply Kd.V_alloc | apply Kd.V_drewN | apply Kd.V_drew)); exact HO_130003.out) hb)
         replace HO_131003 := Aside0.mk (Kd.R_below (br_ HO_131003.out) hb)
         replace HO_144003 := Aside0.mk (Kd.V_below (by (with_reducible repeat (first | apply Kd.V_alloc | apply Kd.V_drewN | apply Kd.V_drew)); exact HO_144003.out) hb)
         replace HO_145003 := Aside0.mk (Kd.R_below (br_ HO_145003.out) hb)
         replace BK115 := Aside0.mk (bk_ BK115.out hb)
         replace BK116 := Aside0.mk (bk_ BK116.out hb)
         replace BK129 := Aside0.mk (bk_ BK129.out hb)
         replace BK130 := Aside0.mk (bk_ BK130.out hb)
         replace BK143 := Aside0.mk (bk_ BK143.out hb)
         replace BK144 := Aside0.mk (bk_ BK144.out hb)
         replace HB := Aside0.mk (below_step (bh_ HB.out) hb)
         (try clear hb)
         (try clear hb2)
         (try clear hk)
         (try clear hi)
         refine hK.out _ _ ⟨(blk_cell BK129.out 0).trans rfl, (blk_cell BK129.out 1).trans rfl, (blk_cell BK129.out 2).trans rfl, (blk_cell BK129.out 3).trans rfl, (blk_cell BK143.out 0).trans rfl, (blk_cell BK143.out 1).trans rfl, (blk_cell BK143.out 2).trans rfl, (blk_cell BK143.out 3).trans rfl⟩ (fun hHeld => ?_)
         clear hK K
         refine norm_ (a' := ?_) ?_ ?_
         rotate_left
         ·show Act.put _ (some 73) _ = _
          simp only [Act.put, q1_, q2_, q3_, i64_w, i32_w]
          rfl
         refine pure_ (i := 19) (N := some 74) (v := ?_) (a' := ?_) #[Y_, Y_, Y_, Y_, Y_, Y_, Y_, Y_, Y_, Y_, Y_, Y_, Y_, Y_, Y_, Y_, Y_, Y_, Y_, Y_, N_, N_] rfl rfl (any_of HT_.out (by kernel_rfl)) (fun _ _ _ h => h) (Or.inl ⟨by rfl, ?_⟩) ?_ ?_
         rotate_left
         ·intro w'
          go_simp
          with_reducible rfl
         rotate_left
         ·simp only [Act.put, q1_, q2_, q3_, i64_w, i32_w]
          rfl
         refine pure_ (i := 20) (N := some 75) (v := ?_) (a' := ?_) #[Y_, Y_, Y_, Y_, Y_, Y_, Y_, Y_, Y_, Y_, Y_, Y_, Y_, Y_, Y_, Y_, Y_, Y_, Y_, Y_, Y_, N_] rfl rfl (any_of HT_.out (by kernel_rfl)) (fun _ _ _ h => h) (Or.inl ⟨by rfl, ?_⟩) ?_ ?_
         rotate_left
         ·intro w'
          go_simp
          with_reducible rfl
         rotate_left
         ·simp only [Act.put, q1_, q2_, q3_, i64_w, i32_w]
          rfl
         refine pure_ (i := 21) (N := some 76) (v := ?_) (a' := ?_) #[Y_, Y_, Y_, Y_, Y_, Y_, Y_, Y_, Y_, Y_, Y_, Y_, Y_, Y_, Y_, Y_, Y_, Y_, Y_, Y_, Y_, Y_] rfl rfl (any_of HT_.out (by kernel_rfl)) (fun _ _ _ h => h) (Or.inl ⟨by rfl, ?_⟩) ?_ ?_
         rotate_left
         ·intro w'
          go_simp
          with_reducible rfl
         rotate_left
         ·simp only [Act.put, q1_, q2_, q3_, i64_w, i32_w]
          rfl
         refine done_ (done_of HT_.out (by kernel_rfl)) ?_
         try go_wp2
         go_meet
         case rel => exact ⟨_, (!t155), (by first | rfl | (simp; done) | (simp [*]; done)), H', ⟨by have := HJ4.out; first | omega | exact Nat.le_refl _⟩, ⟨by (with_reducible repeat (first | apply Kd.V_alloc | apply Kd.V_drewN | apply Kd.V_drew)); exact HO_130003.out⟩, ⟨br_ HO_131003.out⟩, ⟨by (with_reducible repeat (first | apply Kd.V_alloc | apply Kd.V_drewN | apply Kd.V_drew)); exact HO_144003.out⟩, ⟨br_ HO_145003.out⟩, ⟨bq_ BK115.out⟩, ⟨bq_ BK116.out⟩, ⟨bq_ BK129.out⟩, ⟨bq_ BK130.out⟩, ⟨bq_ BK143.out⟩, ⟨bq_ BK144.out⟩, ⟨bh_ HB.out⟩⟩
        ·rw [if_neg c112] at H
         exact absurd H (by simp)
       ·rw [if_neg c110] at H
        exact absurd H (by simp)
      ·rw [if_neg c108] at H
       have c108b0 : ((t151.toList == t152.toList) != (t148.toList == t149.toList)) = false := by simpa using c108
       (try (have c108b1 : decide ((t151.toList == t152.toList) = (t148.toList == t149.toList)) = true := by simpa using c108))
       (try (have c108b2 : ((t151.toList == t152.toList) == (t148.toList == t149.toList)) = true := by simpa using c108))
       clear c108
       (first | rw [c108b0] | (simp only [i64_w, i32_w]; rw [c108b0]) | skip)
       have H' := Aside0.mk H
       clear H
       try go_wp2
       replace HO_130003 := Aside0.mk (Kd.V_drew HO_130003.out)
       replace HO_131003 := Aside0.mk (Kd.R_drew HO_131003.out)
       replace HO_144003 := Aside0.mk (Kd.V_drew HO_144003.out)
       replace HO_145003 := Aside0.mk (Kd.R_drew HO_145003.out)
       replace BK115 := Aside0.mk (blk_drew BK115.out)
       replace BK116 := Aside0.mk (blk_drew BK116.out)
       replace BK129 := Aside0.mk (blk_drew BK129.out)
       replace BK130 := Aside0.mk (blk_drew BK130.out)
       replace BK143 := Aside0.mk (blk_drew BK143.out)
       replace BK144 := Aside0.mk (blk_drew BK144.out)
       replace HB := Aside0.mk (below_drew1 HB.out)
       refine start_ (n := 22) (S := fun w' => w'.cell? ⟨gb129, 0, none⟩ = some (.int .u64 t117) ∧ w'.cell? ⟨gb129, 1, none⟩ = some (.string t118) ∧ w'.cell? ⟨gb129, 2, none⟩ = some (.int .u64 t119) ∧ w'.cell? ⟨gb129, 3, none⟩ = some (.slice Ao17 t120.length co17) ∧ w'.cell? ⟨gb143, 0, none⟩ = some (.int .u64 t131) ∧ w'.cell? ⟨gb143, 1, none⟩ = some (.string t132) ∧ w'.cell? ⟨gb143, 2, none⟩ = some (.int .u64 t133) ∧ w'.cell? ⟨gb143, 3, none⟩ = some (.slice Ao34 t134.length co34)) (ds := []) #[N_, N_, N_, N_, N_, N_, N_, N_, N_, N_, N_, N_, N_, N_, N_, N_, N_, N_, N_, N_, N_, N_] (by kernel_rfl) rfl rfl ⟨(blk_cell BK129.out 0).trans rfl, (blk_cell BK129.out 1).trans rfl, (blk_cell BK129.out 2).trans rfl, (blk_cell BK129.out 3).trans rfl, (blk_cell BK143.out 0).trans rfl, (blk_cell BK143.out 1).trans rfl, (blk_cell BK143.out 2).trans rfl, (blk_cell BK143.out 3).trans rfl⟩ (fun hHeld => ?_); refine with_tabW parchmentlaw09_BlockUnlike.tab6 parchmentlaw09_BlockUnlike.bits6 (fun HT_ HW_ => ?_)
       generalize w103.drew = w121 at HO_130003 HO_131003 HO_144003 HO_145003 BK115 BK116 BK129 BK130 BK143 BK144 HB hHeld ⊢
       refine one_ (i := 0) (N := some 55) #[Y_, N_, N_, N_, N_, N_, N_, N_, N_, N_, N_, N_, N_, N_, N_, N_, N_, N_, N_, N_, N_, N_] rfl rfl (one_of HT_.out (by kernel_rfl)) (by decide) (fun K hK => ?_)
       refine goes_ Try.func12 (by kernel_rfl) rfl #[] (by rfl) rfl rfl (by (try simp only [List.map_toArray, List.map_cons, List.map_nil]); first | done | rfl | (simp only [List.length_drop, List.length_take]; rfl)) ?_
       with_reducible refine (Blk.law_awake.calls  true _ A104.out).mono ?_
       rintro e w122 ⟨rfl, hb⟩
       refine ⟨_, rfl, ?_⟩
       replace HO_130003 := Aside0.mk (Kd.V_below (by (with_reducible repeat (first | apply Kd.V_alloc | apply Kd.V_drewN | apply Kd.V_drew)); exact HO_130003.out) hb)
       replace HO_131003 := Aside0.mk (Kd.R_below (br_ HO_131003.out) hb)
       replace HO_144003 := Aside0.mk (Kd.V_below (by (with_reducible repeat (first | apply Kd.V_alloc | apply Kd.V_drewN | apply Kd.V_drew)); exact HO_144003.out) hb)
       replace HO_145003 := Aside0.mk (Kd.R_below (br_ HO_145003.out) hb)
       replace BK115 := Aside0.mk (bk_ BK115.out hb)
       replace BK116 := Aside0.mk (bk_ BK116.out hb)
       replace BK129 := Aside0.mk (bk_ BK129.out hb)
       replace BK130 := Aside0.mk (bk_ BK130.out hb)
       replace BK143 := Aside0.mk (bk_ BK143.out hb)
       replace BK144 := Aside0.mk (bk_ BK144.out hb)
       replace HB := Aside0.mk (below_step (bh_ HB.out) hb)
       (try clear hb)
       (try clear hb2)
       (try clear hk)
       (try clear hi)
       refine hK.out _ _ ⟨(blk_cell BK129.out 0).trans rfl, (blk_cell BK129.out 1).trans rfl, (blk_cell BK129.out 2).trans rfl, (blk_cell BK129.out 3).trans rfl, (blk_cell BK143.out 0).trans rfl, (blk_cell BK143.out 1).trans rfl, (blk_cell BK143.out 2).trans rfl, (blk_cell BK143.out 3).trans rfl⟩ (fun hHeld => ?_)
       clear hK K
       refine norm_ (a' := ?_) ?_ ?_
       rotate_left
       ·show Act.put _ (some 55) _ = _
        simp only [Act.put, q1_, q2_, q3_, i64_w, i32_w]
        rfl
       refine pure_ (i := 1) (N := some 56) (v := ?_) (a' := ?_) #[Y_, Y_, N_, N_, N_, N_, N_, N_, N_, N_, N_, N_, N_, N_, N_, N_, N_, N_, N_, N_, N_, N_] rfl rfl (any_of HT_.out (by kernel_rfl)) (fun _ _ _ h => h) (Or.inl ⟨by rfl, ?_⟩) ?_ ?_
       rotate_left
       ·intro w'
        go_simp
        with_reducible rfl
       rotate_left
       ·simp only [Act.put, q1_, q2_, q3_, i64_w, i32_w]
        rfl
       refine pure_ (i := 2) (N := some 57) (v := ?_) (a' := ?_) #[Y_, Y_, Y_, N_, N_, N_, N_, N_, N_, N_, N_, N_, N_, N_, N_, N_, N_, N_, N_, N_, N_, N_] rfl rfl (any_of HT_.out (by kernel_rfl)) (fun _ _ _ h => h) (Or.inl ⟨by rfl, ?_⟩) ?_ ?_
       rotate_left
       ·intro w'
        go_simp
        with_reducible rfl
       rotate_left
       ·simp only [Act.put, q1_, q2_, q3_, i64_w, i32_w]
        rfl
       refine pure_ (i := 8) (N := some 63) (v := ?_) (a' := ?_) #[Y_, Y_, Y_, N_, N_, N_, N_, N_, Y_, N_, N_, N_, N_, N_, N_, N_, N_, N_, N_, N_, N_, N_] rfl rfl (any_of HT_.out (by kernel_rfl)) (fun _ _ _ h => h) (Or.inl ⟨by rfl, ?_⟩) ?_ ?_
       rotate_left
       ·intro w'
        go_simp
        with_reducible rfl
       rotate_left
       ·simp only [Act.put, q1_, q2_, q3_, i64_w, i32_w]
        rfl
       refine take_ (i := 3) (N := some 58) (v := ?_) (a' := ?_) #[Y_, Y_, Y_, Y_, N_, N_, N_, N_, Y_, N_, N_, N_, N_, N_, N_, N_, N_, N_, N_, N_, N_, N_] rfl rfl (take_ofW HT_.out HW_.out (by kernel_rfl)) (fun _ _ _ h => h) (Or.inl ⟨by rfl, ?_⟩) hHeld ?_ ?_
       rotate_left
       ·rintro w' ⟨s0, s1, s2, s3, s4, s5, s6, s7⟩
        go_simp
        with_reducible rfl
       rotate_left
       ·simp only [Act.put, q1_, q2_, q3_, i64_w, i32_w]
        rfl
       refine take_ (i := 5) (N := some 60) (v := ?_) (a' := ?_) #[Y_, Y_, Y_, Y_, N_, Y_, N_, N_, Y_, N_, N_, N_, N_, N_, N_, N_, N_, N_, N_, N_, N_, N_] rfl rfl (take_ofW HT_.out HW_.out (by kernel_rfl)) (fun _ _ _ h => h) (Or.inl ⟨by rfl, ?_⟩) hHeld ?_ ?_
       rotate_left
       ·rintro w' ⟨s0, s1, s2, s3, s4, s5, s6, s7⟩
        go_simp
        with_reducible rfl
       rotate_left
       ·simp only [Act.put, q1_, q2_, q3_, i64_w, i32_w]
        rfl
       refine one_ (i := 4) (N := some 59) #[Y_, Y_, Y_, Y_, Y_, Y_, N_, N_, Y_, N_, N_, N_, N_, N_, N_, N_, N_, N_, N_, N_, N_, N_] rfl rfl (one_of HT_.out (by kernel_rfl)) (by decide) (fun K hK => ?_)
       refine goes_ Try.func14 (by kernel_rfl) rfl #[.agg #[.int .u64 t117, .string t118, .int .u64 t119, .slice Ao17 t120.length co17]] (by rfl) rfl rfl (by (try simp only [List.map_toArray, List.map_cons, List.map_nil]); first | done | rfl | (simp only [List.length_drop, List.length_take]; rfl)) ?_
       with_reducible refine (block_Hash.calls kj4 t117 t118 t119 _ _ t120 t151 _ ?side1 ?side2 A106.out).mono ?_
       (case side1 => repeat (first | exact (Kd.V_reads' HO_130003.out).2.2 | (with_reducible refine Kd.C_alloc ?_ _) | (with_reducible refine Kd.C_drewN ?_ _) | (with_reducible refine Kd.C_drew ?_)))
       (case side2 => exact (Kd.V_reads' HO_130003.out).2.1)
       rintro e w123 ⟨rfl, hb⟩
       refine ⟨_, rfl, ?_⟩
       replace HO_130003 := Aside0.mk (Kd.V_below (by (with_reducible repeat (first | apply Kd.V_alloc | apply Kd.V_drewN | apply Kd.V_drew)); exact HO_130003.out) hb)
       replace HO_131003 := Aside0.mk (Kd.R_below (br_ HO_131003.out) hb)
       replace HO_144003 := Aside0.mk (Kd.V_below (by (with_reducible repeat (first | apply Kd.V_alloc | apply Kd.V_drewN | apply Kd.V_drew)); exact HO_144003.out) hb)
       replace HO_145003 := Aside0.mk (Kd.R_below (br_ HO_145003.out) hb)
       replace BK115 := Aside0.mk (bk_ BK115.out hb)
       replace BK116 := Aside0.mk (bk_ BK116.out hb)
       replace BK129 := Aside0.mk (bk_ BK129.out hb)
       replace BK130 := Aside0.mk (bk_ BK130.out hb)
       replace BK143 := Aside0.mk (bk_ BK143.out hb)
       replace BK144 := Aside0.mk (bk_ BK144.out hb)
       replace HB := Aside0.mk (below_step (bh_ HB.out) hb)
       (try clear hb)
       (try clear hb2)
       (try clear hk)
       (try clear hi)
       refine hK.out _ _ ⟨(blk_cell BK129.out 0).trans rfl, (blk_cell BK129.out 1).trans rfl, (blk_cell BK129.out 2).trans rfl, (blk_cell BK129.out 3).trans rfl, (blk_cell BK143.out 0).trans rfl, (blk_cell BK143.out 1).trans rfl, (blk_cell BK143.out 2).trans rfl, (blk_cell BK143.out 3).trans rfl⟩ (fun hHeld => ?_)
       clear hK K
       refine norm_ (a' := ?_) ?_ ?_
       rotate_left
       ·show Act.put _ (some 59) _ = _
        simp only [Act.put, q1_, q2_, q3_, i64_w, i32_w]
        rfl
       refine one_ (i := 6) (N := some 61) #[Y_, Y_, Y_, Y_, Y_, Y_, Y_, N_, Y_, N_, N_, N_, N_, N_, N_, N_, N_, N_, N_, N_, N_, N_] rfl rfl (one_of HT_.out (by kernel_rfl)) (by decide) (fun K hK => ?_)
       refine goes_ Try.func14 (by kernel_rfl) rfl #[.agg #[.int .u64 t131, .string t132, .int .u64 t133, .slice Ao34 t134.length co34]] (by rfl) rfl rfl (by (try simp only [List.map_toArray, List.map_cons, List.map_nil]); first | done | rfl | (simp only [List.length_drop, List.length_take]; rfl)) ?_
       with_reducible refine (block_Hash.calls kj4 t131 t132 t133 _ _ t134 t152 _ ?side1 ?side2 A107.out).mono ?_
       (case side1 => repeat (first | exact (Kd.V_reads' HO_144003.out).2.2 | (with_reducible refine Kd.C_alloc ?_ _) | (with_reducible refine Kd.C_drewN ?_ _) | (with_reducible refine Kd.C_drew ?_)))
       (case side2 => exact (Kd.V_reads' HO_144003.out).2.1)
       rintro e w124 ⟨rfl, hb⟩
       refine ⟨_, rfl, ?_⟩
       replace HO_130003 := Aside0.mk (Kd.V_below (by (with_reducible repeat (first | apply Kd.V_alloc | apply Kd.V_drewN | apply Kd.V_drew)); exact HO_130003.out) hb)
       replace HO_131003 := Aside0.mk (Kd.R_below (br_ HO_131003.out) hb)
       replace HO_144003 := Aside0.mk (Kd.V_below (by (with_reducible repeat (first | apply Kd.V_alloc | apply Kd.V_drewN | apply Kd.V_drew)); exact HO_144003.out) hb)
       replace HO_145003 := Aside0.mk (Kd.R_below (br_ HO_145003.out) hb)
       replace BK115 := Aside0.mk (bk_ BK115.out hb)
       replace BK116 := Aside0.mk (bk_ BK116.out hb)
       replace BK129 := Aside0.mk (bk_ BK129.out hb)
       replace BK130 := Aside0.mk (bk_ BK130.out hb)
       replace BK143 := Aside0.mk (bk_ BK143.out hb)
       replace BK144 := Aside0.mk (bk_ BK144.out hb)
       replace HB := Aside0.mk (below_step (bh_ HB.out) hb)
       (try clear hb)
       (try clear hb2)
       (try clear hk)
       (try clear hi)
       refine hK.out _ _ ⟨(blk_cell BK129.out 0).trans rfl, (blk_cell BK129.out 1).trans rfl, (blk_cell BK129.out 2).trans rfl, (blk_cell BK129.out 3).trans rfl, (blk_cell BK143.out 0).trans rfl, (blk_cell BK143.out 1).trans rfl, (blk_cell BK143.out 2).trans rfl, (blk_cell BK143.out 3).trans rfl⟩ (fun hHeld => ?_)
       clear hK K
       refine norm_ (a' := ?_) ?_ ?_
       rotate_left
       ·show Act.put _ (some 61) _ = _
        simp only [Act.put, q1_, q2_, q3_, i64_w, i32_w]
        rfl
       refine pure_ (i := 7) (N := some 62) (v := ?_) (a' := ?_) #[Y_, Y_, Y_, Y_, Y_, Y_, Y_, Y_, Y_, N_, N_, N_, N_, N_, N_, N_, N_, N_, N_, N_, N_, N_] rfl rfl (any_of HT_.out (by kernel_rfl)) (fun _ _ _ h => h) (Or.inl ⟨by rfl, ?_⟩) ?_ ?_
       rotate_left
       ·intro w'
        go_simp
        with_reducible rfl
       rotate_left
       ·simp only [Act.put, q1_, q2_, q3_, i64_w, i32_w]
        rfl
       refine pure_ (i := 9) (N := some 64) (v := ?_) (a' := ?_) #[Y_, Y_, Y_, Y_, Y_, Y_, Y_, Y_, Y_, Y_, N_, N_, N_, N_, N_, N_, N_, N_, N_, N_, N_, N_] rfl rfl (any_of HT_.out (by kernel_rfl)) (fun _ _ _ h => h) (Or.inl ⟨by rfl, ?_⟩) ?_ ?_
       rotate_left
       ·intro w'
        go_simp
        with_reducible rfl
       rotate_left
       ·simp only [Act.put, q1_, q2_, q3_, i64_w, i32_w]
        rfl
       refine pure_ (i := 10) (N := some 65) (v := ?_) (a' := ?_) #[Y_, Y_, Y_, Y_, Y_, Y_, Y_, Y_, Y_, Y_, Y_, N_, N_, N_, N_, N_, N_, N_, N_, N_, N_, N_] rfl rfl (any_of HT_.out (by kernel_rfl)) (fun _ _ _ h => h) (Or.inl ⟨by rfl, ?_⟩) ?_ ?_
       rotate_left
       ·intro w'
        go_simp
        with_reducible rfl
       rotate_left
       ·simp only [Act.put, q1_, q2_, q3_, i64_w, i32_w]
        rfl
       refine pure_ (i := 11) (N := some 66) (v := undef) (a' := ?_) #[Y_, Y_, Y_, Y_, Y_, Y_, Y_, Y_, Y_, Y_, Y_, Y_, N_, N_, N_, N_, N_, N_, N_, N_, N_, N_] rfl rfl (any_of HT_.out (by kernel_rfl)) (fun _ _ _ h => h) (Or.inr ⟨by rfl, rfl⟩) ?_ ?_
       rotate_left
       ·simp only [Act.put, q1_, q2_, q3_, i64_w, i32_w]
        rfl
       refine pure_ (i := 12) (N := some 67) (v := undef) (a' := ?_) #[Y_, Y_, Y_, Y_, Y_, Y_, Y_, Y_, Y_, Y_, Y_, Y_, Y_, N_, N_, N_, N_, N_, N_, N_, N_, N_] rfl rfl (any_of HT_.out (by kernel_rfl)) (fun _ _ _ h => h) (Or.inr ⟨by rfl, rfl⟩) ?_ ?_
       rotate_left
       ·simp only [Act.put, q1_, q2_, q3_, i64_w, i32_w]
        rfl
       refine pure_ (i := 13) (N := some 68) (v := undef) (a' := ?_) #[Y_, Y_, Y_, Y_, Y_, Y_, Y_, Y_, Y_, Y_, Y_, Y_, Y_, Y_, N_, N_, N_, N_, N_, N_, N_, N_] rfl rfl (any_of HT_.out (by kernel_rfl)) (fun _ _ _ h => h) (Or.inr ⟨by rfl, rfl⟩) ?_ ?_
       rotate_left
       ·simp only [Act.put, q1_, q2_, q3_, i64_w, i32_w]
        rfl
       refine pure_ (i := 14) (N := some 69) (v := undef) (a' := ?_) #[Y_, Y_, Y_, Y_, Y_, Y_, Y_, Y_, Y_, Y_, Y_, Y_, Y_, Y_, Y_, N_, N_, N_, N_, N_, N_, N_] rfl rfl (any_of HT_.out (by kernel_rfl)) (fun _ _ _ h => h) (Or.inr ⟨by rfl, rfl⟩) ?_ ?_
       rotate_left
       ·simp only [Act.put, q1_, q2_, q3_, i64_w, i32_w]
        rfl
       refine pure_ (i := 15) (N := some 70) (v := undef) (a' := ?_) #[Y_, Y_, Y_, Y_, Y_, Y_, Y_, Y_, Y_, Y_, Y_, Y_, Y_, Y_, Y_, Y_, N_, N_, N_, N_, N_, N_] rfl rfl (any_of HT_.out (by kernel_rfl)) (fun _ _ _ h => h) (Or.inr ⟨by rfl, rfl⟩) ?_ ?_
       rotate_left
       ·simp only [Act.put, q1_, q2_, q3_, i64_w, i32_w]
        rfl
       refine pure_ (i := 16) (N := some 71) (v := undef) (a' := ?_) #[Y_, Y_, Y_, Y_, Y_, Y_, Y_, Y_, Y_, Y_, Y_, Y_, Y_, Y_, Y_, Y_, Y_, N_, N_, N_, N_, N_] rfl rfl (any_of HT_.out (by kernel_rfl)) (fun _ _ _ h => h) (Or.inr ⟨by rfl, rfl⟩) ?_ ?_
       rotate_left
       ·simp only [Act.put, q1_, q2_, q3_, i64_w, i32_w]
        rfl
       refine pure_ (i := 17) (N := some 72) (v := undef) (a' := ?_) #[Y_, Y_, Y_, Y_, Y_, Y_, Y_, Y_, Y_, Y_, Y_, Y_, Y_, Y_, Y_, Y_, Y_, Y_, N_, N_, N_, N_] rfl rfl (any_of HT_.out (by kernel_rfl)) (fun _ _ _ h => h) (Or.inr ⟨by rfl, rfl⟩) ?_ ?_
       rotate_left
       ·simp only [Act.put, q1_, q2_, q3_, i64_w, i32_w]
        rfl
       refine pure_ (i := 18) (N := some 73) (v := undef) (a' := ?_) #[Y_, Y_, Y_, Y_, Y_, Y_, Y_, Y_, Y_, Y_, Y_, Y_, Y_, Y_, Y_, Y_, Y_, Y_, Y_, N_, N_, N_] rfl rfl (any_of HT_.out (by kernel_rfl)) (fun _ _ _ h => h) (Or.inr ⟨by rfl, rfl⟩) ?_ ?_
       rotate_left
       ·simp only [Act.put, q1_, q2_, q3_, i64_w, i32_w]
        rfl
       refine pure_ (i := 19) (N := some 74) (v := undef) (a' := ?_) #[Y_, Y_, Y_, Y_, Y_, Y_, Y_, Y_, Y_, Y_, Y_, Y_, Y_, Y_, Y_, Y_, Y_, Y_, Y_, Y_, N_, N_] rfl rfl (any_of HT_.out (by kernel_rfl)) (fun _ _ _ h => h) (Or.inr ⟨by rfl, rfl⟩) ?_ ?_
       rotate_left
       ·simp only [Act.put, q1_, q2_, q3_, i64_w, i32_w]
        rfl
       refine pure_ (i := 20) (N := some 75) (v := ?_) (a' := ?_) #[Y_, Y_, Y_, Y_, Y_, Y_, Y_, Y_, Y_, Y_, Y_, Y_, Y_, Y_, Y_, Y_, Y_, Y_, Y_, Y_, Y_, N_] rfl rfl (any_of HT_.out (by kernel_rfl)) (fun _ _ _ h => h) (Or.inl ⟨by rfl, ?_⟩) ?_ ?_
       rotate_left
       ·intro w'
        go_simp
        with_reducible rfl
       rotate_left
       ·simp only [Act.put, q1_, q2_, q3_, i64_w, i32_w]
        rfl
       refine pure_ (i := 21) (N := some 76) (v := ?_) (a' := ?_) #[Y_, Y_, Y_, Y_, Y_, Y_, Y_, Y_, Y_, Y_, Y_, Y_, Y_, Y_, Y_, Y_, Y_, Y_, Y_, Y_, Y_, Y_] rfl rfl (any_of HT_.out (by kernel_rfl)) (fun _ _ _ h => h) (Or.inl ⟨by rfl, ?_⟩) ?_ ?_
       rotate_left
       ·intro w'
        go_simp
        with_reducible rfl
       rotate_left
       ·simp only [Act.put, q1_, q2_, q3_, i64_w, i32_w]
        rfl
       refine done_ (done_of HT_.out (by kernel_rfl)) ?_
       try go_wp2
       go_meet
       case rel => exact ⟨_, (false), (by first | rfl | (simp; done) | (simp [*]; done)), H', ⟨by have := HJ4.out; first | omega | exact Nat.le_refl _⟩, ⟨by (with_reducible repeat (first | apply Kd.V_alloc | apply Kd.V_drewN | apply Kd.V_drew)); exact HO_130003.out⟩, ⟨br_ HO_131003.out⟩, ⟨by (with_reducible repeat (first | apply Kd.V_alloc | apply Kd.V_drewN | apply Kd.V_drew)); exact HO_144003.out⟩, ⟨br_ HO_145003.out⟩, ⟨bq_ BK115.out⟩, ⟨bq_ BK116.out⟩, ⟨bq_ BK129.out⟩, ⟨bq_ BK130.out⟩, ⟨bq_ BK143.out⟩, ⟨bq_ BK144.out⟩, ⟨bh_ HB.out⟩⟩
     ·replace c105 := Bool.eq_false_iff.mpr c105
      subst c105
      have H1 : (parchmentlaw09_BlockUnlike.j1 kj4 (t148.toList == t149.toList) true t123 t124 t125 t126 t137 t138 t139 t140) = some r := by rw [if_neg (show ¬ (false = true) by decide)] at H; exact H
      clear H
      have H := H1
      clear H1
      have H' := Aside0.mk H
      clear H
      try go_wp2
      replace HO_130003 := Aside0.mk (Kd.V_drew HO_130003.out)
      replace HO_131003 := Aside0.mk (Kd.R_drew HO_131003.out)
      replace HO_144003 := Aside0.mk (Kd.V_drew HO_144003.out)
      replace HO_145003 := Aside0.mk (Kd.R_drew HO_145003.out)
      replace BK115 := Aside0.mk (blk_drew BK115.out)
      replace BK116 := Aside0.mk (blk_drew BK116.out)
      replace BK129 := Aside0.mk (blk_drew BK129.out)
      replace BK130 := Aside0.mk (blk_drew BK130.out)
      replace BK143 := Aside0.mk (blk_drew BK143.out)
      replace BK144 := Aside0.mk (blk_drew BK144.out)
      replace HB := Aside0.mk (below_drew1 HB.out)
      refine start_ (n := 22) (S := fun w' => True) (ds := []) #[N_, N_, N_, N_, N_, N_, N_, N_, N_, N_, N_, N_, N_, N_, N_, N_, N_, N_, N_, N_, N_, N_] (by kernel_rfl) rfl rfl trivial (fun hHeld => ?_); refine with_tabW parchmentlaw09_BlockUnlike.tab6 parchmentlaw09_BlockUnlike.bits6 (fun HT_ HW_ => ?_)
      generalize w103.drew = w125 at HO_130003 HO_131003 HO_144003 HO_145003 BK115 BK116 BK129 BK130 BK143 BK144 HB hHeld ⊢
      refine one_ (i := 0) (N := some 55) #[Y_, N_, N_, N_, N_, N_, N_, N_, N_, N_, N_, N_, N_, N_, N_, N_, N_, N_, N_, N_, N_, N_] rfl rfl (one_of HT_.out (by kernel_rfl)) (by decide) (fun K hK => ?_)
      refine goes_ Try.func12 (by kernel_rfl) rfl #[] (by rfl) rfl rfl (by (try simp only [List.map_toArray, List.map_cons, List.map_nil]); first | done | rfl | (simp only [List.length_drop, List.length_take]; rfl)) ?_
      with_reducible refine (Blk.law_awake.calls  false _ A104.out).mono ?_
      rintro e w126 ⟨rfl, hb⟩
      refine ⟨_, rfl, ?_⟩
      replace HO_130003 := Aside0.mk (Kd.V_below (by (with_reducible repeat (first | apply Kd.V_alloc | apply Kd.V_drewN | apply Kd.V_drew)); exact HO_130003.out) hb)
      replace HO_131003 := Aside0.mk (Kd.R_below (br_ HO_131003.out) hb)
      replace HO_144003 := Aside0.mk (Kd.V_below (by (with_reducible repeat (first | apply Kd.V_alloc | apply Kd.V_drewN | apply Kd.V_drew)); exact HO_144003.out) hb)
      replace HO_145003 := Aside0.mk (Kd.R_below (br_ HO_145003.out) hb)
      replace BK115 := Aside0.mk (bk_ BK115.out hb)
      replace BK116 := Aside0.mk (bk_ BK116.out hb)
      replace BK129 := Aside0.mk (bk_ BK129.out hb)
      replace BK130 := Aside0.mk (bk_ BK130.out hb)
      replace BK143 := Aside0.mk (bk_ BK143.out hb)
      replace BK144 := Aside0.mk (bk_ BK144.out hb)
      replace HB := Aside0.mk (below_step (bh_ HB.out) hb)
      (try clear hb)
      (try clear hb2)
      (try clear hk)
      (try clear hi)
      refine hK.out _ _ trivial (fun hHeld => ?_)
      clear hK K
      refine norm_ (a' := ?_) ?_ ?_
      rotate_left
      ·show Act.put _ (some 55) _ = _
       simp only [Act.put, q1_, q2_, q3_, i64_w, i32_w]
       rfl
      refine pure_ (i := 1) (N := some 56) (v := ?_) (a' := ?_) #[Y_, Y_, N_, N_, N_, N_, N_, N_, N_, N_, N_, N_, N_, N_, N_, N_, N_, N_, N_, N_, N_, N_] rfl rfl (any_of HT_.out (by kernel_rfl)) (fun _ _ _ h => h) (Or.inl ⟨by rfl, ?_⟩) ?_ ?_
      rotate_left
      ·intro w'
       go_simp
       with_reducible rfl
      rotate_left
      ·simp only [Act.put, q1_, q2_, q3_, i64_w, i32_w]
       rfl
      refine pure_ (i := 2) (N := some 57) (v := ?_) (a' := ?_) #[Y_, Y_, Y_, N_, N_, N_, N_, N_, N_, N_, N_, N_, N_, N_, N_, N_, N_, N_, N_, N_, N_, N_] rfl rfl (any_of HT_.out (by kernel_rfl)) (fun _ _ _ h => h) (Or.inl ⟨by rfl, ?_⟩) ?_ ?_
      rotate_left
      ·intro w'
       go_simp
       with_reducible rfl
      rotate_left
      ·simp only [Act.put, q1_, q2_, q3_, i64_w, i32_w]
       rfl
      refine pure_ (i := 3) (N := some 58) (v := undef) (a' := ?_) #[Y_, Y_, Y_, Y_, N_, N_, N_, N_, N_, N_, N_, N_, N_, N_, N_, N_, N_, N_, N_, N_, N_, N_] rfl rfl (any_of HT_.out (by kernel_rfl)) (fun _ _ _ h => h) (Or.inr ⟨by rfl, rfl⟩) ?_ ?_
      rotate_left
      ·simp only [Act.put, q1_, q2_, q3_, i64_w, i32_w]
       rfl
      refine pure_ (i := 4) (N := some 59) (v := undef) (a' := ?_) #[Y_, Y_, Y_, Y_, Y_, N_, N_, N_, N_, N_, N_, N_, N_, N_, N_, N_, N_, N_, N_, N_, N_, N_] rfl rfl (any_of HT_.out (by kernel_rfl)) (fun _ _ _ h => h) (Or.inr ⟨by rfl, rfl⟩) ?_ ?_
      rotate_left
      ·simp only [Act.put, q1_, q2_, q3_, i64_w, i32_w]
       rfl
      refine pure_ (i := 5) (N := some 60) (v := undef) (a' := ?_) #[Y_, Y_, Y_, Y_, Y_, Y_, N_, N_, N_, N_, N_, N_, N_, N_, N_, N_, N_, N_, N_, N_, N_, N_] rfl rfl (any_of HT_.out (by kernel_rfl)) (fun _ _ _ h => h) (Or.inr ⟨by rfl, rfl⟩) ?_ ?_
      rotate_left
      ·simp only [Act.put, q1_, q2_, q3_, i64_w, i32_w]
       rfl
      refine pure_ (i := 6) (N := some 61) (v := undef) (a' := ?_) #[Y_, Y_, Y_, Y_, Y_, Y_, Y_, N_, N_, N_, N_, N_, N_, N_, N_, N_, N_, N_, N_, N_, N_, N_] rfl rfl (any_of HT_.out (by kernel_rfl)) (fun _ _ _ h => h) (Or.inr ⟨by rfl, rfl⟩) ?_ ?_
      rotate_left
      ·simp only [Act.put, q1_, q2_, q3_, i64_w, i32_w]
       rfl
      refine pure_ (i := 7) (N := some 62) (v := undef) (a' := ?_) #[Y_, Y_, Y_, Y_, Y_, Y_, Y_, Y_, N_, N_, N_, N_, N_, N_, N_, N_, N_, N_, N_, N_, N_, N_] rfl rfl (any_of HT_.out (by kernel_rfl)) (fun _ _ _ h => h) (Or.inr ⟨by rfl, rfl⟩) ?_ ?_
      rotate_left
      ·simp only [Act.put, q1_, q2_, q3_, i64_w, i32_w]
       rfl
      refine pure_ (i := 8) (N := some 63) (v := undef) (a' := ?_) #[Y_, Y_, Y_, Y_, Y_, Y_, Y_, Y_, Y_, N_, N_, N_, N_, N_, N_, N_, N_, N_, N_, N_, N_, N_] rfl rfl (any_of HT_.out (by kernel_rfl)) (fun _ _ _ h => h) (Or.inr ⟨by rfl, rfl⟩) ?_ ?_
      rotate_left
      ·simp only [Act.put, q1_, q2_, q3_, i64_w, i32_w]
       rfl
      refine pure_ (i := 9) (N := some 64) (v := undef) (a' := ?_) #[Y_, Y_, Y_, Y_, Y_, Y_, Y_, Y_, Y_, Y_, N_, N_, N_, N_, N_, N_, N_, N_, N_, N_, N_, N_] rfl rfl (any_of HT_.out (by kernel_rfl)) (fun _ _ _ h => h) (Or.inr ⟨by rfl, rfl⟩) ?_ ?_
      rotate_left
      ·simp only [Act.put, q1_, q2_, q3_, i64_w, i32_w]
       rfl
      refine pure_ (i := 10) (N := some 65) (v := undef) (a' := ?_) #[Y_, Y_, Y_, Y_, Y_, Y_, Y_, Y_, Y_, Y_, Y_, N_, N_, N_, N_, N_, N_, N_, N_, N_, N_, N_] rfl rfl (any_of HT_.out (by kernel_rfl)) (fun _ _ _ h => h) (Or.inr ⟨by rfl, rfl⟩) ?_ ?_
      rotate_left
      ·simp only [Act.put, q1_, q2_, q3_, i64_w, i32_w]
       rfl
      refine pure_ (i := 11) (N := some 66) (v := undef) (a' := ?_) #[Y_, Y_, Y_, Y_, Y_, Y_, Y_, Y_, Y_, Y_, Y_, Y_, N_, N_, N_, N_, N_, N_, N_, N_, N_, N_] rfl rfl (any_of HT_.out (by kernel_rfl)) (fun _ _ _ h => h) (Or.inr ⟨by rfl, rfl⟩) ?_ ?_
      rotate_left
      ·simp only [Act.put, q1_, q2_, q3_, i64_w, i32_w]
       rfl
      refine pure_ (i := 12) (N := some 67) (v := undef) (a' := ?_) #[Y_, Y_, Y_, Y_, Y_, Y_, Y_, Y_, Y_, Y_, Y_, Y_, Y_, N_, N_, N_, N_, N_, N_, N_, N_, N_] rfl rfl (any_of HT_.out (by kernel_rfl)) (fun _ _ _ h => h) (Or.inr ⟨by rfl, rfl⟩) ?_ ?_
      rotate_left
      ·simp only [Act.put, q1_, q2_, q3_, i64_w, i32_w]
       rfl
      refine pure_ (i := 13) (N := some 68) (v := undef) (a' := ?_) #[Y_, Y_, Y_, Y_, Y_, Y_, Y_, Y_, Y_, Y_, Y_, Y_, Y_, Y_, N_, N_, N_, N_, N_, N_, N_, N_] rfl rfl (any_of HT_.out (by kernel_rfl)) (fun _ _ _ h => h) (Or.inr ⟨by rfl, rfl⟩) ?_ ?_
      rotate_left
      ·simp only [Act.put, q1_, q2_, q3_, i64_w, i32_w]
       rfl
      refine pure_ (i := 14) (N := some 69) (v := undef) (a' := ?_) #[Y_, Y_, Y_, Y_, Y_, Y_, Y_, Y_, Y_, Y_, Y_, Y_, Y_, Y_, Y_, N_, N_, N_, N_, N_, N_, N_] rfl rfl (any_of HT_.out (by kernel_rfl)) (fun _ _ _ h => h) (Or.inr ⟨by rfl, rfl⟩) ?_ ?_
      rotate_left
      ·simp only [Act.put, q1_, q2_, q3_, i64_w, i32_w]
       rfl
      refine pure_ (i := 15) (N := some 70) (v := undef) (a' := ?_) #[Y_, Y_, Y_, Y_, Y_, Y_, Y_, Y_, Y_, Y_, Y_, Y_, Y_, Y_, Y_, Y_, N_, N_, N_, N_, N_, N_] rfl rfl (any_of HT_.out (by kernel_rfl)) (fun _ _ _ h => h) (Or.inr ⟨by rfl, rfl⟩) ?_ ?_
      rotate_left
      ·simp only [Act.put, q1_, q2_, q3_, i64_w, i32_w]
       rfl
      refine pure_ (i := 16) (N := some 71) (v := undef) (a' := ?_) #[Y_, Y_, Y_, Y_, Y_, Y_, Y_, Y_, Y_, Y_, Y_, Y_, Y_, Y_, Y_, Y_, Y_, N_, N_, N_, N_, N_] rfl rfl (any_of HT_.out (by kernel_rfl)) (fun _ _ _ h => h) (Or.inr ⟨by rfl, rfl⟩) ?_ ?_
      rotate_left
      ·simp only [Act.put, q1_, q2_, q3_, i64_w, i32_w]
       rfl
      refine pure_ (i := 17) (N := some 72) (v := undef) (a' := ?_) #[Y_, Y_, Y_, Y_, Y_, Y_, Y_, Y_, Y_, Y_, Y_, Y_, Y_, Y_, Y_, Y_, Y_, Y_, N_, N_, N_, N_] rfl rfl (any_of HT_.out (by kernel_rfl)) (fun _ _ _ h => h) (Or.inr ⟨by rfl, rfl⟩) ?_ ?_
      rotate_left
      ·simp only [Act.put, q1_, q2_, q3_, i64_w, i32_w]
       rfl
      refine pure_ (i := 18) (N := some 73) (v := undef) (a' := ?_) #[Y_, Y_, Y_, Y_, Y_, Y_, Y_, Y_, Y_, Y_, Y_, Y_, Y_, Y_, Y_, Y_, Y_, Y_, Y_, N_, N_, N_] rfl rfl (any_of HT_.out (by kernel_rfl)) (fun _ _ _ h => h) (Or.inr ⟨by rfl, rfl⟩) ?_ ?_
      rotate_left
      ·simp only [Act.put, q1_, q2_, q3_, i64_w, i32_w]
       rfl
      refine pure_ (i := 19) (N := some 74) (v := undef) (a' := ?_) #[Y_, Y_, Y_, Y_, Y_, Y_, Y_, Y_, Y_, Y_, Y_, Y_, Y_, Y_, Y_, Y_, Y_, Y_, Y_, Y_, N_, N_] rfl rfl (any_of HT_.out (by kernel_rfl)) (fun _ _ _ h => h) (Or.inr ⟨by rfl, rfl⟩) ?_ ?_
      rotate_left
      ·simp only [Act.put, q1_, q2_, q3_, i64_w, i32_w]
       rfl
      refine pure_ (i := 20) (N := some 75) (v := undef) (a' := ?_) #[Y_, Y_, Y_, Y_, Y_, Y_, Y_, Y_, Y_, Y_, Y_, Y_, Y_, Y_, Y_, Y_, Y_, Y_, Y_, Y_, Y_, N_] rfl rfl (any_of HT_.out (by kernel_rfl)) (fun _ _ _ h => h) (Or.inr ⟨by rfl, rfl⟩) ?_ ?_
      rotate_left
      ·simp only [Act.put, q1_, q2_, q3_, i64_w, i32_w]
       rfl
      refine pure_ (i := 21) (N := some 76) (v := ?_) (a' := ?_) #[Y_, Y_, Y_, Y_, Y_, Y_, Y_, Y_, Y_, Y_, Y_, Y_, Y_, Y_, Y_, Y_, Y_, Y_, Y_, Y_, Y_, Y_] rfl rfl (any_of HT_.out (by kernel_rfl)) (fun _ _ _ h => h) (Or.inl ⟨by rfl, ?_⟩) ?_ ?_
      rotate_left
      ·intro w'
       go_simp
       with_reducible rfl
      rotate_left
      ·simp only [Act.put, q1_, q2_, q3_, i64_w, i32_w]
       rfl
      refine done_ (done_of HT_.out (by kernel_rfl)) ?_
      try go_wp2
      go_meet
      case rel => exact ⟨_, (true), (by first | rfl | (simp; done) | (simp [*]; done)), H', ⟨by have := HJ4.out; first | omega | exact Nat.le_refl _⟩, ⟨by (with_reducible repeat (first | apply Kd.V_alloc | apply Kd.V_drewN | apply Kd.V_drew)); exact HO_130003.out⟩, ⟨br_ HO_131003.out⟩, ⟨by (with_reducible repeat (first | apply Kd.V_alloc | apply Kd.V_drewN | apply Kd.V_drew)); exact HO_144003.out⟩, ⟨br_ HO_145003.out⟩, ⟨bq_ BK115.out⟩, ⟨bq_ BK116.out⟩, ⟨bq_ BK129.out⟩, ⟨bq_ BK130.out⟩, ⟨bq_ BK143.out⟩, ⟨bq_ BK144.out⟩, ⟨bh_ HB.out⟩⟩
    case rest =>
     clear HC100
     try clear c1
     try clear p2
     try clear c10
     try clear c11
     try clear c12
     try clear c14
     try clear c15
     try clear c105
     try clear c108
     try clear c108b0
     try clear c108b1
     try clear c108b2
     try clear c110
     try clear c112
     obtain ⟨kq, x76_99, rfl, HA, HJ99, HO_130003, HO_131003, HO_144003, HO_145003, BK115, BK116, BK129, BK130, BK143, BK144, HB⟩ := hcut
     cases kq with
     | zero => exact absurd HA.out (by simp [parchmentlaw09_BlockUnlike.j1])
     | succ kj99 =>
      have H := HA.out
      clear HA
      simp only [parchmentlaw09_BlockUnlike.j1] at H
      by_cases c127 : x76_99 = true
      ·subst c127
       have H1 : (some false) = some r := by rw [if_pos rfl] at H; exact H
       clear H
       have H := H1
       clear H1
       obtain rfl := Option.some.inj H
       go_wp2
       go_ret
       exact ⟨by first | rfl | (simp [errW_none, errW_some] <;> rfl) | (simp [*, errW_none, errW_some] <;> rfl), by repeat (first | (with_reducible first | exact HB.out | apply below_alloc | apply pw_below_drewN | apply below_drew1 | refine below_set ?_ GE115.out | refine below_set ?_ GE116.out | refine below_set ?_ GE129.out | refine below_set ?_ GE130.out | refine below_set ?_ GE143.out | refine below_set ?_ GE144.out) | exact HB.out)⟩
      ·replace c127 := Bool.eq_false_iff.mpr c127
       subst c127
       have H1 : ((PMk.parchmentref09_Frame.f kj99 t123 t124 t125 t126).bind fun t156 => ((PMk.parchmentref09_Frame.f kj99 t137 t138 t139 t140).bind fun t157 => (if t156.toList = t157.toList then (some (t148.toList == t149.toList)) else (some true)))) = some r := by rw [if_neg (show ¬ (false = true) by decide)] at H; exact H
       clear H
       have H := H1
       clear H1
       replace H := Option.bind_eq_some_iff.mp H
       obtain ⟨t156, A1280, H⟩ := H
       replace H : ((PMk.parchmentref09_Frame.f kj99 t137 t138 t139 t140).bind fun t157 => (if t156.toList = t157.toList then (some (t148.toList == t149.toList)) else (some true))) = some r := H
       have A128 := Aside0.mk A1280
       clear A1280
       replace H := Option.bind_eq_some_iff.mp H
       obtain ⟨t157, A1290, H⟩ := H
       replace H : (if t156.toList = t157.toList then (some (t148.toList == t149.toList)) else (some true)) = some r := H
       have A129 := Aside0.mk A1290
       clear A1290
       by_cases c130 : t156.toList = t157.toList
       ·rw [if_pos c130] at H
        have c130b0 : (t156.toList == t157.toList) = true := beq_iff_eq.mpr c130
        have c130b1 : (t156.toList != t157.toList) = false := bne_eq_false_iff_eq.mpr c130
        clear c130
        obtain rfl := Option.some.inj H
        try go_wp2
        replace HO_130003 := Aside0.mk (Kd.V_drew HO_130003.out)
        replace HO_131003 := Aside0.mk (Kd.R_drew HO_131003.out)
        replace HO_144003 := Aside0.mk (Kd.V_drew HO_144003.out)
        replace HO_145003 := Aside0.mk (Kd.R_drew HO_145003.out)
        replace BK115 := Aside0.mk (blk_drew BK115.out)
        replace BK116 := Aside0.mk (blk_drew BK116.out)
        replace BK129 := Aside0.mk (blk_drew BK129.out)
        replace BK130 := Aside0.mk (blk_drew BK130.out)
        replace BK143 := Aside0.mk (blk_drew BK143.out)
        replace BK144 := Aside0.mk (blk_drew BK144.out)
        replace HB := Aside0.mk (below_drew1 HB.out)
        refine start_ (n := 6) (S := fun w' => w'.cell? ⟨gb130, 0, none⟩ = some (.int .u64 t123) ∧ w'.cell? ⟨gb130, 1, none⟩ = some (.string t124) ∧ w'.cell? ⟨gb130, 2, none⟩ = some (.int .u64 t125) ∧ w'.cell? ⟨gb130, 3, none⟩ = some (.slice Ao22 t126.length co22) ∧ w'.cell? ⟨gb144, 0, none⟩ = some (.int .u64 t137) ∧ w'.cell? ⟨gb144, 1, none⟩ = some (.string t138) ∧ w'.cell? ⟨gb144, 2, none⟩ = some (.int .u64 t139) ∧ w'.cell? ⟨gb144, 3, none⟩ = some (.slice Ao40 t140.length co40)) (ds := []) #[N_, N_, N_, N_, N_, N_] (by kernel_rfl) rfl rfl ⟨(blk_cell BK130.out 0).trans rfl, (blk_cell BK130.out 1).trans rfl, (blk_cell BK130.out 2).trans rfl, (blk_cell BK130.out 3).trans rfl, (blk_cell BK144.out 0).trans rfl, (blk_cell BK144.out 1).trans rfl, (blk_cell BK144.out 2).trans rfl, (blk_cell BK144.out 3).trans rfl⟩ (fun hHeld => ?_)
        generalize wc.drew = w131 at HO_130003 HO_131003 HO_144003 HO_145003 BK115 BK116 BK129 BK130 BK143 BK144 HB hHeld ⊢
        refine take_ (i := 0) (N := some 77) (v := ?_) (a' := ?_) #[Y_, N_, N_, N_, N_, N_] rfl rfl (by kernel_rfl) (fun _ _ _ h => h) (Or.inl ⟨by rfl, ?_⟩) hHeld ?_ ?_
        rotate_left
        ·rintro w' ⟨s0, s1, s2, s3, s4, s5, s6, s7⟩
         go_simp
         with_reducible rfl
        rotate_left
        ·simp only [Act.put, q1_, q2_, q3_, i64_w, i32_w]
         rfl
        refine take_ (i := 2) (N := some 79) (v := ?_) (a' := ?_) #[Y_, N_, Y_, N_, N_, N_] rfl rfl (by kernel_rfl) (fun _ _ _ h => h) (Or.inl ⟨by rfl, ?_⟩) hHeld ?_ ?_
        rotate_left
        ·rintro w' ⟨s0, s1, s2, s3, s4, s5, s6, s7⟩
         go_simp
         with_reducible rfl
        rotate_left
        ·simp only [Act.put, q1_, q2_, q3_, i64_w, i32_w]
         rfl
        refine one_ (i := 1) (N := some 78) #[Y_, Y_, Y_, N_, N_, N_] rfl rfl (by kernel_rfl) (by decide) (fun K hK => ?_)
        refine goes_ Try.func17 (by kernel_rfl) rfl #[.agg #[.int .u64 t123, .string t124, .int .u64 t125, .slice Ao22 t126.length co22]] (by rfl) rfl rfl (by (try simp only [List.map_toArray, List.map_cons, List.map_nil]); first | done | rfl | (simp only [List.length_drop, List.length_take]; rfl)) ?_
        with_reducible refine (PMk.parchmentref09_Frame.calls kj99 t123 t124 t125 _ _ t126 t156 _ ?side1 ?side2 A128.out).mono ?_
        (case side1 => repeat (first | exact (Kd.R_reads' HO_131003.out).2.2 | (with_reducible refine Kd.C_alloc ?_ _) | (with_reducible refine Kd.C_drewN ?_ _) | (with_reducible refine Kd.C_drew ?_)))
        (case side2 => exact (Kd.R_reads' HO_131003.out).2.1)
        rintro e w132 ⟨rfl, hb⟩
        refine ⟨_, rfl, ?_⟩
        replace HO_130003 := Aside0.mk (Kd.V_below (by (with_reducible repeat (first | apply Kd.V_alloc | apply Kd.V_drewN | apply Kd.V_drew)); exact HO_130003.out) hb)
        replace HO_131003 := Aside0.mk (Kd.R_below (br_ HO_131003.out) hb)
        replace HO_144003 := Aside0.mk (Kd.V_below (by (with_reducible repeat (first | apply Kd.V_alloc | apply Kd.V_drewN | apply Kd.V_drew)); exact HO_144003.out) hb)
        replace HO_145003 := Aside0.mk (Kd.R_below (br_ HO_145003.out) hb)
        replace BK115 := Aside0.mk (bk_ BK115.out hb)
        replace BK116 := Aside0.mk (bk_ BK116.out hb)
        replace BK129 := Aside0.mk (bk_ BK129.out hb)
        replace BK130 := Aside0.mk (bk_ BK130.out hb)
        replace BK143 := Aside0.mk (bk_ BK143.out hb)
        replace BK144 := Aside0.mk (bk_ BK144.out hb)
        replace HB := Aside0.mk (below_step (bh_ HB.out) hb)
        (try clear hb)
        (try clear hb2)
        (try clear hk)
        (try clear hi)
        refine hK.out _ _ ⟨(blk_cell BK130.out 0).trans rfl, (blk_cell BK130.out 1).trans rfl, (blk_cell BK130.out 2).trans rfl, (blk_cell BK130.out 3).trans rfl, (blk_cell BK144.out 0).trans rfl, (blk_cell BK144.out 1).trans rfl, (blk_cell BK144.out 2).trans rfl, (blk_cell BK144.out 3).trans rfl⟩ (fun hHeld => ?_)
        clear hK K
        refine norm_ (a' := ?_) ?_ ?_
        rotate_left
        ·show Act.put _ (some 78) _ = _
         simp only [Act.put, q1_, q2_, q3_, i64_w, i32_w]
         rfl
        refine one_ (i := 3) (N := some 80) #[Y_, Y_, Y_, Y_, N_, N_] rfl rfl (by kernel_rfl) (by decide) (fun K hK => ?_)
        refine goes_ Try.func17 (by kernel_rfl) rfl #[.agg #[.int .u64 t137, .string t138, .int .u64 t139, .slice Ao40 t140.length co40]] (by rfl) rfl rfl (by (try simp only [List.map_toArray, List.map_cons, List.map_nil]); first | done | rfl | (simp only [List.length_drop, List.length_take]; rfl)) ?_
        with_reducible refine (PMk.parchmentref09_Frame.calls kj99 t137 t138 t139 _ _ t140 t157 _ ?side1 ?side2 A129.out).mono ?_
        (case side1 => repeat (first | exact (Kd.R_reads' HO_145003.out).2.2 | (with_reducible refine Kd.C_alloc ?_ _) | (with_reducible refine Kd.C_drewN ?_ _) | (with_reducible refine Kd.C_drew ?_)))
        (case side2 => exact (Kd.R_reads' HO_145003.out).2.1)
        rintro e w133 ⟨rfl, hb⟩
        refine ⟨_, rfl, ?_⟩
        replace HO_130003 := Aside0.mk (Kd.V_below (by (with_reducible repeat (first | apply Kd.V_alloc | apply Kd.V_drewN | apply Kd.V_drew)); exact HO_130003.out) hb)
        replace HO_131003 := Aside0.mk (Kd.R_below (br_ HO_131003.out) hb)
        replace HO_144003 := Aside0.mk (Kd.V_below (by (with_reducible repeat (first | apply Kd.V_alloc | apply Kd.V_drewN | apply Kd.V_drew)); exact HO_144003.out) hb)
        replace HO_145003 := Aside0.mk (Kd.R_below (br_ HO_145003.out) hb)
        replace BK115 := Aside0.mk (bk_ BK115.out hb)
        replace BK116 := Aside0.mk (bk_ BK116.out hb)
        replace BK129 := Aside0.mk (bk_ BK129.out hb)
        replace BK130 := Aside0.mk (bk_ BK130.out hb)
        replace BK143 := Aside0.mk (bk_ BK143.out hb)
        replace BK144 := Aside0.mk (bk_ BK144.out hb)
        replace HB := Aside0.mk (below_step (bh_ HB.out) hb)
        (try clear hb)
        (try clear hb2)
        (try clear hk)
        (try clear hi)
        refine hK.out _ _ ⟨(blk_cell BK130.out 0).trans rfl, (blk_cell BK130.out 1).trans rfl, (blk_cell BK130.out 2).trans rfl, (blk_cell BK130.out 3).trans rfl, (blk_cell BK144.out 0).trans rfl, (blk_cell BK144.out 1).trans rfl, (blk_cell BK144.out 2).trans rfl, (blk_cell BK144.out 3).trans rfl⟩ (fun hHeld => ?_)
        clear hK K
        refine norm_ (a' := ?_) ?_ ?_
        rotate_left
        ·show Act.put _ (some 80) _ = _
         simp only [Act.put, q1_, q2_, q3_, i64_w, i32_w]
         rfl
        refine pure_ (i := 4) (N := some 81) (v := ?_) (a' := ?_) #[Y_, Y_, Y_, Y_, Y_, N_] rfl rfl (by kernel_rfl) (fun _ _ _ h => h) (Or.inl ⟨by rfl, ?_⟩) ?_ ?_
        rotate_left
        ·intro w'
         go_simp
         with_reducible rfl
        rotate_left
        ·simp only [Act.put, q1_, q2_, q3_, i64_w, i32_w]
         rfl
        refine pure_ (i := 5) (N := some 10) (v := ?_) (a' := ?_) #[Y_, Y_, Y_, Y_, Y_, Y_] rfl rfl (by kernel_rfl) (fun _ _ _ h => h) (Or.inl ⟨by rfl, ?_⟩) ?_ ?_
        rotate_left
        ·intro w'
         go_simp
         with_reducible rfl
        rotate_left
        ·simp only [Act.put, q1_, q2_, q3_, i64_w, i32_w]
         rfl
        refine done_ (by kernel_rfl) ?_
        try go_wp2
        go_ret
        exact ⟨by first | rfl | (simp [errW_none, errW_some] <;> rfl) | (simp [*, errW_none, errW_some] <;> rfl), by repeat (first | (with_reducible first | exact HB.out | apply below_alloc | apply pw_below_drewN | apply below_drew1 | refine below_set ?_ GE115.out | refine below_set ?_ GE116.out | refine below_set ?_ GE129.out | refine below_set ?_ GE130.out | refine below_set ?_ GE143.out | refine below_set ?_ GE144.out) | exact HB.out)⟩
       ·rw [if_neg c130] at H
        have c130b0 : (t156.toList == t157.toList) = false := beq_eq_false_iff_ne.mpr c130
        have c130b1 : (t156.toList != t157.toList) = true := bne_iff_ne.mpr c130
        obtain rfl := Option.some.inj H
        try go_wp2
        replace HO_130003 := Aside0.mk (Kd.V_drew HO_130003.out)
        replace HO_131003 := Aside0.mk (Kd.R_drew HO_131003.out)
        replace HO_144003 := Aside0.mk (Kd.V_drew HO_144003.out)
        replace HO_145003 := Aside0.mk (Kd.R_drew HO_145003.out)
        replace BK115 := Aside0.mk (blk_drew BK115.out)
        replace BK116 := Aside0.mk (blk_drew BK116.out)
        replace BK129 := Aside0.mk (blk_drew BK129.out)
        replace BK130 := Aside0.mk (blk_drew BK130.out)
        replace BK143 := Aside0.mk (blk_drew BK143.out)
        replace BK144 := Aside0.mk (blk_drew BK144.out)
        replace HB := Aside0.mk (below_drew1 HB.out)
        refine start_ (n := 6) (S := fun w' => w'.cell? ⟨gb130, 0, none⟩ = some (.int .u64 t123) ∧ w'.cell? ⟨gb130, 1, none⟩ = some (.string t124) ∧ w'.cell? ⟨gb130, 2, none⟩ = some (.int .u64 t125) ∧ w'.cell? ⟨gb130, 3, none⟩ = some (.slice Ao22 t126.length co22) ∧ w'.cell? ⟨gb144, 0, none⟩ = some (.int .u64 t137) ∧ w'.cell? ⟨gb144, 1, none⟩ = some (.string t138) ∧ w'.cell? ⟨gb144, 2, none⟩ = some (.int .u64 t139) ∧ w'.cell? ⟨gb144, 3, none⟩ = some (.slice Ao40 t140.length co40)) (ds := []) #[N_, N_, N_, N_, N_, N_] (by kernel_rfl) rfl rfl ⟨(blk_cell BK130.out 0).trans rfl, (blk_cell BK130.out 1).trans rfl, (blk_cell BK130.out 2).trans rfl, (blk_cell BK130.out 3).trans rfl, (blk_cell BK144.out 0).trans rfl, (blk_cell BK144.out 1).trans rfl, (blk_cell BK144.out 2).trans rfl, (blk_cell BK144.out 3).trans rfl⟩ (fun hHeld => ?_)
        generalize wc.drew = w134 at HO_130003 HO_131003 HO_144003 HO_145003 BK115 BK116 BK129 BK130 BK143 BK144 HB hHeld ⊢
        refine take_ (i := 0) (N := some 77) (v := ?_) (a' := ?_) #[Y_, N_, N_, N_, N_, N_] rfl rfl (by kernel_rfl) (fun _ _ _ h => h) (Or.inl ⟨by rfl, ?_⟩) hHeld ?_ ?_
        rotate_left
        ·rintro w' ⟨s0, s1, s2, s3, s4, s5, s6, s7⟩
         go_simp
         with_reducible rfl
        rotate_left
        ·simp only [Act.put, q1_, q2_, q3_, i64_w, i32_w]
         rfl
        refine take_ (i := 2) (N := some 79) (v := ?_) (a' := ?_) #[Y_, N_, Y_, N_, N_, N_] rfl rfl (by kernel_rfl) (fun _ _ _ h => h) (Or.inl ⟨by rfl, ?_⟩) hHeld ?_ ?_
        rotate_left
        ·rintro w' ⟨s0, s1, s2, s3, s4, s5, s6, s7⟩
         go_simp
         with_reducible rfl
        rotate_left
        ·simp only [Act.put, q1_, q2_, q3_, i64_w, i32_w]
         rfl
        refine one_ (i := 1) (N := some 78) #[Y_, Y_, Y_, N_, N_, N_] rfl rfl (by kernel_rfl) (by decide) (fun K hK => ?_)
        refine goes_ Try.func17 (by kernel_rfl) rfl #[.agg #[.int .u64 t123, .string t124, .int .u64 t125, .slice Ao22 t126.length co22]] (by rfl) rfl rfl (by (try simp only [List.map_toArray, List.map_cons, List.map_nil]); first | done | rfl | (simp only [List.length_drop, List.length_take]; rfl)) ?_
        with_reducible refine (PMk.parchmentref09_Frame.calls kj99 t123 t124 t125 _ _ t126 t156 _ ?side1 ?side2 A128.out).mono ?_
        (case side1 => repeat (first | exact (Kd.R_reads' HO_131003.out).2.2 | (with_reducible refine Kd.C_alloc ?_ _) | (with_reducible refine Kd.C_drewN ?_ _) | (with_reducible refine Kd.C_drew ?_)))
        (case side2 => exact (Kd.R_reads' HO_131003.out).2.1)
        rintro e w135 ⟨rfl, hb⟩
        refine ⟨_, rfl, ?_⟩
        replace HO_130003 := Aside0.mk (Kd.V_below (by (with_reducible repeat (first | apply Kd.V_alloc | apply Kd.V_drewN | apply Kd.V_drew)); exact HO_130003.out) hb)
        replace HO_131003 := Aside0.mk (Kd.R_below (br_ HO_131003.out) hb)
        replace HO_144003 := Aside0.mk (Kd.V_below (by (with_reducible repeat (first | apply Kd.V_alloc | apply Kd.V_drewN | apply Kd.V_drew)); exact HO_144003.out) hb)
        replace HO_145003 := Aside0.mk (Kd.R_below (br_ HO_145003.out) hb)
        replace BK115 := Aside0.mk (bk_ BK115.out hb)
        replace BK116 := Aside0.mk (bk_ BK116.out hb)
        replace BK129 := Aside0.mk (bk_ BK129.out hb)
        replace BK130 := Aside0.mk (bk_ BK130.out hb)
        replace BK143 := Aside0.mk (bk_ BK143.out hb)
        replace BK144 := Aside0.mk (bk_ BK144.out hb)
        replace HB := Aside0.mk (below_step (bh_ HB.out) hb)
        (try clear hb)
        (try clear hb2)
        (try clear hk)
        (try clear hi)
        refine hK.out _ _ ⟨(blk_cell BK130.out 0).trans rfl, (blk_cell BK130.out 1).trans rfl, (blk_cell BK130.out 2).trans rfl, (blk_cell BK130.out 3).trans rfl, (blk_cell BK144.out 0).trans rfl, (blk_cell BK144.out 1).trans rfl, (blk_cell BK144.out 2).trans rfl, (blk_cell BK144.out 3).trans rfl⟩ (fun hHeld => ?_)
        clear hK K
        refine norm_ (a' := ?_) ?_ ?_
        rotate_left
        ·show Act.put _ (some 78) _ = _
         simp only [Act.put, q1_, q2_, q3_, i64_w, i32_w]
         rfl
        refine one_ (i := 3) (N := some 80) #[Y_, Y_, Y_, Y_, N_, N_] rfl rfl (by kernel_rfl) (by decide) (fun K hK => ?_)
        refine goes_ Try.func17 (by kernel_rfl) rfl #[.agg #[.int .u64 t137, .string t138, .int .u64 t139, .slice Ao40 t140.length co40]] (by rfl) rfl rfl (by (try simp only [List.map_toArray, List.map_cons, List.map_nil]); first | done | rfl | (simp only [List.length_drop, List.length_take]; rfl)) ?_
        with_reducible refine (PMk.parchmentref09_Frame.calls kj99 t137 t138 t139 _ _ t140 t157 _ ?side1 ?side2 A129.out).mono ?_
        (case side1 => repeat (first | exact (Kd.R_reads' HO_145003.out).2.2 | (with_reducible refine Kd.C_alloc ?_ _) | (with_reducible refine Kd.C_drewN ?_ _) | (with_reducible refine Kd.C_drew ?_)))
        (case side2 => exact (Kd.R_reads' HO_145003.out).2.1)
        rintro e w136 ⟨rfl, hb⟩
        refine ⟨_, rfl, ?_⟩
        replace HO_130003 := Aside0.mk (Kd.V_below (by (with_reducible repeat (first | apply Kd.V_alloc | apply Kd.V_drewN | apply Kd.V_drew)); exact HO_130003.out) hb)
        replace HO_131003 := Aside0.mk (Kd.R_below (br_ HO_131003.out) hb)
        replace HO_144003 := Aside0.mk (Kd.V_below (by (with_reducible repeat (first | apply Kd.V_alloc | apply Kd.V_drewN | apply Kd.V_drew)); exact HO_144003.out) hb)
        replace HO_145003 := Aside0.mk (Kd.R_below (br_ HO_145003.out) hb)
        replace BK115 := Aside0.mk (bk_ BK115.out hb)
        replace BK116 := Aside0.mk (bk_ BK116.out hb)
        replace BK129 := Aside0.mk (bk_ BK129.out hb)
        replace BK130 := Aside0.mk (bk_ BK130.out hb)
        replace BK143 := Aside0.mk (bk_ BK143.out hb)
        replace BK144 := Aside0.mk (bk_ BK144.out hb)
        replace HB := Aside0.mk (below_step (bh_ HB.out) hb)
        (try clear hb)
        (try clear hb2)
        (try clear hk)
        (try clear hi)
        refine hK.out _ _ ⟨(blk_cell BK130.out 0).trans rfl, (blk_cell BK130.out 1).trans rfl, (blk_cell BK130.out 2).trans rfl, (blk_cell BK130.out 3).trans rfl, (blk_cell BK144.out 0).trans rfl, (blk_cell BK144.out 1).trans rfl, (blk_cell BK144.out 2).trans rfl, (blk_cell BK144.out 3).trans rfl⟩ (fun hHeld => ?_)
        clear hK K
        refine norm_ (a' := ?_) ?_ ?_
        rotate_left
        ·show Act.put _ (some 80) _ = _
         simp only [Act.put, q1_, q2_, q3_, i64_w, i32_w]
         rfl
        refine pure_ (i := 4) (N := some 81) (v := ?_) (a' := ?_) #[Y_, Y_, Y_, Y_, Y_, N_] rfl rfl (by kernel_rfl) (fun _ _ _ h => h) (Or.inl ⟨by rfl, ?_⟩) ?_ ?_
        rotate_left
        ·intro w'
         go_simp
         with_reducible rfl
        rotate_left
        ·simp only [Act.put, q1_, q2_, q3_, i64_w, i32_w]
         rfl
        refine pure_ (i := 5) (N := some 10) (v := ?_) (a' := ?_) #[Y_, Y_, Y_, Y_, Y_, Y_] rfl rfl (by kernel_rfl) (fun _ _ _ h => h) (Or.inl ⟨by rfl, ?_⟩) ?_ ?_
        rotate_left
        ·intro w'
         go_simp
         with_reducible rfl
        rotate_left
        ·simp only [Act.put, q1_, q2_, q3_, i64_w, i32_w]
         rfl
        refine done_ (by kernel_rfl) ?_
        try go_wp2
        go_ret
        exact ⟨by first | rfl | (simp [errW_none, errW_some] <;> rfl) | (simp [*, errW_none, errW_some] <;> rfl), by repeat (first | (with_reducible first | exact HB.out | apply below_alloc | apply pw_below_drewN | apply below_drew1 | refine below_set ?_ GE115.out | refine below_set ?_ GE116.out | refine below_set ?_ GE129.out | refine below_set ?_ GE130.out | refine below_set ?_ GE143.out | refine below_set ?_ GE144.out) | exact HB.out)⟩
end Go.Proofs.Ytdcbacbilncnnaa.PMu
end
section
/- BlockUnlike, plain. -/
set_option linter.unusedVariables false
set_option linter.unusedSimpArgs false
namespace Go.Proofs.Ytdcbacbilncnnaa.T
open Go.RowKit Go.Proofs.Ytdcbacbilncnnaa.PMk Go.Proofs.Ytdcbacbilncnnaa.PMu Go.Proofs.Ytdcbacbilncnnaa.Opn Go.Proofs.Ytdcbacbilncnnaa.M Go.Proofs.Ytdcbacbilncnnaa.EncS Go.Proofs.Ytdcbacbilncnnaa.EncL Go.Proofs.YtdcbacbilncnnaaW.PrintWords Go.Proofs.YtdcbacbilncnnaaW.PrintLast
structure WideB (a0 : Int) (a1 : ByteArray) (a2 : Int) (l : List S47) : Prop where
  p0 : 0 ≤ a0
  p1 : a0 < 18446744073709551616
  s : a1.size ≤ 140737488351232
  q0 : 0 ≤ a2
  q1 : a2 < 18446744073709551616
  ls : ∀ y ∈ l, Wide y
  n : l.length ≤ 66
theorem wide_small {x : S47} (h : Wide x) : Small x := ⟨by have := h.t; omega, by have := h.f; omega, by have := h.b; omega, h.v0⟩
theorem WideB.fits' {a0 : Int} {a1 : ByteArray} {a2 : Int} {l : List S47} (h : WideB a0 a1 a2 l) : FitsB a0 a1 a2 l :=
  ⟨h.p0, h.p1, by have := h.s; omega, h.q0, h.q1, fun x hx => ⟨(h.ls x hx).d0, (h.ls x hx).d1, (h.ls x hx).v0, (h.ls x hx).v1, by have := (h.ls x hx).t; omega, by have := (h.ls x hx).f; omega, by have := (h.ls x hx).h; omega⟩, by have := h.n; omega⟩
/-- Texts with their lengths ahead, one behind the other. -/
theorem txt_inj {a b : ByteArray} (ha : a.size ≤ 1125899906842624) (hb : b.size ≤ 1125899906842624) {x y : List UInt8} (h : txt a ++ x = txt b ++ y) : a = b ∧ x = y := by
  unfold txt at h
  rw [List.append_assoc, List.append_assoc] at h
  obtain ⟨h1, h2⟩ := encU_inj _ _ (by omega) (by omega) _ _ h
  obtain ⟨h3, h4⟩ := List.append_inj h2 (by rw [toList_len, toList_len, h1])
  exact ⟨by rw [← S_of a, ← S_of b, h3], h4⟩
theorem num_inj {a b : Int} (ha : 0 ≤ a) (ha' : a < 18446744073709551616) (hb : 0 ≤ b) (hb' : b < 18446744073709551616) {x y : List UInt8} (h : num a ++ x = num b ++ y) : a = b ∧ x = y := by
  unfold num at h
  obtain ⟨h1, h2⟩ := encU_inj _ _ (by omega) (by omega) _ _ h
  exact ⟨by omega, h2⟩
theorem mx_inj {a b : S47} (ha : Fits a.f3 a.f4 a.f1 a.f2 a.f5) (hb : Fits b.f3 b.f4 b.f1 b.f2 b.f5) {x y : List UInt8} (h : mx a ++ x = mx b ++ y) : mx a = mx b ∧ x = y := by
  unfold mx mt at h ⊢
  simp only [List.cons_append, List.append_assoc, List.cons.injEq] at h
  obtain ⟨h0, h⟩ := h
  obtain ⟨h1, h⟩ := txt_inj ha.t hb.t h
  obtain ⟨h2, h⟩ := txt_inj ha.f hb.f h
  obtain ⟨h3, h⟩ := num_inj ha.d0 ha.d1 hb.d0 hb.d1 h
  obtain ⟨h4, h⟩ := num_inj ha.v0 ha.v1 hb.v0 hb.v1 h
  obtain ⟨h5, h⟩ := txt_inj ha.h hb.h h
  exact ⟨by rw [h0, h1, h2, h3, h4, h5], h⟩
theorem flat_inj : ∀ {l m : List S47}, FitsL l → FitsL m → l.length = m.length → l.flatMap mx = m.flatMap mx → l.map mx = m.map mx
  | [], [], _, _, _, _ => rfl
  | [], _ :: _, _, _, h, _ => by simp at h
  | _ :: _, [], _, _, h, _ => by simp at h
  | a :: l, b :: m, gl, gm, hl, h => by
    rw [List.flatMap_cons, List.flatMap_cons] at h
    obtain ⟨h1, h2⟩ := mx_inj (gl a (by simp)) (gm b (by simp)) h
    rw [List.map_cons, List.map_cons, h1, flat_inj (fun x hx => gl x (by simp [hx])) (fun x hx => gm x (by simp [hx])) (by simpa using hl) h2]
theorem frm_toList (a0 : Int) (a1 : ByteArray) (a2 : Int) (l : List S47) : (frm a0 a1 a2 l).toList = num a0 ++ (txt a1 ++ (num a2 ++ (encU l.length ++ l.flatMap mx))) := by
  unfold frm pre
  rw [S_append, S_append, S_append, S_append, S_toList]
  simp only [List.append_assoc]
theorem frm_hdr {a0 b0 : Int} {a1 b1 : ByteArray} {a2 b2 : Int} {l m : List S47} (gl : FitsB a0 a1 a2 l) (gm : FitsB b0 b1 b2 m) (h : (frm a0 a1 a2 l).toList = (frm b0 b1 b2 m).toList) : hdr a0 a1 a2 l = hdr b0 b1 b2 m := by
  rw [frm_toList, frm_toList] at h
  obtain ⟨h0, h⟩ := num_inj gl.p0 gl.p1 gm.p0 gm.p1 h
  obtain ⟨h1, h⟩ := txt_inj gl.s gm.s h
  obtain ⟨h2, h⟩ := num_inj gl.q0 gl.q1 gm.q0 gm.q1 h
  have n1 := gl.n
  have n2 := gm.n
  obtain ⟨h3, h⟩ := encU_inj _ _ (by omega) (by omega) _ _ h
  have h4 := flat_inj gl.ls gm.ls h3 h
  have h5 : ms l = ms m := by
    have e : ∀ l : List S47, ms l = (l.map mx).map S := fun l => by unfold ms; rw [List.map_map]; rfl
    rw [e, e, h4]
  unfold hdr lvs
  rw [h0, h1, h2, h3, h5]
theorem eq_toList {a b : ByteArray} : a.toList = b.toList ↔ a = b := ⟨fun h => by rw [← S_of a, ← S_of b, h], fun h => by rw [h]⟩
theorem un_j1 {a0 b0 : Int} {a1 b1 : ByteArray} {a2 b2 : Int} {l m : List S47} (gl : FitsB a0 a1 a2 l) (gm : FitsB b0 b1 b2 m) :
    Ev (fun k => parchmentlaw09_BlockUnlike.j1 k ((hdr a0 a1 a2 l).toList == (hdr b0 b1 b2 m).toList) false a0 a1 a2 (l.map rf) b0 b1 b2 (m.map rf)) true := by
  refine Ev.step (f := fun k => _) (fun k => by rw [parchmentlaw09_BlockUnlike.j1, if_neg (by decide)]) ?_
  refine Ev.bind (r_frame a0 a1 a2 l gl) ?_
  refine Ev.bind (r_frame b0 b1 b2 m gm) ?_
  by_cases h : (frm a0 a1 a2 l).toList = (frm b0 b1 b2 m).toList
  · simp only [if_pos h]
    rw [frm_hdr gl gm h, beq_self_eq_true]
    exact Ev.now _
  · simp only [if_neg h]; exact Ev.now _
theorem hash_ev {a0 : Int} {a1 : ByteArray} {a2 : Int} {l : List S47} (g : FitsB a0 a1 a2 l) (k : Nat) : block_Hash.f k a0 a1 a2 l = some (bhash a0 a1 a2 l) := by
  have hz := hdr_size g
  unfold block_Hash.f Blk.block_Header.f
  rw [if_pos ((fB_iff _ _ _ _).2 g), Option.bind_some, if_pos (by omega), sum_f _ (by rw [two_size]; omega)]
  rfl
theorem un_j0 {a0 b0 : Int} {a1 b1 : ByteArray} {a2 b2 : Int} {l m : List S47} (gl : FitsB a0 a1 a2 l) (gm : FitsB b0 b1 b2 m) (b : Bool) :
    Ev (fun k => parchmentlaw09_BlockUnlike.j0 k b a0 a1 a2 l a0 a1 a2 (l.map rf) b0 b1 b2 m b0 b1 b2 (m.map rf)) true := by
  refine Ev.step (f := fun k => _) (fun k => by rw [parchmentlaw09_BlockUnlike.j0]) ?_
  by_cases hb : b = true
  · simp only [if_pos hb]; exact Ev.now _
  · simp only [if_neg hb]
    refine Ev.bind (r_header a0 a1 a2 l gl) ?_
    refine Ev.bind (r_header b0 b1 b2 m gm) ?_
    have hz := hdr_size gl
    have hz' := hdr_size gm
    have e1 : Blk.block_Header.f 0 a0 a1 a2 l = some (hdr a0 a1 a2 l) := if_pos ((fB_iff _ _ _ _).2 gl)
    have e2 : Blk.block_Header.f 0 b0 b1 b2 m = some (hdr b0 b1 b2 m) := if_pos ((fB_iff _ _ _ _).2 gm)
    have hj := un_j1 gl gm
    refine Ev.congr (f := fun k => parchmentlaw09_BlockUnlike.j1 k ((hdr a0 a1 a2 l).toList == (hdr b0 b1 b2 m).toList) false a0 a1 a2 (l.map rf) b0 b1 b2 (m.map rf)) (fun k => ?_) hj
    simp only [Blk.law_awake.f, Option.bind_some, if_true, hash_ev gl, hash_ev gm]
    rw [show Blk.block_Header.f k a0 a1 a2 l = some (hdr a0 a1 a2 l) from e1, show Blk.block_Header.f k b0 b1 b2 m = some (hdr b0 b1 b2 m) from e2]
    simp only [Option.bind_some, if_pos (show 1 + (hdr a0 a1 a2 l).size ≤ 9223372036854775807 by omega), if_pos (show 1 + (hdr b0 b1 b2 m).size ≤ 9223372036854775807 by omega)]
    by_cases hh : hdr a0 a1 a2 l = hdr b0 b1 b2 m
    · have hd : bhash a0 a1 a2 l = bhash b0 b1 b2 m := by unfold bhash; rw [hh]
      rw [hh, hd]
      simp
    · have hn : ((hdr a0 a1 a2 l).toList == (hdr b0 b1 b2 m).toList) = false := beq_eq_false_iff_ne.2 (fun h => hh (eq_toList.1 h))
      rw [hn]
      by_cases hd : bhash a0 a1 a2 l = bhash b0 b1 b2 m
      · have hc : hash_Collides.f ((⟨#[2]⟩ : ByteArray) ++ hdr a0 a1 a2 l) ((⟨#[2]⟩ : ByteArray) ++ hdr b0 b1 b2 m) = some true := by
          unfold hash_Collides.f
          rw [if_neg, sum_f _ (by rw [two_size]; omega), sum_f _ (by rw [two_size]; omega)]
          · show some ((bhash a0 a1 a2 l).toList == (bhash b0 b1 b2 m).toList) = some true
            rw [hd, beq_self_eq_true]
          · intro h
            have h := eq_toList.1 h
            apply hh
            have h' : S ([2] ++ (hdr a0 a1 a2 l).toList) = S ([2] ++ (hdr b0 b1 b2 m).toList) := by
              rw [← S_append, ← S_append, S_of, S_of]; exact h
            have := congrArg ByteArray.toList h'
            rw [S_toList, S_toList] at this
            exact eq_toList.1 (List.append_cancel_left this)
        rw [hd, beq_self_eq_true, hc]
        simp
      · have hd' : ((bhash a0 a1 a2 l).toList == (bhash b0 b1 b2 m).toList) = false := beq_eq_false_iff_ne.2 (fun h => hd (eq_toList.1 h))
        rw [hd']
        simp
theorem unlike {a0 b0 : Int} {a1 b1 : ByteArray} {a2 b2 : Int} {l m : List S47} (wl : WideB a0 a1 a2 (l.take 66)) (wm : WideB b0 b1 b2 (m.take 66)) :
    ∃ k, parchmentlaw09_BlockUnlike.f k a0 a1 a2 l b0 b1 b2 m = some true := by
  refine Ev.rounds (g := fun k => parchmentlaw09_BlockUnlike.f k a0 a1 a2 l b0 b1 b2 m) ?_
  unfold parchmentlaw09_BlockUnlike.f
  simp only [Blk.law_Block.f, Option.bind_some]
  generalize l.take 66 = l at wl
  generalize m.take 66 = m at wm
  have n1 := wl.n
  have n2 := wm.n
  refine Ev.bind (r_fol a0 a1 a2 l (by omega) (fun x hx => wide_small (wl.ls x hx)) a0 a1) ?_
  have hj := fun b => un_j0 wl.fits' wm.fits' b
  by_cases h1 : fol a0 a1 l a0 a1 = 0
  · simp only [if_pos h1]
    refine Ev.bind (r_fol b0 b1 b2 m (by omega) (fun x hx => wide_small (wm.ls x hx)) b0 b1) ?_
    by_cases h2 : fol b0 b1 m b0 b1 = 0
    · simp only [if_pos h2]
      by_cases h3 : (a1.size : Int) > 32
      · simp only [if_pos h3]; exact hj _
      · simp only [if_neg h3]; exact hj _
    · simp only [if_neg h2]; exact hj _
  · simp only [if_neg h1]; exact hj _
end Go.Proofs.Ytdcbacbilncnnaa.T
end
section
/- BlockUnlike: the rounds. -/
namespace Go.Proofs.Ytdcbacbilncnnaa.Pure
open Go.Proofs.Ytdcbacbilncnnaa.PMk
theorem BlockUnlike {a0 b0 : Int} {a1 b1 : ByteArray} {a2 b2 : Int} {l m : List S47} (wl : T.WideB a0 a1 a2 (l.take 66)) (wm : T.WideB b0 b1 b2 (m.take 66)) :
    ∃ k, PMu.parchmentlaw09_BlockUnlike.f k a0 a1 a2 l b0 b1 b2 m = some true := T.unlike wl wm
end Go.Proofs.Ytdcbacbilncnnaa.Pure
end
