/- The peaks of a growing tree. -/
import Derived.Test.YtnipbdlljfifhaaMr
import Derived.Test.YtnipbdlljfifhaaRt
set_option linter.unusedVariables false
set_option linter.unusedSimpArgs false
namespace Go.Proofs.Ytnipbdlljfifhaa.M
open Go.RowKit Go.Proofs.Ytnipbdlljfifhaa.PMk Go.Proofs.Ytnipbdlljfifhaa.T Go.Proofs.Ytnipbdlljfifhaa.Bk Go.Proofs.YtnipbdlljfifhaaW.PrintWords Go.Proofs.YtnipbdlljfifhaaW.PrintLast
def gp (n : Nat) : Nat := 2 ^ n.log2
theorem gp_le {n : Nat} (h : n ≠ 0) : gp n ≤ n := Nat.log2_self_le h
theorem gp_pos (n : Nat) : 1 ≤ gp n := Nat.one_le_two_pow
theorem gp_eq {n e : Nat} (h1 : 2 ^ e ≤ n) (h2 : n < 2 ^ (e + 1)) : gp n = 2 ^ e := by
  have h0 : n ≠ 0 := by have := Nat.one_le_two_pow (n := e); omega
  rw [gp, (Nat.log2_eq_iff h0).2 ⟨h1, h2⟩]
def pk (l : List ByteArray) : List ByteArray :=
  if h : l.length = 0 then [] else mroot (l.take (gp l.length)) :: pk (l.drop (gp l.length))
termination_by l.length
decreasing_by have := gp_pos l.length; simp; omega
theorem pk_nil : pk [] = [] := by rw [pk]; rfl
theorem pk_cons {l : List ByteArray} (h : l.length ≠ 0) : pk l = mroot (l.take (gp l.length)) :: pk (l.drop (gp l.length)) := by rw [pk]; rw [dif_neg h]
theorem pk_snoc (j : Nat) (C : List ByteArray) (hC : C.length = 2 ^ j) : ∀ (d a : Nat) (X : List ByteArray), X.length ≤ d → X.length = a * 2 ^ (j + 1) → pk (X ++ C) = pk X ++ [mroot C] := by
  have hp := Nat.one_le_two_pow (n := j)
  intro d
  induction d with
  | zero =>
    intro a X hd hX
    obtain rfl : X = [] := List.eq_nil_of_length_eq_zero (by omega)
    rw [List.nil_append, pk_nil, List.nil_append, pk_cons (by omega), gp_eq (e := j) (by omega) (by rw [hC, Nat.pow_succ]; omega), ← hC, List.take_length, List.drop_length, pk_nil]
  | succ d ih =>
    intro a X hd hX
    by_cases h0 : X.length = 0
    · obtain rfl : X = [] := List.eq_nil_of_length_eq_zero h0
      rw [List.nil_append, pk_nil, List.nil_append, pk_cons (by omega), gp_eq (e := j) (by omega) (by rw [hC, Nat.pow_succ]; omega), ← hC, List.take_length, List.drop_length, pk_nil]
    · have ha : 1 ≤ a := by
        rcases Nat.eq_zero_or_pos a with h | h
        · rw [h] at hX; omega
        · exact h
      obtain ⟨e, he⟩ : ∃ e, X.length.log2 = e := ⟨_, rfl⟩
      obtain ⟨g1, g2⟩ := (Nat.log2_eq_iff h0).1 he
      have hje : j + 1 ≤ e := by
        rcases Nat.lt_or_ge e (j + 1) with h | h
        · have h3 : 2 ^ (e + 1) ≤ 2 ^ (j + 1) := Nat.pow_le_pow_right (by omega) (by omega)
          have h4 : 1 * 2 ^ (j + 1) ≤ a * 2 ^ (j + 1) := Nat.mul_le_mul_right _ ha
          omega
        · exact h
      have hpe : 2 ^ e = 2 ^ (j + 1) * 2 ^ (e - (j + 1)) := by rw [← Nat.pow_add]; congr 1; omega
      have hpe1 : 2 ^ (e + 1) = 2 ^ (j + 1) * 2 ^ (e - j) := by rw [← Nat.pow_add]; congr 1; omega
      have hlt : a < 2 ^ (e - j) := by
        rw [hX, hpe1, Nat.mul_comm] at g2
        exact Nat.lt_of_mul_lt_mul_left g2
      have hle : (a + 1) * 2 ^ (j + 1) ≤ 2 ^ (e + 1) := by
        rw [hpe1, Nat.mul_comm]; exact Nat.mul_le_mul_left _ hlt
      rw [Nat.add_mul, Nat.one_mul, ← hX] at hle
      have hjj : 2 ^ (j + 1) = 2 ^ j * 2 := Nat.pow_succ ..
      have hgX : gp X.length = 2 ^ e := gp_eq g1 g2
      have hgXC : gp (X ++ C).length = 2 ^ e := gp_eq (by simp; omega) (by simp; omega)
      have hne : (X ++ C).length ≠ 0 := by rw [List.length_append]; omega
      rw [pk_cons (l := X ++ C) hne, pk_cons (l := X) h0, hgX, hgXC, List.take_append_of_le_length g1, List.drop_append_of_le_length g1, List.cons_append]
      congr 1
      have hp1 := Nat.one_le_two_pow (n := e)
      have hdl : (X.drop (2 ^ e)).length ≤ d := by rw [List.length_drop]; omega
      refine ih (a - 2 ^ (e - (j + 1))) (X.drop (2 ^ e)) hdl ?_
      rw [List.length_drop, hX, hpe, Nat.sub_mul, Nat.mul_comm (2 ^ (e - (j + 1)))]
theorem mroot_pow (j : Nat) (D C : List ByteArray) (hD : D.length = 2 ^ j) (hC : C.length = 2 ^ j) : mroot (D ++ C) = node (mroot D) (mroot C) := by
  have hp := Nat.one_le_two_pow (n := j)
  have hs : sp (D ++ C).length = 2 ^ j := sp_eq (by simp; omega) (by simp; rw [Nat.pow_succ]; omega)
  rw [mroot_two (by simp; omega), hs, ← hD, List.take_left, List.drop_left]
theorem pk_w32 : ∀ (d : Nat) (l : List ByteArray), l.length ≤ d → W32 l → W32 (pk l) ∧ (pk l).length ≤ l.length
  | 0, l, h, hw => by
    obtain rfl : l = [] := List.eq_nil_of_length_eq_zero (by omega)
    rw [pk_nil]; exact ⟨hw, Nat.le_refl _⟩
  | d + 1, l, h, hw => by
    by_cases h0 : l.length = 0
    · obtain rfl : l = [] := List.eq_nil_of_length_eq_zero h0
      rw [pk_nil]; exact ⟨hw, Nat.le_refl _⟩
    · have hg := gp_pos l.length
      obtain ⟨h1, h2⟩ := pk_w32 d (l.drop (gp l.length)) (by simp; omega) (hw.drop _)
      rw [pk_cons h0]
      exact ⟨W32.cons.2 ⟨mroot_size (hw.take _), h1⟩, by simp at h2 ⊢; omega⟩
/-- What the loop makes of the peaks and a new block: the peaks. -/
theorem car_pk : ∀ (m j : Nat) (X C : List ByteArray), 1 ≤ m → W32 X → W32 C → X.length = (m - 1) * 2 ^ j → C.length = 2 ^ j → ∃ k, car k (pk X ++ [mroot C]) m = some (pk (X ++ C)) := by
  intro m
  induction m using Nat.strongRecOn with
  | _ m ih =>
  intro j X C h1 hwX hwC hX hC
  have hp := Nat.one_le_two_pow (n := j)
  by_cases hev : m % 2 = 0
  · have hm : m - 1 = (m - 2) + 1 := by omega
    have hXl : X.length = (m - 2) * 2 ^ j + 2 ^ j := by rw [hX, hm, Nat.add_mul, Nat.one_mul]
    obtain ⟨X', D, hXD, hX', hD⟩ : ∃ X' D, X = X' ++ D ∧ X'.length = (m - 2) * 2 ^ j ∧ D.length = 2 ^ j :=
      ⟨X.take ((m - 2) * 2 ^ j), X.drop ((m - 2) * 2 ^ j), (List.take_append_drop _ _).symm, by simp; omega, by simp; omega⟩
    subst hXD
    have e2 : (m - 2) * 2 ^ j = (m / 2 - 1) * 2 ^ (j + 1) := by
      rw [Nat.pow_succ, ← Nat.mul_assoc, Nat.mul_right_comm]; congr 1; omega
    have hpk : pk (X' ++ D) = pk X' ++ [mroot D] := pk_snoc j D hD _ _ X' (Nat.le_refl _) (hX'.trans e2)
    obtain ⟨k, hk⟩ := ih (m / 2) (by omega) (j + 1) X' (D ++ C) (by omega) (W32.app.1 hwX).1 (W32.app.2 ⟨(W32.app.1 hwX).2, hwC⟩) (hX'.trans e2) (by rw [List.length_append, hD, hC, Nat.pow_succ]; omega)
    refine ⟨k + 1, ?_⟩
    rw [hpk, car, if_pos hev, if_pos (by simp)]
    have l1 : (pk X' ++ [mroot D] ++ [mroot C]).length - 2 = (pk X').length := by simp
    have l2 : (pk X' ++ [mroot D] ++ [mroot C]).length - 1 = (pk X').length + 1 := by simp
    rw [l1, l2]
    have g1 : (pk X' ++ [mroot D] ++ [mroot C]).getD (pk X').length ByteArray.empty = mroot D := by simp
    have g2 : (pk X' ++ [mroot D] ++ [mroot C]).getD ((pk X').length + 1) ByteArray.empty = mroot C := by
      rw [List.getD_eq_getElem?_getD, List.getElem?_append_right (by simp)]; simp
    have g3 : (pk X' ++ [mroot D] ++ [mroot C]).take (pk X').length = pk X' := by rw [List.append_assoc, List.take_left]
    rw [g1, g2, g3, node_f _ _ (by rw [mroot_size (W32.app.1 hwX).2]; omega) (by rw [mroot_size hwC]; omega), Option.bind_some, ← mroot_pow j D C hD hC, hk, List.append_assoc]
  · refine ⟨1, ?_⟩
    rw [car, if_neg hev, pk_snoc j C hC _ ((m - 1) / 2) X (Nat.le_refl _)]
    rw [hX, Nat.pow_succ, ← Nat.mul_assoc, Nat.mul_right_comm]; congr 1; omega
def foldUp : List ByteArray → ByteArray
  | [] => ByteArray.empty
  | [x] => x
  | x :: y :: t => node x (foldUp (y :: t))
theorem foldUp_cons (x : ByteArray) {l : List ByteArray} (h : l ≠ []) : foldUp (x :: l) = node x (foldUp l) := by
  cases l with
  | nil => exact absurd rfl h
  | cons y t => rfl
theorem foldUp_size {l : List ByteArray} (h : l ≠ []) (hw : W32 l) : (foldUp l).size = 32 := by
  match l, h with
  | [x], _ => exact W32.one.1 hw
  | x :: y :: t, _ => exact node_size _ _
theorem fold_pk : ∀ (d : Nat) (l : List ByteArray), l.length ≤ d → l ≠ [] → foldUp (pk l) = mroot l
  | 0, l, h, hne => absurd (List.eq_nil_of_length_eq_zero (by omega)) hne
  | d + 1, l, h, hne => by
    have h0 : l.length ≠ 0 := fun h => hne (List.eq_nil_of_length_eq_zero h)
    have hg := gp_pos l.length
    have hle := gp_le h0
    rw [pk_cons h0]
    by_cases he : gp l.length = l.length
    · rw [he, List.take_length, List.drop_length, pk_nil]
      rfl
    · have hd : (l.drop (gp l.length)).length ≠ 0 := by simp; omega
      have hdn : l.drop (gp l.length) ≠ [] := fun h => hd (by rw [h]; rfl)
      have hs : sp l.length = gp l.length := sp_eq (by show gp l.length < _; omega) (Nat.le_of_lt (Nat.lt_log2_self))
      have h2 : 2 ≤ l.length := by omega
      have hdl : (l.drop (gp l.length)).length ≤ d := by rw [List.length_drop]; omega
      rw [foldUp_cons _ (by rw [pk_cons hd]; simp), fold_pk d _ hdl hdn, mroot_two (l := l) h2, hs]
def fD (P : List ByteArray) (q k : Nat) : D32 :=
  if h : (P.getD (q - 1 - k) ByteArray.empty).size = 32 then ⟨(q - 1 - k, P.getD (q - 1 - k) ByteArray.empty), h⟩ else ⟨(0, Dig.dig ⟨#[]⟩), Dig.dig_size _⟩
theorem fD_eq {P : List ByteArray} {q : Nat} (hq : P.length = q + 1) (hw : W32 P) (k : Nat) : (fD P q k).1 = (q - 1 - k, P.getD (q - 1 - k) ByteArray.empty) := by
  unfold fD
  rw [dif_pos (hw.getD (by omega))]
theorem fD_hands {P : List ByteArray} {q : Nat} (hq : P.length = q + 1) (hw : W32 P) : Hands encD (fD P q) (P.take q) := by
  intro k hk
  have e1 : (P.take q).length = q := by simp; omega
  rw [e1] at hk ⊢
  unfold encD
  rw [fD_eq hq hw]
  have e2 : (P.take q).getD (q - 1 - k) ByteArray.empty = P.getD (q - 1 - k) ByteArray.empty := by simp [List.getElem?_take, show q - 1 - k < q by omega]
  rw [e2]
theorem climb_fold {P : List ByteArray} {q : Nat} (hq : P.length = q + 1) (hw : W32 P) : ∀ j, j ≤ q → climbUp (upto (fD P q) j) (P.getD q ByteArray.empty) = some (foldUp (P.drop (q - j)))
  | 0, _ => by
    have e : P.drop q = [P.getD q ByteArray.empty] := by
      rw [List.drop_eq_getElem_cons (by omega), List.drop_eq_nil_of_le (by omega), List.getD_eq_getElem?_getD, List.getElem?_eq_getElem (by omega)]; rfl
    rw [Nat.sub_zero, e]
    rfl
  | j + 1, hj => by
    have hd : P.drop (q - j) ≠ [] := fun h => by have := congrArg List.length h; simp at this; omega
    have e : P.drop (q - (j + 1)) = P.getD (q - 1 - j) ByteArray.empty :: P.drop (q - j) := by
      rw [List.drop_eq_getElem_cons (by omega), List.getD_eq_getElem?_getD, List.getElem?_eq_getElem (by omega)]
      have e7 : q - (j + 1) = q - 1 - j := by omega
      have e8 : q - 1 - j + 1 = q - j := by omega
      simp only [e7, e8, Option.getD_some]
    rw [upto_succ, climbUp_snoc, climb_fold hq hw j (by omega), Option.bind_some, fD_eq hq hw, e, foldUp_cons _ hd]
    exact node_f _ _ (by rw [hw.getD (by omega)]; omega) (by rw [foldUp_size hd (hw.drop _)]; omega)
end Go.Proofs.Ytnipbdlljfifhaa.M
namespace Go.Proofs.Ytnipbdlljfifhaa.T
open Go.RowKit Go.Proofs.Ytnipbdlljfifhaa.M
/-- The tree's root is that of its leaves. -/
theorem root_tree (w : World) (base g : Nat) (vl vp : Value) (L : List ByteArray) (hA : At w base g vl vp L (pk L)) (hL : L ≠ []) (hw : W32 L) (hn : L.length < 1000000) :
    Calls Try.prog 16 #[.pointer (some ⟨g, 0, none⟩)] w fun e w' => e = .returned (.string (mroot L)) ∧ Below w.heap.size w w' := by
  have h0 : L.length ≠ 0 := fun h => hL (List.eq_nil_of_length_eq_zero h)
  obtain ⟨p1, p2⟩ := pk_w32 _ L (Nat.le_refl _) hw
  have hne : (pk L).length ≠ 0 := by rw [pk_cons h0]; simp
  obtain ⟨q, hq⟩ : ∃ q, (pk L).length = q + 1 := ⟨(pk L).length - 1, by omega⟩
  have hc := climb_fold hq p1 q (Nat.le_refl _)
  rw [Nat.sub_self, List.drop_zero, fold_pk _ L (Nat.le_refl _) hL] at hc
  exact root_raw w base g vl vp L (pk L) hA hL q hq (by omega) p1 (fD (pk L) q) (fD_hands hq p1) _ hc
end Go.Proofs.Ytnipbdlljfifhaa.T
