/- Part 7 of what the proof of ProofVerifies stands on. -/
import Derived.Lib.Hide
import Derived.Lib.SmallJoins
import Derived.Deep.Slices
import Derived.SizedLaws
import Derived.ProofKit
import Derived.Test.YtdcbacbilncnnaaPvf6
section
/- Whether a proof shows a revision, plain: what the program's Verify comes to. -/
set_option linter.unusedVariables false
set_option linter.unusedSimpArgs false
namespace Go.Proofs.Ytdcbacbilncnnaa.T
open Go.RowKit Go.Proofs.Ytdcbacbilncnnaa.PMk Go.Proofs.Ytdcbacbilncnnaa.M Go.Proofs.Ytdcbacbilncnnaa.EncS Go.Proofs.Ytdcbacbilncnnaa.EncL Go.Proofs.YtdcbacbilncnnaaW.PrintWords Go.Proofs.YtdcbacbilncnnaaW.PrintLast
theorem pmeta_ev {op d v : Int} {t f h : ByteArray} (b : ByteArray) (q : Bool) (g : Fits d v t f h) : Ev (fun k => proof_Meta.f k op t f d v h b q) (S (mt op t f d v h)) := meta_ev b q g
instance (l : List ByteArray) : Decidable (W32 l) := inferInstanceAs (Decidable (∀ x ∈ l, x.size = 32))
/-- The root that a leaf and a way come to. -/
def way (h : ByteArray) (m n : Nat) (l : List ByteArray) : Option ByteArray := if l.length = (turns m n).length ∧ W32 l then some (up (turns m n).reverse l h) else none
/-- A proof. -/
structure S53 where
  f0 : Int
  f1 : ByteArray
  f2 : Int
  f3 : Int
  f4 : Int
  f5 : List ByteArray
  f6 : List ByteArray
def pguard (n : Int) (p : S53) : Prop := 1 ≤ n ∧ n ≤ 2147483648 ∧ p.f0 < n ∧ 1 ≤ p.f4 ∧ p.f4 ≤ 64 ∧ 0 ≤ p.f3 ∧ p.f3 < p.f4 ∧ p.f5.length ≤ 64 ∧ p.f6.length ≤ 64 ∧ p.f1.size ≤ 32
instance (n : Int) (p : S53) : Decidable (pguard n p) := by unfold pguard; infer_instance
def hd2 (p : S53) (root : ByteArray) : ByteArray := Dig.dig ((⟨#[2]⟩ : ByteArray) ++ (pre p.f0 p.f1 p.f2 p.f4.toNat ++ root))
def topOf (n : Int) (x : S47) (p : S53) : Option ByteArray :=
  (way (leaf (S (mx x))) p.f3.toNat p.f4.toNat p.f5).bind fun root => way (leaf (hd2 p root)) p.f0.toNat n.toNat p.f6
def vfy (d0 : Int) (d1 : ByteArray) (x : S47) (p : S53) : Int := if chk x = 0 ∧ d1.size = 32 then (if pguard d0 p ∧ topOf d0 x p = some d1 then 0 else 80) else 1
/-- What Verify asks of numbers and texts. -/
structure FitsV (x : S47) (p : S53) : Prop where
  s : Small x
  g : Fits x.f3 x.f4 x.f1 x.f2 x.f5
  p0 : 0 ≤ p.f0
  q0 : 0 ≤ p.f2
  q1 : p.f2 < 18446744073709551616
theorem way_cases {h r : ByteArray} {m n : Nat} {l : List ByteArray} {b : Bool} (hb : b = true ↔ l.length = (turns m n).length ∧ W32 l) (hu : b = true → r = up (turns m n).reverse l h) : (b = true ∧ way h m n l = some r) ∨ (b = false ∧ way h m n l = none) := by
  unfold way
  cases b with
  | true => exact .inl ⟨rfl, by rw [if_pos (hb.1 rfl), ← hu rfl]⟩
  | false => exact .inr ⟨rfl, by rw [if_neg (fun h => by have := hb.2 h; simp at this)]⟩
theorem S_hd (p : S53) (root : ByteArray) : (((((⟨#[2]⟩ : ByteArray) ++ S (num p.f0)) ++ S (txt p.f1)) ++ S (num p.f2)) ++ S (encU p.f4.toNat)) ++ root = (⟨#[2]⟩ : ByteArray) ++ (pre p.f0 p.f1 p.f2 p.f4.toNat ++ root) := by
  unfold pre
  simp only [ByteArray.append_assoc]
theorem steps_j1 (n : Int) (x : S47) (p : S53) (acc : List ByteArray) (g : Fits x.f3 x.f4 x.f1 x.f2 x.f5) (f : FitsV x p) (h : pguard n p) (ha : acc.length ≤ 1) :
    ∃ r t b, Ev (fun k => proof_steps.j1 k n (S (mx x)) acc p.f0 p.f1 p.f2 p.f3 p.f4 p.f5 p.f6) (r, t, b) ∧ ((b = true ∧ topOf n x p = some r) ∨ (b = false ∧ topOf n x p = none)) := by
  obtain ⟨g1, g2, g3, g4, g5, g6, g7, g8, g9, g10⟩ := h
  have g0 := f.p0
  have hmt := mt_len (op := x.f0) g
  have hms : (S (mx x)).size ≤ 3377699720527973 := by rw [S_size]; exact hmt
  obtain ⟨r1, t1, b1, e1, z1, l1, c1, u1⟩ := pclimb_ev p.f4.toNat p.f3.toNat (leaf (S (mx x))) p.f5 (leaf_size _) (by omega) (by omega) (by omega) (by omega)
  rw [Int.toNat_of_nonneg g6, Int.toNat_of_nonneg (by omega)] at e1
  have hw := way_cases (h := leaf (S (mx x))) c1 u1
  have w4 : IntKind.u64.wrap p.f4 = p.f4 := by rw [IntKind.wrap_u64]; omega
  have w0 : wrap64 p.f0 = p.f0 := w64n _ (by omega) (by omega)
  have wn : wrap64 n = n := w64n _ (by omega) (by omega)
  have n0 := num_len p.f0 g0 (by omega)
  have n1 := txt_len p.f1 (by omega)
  have n2 := num_len p.f2 f.q0 f.q1
  have n4 := num_len p.f4 (by omega) (by omega)
  have s2 : ∀ s : ByteArray, ((⟨#[2]⟩ : ByteArray) ++ s).size = 1 + s.size := fun s => by rw [ByteArray.size_append]; rfl
  have hd : Dig.hash_Sum.f ((((((⟨#[2]⟩ : ByteArray) ++ S (num p.f0)) ++ S (txt p.f1)) ++ S (num p.f2)) ++ S (num p.f4)) ++ r1) = some (hd2 p r1) := by
    rw [sum_f _ (by simp only [ByteArray.size_append, S_size]; show 1 + _ + _ + _ + _ + _ < _; omega)]
    unfold hd2
    rw [← S_hd]
    rfl
  have key : ∀ res, Ev (fun k => (proof_climb.f k (leaf (S (mx x))) p.f3 p.f4 p.f5).bind fun bt559 => (if bt559.2.2 = true then (if (acc ++ [(⟨#[0]⟩ : ByteArray) ++ S (mx x)]).length + bt559.2.1.length < 8796093022208 then ((some ((acc ++ [(⟨#[0]⟩ : ByteArray) ++ S (mx x)]) ++ bt559.2.1 : List ByteArray)).bind fun y564 => ((enc_Uint.f k p.f0).bind fun t567 => (if 1 + t567.size ≤ 9223372036854775807 then ((enc_Text.f k p.f1).bind fun t568 => (if ((⟨#[2]⟩ : ByteArray) ++ t567).size + t568.size ≤ 9223372036854775807 then ((enc_Uint.f k p.f2).bind fun t569 => (if (((⟨#[2]⟩ : ByteArray) ++ t567) ++ t568).size + t569.size ≤ 9223372036854775807 then ((enc_Uint.f k p.f4).bind fun t570 => (if ((((⟨#[2]⟩ : ByteArray) ++ t567) ++ t568) ++ t569).size + t570.size ≤ 9223372036854775807 then (if (((((⟨#[2]⟩ : ByteArray) ++ t567) ++ t568) ++ t569) ++ t570).size + bt559.1.size ≤ 9223372036854775807 then ((Dig.hash_Sum.f ((((((⟨#[2]⟩ : ByteArray) ++ t567) ++ t568) ++ t569) ++ t570) ++ bt559.1)).bind fun t571 => (if 1 + t571.size ≤ 9223372036854775807 then ((some (([(((((⟨#[2]⟩ : ByteArray) ++ t567) ++ t568) ++ t569) ++ t570) ++ bt559.1, (⟨#[0]⟩ : ByteArray) ++ t571] : List ByteArray) : List ByteArray)).bind fun y572 => (if y564.length + y572.length < 8796093022208 then ((some (y564 ++ y572 : List ByteArray)).bind fun y575 => ((hash_Leaf.f t571).bind fun t578 => ((proof_climb.f k t578 p.f0 n p.f6).bind fun bt579 => (if y575.length + bt579.2.1.length < 8796093022208 then (some (bt579.1, (y575 ++ bt579.2.1), bt579.2.2)) else (none))))) else (none))) else (none))) else (none)) else (none))) else (none))) else (none))) else (none)))) else (none)) else (some ((⟨#[]⟩ : ByteArray), ([] : List ByteArray), false)))) res →
      Ev (fun k => proof_steps.j1 k n (S (mx x)) acc p.f0 p.f1 p.f2 p.f3 p.f4 p.f5 p.f6) res := by
    intro res H
    refine Ev.step (fun k => ?_) H
    rw [proof_steps.j1, if_pos (by omega), if_pos (by omega), Option.bind_some, leaf_f _ (by omega), Option.bind_some, w4, w0, wn]
  rcases hw with ⟨rfl, hw⟩ | ⟨rfl, hw⟩
  · obtain ⟨r2, t2, b2, e2, z2, l2, c2, u2⟩ := pclimb_ev n.toNat p.f0.toNat (leaf (hd2 p r1)) p.f6 (leaf_size _) (by omega) (by omega) (by omega) (by omega)
    rw [Int.toNat_of_nonneg g0, Int.toNat_of_nonneg (by omega)] at e2
    have hw2 := way_cases (h := leaf (hd2 p r1)) c2 u2
    refine ⟨r2, (((acc ++ [(⟨#[0]⟩ : ByteArray) ++ S (mx x)]) ++ t1) ++ [((((((⟨#[2]⟩ : ByteArray) ++ S (num p.f0)) ++ S (txt p.f1)) ++ S (num p.f2)) ++ S (num p.f4)) ++ r1), (⟨#[0]⟩ : ByteArray) ++ hd2 p r1]) ++ t2, b2, key _ (Ev.bind e1 ?_), ?_⟩
    · refine Ev.congr (fun _ => if_pos rfl) ?_
      refine Ev.congr (fun _ => if_pos (by simp; omega)) ?_
      simp only [Option.bind_some]
      refine Ev.bind (num_ev p.f0 g0 (by omega)) ?_
      refine Ev.congr (fun _ => if_pos (by rw [S_size]; omega)) ?_
      refine Ev.bind (text_f p.f1 (by omega)) ?_
      refine Ev.congr (fun _ => if_pos (by rw [s2, S_size, S_size]; unfold txt at n1; omega)) ?_
      refine Ev.bind (num_ev p.f2 f.q0 f.q1) ?_
      refine Ev.congr (fun _ => if_pos (by simp only [ByteArray.size_append, S_size]; show 1 + _ + _ + _ ≤ _; unfold txt at n1; omega)) ?_
      refine Ev.bind (num_ev p.f4 (by omega) (by omega)) ?_
      refine Ev.congr (fun _ => if_pos (by simp only [ByteArray.size_append, S_size]; show 1 + _ + _ + _ + _ ≤ _; unfold txt at n1; omega)) ?_
      refine Ev.congr (fun _ => if_pos (by simp only [ByteArray.size_append, S_size]; show 1 + _ + _ + _ + _ + _ ≤ _; unfold txt at n1; omega)) ?_
      refine Ev.congr (fun _ => by rw [show encU p.f1.size ++ p.f1.toList = txt p.f1 from rfl, hd, Option.bind_some]) ?_
      have hz : (hd2 p r1).size = 32 := Dig.dig_size _
      refine Ev.congr (fun _ => if_pos (by omega)) ?_
      simp only [Option.bind_some, leaf_f _ (show (hd2 p r1).size < 1152921504606846000 by omega)]
      refine Ev.congr (fun _ => if_pos (by simp; omega)) ?_
      refine Ev.bind e2 ?_
      refine Ev.congr (fun _ => if_pos (by simp; omega)) ?_
      exact Ev.now _
    · unfold topOf
      rw [hw, Option.bind_some]
      exact hw2
  · refine ⟨(⟨#[]⟩ : ByteArray), ([] : List ByteArray), false, key _ (Ev.bind e1 ?_), .inr ⟨rfl, by unfold topOf; rw [hw]; rfl⟩⟩
    refine Ev.congr (fun _ => if_neg (by simp)) ?_
    exact Ev.now _
theorem steps_ev (n : Int) (x : S47) (p : S53) (f : FitsV x p) :
    ∃ r t b, Ev (fun k => proof_steps.f k x.f0 x.f1 x.f2 x.f3 x.f4 x.f5 x.f6 x.f7 p.f0 p.f1 p.f2 p.f3 p.f4 p.f5 p.f6 n) (r, t, b) ∧ ((b = true ∧ pguard n p ∧ topOf n x p = some r) ∨ (b = false ∧ ¬ (pguard n p ∧ ∃ r, topOf n x p = some r))) := by
  have hj : Ev (fun k => proof_steps.j0 k n true x.f0 x.f1 x.f2 x.f3 x.f4 x.f5 x.f6 x.f7 p.f0 p.f1 p.f2 p.f3 p.f4 p.f5 p.f6) ((⟨#[]⟩ : ByteArray), ([] : List ByteArray), false) :=
    Ev.step (f := fun _ => some ((⟨#[]⟩ : ByteArray), ([] : List ByteArray), false)) (fun k => by rw [proof_steps.j0, if_pos rfl]) (Ev.now _)
  by_cases h : pguard n p
  · have h' := h
    obtain ⟨g1, g2, g3, g4, g5, g6, g7, g8, g9, g10⟩ := h'
    obtain ⟨acc, hacc, ha⟩ : ∃ acc : List ByteArray, acc.length ≤ 1 ∧ ∀ res, Ev (fun k => proof_steps.j1 k n (S (mx x)) acc p.f0 p.f1 p.f2 p.f3 p.f4 p.f5 p.f6) res → Ev (fun k => proof_steps.j0 k n (decide ((p.f1.size : Int) > 32)) x.f0 x.f1 x.f2 x.f3 x.f4 x.f5 x.f6 x.f7 p.f0 p.f1 p.f2 p.f3 p.f4 p.f5 p.f6) res := by
      by_cases h6 : x.f6.toList = []
      · refine ⟨[], by simp, fun res H => Ev.step (fun k => by rw [proof_steps.j0, if_neg (by simp; omega)]) (Ev.bind (pmeta_ev _ _ f.g) ?_)⟩
        simp only [Option.bind_some, if_pos h6]
        exact H
      · refine ⟨[(⟨#[0]⟩ : ByteArray) ++ x.f6], by simp, fun res H => Ev.step (fun k => by rw [proof_steps.j0, if_neg (by simp; omega)]) (Ev.bind (pmeta_ev _ _ f.g) ?_)⟩
        have := f.s.s6
        simp only [Option.bind_some, if_neg h6]
        exact Ev.congr (fun k => by rw [if_pos (by omega), if_pos (by simp)]; rfl) H
    obtain ⟨r, t, b, e, hc⟩ := steps_j1 n x p acc f.g f h hacc
    refine ⟨r, t, b, ?_, ?_⟩
    · unfold proof_steps.f
      exact Ev.congr (fun k => by rw [if_neg (by omega), if_neg (by omega), if_neg (by omega), if_neg (by omega), if_neg (by omega), if_neg (by omega), if_neg (by omega), if_neg (by omega), if_neg (by omega)]) (ha _ e)
    · rcases hc with ⟨h1, h2⟩ | ⟨h1, h2⟩
      · exact .inl ⟨h1, h, h2⟩
      · exact .inr ⟨h1, fun h' => by obtain ⟨r', h'⟩ := h'.2; rw [h2] at h'; cases h'⟩
  · refine ⟨(⟨#[]⟩ : ByteArray), ([] : List ByteArray), false, ?_, .inr ⟨rfl, fun h' => h h'.1⟩⟩
    unfold proof_steps.f
    by_cases a1 : n < 1
    · simp only [if_pos a1]; exact hj
    simp only [if_neg a1]
    by_cases a2 : n > 2147483648
    · simp only [if_pos a2]; exact hj
    simp only [if_neg a2]
    by_cases a3 : p.f0 ≥ n
    · simp only [if_pos a3]; exact hj
    simp only [if_neg a3]
    by_cases a4 : p.f4 < 1
    · simp only [if_pos a4]; exact hj
    simp only [if_neg a4]
    by_cases a5 : p.f4 > 64
    · simp only [if_pos a5]; exact hj
    simp only [if_neg a5]
    by_cases a6 : p.f3 < 0
    · simp only [if_pos a6]; exact hj
    simp only [if_neg a6]
    by_cases a7 : p.f3 ≥ p.f4
    · simp only [if_pos a7]; exact hj
    simp only [if_neg a7]
    by_cases a8 : (p.f5.length : Int) > 64
    · simp only [if_pos a8]; exact hj
    simp only [if_neg a8]
    by_cases a9 : (p.f6.length : Int) > 64
    · simp only [if_pos a9]; exact hj
    simp only [if_neg a9]
    have a10 : (p.f1.size : Int) > 32 := by
      refine Classical.byContradiction fun a10 => h ⟨by omega, by omega, by omega, by omega, by omega, by omega, by omega, by omega, by omega, by omega⟩
    simp only [decide_eq_true a10]
    exact hj
theorem verify_ev (d0 : Int) (d1 : ByteArray) (x : S47) (p : S53) (f : FitsV x p) : Ev (fun k => proof_Verify.f k d0 d1 x.f0 x.f1 x.f2 x.f3 x.f4 x.f5 x.f6 x.f7 p.f0 p.f1 p.f2 p.f3 p.f4 p.f5 p.f6) (vfy d0 d1 x p) := by
  unfold proof_Verify.f vfy
  have hj : Ev (fun k => proof_Verify.j0 k true d0 d1 x.f0 x.f1 x.f2 x.f3 x.f4 x.f5 x.f6 x.f7 p.f0 p.f1 p.f2 p.f3 p.f4 p.f5 p.f6) 1 :=
    Ev.step (f := fun _ => some 1) (fun k => by rw [proof_Verify.j0, if_pos rfl]) (Ev.now _)
  refine Ev.bind (p_check x f.s) ?_
  by_cases hc : chk x = 0
  · simp only [if_pos hc]
    by_cases hs : d1.size = 32
    · rw [if_pos ⟨hc, hs⟩]
      obtain ⟨r, t, b, e, hb⟩ := steps_ev d0 x p f
      refine Ev.step (fun k => by rw [proof_Verify.j0, if_neg (by simp [hs])]) (Ev.bind e ?_)
      rcases hb with ⟨rfl, h1, h2⟩ | ⟨rfl, h1⟩
      · refine Ev.congr (fun _ => if_pos rfl) ?_
        by_cases hr : r.toList = d1.toList
        · rw [if_pos (c := pguard d0 p ∧ topOf d0 x p = some d1) ⟨h1, by rw [h2, toList_eq_iff.1 hr]⟩]
          exact Ev.congr (fun _ => if_pos hr) (Ev.now _)
        · rw [if_neg (c := pguard d0 p ∧ topOf d0 x p = some d1) (fun h => hr (by rw [h2] at h; injection h.2 with h; rw [h]))]
          exact Ev.congr (fun _ => if_neg hr) (Ev.now _)
      · rw [if_neg (c := pguard d0 p ∧ topOf d0 x p = some d1) (fun h => h1 ⟨h.1, _, h.2⟩)]
        exact Ev.congr (fun _ => if_neg (by simp)) (Ev.now _)
    · rw [if_neg (fun h => hs h.2)]
      have hb : ((d1.size : Int) != 32) = true := by simpa using fun e => hs (by omega)
      simp only [hb]
      exact hj
  · simp only [if_neg hc]
    rw [if_neg (fun h => hc h.1)]
    exact hj
end Go.Proofs.Ytdcbacbilncnnaa.T
end
section
/- A block without the bytes of a revision's document. -/
set_option linter.unusedVariables false
set_option linter.unusedSimpArgs false
namespace Go.Proofs.Ytdcbacbilncnnaa.T
open Go.RowKit Go.Proofs.Ytdcbacbilncnnaa.PMk Go.Proofs.YtdcbacbilncnnaaW.PrintWords Go.Proofs.YtdcbacbilncnnaaW.PrintLast
def bod (op : Int) : Bool := if op = 3 then true else op == 4
theorem below4 {w W : World} {g n : Nat} {y0 y1 y2 y3 : Value} (h : Below n w W) (hg : n ≤ g) : Below n w ((((W.setCell ⟨g, 0, none⟩ y0).setCell ⟨g, 1, none⟩ y1).setCell ⟨g, 2, none⟩ y2).setCell ⟨g, 3, none⟩ y3) :=
  (((h.setCell hg _).setCell hg _).setCell hg _).setCell hg _
/-- What Without refuses. -/
def wo (l : List S47) (i : Int) : Bool := decide (0 ≤ i) && decide (i < l.length) && bod (rd_T47 l i).f0 && !(rd_T47 l i).f7
def bare (x : S47) : S47 := ⟨x.f0, x.f1, x.f2, x.f3, x.f4, x.f5, ⟨#[]⟩, true⟩
end Go.Proofs.Ytdcbacbilncnnaa.T
end
section
/- What the laws' chain shows, plain: each of its revisions, also when its bytes are gone. -/
set_option linter.unusedVariables false
set_option linter.unusedSimpArgs false
namespace Go.Proofs.Ytdcbacbilncnnaa.T
open Go.RowKit Go.Proofs.Ytdcbacbilncnnaa.PMk Go.Proofs.Ytdcbacbilncnnaa.M Go.Proofs.Ytdcbacbilncnnaa.EncS Go.Proofs.Ytdcbacbilncnnaa.EncL Go.Proofs.YtdcbacbilncnnaaW.PrintWords Go.Proofs.YtdcbacbilncnnaaW.PrintLast
theorem name116 : nameS ⟨#[116]⟩ = true := by
  show (decide (good 0 (bt ⟨#[116]⟩ ((0 : Nat) : Int))) && (decide (1 ≤ (⟨#[116]⟩ : ByteArray).size) && decide ((⟨#[116]⟩ : ByteArray).size ≤ 16))) = true
  rw [decide_eq_true (show good 0 (bt ⟨#[116]⟩ ((0 : Nat) : Int)) from Or.inl ⟨by decide, by decide⟩)]
  decide
theorem nil_toList : (⟨#[]⟩ : ByteArray).toList = [] := by rw [ByteArray.toList_eq]
theorem chk_rvC (n i : Nat) : chk (rvC n i) = 0 := by
  unfold chk
  rw [if_pos]
  refine ⟨by show (1 : Int) ≤ 3; decide, by show (3 : Int) ≤ 5; decide, name116, ?_, ?_, ?_⟩
  · rw [if_neg (by show ¬ (3 : Int) = 2; decide)]; exact nil_toList
  · unfold numsOk
    rw [if_neg (by show ¬ (3 : Int) < 3; decide)]
    exact ⟨by show (1 : Int) ≤ (n : Int) + 1; omega, iff_of_true rfl rfl⟩
  · unfold bytesOk
    rw [if_pos (.inl rfl), if_neg (by show ¬ (false = true); decide)]
    exact ⟨rfl, by show (rvb n i).size ≤ 1024; rw [rvb_size]; decide⟩
theorem small_rvC (n i : Nat) : Small (rvC n i) := ⟨by show (⟨#[116]⟩ : ByteArray).size < _; decide, by show (⟨#[]⟩ : ByteArray).size < _; decide, by show (rvb n i).size < _; rw [rvb_size]; decide, by show (0 : Int) ≤ 0; decide⟩
/-- What shows the i-th revision of the k-th block among the first n of t. -/
def prf (zs : List Int) (k i n t : Nat) : S53 := ⟨(k : Int), (stC zs k).2, (k : Int) + 7, (i : Int), (cnt (zs.getD k 0) : Int), pathT i (lvs (bkC zs k).f3), pathT k (((bks zs t).map lf).take n)⟩
theorem prf_fits {zs : List Int} {k i n t : Nat} (hk : k < 100) {x : S47} (hs : Small x) (g : Fits x.f3 x.f4 x.f1 x.f2 x.f5) : FitsV x (prf zs k i n t) :=
  ⟨hs, g, by show (0 : Int) ≤ k; omega, by show (0 : Int) ≤ (k : Int) + 7; omega, by show (k : Int) + 7 < _; omega⟩
theorem lvs_at (l : List S47) (i : Nat) (hi : i < l.length) : (lvs l).getD i ByteArray.empty = leaf (S (mx (l.getD i z47))) := by
  unfold lvs lv ms
  rw [List.take_of_length_le (Nat.le_refl _), List.map_map, List.getD_eq_getElem?_getD, List.getElem?_map, List.getElem?_eq_getElem hi, List.getD_eq_getElem?_getD, List.getElem?_eq_getElem hi]
  rfl
theorem rvs_at (n i m k : Nat) (hk : k < m) : (rvs n i m).getD k z47 = rvC (n + k) i := by
  rw [List.getD_eq_getElem?_getD]
  simp [rvs, hk]
theorem way_path (l : List ByteArray) (m : Nat) (hw : W32 l) (hm : m < l.length) : way (l.getD m ByteArray.empty) m l.length (pathT m l) = some (mroot l) := by
  obtain ⟨h1, h2⟩ := path_up l.length m l (Nat.le_refl _) hm
  unfold way
  rw [if_pos ⟨h1, pathT_w32 l.length m l (Nat.le_refl _) hw⟩, h2]
theorem prf_guard (zs : List Int) (k i n t : Nat) (ht : t ≤ 8) (hk : k < n) (hn : n ≤ t) (hi : i < cnt (zs.getD k 0)) : pguard (n : Int) (prf zs k i n t) := by
  have h1 := pathT_len _ i (lvs (bkC zs k).f3) (Nat.le_refl _)
  have h2 := pathT_len _ k (((bks zs t).map lf).take n) (Nat.le_refl _)
  have h3 := cnt_le (zs.getD k 0)
  have h4 := stC_p zs k
  have h5 : (lvs (bkC zs k).f3).length = cnt (zs.getD k 0) := by rw [lvs_len]; exact rvs_len _ _ _
  rw [h5] at h1
  have h6 : (((bks zs t).map lf).take n).length ≤ 8 := by rw [List.length_take, List.length_map, bks_len]; omega
  refine ⟨by omega, by omega, by show (k : Int) < n; omega, by show (1 : Int) ≤ (cnt (zs.getD k 0) : Int); omega, by show (cnt (zs.getD k 0) : Int) ≤ 64; omega, by show (0 : Int) ≤ i; omega, by show (i : Int) < (cnt (zs.getD k 0) : Int); omega, ?_, ?_, ?_⟩
  · show (pathT i (lvs (bkC zs k).f3)).length ≤ 64; omega
  · show (pathT k (((bks zs t).map lf).take n)).length ≤ 64; omega
  · show (stC zs k).2.size ≤ 32; omega
theorem prf_top (zs : List Int) (k i n t : Nat) (ht : t ≤ 8) (hk : k < n) (hn : n ≤ t) (hi : i < cnt (zs.getD k 0)) (x : S47) (hx : mx x = mx (rvC ((stC zs k).1 + i) k)) : topOf (n : Int) x (prf zs k i n t) = some (mroot (((bks zs t).map lf).take n)) := by
  have hl : (bkC zs k).f3.length = cnt (zs.getD k 0) := rvs_len _ _ _
  have hll : (lvs (bkC zs k).f3).length = cnt (zs.getD k 0) := by rw [lvs_len, hl]
  have e1 : way (leaf (S (mx x))) i (cnt (zs.getD k 0)) (pathT i (lvs (bkC zs k).f3)) = some (mroot (lvs (bkC zs k).f3)) := by
    have h := way_path (lvs (bkC zs k).f3) i (lvs_w32 _) (by omega)
    rw [lvs_at _ _ (by omega), hll] at h
    rw [hx]
    have h2 : (bkC zs k).f3.getD i z47 = rvC ((stC zs k).1 + i) k := rvs_at _ _ _ _ hi
    rw [h2] at h
    exact h
  have e2 : leaf (hd2 (prf zs k i n t) (mroot (lvs (bkC zs k).f3))) = (((bks zs t).map lf).take n).getD k ByteArray.empty := by
    rw [List.getD_eq_getElem?_getD, List.getElem?_take, if_pos hk, List.getElem?_map]
    have : (bks zs t)[k]? = some (bkC zs k) := by
      have := bks_at zs (show k < t by omega)
      rw [List.getElem?_eq_getElem (by rw [bks_len]; omega)]
      rw [List.getD_eq_getElem?_getD, List.getElem?_eq_getElem (by rw [bks_len]; omega)] at this
      exact congrArg some this
    rw [this]
    show leaf (hd2 _ _) = leaf (hsh (bkC zs k))
    congr 1
    unfold hd2 hsh bhash hdr
    rw [hl]
    rfl
  have hL : (((bks zs t).map lf).take n).length = n := by rw [List.length_take, List.length_map, bks_len]; omega
  have e3 := way_path (((bks zs t).map lf).take n) k ((lf_w32 _).take n) (by omega)
  rw [hL, ← e2] at e3
  unfold topOf
  show (way (leaf (S (mx x))) (i : Int).toNat (cnt (zs.getD k 0) : Int).toNat (pathT i (lvs (bkC zs k).f3))).bind (fun root => way (leaf (hd2 (prf zs k i n t) root)) (k : Int).toNat (n : Int).toNat (pathT k (((bks zs t).map lf).take n))) = _
  rw [Int.toNat_natCast, Int.toNat_natCast, Int.toNat_natCast, Int.toNat_natCast, e1, Option.bind_some, e3]
theorem shows (zs : List Int) (k i n t : Nat) (ht : t ≤ 8) (hk : k < n) (hn : n ≤ t) (hi : i < cnt (zs.getD k 0)) (x : S47) (hx : mx x = mx (rvC ((stC zs k).1 + i) k)) (hc : chk x = 0) : vfy (n : Int) (mroot (((bks zs t).map lf).take n)) x (prf zs k i n t) = 0 := by
  unfold vfy
  rw [if_pos ⟨hc, mroot_size ((lf_w32 _).take n)⟩, if_pos ⟨prf_guard zs k i n t ht hk hn hi, prf_top zs k i n t ht hk hn hi x hx⟩]
end Go.Proofs.Ytdcbacbilncnnaa.T
end
section
/- The guard of the laws on proofs: another revision is not shown. Its digests, reckoned by the kernel. Written by wip/genan.py. -/
set_option linter.unusedVariables false
set_option linter.unusedSimpArgs false
namespace Go.Proofs.Ytdcbacbilncnnaa.T
open Go.RowKit Go.Proofs.Ytdcbacbilncnnaa.PMk Go.Proofs.Ytdcbacbilncnnaa.M Go.Proofs.Ytdcbacbilncnnaa.EncS Go.Proofs.Ytdcbacbilncnnaa.EncL Go.Proofs.YtdcbacbilncnnaaW.PrintWords Go.Proofs.YtdcbacbilncnnaaW.PrintLast
theorem dig_S (l r : List UInt8) (h : Sha.sum l = r) : Dig.dig (S l) = S r := by
  unfold Dig.dig
  rw [S_toList, h]
  rfl
theorem leaf_S (l r : List UInt8) (h : Sha.sum (0 :: l) = r) : leaf (S l) = S r := by
  unfold leaf
  rw [show (⟨#[0]⟩ : ByteArray) = S [0] from rfl, S_append]
  exact dig_S _ _ h
theorem node_S (a b r : List UInt8) (h : Sha.sum (1 :: (a ++ b)) = r) : node (S a) (S b) = S r := by
  unfold node
  rw [show (⟨#[1]⟩ : ByteArray) = S [1] from rfl, S_append, S_append]
  exact dig_S _ _ h
set_option maxRecDepth 100000 in
theorem sb0 : Sha.sum [0, 0, 0] = [112, 158, 128, 200, 132, 135, 162, 65, 30, 30, 228, 223, 185, 242, 42, 134, 20, 146, 210, 12, 71, 101, 21, 12, 12, 121, 74, 189, 112, 248, 20, 124] := Sha.sum_is _ _ (by decide) (by decide +kernel)
set_option maxRecDepth 100000 in
theorem sm0 : Sha.sum [0, 3, 1, 116, 0, 1, 0, 32, 112, 158, 128, 200, 132, 135, 162, 65, 30, 30, 228, 223, 185, 242, 42, 134, 20, 146, 210, 12, 71, 101, 21, 12, 12, 121, 74, 189, 112, 248, 20, 124] = [225, 16, 204, 50, 242, 113, 70, 18, 2, 85, 156, 79, 57, 166, 229, 20, 98, 187, 140, 55, 105, 171, 158, 54, 23, 148, 15, 86, 221, 125, 157, 201] := Sha.sum_is _ _ (by decide) (by decide +kernel)
theorem rb0 : rvb 0 0 = S [0, 0] := rfl
theorem mx0 : mx (rvC 0 0) = [3, 1, 116, 0, 1, 0, 32, 112, 158, 128, 200, 132, 135, 162, 65, 30, 30, 228, 223, 185, 242, 42, 134, 20, 146, 210, 12, 71, 101, 21, 12, 12, 121, 74, 189, 112, 248, 20, 124] := by
  show mt 3 ⟨#[116]⟩ ⟨#[]⟩ ((0 : Nat) + 1 : Int) 0 (leaf (rvb 0 0)) = _
  rw [rb0, leaf_S _ _ sb0]
  unfold mt txt num byt
  rw [S_toList, S_size]
  have e0 : encU 0 = [0] := by rw [encU]; rfl
  have e1 : encU 1 = [1] := by rw [encU]; rfl
  have e2 : encU 32 = [32] := by rw [encU]; rfl
  have e3 : encU (((0 : Nat) : Int) + 1).toNat = [1] := by rw [show (((0 : Nat) : Int) + 1).toNat = 1 from rfl, encU]; rfl
  have e4 : (⟨#[116]⟩ : ByteArray).toList = [116] := by rw [ByteArray.toList_eq]
  rw [e3, e4, nil_toList]
  show _ :: (encU 1 ++ _ ++ (encU 0 ++ _ ++ (_ ++ (encU 0 ++ (encU 32 ++ _))))) = _
  rw [e0, e1, e2]
  rfl
theorem lv0 : leaf (S (mx (rvC 0 0))) = S [225, 16, 204, 50, 242, 113, 70, 18, 2, 85, 156, 79, 57, 166, 229, 20, 98, 187, 140, 55, 105, 171, 158, 54, 23, 148, 15, 86, 221, 125, 157, 201] := by rw [mx0]; exact leaf_S _ _ sm0
set_option maxRecDepth 100000 in
theorem sb1 : Sha.sum [0, 1, 0] = [250, 238, 147, 87, 99, 4, 79, 18, 77, 117, 38, 117, 90, 80, 88, 163, 63, 148, 2, 165, 149, 153, 77, 89, 237, 221, 75, 232, 84, 111, 242, 1] := Sha.sum_is _ _ (by decide) (by decide +kernel)
set_option maxRecDepth 100000 in
theorem sm1 : Sha.sum [0, 3, 1, 116, 0, 2, 0, 32, 250, 238, 147, 87, 99, 4, 79, 18, 77, 117, 38, 117, 90, 80, 88, 163, 63, 148, 2, 165, 149, 153, 77, 89, 237, 221, 75, 232, 84, 111, 242, 1] = [116, 159, 52, 55, 151, 47, 167, 230, 162, 156, 251, 202, 88, 241, 148, 216, 182, 235, 82, 169, 10, 190, 9, 31, 190, 253, 22, 232, 194, 79, 74, 80] := Sha.sum_is _ _ (by decide) (by decide +kernel)
theorem rb1 : rvb 1 0 = S [1, 0] := rfl
theorem mx1 : mx (rvC 1 0) = [3, 1, 116, 0, 2, 0, 32, 250, 238, 147, 87, 99, 4, 79, 18, 77, 117, 38, 117, 90, 80, 88, 163, 63, 148, 2, 165, 149, 153, 77, 89, 237, 221, 75, 232, 84, 111, 242, 1] := by
  show mt 3 ⟨#[116]⟩ ⟨#[]⟩ ((1 : Nat) + 1 : Int) 0 (leaf (rvb 1 0)) = _
  rw [rb1, leaf_S _ _ sb1]
  unfold mt txt num byt
  rw [S_toList, S_size]
  have e0 : encU 0 = [0] := by rw [encU]; rfl
  have e1 : encU 1 = [1] := by rw [encU]; rfl
  have e2 : encU 32 = [32] := by rw [encU]; rfl
  have e3 : encU (((1 : Nat) : Int) + 1).toNat = [2] := by rw [show (((1 : Nat) : Int) + 1).toNat = 2 from rfl, encU]; rfl
  have e4 : (⟨#[116]⟩ : ByteArray).toList = [116] := by rw [ByteArray.toList_eq]
  rw [e3, e4, nil_toList]
  show _ :: (encU 1 ++ _ ++ (encU 0 ++ _ ++ (_ ++ (encU 0 ++ (encU 32 ++ _))))) = _
  rw [e0, e1, e2]
  rfl
theorem lv1 : leaf (S (mx (rvC 1 0))) = S [116, 159, 52, 55, 151, 47, 167, 230, 162, 156, 251, 202, 88, 241, 148, 216, 182, 235, 82, 169, 10, 190, 9, 31, 190, 253, 22, 232, 194, 79, 74, 80] := by rw [mx1]; exact leaf_S _ _ sm1
set_option maxRecDepth 100000 in
theorem sb2 : Sha.sum [0, 2, 0] = [219, 188, 112, 37, 232, 158, 185, 177, 236, 158, 142, 44, 122, 45, 182, 134, 157, 187, 80, 251, 162, 27, 243, 116, 200, 101, 41, 220, 49, 28, 237, 233] := Sha.sum_is _ _ (by decide) (by decide +kernel)
set_option maxRecDepth 100000 in
theorem sm2 : Sha.sum [0, 3, 1, 116, 0, 3, 0, 32, 219, 188, 112, 37, 232, 158, 185, 177, 236, 158, 142, 44, 122, 45, 182, 134, 157, 187, 80, 251, 162, 27, 243, 116, 200, 101, 41, 220, 49, 28, 237, 233] = [51, 71, 186, 253, 167, 232, 95, 94, 95, 51, 206, 74, 100, 177, 208, 239, 245, 145, 4, 239, 92, 62, 97, 226, 40, 39, 207, 130, 210, 183, 37, 55] := Sha.sum_is _ _ (by decide) (by decide +kernel)
theorem rb2 : rvb 2 0 = S [2, 0] := rfl
theorem mx2 : mx (rvC 2 0) = [3, 1, 116, 0, 3, 0, 32, 219, 188, 112, 37, 232, 158, 185, 177, 236, 158, 142, 44, 122, 45, 182, 134, 157, 187, 80, 251, 162, 27, 243, 116, 200, 101, 41, 220, 49, 28, 237, 233] := by
  show mt 3 ⟨#[116]⟩ ⟨#[]⟩ ((2 : Nat) + 1 : Int) 0 (leaf (rvb 2 0)) = _
  rw [rb2, leaf_S _ _ sb2]
  unfold mt txt num byt
  rw [S_toList, S_size]
  have e0 : encU 0 = [0] := by rw [encU]; rfl
  have e1 : encU 1 = [1] := by rw [encU]; rfl
  have e2 : encU 32 = [32] := by rw [encU]; rfl
  have e3 : encU (((2 : Nat) : Int) + 1).toNat = [3] := by rw [show (((2 : Nat) : Int) + 1).toNat = 3 from rfl, encU]; rfl
  have e4 : (⟨#[116]⟩ : ByteArray).toList = [116] := by rw [ByteArray.toList_eq]
  rw [e3, e4, nil_toList]
  show _ :: (encU 1 ++ _ ++ (encU 0 ++ _ ++ (_ ++ (encU 0 ++ (encU 32 ++ _))))) = _
  rw [e0, e1, e2]
  rfl
theorem lv2 : leaf (S (mx (rvC 2 0))) = S [51, 71, 186, 253, 167, 232, 95, 94, 95, 51, 206, 74, 100, 177, 208, 239, 245, 145, 4, 239, 92, 62, 97, 226, 40, 39, 207, 130, 210, 183, 37, 55] := by rw [mx2]; exact leaf_S _ _ sm2
set_option maxRecDepth 100000 in
theorem sb3 : Sha.sum [0, 3, 1] = [145, 27, 159, 218, 207, 14, 15, 64, 4, 177, 158, 151, 115, 159, 185, 61, 58, 78, 73, 242, 162, 84, 79, 220, 181, 19, 76, 118, 130, 44, 147, 31] := Sha.sum_is _ _ (by decide) (by decide +kernel)
set_option maxRecDepth 100000 in
theorem sm3 : Sha.sum [0, 3, 1, 116, 0, 4, 0, 32, 145, 27, 159, 218, 207, 14, 15, 64, 4, 177, 158, 151, 115, 159, 185, 61, 58, 78, 73, 242, 162, 84, 79, 220, 181, 19, 76, 118, 130, 44, 147, 31] = [90, 38, 192, 251, 252, 199, 2, 133, 17, 0, 205, 115, 5, 228, 22, 33, 27, 43, 255, 189, 250, 136, 250, 229, 238, 119, 105, 160, 204, 67, 45, 28] := Sha.sum_is _ _ (by decide) (by decide +kernel)
theorem rb3 : rvb 3 1 = S [3, 1] := rfl
theorem mx3 : mx (rvC 3 1) = [3, 1, 116, 0, 4, 0, 32, 145, 27, 159, 218, 207, 14, 15, 64, 4, 177, 158, 151, 115, 159, 185, 61, 58, 78, 73, 242, 162, 84, 79, 220, 181, 19, 76, 118, 130, 44, 147, 31] := by
  show mt 3 ⟨#[116]⟩ ⟨#[]⟩ ((3 : Nat) + 1 : Int) 0 (leaf (rvb 3 1)) = _
  rw [rb3, leaf_S _ _ sb3]
  unfold mt txt num byt
  rw [S_toList, S_size]
  have e0 : encU 0 = [0] := by rw [encU]; rfl
  have e1 : encU 1 = [1] := by rw [encU]; rfl
  have e2 : encU 32 = [32] := by rw [encU]; rfl
  have e3 : encU (((3 : Nat) : Int) + 1).toNat = [4] := by rw [show (((3 : Nat) : Int) + 1).toNat = 4 from rfl, encU]; rfl
  have e4 : (⟨#[116]⟩ : ByteArray).toList = [116] := by rw [ByteArray.toList_eq]
  rw [e3, e4, nil_toList]
  show _ :: (encU 1 ++ _ ++ (encU 0 ++ _ ++ (_ ++ (encU 0 ++ (encU 32 ++ _))))) = _
  rw [e0, e1, e2]
  rfl
theorem lv3 : leaf (S (mx (rvC 3 1))) = S [90, 38, 192, 251, 252, 199, 2, 133, 17, 0, 205, 115, 5, 228, 22, 33, 27, 43, 255, 189, 250, 136, 250, 229, 238, 119, 105, 160, 204, 67, 45, 28] := by rw [mx3]; exact leaf_S _ _ sm3
set_option maxRecDepth 100000 in
theorem sb4 : Sha.sum [0, 4, 1] = [157, 236, 61, 120, 6, 24, 253, 242, 9, 96, 144, 137, 78, 78, 23, 123, 57, 172, 14, 201, 96, 96, 173, 144, 52, 2, 64, 159, 101, 188, 118, 187] := Sha.sum_is _ _ (by decide) (by decide +kernel)
set_option maxRecDepth 100000 in
theorem sm4 : Sha.sum [0, 3, 1, 116, 0, 5, 0, 32, 157, 236, 61, 120, 6, 24, 253, 242, 9, 96, 144, 137, 78, 78, 23, 123, 57, 172, 14, 201, 96, 96, 173, 144, 52, 2, 64, 159, 101, 188, 118, 187] = [13, 240, 55, 233, 216, 203, 255, 179, 170, 122, 97, 204, 52, 1, 32, 162, 176, 209, 198, 224, 151, 95, 28, 125, 190, 120, 68, 55, 92, 153, 69, 118] := Sha.sum_is _ _ (by decide) (by decide +kernel)
theorem rb4 : rvb 4 1 = S [4, 1] := rfl
theorem mx4 : mx (rvC 4 1) = [3, 1, 116, 0, 5, 0, 32, 157, 236, 61, 120, 6, 24, 253, 242, 9, 96, 144, 137, 78, 78, 23, 123, 57, 172, 14, 201, 96, 96, 173, 144, 52, 2, 64, 159, 101, 188, 118, 187] := by
  show mt 3 ⟨#[116]⟩ ⟨#[]⟩ ((4 : Nat) + 1 : Int) 0 (leaf (rvb 4 1)) = _
  rw [rb4, leaf_S _ _ sb4]
  unfold mt txt num byt
  rw [S_toList, S_size]
  have e0 : encU 0 = [0] := by rw [encU]; rfl
  have e1 : encU 1 = [1] := by rw [encU]; rfl
  have e2 : encU 32 = [32] := by rw [encU]; rfl
  have e3 : encU (((4 : Nat) : Int) + 1).toNat = [5] := by rw [show (((4 : Nat) : Int) + 1).toNat = 5 from rfl, encU]; rfl
  have e4 : (⟨#[116]⟩ : ByteArray).toList = [116] := by rw [ByteArray.toList_eq]
  rw [e3, e4, nil_toList]
  show _ :: (encU 1 ++ _ ++ (encU 0 ++ _ ++ (_ ++ (encU 0 ++ (encU 32 ++ _))))) = _
  rw [e0, e1, e2]
  rfl
theorem lv4 : leaf (S (mx (rvC 4 1))) = S [13, 240, 55, 233, 216, 203, 255, 179, 170, 122, 97, 204, 52, 1, 32, 162, 176, 209, 198, 224, 151, 95, 28, 125, 190, 120, 68, 55, 92, 153, 69, 118] := by rw [mx4]; exact leaf_S _ _ sm4
set_option maxRecDepth 100000 in
theorem sn0 : Sha.sum [1, 225, 16, 204, 50, 242, 113, 70, 18, 2, 85, 156, 79, 57, 166, 229, 20, 98, 187, 140, 55, 105, 171, 158, 54, 23, 148, 15, 86, 221, 125, 157, 201, 116, 159, 52, 55, 151, 47, 167, 230, 162, 156, 251, 202, 88, 241, 148, 216, 182, 235, 82, 169, 10, 190, 9, 31, 190, 253, 22, 232, 194, 79, 74, 80] = [183, 97, 83, 51, 176, 2, 83, 91, 55, 242, 212, 234, 231, 143, 165, 197, 243, 177, 195, 99, 9, 26, 208, 78, 187, 216, 246, 181, 155, 137, 46, 124] := Sha.sum_is _ _ (by decide) (by decide +kernel)
set_option maxRecDepth 100000 in
theorem sn1 : Sha.sum [1, 183, 97, 83, 51, 176, 2, 83, 91, 55, 242, 212, 234, 231, 143, 165, 197, 243, 177, 195, 99, 9, 26, 208, 78, 187, 216, 246, 181, 155, 137, 46, 124, 51, 71, 186, 253, 167, 232, 95, 94, 95, 51, 206, 74, 100, 177, 208, 239, 245, 145, 4, 239, 92, 62, 97, 226, 40, 39, 207, 130, 210, 183, 37, 55] = [6, 22, 205, 172, 242, 25, 150, 58, 246, 140, 144, 128, 255, 25, 135, 138, 75, 54, 112, 199, 159, 207, 121, 65, 126, 170, 47, 40, 23, 208, 255, 8] := Sha.sum_is _ _ (by decide) (by decide +kernel)
set_option maxRecDepth 100000 in
theorem sn2 : Sha.sum [1, 90, 38, 192, 251, 252, 199, 2, 133, 17, 0, 205, 115, 5, 228, 22, 33, 27, 43, 255, 189, 250, 136, 250, 229, 238, 119, 105, 160, 204, 67, 45, 28, 13, 240, 55, 233, 216, 203, 255, 179, 170, 122, 97, 204, 52, 1, 32, 162, 176, 209, 198, 224, 151, 95, 28, 125, 190, 120, 68, 55, 92, 153, 69, 118] = [167, 225, 142, 155, 218, 118, 220, 197, 95, 167, 55, 31, 205, 85, 174, 110, 138, 150, 146, 203, 178, 11, 174, 127, 169, 147, 97, 182, 33, 61, 73, 126] := Sha.sum_is _ _ (by decide) (by decide +kernel)
set_option maxRecDepth 100000 in
theorem sn3 : Sha.sum [1, 225, 16, 204, 50, 242, 113, 70, 18, 2, 85, 156, 79, 57, 166, 229, 20, 98, 187, 140, 55, 105, 171, 158, 54, 23, 148, 15, 86, 221, 125, 157, 201, 51, 71, 186, 253, 167, 232, 95, 94, 95, 51, 206, 74, 100, 177, 208, 239, 245, 145, 4, 239, 92, 62, 97, 226, 40, 39, 207, 130, 210, 183, 37, 55] = [195, 192, 1, 16, 99, 245, 68, 154, 86, 191, 93, 119, 126, 72, 173, 35, 79, 169, 34, 116, 203, 37, 168, 109, 215, 0, 206, 55, 246, 207, 150, 16] := Sha.sum_is _ _ (by decide) (by decide +kernel)
set_option maxRecDepth 100000 in
theorem sn4 : Sha.sum [1, 195, 192, 1, 16, 99, 245, 68, 154, 86, 191, 93, 119, 126, 72, 173, 35, 79, 169, 34, 116, 203, 37, 168, 109, 215, 0, 206, 55, 246, 207, 150, 16, 51, 71, 186, 253, 167, 232, 95, 94, 95, 51, 206, 74, 100, 177, 208, 239, 245, 145, 4, 239, 92, 62, 97, 226, 40, 39, 207, 130, 210, 183, 37, 55] = [198, 115, 173, 175, 66, 27, 112, 14, 159, 215, 91, 76, 238, 188, 6, 16, 146, 174, 52, 167, 1, 248, 26, 179, 149, 73, 213, 141, 15, 235, 255, 146] := Sha.sum_is _ _ (by decide) (by decide +kernel)
set_option maxRecDepth 100000 in
theorem sh0 : Sha.sum [2, 0, 0, 7, 3, 6, 22, 205, 172, 242, 25, 150, 58, 246, 140, 144, 128, 255, 25, 135, 138, 75, 54, 112, 199, 159, 207, 121, 65, 126, 170, 47, 40, 23, 208, 255, 8] = [62, 111, 103, 243, 131, 195, 26, 64, 47, 69, 140, 21, 18, 195, 225, 72, 124, 77, 13, 35, 215, 157, 36, 73, 245, 151, 168, 217, 138, 58, 105, 212] := Sha.sum_is _ _ (by decide) (by decide +kernel)
set_option maxRecDepth 100000 in
theorem sl0 : Sha.sum [0, 62, 111, 103, 243, 131, 195, 26, 64, 47, 69, 140, 21, 18, 195, 225, 72, 124, 77, 13, 35, 215, 157, 36, 73, 245, 151, 168, 217, 138, 58, 105, 212] = [182, 151, 83, 22, 65, 42, 116, 160, 116, 208, 192, 73, 231, 145, 250, 191, 208, 120, 215, 255, 117, 127, 150, 174, 36, 93, 8, 220, 143, 243, 124, 235] := Sha.sum_is _ _ (by decide) (by decide +kernel)
set_option maxRecDepth 100000 in
theorem sh1 : Sha.sum [2, 1, 32, 62, 111, 103, 243, 131, 195, 26, 64, 47, 69, 140, 21, 18, 195, 225, 72, 124, 77, 13, 35, 215, 157, 36, 73, 245, 151, 168, 217, 138, 58, 105, 212, 8, 2, 167, 225, 142, 155, 218, 118, 220, 197, 95, 167, 55, 31, 205, 85, 174, 110, 138, 150, 146, 203, 178, 11, 174, 127, 169, 147, 97, 182, 33, 61, 73, 126] = [58, 177, 193, 59, 143, 133, 133, 27, 53, 42, 115, 57, 0, 254, 76, 93, 134, 134, 186, 121, 206, 163, 145, 120, 19, 184, 71, 43, 84, 14, 254, 123] := Sha.sum_is _ _ (by decide) (by decide +kernel)
set_option maxRecDepth 100000 in
theorem sl1 : Sha.sum [0, 58, 177, 193, 59, 143, 133, 133, 27, 53, 42, 115, 57, 0, 254, 76, 93, 134, 134, 186, 121, 206, 163, 145, 120, 19, 184, 71, 43, 84, 14, 254, 123] = [174, 18, 149, 155, 32, 15, 61, 252, 184, 161, 102, 79, 80, 129, 200, 190, 45, 202, 24, 176, 204, 152, 251, 131, 138, 191, 219, 82, 177, 2, 223, 79] := Sha.sum_is _ _ (by decide) (by decide +kernel)
set_option maxRecDepth 100000 in
theorem sha : Sha.sum [2, 0, 0, 7, 3, 198, 115, 173, 175, 66, 27, 112, 14, 159, 215, 91, 76, 238, 188, 6, 16, 146, 174, 52, 167, 1, 248, 26, 179, 149, 73, 213, 141, 15, 235, 255, 146] = [117, 186, 121, 64, 216, 238, 158, 171, 228, 200, 58, 229, 101, 0, 252, 144, 234, 31, 159, 66, 231, 227, 24, 141, 120, 4, 92, 127, 193, 121, 197, 121] := Sha.sum_is _ _ (by decide) (by decide +kernel)
set_option maxRecDepth 100000 in
theorem sla : Sha.sum [0, 117, 186, 121, 64, 216, 238, 158, 171, 228, 200, 58, 229, 101, 0, 252, 144, 234, 31, 159, 66, 231, 227, 24, 141, 120, 4, 92, 127, 193, 121, 197, 121] = [86, 141, 40, 127, 105, 93, 24, 221, 75, 124, 43, 119, 135, 11, 100, 224, 156, 223, 241, 137, 119, 152, 60, 224, 204, 152, 97, 5, 158, 136, 114, 156] := Sha.sum_is _ _ (by decide) (by decide +kernel)
set_option maxRecDepth 100000 in
theorem srt : Sha.sum [1, 182, 151, 83, 22, 65, 42, 116, 160, 116, 208, 192, 73, 231, 145, 250, 191, 208, 120, 215, 255, 117, 127, 150, 174, 36, 93, 8, 220, 143, 243, 124, 235, 174, 18, 149, 155, 32, 15, 61, 252, 184, 161, 102, 79, 80, 129, 200, 190, 45, 202, 24, 176, 204, 152, 251, 131, 138, 191, 219, 82, 177, 2, 223, 79] = [129, 182, 246, 125, 133, 51, 31, 22, 88, 213, 179, 232, 54, 43, 101, 241, 64, 83, 7, 217, 119, 88, 238, 77, 70, 153, 107, 163, 159, 159, 27, 157] := Sha.sum_is _ _ (by decide) (by decide +kernel)
set_option maxRecDepth 100000 in
theorem sra : Sha.sum [1, 86, 141, 40, 127, 105, 93, 24, 221, 75, 124, 43, 119, 135, 11, 100, 224, 156, 223, 241, 137, 119, 152, 60, 224, 204, 152, 97, 5, 158, 136, 114, 156, 174, 18, 149, 155, 32, 15, 61, 252, 184, 161, 102, 79, 80, 129, 200, 190, 45, 202, 24, 176, 204, 152, 251, 131, 138, 191, 219, 82, 177, 2, 223, 79] = [45, 221, 69, 180, 187, 34, 45, 36, 194, 39, 34, 215, 35, 220, 242, 192, 4, 22, 238, 20, 243, 170, 37, 39, 136, 106, 21, 183, 148, 239, 11, 56] := Sha.sum_is _ _ (by decide) (by decide +kernel)
theorem nd0 : node (S [225, 16, 204, 50, 242, 113, 70, 18, 2, 85, 156, 79, 57, 166, 229, 20, 98, 187, 140, 55, 105, 171, 158, 54, 23, 148, 15, 86, 221, 125, 157, 201]) (S [116, 159, 52, 55, 151, 47, 167, 230, 162, 156, 251, 202, 88, 241, 148, 216, 182, 235, 82, 169, 10, 190, 9, 31, 190, 253, 22, 232, 194, 79, 74, 80]) = S [183, 97, 83, 51, 176, 2, 83, 91, 55, 242, 212, 234, 231, 143, 165, 197, 243, 177, 195, 99, 9, 26, 208, 78, 187, 216, 246, 181, 155, 137, 46, 124] := node_S _ _ _ sn0
theorem nd1 : node (S [183, 97, 83, 51, 176, 2, 83, 91, 55, 242, 212, 234, 231, 143, 165, 197, 243, 177, 195, 99, 9, 26, 208, 78, 187, 216, 246, 181, 155, 137, 46, 124]) (S [51, 71, 186, 253, 167, 232, 95, 94, 95, 51, 206, 74, 100, 177, 208, 239, 245, 145, 4, 239, 92, 62, 97, 226, 40, 39, 207, 130, 210, 183, 37, 55]) = S [6, 22, 205, 172, 242, 25, 150, 58, 246, 140, 144, 128, 255, 25, 135, 138, 75, 54, 112, 199, 159, 207, 121, 65, 126, 170, 47, 40, 23, 208, 255, 8] := node_S _ _ _ sn1
theorem nd2 : node (S [90, 38, 192, 251, 252, 199, 2, 133, 17, 0, 205, 115, 5, 228, 22, 33, 27, 43, 255, 189, 250, 136, 250, 229, 238, 119, 105, 160, 204, 67, 45, 28]) (S [13, 240, 55, 233, 216, 203, 255, 179, 170, 122, 97, 204, 52, 1, 32, 162, 176, 209, 198, 224, 151, 95, 28, 125, 190, 120, 68, 55, 92, 153, 69, 118]) = S [167, 225, 142, 155, 218, 118, 220, 197, 95, 167, 55, 31, 205, 85, 174, 110, 138, 150, 146, 203, 178, 11, 174, 127, 169, 147, 97, 182, 33, 61, 73, 126] := node_S _ _ _ sn2
theorem nd3 : node (S [225, 16, 204, 50, 242, 113, 70, 18, 2, 85, 156, 79, 57, 166, 229, 20, 98, 187, 140, 55, 105, 171, 158, 54, 23, 148, 15, 86, 221, 125, 157, 201]) (S [51, 71, 186, 253, 167, 232, 95, 94, 95, 51, 206, 74, 100, 177, 208, 239, 245, 145, 4, 239, 92, 62, 97, 226, 40, 39, 207, 130, 210, 183, 37, 55]) = S [195, 192, 1, 16, 99, 245, 68, 154, 86, 191, 93, 119, 126, 72, 173, 35, 79, 169, 34, 116, 203, 37, 168, 109, 215, 0, 206, 55, 246, 207, 150, 16] := node_S _ _ _ sn3
theorem nd4 : node (S [195, 192, 1, 16, 99, 245, 68, 154, 86, 191, 93, 119, 126, 72, 173, 35, 79, 169, 34, 116, 203, 37, 168, 109, 215, 0, 206, 55, 246, 207, 150, 16]) (S [51, 71, 186, 253, 167, 232, 95, 94, 95, 51, 206, 74, 100, 177, 208, 239, 245, 145, 4, 239, 92, 62, 97, 226, 40, 39, 207, 130, 210, 183, 37, 55]) = S [198, 115, 173, 175, 66, 27, 112, 14, 159, 215, 91, 76, 238, 188, 6, 16, 146, 174, 52, 167, 1, 248, 26, 179, 149, 73, 213, 141, 15, 235, 255, 146] := node_S _ _ _ sn4
theorem ndr : node (S [182, 151, 83, 22, 65, 42, 116, 160, 116, 208, 192, 73, 231, 145, 250, 191, 208, 120, 215, 255, 117, 127, 150, 174, 36, 93, 8, 220, 143, 243, 124, 235]) (S [174, 18, 149, 155, 32, 15, 61, 252, 184, 161, 102, 79, 80, 129, 200, 190, 45, 202, 24, 176, 204, 152, 251, 131, 138, 191, 219, 82, 177, 2, 223, 79]) = S [129, 182, 246, 125, 133, 51, 31, 22, 88, 213, 179, 232, 54, 43, 101, 241, 64, 83, 7, 217, 119, 88, 238, 77, 70, 153, 107, 163, 159, 159, 27, 157] := node_S _ _ _ srt
theorem nda : node (S [86, 141, 40, 127, 105, 93, 24, 221, 75, 124, 43, 119, 135, 11, 100, 224, 156, 223, 241, 137, 119, 152, 60, 224, 204, 152, 97, 5, 158, 136, 114, 156]) (S [174, 18, 149, 155, 32, 15, 61, 252, 184, 161, 102, 79, 80, 129, 200, 190, 45, 202, 24, 176, 204, 152, 251, 131, 138, 191, 219, 82, 177, 2, 223, 79]) = S [45, 221, 69, 180, 187, 34, 45, 36, 194, 39, 34, 215, 35, 220, 242, 192, 4, 22, 238, 20, 243, 170, 37, 39, 136, 106, 21, 183, 148, 239, 11, 56] := node_S _ _ _ sra
theorem sp2 : sp 2 = 1 := by decide
theorem sp3 : sp 3 = 2 := by decide
theorem root2 (x y : ByteArray) : mroot [x, y] = node x y := by
  rw [mroot_two (by simp)]
  simp only [List.length_cons, List.length_nil, Nat.zero_add, Nat.reduceAdd, sp2, List.take_succ_cons, List.take_zero, List.drop_succ_cons, List.drop_zero]
  rw [mroot_one (by simp), mroot_one (by simp)]
  rfl
theorem root3 (x y z : ByteArray) : mroot [x, y, z] = node (node x y) z := by
  rw [mroot_two (by simp)]
  simp only [List.length_cons, List.length_nil, Nat.zero_add, Nat.reduceAdd, sp3, List.take_succ_cons, List.take_zero, List.drop_succ_cons, List.drop_zero]
  rw [root2, mroot_one (by simp)]
  rfl
theorem path3 (x y z : ByteArray) : pathT 1 [x, y, z] = [x, z] := by
  rw [pathT_lt (by simp) (by simp [sp3])]
  simp only [List.length_cons, List.length_nil, Nat.zero_add, Nat.reduceAdd, sp3, List.take_succ_cons, List.take_zero, List.drop_succ_cons, List.drop_zero]
  rw [pathT_ge (by simp) (by simp [sp2])]
  simp only [List.length_cons, List.length_nil, Nat.zero_add, Nat.reduceAdd, sp2, List.take_succ_cons, List.take_zero, List.drop_succ_cons, List.drop_zero, Nat.sub_self]
  rw [pathT_one (by simp), mroot_one (by simp), mroot_one (by simp)]
  rfl
theorem path2 (x y : ByteArray) : pathT 0 [x, y] = [y] := by
  rw [pathT_lt (by simp) (by simp [sp2])]
  simp only [List.length_cons, List.length_nil, Nat.zero_add, Nat.reduceAdd, sp2, List.take_succ_cons, List.take_zero, List.drop_succ_cons, List.drop_zero]
  rw [pathT_one (by simp), mroot_one (by simp)]
  rfl
theorem turns13 : turns 1 3 = [false, true] := by
  rw [turns_lt (by decide) (by simp [sp3]), sp3, turns_ge (by decide) (by simp [sp2]), sp2, turns_one _ _ (by decide)]
theorem turns02 : turns 0 2 = [false] := by
  rw [turns_lt (by decide) (by simp [sp2]), sp2, turns_one _ _ (by decide)]
theorem lvs3 : lvs (rvs 0 0 3) = [leaf (S (mx (rvC 0 0))), leaf (S (mx (rvC 1 0))), leaf (S (mx (rvC 2 0)))] := rfl
theorem lvs2 : lvs (rvs 3 1 2) = [leaf (S (mx (rvC 3 1))), leaf (S (mx (rvC 4 1)))] := rfl
theorem bh0 : bhash 0 ⟨#[]⟩ 7 (rvs 0 0 3) = S [62, 111, 103, 243, 131, 195, 26, 64, 47, 69, 140, 21, 18, 195, 225, 72, 124, 77, 13, 35, 215, 157, 36, 73, 245, 151, 168, 217, 138, 58, 105, 212] := by
  unfold bhash hdr pre
  rw [lvs3, lv0, lv1, lv2, root3, nd0, nd1]
  have e0 : S (num 0) = S [0] := by unfold num; rw [show (0 : Int).toNat = 0 from rfl, encU]; rfl
  have e1 : S (txt ⟨#[]⟩) = S [0] := by unfold txt; rw [nil_toList, show (⟨#[]⟩ : ByteArray).size = 0 from rfl, encU]; rfl
  have e2 : S (num 7) = S [7] := by unfold num; rw [show (7 : Int).toNat = 7 from rfl, encU]; rfl
  have e3 : S (encU (rvs 0 0 3).length) = S [3] := by rw [rvs_len, encU]; rfl
  rw [e0, e1, e2, e3, show (⟨#[2]⟩ : ByteArray) = S [2] from rfl, S_append, S_append, S_append, S_append, S_append]
  exact dig_S _ _ sh0
theorem bh1 : bhash 1 (S [62, 111, 103, 243, 131, 195, 26, 64, 47, 69, 140, 21, 18, 195, 225, 72, 124, 77, 13, 35, 215, 157, 36, 73, 245, 151, 168, 217, 138, 58, 105, 212]) 8 (rvs 3 1 2) = S [58, 177, 193, 59, 143, 133, 133, 27, 53, 42, 115, 57, 0, 254, 76, 93, 134, 134, 186, 121, 206, 163, 145, 120, 19, 184, 71, 43, 84, 14, 254, 123] := by
  unfold bhash hdr pre
  rw [lvs2, lv3, lv4, root2, nd2]
  have e0 : S (num 1) = S [1] := by unfold num; rw [show (1 : Int).toNat = 1 from rfl, encU]; rfl
  have e1 : ∀ l : List UInt8, l.length = 32 → S (txt (S l)) = S (32 :: l) := fun l hl => by unfold txt; rw [S_toList, S_size, hl, encU]; rfl
  have e2 : S (num 8) = S [8] := by unfold num; rw [show (8 : Int).toNat = 8 from rfl, encU]; rfl
  have e3 : S (encU (rvs 3 1 2).length) = S [2] := by rw [rvs_len, encU]; rfl
  rw [e0, e1 _ (by rfl), e2, e3, show (⟨#[2]⟩ : ByteArray) = S [2] from rfl, S_append, S_append, S_append, S_append, S_append]
  exact dig_S _ _ sh1
theorem bk0 : bkC [2, 1] 0 = ⟨0, ⟨#[]⟩, 7, rvs 0 0 3⟩ := rfl
theorem hs0 : hsh (bkC [2, 1] 0) = S [62, 111, 103, 243, 131, 195, 26, 64, 47, 69, 140, 21, 18, 195, 225, 72, 124, 77, 13, 35, 215, 157, 36, 73, 245, 151, 168, 217, 138, 58, 105, 212] := bh0
theorem bk1 : bkC [2, 1] 1 = ⟨1, S [62, 111, 103, 243, 131, 195, 26, 64, 47, 69, 140, 21, 18, 195, 225, 72, 124, 77, 13, 35, 215, 157, 36, 73, 245, 151, 168, 217, 138, 58, 105, 212], 8, rvs 3 1 2⟩ := by
  show blkC 1 (0 + 3) (hsh (bkC [2, 1] 0)) 1 = _
  rw [hs0]
  rfl
theorem hs1 : hsh (bkC [2, 1] 1) = S [58, 177, 193, 59, 143, 133, 133, 27, 53, 42, 115, 57, 0, 254, 76, 93, 134, 134, 186, 121, 206, 163, 145, 120, 19, 184, 71, 43, 84, 14, 254, 123] := by rw [bk1]; exact bh1
theorem lf0 : lf (bkC [2, 1] 0) = S [182, 151, 83, 22, 65, 42, 116, 160, 116, 208, 192, 73, 231, 145, 250, 191, 208, 120, 215, 255, 117, 127, 150, 174, 36, 93, 8, 220, 143, 243, 124, 235] := by unfold lf; rw [hs0]; exact leaf_S _ _ sl0
theorem lf1 : lf (bkC [2, 1] 1) = S [174, 18, 149, 155, 32, 15, 61, 252, 184, 161, 102, 79, 80, 129, 200, 190, 45, 202, 24, 176, 204, 152, 251, 131, 138, 191, 219, 82, 177, 2, 223, 79] := by unfold lf; rw [hs1]; exact leaf_S _ _ sl1
theorem leaves2 : ((bks [2, 1] 2).map lf).take 2 = [S [182, 151, 83, 22, 65, 42, 116, 160, 116, 208, 192, 73, 231, 145, 250, 191, 208, 120, 215, 255, 117, 127, 150, 174, 36, 93, 8, 220, 143, 243, 124, 235], S [174, 18, 149, 155, 32, 15, 61, 252, 184, 161, 102, 79, 80, 129, 200, 190, 45, 202, 24, 176, 204, 152, 251, 131, 138, 191, 219, 82, 177, 2, 223, 79]] := by
  show [lf (bkC [2, 1] 0), lf (bkC [2, 1] 1)] = _
  rw [lf0, lf1]
theorem awake_root : mroot (((bks [2, 1] 2).map lf).take 2) = S [129, 182, 246, 125, 133, 51, 31, 22, 88, 213, 179, 232, 54, 43, 101, 241, 64, 83, 7, 217, 119, 88, 238, 77, 70, 153, 107, 163, 159, 159, 27, 157] := by rw [leaves2, root2, ndr]
theorem awake_not : vfy 2 (mroot (((bks [2, 1] 2).map lf).take 2)) (rvC 2 0) (prf [2, 1] 0 1 2 2) = 80 := by
  unfold vfy
  rw [if_pos ⟨chk_rvC 2 0, mroot_size ((lf_w32 _).take 2)⟩, if_neg]
  rintro ⟨_, h⟩
  rw [awake_root] at h
  unfold topOf at h
  have hp5 : (prf [2, 1] 0 1 2 2).f5 = [S [225, 16, 204, 50, 242, 113, 70, 18, 2, 85, 156, 79, 57, 166, 229, 20, 98, 187, 140, 55, 105, 171, 158, 54, 23, 148, 15, 86, 221, 125, 157, 201], S [51, 71, 186, 253, 167, 232, 95, 94, 95, 51, 206, 74, 100, 177, 208, 239, 245, 145, 4, 239, 92, 62, 97, 226, 40, 39, 207, 130, 210, 183, 37, 55]] := by
    show pathT 1 (lvs (rvs 0 0 3)) = _
    rw [lvs3, lv0, lv1, lv2, path3]
  have hp6 : (prf [2, 1] 0 1 2 2).f6 = [S [174, 18, 149, 155, 32, 15, 61, 252, 184, 161, 102, 79, 80, 129, 200, 190, 45, 202, 24, 176, 204, 152, 251, 131, 138, 191, 219, 82, 177, 2, 223, 79]] := by
    show pathT 0 (((bks [2, 1] 2).map lf).take 2) = _
    rw [leaves2, path2]
  rw [hp5, hp6, lv2] at h
  change (way _ 1 3 _).bind (fun root => way _ 0 2 _) = _ at h
  have w1 : way (S [51, 71, 186, 253, 167, 232, 95, 94, 95, 51, 206, 74, 100, 177, 208, 239, 245, 145, 4, 239, 92, 62, 97, 226, 40, 39, 207, 130, 210, 183, 37, 55]) 1 3 [S [225, 16, 204, 50, 242, 113, 70, 18, 2, 85, 156, 79, 57, 166, 229, 20, 98, 187, 140, 55, 105, 171, 158, 54, 23, 148, 15, 86, 221, 125, 157, 201], S [51, 71, 186, 253, 167, 232, 95, 94, 95, 51, 206, 74, 100, 177, 208, 239, 245, 145, 4, 239, 92, 62, 97, 226, 40, 39, 207, 130, 210, 183, 37, 55]] = some (S [198, 115, 173, 175, 66, 27, 112, 14, 159, 215, 91, 76, 238, 188, 6, 16, 146, 174, 52, 167, 1, 248, 26, 179, 149, 73, 213, 141, 15, 235, 255, 146]) := by
    unfold way
    rw [turns13, if_pos ⟨rfl, by intro x hx; simp only [List.mem_cons, List.not_mem_nil, or_false] at hx; rcases hx with rfl | rfl <;> rfl⟩]
    show some (node (node _ _) _) = _
    rw [nd3, nd4]
  rw [w1, Option.bind_some] at h
  have hh : hd2 (prf [2, 1] 0 1 2 2) (S [198, 115, 173, 175, 66, 27, 112, 14, 159, 215, 91, 76, 238, 188, 6, 16, 146, 174, 52, 167, 1, 248, 26, 179, 149, 73, 213, 141, 15, 235, 255, 146]) = S [117, 186, 121, 64, 216, 238, 158, 171, 228, 200, 58, 229, 101, 0, 252, 144, 234, 31, 159, 66, 231, 227, 24, 141, 120, 4, 92, 127, 193, 121, 197, 121] := by
    unfold hd2 pre
    show Dig.dig ((⟨#[2]⟩ : ByteArray) ++ (((S (num 0) ++ S (txt ⟨#[]⟩)) ++ S (num 7)) ++ S (encU 3) ++ _)) = _
    have e0 : S (num 0) = S [0] := by unfold num; rw [show (0 : Int).toNat = 0 from rfl, encU]; rfl
    have e1 : S (txt ⟨#[]⟩) = S [0] := by unfold txt; rw [nil_toList, show (⟨#[]⟩ : ByteArray).size = 0 from rfl, encU]; rfl
    have e2 : S (num 7) = S [7] := by unfold num; rw [show (7 : Int).toNat = 7 from rfl, encU]; rfl
    have e3 : S (encU 3) = S [3] := by rw [encU]; rfl
    rw [e0, e1, e2, e3, show (⟨#[2]⟩ : ByteArray) = S [2] from rfl, S_append, S_append, S_append, S_append, S_append]
    exact dig_S _ _ sha
  have w2 : way (S [86, 141, 40, 127, 105, 93, 24, 221, 75, 124, 43, 119, 135, 11, 100, 224, 156, 223, 241, 137, 119, 152, 60, 224, 204, 152, 97, 5, 158, 136, 114, 156]) 0 2 [S [174, 18, 149, 155, 32, 15, 61, 252, 184, 161, 102, 79, 80, 129, 200, 190, 45, 202, 24, 176, 204, 152, 251, 131, 138, 191, 219, 82, 177, 2, 223, 79]] = some (S [45, 221, 69, 180, 187, 34, 45, 36, 194, 39, 34, 215, 35, 220, 242, 192, 4, 22, 238, 20, 243, 170, 37, 39, 136, 106, 21, 183, 148, 239, 11, 56]) := by
    unfold way
    rw [turns02, if_pos ⟨rfl, by intro x hx; simp only [List.mem_cons, List.not_mem_nil, or_false] at hx; rcases hx with rfl; rfl⟩]
    show some (node _ _) = _
    rw [nda]
  rw [hh, leaf_S _ _ sla, w2] at h
  have h2 := congrArg ByteArray.toList (Option.some.inj h)
  rw [S_toList, S_toList] at h2
  exact absurd h2 (by decide)
end Go.Proofs.Ytdcbacbilncnnaa.T
end
section
/- The laws' cut of what is shown, walked. -/
set_option linter.unusedVariables false
set_option linter.unusedSimpArgs false
namespace Go.Proofs.Ytdcbacbilncnnaa.T
open Go.RowKit Go.Proofs.Ytdcbacbilncnnaa.PMk Go.Proofs.Ytdcbacbilncnnaa.M Go.Proofs.Ytdcbacbilncnnaa.EncL Go.Proofs.YtdcbacbilncnnaaW.PrintWords Go.Proofs.YtdcbacbilncnnaaW.PrintLast
set_option maxRecDepth 100000 in
set_option maxHeartbeats 4000000 in
theorem cut_raw (d0 : Int) (d1 : ByteArray) (x : S47) (p0 : Int) (p1 : ByteArray) (p2 p3 p4 : Int) (A5 : Option Addr) (n5 c5 : Nat) (A6 : Option Addr) (n6 c6 : Nat) (w : World) (m5 m6 : Nat) (hm5 : min n5 65 = m5) (hm6 : min n6 65 = m6) (h5 : n5 ≤ c5) (h6 : n6 ≤ c6) :
    Calls Try.prog 22 #[(.agg #[.int .u64 d0, .string d1, .int .i64 x.f0, .string x.f1, .string x.f2, .int .u64 x.f3, .int .u64 x.f4, .string x.f5, .string x.f6, .bool x.f7, .int .u64 p0, .string p1, .int .u64 p2, .int .i64 p3, .int .i64 p4, .slice A5 n5 c5, .slice A6 n6 c6])] w fun e w' => e = .returned (.agg #[.int .u64 d0, .string d1, .int .i64 x.f0, .string x.f1, .string x.f2, .int .u64 x.f3, .int .u64 x.f4, .string x.f5, .string x.f6, .bool x.f7, .int .u64 p0, .string p1, .int .u64 p2, .int .i64 p3, .int .i64 p4, .slice A5 m5 c5, .slice A6 m6 c6]) ∧ Below w.heap.size w w' := by
  have HM5 := Lib.hid hm5
  have HM6 := Lib.hid hm6
  clear hm5 hm6
  go_enter Try.func22, Try.ntmps22
  go_upto_if 7 with fail
  go_cut [8, 9, 10, 11, 12, 13] (fun v8 v9 v10 v11 v12 v13 wc => wc = ((w.alloc (.cells #[.int .u64 d0, .string d1, .int .i64 x.f0, .string x.f1, .string x.f2, .int .u64 x.f3, .int .u64 x.f4, .string x.f5, .string x.f6, .bool x.f7, .int .u64 p0, .string p1, .int .u64 p2, .int .i64 p3, .int .i64 p4, .slice A5 m5 c5, .slice A6 n6 c6] 55 (0, 0))).alloc (.cells #[.int .u64 0, .string ⟨#[]⟩, .int .i64 0, .string ⟨#[]⟩, .string ⟨#[]⟩, .int .u64 0, .int .u64 0, .string ⟨#[]⟩, .string ⟨#[]⟩, .bool false, .int .u64 0, .string ⟨#[]⟩, .int .u64 0, .int .i64 0, .int .i64 0, .slice none 0 0, .slice none 0 0] 55 (0, 0))))
  case first =>
    by_cases g : (n5 : Int) > 65
    · obtain rfl : m5 = 65 := by have := HM5.out; omega
      have k : (65 : Nat) < n5 := by omega
      have dd : decide ((65 : Int) < (n5 : Int)) = true := decide_eq_true g
      have e : decide ((65 : Nat) < n5) = true := decide_eq_true k
      have f : (65 : Nat) ≤ c5 := by omega
      have f' : (65 : Int) ≤ (c5 : Int) := by omega
      go_wp2_with fail
      go_meet
      case rel => rfl
    · obtain rfl : m5 = n5 := by have := HM5.out; omega
      have dd : decide ((65 : Int) < (m5 : Int)) = false := decide_eq_false (by omega)
      go_wp2_with fail
      go_meet
      case rel => rfl
  case rest =>
    subst hcut
    go_upto_if 18 with fail
    go_cut [19, 20, 21, 22, 23, 24] (fun v19 v20 v21 v22 v23 v24 wc => wc = ((w.alloc (.cells #[.int .u64 d0, .string d1, .int .i64 x.f0, .string x.f1, .string x.f2, .int .u64 x.f3, .int .u64 x.f4, .string x.f5, .string x.f6, .bool x.f7, .int .u64 p0, .string p1, .int .u64 p2, .int .i64 p3, .int .i64 p4, .slice A5 m5 c5, .slice A6 m6 c6] 55 (0, 0))).alloc (.cells #[.int .u64 0, .string ⟨#[]⟩, .int .i64 0, .string ⟨#[]⟩, .string ⟨#[]⟩, .int .u64 0, .int .u64 0, .string ⟨#[]⟩, .string ⟨#[]⟩, .bool false, .int .u64 0, .string ⟨#[]⟩, .int .u64 0, .int .i64 0, .int .i64 0, .slice none 0 0, .slice none 0 0] 55 (0, 0))))
    case first =>
      by_cases g : (n6 : Int) > 65
      · obtain rfl : m6 = 65 := by have := HM6.out; omega
        have k : (65 : Nat) < n6 := by omega
        have dd : decide ((65 : Int) < (n6 : Int)) = true := decide_eq_true g
        have e : decide ((65 : Nat) < n6) = true := decide_eq_true k
        have f : (65 : Nat) ≤ c6 := by omega
        have f' : (65 : Int) ≤ (c6 : Int) := by omega
        go_wp2_with fail
        go_meet
        case rel => rfl
      · obtain rfl : m6 = n6 := by have := HM6.out; omega
        have dd : decide ((65 : Int) < (m6 : Int)) = false := decide_eq_false (by omega)
        go_wp2_with fail
        go_meet
        case rel => rfl
    case rest =>
      subst hcut
      go_wp2_with fail
      exact bodyPost_ret (results_cell_row rfl _ _ (w.heap.size + 1) 55 _ (0, 0) _ rfl (by simpa using heap_alloc_new (w.alloc (.cells #[.int .u64 d0, .string d1, .int .i64 x.f0, .string x.f1, .string x.f2, .int .u64 x.f3, .int .u64 x.f4, .string x.f5, .string x.f6, .bool x.f7, .int .u64 p0, .string p1, .int .u64 p2, .int .i64 p3, .int .i64 p4, .slice A5 m5 c5, .slice A6 m6 c6] 55 (0, 0))) (.cells #[.int .u64 d0, .string d1, .int .i64 x.f0, .string x.f1, .string x.f2, .int .u64 x.f3, .int .u64 x.f4, .string x.f5, .string x.f6, .bool x.f7, .int .u64 p0, .string p1, .int .u64 p2, .int .i64 p3, .int .i64 p4, .slice A5 m5 c5, .slice A6 m6 c6] 55 (0, 0))) Try.underlying55 rfl (by kernel_rfl)) rfl ⟨rfl, ((Below.refl _ _).alloc (Nat.le_refl _) _).alloc (by simp) _⟩
end Go.Proofs.Ytdcbacbilncnnaa.T
end
section
/- The laws' block beside the reference's. -/
set_option linter.unusedVariables false
set_option linter.unusedSimpArgs false
namespace Go.Proofs.Ytdcbacbilncnnaa.T
open Go.RowKit Go.Proofs.Ytdcbacbilncnnaa.PMk Go.Proofs.YtdcbacbilncnnaaW.PrintWords Go.Proofs.YtdcbacbilncnnaaW.PrintLast
/-- A revision as the reference has it. -/
def rf (x : S47) : S44 := ⟨x.f0, x.f1, x.f2, x.f3, x.f4, x.f5, x.f6, x.f7⟩
theorem ref_any (x : S47) (w : World) : Calls Try.prog 21 #[.agg #[.int .i64 x.f0, .string x.f1, .string x.f2, .int .u64 x.f3, .int .u64 x.f4, .string x.f5, .string x.f6, .bool x.f7]] w fun e w' => e = .returned (.agg #[.int .i64 x.f0, .string x.f1, .string x.f2, .int .u64 x.f3, .int .u64 x.f4, .string x.f5, .string x.f6, .bool x.f7]) ∧ Below w.heap.size w w' :=
  parchmentlaw09_Ref.calls _ _ _ _ _ _ _ _ _ _ _ _ _ _ _ _ w rfl
/-- What holds in Block's loop: its four variables in memory, and the revisions that were put behind. -/
structure BL (w wr : World) (a0 : Int) (a1 : ByteArray) (a2 : Int) (sl v : Value) (l : List S44) : Prop where
  g0 : wr.heap[w.heap.size]? = some (.cells #[.int .u64 a0, .string a1, .int .u64 a2, sl] 25 (0, 0))
  g1 : wr.heap[w.heap.size + 1]? = some (.cells #[.int .u64 0, .string ⟨#[]⟩, .int .u64 0, .slice none 0 0] 25 (0, 0))
  g2 : wr.heap[w.heap.size + 1 + 1]? = some (.cells #[.int .u64 0, .string ⟨#[]⟩, .int .u64 0, .slice none 0 0] 28 (0, 0))
  g3 : wr.heap[w.heap.size + 3]? = some (.cells #[.int .u64 a0, .string a1, .int .u64 a2, v] 28 (0, 0))
  r : Kd.R k44 44 wr w.heap.size (fun _ => True) v l
  b : Below w.heap.size w wr
theorem BL.below {w wr w1 : World} {a0 : Int} {a1 : ByteArray} {a2 : Int} {sl v : Value} {l : List S44} (h : BL w wr a0 a1 a2 sl v l) (hb : Below wr.heap.size wr w1) : BL w w1 a0 a1 a2 sl v l :=
  ⟨blk_below h.g0 hb, blk_below h.g1 hb, blk_below h.g2 hb, blk_below h.g3 hb, Kd.R_below h.r hb, h.b.trans (hb.mono h.b.size)⟩
/-- A revision was put behind, the variable still holds the elder row. -/
structure BM (w wr : World) (a0 : Int) (a1 : ByteArray) (a2 : Int) (sl v v1 : Value) (l : List S44) : Prop where
  g0 : wr.heap[w.heap.size]? = some (.cells #[.int .u64 a0, .string a1, .int .u64 a2, sl] 25 (0, 0))
  g1 : wr.heap[w.heap.size + 1]? = some (.cells #[.int .u64 0, .string ⟨#[]⟩, .int .u64 0, .slice none 0 0] 25 (0, 0))
  g2 : wr.heap[w.heap.size + 1 + 1]? = some (.cells #[.int .u64 0, .string ⟨#[]⟩, .int .u64 0, .slice none 0 0] 28 (0, 0))
  g3 : wr.heap[w.heap.size + 3]? = some (.cells #[.int .u64 a0, .string a1, .int .u64 a2, v] 28 (0, 0))
  r : Kd.R k44 44 wr w.heap.size (fun _ => True) v1 l
  b : Below w.heap.size w wr
theorem BL.app {w wr w1 : World} {a0 : Int} {a1 : ByteArray} {a2 : Int} {sl v v1 : Value} {l l1 : List S44} (h : BL w wr a0 a1 a2 sl v l) (hr : Kd.R k44 44 w1 w.heap.size (fun _ => True) v1 l1) (hb : Below w.heap.size w w1) (hg : wr.grownBy w1 v.ownBlock) : BM w w1 a0 a1 a2 sl v v1 l1 :=
  ⟨blk_grown h.g0 hg (Kd.R_ne h.r h.g0 (by decide)), blk_grown h.g1 hg (Kd.R_ne h.r h.g1 (by decide)), blk_grown h.g2 hg (Kd.R_ne h.r h.g2 (by decide)), blk_grown h.g3 hg (Kd.R_ne h.r h.g3 (by decide)), hr, hb⟩
theorem BM.put {w wr : World} {a0 : Int} {a1 : ByteArray} {a2 : Int} {sl v v1 : Value} {l : List S44} (h : BM w wr a0 a1 a2 sl v v1 l) : BL w (wr.setCell ⟨w.heap.size + 3, 3, none⟩ v1) a0 a1 a2 sl v1 l :=
  ⟨blk_far h.g0 (by simp) _, blk_far h.g1 (by simp) _, blk_far h.g2 (by simp) _, blk_put h.g3 3 v1 rfl, Kd.R_set h.r h.g3 (by decide) 3 v1, h.b.setCell (by simp) _⟩
/-- The first result is written. -/
structure BE (w wr : World) (a0 : Int) (a1 : ByteArray) (a2 : Int) (sl v : Value) (l : List S44) : Prop where
  g0 : wr.heap[w.heap.size]? = some (.cells #[.int .u64 a0, .string a1, .int .u64 a2, sl] 25 (0, 0))
  g1 : wr.heap[w.heap.size + 1]? = some (.cells #[.int .u64 a0, .string a1, .int .u64 a2, sl] 25 (0, 0))
  g2 : wr.heap[w.heap.size + 1 + 1]? = some (.cells #[.int .u64 0, .string ⟨#[]⟩, .int .u64 0, .slice none 0 0] 28 (0, 0))
  g3 : wr.heap[w.heap.size + 3]? = some (.cells #[.int .u64 a0, .string a1, .int .u64 a2, v] 28 (0, 0))
  r : Kd.R k44 44 wr w.heap.size (fun _ => True) v l
  b : Below w.heap.size w wr
theorem far4 {W : World} {g g' t : Nat} {cs : Array Value} {y0 y1 y2 y3 : Value} (h : W.heap[g]? = some (.cells cs t (0, 0))) (hne : g ≠ g') : ((((W.setCell ⟨g', 0, none⟩ y0).setCell ⟨g', 1, none⟩ y1).setCell ⟨g', 2, none⟩ y2).setCell ⟨g', 3, none⟩ y3).heap[g]? = some (.cells cs t (0, 0)) :=
  blk_far (blk_far (blk_far (blk_far h hne _) hne _) hne _) hne _
theorem rows44 {W : World} {g n t : Nat} {v x0 x1 x2 x3 y0 y1 y2 y3 : Value} {l : List S44} (ht : ∀ q, q ∈ 44 :: k44.E → q ≠ t) (hR : Kd.R k44 44 W n (fun _ => True) v l) (h : W.heap[g]? = some (.cells #[x0, x1, x2, x3] t (0, 0))) :
    Kd.R k44 44 ((((W.setCell ⟨g, 0, none⟩ y0).setCell ⟨g, 1, none⟩ y1).setCell ⟨g, 2, none⟩ y2).setCell ⟨g, 3, none⟩ y3) n (fun _ => True) v l :=
  Kd.R_set (Kd.R_set (Kd.R_set (Kd.R_set hR h ht 0 y0) (blk_put h 0 y0 rfl) ht 1 y1) (blk_put (blk_put h 0 y0 rfl) 1 y1 rfl) ht 2 y2) (blk_put (blk_put (blk_put h 0 y0 rfl) 1 y1 rfl) 2 y2 rfl) ht 3 y3
theorem put4' {W : World} {g t : Nat} {x0 x1 x2 x3 y0 y1 y2 y3 : Value} (h : W.heap[g]? = some (.cells #[x0, x1, x2, x3] t (0, 0))) : ((((W.setCell ⟨g, 0, none⟩ y0).setCell ⟨g, 1, none⟩ y1).setCell ⟨g, 2, none⟩ y2).setCell ⟨g, 3, none⟩ y3).heap[g]? = some (.cells #[y0, y1, y2, y3] t (0, 0)) :=
  blk_put (blk_put (blk_put (blk_put h 0 y0 rfl) 1 y1 rfl) 2 y2 rfl) 3 y3 rfl
theorem BL.first {w wr : World} {a0 : Int} {a1 : ByteArray} {a2 : Int} {sl v : Value} {l : List S44} (h : BL w wr a0 a1 a2 sl v l) :
    BE w ((((wr.setCell ⟨w.heap.size + 1, 0, none⟩ (.int .u64 a0)).setCell ⟨w.heap.size + 1, 1, none⟩ (.string a1)).setCell ⟨w.heap.size + 1, 2, none⟩ (.int .u64 a2)).setCell ⟨w.heap.size + 1, 3, none⟩ sl) a0 a1 a2 sl v l :=
  ⟨far4 h.g0 (by simp), put4' h.g1, far4 h.g2 (by simp), far4 h.g3 (by simp), rows44 (by decide) h.r h.g1, below4 h.b (by simp)⟩
end Go.Proofs.Ytdcbacbilncnnaa.T
end
section
/- A block with the bytes of a revision's document. Written in part by wip/genwith.py. -/
set_option linter.unusedVariables false
set_option linter.unusedSimpArgs false
namespace Go.Proofs.Ytdcbacbilncnnaa.T
open Go.RowKit Go.Proofs.Ytdcbacbilncnnaa.PMk Go.Proofs.YtdcbacbilncnnaaW.PrintWords Go.Proofs.YtdcbacbilncnnaaW.PrintLast
/-- What With's first test leaves: both variables as they were. -/
structure W0 (w wr : World) (a0 : Int) (a1 : ByteArray) (a2 : Int) (sl : Value) : Prop where
  g0 : wr.heap[w.heap.size]? = some (.cells #[.int .u64 a0, .string a1, .int .u64 a2, sl] 25 (0, 0))
  g1 : wr.heap[w.heap.size + 1]? = some (.cells #[.int .u64 0, .string ⟨#[]⟩, .int .u64 0, .slice none 0 0] 25 (0, 0))
  b : Below w.heap.size w wr
theorem W0.drewN {w wr : World} {a0 : Int} {a1 : ByteArray} {a2 : Int} {sl : Value} (h : W0 w wr a0 a1 a2 sl) (n : Nat) : W0 w (wr.drewN n) a0 a1 a2 sl := ⟨blk_drewN h.g0 n, blk_drewN h.g1 n, pw_below_drewN h.b n⟩
theorem W0.drew {w wr : World} {a0 : Int} {a1 : ByteArray} {a2 : Int} {sl : Value} (h : W0 w wr a0 a1 a2 sl) : W0 w wr.drew a0 a1 a2 sl := ⟨h.g0, h.g1, below_drew1 h.b⟩
theorem W0.below {w wr w1 : World} {a0 : Int} {a1 : ByteArray} {a2 : Int} {sl : Value} (h : W0 w wr a0 a1 a2 sl) (hb : Below wr.heap.size wr w1) : W0 w w1 a0 a1 a2 sl := ⟨blk_below h.g0 hb, blk_below h.g1 hb, h.b.trans (hb.mono h.b.size)⟩
end Go.Proofs.Ytdcbacbilncnnaa.T
end
section
/- The laws' guard: a block's digest does not hang on whether a body is gone. -/
set_option linter.unusedVariables false
set_option linter.unusedSimpArgs false
namespace Go.Proofs.Ytdcbacbilncnnaa.T
open Go.RowKit Go.Proofs.Ytdcbacbilncnnaa.PMk Go.Proofs.Ytdcbacbilncnnaa.M Go.Proofs.Ytdcbacbilncnnaa.EncS Go.Proofs.Ytdcbacbilncnnaa.EncL Go.Proofs.YtdcbacbilncnnaaW.PrintWords Go.Proofs.YtdcbacbilncnnaaW.PrintLast
def awx (H : ByteArray) : S47 := ⟨3, ⟨#[116]⟩, ⟨#[]⟩, 1, 0, H, ⟨#[120]⟩, false⟩
/-- What holds ahead of the guard's comparisons: two blocks in memory. -/
structure AW (w wr : World) (gb gs gc gr cr : Nat) (H : ByteArray) : Prop where
  b0 : wr.cell? ⟨gb, 0, none⟩ = some (.int .u64 0)
  b1 : wr.cell? ⟨gb, 1, none⟩ = some (.string ⟨#[]⟩)
  b2 : wr.cell? ⟨gb, 2, none⟩ = some (.int .u64 0)
  b3 : wr.cell? ⟨gb, 3, none⟩ = some (.slice (some ⟨gs, 0, none⟩) 1 1)
  c0 : wr.cell? ⟨gc, 0, none⟩ = some (.int .u64 0)
  c1 : wr.cell? ⟨gc, 1, none⟩ = some (.string ⟨#[]⟩)
  c2 : wr.cell? ⟨gc, 2, none⟩ = some (.int .u64 0)
  c3 : wr.cell? ⟨gc, 3, none⟩ = some (.slice (some ⟨gr, 0, none⟩) 1 cr)
  r7 : wr.cell? ⟨gr, 7, none⟩ = some (.bool true)
  k1 : Kd.C k47 wr (some ⟨gs, 0, none⟩) 1 [awx H]
  k2 : Kd.C k47 wr (some ⟨gr, 0, none⟩) 1 [bare (awx H)]
  b : Below w.heap.size w wr
theorem AW.below {w wr w1 : World} {gb gs gc gr cr : Nat} {H : ByteArray} (h : AW w wr gb gs gc gr cr H) (hb : Below wr.heap.size wr w1) : AW w w1 gb gs gc gr cr H :=
  ⟨(hb.cell (World.block_lt_of_cell? _ _ h.b0)).trans h.b0, (hb.cell (World.block_lt_of_cell? _ _ h.b1)).trans h.b1, (hb.cell (World.block_lt_of_cell? _ _ h.b2)).trans h.b2, (hb.cell (World.block_lt_of_cell? _ _ h.b3)).trans h.b3,
   (hb.cell (World.block_lt_of_cell? _ _ h.c0)).trans h.c0, (hb.cell (World.block_lt_of_cell? _ _ h.c1)).trans h.c1, (hb.cell (World.block_lt_of_cell? _ _ h.c2)).trans h.c2, (hb.cell (World.block_lt_of_cell? _ _ h.c3)).trans h.c3, (hb.cell (World.block_lt_of_cell? _ _ h.r7)).trans h.r7,
   Kd.C_below h.k1 hb, Kd.C_below h.k2 hb, h.b.trans (hb.mono h.b.size)⟩
end Go.Proofs.Ytdcbacbilncnnaa.T
end
section
/- Header, Block and awake of a block, in the printed form. -/
set_option linter.unusedVariables false
set_option linter.unusedSimpArgs false
namespace Go.Proofs.Ytdcbacbilncnnaa.T
open Go.RowKit Go.Proofs.Ytdcbacbilncnnaa.PMk Go.Proofs.Ytdcbacbilncnnaa.EncL Go.Proofs.YtdcbacbilncnnaaW.PrintWords Go.Proofs.YtdcbacbilncnnaaW.PrintLast Go.Proofs.YtdcbacbilncnnaaW.PrintMore
def fx (x : S47) : Bool := decide (0 ≤ x.f3 ∧ x.f3 < 18446744073709551616 ∧ 0 ≤ x.f4 ∧ x.f4 < 18446744073709551616 ∧ x.f1.size ≤ 1125899906842624 ∧ x.f2.size ≤ 1125899906842624 ∧ x.f5.size ≤ 1125899906842624)
end Go.Proofs.Ytdcbacbilncnnaa.T
namespace Go.Proofs.Ytdcbacbilncnnaa.Blk
open Go.RowKit Go.Proofs.Ytdcbacbilncnnaa.PMk Go.Proofs.Ytdcbacbilncnnaa.T Go.Proofs.Ytdcbacbilncnnaa.EncL Go.Proofs.YtdcbacbilncnnaaW.PrintWords Go.Proofs.YtdcbacbilncnnaaW.PrintLast Go.Proofs.YtdcbacbilncnnaaW.PrintMore
end Go.Proofs.Ytdcbacbilncnnaa.Blk
end
section
namespace Go.Proofs.Ytdcbacbilncnnaa.PMk
open Go.RowKit Go.Proofs.YtdcbacbilncnnaaW.PrintWords Go.Proofs.YtdcbacbilncnnaaW.PrintLast Go.Proofs.YtdcbacbilncnnaaW.PrintMore
attribute [local go_sem] max2_int min2_int max_two min_two max_three min_three max_four min_four   -- for this text's walks alone
set_option linter.unusedVariables false
set_option linter.unusedSimpArgs false
/-! ### parchmentref09_Frame: function 17 -/
/-- A state of type 138 at block g of W; what its slices lead to came in by w0. -/
def IsS138 (w0 W : World) (g : Nat) (f0 : ByteArray) (f1 : Int) (f2 : Int) : Prop := W.heap[g]? = some (.cells #[.string f0, .int .i64 f1, .int .i64 f2] 138 (0, 0)) ∧ w0.heap.size ≤ g
theorem IsS138.grown {w0 W : World} {g : Nat} {f0 : ByteArray} {f1 : Int} {f2 : Int} {W1 : World} {row : Option Nat} (h : IsS138 w0 W g f0 f1 f2) (hw : W.grownBy W1 row) (hne : some g ≠ row) : IsS138 w0 W1 g f0 f1 f2 := by
 obtain ⟨hb, hg⟩ := h
 exact ⟨blk_grown hb hw hne, hg⟩
theorem IsS138.kept {w0 W : World} {g : Nat} {f0 : ByteArray} {f1 : Int} {f2 : Int} {W1 : World} {S : Nat → Prop} (h : IsS138 w0 W g f0 f1 f2) (hk : Kept W W1 S) (hne : ¬ S g) : IsS138 w0 W1 g f0 f1 f2 := by
 obtain ⟨hb, hg⟩ := h
 exact ⟨blk_kept hb hk hne, hg⟩
theorem IsS138.below {w0 W : World} {g : Nat} {f0 : ByteArray} {f1 : Int} {f2 : Int} {W1 : World} (h : IsS138 w0 W g f0 f1 f2) (hw : Below W.heap.size W W1) : IsS138 w0 W1 g f0 f1 f2 := h.grown (grown_of_below hw none) (by simp)
theorem IsS138.alloc {w0 W : World} {g : Nat} {f0 : ByteArray} {f1 : Int} {f2 : Int} (h : IsS138 w0 W g f0 f1 f2) (o : Obj) : IsS138 w0 (W.alloc o) g f0 f1 f2 := h.below (below_alloc (Below.refl _ _) o)
theorem IsS138.drewN {w0 W : World} {g : Nat} {f0 : ByteArray} {f1 : Int} {f2 : Int} (h : IsS138 w0 W g f0 f1 f2) (m : Nat) : IsS138 w0 (W.drewN m) g f0 f1 f2 := h
theorem IsS138.drew {w0 W : World} {g : Nat} {f0 : ByteArray} {f1 : Int} {f2 : Int} (h : IsS138 w0 W g f0 f1 f2) : IsS138 w0 W.drew g f0 f1 f2 := h
theorem IsS138.at_ {w0 W : World} {g : Nat} {f0 : ByteArray} {f1 : Int} {f2 : Int} {w' : World} {m : Nat} (hq : W.drewN m = w') (h : IsS138 w0 W g f0 f1 f2) : IsS138 w0 w' g f0 f1 f2 := by subst hq; exact IsS138.drewN h m
theorem IsS138.apart {w0 W : World} {g : Nat} {f0 : ByteArray} {f1 : Int} {f2 : Int} {α : Type} {d : Kd α} {e : Nat} {base : Nat} {ok : Nat → Prop} {v : Value} {xs : List α} (h : IsS138 w0 W g f0 f1 f2) (ho : d.R e W base ok v xs) (ht : ∀ q, q ∈ e :: d.E → q ≠ 138) : d.R e W base (fun k => ok k ∧ k ≠ g) v xs := by
 obtain ⟨hb, hg⟩ := h
 exact Kd.R_types ho hb ht
theorem IsS138.own_ne {w0 W : World} {g : Nat} {f0 : ByteArray} {f1 : Int} {f2 : Int} {α : Type} {d : Kd α} {e : Nat} {base : Nat} {ok : Nat → Prop} {v : Value} {xs : List α} (h : IsS138 w0 W g f0 f1 f2) (ho : d.R e W base ok v xs) (ht : e ≠ 138) : some g ≠ v.ownBlock := by
 obtain ⟨hb, hg⟩ := h
 exact Kd.R_ne ho hb ht
theorem IsS138.lt {w0 W : World} {g : Nat} {f0 : ByteArray} {f1 : Int} {f2 : Int} (h : IsS138 w0 W g f0 f1 f2) : g < W.heap.size := by
 obtain ⟨hb, hg⟩ := h
 exact blk_lt hb
theorem IsS138.ge {w0 W : World} {g : Nat} {f0 : ByteArray} {f1 : Int} {f2 : Int} (h : IsS138 w0 W g f0 f1 f2) : w0.heap.size ≤ g := by
 obtain ⟨hb, hg⟩ := h
 exact hg
theorem IsS138.far {w0 W : World} {g : Nat} {f0 : ByteArray} {f1 : Int} {f2 : Int} {p : Addr} (h : IsS138 w0 W g f0 f1 f2) (hne : g ≠ p.block) (u : Value) : IsS138 w0 (W.setCell p u) g f0 f1 f2 := by
 obtain ⟨hb, hg⟩ := h
 exact ⟨blk_far hb hne u, hg⟩
theorem IsS138.new (w0 W : World) (f0 : ByteArray) (f1 : Int) (f2 : Int) (hB : Below w0.heap.size w0 W) : IsS138 w0 (W.alloc (.cells #[.string f0, .int .i64 f1, .int .i64 f2] 138)) W.heap.size f0 f1 f2 := ⟨by simpa using heap_alloc_new W _, hB.size⟩
/-! ### enc_At: function 61 -/
/-! ### enc_Cursor_stop: function 88 -/
end Go.Proofs.Ytdcbacbilncnnaa.PMk
end
section
/- Root, Header, Frame and Follows of a block: what the reference comes to, and the program's Frame. -/
set_option linter.unusedVariables false
set_option linter.unusedSimpArgs false
namespace Go.Proofs.Ytdcbacbilncnnaa.T
open Go.RowKit Go.Proofs.Ytdcbacbilncnnaa.PMk Go.Proofs.Ytdcbacbilncnnaa.M Go.Proofs.Ytdcbacbilncnnaa.EncS Go.Proofs.Ytdcbacbilncnnaa.EncL Go.Proofs.YtdcbacbilncnnaaW.PrintWords Go.Proofs.YtdcbacbilncnnaaW.PrintLast
theorem chk_cases (x : S47) : chk x = 0 ∨ chk x = 6 := by unfold chk; split <;> simp
end Go.Proofs.Ytdcbacbilncnnaa.T
end
section
/- BlockBodies, walked. Written in part by wip/genbodies.py. -/
set_option linter.unusedVariables false
set_option linter.unusedSimpArgs false
namespace Go.Proofs.Ytdcbacbilncnnaa.T
open Go.RowKit Go.Proofs.Ytdcbacbilncnnaa.PMk Go.Proofs.Ytdcbacbilncnnaa.M Go.Proofs.Ytdcbacbilncnnaa.EncL Go.Proofs.YtdcbacbilncnnaaW.PrintWords Go.Proofs.YtdcbacbilncnnaaW.PrintLast
/-- The first two variables. -/
structure B1 (w wr : World) (g7 g8 : Nat) (a0 : Int) (a1 : ByteArray) (a2 : Int) (A Am : Option Addr) (n c cm : Nat) (L : List S47) : Prop where
  g7 : wr.heap[g7]? = some (.cells #[.int .u64 a0, .string a1, .int .u64 a2, .slice A n c] 25 (0, 0))
  g8 : wr.heap[g8]? = some (.cells #[.int .u64 a0, .string a1, .int .u64 a2, .slice Am n cm] 28 (0, 0))
  kb : Kd.C k47 wr A n L
  km : Kd.C k44 wr Am n (L.map rf)
  b : Below w.heap.size w wr
theorem B1.below {w wr w1 : World} {g7 g8 : Nat} {a0 : Int} {a1 : ByteArray} {a2 : Int} {A Am : Option Addr} {n c cm : Nat} {L : List S47} (h : B1 w wr g7 g8 a0 a1 a2 A Am n c cm L) (hb : Below wr.heap.size wr w1) : B1 w w1 g7 g8 a0 a1 a2 A Am n c cm L :=
  ⟨blk_below h.g7 hb, blk_below h.g8 hb, Kd.C_below h.kb hb, Kd.C_below h.km hb, h.b.trans (hb.mono h.b.size)⟩
theorem B1.drew {w wr : World} {g7 g8 : Nat} {a0 : Int} {a1 : ByteArray} {a2 : Int} {A Am : Option Addr} {n c cm : Nat} {L : List S47} (h : B1 w wr g7 g8 a0 a1 a2 A Am n c cm L) : B1 w wr.drew g7 g8 a0 a1 a2 A Am n c cm L := h.below (below_drew (Below.refl _ _))
/-- All four. -/
structure B2 (w wr : World) (g7 g8 g10 g12 : Nat) (a0 : Int) (a1 : ByteArray) (a2 : Int) (A Am Ac Ad : Option Addr) (n c cm cc cd : Nat) (L Lc Ld : List S47) : Prop where
  h : B1 w wr g7 g8 a0 a1 a2 A Am n c cm L
  g10 : wr.heap[g10]? = some (.cells #[.int .u64 a0, .string a1, .int .u64 a2, .slice Ac n cc] 25 (0, 0))
  g12 : wr.heap[g12]? = some (.cells #[.int .u64 a0, .string a1, .int .u64 a2, .slice Ad n cd] 25 (0, 0))
  kc : Kd.C k47 wr Ac n Lc
  kd : Kd.C k47 wr Ad n Ld
theorem B2.below {w wr w1 : World} {g7 g8 g10 g12 : Nat} {a0 : Int} {a1 : ByteArray} {a2 : Int} {A Am Ac Ad : Option Addr} {n c cm cc cd : Nat} {L Lc Ld : List S47} (h : B2 w wr g7 g8 g10 g12 a0 a1 a2 A Am Ac Ad n c cm cc cd L Lc Ld) (hb : Below wr.heap.size wr w1) : B2 w w1 g7 g8 g10 g12 a0 a1 a2 A Am Ac Ad n c cm cc cd L Lc Ld :=
  ⟨h.h.below hb, blk_below h.g10 hb, blk_below h.g12 hb, Kd.C_below h.kc hb, Kd.C_below h.kd hb⟩
theorem B2.drew {w wr : World} {g7 g8 g10 g12 : Nat} {a0 : Int} {a1 : ByteArray} {a2 : Int} {A Am Ac Ad : Option Addr} {n c cm cc cd : Nat} {L Lc Ld : List S47} (h : B2 w wr g7 g8 g10 g12 a0 a1 a2 A Am Ac Ad n c cm cc cd L Lc Ld) : B2 w wr.drew g7 g8 g10 g12 a0 a1 a2 A Am Ac Ad n c cm cc cd L Lc Ld := h.below (below_drew (Below.refl _ _))
/-- The region of that number. -/
def findR (m : Nat) : Code → Option Code
  | .region i ops b => if i = m then some (.region i ops b) else none
  | .seq a b => match findR m a with
    | some c => some c
    | none => findR m b
  | .loop c => findR m c
  | .block _ c => findR m c
  | .scope c => findR m c
  | .cond _ a b => match findR m a with
    | some c => some c
    | none => findR m b
  | _ => none
end Go.Proofs.Ytdcbacbilncnnaa.T
end
section
/- The laws' answer, 'want': its variables, made in any order. Written by wip/genwant.py. -/
set_option linter.unusedVariables false
set_option linter.unusedSimpArgs false
namespace Go.Proofs.Ytdcbacbilncnnaa.T
open Go.RowKit Go.Proofs.Ytdcbacbilncnnaa.PMk Go.Proofs.Ytdcbacbilncnnaa.M Go.Proofs.Ytdcbacbilncnnaa.EncL Go.Proofs.YtdcbacbilncnnaaW.PrintWords Go.Proofs.YtdcbacbilncnnaaW.PrintLast
theorem cases13 {ops : Array Oper} {i : Nat} {o : Oper} (hs : ops.size = 13) (h : ops[i]? = some o) : i = 0 ∨ i = 1 ∨ i = 2 ∨ i = 3 ∨ i = 4 ∨ i = 5 ∨ i = 6 ∨ i = 7 ∨ i = 8 ∨ i = 9 ∨ i = 10 ∨ i = 11 ∨ i = 12 := by
  have hi : i < ops.size := (Array.getElem?_eq_some_iff.1 h).1
  omega
def fr25 (d0 : Int) (d1 : ByteArray) (x : S47) (p0 : Int) (p1 : ByteArray) (p2 p3 p4 : Int) (A5 : Option Addr) (n5 c5 : Nat) (A6 : Option Addr) (n6 c6 : Nat) (g : Nat) (v3 v4 v5 v10 v11 v12 v13 v14 v15 v16 : Value) : Act := ⟨#[(.agg #[.int .u64 d0, .string d1, .int .i64 x.f0, .string x.f1, .string x.f2, .int .u64 x.f3, .int .u64 x.f4, .string x.f5, .string x.f6, .bool x.f7, .int .u64 p0, .string p1, .int .u64 p2, .int .i64 p3, .int .i64 p4, .slice A5 n5 c5, .slice A6 n6 c6]), .pointer (some ⟨g, 0, none⟩), .int .i64 0, v3, v4, v5, undef, undef, undef, undef, v10, v11, v12, v13, v14, v15, v16, undef, undef, undef, undef, undef, undef, undef, undef, undef, undef, undef, undef, undef, undef, undef, undef, undef, undef, undef, undef, undef, undef, undef, undef, undef, undef, undef, undef, undef, undef, undef, undef, undef, undef, undef, undef, undef, undef, undef, undef, undef, undef, undef, undef, undef, undef, undef, undef, undef, undef, undef, undef, undef, undef, undef, undef, undef, undef, undef, undef, undef, undef, undef, undef, undef, undef, undef, undef, undef, undef, undef, undef, undef, undef, undef, undef, undef, undef, undef, undef, undef, undef, undef, undef, undef, undef, undef, undef, undef, undef, undef, undef, undef, undef, undef, undef, undef, undef, undef, undef, undef, undef, undef, undef, undef, undef, undef, undef, undef, undef, undef, undef, undef, undef, undef, undef, undef, undef, undef, undef, undef], []⟩
structure J25 (d0 : Int) (d1 : ByteArray) (x : S47) (p0 : Int) (p1 : ByteArray) (p2 p3 p4 : Int) (A5 : Option Addr) (n5 c5 : Nat) (A6 : Option Addr) (n6 c6 : Nat) (g : Nat) (W : World) (b0 b1 b2 b3 b4 b5 b6 b7 b8 b9 b10 b11 b12 : Bool) (v3 v4 v5 v10 v11 v12 v13 v14 v15 v16 : Value) (W' : World) : Prop where
  hb : Below W.heap.size W W'
  f0 : b0 = true → v10 = .pointer (some ⟨g, 2, none⟩)
  f1 : b1 = true → v11 = .agg #[.int .i64 x.f0, .string x.f1, .string x.f2, .int .u64 x.f3, .int .u64 x.f4, .string x.f5, .string x.f6, .bool x.f7]
  f2 : b2 = true → v12 = .agg #[.int .i64 x.f0, .string x.f1, .string x.f2, .int .u64 x.f3, .int .u64 x.f4, .string x.f5, .string x.f6, .bool x.f7]
  f3 : b3 = true → v13 = .pointer (some ⟨g, 10, none⟩)
  f4 : b4 = true → v14 = .agg #[.int .u64 p0, .string p1, .int .u64 p2, .int .i64 p3, .int .i64 p4, .slice A5 n5 c5, .slice A6 n6 c6]
  f5 : b5 = true → v15 = .pointer (some ⟨g, 0, none⟩)
  f6 : b6 = true → v16 = .agg #[.int .u64 d0, .string d1]
  f7 : b7 = true → ∃ q, v3 = .pointer (some ⟨q, 0, none⟩) ∧ W.heap.size ≤ q ∧ W'.heap[q]? = some (.cells (if b10 = true then #[.int .i64 x.f0, .string x.f1, .string x.f2, .int .u64 x.f3, .int .u64 x.f4, .string x.f5, .string x.f6, .bool x.f7] else #[.int .i64 0, .string ⟨#[]⟩, .string ⟨#[]⟩, .int .u64 0, .int .u64 0, .string ⟨#[]⟩, .string ⟨#[]⟩, .bool false]) 44 (0, 0))
  f8 : b8 = true → ∃ q, v4 = .pointer (some ⟨q, 0, none⟩) ∧ W.heap.size ≤ q ∧ W'.heap[q]? = some (.cells (if b11 = true then #[.int .u64 p0, .string p1, .int .u64 p2, .int .i64 p3, .int .i64 p4, .slice A5 n5 c5, .slice A6 n6 c6] else #[.int .u64 0, .string ⟨#[]⟩, .int .u64 0, .int .i64 0, .int .i64 0, .slice none 0 0, .slice none 0 0]) 53 (0, 0))
  f9 : b9 = true → ∃ q, v5 = .pointer (some ⟨q, 0, none⟩) ∧ W.heap.size ≤ q ∧ W'.heap[q]? = some (.cells (if b12 = true then #[.int .u64 d0, .string d1] else #[.int .u64 0, .string ⟨#[]⟩]) 50 (0, 0))
  o7 : b10 = true → b7 = true
  o8 : b11 = true → b8 = true
  o9 : b12 = true → b9 = true
theorem J25.later {d0 : Int} {d1 : ByteArray} {x : S47} {p0 : Int} {p1 : ByteArray} {p2 p3 p4 : Int} {A5 : Option Addr} {n5 c5 : Nat} {A6 : Option Addr} {n6 c6 : Nat} {g : Nat} {W W' W'' : World} {b0 b1 b2 b3 b4 b5 b6 b7 b8 b9 b10 b11 b12 : Bool} {v3 v4 v5 v10 v11 v12 v13 v14 v15 v16 : Value} (j : J25 d0 d1 x p0 p1 p2 p3 p4 A5 n5 c5 A6 n6 c6 g W b0 b1 b2 b3 b4 b5 b6 b7 b8 b9 b10 b11 b12 v3 v4 v5 v10 v11 v12 v13 v14 v15 v16 W') (hb : Below W'.heap.size W' W'') : J25 d0 d1 x p0 p1 p2 p3 p4 A5 n5 c5 A6 n6 c6 g W b0 b1 b2 b3 b4 b5 b6 b7 b8 b9 b10 b11 b12 v3 v4 v5 v10 v11 v12 v13 v14 v15 v16 W'' :=
  { j with hb := below_then j.hb j.hb.size hb, f7 := fun h => by obtain ⟨q, e, hq, hh⟩ := j.f7 h; exact ⟨q, e, hq, blk_below hh hb⟩, f8 := fun h => by obtain ⟨q, e, hq, hh⟩ := j.f8 h; exact ⟨q, e, hq, blk_below hh hb⟩, f9 := fun h => by obtain ⟨q, e, hq, hh⟩ := j.f9 h; exact ⟨q, e, hq, blk_below hh hb⟩ }
/-- Cells stored one behind the other. -/
def sets (q : Nat) : Nat → List Value → World → World
  | _, [], W => W
  | i, v :: vs, W => sets q (i + 1) vs (W.setCell ⟨q, i, none⟩ v)
theorem sets_far {q g t : Nat} {cs : Array Value} (hne : g ≠ q) : ∀ (i : Nat) (vs : List Value) (W : World), W.heap[g]? = some (.cells cs t (0, 0)) → (sets q i vs W).heap[g]? = some (.cells cs t (0, 0))
  | _, [], _, h => h
  | i, v :: vs, W, h => sets_far hne (i + 1) vs _ (blk_far h hne v)
theorem sets_below {n q : Nat} {w : World} (hq : n ≤ q) : ∀ (i : Nat) (vs : List Value) (W : World), Below n w W → Below n w (sets q i vs W)
  | _, [], _, h => h
  | i, v :: vs, W, h => sets_below hq (i + 1) vs _ (h.setCell hq v)
set_option maxRecDepth 100000 in
set_option maxHeartbeats 40000000 in
theorem want_r1 (d0 : Int) (d1 : ByteArray) (x : S47) (p0 : Int) (p1 : ByteArray) (p2 p3 p4 : Int) (A5 : Option Addr) (n5 c5 : Nat) (A6 : Option Addr) (n6 c6 : Nat) (g : Nat) (W : World) {Q : Exit → Act → World → Prop} {cd : Code} (hcd : cd = ((Try.f25.body.bind (findR 1)).getD .skip)) (BK : W.heap[g]? = some (.cells #[.int .u64 d0, .string d1, .int .i64 x.f0, .string x.f1, .string x.f2, .int .u64 x.f3, .int .u64 x.f4, .string x.f5, .string x.f6, .bool x.f7, .int .u64 p0, .string p1, .int .u64 p2, .int .i64 p3, .int .i64 p4, .slice A5 n5 c5, .slice A6 n6 c6] 55 (0, 0)))
    (hQ : ∀ q3 q4 q5 v10 v11 v12 v13 v14 v15 v16 W', W'.heap[q3]? = some (.cells #[.int .i64 x.f0, .string x.f1, .string x.f2, .int .u64 x.f3, .int .u64 x.f4, .string x.f5, .string x.f6, .bool x.f7] 44 (0, 0)) → W'.heap[q4]? = some (.cells #[.int .u64 p0, .string p1, .int .u64 p2, .int .i64 p3, .int .i64 p4, .slice A5 n5 c5, .slice A6 n6 c6] 53 (0, 0)) → W'.heap[q5]? = some (.cells #[.int .u64 d0, .string d1] 50 (0, 0)) → Below W.heap.size W W' → Q .normal (fr25 d0 d1 x p0 p1 p2 p3 p4 A5 n5 c5 A6 n6 c6 g (.pointer (some ⟨q3, 0, none⟩)) (.pointer (some ⟨q4, 0, none⟩)) (.pointer (some ⟨q5, 0, none⟩)) v10 v11 v12 v13 v14 v15 v16) W') :
    Code.wp Try.prog cd Q (fr25 d0 d1 x p0 p1 p2 p3 p4 A5 n5 c5 A6 n6 c6 g undef undef undef undef undef undef undef undef undef undef) W := by
  have HQ := Lib.hid hQ
  clear hQ
  have HREF := Lib.hid (fun w' => ref_any x w')
  subst hcd
  conv => arg 2; whnf
  refine H.wp_region_inv (fun l a W' => ∃ b0 b1 b2 b3 b4 b5 b6 b7 b8 b9 b10 b11 b12 v3 v4 v5 v10 v11 v12 v13 v14 v15 v16, l = #[b0, b1, b2, b3, b4, b5, b6, b7, b8, b9, b10, b11, b12] ∧ a = fr25 d0 d1 x p0 p1 p2 p3 p4 A5 n5 c5 A6 n6 c6 g v3 v4 v5 v10 v11 v12 v13 v14 v15 v16 ∧ J25 d0 d1 x p0 p1 p2 p3 p4 A5 n5 c5 A6 n6 c6 g W b0 b1 b2 b3 b4 b5 b6 b7 b8 b9 b10 b11 b12 v3 v4 v5 v10 v11 v12 v13 v14 v15 v16 W') (by kernel_rfl) ?_ (H.back_of (by kernel_rfl)) ?_ ?_ ?_
  · rintro l a W' ⟨b0, b1, b2, b3, b4, b5, b6, b7, b8, b9, b10, b11, b12, _, _, _, _, _, _, _, _, _, _, rfl, _, _⟩
    rfl
  · rintro l a W' i o ⟨b0, b1, b2, b3, b4, b5, b6, b7, b8, b9, b10, b11, b12, v3, v4, v5, v10, v11, v12, v13, v14, v15, v16, rfl, rfl, j⟩ hl ho haf
    have gc : ∀ k v, W.cell? ⟨g, k, none⟩ = some v → W'.cell? ⟨g, k, none⟩ = some v := fun k v h => (World.cell?_of_block (j.hb.block g (blk_lt BK))).trans h
    rcases cases13 (by rfl) ho with rfl | rfl | rfl | rfl | rfl | rfl | rfl | rfl | rfl | rfl | rfl | rfl | rfl
    · refine wpOp_step ho (fun K hK => ?_)
      obtain rfl := Option.some.inj ho
      refine value_ (v := .pointer (some ⟨g, 2, none⟩)) (by rfl) rfl (by unfold fr25; first | (go_simp; done) | (go_simp; rfl)) (hK _ _ ⟨true, b1, b2, b3, b4, b5, b6, b7, b8, b9, b10, b11, b12, v3, v4, v5, .pointer (some ⟨g, 2, none⟩), v11, v12, v13, v14, v15, v16, rfl, rfl, { j with f0 := fun _ => rfl }⟩)
    · refine wpOp_step ho (fun K hK => ?_)
      obtain rfl := Option.some.inj ho
      have d0 := j.f0 (haf ⟨0, .data⟩ (by simp) rfl)
      subst d0
      have cc2 := gc 2 _ ((blk_cell BK 2).trans rfl)
      have cc3 := gc 3 _ ((blk_cell BK 3).trans rfl)
      have cc4 := gc 4 _ ((blk_cell BK 4).trans rfl)
      have cc5 := gc 5 _ ((blk_cell BK 5).trans rfl)
      have cc6 := gc 6 _ ((blk_cell BK 6).trans rfl)
      have cc7 := gc 7 _ ((blk_cell BK 7).trans rfl)
      have cc8 := gc 8 _ ((blk_cell BK 8).trans rfl)
      have cc9 := gc 9 _ ((blk_cell BK 9).trans rfl)
      refine value_ (v := .agg #[.int .i64 x.f0, .string x.f1, .string x.f2, .int .u64 x.f3, .int .u64 x.f4, .string x.f5, .string x.f6, .bool x.f7]) (by rfl) rfl (by unfold fr25; first | (go_simp; done) | (go_simp; rfl)) (hK _ _ ⟨b0, true, b2, b3, b4, b5, b6, b7, b8, b9, b10, b11, b12, v3, v4, v5, .pointer (some ⟨g, 2, none⟩), .agg #[.int .i64 x.f0, .string x.f1, .string x.f2, .int .u64 x.f3, .int .u64 x.f4, .string x.f5, .string x.f6, .bool x.f7], v12, v13, v14, v15, v16, rfl, rfl, { j with f1 := fun _ => rfl }⟩)
    · refine wpOp_step ho (fun K hK => ?_)
      obtain rfl := Option.some.inj ho
      have d1 := j.f1 (haf ⟨1, .data⟩ (by simp) rfl)
      subst d1
      refine goes_ Try.func21 (by kernel_rfl) rfl #[.agg #[.int .i64 x.f0, .string x.f1, .string x.f2, .int .u64 x.f3, .int .u64 x.f4, .string x.f5, .string x.f6, .bool x.f7]] (by rfl) rfl rfl (by simp only [List.map_toArray, List.map_cons, List.map_nil]; rfl) ?_
      refine (HREF.out W').mono ?_
      rintro e W'' ⟨rfl, hb⟩
      exact ⟨_, rfl, hK _ _ ⟨b0, b1, true, b3, b4, b5, b6, b7, b8, b9, b10, b11, b12, v3, v4, v5, v10, .agg #[.int .i64 x.f0, .string x.f1, .string x.f2, .int .u64 x.f3, .int .u64 x.f4, .string x.f5, .string x.f6, .bool x.f7], .agg #[.int .i64 x.f0, .string x.f1, .string x.f2, .int .u64 x.f3, .int .u64 x.f4, .string x.f5, .string x.f6, .bool x.f7], v13, v14, v15, v16, rfl, rfl, { j.later hb with f2 := fun _ => rfl }⟩⟩
    · refine wpOp_step ho (fun K hK => ?_)
      obtain rfl := Option.some.inj ho
      refine value_ (v := .pointer (some ⟨g, 10, none⟩)) (by rfl) rfl (by unfold fr25; first | (go_simp; done) | (go_simp; rfl)) (hK _ _ ⟨b0, b1, b2, true, b4, b5, b6, b7, b8, b9, b10, b11, b12, v3, v4, v5, v10, v11, v12, .pointer (some ⟨g, 10, none⟩), v14, v15, v16, rfl, rfl, { j with f3 := fun _ => rfl }⟩)
    · refine wpOp_step ho (fun K hK => ?_)
      obtain rfl := Option.some.inj ho
      have d3 := j.f3 (haf ⟨3, .data⟩ (by simp) rfl)
      subst d3
      have cc10 := gc 10 _ ((blk_cell BK 10).trans rfl)
      have cc11 := gc 11 _ ((blk_cell BK 11).trans rfl)
      have cc12 := gc 12 _ ((blk_cell BK 12).trans rfl)
      have cc13 := gc 13 _ ((blk_cell BK 13).trans rfl)
      have cc14 := gc 14 _ ((blk_cell BK 14).trans rfl)
      have cc15 := gc 15 _ ((blk_cell BK 15).trans rfl)
      have cc16 := gc 16 _ ((blk_cell BK 16).trans rfl)
      refine value_ (v := .agg #[.int .u64 p0, .string p1, .int .u64 p2, .int .i64 p3, .int .i64 p4, .slice A5 n5 c5, .slice A6 n6 c6]) (by rfl) rfl (by unfold fr25; first | (go_simp; done) | (go_simp; rfl)) (hK _ _ ⟨b0, b1, b2, b3, true, b5, b6, b7, b8, b9, b10, b11, b12, v3, v4, v5, v10, v11, v12, .pointer (some ⟨g, 10, none⟩), .agg #[.int .u64 p0, .string p1, .int .u64 p2, .int .i64 p3, .int .i64 p4, .slice A5 n5 c5, .slice A6 n6 c6], v15, v16, rfl, rfl, { j with f4 := fun _ => rfl }⟩)
    · refine wpOp_step ho (fun K hK => ?_)
      obtain rfl := Option.some.inj ho
      refine value_ (v := .pointer (some ⟨g, 0, none⟩)) (by rfl) rfl (by unfold fr25; first | (go_simp; done) | (go_simp; rfl)) (hK _ _ ⟨b0, b1, b2, b3, b4, true, b6, b7, b8, b9, b10, b11, b12, v3, v4, v5, v10, v11, v12, v13, v14, .pointer (some ⟨g, 0, none⟩), v16, rfl, rfl, { j with f5 := fun _ => rfl }⟩)
    · refine wpOp_step ho (fun K hK => ?_)
      obtain rfl := Option.some.inj ho
      have d5 := j.f5 (haf ⟨5, .data⟩ (by simp) rfl)
      subst d5
      have cc0 := gc 0 _ ((blk_cell BK 0).trans rfl)
      have cc1 := gc 1 _ ((blk_cell BK 1).trans rfl)
      refine value_ (v := .agg #[.int .u64 d0, .string d1]) (by rfl) rfl (by unfold fr25; first | (go_simp; done) | (go_simp; rfl)) (hK _ _ ⟨b0, b1, b2, b3, b4, b5, true, b7, b8, b9, b10, b11, b12, v3, v4, v5, v10, v11, v12, v13, v14, .pointer (some ⟨g, 0, none⟩), .agg #[.int .u64 d0, .string d1], rfl, rfl, { j with f6 := fun _ => rfl }⟩)
    · refine wpOp_step ho (fun K hK => ?_)
      obtain rfl := Option.some.inj ho
      have hb0 : b10 = false := by
        cases hbb : b10 with
        | false => rfl
        | true => have h4 := j.o7 hbb; rw [h4] at hl; cases hl
      subst hb0
      refine value_ (v := .pointer (some ⟨W'.heap.size, 0, none⟩)) (w1 := W'.alloc (.cells #[.int .i64 0, .string ⟨#[]⟩, .string ⟨#[]⟩, .int .u64 0, .int .u64 0, .string ⟨#[]⟩, .string ⟨#[]⟩, .bool false] 44 (0, 0))) (by rfl) rfl (by unfold fr25; first | (go_simp; done) | (go_simp; rfl)) (hK _ _ ⟨b0, b1, b2, b3, b4, b5, b6, true, b8, b9, false, b11, b12, .pointer (some ⟨W'.heap.size, 0, none⟩), v4, v5, v10, v11, v12, v13, v14, v15, v16, rfl, rfl, { j.later (below_alloc (Below.refl _ _) _) with f7 := fun _ => ⟨_, rfl, j.hb.size, ?_⟩, o7 := fun h => by cases h }⟩)
      exact heap_alloc_new W' _
    · refine wpOp_step ho (fun K hK => ?_)
      obtain rfl := Option.some.inj ho
      have hb0 : b11 = false := by
        cases hbb : b11 with
        | false => rfl
        | true => have h4 := j.o8 hbb; rw [h4] at hl; cases hl
      subst hb0
      refine value_ (v := .pointer (some ⟨W'.heap.size, 0, none⟩)) (w1 := W'.alloc (.cells #[.int .u64 0, .string ⟨#[]⟩, .int .u64 0, .int .i64 0, .int .i64 0, .slice none 0 0, .slice none 0 0] 53 (0, 0))) (by rfl) rfl (by unfold fr25; first | (go_simp; done) | (go_simp; rfl)) (hK _ _ ⟨b0, b1, b2, b3, b4, b5, b6, b7, true, b9, b10, false, b12, v3, .pointer (some ⟨W'.heap.size, 0, none⟩), v5, v10, v11, v12, v13, v14, v15, v16, rfl, rfl, { j.later (below_alloc (Below.refl _ _) _) with f8 := fun _ => ⟨_, rfl, j.hb.size, ?_⟩, o8 := fun h => by cases h }⟩)
      exact heap_alloc_new W' _
    · refine wpOp_step ho (fun K hK => ?_)
      obtain rfl := Option.some.inj ho
      have hb0 : b12 = false := by
        cases hbb : b12 with
        | false => rfl
        | true => have h4 := j.o9 hbb; rw [h4] at hl; cases hl
      subst hb0
      refine value_ (v := .pointer (some ⟨W'.heap.size, 0, none⟩)) (w1 := W'.alloc (.cells #[.int .u64 0, .string ⟨#[]⟩] 50 (0, 0))) (by rfl) rfl (by unfold fr25; first | (go_simp; done) | (go_simp; rfl)) (hK _ _ ⟨b0, b1, b2, b3, b4, b5, b6, b7, b8, true, b10, b11, false, v3, v4, .pointer (some ⟨W'.heap.size, 0, none⟩), v10, v11, v12, v13, v14, v15, v16, rfl, rfl, { j.later (below_alloc (Below.refl _ _) _) with f9 := fun _ => ⟨_, rfl, j.hb.size, ?_⟩, o9 := fun h => by cases h }⟩)
      exact heap_alloc_new W' _
    · refine wpOp_step ho (fun K hK => ?_)
      obtain rfl := Option.some.inj ho
      have da : b7 = true := haf ⟨7, .data⟩ (by simp) rfl
      subst da
      obtain ⟨q, e, hq, hh⟩ := j.f7 rfl
      subst e
      have ds := j.f2 (haf ⟨2, .data⟩ (by simp) rfl)
      subst ds
      obtain rfl : b10 = false := hl
      replace hh : W'.heap[q]? = some (.cells #[.int .i64 0, .string ⟨#[]⟩, .string ⟨#[]⟩, .int .u64 0, .int .u64 0, .string ⟨#[]⟩, .string ⟨#[]⟩, .bool false] 44 (0, 0)) := hh
      have cc0 := (blk_cell hh 0).trans rfl
      have kk0 := blk_frozen hh 0
      have cc1 := (blk_cell hh 1).trans rfl
      have kk1 := blk_frozen hh 1
      have cc2 := (blk_cell hh 2).trans rfl
      have kk2 := blk_frozen hh 2
      have cc3 := (blk_cell hh 3).trans rfl
      have kk3 := blk_frozen hh 3
      have cc4 := (blk_cell hh 4).trans rfl
      have kk4 := blk_frozen hh 4
      have cc5 := (blk_cell hh 5).trans rfl
      have kk5 := blk_frozen hh 5
      have cc6 := (blk_cell hh 6).trans rfl
      have kk6 := blk_frozen hh 6
      have cc7 := (blk_cell hh 7).trans rfl
      have kk7 := blk_frozen hh 7
      refine skip_ (w1 := sets q 0 [.int .i64 x.f0, .string x.f1, .string x.f2, .int .u64 x.f3, .int .u64 x.f4, .string x.f5, .string x.f6, .bool x.f7] W') (by rfl) rfl ?_ ?_
      · unfold fr25
        first | (go_simp; done) | (go_simp; rfl)
      exact hK _ _ ⟨b0, b1, b2, b3, b4, b5, b6, true, b8, b9, true, b11, b12, .pointer (some ⟨q, 0, none⟩), v4, v5, v10, v11, .agg #[.int .i64 x.f0, .string x.f1, .string x.f2, .int .u64 x.f3, .int .u64 x.f4, .string x.f5, .string x.f6, .bool x.f7], v13, v14, v15, v16, rfl, rfl, { j with hb := sets_below hq 0 _ _ j.hb, f7 := fun _ => ⟨q, rfl, hq, (blk_put (blk_put (blk_put (blk_put (blk_put (blk_put (blk_put (blk_put hh 0 _ rfl) 1 _ rfl) 2 _ rfl) 3 _ rfl) 4 _ rfl) 5 _ rfl) 6 _ rfl) 7 _ rfl)⟩, o7 := fun _ => rfl, f8 := fun h => by obtain ⟨q', e', hq', hh'⟩ := j.f8 h; exact ⟨q', e', hq', sets_far (typ_ne hh' hh (by decide)) 0 _ _ hh'⟩, f9 := fun h => by obtain ⟨q', e', hq', hh'⟩ := j.f9 h; exact ⟨q', e', hq', sets_far (typ_ne hh' hh (by decide)) 0 _ _ hh'⟩ }⟩
    · refine wpOp_step ho (fun K hK => ?_)
      obtain rfl := Option.some.inj ho
      have da : b8 = true := haf ⟨8, .data⟩ (by simp) rfl
      subst da
      obtain ⟨q, e, hq, hh⟩ := j.f8 rfl
      subst e
      have ds := j.f4 (haf ⟨4, .data⟩ (by simp) rfl)
      subst ds
      obtain rfl : b11 = false := hl
      replace hh : W'.heap[q]? = some (.cells #[.int .u64 0, .string ⟨#[]⟩, .int .u64 0, .int .i64 0, .int .i64 0, .slice none 0 0, .slice none 0 0] 53 (0, 0)) := hh
      have cc0 := (blk_cell hh 0).trans rfl
      have kk0 := blk_frozen hh 0
      have cc1 := (blk_cell hh 1).trans rfl
      have kk1 := blk_frozen hh 1
      have cc2 := (blk_cell hh 2).trans rfl
      have kk2 := blk_frozen hh 2
      have cc3 := (blk_cell hh 3).trans rfl
      have kk3 := blk_frozen hh 3
      have cc4 := (blk_cell hh 4).trans rfl
      have kk4 := blk_frozen hh 4
      have cc5 := (blk_cell hh 5).trans rfl
      have kk5 := blk_frozen hh 5
      have cc6 := (blk_cell hh 6).trans rfl
      have kk6 := blk_frozen hh 6
      refine skip_ (w1 := sets q 0 [.int .u64 p0, .string p1, .int .u64 p2, .int .i64 p3, .int .i64 p4, .slice A5 n5 c5, .slice A6 n6 c6] W') (by rfl) rfl ?_ ?_
      · unfold fr25
        first | (go_simp; done) | (go_simp; rfl)
      exact hK _ _ ⟨b0, b1, b2, b3, b4, b5, b6, b7, true, b9, b10, true, b12, v3, .pointer (some ⟨q, 0, none⟩), v5, v10, v11, v12, v13, .agg #[.int .u64 p0, .string p1, .int .u64 p2, .int .i64 p3, .int .i64 p4, .slice A5 n5 c5, .slice A6 n6 c6], v15, v16, rfl, rfl, { j with hb := sets_below hq 0 _ _ j.hb, f8 := fun _ => ⟨q, rfl, hq, (blk_put (blk_put (blk_put (blk_put (blk_put (blk_put (blk_put hh 0 _ rfl) 1 _ rfl) 2 _ rfl) 3 _ rfl) 4 _ rfl) 5 _ rfl) 6 _ rfl)⟩, o8 := fun _ => rfl, f7 := fun h => by obtain ⟨q', e', hq', hh'⟩ := j.f7 h; exact ⟨q', e', hq', sets_far (typ_ne hh' hh (by decide)) 0 _ _ hh'⟩, f9 := fun h => by obtain ⟨q', e', hq', hh'⟩ := j.f9 h; exact ⟨q', e', hq', sets_far (typ_ne hh' hh (by decide)) 0 _ _ hh'⟩ }⟩
    · refine wpOp_step ho (fun K hK => ?_)
      obtain rfl := Option.some.inj ho
      have da : b9 = true := haf ⟨9, .data⟩ (by simp) rfl
      subst da
      obtain ⟨q, e, hq, hh⟩ := j.f9 rfl
      subst e
      have ds := j.f6 (haf ⟨6, .data⟩ (by simp) rfl)
      subst ds
      obtain rfl : b12 = false := hl
      replace hh : W'.heap[q]? = some (.cells #[.int .u64 0, .string ⟨#[]⟩] 50 (0, 0)) := hh
      have cc0 := (blk_cell hh 0).trans rfl
      have kk0 := blk_frozen hh 0
      have cc1 := (blk_cell hh 1).trans rfl
      have kk1 := blk_frozen hh 1
      refine skip_ (w1 := sets q 0 [.int .u64 d0, .string d1] W') (by rfl) rfl ?_ ?_
      · unfold fr25
        first | (go_simp; done) | (go_simp; rfl)
      exact hK _ _ ⟨b0, b1, b2, b3, b4, b5, b6, b7, b8, true, b10, b11, true, v3, v4, .pointer (some ⟨q, 0, none⟩), v10, v11, v12, v13, v14, v15, .agg #[.int .u64 d0, .string d1], rfl, rfl, { j with hb := sets_below hq 0 _ _ j.hb, f9 := fun _ => ⟨q, rfl, hq, (blk_put (blk_put hh 0 _ rfl) 1 _ rfl)⟩, o9 := fun _ => rfl, f7 := fun h => by obtain ⟨q', e', hq', hh'⟩ := j.f7 h; exact ⟨q', e', hq', sets_far (typ_ne hh' hh (by decide)) 0 _ _ hh'⟩, f8 := fun h => by obtain ⟨q', e', hq', hh'⟩ := j.f8 h; exact ⟨q', e', hq', sets_far (typ_ne hh' hh (by decide)) 0 _ _ hh'⟩ }⟩
  · exact ⟨false, false, false, false, false, false, false, false, false, false, false, false, false, undef, undef, undef, undef, undef, undef, undef, undef, undef, undef, rfl, rfl, { hb := below_drew (Below.refl _ _), f0 := fun h => (by cases h), f1 := fun h => (by cases h), f2 := fun h => (by cases h), f3 := fun h => (by cases h), f4 := fun h => (by cases h), f5 := fun h => (by cases h), f6 := fun h => (by cases h), f7 := fun h => (by cases h), f8 := fun h => (by cases h), f9 := fun h => (by cases h), o7 := fun h => (by cases h), o8 := fun h => (by cases h), o9 := fun h => (by cases h) }⟩
  · rintro l a W' ⟨b0, b1, b2, b3, b4, b5, b6, b7, b8, b9, b10, b11, b12, v3, v4, v5, v10, v11, v12, v13, v14, v15, v16, rfl, rfl, j⟩ hall
    obtain rfl : b7 = true := hall 7 (by decide)
    obtain rfl : b8 = true := hall 8 (by decide)
    obtain rfl : b9 = true := hall 9 (by decide)
    obtain rfl : b10 = true := hall 10 (by decide)
    obtain rfl : b11 = true := hall 11 (by decide)
    obtain rfl : b12 = true := hall 12 (by decide)
    obtain ⟨q3, e, _, h7⟩ := j.f7 rfl
    subst e
    obtain ⟨q4, e, _, h8⟩ := j.f8 rfl
    subst e
    obtain ⟨q5, e, _, h9⟩ := j.f9 rfl
    subst e
    exact HQ.out q3 q4 q5 _ _ _ _ _ _ _ W' h7 h8 h9 j.hb
end Go.Proofs.Ytdcbacbilncnnaa.T
end
section
/- proof.Of and proof.Make, walked. Written by wip/genom.py. -/
set_option linter.unusedVariables false
set_option linter.unusedSimpArgs false
namespace Go.Proofs.Ytdcbacbilncnnaa.T
open Go.RowKit Go.Proofs.Ytdcbacbilncnnaa.PMk Go.Proofs.Ytdcbacbilncnnaa.M Go.Proofs.Ytdcbacbilncnnaa.EncL Go.Proofs.YtdcbacbilncnnaaW.PrintWords Go.Proofs.YtdcbacbilncnnaaW.PrintLast
theorem rootAt_ok (L : List ByteArray) (hw : W32 L) (hL : L.length < 1000) (n : Nat) (hn : n ≤ L.length) : rootAtF 2000 L (n : Int) = some (mroot (L.take n), 0) := by
  unfold rootAtF
  rw [if_neg (by omega), if_neg (by omega), Int.toNat_natCast, root_f 2000 (L.take n) (hw.take n) (by rw [List.length_take]; omega) (by rw [List.length_take]; omega)]
  rfl
theorem pathAt_ok (L : List ByteArray) (hw : W32 L) (hL : L.length < 1000) (m n : Nat) (hm : m < n) (hn : n ≤ L.length) : pathAtF 2000 L (m : Int) (n : Int) = some (pathT m (L.take n), 0) := by
  unfold pathAtF
  rw [if_neg (by omega), if_neg (by omega), if_neg (by omega), if_neg (by omega), Int.toNat_natCast, path_f 2000 m (L.take n) (hw.take n) (by rw [List.length_take]; omega) (by rw [List.length_take]; omega) (by rw [List.length_take]; omega)]
  rfl
set_option maxRecDepth 100000 in
set_option maxHeartbeats 4000000 in
theorem of_ok (w : World) (base g len : Nat) (vl vp : Value) (L P : List ByteArray) (hA : At w base g vl vp L P) (hlen : L.length = len) (hL : len < 1000) (hw32 : W32 L) (n : Nat) (r : ByteArray) (hn : n ≤ len) (hr : mroot (L.take n) = r) :
    Calls Try.prog 27 #[.pointer (some ⟨g, 0, none⟩), .int .u64 (n : Int)] w fun e w' => e = .returned (.tuple #[.agg #[.int .u64 (n : Int), .string r], .int .i64 0]) ∧ Below w.heap.size w w' := by
  have HA := Lib.hid (hA.below ((Below.refl w.heap.size w).alloc (Nat.le_refl _) (.cells #[.int .u64 0, .string ⟨#[]⟩] 50)))
  have HB := Lib.hid ((Below.refl w.heap.size w).alloc (Nat.le_refl _) (.cells #[.int .u64 0, .string ⟨#[]⟩] 50))
  have BK := Lib.hid (heap_alloc_new w (.cells #[.int .u64 0, .string ⟨#[]⟩] 50 (0, 0)))
  have HR := Lib.hid (hr ▸ rootAt_ok L hw32 (by omega) n (by omega))
  have HL := Lib.hid hlen
  clear hA hlen hr
  have hw : IntKind.u64.wrap (len : Int) = (len : Int) := by rw [IntKind.wrap_u64]; omega
  have hwn : IntKind.i64.wrap (n : Int) = (n : Int) := by rw [i64_w, wrap64_in _ (by omega) (by omega)]
  have hd : decide ((len : Int) < (n : Int)) = false := decide_eq_false (by omega)
  have hd2 : decide (len < n) = false := decide_eq_false (by omega)
  go_enter Try.func27, Try.ntmps27
  go_wp2_with (first
    | (go_at_call 57; refine (len_any _ _ _ len _ _ _ _ HA.out HL.out).mono ?_; rintro e w2 ⟨rfl, hb⟩; have HB2 := Lib.hid (HB.out.trans (hb.mono (by simp))); have HA2 := Lib.hid (HA.out.below hb); have BK2 := Lib.hid (blk_below BK.out hb); clear hb)
    | (go_at_call 35; refine (rootAt_raw 2000 _ _ _ _ _ _ _ HA2.out _ _ _ HR.out).mono ?_; rintro e w3 ⟨rfl, hb⟩; have HB3 := Lib.hid (HB2.out.trans (hb.mono HB2.out.size)); have BK3 := Lib.hid (blk_below BK2.out hb); have c0 := (blk_cell BK3.out 0).trans rfl; have c1 := (blk_cell BK3.out 1).trans rfl; have k0 := blk_frozen BK3.out 0; have k1 := blk_frozen BK3.out 1; clear hb))
  exact bodyPost_ret (results_ct rfl _ _ w.heap.size 50 _ (0, 0) _ rfl (blk_put (blk_put BK3.out 0 _ rfl) 1 _ rfl) Try.underlying50 rfl (by kernel_rfl)) rfl ⟨rfl, (HB3.out.setCell (Nat.le_refl _) _).setCell (Nat.le_refl _) _⟩
theorem R_sets {α : Type} {d : Kd α} {e base g t : Nat} {ok : Nat → Prop} {v : Value} {xs : List α} (ht : ∀ q, q ∈ e :: d.E → q ≠ t) : ∀ (i : Nat) (vs : List Value) (W : World) (cs : Array Value), W.heap[g]? = some (.cells cs t (0, 0)) → d.R e W base ok v xs → d.R e (sets g i vs W) base ok v xs
  | _, [], _, _, _, h => h
  | i, u :: vs, W, cs, hb, h => R_sets ht (i + 1) vs _ _ (blk_set hb i u) (Kd.R_set h hb ht i u)
/-- What holds while a proof is made. -/
structure QM (w wr : World) (base g : Nat) (vl vp : Value) (L P : List ByteArray) (q : Int) (p : ByteArray) (x : Int) (A : Option Addr) (len c : Nat) (l : List S47) : Prop where
  t : At wr base g vl vp L P
  bx : wr.heap[w.heap.size]? = some (.cells #[.int .u64 (q : Int), .string p, .int .u64 x, .slice A len c] 25 (0, 0))
  z : wr.heap[w.heap.size + 1]? = some (.cells #[.int .u64 0, .string ⟨#[]⟩, .int .u64 0, .int .i64 0, .int .i64 0, .slice none 0 0, .slice none 0 0] 53 (0, 0))
  c : Kd.C k47 wr A len l
  b : Below w.heap.size w wr
theorem QM.below {w wr w1 : World} {base g : Nat} {vl vp : Value} {L P : List ByteArray} {q : Int} {p : ByteArray} {x : Int} {A : Option Addr} {len c : Nat} {l : List S47} (h : QM w wr base g vl vp L P q p x A len c l) (hb : Below wr.heap.size wr w1) : QM w w1 base g vl vp L P q p x A len c l :=
  ⟨h.t.below hb, blk_below h.bx hb, blk_below h.z hb, Kd.C_below h.c hb, h.b.trans (hb.mono h.b.size)⟩
theorem tree_any (a0 : Int) (a1 : ByteArray) (a2 : Int) (A : Option Addr) (c n : Nat) (l : List S47) (w : World) (hl : l.length = n) (hg : FitsL l) (hn : n < 1000) (hC : Kd.C k47 w A n l) :
    Calls Try.prog 47 #[.agg #[.int .u64 a0, .string a1, .int .u64 a2, .slice A n c]] w fun e w' => ∃ g vl vp, e = .returned (.pointer (some ⟨g, 0, none⟩)) ∧ At w' w.heap.size g vl vp (lvs l) (pk (lvs l)) ∧ Below w.heap.size w w' := by
  subst hl
  obtain ⟨k, hk⟩ := (metas_ev hg).rounds
  exact tree_raw k a0 a1 a2 A c l (ms l) w hC hk hn
set_option maxRecDepth 100000 in
set_option maxHeartbeats 4000000 in
theorem make_ok (w : World) (base g T : Nat) (vl vp : Value) (L P : List ByteArray) (hA : At w base g vl vp L P) (hT : L.length = T) (hL : T < 1000) (hw32 : W32 L) (q : Nat) (p : ByteArray) (x : Int) (A : Option Addr) (len c : Nat) (l : List S47) (hl : l.length = len) (hC : Kd.C k47 w A len l) (hg : FitsL l) (hln : len < 1000)
    (i n n5 n6 : Nat) (W5 W6 : List ByteArray) (hi : i < len) (hn : n ≤ T) (hq : q < n) (h5 : pathT i (lvs l) = W5) (h6 : pathT q (L.take n) = W6) (e5 : W5.length = n5) (e6 : W6.length = n6) :
    Calls Try.prog 28 #[.pointer (some ⟨g, 0, none⟩), .agg #[.int .u64 (q : Int), .string p, .int .u64 x, .slice A len c], .int .i64 (i : Int), .int .u64 (n : Int)] w fun e w' => ∃ A5 c5 A6 c6, e = .returned (.tuple #[.agg #[.int .u64 (q : Int), .string p, .int .u64 x, .int .i64 (i : Int), .int .i64 (len : Int), .slice A5 n5 c5, .slice A6 n6 c6], .int .i64 0]) ∧
      n5 ≤ c5 ∧ n6 ≤ c6 ∧ Kd.C Kd.string w' A5 n5 W5 ∧ Kd.C Kd.string w' A6 n6 W6 ∧ Below w.heap.size w w' := by
  have hP5 : pathAtF 2000 (lvs l) (i : Int) (len : Int) = some (W5, 0) := by
    rw [pathAt_ok (lvs l) (lvs_w32 l) (by rw [lvs_len]; omega) i len hi (by rw [lvs_len]; omega), List.take_of_length_le (by rw [lvs_len]; omega), h5]
  have hP6 : pathAtF 2000 L (q : Int) (n : Int) = some (W6, 0) := by rw [pathAt_ok L hw32 (by omega) q n hq (by omega), h6]
  have HP5 := Lib.hid hP5
  have HP6 := Lib.hid hP6
  have hW : Below w.heap.size w ((w.alloc (.cells #[.int .u64 (q : Int), .string p, .int .u64 x, .slice A len c] 25)).alloc (.cells #[.int .u64 0, .string ⟨#[]⟩, .int .u64 0, .int .i64 0, .int .i64 0, .slice none 0 0, .slice none 0 0] 53)) := ((Below.refl _ _).alloc (Nat.le_refl _) _).alloc (by simp) _
  have HQ0 : Hid (QM w ((w.alloc (.cells #[.int .u64 (q : Int), .string p, .int .u64 x, .slice A len c] 25)).alloc (.cells #[.int .u64 0, .string ⟨#[]⟩, .int .u64 0, .int .i64 0, .int .i64 0, .slice none 0 0, .slice none 0 0] 53)) base g vl vp L P q p x A len c l) := Lib.hid ⟨hA.below hW, blk_alloc (heap_alloc_new w (.cells #[.int .u64 (q : Int), .string p, .int .u64 x, .slice A len c] 25 (0, 0))) (.cells #[.int .u64 0, .string ⟨#[]⟩, .int .u64 0, .int .i64 0, .int .i64 0, .slice none 0 0, .slice none 0 0] 53 (0, 0)), by simpa using heap_alloc_new (w.alloc (.cells #[.int .u64 (q : Int), .string p, .int .u64 x, .slice A len c] 25)) (.cells #[.int .u64 0, .string ⟨#[]⟩, .int .u64 0, .int .i64 0, .int .i64 0, .slice none 0 0, .slice none 0 0] 53 (0, 0)), Kd.C_below hC hW, hW⟩
  have HTR := Lib.hid (fun w' hC' => tree_any (q : Int) p x A c len l w' hl hg hln hC')
  have HT := Lib.hid hT
  have E5 := Lib.hid e5
  have E6 := Lib.hid e6
  clear hA hT hW hP5 hP6 h5 h6 hl hC e5 e6
  have hw : IntKind.u64.wrap (T : Int) = (T : Int) := by rw [IntKind.wrap_u64]; omega
  have hwq : IntKind.i64.wrap (q : Int) = (q : Int) := by rw [i64_w, wrap64_in _ (by omega) (by omega)]
  have hwn : IntKind.i64.wrap (n : Int) = (n : Int) := by rw [i64_w, wrap64_in _ (by omega) (by omega)]
  have d1 : decide ((T : Int) < (n : Int)) = false := decide_eq_false (by omega)
  have d1' : decide (T < n) = false := decide_eq_false (by omega)
  have d2 : decide ((n : Int) ≤ (q : Int)) = false := decide_eq_false (by omega)
  have d2' : decide (n ≤ q) = false := decide_eq_false (by omega)
  have d3 : decide ((i : Int) < 0) = false := decide_eq_false (by omega)
  have d4 : decide ((len : Int) ≤ (i : Int)) = false := decide_eq_false (by omega)
  have d4' : decide (len ≤ i) = false := decide_eq_false (by omega)
  go_enter Try.func28, Try.ntmps28
  go_upto_region 3 with (go_at_call 57; refine (len_any _ _ _ T _ _ _ _ HQ0.out.t HT.out).mono ?_; rintro e w2 ⟨rfl, hb⟩; have HQ := Lib.hid (HQ0.out.below hb); have b0 : w2.cell? ⟨w.heap.size, 0, none⟩ = some (.int .u64 (q : Int)) := (blk_cell HQ.out.bx 0).trans rfl; have b3 : w2.cell? ⟨w.heap.size, 3, none⟩ = some (.slice A len c) := (blk_cell HQ.out.bx 3).trans rfl; clear hb)
  clear HQ0 b0 b3
  have HQd := Lib.hid (HQ.out.below (below_drew (Below.refl _ _)))
  refine start_ (n := 12) (S := fun w' => w'.cell? ⟨w.heap.size, 0, none⟩ = some (.int .u64 (q : Int)) ∧ w'.cell? ⟨w.heap.size, 1, none⟩ = some (.string p) ∧ w'.cell? ⟨w.heap.size, 2, none⟩ = some (.int .u64 x) ∧ w'.cell? ⟨w.heap.size, 3, none⟩ = some (.slice A len c)) (ds := []) #[false, false, false, false, false, false, false, false, false, false, false, false] (by kernel_rfl) rfl rfl ⟨(blk_cell HQ.out.bx 0).trans rfl, (blk_cell HQ.out.bx 1).trans rfl, (blk_cell HQ.out.bx 2).trans rfl, (blk_cell HQ.out.bx 3).trans rfl⟩ (fun hHeld => ?_)
  refine pure_ (i := 2) (N := some 39) (v := ?_) (a' := ?_) #[false, false, true, false, false, false, false, false, false, false, false, false] rfl rfl (by kernel_rfl) (fun _ _ _ h => h) (Or.inl ⟨by rfl, ?_⟩) ?_ ?_
  rotate_left
  · intro w'
    go_simp
    with_reducible rfl
  rotate_left
  · simp only [Act.put, List.setIfInBounds_toArray, List.set_cons_zero, List.set_cons_succ, i64_w, i32_w]
    rfl
  refine pure_ (i := 3) (N := some 40) (v := ?_) (a' := ?_) #[false, false, true, true, false, false, false, false, false, false, false, false] rfl rfl (by kernel_rfl) (fun _ _ _ h => h) (Or.inl ⟨by rfl, ?_⟩) ?_ ?_
  rotate_left
  · intro w'
    go_simp
    with_reducible rfl
  rotate_left
  · simp only [Act.put, List.setIfInBounds_toArray, List.set_cons_zero, List.set_cons_succ, i64_w, i32_w]
    rfl
  refine take_ (i := 0) (N := some 37) (v := ?_) (a' := ?_) #[true, false, true, true, false, false, false, false, false, false, false, false] rfl rfl (by kernel_rfl) (fun _ _ _ h => h) (Or.inl ⟨by rfl, ?_⟩) hHeld ?_ ?_
  rotate_left
  · rintro w' ⟨s0, s1, s2, s3⟩
    go_simp
    with_reducible rfl
  rotate_left
  · simp only [Act.put, List.setIfInBounds_toArray, List.set_cons_zero, List.set_cons_succ, i64_w, i32_w]
    rfl
  refine take_ (i := 4) (N := some 41) (v := ?_) (a' := ?_) #[true, false, true, true, true, false, false, false, false, false, false, false] rfl rfl (by kernel_rfl) (fun _ _ _ h => h) (Or.inl ⟨by rfl, ?_⟩) hHeld ?_ ?_
  rotate_left
  · rintro w' ⟨s0, s1, s2, s3⟩
    go_simp
    with_reducible rfl
  rotate_left
  · simp only [Act.put, List.setIfInBounds_toArray, List.set_cons_zero, List.set_cons_succ, i64_w, i32_w]
    rfl
  refine pure_ (i := 5) (N := some 42) (v := ?_) (a' := ?_) #[true, false, true, true, true, true, false, false, false, false, false, false] rfl rfl (by kernel_rfl) (fun _ _ _ h => h) (Or.inl ⟨by rfl, ?_⟩) ?_ ?_
  rotate_left
  · intro w'
    go_simp
    with_reducible rfl
  rotate_left
  · simp only [Act.put, List.setIfInBounds_toArray, List.set_cons_zero, List.set_cons_succ, i64_w, i32_w]
    rfl
  refine one_ (i := 1) (N := some 38) #[true, true, true, true, true, true, false, false, false, false, false, false] rfl rfl (by kernel_rfl) (by decide) (fun K hK => ?_)
  refine goes_ Try.func47 (by kernel_rfl) rfl #[.agg #[.int .u64 (q : Int), .string p, .int .u64 x, .slice A len c]] (by rfl) rfl rfl (by simp only [List.map_toArray, List.map_cons, List.map_nil]; rfl) ?_
  with_reducible refine (HTR.out _ HQd.out.c).mono ?_
  rintro e w3 ⟨g3, vl3, vp3, rfl, hA3, hb⟩
  refine ⟨_, rfl, ?_⟩
  have HA3 := Lib.hid hA3
  have HQ1 := Lib.hid (HQd.out.below hb)
  clear hA3 hb
  refine hK.out _ _ ⟨(blk_cell HQ1.out.bx 0).trans rfl, (blk_cell HQ1.out.bx 1).trans rfl, (blk_cell HQ1.out.bx 2).trans rfl, (blk_cell HQ1.out.bx 3).trans rfl⟩ (fun hHeld => ?_)
  clear hK K
  refine norm_ (a' := ?_) ?_ ?_
  rotate_left
  · show Act.put _ (some 38) _ = _
    simp only [Act.put, List.setIfInBounds_toArray, List.set_cons_zero, List.set_cons_succ, i64_w, i32_w]
    rfl
  refine one_ (i := 6) (N := some 43) #[true, true, true, true, true, true, true, false, false, false, false, false] rfl rfl (by kernel_rfl) (by decide) (fun K hK => ?_)
  refine goes_ Try.func58 (by kernel_rfl) rfl #[.pointer (some ⟨g3, 0, none⟩), .int .i64 (i : Int), .int .i64 (len : Int)] (by rfl) rfl rfl (by simp only [List.map_toArray, List.map_cons, List.map_nil]; rfl) ?_
  with_reducible refine (pathAt_raw 2000 _ _ _ _ _ _ _ HA3.out (i : Int) (len : Int) W5 0 HP5.out).mono ?_
  rintro e w3 ⟨v5, rfl, hR5, hb⟩
  refine ⟨_, rfl, ?_⟩
  obtain ⟨A5, c5, ev5, hc5, hC5⟩ := Kd.R_reads hR5
  subst ev5
  rw [E5.out] at hC5 hc5 hR5 ⊢
  have HQ2 := Lib.hid (HQ1.out.below hb)
  have HC5 := Lib.hid hR5
  have HC := Lib.hid hc5
  clear hR5 hb hC5 hc5
  refine hK.out _ _ ⟨(blk_cell HQ2.out.bx 0).trans rfl, (blk_cell HQ2.out.bx 1).trans rfl, (blk_cell HQ2.out.bx 2).trans rfl, (blk_cell HQ2.out.bx 3).trans rfl⟩ (fun hHeld => ?_)
  clear hK K
  refine norm_ (a' := ?_) ?_ ?_
  rotate_left
  · show Act.put _ (some 43) _ = _
    simp only [Act.put, List.setIfInBounds_toArray, List.set_cons_zero, List.set_cons_succ, i64_w, i32_w]
    rfl
  refine pure_ (i := 7) (N := some 36) (v := ?_) (a' := ?_) #[true, true, true, true, true, true, true, true, false, false, false, false] rfl rfl (by kernel_rfl) (fun _ _ _ h => h) (Or.inl ⟨by rfl, ?_⟩) ?_ ?_
  rotate_left
  · intro w'
    go_simp
    with_reducible rfl
  rotate_left
  · simp only [Act.put, List.setIfInBounds_toArray, List.set_cons_zero, List.set_cons_succ, i64_w, i32_w]
    rfl
  refine pure_ (i := 8) (N := some 44) (v := ?_) (a' := ?_) #[true, true, true, true, true, true, true, true, true, false, false, false] rfl rfl (by kernel_rfl) (fun _ _ _ h => h) (Or.inl ⟨by rfl, ?_⟩) ?_ ?_
  rotate_left
  · intro w'
    go_simp
    with_reducible rfl
  rotate_left
  · simp only [Act.put, List.setIfInBounds_toArray, List.set_cons_zero, List.set_cons_succ, i64_w, i32_w]
    rfl
  refine pure_ (i := 9) (N := some 45) (v := ?_) (a' := ?_) #[true, true, true, true, true, true, true, true, true, true, false, false] rfl rfl (by kernel_rfl) (fun _ _ _ h => h) (Or.inl ⟨by rfl, ?_⟩) ?_ ?_
  rotate_left
  · intro w'
    go_simp
    with_reducible rfl
  rotate_left
  · simp only [Act.put, List.setIfInBounds_toArray, List.set_cons_zero, List.set_cons_succ, i64_w, i32_w]
    rfl
  refine pure_ (i := 10) (N := some 10) (v := ?_) (a' := ?_) #[true, true, true, true, true, true, true, true, true, true, true, false] rfl rfl (by kernel_rfl) (fun _ _ _ h => h) (Or.inl ⟨by rfl, ?_⟩) ?_ ?_
  rotate_left
  · intro w'
    go_simp
    with_reducible rfl
  rotate_left
  · simp only [Act.put, List.setIfInBounds_toArray, List.set_cons_zero, List.set_cons_succ, i64_w, i32_w]
    rfl
  refine pure_ (i := 11) (N := some 11) (v := ?_) (a' := ?_) #[true, true, true, true, true, true, true, true, true, true, true, true] rfl rfl (by kernel_rfl) (fun _ _ _ h => h) (Or.inl ⟨by rfl, ?_⟩) ?_ ?_
  rotate_left
  · intro w'
    go_simp
    with_reducible rfl
  rotate_left
  · simp only [Act.put, List.setIfInBounds_toArray, List.set_cons_zero, List.set_cons_succ, i64_w, i32_w]
    rfl
  refine done_ (by kernel_rfl) ?_
  clear HQ HQd HQ1 HA3 HTR HP5
  go_upto_region 9 with (go_at_call 58; refine (pathAt_raw 2000 _ _ _ _ _ _ _ HQ2.out.t (q : Int) (n : Int) W6 0 HP6.out).mono ?_; rintro e w4 ⟨v6, rfl, hR6, hb⟩; obtain ⟨A6, c6, ev6, hc6, hC6⟩ := Kd.R_reads hR6; subst ev6; rw [E6.out] at hC6 hc6 hR6 ⊢; have HQ3 := Lib.hid (HQ2.out.below hb); have HC5' := Lib.hid (Kd.R_below HC5.out hb); have HC6 := Lib.hid hR6; clear hR6 hb hC6)
  have b0 : w4.cell? ⟨w.heap.size, 0, none⟩ = some (.int .u64 (q : Int)) := (blk_cell HQ3.out.bx 0).trans rfl
  have b1 : w4.cell? ⟨w.heap.size, 1, none⟩ = some (.string p) := (blk_cell HQ3.out.bx 1).trans rfl
  have b2 : w4.cell? ⟨w.heap.size, 2, none⟩ = some (.int .u64 x) := (blk_cell HQ3.out.bx 2).trans rfl
  have b3 : w4.cell? ⟨w.heap.size, 3, none⟩ = some (.slice A len c) := (blk_cell HQ3.out.bx 3).trans rfl
  clear HQ2 HC5 HP6
  have y0 := (blk_cell HQ3.out.z 0).trans rfl
  have y1 := (blk_cell HQ3.out.z 1).trans rfl
  have y2 := (blk_cell HQ3.out.z 2).trans rfl
  have y3 := (blk_cell HQ3.out.z 3).trans rfl
  have y4 := (blk_cell HQ3.out.z 4).trans rfl
  have y5 := (blk_cell HQ3.out.z 5).trans rfl
  have y6 := (blk_cell HQ3.out.z 6).trans rfl
  have k0 := blk_frozen HQ3.out.z 0
  have k1 := blk_frozen HQ3.out.z 1
  have k2 := blk_frozen HQ3.out.z 2
  have k3 := blk_frozen HQ3.out.z 3
  have k4 := blk_frozen HQ3.out.z 4
  have k5 := blk_frozen HQ3.out.z 5
  have k6 := blk_frozen HQ3.out.z 6
  have HZ := Lib.hid HQ3.out.z
  have HB := Lib.hid HQ3.out.b
  have HTT := Lib.hid HQ3.out.t
  clear HQ3
  go_wp2_with fail
  have hsl : ∀ {α : Type} {d : Kd α} {e : Nat} {W : World} {base : Nat} {ok : Nat → Prop} {A' : Option Addr} {n' c' : Nat} {xs : List α}, d.R e W base ok (.slice A' n' c') xs → xs.length = n' → d.C W A' n' xs := by
    intro α d e W base ok A' n' c' xs h hn
    obtain ⟨A2, c2, e2, _, hc⟩ := Kd.R_reads h
    rw [hn] at e2 hc
    injection e2 with e2 _ _
    subst e2
    exact hc
  have hR5 := R_sets (g := w.heap.size + 1) (t := 53) (by decide) 0 [.int .u64 (q : Int), .string p, .int .u64 x, .int .i64 (i : Int), .int .i64 (len : Int), .slice A5 n5 c5, .slice A6 n6 c6] w4 _ HZ.out HC5'.out
  have hR6 := R_sets (g := w.heap.size + 1) (t := 53) (by decide) 0 [.int .u64 (q : Int), .string p, .int .u64 x, .int .i64 (i : Int), .int .i64 (len : Int), .slice A5 n5 c5, .slice A6 n6 c6] w4 _ HZ.out HC6.out
  have hBb := sets_below (q := w.heap.size + 1) (Nat.le_succ _) 0 [.int .u64 (q : Int), .string p, .int .u64 x, .int .i64 (i : Int), .int .i64 (len : Int), .slice A5 n5 c5, .slice A6 n6 c6] w4 HB.out
  exact bodyPost_ret (results_ct rfl _ _ (w.heap.size + 1) 53 _ (0, 0) _ rfl (blk_put (blk_put (blk_put (blk_put (blk_put (blk_put (blk_put HZ.out 0 _ rfl) 1 _ rfl) 2 _ rfl) 3 _ rfl) 4 _ rfl) 5 _ rfl) 6 _ rfl) Try.underlying53 rfl (by kernel_rfl)) rfl ⟨A5, c5, A6, c6, rfl, HC.out, hc6, hsl hR5 E5.out, hsl hR6 E6.out, hBb⟩
end Go.Proofs.Ytdcbacbilncnnaa.T
end
section
/- The laws' chain, walked. Written in part by regionwalk.py. -/
set_option linter.unusedVariables false
set_option linter.unusedSimpArgs false
namespace Go.Proofs.Ytdcbacbilncnnaa.T
open Go.RowKit Go.Proofs.Ytdcbacbilncnnaa.PMk Go.Proofs.Ytdcbacbilncnnaa.M Go.Proofs.Ytdcbacbilncnnaa.EncL Go.Proofs.YtdcbacbilncnnaaW.PrintWords Go.Proofs.YtdcbacbilncnnaaW.PrintLast
theorem hash_len (a0 : Int) (a1 : ByteArray) (a2 : Int) (A : Option Addr) (c n : Nat) (l : List S47) (h : ByteArray) (hl : l.length = n) (hh : bhash a0 a1 a2 l = h) (g : FitsB a0 a1 a2 l) (w : World) (hC : Kd.C k47 w A n l) :
    Calls Try.prog 14 #[.agg #[.int .u64 a0, .string a1, .int .u64 a2, .slice A n c]] w fun e w' => e = .returned (.string h) ∧ Below w.heap.size w w' := by
  subst hl
  subst hh
  exact hash_any a0 a1 a2 A c l g w hC
theorem R_lit0 (w : World) (base : Nat) (hb : base ≤ w.heap.size) : Kd.R k25 25 (w.alloc (.cells #[] 25 (0, 0))) base (fun _ => True) (.slice (some ⟨w.heap.size, 0, none⟩) 0 0) [] :=
  ⟨fun _ _ => trivial, OwnRow.lit w base (Reps.none _ _) hb (by simp)⟩
set_option maxRecDepth 100000 in
set_option maxHeartbeats 4000000 in
theorem chain_raw (A : Option Addr) (c : Nat) (zs : List Int) (w : World) (hC : Kd.C (Kd.int .i64) w A zs.length zs) :
    Calls Try.prog 26 #[.slice A zs.length c] w fun e w' => ∃ g vl vp vb, e = .returned (.tuple #[vb, .pointer (some ⟨g, 0, none⟩)]) ∧ Hid (CH w w' g vl vp vb (bks zs (min zs.length 8))) := by
  obtain ⟨len, hlen⟩ : ∃ n, zs.length = n := ⟨_, rfl⟩
  rw [hlen] at hC ⊢
  have HC := Lib.hid hC
  clear hC
  have HR0 := Lib.hid (R_lit0 w w.heap.size (Nat.le_refl _))
  have HB0 := Lib.hid ((Below.refl w.heap.size w).alloc (Nat.le_refl _) (.cells #[] 25 (0, 0)))
  clear hlen
  go_enter Try.func26, Try.ntmps26
  go_upto_region 2 with (go_at_call 55; refine (new_raw _).mono ?_; rintro e w1 ⟨g, rfl, hA, hb1⟩; have HA1 := Lib.hid (hA.less (b := w.heap.size) (by simp)); have HR1 := Lib.hid (Kd.R_below HR0.out hb1); have HB1 := Lib.hid (HB0.out.trans (hb1.mono (by simp))); clear hA hb1 HR0 HB0)
  have HQ0 : Hid (CH w w1 g (.slice none 0 0) (.slice none 0 0) (.slice (some ⟨w.heap.size, 0, none⟩) 0 0) (bks zs 0)) := Lib.hid ⟨by simpa [bks, pk_nil] using HA1.out, HR1.out, HB1.out⟩
  clear HA1 HR1 HB1
  obtain ⟨A0, hA0⟩ : ∃ A0 : Option Addr, (some ⟨w.heap.size, 0, none⟩ : Option Addr) = A0 := ⟨_, rfl⟩
  rw [hA0] at HQ0 ⊢
  clear hA0
  go_wp2_with fail
  go_loopw [4, 6, 7, 8] (fun v4 v6 v7 v8 wr => ∃ (i : Nat) (vl vp : Value) (A4 : Option Addr) (c4 : Nat), i ≤ len ∧ i ≤ 8 ∧ v8 = .int .i64 i ∧ v6 = .string (stC zs i).2 ∧ v7 = .int .u64 ((stC zs i).1 : Int) ∧ v4 = .slice A4 i c4 ∧ Hid (CH w wr g vl vp (.slice A4 i c4) (bks zs i))) (fun _ _ _ v8 _ => (8 - intOf v8).toNat)
  case atStart => exact ⟨0, _, _, A0, 0, Nat.zero_le _, by omega, rfl, rfl, rfl, rfl, HQ0⟩
  case round =>
    obtain ⟨i, vl, vp, A4, c4, hi1, hi8, rfl, rfl, rfl, rfl, HQ⟩ := hrel
    clear HQ0
    obtain ⟨wo, rfl⟩ : ∃ wo : World, wo = wr := ⟨_, rfl⟩
    by_cases h1 : i < len
    · have hd1 : decide ((i : Int) < (len : Int)) = true := decide_eq_true (by omega)
      by_cases h2 : i < 8
      · have hd2 : decide ((i : Int) < 8) = true := decide_eq_true (by omega)
        obtain ⟨ad, hA, hx0⟩ := Kd.at_int HC.out (i : Int) (by omega) (by omega)
        subst hA
        simp only [Int.toNat_natCast] at hx0
        obtain ⟨z, hz⟩ : ∃ z, rd zs (i : Int) = z := ⟨_, rfl⟩
        have hz' : zs.getD i 0 = z := by rw [← hz]; simp [rd]
        rw [hz] at hx0
        have hn := stC_n zs i
        have hp := stC_p zs i
        have hFB := bkC_fits zs i (by omega)
        have hbk : bkC zs i = blkC i (stC zs i).1 (stC zs i).2 z := by unfold bkC; rw [hz']
        have hst : stC zs (i + 1) = ((stC zs i).1 + cnt z, hsh (blkC i (stC zs i).1 (stC zs i).2 z)) := by simp only [stC]; rw [hz']
        have hsn := bks_snoc zs i
        rw [hbk] at hFB hsn
        have HST := Lib.hid hst
        have HFB := Lib.hid hFB
        have HSN2 := Lib.hid hsn
        clear hz hz' hst hFB hbk hsn
        generalize (stC zs i).1 = n0 at hn HST HFB HSN2 ⊢
        generalize (stC zs i).2 = p at hp HST HFB HSN2 ⊢
        have hw0 : IntKind.u64.wrap (i : Int) = (i : Int) := by rw [IntKind.wrap_u64]; omega
        have hw7 : IntKind.u64.wrap ((i : Int) + 7) = (i : Int) + 7 := by rw [IntKind.wrap_u64]; omega
        go_wp2_with fail
        have HI0 := Lib.hid (HQ.out.new (i : Int) p ((i : Int) + 7))
        have hx1 := (HQ.out.b.cell (World.block_lt_of_cell? w _ hx0)).trans hx0
        clear hx1 HQ
        generalize World.alloc _ _ = W1 at HI0 ⊢
        generalize wo.heap.size = gb at HI0 ⊢
        obtain ⟨m, hm⟩ : ∃ m, cnt z = m := ⟨_, rfl⟩
        have hm8 := cnt_le z
        have hm0 : ((m : Nat) : Int) ≤ z % 8 + 1 := by rw [← hm]; unfold cnt; omega
        have hm9 : z % 8 + 1 ≤ ((m : Nat) : Int) := by rw [← hm]; unfold cnt; omega
        rw [hm] at hm8
        go_loopw [7, 10] (fun v7 v10 wr => ∃ (k N cr : Nat) (Ar : Option Addr), k ≤ m ∧ v10 = .int .i64 k ∧ v7 = .int .u64 N ∧ N = n0 + k ∧ Hid (CI w wr g gb vl vp (.slice A4 i c4) (.slice Ar k cr) (bks zs i) ((bks zs i).map lf) (i : Int) p ((i : Int) + 7) (rvs n0 i k))) (fun _ v10 _ => (8 - intOf v10).toNat)
        case atStart => exact ⟨0, n0, 0, none, Nat.zero_le _, rfl, rfl, rfl, HI0⟩
        case round =>
          obtain ⟨k, N, cr, Ar, hk, rfl, rfl, hN, HI⟩ := hrel
          clear HI0
          have hx1 := (HI.out.b.cell (World.block_lt_of_cell? w _ hx0)).trans hx0
          have hand := and7 z
          by_cases h3 : k < m
          · have hd3 : decide ((k : Int) ≤ z % 8) = true := decide_eq_true (by omega)
            have hN1 : N < 1000 := by omega
            obtain ⟨vr, hvr⟩ : ∃ v, Value.slice Ar k cr = v := ⟨_, rfl⟩
            rw [hvr] at HI
            have HVR := Lib.hid hvr
            have q3 : wr.cell? ⟨gb, 3, none⟩ = some vr := (blk_cell HI.out.c 3).trans rfl
            have HRV := Lib.hid (fun w' => rev_any N i hN1 w')
            have HSN : Hid (rvs n0 i k ++ [rvC N i] = rvs n0 i (k + 1)) := Lib.hid (by rw [hN]; exact rvs_snoc n0 i k)
            have HNN := Lib.hid hN
            clear hN hvr
            have hrb : rvb N i = strOfNums [(N : Int) % 256, (i : Int) % 256] := rfl
            rw [hrb] at HRV
            clear hrb
            obtain ⟨y, hy⟩ : ∃ y, rvC N i = y := ⟨_, rfl⟩
            rw [hy] at HRV HSN
            clear hy
            have e1 : IntKind.u8.wrap (N : Int) = (N : Int) % 256 := IntKind.wrap_u8 _
            have e2 : IntKind.u8.wrap (i : Int) = (i : Int) % 256 := IntKind.wrap_u8 _
            go_upto_region 10 with fail
            refine start_ (n := 14) (S := fun w' => w'.cell? ⟨gb, 3, none⟩ = some vr) (ds := [11, 13]) #[false, false, false, false, false, false, false, false, false, false, false, false, false, false] (by kernel_rfl) rfl rfl (q3) (fun hHeld => ?_)
            refine pure_ (i := 0) (N := some 39) (v := ?_) (a' := ?_) #[true, false, false, false, false, false, false, false, false, false, false, false, false, false] rfl rfl (by kernel_rfl) (fun _ _ _ h => h) (Or.inl ⟨by rfl, ?_⟩) ?_ ?_
            rotate_left
            · intro w'
              go_simp
              with_reducible rfl
            rotate_left
            · simp only [Act.put, List.setIfInBounds_toArray, List.set_cons_zero, List.set_cons_succ, i64_w, i32_w]
              rfl
            refine pure_ (i := 2) (N := some 41) (v := ?_) (a' := ?_) #[true, false, true, false, false, false, false, false, false, false, false, false, false, false] rfl rfl (by kernel_rfl) (fun _ _ _ h => h) (Or.inl ⟨by rfl, ?_⟩) ?_ ?_
            rotate_left
            · intro w'
              go_simp
              with_reducible rfl
            rotate_left
            · simp only [Act.put, List.setIfInBounds_toArray, List.set_cons_zero, List.set_cons_succ, i64_w, i32_w]
              rfl
            refine pure_ (i := 3) (N := some 42) (v := ?_) (a' := ?_) #[true, false, true, true, false, false, false, false, false, false, false, false, false, false] rfl rfl (by kernel_rfl) (fun _ _ _ h => h) (Or.inl ⟨by rfl, ?_⟩) ?_ ?_
            rotate_left
            · intro w'
              go_simp
              with_reducible rfl
            rotate_left
            · simp only [Act.put, List.setIfInBounds_toArray, List.set_cons_zero, List.set_cons_succ, i64_w, i32_w]
              rfl
            refine pure_ (i := 4) (N := some 43) (v := ?_) (a' := ?_) #[true, false, true, true, true, false, false, false, false, false, false, false, false, false] rfl rfl (by kernel_rfl) (fun _ _ _ h => h) (Or.inl ⟨by rfl, ?_⟩) ?_ ?_
            rotate_left
            · intro w'
              go_simp
              with_reducible rfl
            rotate_left
            · simp only [Act.put, List.setIfInBounds_toArray, List.set_cons_zero, List.set_cons_succ, i64_w, i32_w]
              rfl
            refine pure_ (i := 5) (N := some 44) (v := ?_) (a' := ?_) #[true, false, true, true, true, true, false, false, false, false, false, false, false, false] rfl rfl (by kernel_rfl) (fun _ _ _ h => h) (Or.inl ⟨by rfl, ?_⟩) ?_ ?_
            rotate_left
            · intro w'
              go_simp
              with_reducible rfl
            rotate_left
            · simp only [Act.put, List.setIfInBounds_toArray, List.set_cons_zero, List.set_cons_succ, i64_w, i32_w]
              rfl
            refine pure_ (i := 6) (N := some 45) (v := ?_) (a' := ?_) #[true, false, true, true, true, true, true, false, false, false, false, false, false, false] rfl rfl (by kernel_rfl) (fun _ _ _ h => h) (Or.inl ⟨by rfl, ?_⟩) ?_ ?_
            rotate_left
            · intro w'
              go_simp
              with_reducible rfl
            rotate_left
            · simp only [Act.put, List.setIfInBounds_toArray, List.set_cons_zero, List.set_cons_succ, i64_w, i32_w]
              rfl
            refine take_ (i := 1) (N := some 40) (v := ?_) (a' := ?_) #[true, true, true, true, true, true, true, false, false, false, false, false, false, false] rfl rfl (by kernel_rfl) (fun _ _ _ h => h) (Or.inl ⟨by rfl, ?_⟩) hHeld ?_ ?_
            rotate_left
            · intro w' s0
              go_simp
              with_reducible rfl
            rotate_left
            · simp only [Act.put, List.setIfInBounds_toArray, List.set_cons_zero, List.set_cons_succ, i64_w, i32_w]
              rfl
            refine one_ (i := 7) (N := some 46) #[true, true, true, true, true, true, true, true, false, false, false, false, false, false] rfl rfl (by kernel_rfl) (by decide) (fun K hK => ?_)
            refine value_ (w1 := ?_) (v := ?_) (by rfl) rfl ?_ ?_
            rotate_left 2
            · go_simp
              constructor
              · rfl
              · rfl
            have HI7 : Hid (CI w (wr.alloc (.cells #[.int .u8 ((N : Int) % 256), .int .u8 ((i : Int) % 256)] 5 (0, 0))).drew g gb vl vp _ vr _ _ _ _ _ _) := Lib.hid (HI.out.below ((Below.refl _ _).alloc (Nat.le_refl _) _)).drew
            have ho := own_lit wr w.heap.size 5 .u8 [(N : Int) % 256, (i : Int) % 256] HI.out.b.size (by show (2 : Nat) ≤ 9223372036854775807; decide)
            have c8 := own_string (P := Try.prog) (w := (wr.alloc (.cells #[.int .u8 ((N : Int) % 256), .int .u8 ((i : Int) % 256)] 5 (0, 0))).drew) (n := 2) (v := .slice (some ⟨wr.heap.size, 0, none⟩) 2 2) (xs := [(N : Int) % 256, (i : Int) % 256]) (base := w.heap.size) Try.underlying99 Try.underlying5 Try.underlying9 ho
            clear ho
            refine hK.out _ _ ((blk_cell HI7.out.c 3).trans rfl) (fun hHeld => ?_)
            clear hK K
            refine norm_ (a' := ?_) ?_ ?_
            rotate_left
            · show Act.put _ (some 46) _ = _
              simp only [Act.put, List.setIfInBounds_toArray, List.set_cons_zero, List.set_cons_succ, i64_w, i32_w]
              rfl
            refine one_ (i := 8) (N := some 47) #[true, true, true, true, true, true, true, true, true, false, false, false, false, false] rfl rfl (by kernel_rfl) (by decide) (fun K hK => ?_)
            refine value_ (w1 := ?_) (v := ?_) (by rfl) rfl ?_ ?_
            rotate_left 2
            · go_simp
              constructor
              · rfl
              · rfl
            refine hK.out _ _ ((blk_cell HI7.out.c 3).trans rfl) (fun hHeld => ?_)
            clear hK K
            refine norm_ (a' := ?_) ?_ ?_
            rotate_left
            · show Act.put _ (some 47) _ = _
              simp only [Act.put, List.setIfInBounds_toArray, List.set_cons_zero, List.set_cons_succ, i64_w, i32_w]
              rfl
            refine one_ (i := 9) (N := some 48) #[true, true, true, true, true, true, true, true, true, true, false, false, false, false] rfl rfl (by kernel_rfl) (by decide) (fun K hK => ?_)
            refine goes_ Try.func29 (by kernel_rfl) rfl #[.int .u64 (N : Int), .string (strOfNums [(N : Int) % 256, (i : Int) % 256])] (by rfl) rfl rfl (by simp only [List.map_toArray, List.map_cons, List.map_nil]; rfl) ?_
            with_reducible refine (HRV.out _).mono ?_
            rintro e w3 ⟨rfl, hb⟩
            refine ⟨_, rfl, ?_⟩
            have HI9 := Lib.hid (HI7.out.below hb)
            clear hb
            refine hK.out _ _ ((blk_cell HI9.out.c 3).trans rfl) (fun hHeld => ?_)
            clear hK K
            refine norm_ (a' := ?_) ?_ ?_
            rotate_left
            · show Act.put _ (some 48) _ = _
              simp only [Act.put, List.setIfInBounds_toArray, List.set_cons_zero, List.set_cons_succ, i64_w, i32_w]
              rfl
            refine one_ (i := 10) (N := some 49) #[true, true, true, true, true, true, true, true, true, true, true, false, false, false] rfl rfl (by kernel_rfl) (by decide) (fun K hK => ?_)
            refine value_ (w1 := ?_) (v := ?_) (by rfl) rfl ?_ ?_
            rotate_left 2
            · go_simp
              constructor
              · rfl
              · rfl
            refine hK.out _ _ ((blk_cell (HI9.out.below ((Below.refl _ _).alloc (Nat.le_refl _) _)).c 3).trans rfl) (fun hHeld => ?_)
            clear hK K
            refine norm_ (a' := ?_) ?_ ?_
            rotate_left
            · show Act.put _ (some 49) _ = _
              simp only [Act.put, List.setIfInBounds_toArray, List.set_cons_zero, List.set_cons_succ, i64_w, i32_w]
              rfl
            refine last_ (i := 11) (N := some 50) #[true, true, true, true, true, true, true, true, true, true, true, true, false, false] rfl rfl (by kernel_rfl) (by decide) (fun K hK => ?_)
            refine Kd.R_append_step k47 (w0 := w) w.heap.size (by rfl) (.tmp 40) (.tmp 49) 23 47 _ 96 rfl Try.underlying23 info47 rfl (by decide) (by decide) vr (rvs n0 i k) y [.int .i64 y.f0, .string y.f1, .string y.f2, .int .u64 y.f3, .int .u64 y.f4, .string y.f5, .string y.f6, .bool y.f7] (fun _ => True) (fun _ => False) (by rfl) (by rfl) (k47_mkM _ _ _ y) (fun _ h => h.elim) (fun _ _ => trivial) HI9.out.rr HI9.out.b HI9.out.b.size (by rw [rvs_len]; omega) ?_
            intro v1 w4 hR4 hB4 hg4 hat4
            rw [HSN.out] at hR4
            obtain ⟨A1, c1, e1⟩ := Kd.R_slice hR4
            rw [rvs_len] at e1
            subst e1
            obtain ⟨hc4, hi4⟩ := HI9.out.app hR4 hB4 hg4 hat4
            have HI4 := Lib.hid hi4
            have q4 := (blk_cell hc4 3).trans rfl
            have qf4 := blk_frozen hc4 3
            clear hc4 hi4 hR4 hB4 hg4 hat4
            refine hK.out _ _ ?_
            clear hK K
            refine norm_ (a' := ?_) ?_ ?_
            rotate_left
            · show Act.put _ (some 50) _ = _
              simp only [Act.put, List.setIfInBounds_toArray, List.set_cons_zero, List.set_cons_succ, i64_w, i32_w]
              rfl
            refine pure_ (i := 12) (N := some 51) (v := ?_) (a' := ?_) #[true, true, true, true, true, true, true, true, true, true, true, true, true, false] rfl rfl (by kernel_rfl) (fun _ _ _ h => h) (Or.inl ⟨by rfl, ?_⟩) ?_ ?_
            rotate_left
            · intro w'
              go_simp
              with_reducible rfl
            rotate_left
            · simp only [Act.put, List.setIfInBounds_toArray, List.set_cons_zero, List.set_cons_succ, i64_w, i32_w]
              rfl
            refine last_ (i := 13) (N := none) #[true, true, true, true, true, true, true, true, true, true, true, true, true, true] rfl rfl (by kernel_rfl) (by decide) (fun K hK => ?_)
            refine skip_ (w1 := ?_) (by rfl) rfl ?_ ?_
            rotate_left
            · go_simp
              rfl
            refine hK.out _ _ ?_
            clear hK K
            refine done_ (by kernel_rfl) ?_
            go_wp2_with fail
            have hwN : IntKind.u64.wrap ((N : Int) + 1) = (N : Int) + 1 := by rw [IntKind.wrap_u64]; omega
            have hmz : intOf (Value.int .i64 (k : Int)) = (k : Int) := rfl
            go_roundw
            case rel => exact ⟨k + 1, N + 1, _, _, by omega, by go_num, by go_num, by have := HNN.out; omega, HI4⟩
            case measure => simp [intOf]; omega
          · obtain rfl : k = m := by omega
            have hd3 : decide ((k : Int) ≤ z % 8) = false := decide_eq_false (by omega)
            have c0 : wr.cell? ⟨gb, 0, none⟩ = some (.int .u64 (i : Int)) := (blk_cell HI.out.c 0).trans rfl
            have c1 : wr.cell? ⟨gb, 1, none⟩ = some (.string p) := (blk_cell HI.out.c 1).trans rfl
            have c2 : wr.cell? ⟨gb, 2, none⟩ = some (.int .u64 ((i : Int) + 7)) := (blk_cell HI.out.c 2).trans rfl
            have c3 : wr.cell? ⟨gb, 3, none⟩ = some (.slice Ar k cr) := (blk_cell HI.out.c 3).trans rfl
            have hlr := rvs_len n0 i k
            have HHL : Hid (∀ w', Below wr.heap.size wr w' → Calls Try.prog 14 #[.agg #[.int .u64 (i : Int), .string p, .int .u64 ((i : Int) + 7), .slice Ar k cr]] w' fun e w'' => e = .returned (.string (hsh (blkC i n0 p z))) ∧ Below w'.heap.size w' w'') := Lib.hid (fun w' hb => by
              refine hash_len _ _ _ Ar cr k (rvs n0 i k) _ hlr (by unfold hsh blkC; rw [hm]) ?_ w' (Kd.C_below ?_ hb)
              · have := HFB.out; unfold blkC at this; rw [hm] at this; exact this
              · obtain ⟨A', c', e, _, h⟩ := Kd.R_reads HI.out.rr
                rw [hlr] at e h
                injection e with e _ _
                subst e
                exact h)
            clear hlr
            obtain ⟨d, hd⟩ : ∃ d, hsh (blkC i n0 p z) = d := ⟨_, rfl⟩
            have hds : d.size = 32 := by rw [← hd]; exact hsh_size _
            rw [hd] at HHL HST
            have HAD := Lib.hid (fun w' hA => add_tree d w' w.heap.size g vl vp ((bks zs i).map lf) hA (lf_w32 _) (by omega) (by rw [List.length_map, bks_len]; omega))
            have hlfe : (bks zs i).map lf ++ [leaf d] = (bks zs (i + 1)).map lf := by rw [← HSN2.out, List.map_append, List.map_cons, List.map_nil]; unfold lf; rw [hd]
            have HLF := Lib.hid hlfe
            have HBL : Hid (bks zs i ++ [⟨(i : Int), p, (i : Int) + 7, rvs n0 i k⟩] = bks zs (i + 1)) := Lib.hid (by rw [← HSN2.out]; unfold blkC; rw [hm])
            have HN2 : Hid (N = n0 + cnt z) := Lib.hid (by rw [hm]; exact hN)
            clear hlfe hd hN hm
            go_upto_region 13 with (go_at_call 14; refine (HHL.out _ (Below.refl _ _)).mono ?_; rintro e w5 ⟨rfl, hb⟩; have HI5 := Lib.hid (HI.out.below hb); clear hb HHL c0 c1 c2 c3)
            go_upto_region 14 with (go_at_call 56; refine (HAD.out _ HI5.out.t).mono ?_; rintro e w6 ⟨rfl, vl6, vp6, hA, hs, _⟩; have HI6 := Lib.hid (HI5.out.step hA hs); clear hA hs HAD)
            clear hand
            rw [HLF.out] at HI6
            clear HLF HI HI5
            have c0 : w6.cell? ⟨gb, 0, none⟩ = some (.int .u64 (i : Int)) := (blk_cell HI6.out.c 0).trans rfl
            have c1 : w6.cell? ⟨gb, 1, none⟩ = some (.string p) := (blk_cell HI6.out.c 1).trans rfl
            have c2 : w6.cell? ⟨gb, 2, none⟩ = some (.int .u64 ((i : Int) + 7)) := (blk_cell HI6.out.c 2).trans rfl
            have c3 : w6.cell? ⟨gb, 3, none⟩ = some (.slice Ar k cr) := (blk_cell HI6.out.c 3).trans rfl
            obtain ⟨vb, hvb⟩ : ∃ v, Value.slice A4 i c4 = v := ⟨_, rfl⟩
            rw [hvb] at HI6
            have hvl : (i + 1) * 56 ≤ 140737488355328 := by omega
            have HR6 : Hid (Kd.R k25 25 w6 w.heap.size (fun _ => True) vb (bks zs i)) := Lib.hid (Kd.R_mono HI6.out.r (fun _ _ => trivial))
            have hblen := bks_len zs i
            go_wp2_with (at_builtin; refine Kd.R_append k25 (w0 := w) w.heap.size rfl (.tmp 59) (.tmp 61) 62 25 (.agg #[.int .u64 0, .string ⟨#[]⟩, .int .u64 0, .slice none 0 0]) 56 rfl Try.underlying62 info25 rfl (by decide) (by omega) vb (bks zs i) ⟨(i : Int), p, (i : Int) + 7, rvs n0 i k⟩ [.int .u64 (i : Int), .string p, .int .u64 ((i : Int) + 7), .slice Ar k cr] (fun _ => True) (fun k => some k ≠ vb.ownBlock) ?h1 ?h2 ?h3 ?h4 ?h5 ?h6 ?h7 ?h8 ?h9 ?_; (case h1 => exact hvb); (case h2 => first | (go_simp; done) | (go_simp; rfl)); (case h3 => exact k25_mkM HI6.out.apart); (case h4 => exact (fun _ hk => ⟨trivial, hk⟩)); (case h5 => exact (fun _ _ => trivial)); (case h6 => exact HR6.out); (case h7 => exact HI6.out.b); (case h8 => exact HI6.out.b.size); (case h9 => rw [hblen]; exact hvl); intro v1 w10 hR10 hB10 hg10 hat10; rw [HBL.out] at hR10; obtain ⟨A1, c1', ev1⟩ := Kd.R_slice hR10; rw [bks_len] at ev1; subst ev1; have HQ10 := Lib.hid (HI6.out.put hR10 hB10 hg10); clear hR10 hB10 hg10 hat10)
            go_roundw
            case rel => exact ⟨i + 1, vl6, vp6, A1, c1', by omega, by omega, by go_num, by rw [HST.out], by rw [HST.out, HN2.out], rfl, HQ10⟩
            case measure => simp [intOf]; omega
      · obtain rfl : i = 8 := by omega
        have hd2 : decide (((8 : Nat) : Int) < 8) = false := rfl
        go_wp2_with fail
        go_ret2
        rw [Nat.min_eq_right hi1]
        exact ⟨g, vl, vp, _, rfl, HQ⟩
    · obtain rfl : i = len := by omega
      have hd1 : decide ((i : Int) < (i : Int)) = false := decide_eq_false (by omega)
      go_wp2_with fail
      go_ret2
      rw [Nat.min_eq_left hi8]
      exact ⟨g, vl, vp, _, rfl, HQ⟩
end Go.Proofs.Ytdcbacbilncnnaa.T
end
section
/- The guard of the laws on proofs, walked. -/
set_option linter.unusedVariables false
set_option linter.unusedSimpArgs false
namespace Go.Proofs.Ytdcbacbilncnnaa.T
open Go.RowKit Go.Proofs.Ytdcbacbilncnnaa.PMk Go.Proofs.Ytdcbacbilncnnaa.M Go.Proofs.Ytdcbacbilncnnaa.EncS Go.Proofs.Ytdcbacbilncnnaa.EncL Go.Proofs.YtdcbacbilncnnaaW.PrintWords Go.Proofs.YtdcbacbilncnnaaW.PrintLast
theorem add_off (g n : Nat) : (⟨g, 0, none⟩ : Addr).add n = ⟨g, n, none⟩ := by
  unfold Addr.add
  split
  · next h => rw [h]
  · simp
/-- A block of the chain's. -/
theorem CH.at {w wr : World} {g : Nat} {vl vp vb : Value} {BL : List S25} (h : CH w wr g vl vp vb BL) (n : Nat) (hn : BL.length = n) (h0 : 0 < n) : ∃ g1 c1, vb = .slice (some ⟨g1, 0, none⟩) n c1 ∧ n ≤ c1 ∧ ∀ k, k < n → ∃ A2 c2, wr.cell? ⟨g1, k * 4, none⟩ = some (.int .u64 (BL.getD k z25).f0) ∧ wr.cell? ⟨g1, k * 4 + 1, none⟩ = some (.string (BL.getD k z25).f1) ∧
    wr.cell? ⟨g1, k * 4 + 2, none⟩ = some (.int .u64 (BL.getD k z25).f2) ∧ wr.cell? ⟨g1, k * 4 + 3, none⟩ = some (.slice A2 (BL.getD k z25).f3.length c2) ∧ (BL.getD k z25).f3.length ≤ c2 ∧ Kd.C k47 wr A2 (BL.getD k z25).f3.length (BL.getD k z25).f3 := by
  subst hn
  obtain ⟨A, c, e, hc, hC⟩ := Kd.R_reads h.r
  obtain ⟨inner, ho⟩ := Kd.R_own h.r
  rcases ho.2 with ⟨e2, _⟩ | ⟨g1, cap, cur, e2, _⟩
  · rw [e] at e2
    injection e2 with _ e3 _
    omega
  · rw [e] at e2
    injection e2 with e3 _ _
    subst e3
    refine ⟨g1, c, e, hc, fun k hk => ?_⟩
    obtain ⟨ad, c', e', _, hK, hc0⟩ := Kd.C_get hC z25 (k : Int) (by omega) (by omega)
    injection e' with e'
    subst e'
    obtain ⟨A', cp, rfl, h2, h3⟩ := k25_open hK
    have hc1 : ∀ j u, ([.int .u64 (BL.getD k z25).f0, .string (BL.getD k z25).f1, .int .u64 (BL.getD k z25).f2, .slice A' (BL.getD k z25).f3.length cp] : List Value)[j]? = some u → wr.cell? ⟨g1, k * 4 + j, none⟩ = some u := fun j u hu => by
      have := hc0 j u hu
      rw [add_off] at this
      exact this
    exact ⟨A', cp, hc1 0 _ rfl, hc1 1 _ rfl, hc1 2 _ rfl, hc1 3 _ rfl, h2, h3⟩
theorem lit2 (w : World) : Kd.C (Kd.int .i64) (w.alloc (.cells #[.int .i64 2, .int .i64 1] 3)) (some ⟨w.heap.size, 0, none⟩) 2 [2, 1] := by
  have ho := own_lit w w.heap.size 3 .i64 [2, 1] (Nat.le_refl _) (by show (2 : Nat) ≤ 9223372036854775807; decide)
  have hR : Kd.R (Kd.int .i64) 3 (w.alloc (.cells #[.int .i64 2, .int .i64 1] 3)) w.heap.size (fun _ => True) (.slice (some ⟨w.heap.size, 0, none⟩) 2 2) [2, 1] := Kd.R_of_own ho (fun _ _ => trivial)
  obtain ⟨A, c, e, _, hC⟩ := Kd.R_reads hR
  injection e with e _ _
  subst e
  exact hC
theorem chain2 (w : World) : Calls Try.prog 26 #[.slice (some ⟨w.heap.size, 0, none⟩) 2 2] (w.alloc (.cells #[.int .i64 2, .int .i64 1] 3)) fun e w' => ∃ g vl vp g1 c1, e = .returned (.tuple #[.slice (some ⟨g1, 0, none⟩) 2 c1, .pointer (some ⟨g, 0, none⟩)]) ∧ Hid (CH (w.alloc (.cells #[.int .i64 2, .int .i64 1] 3)) w' g vl vp (.slice (some ⟨g1, 0, none⟩) 2 c1) (bks [2, 1] 2)) := by
  refine (chain_raw (some ⟨w.heap.size, 0, none⟩) 2 [2, 1] _ (lit2 w)).mono ?_
  rintro e w' ⟨g, vl, vp, vb, rfl, h⟩
  obtain ⟨g1, c1, rfl, _⟩ := h.out.at 2 (bks_len _ _) (by decide)
  exact ⟨g, vl, vp, g1, c1, rfl, h⟩
theorem cell_to {w w1 : World} (hb : Below w.heap.size w w1) {a : Addr} {v : Value} (h : w.cell? a = some v) : w1.cell? a = some v := (hb.cell (World.block_lt_of_cell? _ _ h)).trans h
theorem verify_prf (d0 : Int) (d1 : ByteArray) (x : S47) (p : S53) (A5 : Option Addr) (n5 c5 : Nat) (A6 : Option Addr) (n6 c6 : Nat) (v : Int) (h5 : p.f5.length = n5) (h6 : p.f6.length = n6) (hc5 : n5 ≤ c5) (hc6 : n6 ≤ c6) (f : FitsV x p) (hv : vfy d0 d1 x p = v) (w : World) (hC5 : Kd.C Kd.string w A5 n5 p.f5) (hC6 : Kd.C Kd.string w A6 n6 p.f6) :
    Calls Try.prog 24 #[.agg #[.int .u64 d0, .string d1], .agg #[.int .i64 x.f0, .string x.f1, .string x.f2, .int .u64 x.f3, .int .u64 x.f4, .string x.f5, .string x.f6, .bool x.f7], .agg #[.int .u64 p.f0, .string p.f1, .int .u64 p.f2, .int .i64 p.f3, .int .i64 p.f4, .slice A5 n5 c5, .slice A6 n6 c6]] w fun e w' => e = .returned (.int .i64 v) ∧ Below w.heap.size w w' := by
  subst h5
  subst h6
  subst hv
  obtain ⟨k, e⟩ := (verify_ev d0 d1 x p f).rounds
  exact proof_Verify.calls k d0 d1 x.f0 x.f1 x.f2 x.f3 x.f4 x.f5 x.f6 x.f7 p.f0 p.f1 p.f2 p.f3 p.f4 A5 c5 p.f5 A6 c6 p.f6 _ w hC5 hc5 hC6 hc6 e
set_option maxRecDepth 100000 in
set_option maxHeartbeats 40000000 in
theorem awake22 (w : World) : Calls Try.prog 23 #[] w fun e w' => e = .returned (.bool true) ∧ Below w.heap.size w w' := by
  have HCH := Lib.hid (chain2 w)
  have HB0 := Lib.hid ((Below.refl w.heap.size w).alloc (Nat.le_refl _) (.cells #[.int .i64 2, .int .i64 1] 3))
  have hz0 : w.heap.size ≤ (w.alloc (.cells #[.int .i64 2, .int .i64 1] 3)).heap.size := by simp
  go_enter Try.func23, Try.ntmps23
  go_upto_region 2 with (go_at_call 26; refine HCH.out.mono ?_; rintro e w1 ⟨g, vl, vp, g1, c1, rfl, HQ⟩)
  have HB1 := Lib.hid (HB0.out.trans (HQ.out.b.mono hz0))
  clear HB0 hz0 HCH
  obtain ⟨g1', c1', e1, hc1, hat⟩ := HQ.out.at 2 (bks_len _ _) (by decide)
  obtain ⟨A2, c2, x0, x1, x2, x3, hc2, hC2⟩ := hat 0 (by decide)
  injection e1 with e1 _ e2
  injection e1 with e1
  injection e1 with e1 _ _
  subst e1
  subst e2
  clear hat
  rw [bks_at [2, 1] (show 0 < 2 by decide), bk0] at x0 x1 x2 x3 hc2 hC2
  replace x0 : w1.cell? ⟨g1, 0, none⟩ = some (.int .u64 0) := x0
  replace x1 : w1.cell? ⟨g1, 1, none⟩ = some (.string ⟨#[]⟩) := x1
  replace x2 : w1.cell? ⟨g1, 2, none⟩ = some (.int .u64 7) := x2
  replace x3 : w1.cell? ⟨g1, 3, none⟩ = some (.slice A2 3 c2) := x3
  replace hc2 : 3 ≤ c2 := hc2
  replace hC2 : Kd.C k47 w1 A2 3 (rvs 0 0 3) := hC2
  obtain ⟨R, hR⟩ : ∃ R, mroot (((bks [2, 1] 2).map lf).take 2) = R := ⟨_, rfl⟩
  have hL : ((bks [2, 1] 2).map lf).length = 2 := by rw [List.length_map, bks_len]
  have HOF : Hid (Calls Try.prog 27 #[.pointer (some ⟨g, 0, none⟩), .int .u64 2] w1 fun e w' => e = .returned (.tuple #[.agg #[.int .u64 2, .string R], .int .i64 0]) ∧ Below w1.heap.size w1 w') := Lib.hid (of_ok w1 _ g 2 vl vp _ _ HQ.out.t hL (by decide) (lf_w32 _) 2 R (by decide) hR)
  obtain ⟨n5, hn5⟩ : ∃ n, (prf [2, 1] 0 1 2 2).f5.length = n := ⟨_, rfl⟩
  obtain ⟨n6, hn6⟩ : ∃ n, (prf [2, 1] 0 1 2 2).f6.length = n := ⟨_, rfl⟩
  have HMK : Hid (∀ w', Below w1.heap.size w1 w' → Calls Try.prog 28 #[.pointer (some ⟨g, 0, none⟩), .agg #[.int .u64 0, .string ⟨#[]⟩, .int .u64 7, .slice A2 3 c2], .int .i64 1, .int .u64 2] w' fun e w2 => ∃ A5 c5 A6 c6, e = .returned (.tuple #[.agg #[.int .u64 0, .string ⟨#[]⟩, .int .u64 7, .int .i64 1, .int .i64 3, .slice A5 n5 c5, .slice A6 n6 c6], .int .i64 0]) ∧
      n5 ≤ c5 ∧ n6 ≤ c6 ∧ Kd.C Kd.string w2 A5 n5 (prf [2, 1] 0 1 2 2).f5 ∧ Kd.C Kd.string w2 A6 n6 (prf [2, 1] 0 1 2 2).f6 ∧ Below w'.heap.size w' w2) := Lib.hid (fun w' hb =>
    make_ok w' _ g 2 vl vp _ _ (HQ.out.t.below hb) hL (by decide) (lf_w32 _) 0 ⟨#[]⟩ 7 A2 3 c2 (rvs 0 0 3) (rvs_len _ _ _) (Kd.C_below hC2 hb) (rvs_fits _ _ _ (by decide)) (by decide) 1 2 n5 n6 (prf [2, 1] 0 1 2 2).f5 (prf [2, 1] 0 1 2 2).f6 (by decide) (by decide) (by decide) rfl rfl hn5 hn6)
  have HV1 := Lib.hid (fun A5 c5 A6 c6 h5 h6 w' => verify_prf 2 R (rvC 1 0) (prf [2, 1] 0 1 2 2) A5 n5 c5 A6 n6 c6 0 hn5 hn6 h5 h6 (prf_fits (by decide) (small_rvC 1 0) (rvC_fits 1 0 (by decide))) (hR ▸ shows [2, 1] 0 1 2 2 (by decide) (by decide) (by decide) (by decide) (rvC 1 0) rfl (chk_rvC 1 0)) w')
  have HV2 := Lib.hid (fun A5 c5 A6 c6 h5 h6 w' => verify_prf 2 R (rvC 2 0) (prf [2, 1] 0 1 2 2) A5 n5 c5 A6 n6 c6 80 hn5 hn6 h5 h6 (prf_fits (by decide) (small_rvC 2 0) (rvC_fits 2 0 (by decide))) (hR ▸ awake_not) w')
  obtain ⟨ad2, ea, y0, y1, y2, y3, y4, y5, y6, y7⟩ := at_T47 hC2 1 (by decide) (by decide)
  obtain ⟨ad3, eb, z0, z1, z2, z3, z4, z5, z6, z7⟩ := at_T47 hC2 2 (by decide) (by decide)
  subst ea
  injection eb with eb
  subst eb
  have ey : rd_T47 (rvs 0 0 3) 1 = rvC 1 0 := rfl
  have ez : rd_T47 (rvs 0 0 3) 2 = rvC 2 0 := rfl
  rw [ey] at y0 y1 y2 y3 y4 y5 y6 y7
  rw [ez] at z0 z1 z2 z3 z4 z5 z6 z7
  generalize rvC 1 0 = y at HV1 y0 y1 y2 y3 y4 y5 y6 y7
  generalize rvC 2 0 = z at HV2 z0 z1 z2 z3 z4 z5 z6 z7
  clear ey ez hR hL hn5 hn6 HQ hC2 hc2 hc1
  replace y0 : w1.cell? (⟨ad2.block, ad2.off + 8, none⟩) = some (.int .i64 y.f0) := y0
  replace y1 : w1.cell? (⟨ad2.block, ad2.off + 8 + 1, none⟩) = some (.string y.f1) := y1
  replace y2 : w1.cell? (⟨ad2.block, ad2.off + 8 + 2, none⟩) = some (.string y.f2) := y2
  replace y3 : w1.cell? (⟨ad2.block, ad2.off + 8 + 3, none⟩) = some (.int .u64 y.f3) := y3
  replace y4 : w1.cell? (⟨ad2.block, ad2.off + 8 + 4, none⟩) = some (.int .u64 y.f4) := y4
  replace y5 : w1.cell? (⟨ad2.block, ad2.off + 8 + 5, none⟩) = some (.string y.f5) := y5
  replace y6 : w1.cell? (⟨ad2.block, ad2.off + 8 + 6, none⟩) = some (.string y.f6) := y6
  replace y7 : w1.cell? (⟨ad2.block, ad2.off + 8 + 7, none⟩) = some (.bool y.f7) := y7
  replace z0 : w1.cell? (⟨ad2.block, ad2.off + 16, none⟩) = some (.int .i64 z.f0) := z0
  replace z1 : w1.cell? (⟨ad2.block, ad2.off + 16 + 1, none⟩) = some (.string z.f1) := z1
  replace z2 : w1.cell? (⟨ad2.block, ad2.off + 16 + 2, none⟩) = some (.string z.f2) := z2
  replace z3 : w1.cell? (⟨ad2.block, ad2.off + 16 + 3, none⟩) = some (.int .u64 z.f3) := z3
  replace z4 : w1.cell? (⟨ad2.block, ad2.off + 16 + 4, none⟩) = some (.int .u64 z.f4) := z4
  replace z5 : w1.cell? (⟨ad2.block, ad2.off + 16 + 5, none⟩) = some (.string z.f5) := z5
  replace z6 : w1.cell? (⟨ad2.block, ad2.off + 16 + 6, none⟩) = some (.string z.f6) := z6
  replace z7 : w1.cell? (⟨ad2.block, ad2.off + 16 + 7, none⟩) = some (.bool z.f7) := z7
  have HF := Lib.hid (⟨x0, x1, x2, x3, y0, y1, y2, y3, y4, y5, y6, y7, z0, z1, z2, z3, z4, z5, z6, z7⟩ : _ ∧ _ ∧ _ ∧ _ ∧ _ ∧ _ ∧ _ ∧ _ ∧ _ ∧ _ ∧ _ ∧ _ ∧ _ ∧ _ ∧ _ ∧ _ ∧ _ ∧ _ ∧ _ ∧ _)
  clear x0 x1 x2 x3 y0 y1 y2 y3 y4 y5 y6 y7 z0 z1 z2 z3 z4 z5 z6 z7
  go_upto_region 5 with (go_at_call 27; refine HOF.out.mono ?_; rintro e w2 ⟨rfl, hb⟩; have HD := Lib.hid (heap_alloc_new w2 (.cells #[.int .u64 2, .string R] 50 (0, 0))); have HB2 := Lib.hid (hb.alloc hb.size (.cells #[.int .u64 2, .string R] 50 (0, 0))); clear hb)
  clear HOF
  generalize w2.alloc (.cells #[.int .u64 2, .string R] 50 (0, 0)) = W2 at HD HB2 ⊢
  generalize w2.heap.size = gD at HD ⊢
  have x0 := cell_to HB2.out HF.out.1
  have x1 := cell_to HB2.out HF.out.2.1
  have x2 := cell_to HB2.out HF.out.2.2.1
  have x3 := cell_to HB2.out HF.out.2.2.2.1
  go_upto_region 6 with (go_at_call 28; refine (HMK.out _ HB2.out).mono ?_; rintro e w3 ⟨A5, c5, A6, c6, rfl, h5, h6, hC5, hC6, hb⟩; have HD3 := Lib.hid (blk_alloc (blk_below HD.out hb) (.cells #[.int .u64 0, .string ⟨#[]⟩, .int .u64 7, .int .i64 1, .int .i64 3, .slice A5 n5 c5, .slice A6 n6 c6] 53 (0, 0))); have HP := Lib.hid (heap_alloc_new w3 (.cells #[.int .u64 0, .string ⟨#[]⟩, .int .u64 7, .int .i64 1, .int .i64 3, .slice A5 n5 c5, .slice A6 n6 c6] 53 (0, 0))); have HB3 := Lib.hid ((HB2.out.trans (hb.mono HB2.out.size)).alloc (Nat.le_trans HB2.out.size hb.size) (.cells #[.int .u64 0, .string ⟨#[]⟩, .int .u64 7, .int .i64 1, .int .i64 3, .slice A5 n5 c5, .slice A6 n6 c6] 53 (0, 0))); have HA := Lib.hid (below_alloc (Below.refl w3.heap.size w3) (.cells #[.int .u64 0, .string ⟨#[]⟩, .int .u64 7, .int .i64 1, .int .i64 3, .slice A5 n5 c5, .slice A6 n6 c6] 53 (0, 0))); have HC5 := Lib.hid (Kd.C_below hC5 HA.out); have HC6 := Lib.hid (Kd.C_below hC6 HA.out); clear hb hC5 hC6 HA x0 x1 x2 x3)
  clear HMK HD HB2
  generalize w3.alloc (.cells #[.int .u64 0, .string ⟨#[]⟩, .int .u64 7, .int .i64 1, .int .i64 3, .slice A5 n5 c5, .slice A6 n6 c6] 53 (0, 0)) = W3 at HD3 HP HB3 HC5 HC6 ⊢
  generalize w3.heap.size = gP at HP ⊢
  have HV1' : Hid (∀ w', Kd.C Kd.string w' A5 n5 (prf [2, 1] 0 1 2 2).f5 → Kd.C Kd.string w' A6 n6 (prf [2, 1] 0 1 2 2).f6 → Calls Try.prog 24 #[.agg #[.int .u64 2, .string R], .agg #[.int .i64 y.f0, .string y.f1, .string y.f2, .int .u64 y.f3, .int .u64 y.f4, .string y.f5, .string y.f6, .bool y.f7], .agg #[.int .u64 0, .string ⟨#[]⟩, .int .u64 7, .int .i64 1, .int .i64 3, .slice A5 n5 c5, .slice A6 n6 c6]] w' fun e w2 => e = .returned (.int .i64 0) ∧ Below w'.heap.size w' w2) := Lib.hid (HV1.out A5 c5 A6 c6 h5 h6)
  have HV2' : Hid (∀ w', Kd.C Kd.string w' A5 n5 (prf [2, 1] 0 1 2 2).f5 → Kd.C Kd.string w' A6 n6 (prf [2, 1] 0 1 2 2).f6 → Calls Try.prog 24 #[.agg #[.int .u64 2, .string R], .agg #[.int .i64 z.f0, .string z.f1, .string z.f2, .int .u64 z.f3, .int .u64 z.f4, .string z.f5, .string z.f6, .bool z.f7], .agg #[.int .u64 0, .string ⟨#[]⟩, .int .u64 7, .int .i64 1, .int .i64 3, .slice A5 n5 c5, .slice A6 n6 c6]] w' fun e w2 => e = .returned (.int .i64 80) ∧ Below w'.heap.size w' w2) := Lib.hid (HV2.out A5 c5 A6 c6 h5 h6)
  clear HV1 HV2
  obtain ⟨_, _, _, x3, y0, y1, y2, y3, y4, y5, y6, y7, z0, z1, z2, z3, z4, z5, z6, z7⟩ := HF.out
  replace x3 := cell_to HB3.out x3
  replace y0 := cell_to HB3.out y0
  replace y1 := cell_to HB3.out y1
  replace y2 := cell_to HB3.out y2
  replace y3 := cell_to HB3.out y3
  replace y4 := cell_to HB3.out y4
  replace y5 := cell_to HB3.out y5
  replace y6 := cell_to HB3.out y6
  replace y7 := cell_to HB3.out y7
  replace z0 := cell_to HB3.out z0
  replace z1 := cell_to HB3.out z1
  replace z2 := cell_to HB3.out z2
  replace z3 := cell_to HB3.out z3
  replace z4 := cell_to HB3.out z4
  replace z5 := cell_to HB3.out z5
  replace z6 := cell_to HB3.out z6
  replace z7 := cell_to HB3.out z7
  have d0 : W3.cell? ⟨gD, 0, none⟩ = some (.int .u64 2) := (blk_cell HD3.out 0).trans rfl
  have d1 : W3.cell? ⟨gD, 1, none⟩ = some (.string R) := (blk_cell HD3.out 1).trans rfl
  have p0 : W3.cell? ⟨gP, 0, none⟩ = some (.int .u64 0) := (blk_cell HP.out 0).trans rfl
  have p1 : W3.cell? ⟨gP, 1, none⟩ = some (.string ⟨#[]⟩) := (blk_cell HP.out 1).trans rfl
  have p2 : W3.cell? ⟨gP, 2, none⟩ = some (.int .u64 7) := (blk_cell HP.out 2).trans rfl
  have p3 : W3.cell? ⟨gP, 3, none⟩ = some (.int .i64 1) := (blk_cell HP.out 3).trans rfl
  have p4 : W3.cell? ⟨gP, 4, none⟩ = some (.int .i64 3) := (blk_cell HP.out 4).trans rfl
  have p5 : W3.cell? ⟨gP, 5, none⟩ = some (.slice A5 n5 c5) := (blk_cell HP.out 5).trans rfl
  have p6 : W3.cell? ⟨gP, 6, none⟩ = some (.slice A6 n6 c6) := (blk_cell HP.out 6).trans rfl
  clear HF HD3 HP
  refine start_ (n := 31) (S := fun w' => w'.cell? ⟨g1, 3, none⟩ = some (.slice (some ad2) 3 c2) ∧ w'.cell? (⟨ad2.block, ad2.off + 8, none⟩) = some (.int .i64 y.f0) ∧ w'.cell? (⟨ad2.block, ad2.off + 8 + 1, none⟩) = some (.string y.f1) ∧ w'.cell? (⟨ad2.block, ad2.off + 8 + 2, none⟩) = some (.string y.f2) ∧ w'.cell? (⟨ad2.block, ad2.off + 8 + 3, none⟩) = some (.int .u64 y.f3) ∧ w'.cell? (⟨ad2.block, ad2.off + 8 + 4, none⟩) = some (.int .u64 y.f4) ∧ w'.cell? (⟨ad2.block, ad2.off + 8 + 5, none⟩) = some (.string y.f5) ∧ w'.cell? (⟨ad2.block, ad2.off + 8 + 6, none⟩) = some (.string y.f6) ∧ w'.cell? (⟨ad2.block, ad2.off + 8 + 7, none⟩) = some (.bool y.f7) ∧ w'.cell? (⟨ad2.block, ad2.off + 16, none⟩) = some (.int .i64 z.f0) ∧ w'.cell? (⟨ad2.block, ad2.off + 16 + 1, none⟩) = some (.string z.f1) ∧ w'.cell? (⟨ad2.block, ad2.off + 16 + 2, none⟩) = some (.string z.f2) ∧ w'.cell? (⟨ad2.block, ad2.off + 16 + 3, none⟩) = some (.int .u64 z.f3) ∧ w'.cell? (⟨ad2.block, ad2.off + 16 + 4, none⟩) = some (.int .u64 z.f4) ∧ w'.cell? (⟨ad2.block, ad2.off + 16 + 5, none⟩) = some (.string z.f5) ∧ w'.cell? (⟨ad2.block, ad2.off + 16 + 6, none⟩) = some (.string z.f6) ∧ w'.cell? (⟨ad2.block, ad2.off + 16 + 7, none⟩) = some (.bool z.f7) ∧ w'.cell? ⟨gD, 0, none⟩ = some (.int .u64 2) ∧ w'.cell? ⟨gD, 1, none⟩ = some (.string R) ∧ w'.cell? ⟨gP, 0, none⟩ = some (.int .u64 0) ∧ w'.cell? ⟨gP, 1, none⟩ = some (.string ⟨#[]⟩) ∧ w'.cell? ⟨gP, 2, none⟩ = some (.int .u64 7) ∧ w'.cell? ⟨gP, 3, none⟩ = some (.int .i64 1) ∧ w'.cell? ⟨gP, 4, none⟩ = some (.int .i64 3) ∧ w'.cell? ⟨gP, 5, none⟩ = some (.slice A5 n5 c5) ∧ w'.cell? ⟨gP, 6, none⟩ = some (.slice A6 n6 c6)) (ds := []) #[false, false, false, false, false, false, false, false, false, false, false, false, false, false, false, false, false, false, false, false, false, false, false, false, false, false, false, false, false, false, false] (by kernel_rfl) rfl rfl ⟨x3, y0, y1, y2, y3, y4, y5, y6, y7, z0, z1, z2, z3, z4, z5, z6, z7, d0, d1, p0, p1, p2, p3, p4, p5, p6⟩ (fun hHeld => ?_)
  refine pure_ (i := 0) (N := some 28) (v := ?_) (a' := ?_) #[true, false, false, false, false, false, false, false, false, false, false, false, false, false, false, false, false, false, false, false, false, false, false, false, false, false, false, false, false, false, false] rfl rfl (by kernel_rfl) (fun _ _ _ h => h) (Or.inl ⟨by rfl, ?_⟩) ?_ ?_
  rotate_left
  · intro w'
    go_simp
    with_reducible rfl
  rotate_left
  · simp only [Act.put, List.setIfInBounds_toArray, List.set_cons_zero, List.set_cons_succ, i64_w, i32_w]
    rfl
  refine pure_ (i := 1) (N := some 29) (v := ?_) (a' := ?_) #[true, true, false, false, false, false, false, false, false, false, false, false, false, false, false, false, false, false, false, false, false, false, false, false, false, false, false, false, false, false, false] rfl rfl (by kernel_rfl) (fun _ _ _ h => h) (Or.inl ⟨by rfl, ?_⟩) ?_ ?_
  rotate_left
  · intro w'
    go_simp
    with_reducible rfl
  rotate_left
  · simp only [Act.put, List.setIfInBounds_toArray, List.set_cons_zero, List.set_cons_succ, i64_w, i32_w]
    rfl
  refine pure_ (i := 2) (N := some 30) (v := ?_) (a' := ?_) #[true, true, true, false, false, false, false, false, false, false, false, false, false, false, false, false, false, false, false, false, false, false, false, false, false, false, false, false, false, false, false] rfl rfl (by kernel_rfl) (fun _ _ _ h => h) (Or.inl ⟨by rfl, ?_⟩) ?_ ?_
  rotate_left
  · intro w'
    go_simp
    with_reducible rfl
  rotate_left
  · simp only [Act.put, List.setIfInBounds_toArray, List.set_cons_zero, List.set_cons_succ, i64_w, i32_w]
    rfl
  refine pure_ (i := 3) (N := some 31) (v := ?_) (a' := ?_) #[true, true, true, true, false, false, false, false, false, false, false, false, false, false, false, false, false, false, false, false, false, false, false, false, false, false, false, false, false, false, false] rfl rfl (by kernel_rfl) (fun _ _ _ h => h) (Or.inl ⟨by rfl, ?_⟩) ?_ ?_
  rotate_left
  · intro w'
    go_simp
    with_reducible rfl
  rotate_left
  · simp only [Act.put, List.setIfInBounds_toArray, List.set_cons_zero, List.set_cons_succ, i64_w, i32_w]
    rfl
  refine pure_ (i := 4) (N := some 32) (v := ?_) (a' := ?_) #[true, true, true, true, true, false, false, false, false, false, false, false, false, false, false, false, false, false, false, false, false, false, false, false, false, false, false, false, false, false, false] rfl rfl (by kernel_rfl) (fun _ _ _ h => h) (Or.inl ⟨by rfl, ?_⟩) ?_ ?_
  rotate_left
  · intro w'
    go_simp
    with_reducible rfl
  rotate_left
  · simp only [Act.put, List.setIfInBounds_toArray, List.set_cons_zero, List.set_cons_succ, i64_w, i32_w]
    rfl
  refine pure_ (i := 5) (N := some 33) (v := ?_) (a' := ?_) #[true, true, true, true, true, true, false, false, false, false, false, false, false, false, false, false, false, false, false, false, false, false, false, false, false, false, false, false, false, false, false] rfl rfl (by kernel_rfl) (fun _ _ _ h => h) (Or.inl ⟨by rfl, ?_⟩) ?_ ?_
  rotate_left
  · intro w'
    go_simp
    with_reducible rfl
  rotate_left
  · simp only [Act.put, List.setIfInBounds_toArray, List.set_cons_zero, List.set_cons_succ, i64_w, i32_w]
    rfl
  refine pure_ (i := 6) (N := some 34) (v := ?_) (a' := ?_) #[true, true, true, true, true, true, true, false, false, false, false, false, false, false, false, false, false, false, false, false, false, false, false, false, false, false, false, false, false, false, false] rfl rfl (by kernel_rfl) (fun _ _ _ h => h) (Or.inl ⟨by rfl, ?_⟩) ?_ ?_
  rotate_left
  · intro w'
    go_simp
    with_reducible rfl
  rotate_left
  · simp only [Act.put, List.setIfInBounds_toArray, List.set_cons_zero, List.set_cons_succ, i64_w, i32_w]
    rfl
  refine pure_ (i := 8) (N := some 36) (v := ?_) (a' := ?_) #[true, true, true, true, true, true, true, false, true, false, false, false, false, false, false, false, false, false, false, false, false, false, false, false, false, false, false, false, false, false, false] rfl rfl (by kernel_rfl) (fun _ _ _ h => h) (Or.inl ⟨by rfl, ?_⟩) ?_ ?_
  rotate_left
  · intro w'
    go_simp
    with_reducible rfl
  rotate_left
  · simp only [Act.put, List.setIfInBounds_toArray, List.set_cons_zero, List.set_cons_succ, i64_w, i32_w]
    rfl
  refine pure_ (i := 9) (N := some 37) (v := ?_) (a' := ?_) #[true, true, true, true, true, true, true, false, true, true, false, false, false, false, false, false, false, false, false, false, false, false, false, false, false, false, false, false, false, false, false] rfl rfl (by kernel_rfl) (fun _ _ _ h => h) (Or.inl ⟨by rfl, ?_⟩) ?_ ?_
  rotate_left
  · intro w'
    go_simp
    with_reducible rfl
  rotate_left
  · simp only [Act.put, List.setIfInBounds_toArray, List.set_cons_zero, List.set_cons_succ, i64_w, i32_w]
    rfl
  refine pure_ (i := 10) (N := some 38) (v := ?_) (a' := ?_) #[true, true, true, true, true, true, true, false, true, true, true, false, false, false, false, false, false, false, false, false, false, false, false, false, false, false, false, false, false, false, false] rfl rfl (by kernel_rfl) (fun _ _ _ h => h) (Or.inl ⟨by rfl, ?_⟩) ?_ ?_
  rotate_left
  · intro w'
    go_simp
    with_reducible rfl
  rotate_left
  · simp only [Act.put, List.setIfInBounds_toArray, List.set_cons_zero, List.set_cons_succ, i64_w, i32_w]
    rfl
  refine take_ (i := 7) (N := some 35) (v := ?_) (a' := ?_) #[true, true, true, true, true, true, true, true, true, true, true, false, false, false, false, false, false, false, false, false, false, false, false, false, false, false, false, false, false, false, false] rfl rfl (by kernel_rfl) (fun _ _ _ h => h) (Or.inl ⟨by rfl, ?_⟩) hHeld ?_ ?_
  rotate_left
  · rintro w' ⟨s0, s1, s2, s3, s4, s5, s6, s7, s8, s9, s10, s11, s12, s13, s14, s15, s16, s17, s18, s19, s20, s21, s22, s23, s24, s25⟩
    go_simp
    with_reducible rfl
  rotate_left
  · simp only [Act.put, List.setIfInBounds_toArray, List.set_cons_zero, List.set_cons_succ, i64_w, i32_w]
    rfl
  refine take_ (i := 11) (N := some 39) (v := ?_) (a' := ?_) #[true, true, true, true, true, true, true, true, true, true, true, true, false, false, false, false, false, false, false, false, false, false, false, false, false, false, false, false, false, false, false] rfl rfl (by kernel_rfl) (fun _ _ _ h => h) (Or.inl ⟨by rfl, ?_⟩) hHeld ?_ ?_
  rotate_left
  · rintro w' ⟨s0, s1, s2, s3, s4, s5, s6, s7, s8, s9, s10, s11, s12, s13, s14, s15, s16, s17, s18, s19, s20, s21, s22, s23, s24, s25⟩
    go_simp
    with_reducible rfl
  rotate_left
  · simp only [Act.put, List.setIfInBounds_toArray, List.set_cons_zero, List.set_cons_succ, i64_w, i32_w]
    rfl
  refine pure_ (i := 12) (N := some 40) (v := ?_) (a' := ?_) #[true, true, true, true, true, true, true, true, true, true, true, true, true, false, false, false, false, false, false, false, false, false, false, false, false, false, false, false, false, false, false] rfl rfl (by kernel_rfl) (fun _ _ _ h => h) (Or.inl ⟨by rfl, ?_⟩) ?_ ?_
  rotate_left
  · intro w'
    go_simp
    with_reducible rfl
  rotate_left
  · simp only [Act.put, List.setIfInBounds_toArray, List.set_cons_zero, List.set_cons_succ, i64_w, i32_w]
    rfl
  refine take_ (i := 13) (N := some 41) (v := ?_) (a' := ?_) #[true, true, true, true, true, true, true, true, true, true, true, true, true, true, false, false, false, false, false, false, false, false, false, false, false, false, false, false, false, false, false] rfl rfl (by kernel_rfl) (fun _ _ _ h => h) (Or.inl ⟨by rfl, ?_⟩) hHeld ?_ ?_
  rotate_left
  · rintro w' ⟨s0, s1, s2, s3, s4, s5, s6, s7, s8, s9, s10, s11, s12, s13, s14, s15, s16, s17, s18, s19, s20, s21, s22, s23, s24, s25⟩
    go_simp
    with_reducible rfl
  rotate_left
  · simp only [Act.put, List.setIfInBounds_toArray, List.set_cons_zero, List.set_cons_succ, i64_w, i32_w]
    rfl
  refine take_ (i := 14) (N := some 42) (v := ?_) (a' := ?_) #[true, true, true, true, true, true, true, true, true, true, true, true, true, true, true, false, false, false, false, false, false, false, false, false, false, false, false, false, false, false, false] rfl rfl (by kernel_rfl) (fun _ _ _ h => h) (Or.inl ⟨by rfl, ?_⟩) hHeld ?_ ?_
  rotate_left
  · rintro w' ⟨s0, s1, s2, s3, s4, s5, s6, s7, s8, s9, s10, s11, s12, s13, s14, s15, s16, s17, s18, s19, s20, s21, s22, s23, s24, s25⟩
    go_simp
    with_reducible rfl
  rotate_left
  · simp only [Act.put, List.setIfInBounds_toArray, List.set_cons_zero, List.set_cons_succ, i64_w, i32_w]
    rfl
  refine one_ (i := 15) (N := some 43) #[true, true, true, true, true, true, true, true, true, true, true, true, true, true, true, true, false, false, false, false, false, false, false, false, false, false, false, false, false, false, false] rfl rfl (by kernel_rfl) (by decide) (fun K hK => ?_)
  refine goes_ Try.func24 (by kernel_rfl) rfl #[.agg #[.int .u64 2, .string R], .agg #[.int .i64 y.f0, .string y.f1, .string y.f2, .int .u64 y.f3, .int .u64 y.f4, .string y.f5, .string y.f6, .bool y.f7], .agg #[.int .u64 0, .string ⟨#[]⟩, .int .u64 7, .int .i64 1, .int .i64 3, .slice A5 n5 c5, .slice A6 n6 c6]] (by rfl) rfl rfl (by simp only [List.map_toArray, List.map_cons, List.map_nil]; rfl) ?_
  with_reducible refine (HV1'.out _ (Kd.C_below HC5.out (below_drew (Below.refl _ _))) (Kd.C_below HC6.out (below_drew (Below.refl _ _)))).mono ?_
  rintro e w3 ⟨rfl, hb⟩
  refine ⟨_, rfl, ?_⟩
  have hb' : Below W3.heap.size W3 w3 := ⟨hb.os, hb.tape, hb.output, hb.size, hb.block⟩
  have HB4 := Lib.hid (HB3.out.trans (hb'.mono HB3.out.size))
  have HC5' := Lib.hid (Kd.C_below HC5.out hb')
  have HC6' := Lib.hid (Kd.C_below HC6.out hb')
  replace x3 := cell_to hb' x3
  replace y0 := cell_to hb' y0
  replace y1 := cell_to hb' y1
  replace y2 := cell_to hb' y2
  replace y3 := cell_to hb' y3
  replace y4 := cell_to hb' y4
  replace y5 := cell_to hb' y5
  replace y6 := cell_to hb' y6
  replace y7 := cell_to hb' y7
  replace z0 := cell_to hb' z0
  replace z1 := cell_to hb' z1
  replace z2 := cell_to hb' z2
  replace z3 := cell_to hb' z3
  replace z4 := cell_to hb' z4
  replace z5 := cell_to hb' z5
  replace z6 := cell_to hb' z6
  replace z7 := cell_to hb' z7
  replace d0 := cell_to hb' d0
  replace d1 := cell_to hb' d1
  replace p0 := cell_to hb' p0
  replace p1 := cell_to hb' p1
  replace p2 := cell_to hb' p2
  replace p3 := cell_to hb' p3
  replace p4 := cell_to hb' p4
  replace p5 := cell_to hb' p5
  replace p6 := cell_to hb' p6
  clear hb hb' HC5 HC6
  refine hK.out _ _ ⟨x3, y0, y1, y2, y3, y4, y5, y6, y7, z0, z1, z2, z3, z4, z5, z6, z7, d0, d1, p0, p1, p2, p3, p4, p5, p6⟩ (fun hHeld => ?_)
  clear hK K
  refine norm_ (a' := ?_) ?_ ?_
  rotate_left
  · show Act.put _ (some 43) _ = _
    simp only [Act.put, List.setIfInBounds_toArray, List.set_cons_zero, List.set_cons_succ, i64_w, i32_w]
    rfl
  refine pure_ (i := 16) (N := some 44) (v := ?_) (a' := ?_) #[true, true, true, true, true, true, true, true, true, true, true, true, true, true, true, true, true, false, false, false, false, false, false, false, false, false, false, false, false, false, false] rfl rfl (by kernel_rfl) (fun _ _ _ h => h) (Or.inl ⟨by rfl, ?_⟩) ?_ ?_
  rotate_left
  · intro w'
    go_simp
    with_reducible rfl
  rotate_left
  · simp only [Act.put, List.setIfInBounds_toArray, List.set_cons_zero, List.set_cons_succ, i64_w, i32_w]
    rfl
  refine pure_ (i := 17) (N := some 45) (v := ?_) (a' := ?_) #[true, true, true, true, true, true, true, true, true, true, true, true, true, true, true, true, true, true, false, false, false, false, false, false, false, false, false, false, false, false, false] rfl rfl (by kernel_rfl) (fun _ _ _ h => h) (Or.inl ⟨by rfl, ?_⟩) ?_ ?_
  rotate_left
  · intro w'
    go_simp
    with_reducible rfl
  rotate_left
  · simp only [Act.put, List.setIfInBounds_toArray, List.set_cons_zero, List.set_cons_succ, i64_w, i32_w]
    rfl
  refine pure_ (i := 18) (N := some 46) (v := ?_) (a' := ?_) #[true, true, true, true, true, true, true, true, true, true, true, true, true, true, true, true, true, true, true, false, false, false, false, false, false, false, false, false, false, false, false] rfl rfl (by kernel_rfl) (fun _ _ _ h => h) (Or.inl ⟨by rfl, ?_⟩) ?_ ?_
  rotate_left
  · intro w'
    go_simp
    with_reducible rfl
  rotate_left
  · simp only [Act.put, List.setIfInBounds_toArray, List.set_cons_zero, List.set_cons_succ, i64_w, i32_w]
    rfl
  refine pure_ (i := 20) (N := some 48) (v := ?_) (a' := ?_) #[true, true, true, true, true, true, true, true, true, true, true, true, true, true, true, true, true, true, true, false, true, false, false, false, false, false, false, false, false, false, false] rfl rfl (by kernel_rfl) (fun _ _ _ h => h) (Or.inl ⟨by rfl, ?_⟩) ?_ ?_
  rotate_left
  · intro w'
    go_simp
    with_reducible rfl
  rotate_left
  · simp only [Act.put, List.setIfInBounds_toArray, List.set_cons_zero, List.set_cons_succ, i64_w, i32_w]
    rfl
  refine pure_ (i := 21) (N := some 49) (v := ?_) (a' := ?_) #[true, true, true, true, true, true, true, true, true, true, true, true, true, true, true, true, true, true, true, false, true, true, false, false, false, false, false, false, false, false, false] rfl rfl (by kernel_rfl) (fun _ _ _ h => h) (Or.inl ⟨by rfl, ?_⟩) ?_ ?_
  rotate_left
  · intro w'
    go_simp
    with_reducible rfl
  rotate_left
  · simp only [Act.put, List.setIfInBounds_toArray, List.set_cons_zero, List.set_cons_succ, i64_w, i32_w]
    rfl
  refine pure_ (i := 22) (N := some 50) (v := ?_) (a' := ?_) #[true, true, true, true, true, true, true, true, true, true, true, true, true, true, true, true, true, true, true, false, true, true, true, false, false, false, false, false, false, false, false] rfl rfl (by kernel_rfl) (fun _ _ _ h => h) (Or.inl ⟨by rfl, ?_⟩) ?_ ?_
  rotate_left
  · intro w'
    go_simp
    with_reducible rfl
  rotate_left
  · simp only [Act.put, List.setIfInBounds_toArray, List.set_cons_zero, List.set_cons_succ, i64_w, i32_w]
    rfl
  refine take_ (i := 19) (N := some 47) (v := ?_) (a' := ?_) #[true, true, true, true, true, true, true, true, true, true, true, true, true, true, true, true, true, true, true, true, true, true, true, false, false, false, false, false, false, false, false] rfl rfl (by kernel_rfl) (fun _ _ _ h => h) (Or.inl ⟨by rfl, ?_⟩) hHeld ?_ ?_
  rotate_left
  · rintro w' ⟨s0, s1, s2, s3, s4, s5, s6, s7, s8, s9, s10, s11, s12, s13, s14, s15, s16, s17, s18, s19, s20, s21, s22, s23, s24, s25⟩
    go_simp
    with_reducible rfl
  rotate_left
  · simp only [Act.put, List.setIfInBounds_toArray, List.set_cons_zero, List.set_cons_succ, i64_w, i32_w]
    rfl
  refine take_ (i := 23) (N := some 51) (v := ?_) (a' := ?_) #[true, true, true, true, true, true, true, true, true, true, true, true, true, true, true, true, true, true, true, true, true, true, true, true, false, false, false, false, false, false, false] rfl rfl (by kernel_rfl) (fun _ _ _ h => h) (Or.inl ⟨by rfl, ?_⟩) hHeld ?_ ?_
  rotate_left
  · rintro w' ⟨s0, s1, s2, s3, s4, s5, s6, s7, s8, s9, s10, s11, s12, s13, s14, s15, s16, s17, s18, s19, s20, s21, s22, s23, s24, s25⟩
    go_simp
    with_reducible rfl
  rotate_left
  · simp only [Act.put, List.setIfInBounds_toArray, List.set_cons_zero, List.set_cons_succ, i64_w, i32_w]
    rfl
  refine pure_ (i := 24) (N := some 52) (v := ?_) (a' := ?_) #[true, true, true, true, true, true, true, true, true, true, true, true, true, true, true, true, true, true, true, true, true, true, true, true, true, false, false, false, false, false, false] rfl rfl (by kernel_rfl) (fun _ _ _ h => h) (Or.inl ⟨by rfl, ?_⟩) ?_ ?_
  rotate_left
  · intro w'
    go_simp
    with_reducible rfl
  rotate_left
  · simp only [Act.put, List.setIfInBounds_toArray, List.set_cons_zero, List.set_cons_succ, i64_w, i32_w]
    rfl
  refine take_ (i := 25) (N := some 53) (v := ?_) (a' := ?_) #[true, true, true, true, true, true, true, true, true, true, true, true, true, true, true, true, true, true, true, true, true, true, true, true, true, true, false, false, false, false, false] rfl rfl (by kernel_rfl) (fun _ _ _ h => h) (Or.inl ⟨by rfl, ?_⟩) hHeld ?_ ?_
  rotate_left
  · rintro w' ⟨s0, s1, s2, s3, s4, s5, s6, s7, s8, s9, s10, s11, s12, s13, s14, s15, s16, s17, s18, s19, s20, s21, s22, s23, s24, s25⟩
    go_simp
    with_reducible rfl
  rotate_left
  · simp only [Act.put, List.setIfInBounds_toArray, List.set_cons_zero, List.set_cons_succ, i64_w, i32_w]
    rfl
  refine take_ (i := 26) (N := some 54) (v := ?_) (a' := ?_) #[true, true, true, true, true, true, true, true, true, true, true, true, true, true, true, true, true, true, true, true, true, true, true, true, true, true, true, false, false, false, false] rfl rfl (by kernel_rfl) (fun _ _ _ h => h) (Or.inl ⟨by rfl, ?_⟩) hHeld ?_ ?_
  rotate_left
  · rintro w' ⟨s0, s1, s2, s3, s4, s5, s6, s7, s8, s9, s10, s11, s12, s13, s14, s15, s16, s17, s18, s19, s20, s21, s22, s23, s24, s25⟩
    go_simp
    with_reducible rfl
  rotate_left
  · simp only [Act.put, List.setIfInBounds_toArray, List.set_cons_zero, List.set_cons_succ, i64_w, i32_w]
    rfl
  refine one_ (i := 27) (N := some 55) #[true, true, true, true, true, true, true, true, true, true, true, true, true, true, true, true, true, true, true, true, true, true, true, true, true, true, true, true, false, false, false] rfl rfl (by kernel_rfl) (by decide) (fun K hK => ?_)
  refine goes_ Try.func24 (by kernel_rfl) rfl #[.agg #[.int .u64 2, .string R], .agg #[.int .i64 z.f0, .string z.f1, .string z.f2, .int .u64 z.f3, .int .u64 z.f4, .string z.f5, .string z.f6, .bool z.f7], .agg #[.int .u64 0, .string ⟨#[]⟩, .int .u64 7, .int .i64 1, .int .i64 3, .slice A5 n5 c5, .slice A6 n6 c6]] (by rfl) rfl rfl (by simp only [List.map_toArray, List.map_cons, List.map_nil]; rfl) ?_
  with_reducible refine (HV2'.out _ HC5'.out HC6'.out).mono ?_
  rintro e w4 ⟨rfl, hb⟩
  refine ⟨_, rfl, ?_⟩
  have HB5 := Lib.hid (HB4.out.trans (hb.mono HB4.out.size))
  replace x3 := cell_to hb x3
  replace y0 := cell_to hb y0
  replace y1 := cell_to hb y1
  replace y2 := cell_to hb y2
  replace y3 := cell_to hb y3
  replace y4 := cell_to hb y4
  replace y5 := cell_to hb y5
  replace y6 := cell_to hb y6
  replace y7 := cell_to hb y7
  replace z0 := cell_to hb z0
  replace z1 := cell_to hb z1
  replace z2 := cell_to hb z2
  replace z3 := cell_to hb z3
  replace z4 := cell_to hb z4
  replace z5 := cell_to hb z5
  replace z6 := cell_to hb z6
  replace z7 := cell_to hb z7
  replace d0 := cell_to hb d0
  replace d1 := cell_to hb d1
  replace p0 := cell_to hb p0
  replace p1 := cell_to hb p1
  replace p2 := cell_to hb p2
  replace p3 := cell_to hb p3
  replace p4 := cell_to hb p4
  replace p5 := cell_to hb p5
  replace p6 := cell_to hb p6
  clear hb
  refine hK.out _ _ ⟨x3, y0, y1, y2, y3, y4, y5, y6, y7, z0, z1, z2, z3, z4, z5, z6, z7, d0, d1, p0, p1, p2, p3, p4, p5, p6⟩ (fun hHeld => ?_)
  clear hK K
  refine norm_ (a' := ?_) ?_ ?_
  rotate_left
  · show Act.put _ (some 55) _ = _
    simp only [Act.put, List.setIfInBounds_toArray, List.set_cons_zero, List.set_cons_succ, i64_w, i32_w]
    rfl
  refine pure_ (i := 28) (N := some 56) (v := ?_) (a' := ?_) #[true, true, true, true, true, true, true, true, true, true, true, true, true, true, true, true, true, true, true, true, true, true, true, true, true, true, true, true, true, false, false] rfl rfl (by kernel_rfl) (fun _ _ _ h => h) (Or.inl ⟨by rfl, ?_⟩) ?_ ?_
  rotate_left
  · intro w'
    go_simp
    with_reducible rfl
  rotate_left
  · simp only [Act.put, List.setIfInBounds_toArray, List.set_cons_zero, List.set_cons_succ, i64_w, i32_w]
    rfl
  refine pure_ (i := 29) (N := some 57) (v := ?_) (a' := ?_) #[true, true, true, true, true, true, true, true, true, true, true, true, true, true, true, true, true, true, true, true, true, true, true, true, true, true, true, true, true, true, false] rfl rfl (by kernel_rfl) (fun _ _ _ h => h) (Or.inl ⟨by rfl, ?_⟩) ?_ ?_
  rotate_left
  · intro w'
    go_simp
    with_reducible rfl
  rotate_left
  · simp only [Act.put, List.setIfInBounds_toArray, List.set_cons_zero, List.set_cons_succ, i64_w, i32_w]
    rfl
  refine pure_ (i := 30) (N := some 0) (v := ?_) (a' := ?_) #[true, true, true, true, true, true, true, true, true, true, true, true, true, true, true, true, true, true, true, true, true, true, true, true, true, true, true, true, true, true, true] rfl rfl (by kernel_rfl) (fun _ _ _ h => h) (Or.inl ⟨by rfl, ?_⟩) ?_ ?_
  rotate_left
  · intro w'
    go_simp
    with_reducible rfl
  rotate_left
  · simp only [Act.put, List.setIfInBounds_toArray, List.set_cons_zero, List.set_cons_succ, i64_w, i32_w]
    rfl
  refine done_ (by kernel_rfl) ?_
  go_wp2_with fail
  go_ret
  exact ⟨rfl, HB1.out.trans (HB5.out.mono HB1.out.size)⟩
end Go.Proofs.Ytdcbacbilncnnaa.T
end
section
/- The laws' answer, 'want', walked. Written by wip/genww.py. -/
set_option linter.unusedVariables false
set_option linter.unusedSimpArgs false
namespace Go.Proofs.Ytdcbacbilncnnaa.T
open Go.RowKit Go.Proofs.Ytdcbacbilncnnaa.PMk Go.Proofs.Ytdcbacbilncnnaa.M Go.Proofs.Ytdcbacbilncnnaa.EncS Go.Proofs.Ytdcbacbilncnnaa.EncL Go.Proofs.YtdcbacbilncnnaaW.PrintWords Go.Proofs.YtdcbacbilncnnaaW.PrintLast
/-- The three variables. -/
structure WQ (w wr : World) (q3 q4 q5 : Nat) (d0 : Int) (d1 : ByteArray) (x : S47) (p0 : Int) (p1 : ByteArray) (p2 p3 p4 : Int) (A5 : Option Addr) (n5 c5 : Nat) (A6 : Option Addr) (n6 c6 : Nat) (l5 l6 : List ByteArray) : Prop where
  h3 : wr.heap[q3]? = some (.cells #[.int .i64 x.f0, .string x.f1, .string x.f2, .int .u64 x.f3, .int .u64 x.f4, .string x.f5, .string x.f6, .bool x.f7] 44 (0, 0))
  h4 : wr.heap[q4]? = some (.cells #[.int .u64 p0, .string p1, .int .u64 p2, .int .i64 p3, .int .i64 p4, .slice A5 n5 c5, .slice A6 n6 c6] 53 (0, 0))
  h5 : wr.heap[q5]? = some (.cells #[.int .u64 d0, .string d1] 50 (0, 0))
  k5 : Kd.C Kd.string wr A5 n5 l5
  k6 : Kd.C Kd.string wr A6 n6 l6
  b : Below w.heap.size w wr
theorem WQ.below {w wr w1 : World} {q3 q4 q5 : Nat} {d0 : Int} {d1 : ByteArray} {x : S47} {p0 : Int} {p1 : ByteArray} {p2 p3 p4 : Int} {A5 : Option Addr} {n5 c5 : Nat} {A6 : Option Addr} {n6 c6 : Nat} {l5 l6 : List ByteArray} (h : WQ w wr q3 q4 q5 d0 d1 x p0 p1 p2 p3 p4 A5 n5 c5 A6 n6 c6 l5 l6) (hb : Below wr.heap.size wr w1) : WQ w w1 q3 q4 q5 d0 d1 x p0 p1 p2 p3 p4 A5 n5 c5 A6 n6 c6 l5 l6 :=
  ⟨blk_below h.h3 hb, blk_below h.h4 hb, blk_below h.h5 hb, Kd.C_below h.k5 hb, Kd.C_below h.k6 hb, h.b.trans (hb.mono h.b.size)⟩
theorem lclimb_any (m n : Int) (h : ByteArray) (A : Option Addr) (c t : Nat) (l : List ByteArray) (ht : l.length = t) (hh : h.size = 32) (h1 : 1 ≤ n) (h2 : n ≤ 2147483648) (h0 : 0 ≤ m) (hm : m < n) (hl : t < 2147483648) (hc : t ≤ c) :
    ∃ r b, ((b = true ∧ way h m.toNat n.toNat l = some r) ∨ (b = false ∧ way h m.toNat n.toNat l = none)) ∧ r.size ≤ 32 ∧ ∀ w, Kd.C Kd.string w A t l → Calls Try.prog 52 #[.string h, .int .i64 m, .int .i64 n, .slice A t c] w fun e w' => e = .returned (.tuple #[.string r, .bool b]) ∧ Below w.heap.size w w' := by
  subst ht
  obtain ⟨r, b, e, c1, u1, z1⟩ := lclimb_ev n.toNat m.toNat h l hh (by omega) (by omega) (by omega) hl
  rw [Int.toNat_of_nonneg h0, Int.toNat_of_nonneg (by omega)] at e
  obtain ⟨k, e⟩ := e.rounds
  exact ⟨r, b, way_cases c1 u1, z1, fun w hC => parchmentlaw22_climb.calls k h m n A c l r b w hC hc e⟩
set_option maxRecDepth 100000 in
set_option maxHeartbeats 40000000 in
theorem want_raw (d0 : Int) (d1 : ByteArray) (x : S47) (p0 : Int) (p1 : ByteArray) (p2 p3 p4 : Int) (A5 : Option Addr) (n5 c5 : Nat) (A6 : Option Addr) (n6 c6 : Nat) (l5 l6 : List ByteArray) (w : World) (hl5 : l5.length = n5) (hl6 : l6.length = n6) (hc5 : n5 ≤ c5) (hc6 : n6 ≤ c6) (hn5 : n5 < 1000000) (hn6 : n6 < 1000000) (hC5 : Kd.C Kd.string w A5 n5 l5) (hC6 : Kd.C Kd.string w A6 n6 l6) (f : FitsV x ⟨p0, p1, p2, p3, p4, l5, l6⟩) (g : d0 < 18446744073709551616) :
    Calls Try.prog 25 #[.agg #[.int .u64 d0, .string d1, .int .i64 x.f0, .string x.f1, .string x.f2, .int .u64 x.f3, .int .u64 x.f4, .string x.f5, .string x.f6, .bool x.f7, .int .u64 p0, .string p1, .int .u64 p2, .int .i64 p3, .int .i64 p4, .slice A5 n5 c5, .slice A6 n6 c6]] w fun e w' => e = .returned (.int .i64 (vfy d0 d1 x ⟨p0, p1, p2, p3, p4, l5, l6⟩)) ∧ Below w.heap.size w w' := by
  obtain ⟨V, hV⟩ : ∃ v, vfy d0 d1 x ⟨p0, p1, p2, p3, p4, l5, l6⟩ = v := ⟨_, rfl⟩
  rw [hV]
  have HV := Lib.hid hV
  have HF := Lib.hid f
  clear hV
  obtain ⟨k0, e0⟩ := (r_check x f.s).rounds
  have HCK := Lib.hid (fun w' => parchmentref09_Check.calls k0 x.f0 x.f1 x.f2 x.f3 x.f4 x.f5 x.f6 x.f7 _ w' e0)
  clear e0
  have HC5 := Lib.hid hC5
  have HC6 := Lib.hid hC6
  have HL5 := Lib.hid hl5
  have HL6 := Lib.hid hl6
  have hp0 := f.p0
  have hq0 := f.q0
  have hq1 := f.q1
  clear hC5 hC6 hl5 hl6 f
  change 0 ≤ p0 at hp0
  change 0 ≤ p2 at hq0
  change p2 < 18446744073709551616 at hq1
  go_enter Try.func25, Try.ntmps25
  go_upto_region 1 with fail
  have BK := Lib.hid (heap_alloc_new w (.cells #[.int .u64 d0, .string d1, .int .i64 x.f0, .string x.f1, .string x.f2, .int .u64 x.f3, .int .u64 x.f4, .string x.f5, .string x.f6, .bool x.f7, .int .u64 p0, .string p1, .int .u64 p2, .int .i64 p3, .int .i64 p4, .slice A5 n5 c5, .slice A6 n6 c6] 55 (0, 0)))
  have HB := Lib.hid ((Below.refl w.heap.size w).alloc (Nat.le_refl _) (.cells #[.int .u64 d0, .string d1, .int .i64 x.f0, .string x.f1, .string x.f2, .int .u64 x.f3, .int .u64 x.f4, .string x.f5, .string x.f6, .bool x.f7, .int .u64 p0, .string p1, .int .u64 p2, .int .i64 p3, .int .i64 p4, .slice A5 n5 c5, .slice A6 n6 c6] 55))
  refine want_r1 d0 d1 x p0 p1 p2 p3 p4 A5 n5 c5 A6 n6 c6 w.heap.size _ (by kernel_rfl) BK.out ?_
  intro q3 q4 q5 v10 v11 v12 v13 v14 v15 v16 W i3 i4 i5 ib
  have HQ : Hid (WQ w W q3 q4 q5 d0 d1 x p0 p1 p2 p3 p4 A5 n5 c5 A6 n6 c6 l5 l6) := Lib.hid ⟨i3, i4, i5, Kd.C_below (Kd.C_below HC5.out HB.out) ib, Kd.C_below (Kd.C_below HC6.out HB.out) ib, HB.out.trans (ib.mono (by simp))⟩
  clear i3 i4 i5 ib BK HB HC5 HC6
  unfold fr25
  have g30 : W.cell? ⟨q3, 0, none⟩ = some (.int .i64 x.f0) := (blk_cell HQ.out.h3 0).trans rfl
  have g31 : W.cell? ⟨q3, 1, none⟩ = some (.string x.f1) := (blk_cell HQ.out.h3 1).trans rfl
  have g32 : W.cell? ⟨q3, 2, none⟩ = some (.string x.f2) := (blk_cell HQ.out.h3 2).trans rfl
  have g33 : W.cell? ⟨q3, 3, none⟩ = some (.int .u64 x.f3) := (blk_cell HQ.out.h3 3).trans rfl
  have g34 : W.cell? ⟨q3, 4, none⟩ = some (.int .u64 x.f4) := (blk_cell HQ.out.h3 4).trans rfl
  have g35 : W.cell? ⟨q3, 5, none⟩ = some (.string x.f5) := (blk_cell HQ.out.h3 5).trans rfl
  have g36 : W.cell? ⟨q3, 6, none⟩ = some (.string x.f6) := (blk_cell HQ.out.h3 6).trans rfl
  have g37 : W.cell? ⟨q3, 7, none⟩ = some (.bool x.f7) := (blk_cell HQ.out.h3 7).trans rfl
  have hcc := chk_cases x
  obtain ⟨cx, hcx⟩ : ∃ c, chk x = c := ⟨_, rfl⟩
  rw [hcx] at HCK hcc
  have HCX := Lib.hid hcx
  clear hcx
  go_upto_region 2 with fail
  go_cut [25] (fun v25 wc => Hid (WQ w wc q3 q4 q5 d0 d1 x p0 p1 p2 p3 p4 A5 n5 c5 A6 n6 c6 l5 l6) ∧ v25 = .bool (decide (¬ (cx = 0 ∧ d1.size = 32))))
  case first =>
    rcases hcc with rfl | rfl
    · by_cases hs : d1.size = 32
      · have hs1 : ((d1.size : Int) != 32) = false := by simp [hs]
        have hs2 : (d1.size != 32) = false := by simp [hs]
        go_wp2_with (go_at_call 39; refine (HCK.out _).mono ?_; rintro e w2 ⟨rfl, hb⟩; have HQ2 := Lib.hid (HQ.out.below hb); have g51 : w2.cell? ⟨q5, 1, none⟩ = some (.string d1) := (blk_cell HQ2.out.h5 1).trans rfl; clear hb)
        go_meet
        case rel => exact ⟨HQ2, by simp [hs]⟩
      · have hs1 : ((d1.size : Int) != 32) = true := by simpa using fun e => hs (by omega)
        have hs2 : (d1.size != 32) = true := by simpa using hs
        go_wp2_with (go_at_call 39; refine (HCK.out _).mono ?_; rintro e w2 ⟨rfl, hb⟩; have HQ2 := Lib.hid (HQ.out.below hb); have g51 : w2.cell? ⟨q5, 1, none⟩ = some (.string d1) := (blk_cell HQ2.out.h5 1).trans rfl; clear hb)
        go_meet
        case rel => exact ⟨HQ2, by simp [hs]⟩
    · go_wp2_with (go_at_call 39; refine (HCK.out _).mono ?_; rintro e w2 ⟨rfl, hb⟩; have HQ2 := Lib.hid (HQ.out.below hb); clear hb)
      go_meet
      case rel => exact ⟨HQ2, by simp⟩
  clear g30 g31 g32 g33 g34 g35 g36 g37 HQ HCK
  obtain ⟨HQ, rfl⟩ := hcut
  by_cases hA : cx = 0 ∧ d1.size = 32
  · obtain ⟨rfl, hs⟩ := hA
    have hd : decide (¬ ((0 : Int) = 0 ∧ d1.size = 32)) = false := by simp [hs]
    rw [hd]
    clear hd hcc
    have HS := Lib.hid hs
    clear hs
    rename_i wc
    obtain ⟨wc, rfl⟩ : ∃ w' : World, w' = wc := ⟨_, rfl⟩
    have g50 : wc.cell? ⟨q5, 0, none⟩ = some (.int .u64 d0) := (blk_cell HQ.out.h5 0).trans rfl
    have g40 : wc.cell? ⟨q4, 0, none⟩ = some (.int .u64 p0) := (blk_cell HQ.out.h4 0).trans rfl
    have g41 : wc.cell? ⟨q4, 1, none⟩ = some (.string p1) := (blk_cell HQ.out.h4 1).trans rfl
    have g43 : wc.cell? ⟨q4, 3, none⟩ = some (.int .i64 p3) := (blk_cell HQ.out.h4 3).trans rfl
    have g44 : wc.cell? ⟨q4, 4, none⟩ = some (.int .i64 p4) := (blk_cell HQ.out.h4 4).trans rfl
    have g45 : wc.cell? ⟨q4, 5, none⟩ = some (.slice A5 n5 c5) := (blk_cell HQ.out.h4 5).trans rfl
    have g46 : wc.cell? ⟨q4, 6, none⟩ = some (.slice A6 n6 c6) := (blk_cell HQ.out.h4 6).trans rfl
    go_upto_region 4 with fail
    go_cut [80] (fun v80 wx => wx = wc ∧ v80 = .bool (decide (¬ pguard d0 ⟨p0, p1, p2, p3, p4, l5, l6⟩)))
    case first =>
      have hl5 := HL5.out
      have hl6 := HL6.out
      by_cases a0 : d0 < 1
      · have e0 : decide (d0 < 1) = true := decide_eq_true a0
        have hp : ¬ pguard d0 ⟨p0, p1, p2, p3, p4, l5, l6⟩ := by unfold pguard; simp only []; omega
        have HP := Lib.hid (decide_eq_true hp)
        clear hp hl5 hl6
        go_wp2_with fail
        go_meet
        case rel => exact ⟨rfl, by rw [HP.out]⟩
      have e0 : decide (d0 < 1) = false := decide_eq_false a0
      by_cases a1 : (2147483648 : Int) < d0
      · have e1 : decide ((2147483648 : Int) < d0) = true := decide_eq_true a1
        have hp : ¬ pguard d0 ⟨p0, p1, p2, p3, p4, l5, l6⟩ := by unfold pguard; simp only []; omega
        have HP := Lib.hid (decide_eq_true hp)
        clear hp hl5 hl6
        go_wp2_with fail
        go_meet
        case rel => exact ⟨rfl, by rw [HP.out]⟩
      have e1 : decide ((2147483648 : Int) < d0) = false := decide_eq_false a1
      by_cases a2 : d0 ≤ p0
      · have e2 : decide (d0 ≤ p0) = true := decide_eq_true a2
        have hp : ¬ pguard d0 ⟨p0, p1, p2, p3, p4, l5, l6⟩ := by unfold pguard; simp only []; omega
        have HP := Lib.hid (decide_eq_true hp)
        clear hp hl5 hl6
        go_wp2_with fail
        go_meet
        case rel => exact ⟨rfl, by rw [HP.out]⟩
      have e2 : decide (d0 ≤ p0) = false := decide_eq_false a2
      by_cases a3 : p4 < 1
      · have e3 : decide (p4 < 1) = true := decide_eq_true a3
        have hp : ¬ pguard d0 ⟨p0, p1, p2, p3, p4, l5, l6⟩ := by unfold pguard; simp only []; omega
        have HP := Lib.hid (decide_eq_true hp)
        clear hp hl5 hl6
        go_wp2_with fail
        go_meet
        case rel => exact ⟨rfl, by rw [HP.out]⟩
      have e3 : decide (p4 < 1) = false := decide_eq_false a3
      by_cases a4 : (64 : Int) < p4
      · have e4 : decide ((64 : Int) < p4) = true := decide_eq_true a4
        have hp : ¬ pguard d0 ⟨p0, p1, p2, p3, p4, l5, l6⟩ := by unfold pguard; simp only []; omega
        have HP := Lib.hid (decide_eq_true hp)
        clear hp hl5 hl6
        go_wp2_with fail
        go_meet
        case rel => exact ⟨rfl, by rw [HP.out]⟩
      have e4 : decide ((64 : Int) < p4) = false := decide_eq_false a4
      by_cases a5 : p3 < 0
      · have e5 : decide (p3 < 0) = true := decide_eq_true a5
        have hp : ¬ pguard d0 ⟨p0, p1, p2, p3, p4, l5, l6⟩ := by unfold pguard; simp only []; omega
        have HP := Lib.hid (decide_eq_true hp)
        clear hp hl5 hl6
        go_wp2_with fail
        go_meet
        case rel => exact ⟨rfl, by rw [HP.out]⟩
      have e5 : decide (p3 < 0) = false := decide_eq_false a5
      by_cases a6 : p4 ≤ p3
      · have e6 : decide (p4 ≤ p3) = true := decide_eq_true a6
        have hp : ¬ pguard d0 ⟨p0, p1, p2, p3, p4, l5, l6⟩ := by unfold pguard; simp only []; omega
        have HP := Lib.hid (decide_eq_true hp)
        clear hp hl5 hl6
        go_wp2_with fail
        go_meet
        case rel => exact ⟨rfl, by rw [HP.out]⟩
      have e6 : decide (p4 ≤ p3) = false := decide_eq_false a6
      by_cases a7 : (32 : Int) < (p1.size : Int)
      · have e7 : decide ((32 : Int) < (p1.size : Int)) = true := decide_eq_true a7
        have f7 : decide (32 < p1.size) = true := decide_eq_true (by omega)
        have hp : ¬ pguard d0 ⟨p0, p1, p2, p3, p4, l5, l6⟩ := by unfold pguard; simp only []; omega
        have HP := Lib.hid (decide_eq_true hp)
        clear hp hl5 hl6
        go_wp2_with fail
        go_meet
        case rel => exact ⟨rfl, by rw [HP.out]⟩
      have e7 : decide ((32 : Int) < (p1.size : Int)) = false := decide_eq_false a7
      have f7 : decide (32 < p1.size) = false := decide_eq_false (by omega)
      by_cases a8 : (64 : Int) < (n5 : Int)
      · have e8 : decide ((64 : Int) < (n5 : Int)) = true := decide_eq_true a8
        have f8 : decide (64 < n5) = true := decide_eq_true (by omega)
        have hp : ¬ pguard d0 ⟨p0, p1, p2, p3, p4, l5, l6⟩ := by unfold pguard; simp only []; omega
        have HP := Lib.hid (decide_eq_true hp)
        clear hp hl5 hl6
        go_wp2_with fail
        go_meet
        case rel => exact ⟨rfl, by rw [HP.out]⟩
      have e8 : decide ((64 : Int) < (n5 : Int)) = false := decide_eq_false a8
      have f8 : decide (64 < n5) = false := decide_eq_false (by omega)
      by_cases a9 : (64 : Int) < (n6 : Int)
      · have e9 : decide ((64 : Int) < (n6 : Int)) = true := decide_eq_true a9
        have f9 : decide (64 < n6) = true := decide_eq_true (by omega)
        have hp : ¬ pguard d0 ⟨p0, p1, p2, p3, p4, l5, l6⟩ := by unfold pguard; simp only []; omega
        have HP := Lib.hid (decide_eq_true hp)
        clear hp hl5 hl6
        go_wp2_with fail
        go_meet
        case rel => exact ⟨rfl, by rw [HP.out]⟩
      have e9 : decide ((64 : Int) < (n6 : Int)) = false := decide_eq_false a9
      have f9 : decide (64 < n6) = false := decide_eq_false (by omega)
      have hp : pguard d0 ⟨p0, p1, p2, p3, p4, l5, l6⟩ := by unfold pguard; simp only []; omega
      have hp2 : decide (¬ pguard d0 ⟨p0, p1, p2, p3, p4, l5, l6⟩) = false := decide_eq_false (not_not_intro hp)
      have HP := Lib.hid hp2
      clear hp hp2 hl5 hl6
      go_wp2_with fail
      go_meet
      case rel => exact ⟨rfl, by rw [HP.out]⟩
    clear g50 g40 g41 g43 g44 g45 g46
    obtain ⟨rfl, rfl⟩ := hcut
    by_cases hG : pguard d0 ⟨p0, p1, p2, p3, p4, l5, l6⟩
    · have hd : decide (¬ pguard d0 ⟨p0, p1, p2, p3, p4, l5, l6⟩) = false := decide_eq_false (not_not_intro hG)
      rw [hd]
      clear hd
      have HG := Lib.hid hG
      obtain ⟨a1, a2, a3, a4, a5, a6, a7, a8, a9, a10⟩ := hG
      change p0 < d0 at a3
      change 1 ≤ p4 at a4
      change p4 ≤ 64 at a5
      change 0 ≤ p3 at a6
      change p3 < p4 at a7
      change p1.size ≤ 32 at a10
      have s7 : l5.length = n5 := HL5.out
      have s8 : l6.length = n6 := HL6.out
      change l5.length ≤ 64 at a8
      change l6.length ≤ 64 at a9
      have g := HF.out.g
      obtain ⟨km, em⟩ := (rmeta_ev (op := x.f0) x.f6 x.f7 g).rounds
      have HME := Lib.hid (fun w' => parchmentref09_Meta.calls km x.f0 x.f1 x.f2 x.f3 x.f4 x.f5 x.f6 x.f7 _ w' em)
      have hms : (S (mt x.f0 x.f1 x.f2 x.f3 x.f4 x.f5)).size ≤ 3377699720527973 := by rw [S_size]; exact mt_len g
      have HM : Hid (S (mt x.f0 x.f1 x.f2 x.f3 x.f4 x.f5) = S (mx x)) := Lib.hid rfl
      clear em g
      generalize S (mt x.f0 x.f1 x.f2 x.f3 x.f4 x.f5) = M at HME hms HM
      have HLE := Lib.hid (fun w' => parchmentref01_Leaf.calls M _ w' (rleaf_f M (by omega)))
      obtain ⟨r1, b1, hw1, z1, hcl⟩ := lclimb_any p3 p4 (leaf M) A5 c5 n5 l5 s7 (leaf_size _) a4 (by omega) a6 a7 (by omega) hc5
      have HCL := Lib.hid hcl
      clear hcl
      have HQd := Lib.hid (HQ.out.below (below_drew (Below.refl _ _)))
      have t0s := num_len p0 hp0 (by omega)
      have t1s := txt_len p1 (by omega)
      have t2s := num_len p2 hq0 hq1
      have t4s := num_len p4 (by omega) (by omega)
      obtain ⟨k0, e0⟩ := (rnum_ev p0 hp0 (by omega)).rounds
      obtain ⟨k1, e1⟩ := (ref_text_f p1 (by omega)).rounds
      obtain ⟨k2, e2⟩ := (rnum_ev p2 hq0 hq1).rounds
      obtain ⟨k4, e4⟩ := (rnum_ev p4 (by omega) (by omega)).rounds
      have HU0 := Lib.hid (fun w' => parchmentref02_Uint.calls k0 p0 _ w' e0)
      have HU1 := Lib.hid (fun w' => parchmentref02_Text.calls k1 p1 _ w' e1)
      have HU2 := Lib.hid (fun w' => parchmentref02_Uint.calls k2 p2 _ w' e2)
      have HU4 := Lib.hid (fun w' => parchmentref02_Uint.calls k4 p4 _ w' e4)
      clear e0 e1 e2 e4
      have HPR : Hid (pre p0 p1 p2 p4.toNat = ((S (num p0) ++ S (encU p1.size ++ p1.toList)) ++ S (num p2)) ++ S (num p4)) := Lib.hid rfl
      have y0 : (S (num p0)).size ≤ 10 := by rw [S_size]; exact t0s
      have y1 : (S (encU p1.size ++ p1.toList)).size ≤ 42 := by rw [S_size]; have : (encU p1.size ++ p1.toList).length = (txt p1).length := rfl; omega
      have y2 : (S (num p2)).size ≤ 10 := by rw [S_size]; exact t2s
      have y4 : (S (num p4)).size ≤ 10 := by rw [S_size]; exact t4s
      generalize S (num p0) = t0 at HU0 HPR y0
      generalize S (encU p1.size ++ p1.toList) = t1 at HU1 HPR y1
      generalize S (num p2) = t2 at HU2 HPR y2
      generalize S (num p4) = t4 at HU4 HPR y4
      clear t0s t1s t2s t4s a8 a9
      go_upto_region 6 with fail
      refine start_ (n := 15) (S := fun w' => w'.cell? ⟨q3, 0, none⟩ = some (.int .i64 x.f0) ∧ w'.cell? ⟨q3, 1, none⟩ = some (.string x.f1) ∧ w'.cell? ⟨q3, 2, none⟩ = some (.string x.f2) ∧ w'.cell? ⟨q3, 3, none⟩ = some (.int .u64 x.f3) ∧ w'.cell? ⟨q3, 4, none⟩ = some (.int .u64 x.f4) ∧ w'.cell? ⟨q3, 5, none⟩ = some (.string x.f5) ∧ w'.cell? ⟨q3, 6, none⟩ = some (.string x.f6) ∧ w'.cell? ⟨q3, 7, none⟩ = some (.bool x.f7) ∧ w'.cell? ⟨q4, 3, none⟩ = some (.int .i64 p3) ∧ w'.cell? ⟨q4, 4, none⟩ = some (.int .i64 p4) ∧ w'.cell? ⟨q4, 5, none⟩ = some (.slice A5 n5 c5)) (ds := []) #[false, false, false, false, false, false, false, false, false, false, false, false, false, false, false] (by kernel_rfl) rfl rfl ⟨(blk_cell HQ.out.h3 0).trans rfl, (blk_cell HQ.out.h3 1).trans rfl, (blk_cell HQ.out.h3 2).trans rfl, (blk_cell HQ.out.h3 3).trans rfl, (blk_cell HQ.out.h3 4).trans rfl, (blk_cell HQ.out.h3 5).trans rfl, (blk_cell HQ.out.h3 6).trans rfl, (blk_cell HQ.out.h3 7).trans rfl, (blk_cell HQ.out.h4 3).trans rfl, (blk_cell HQ.out.h4 4).trans rfl, (blk_cell HQ.out.h4 5).trans rfl⟩ (fun hHeld => ?_)
      refine pure_ (i := 3) (N := some 85) (v := ?_) (a' := ?_) #[false, false, false, true, false, false, false, false, false, false, false, false, false, false, false] rfl rfl (by kernel_rfl) (fun _ _ _ h => h) (Or.inl ⟨by rfl, ?_⟩) ?_ ?_
      rotate_left
      · intro w'
        go_simp
        with_reducible rfl
      rotate_left
      · simp only [Act.put, List.setIfInBounds_toArray, List.set_cons_zero, List.set_cons_succ, i64_w, i32_w]
        rfl
      refine pure_ (i := 5) (N := some 87) (v := ?_) (a' := ?_) #[false, false, false, true, false, true, false, false, false, false, false, false, false, false, false] rfl rfl (by kernel_rfl) (fun _ _ _ h => h) (Or.inl ⟨by rfl, ?_⟩) ?_ ?_
      rotate_left
      · intro w'
        go_simp
        with_reducible rfl
      rotate_left
      · simp only [Act.put, List.setIfInBounds_toArray, List.set_cons_zero, List.set_cons_succ, i64_w, i32_w]
        rfl
      refine pure_ (i := 7) (N := some 89) (v := ?_) (a' := ?_) #[false, false, false, true, false, true, false, true, false, false, false, false, false, false, false] rfl rfl (by kernel_rfl) (fun _ _ _ h => h) (Or.inl ⟨by rfl, ?_⟩) ?_ ?_
      rotate_left
      · intro w'
        go_simp
        with_reducible rfl
      rotate_left
      · simp only [Act.put, List.setIfInBounds_toArray, List.set_cons_zero, List.set_cons_succ, i64_w, i32_w]
        rfl
      refine take_ (i := 0) (N := some 82) (v := ?_) (a' := ?_) #[true, false, false, true, false, true, false, true, false, false, false, false, false, false, false] rfl rfl (by kernel_rfl) (fun _ _ _ h => h) (Or.inl ⟨by rfl, ?_⟩) hHeld ?_ ?_
      rotate_left
      · rintro w' ⟨s0, s1, s2, s3, s4, s5, s6, s7, s8, s9, s10⟩
        go_simp
        with_reducible rfl
      rotate_left
      · simp only [Act.put, List.setIfInBounds_toArray, List.set_cons_zero, List.set_cons_succ, i64_w, i32_w]
        rfl
      refine take_ (i := 4) (N := some 86) (v := ?_) (a' := ?_) #[true, false, false, true, true, true, false, true, false, false, false, false, false, false, false] rfl rfl (by kernel_rfl) (fun _ _ _ h => h) (Or.inl ⟨by rfl, ?_⟩) hHeld ?_ ?_
      rotate_left
      · rintro w' ⟨s0, s1, s2, s3, s4, s5, s6, s7, s8, s9, s10⟩
        go_simp
        with_reducible rfl
      rotate_left
      · simp only [Act.put, List.setIfInBounds_toArray, List.set_cons_zero, List.set_cons_succ, i64_w, i32_w]
        rfl
      refine take_ (i := 6) (N := some 88) (v := ?_) (a' := ?_) #[true, false, false, true, true, true, true, true, false, false, false, false, false, false, false] rfl rfl (by kernel_rfl) (fun _ _ _ h => h) (Or.inl ⟨by rfl, ?_⟩) hHeld ?_ ?_
      rotate_left
      · rintro w' ⟨s0, s1, s2, s3, s4, s5, s6, s7, s8, s9, s10⟩
        go_simp
        with_reducible rfl
      rotate_left
      · simp only [Act.put, List.setIfInBounds_toArray, List.set_cons_zero, List.set_cons_succ, i64_w, i32_w]
        rfl
      refine take_ (i := 8) (N := some 90) (v := ?_) (a' := ?_) #[true, false, false, true, true, true, true, true, true, false, false, false, false, false, false] rfl rfl (by kernel_rfl) (fun _ _ _ h => h) (Or.inl ⟨by rfl, ?_⟩) hHeld ?_ ?_
      rotate_left
      · rintro w' ⟨s0, s1, s2, s3, s4, s5, s6, s7, s8, s9, s10⟩
        go_simp
        with_reducible rfl
      rotate_left
      · simp only [Act.put, List.setIfInBounds_toArray, List.set_cons_zero, List.set_cons_succ, i64_w, i32_w]
        rfl
      refine one_ (i := 1) (N := some 83) #[true, true, false, true, true, true, true, true, true, false, false, false, false, false, false] rfl rfl (by kernel_rfl) (by decide) (fun K hK => ?_)
      refine goes_ Try.func37 (by kernel_rfl) rfl #[.agg #[.int .i64 x.f0, .string x.f1, .string x.f2, .int .u64 x.f3, .int .u64 x.f4, .string x.f5, .string x.f6, .bool x.f7]] (by rfl) rfl rfl (by simp only [List.map_toArray, List.map_cons, List.map_nil]; rfl) ?_
      with_reducible refine (HME.out _).mono ?_
      rintro e w3 ⟨rfl, hb⟩
      refine ⟨_, rfl, ?_⟩
      have HQ1 := Lib.hid (HQd.out.below hb)
      clear hb
      refine hK.out _ _ ⟨(blk_cell HQ1.out.h3 0).trans rfl, (blk_cell HQ1.out.h3 1).trans rfl, (blk_cell HQ1.out.h3 2).trans rfl, (blk_cell HQ1.out.h3 3).trans rfl, (blk_cell HQ1.out.h3 4).trans rfl, (blk_cell HQ1.out.h3 5).trans rfl, (blk_cell HQ1.out.h3 6).trans rfl, (blk_cell HQ1.out.h3 7).trans rfl, (blk_cell HQ1.out.h4 3).trans rfl, (blk_cell HQ1.out.h4 4).trans rfl, (blk_cell HQ1.out.h4 5).trans rfl⟩ (fun hHeld => ?_)
      clear hK K
      refine norm_ (a' := ?_) ?_ ?_
      rotate_left
      · show Act.put _ (some 83) _ = _
        simp only [Act.put, List.setIfInBounds_toArray, List.set_cons_zero, List.set_cons_succ, i64_w, i32_w]
        rfl
      refine one_ (i := 2) (N := some 84) #[true, true, true, true, true, true, true, true, true, false, false, false, false, false, false] rfl rfl (by kernel_rfl) (by decide) (fun K hK => ?_)
      refine goes_ Try.func53 (by kernel_rfl) rfl #[.string M] (by rfl) rfl rfl (by simp only [List.map_toArray, List.map_cons, List.map_nil]; rfl) ?_
      with_reducible refine (HLE.out _).mono ?_
      rintro e w3 ⟨rfl, hb⟩
      refine ⟨_, rfl, ?_⟩
      have HQ2 := Lib.hid (HQ1.out.below hb)
      clear hb
      refine hK.out _ _ ⟨(blk_cell HQ2.out.h3 0).trans rfl, (blk_cell HQ2.out.h3 1).trans rfl, (blk_cell HQ2.out.h3 2).trans rfl, (blk_cell HQ2.out.h3 3).trans rfl, (blk_cell HQ2.out.h3 4).trans rfl, (blk_cell HQ2.out.h3 5).trans rfl, (blk_cell HQ2.out.h3 6).trans rfl, (blk_cell HQ2.out.h3 7).trans rfl, (blk_cell HQ2.out.h4 3).trans rfl, (blk_cell HQ2.out.h4 4).trans rfl, (blk_cell HQ2.out.h4 5).trans rfl⟩ (fun hHeld => ?_)
      clear hK K
      refine norm_ (a' := ?_) ?_ ?_
      rotate_left
      · show Act.put _ (some 84) _ = _
        simp only [Act.put, List.setIfInBounds_toArray, List.set_cons_zero, List.set_cons_succ, i64_w, i32_w]
        rfl
      refine one_ (i := 9) (N := some 91) #[true, true, true, true, true, true, true, true, true, true, false, false, false, false, false] rfl rfl (by kernel_rfl) (by decide) (fun K hK => ?_)
      refine goes_ Try.func52 (by kernel_rfl) rfl #[.string (leaf M), .int .i64 p3, .int .i64 p4, .slice A5 n5 c5] (by rfl) rfl rfl (by simp only [List.map_toArray, List.map_cons, List.map_nil]; rfl) ?_
      with_reducible refine (HCL.out _ HQ2.out.k5).mono ?_
      rintro e w3 ⟨rfl, hb⟩
      refine ⟨_, rfl, ?_⟩
      have HQ3 := Lib.hid (HQ2.out.below hb)
      clear hb
      refine hK.out _ _ ⟨(blk_cell HQ3.out.h3 0).trans rfl, (blk_cell HQ3.out.h3 1).trans rfl, (blk_cell HQ3.out.h3 2).trans rfl, (blk_cell HQ3.out.h3 3).trans rfl, (blk_cell HQ3.out.h3 4).trans rfl, (blk_cell HQ3.out.h3 5).trans rfl, (blk_cell HQ3.out.h3 6).trans rfl, (blk_cell HQ3.out.h3 7).trans rfl, (blk_cell HQ3.out.h4 3).trans rfl, (blk_cell HQ3.out.h4 4).trans rfl, (blk_cell HQ3.out.h4 5).trans rfl⟩ (fun hHeld => ?_)
      clear hK K
      refine norm_ (a' := ?_) ?_ ?_
      rotate_left
      · show Act.put _ (some 91) _ = _
        simp only [Act.put, List.setIfInBounds_toArray, List.set_cons_zero, List.set_cons_succ, i64_w, i32_w]
        rfl
      refine pure_ (i := 10) (N := some 81) (v := ?_) (a' := ?_) #[true, true, true, true, true, true, true, true, true, true, true, false, false, false, false] rfl rfl (by kernel_rfl) (fun _ _ _ h => h) (Or.inl ⟨by rfl, ?_⟩) ?_ ?_
      rotate_left
      · intro w'
        go_simp
        with_reducible rfl
      rotate_left
      · simp only [Act.put, List.setIfInBounds_toArray, List.set_cons_zero, List.set_cons_succ, i64_w, i32_w]
        rfl
      refine pure_ (i := 11) (N := some 92) (v := ?_) (a' := ?_) #[true, true, true, true, true, true, true, true, true, true, true, true, false, false, false] rfl rfl (by kernel_rfl) (fun _ _ _ h => h) (Or.inl ⟨by rfl, ?_⟩) ?_ ?_
      rotate_left
      · intro w'
        go_simp
        with_reducible rfl
      rotate_left
      · simp only [Act.put, List.setIfInBounds_toArray, List.set_cons_zero, List.set_cons_succ, i64_w, i32_w]
        rfl
      refine pure_ (i := 12) (N := some 93) (v := ?_) (a' := ?_) #[true, true, true, true, true, true, true, true, true, true, true, true, true, false, false] rfl rfl (by kernel_rfl) (fun _ _ _ h => h) (Or.inl ⟨by rfl, ?_⟩) ?_ ?_
      rotate_left
      · intro w'
        go_simp
        with_reducible rfl
      rotate_left
      · simp only [Act.put, List.setIfInBounds_toArray, List.set_cons_zero, List.set_cons_succ, i64_w, i32_w]
        rfl
      refine pure_ (i := 13) (N := some 6) (v := ?_) (a' := ?_) #[true, true, true, true, true, true, true, true, true, true, true, true, true, true, false] rfl rfl (by kernel_rfl) (fun _ _ _ h => h) (Or.inl ⟨by rfl, ?_⟩) ?_ ?_
      rotate_left
      · intro w'
        go_simp
        with_reducible rfl
      rotate_left
      · simp only [Act.put, List.setIfInBounds_toArray, List.set_cons_zero, List.set_cons_succ, i64_w, i32_w]
        rfl
      refine pure_ (i := 14) (N := some 7) (v := ?_) (a' := ?_) #[true, true, true, true, true, true, true, true, true, true, true, true, true, true, true] rfl rfl (by kernel_rfl) (fun _ _ _ h => h) (Or.inl ⟨by rfl, ?_⟩) ?_ ?_
      rotate_left
      · intro w'
        go_simp
        with_reducible rfl
      rotate_left
      · simp only [Act.put, List.setIfInBounds_toArray, List.set_cons_zero, List.set_cons_succ, i64_w, i32_w]
        rfl
      refine done_ (by kernel_rfl) ?_
      clear HQ HQd HQ1 HQ2 HME HLE HCL
      rcases hw1 with ⟨rfl, hw1⟩ | ⟨rfl, hw1⟩
      · have HW1 := Lib.hid hw1
        clear hw1
        have hw4 : IntKind.u64.wrap p4 = p4 := by rw [IntKind.wrap_u64]; omega
        have q1 : (9223372036854775807 < t0.size + t1.size) = False := eq_false (by omega)
        have q2 : (9223372036854775807 < t0.size + t1.size + t2.size) = False := eq_false (by omega)
        have q3' : (9223372036854775807 < t0.size + t1.size + t2.size + t4.size) = False := eq_false (by omega)
        have q4' : (9223372036854775807 < t0.size + t1.size + t2.size + t4.size + r1.size) = False := eq_false (by omega)
        go_upto_region 9 with fail
        have HQd := Lib.hid (HQ3.out.below (below_drew (Below.refl _ _)))
        refine start_ (n := 19) (S := fun w' => w'.cell? ⟨q4, 0, none⟩ = some (.int .u64 p0) ∧ w'.cell? ⟨q4, 1, none⟩ = some (.string p1) ∧ w'.cell? ⟨q4, 2, none⟩ = some (.int .u64 p2) ∧ w'.cell? ⟨q4, 4, none⟩ = some (.int .i64 p4)) (ds := []) #[false, false, false, false, false, false, false, false, false, false, false, false, false, false, false, false, false, false, false] (by kernel_rfl) rfl rfl ⟨(blk_cell HQ3.out.h4 0).trans rfl, (blk_cell HQ3.out.h4 1).trans rfl, (blk_cell HQ3.out.h4 2).trans rfl, (blk_cell HQ3.out.h4 4).trans rfl⟩ (fun hHeld => ?_)
        refine pure_ (i := 0) (N := some 96) (v := ?_) (a' := ?_) #[true, false, false, false, false, false, false, false, false, false, false, false, false, false, false, false, false, false, false] rfl rfl (by kernel_rfl) (fun _ _ _ h => h) (Or.inl ⟨by rfl, ?_⟩) ?_ ?_
        rotate_left
        · intro w'
          go_simp
          with_reducible rfl
        rotate_left
        · simp only [Act.put, List.setIfInBounds_toArray, List.set_cons_zero, List.set_cons_succ, i64_w, i32_w]
          rfl
        refine pure_ (i := 3) (N := some 99) (v := ?_) (a' := ?_) #[true, false, false, true, false, false, false, false, false, false, false, false, false, false, false, false, false, false, false] rfl rfl (by kernel_rfl) (fun _ _ _ h => h) (Or.inl ⟨by rfl, ?_⟩) ?_ ?_
        rotate_left
        · intro w'
          go_simp
          with_reducible rfl
        rotate_left
        · simp only [Act.put, List.setIfInBounds_toArray, List.set_cons_zero, List.set_cons_succ, i64_w, i32_w]
          rfl
        refine pure_ (i := 7) (N := some 103) (v := ?_) (a' := ?_) #[true, false, false, true, false, false, false, true, false, false, false, false, false, false, false, false, false, false, false] rfl rfl (by kernel_rfl) (fun _ _ _ h => h) (Or.inl ⟨by rfl, ?_⟩) ?_ ?_
        rotate_left
        · intro w'
          go_simp
          with_reducible rfl
        rotate_left
        · simp only [Act.put, List.setIfInBounds_toArray, List.set_cons_zero, List.set_cons_succ, i64_w, i32_w]
          rfl
        refine pure_ (i := 11) (N := some 107) (v := ?_) (a' := ?_) #[true, false, false, true, false, false, false, true, false, false, false, true, false, false, false, false, false, false, false] rfl rfl (by kernel_rfl) (fun _ _ _ h => h) (Or.inl ⟨by rfl, ?_⟩) ?_ ?_
        rotate_left
        · intro w'
          go_simp
          with_reducible rfl
        rotate_left
        · simp only [Act.put, List.setIfInBounds_toArray, List.set_cons_zero, List.set_cons_succ, i64_w, i32_w]
          rfl
        refine pure_ (i := 16) (N := some 112) (v := ?_) (a' := ?_) #[true, false, false, true, false, false, false, true, false, false, false, true, false, false, false, false, true, false, false] rfl rfl (by kernel_rfl) (fun _ _ _ h => h) (Or.inl ⟨by rfl, ?_⟩) ?_ ?_
        rotate_left
        · intro w'
          go_simp
          with_reducible rfl
        rotate_left
        · simp only [Act.put, List.setIfInBounds_toArray, List.set_cons_zero, List.set_cons_succ, i64_w, i32_w]
          rfl
        refine take_ (i := 1) (N := some 97) (v := ?_) (a' := ?_) #[true, true, false, true, false, false, false, true, false, false, false, true, false, false, false, false, true, false, false] rfl rfl (by kernel_rfl) (fun _ _ _ h => h) (Or.inl ⟨by rfl, ?_⟩) hHeld ?_ ?_
        rotate_left
        · rintro w' ⟨s0, s1, s2, s3⟩
          go_simp
          with_reducible rfl
        rotate_left
        · simp only [Act.put, List.setIfInBounds_toArray, List.set_cons_zero, List.set_cons_succ, i64_w, i32_w]
          rfl
        refine take_ (i := 4) (N := some 100) (v := ?_) (a' := ?_) #[true, true, false, true, true, false, false, true, false, false, false, true, false, false, false, false, true, false, false] rfl rfl (by kernel_rfl) (fun _ _ _ h => h) (Or.inl ⟨by rfl, ?_⟩) hHeld ?_ ?_
        rotate_left
        · rintro w' ⟨s0, s1, s2, s3⟩
          go_simp
          with_reducible rfl
        rotate_left
        · simp only [Act.put, List.setIfInBounds_toArray, List.set_cons_zero, List.set_cons_succ, i64_w, i32_w]
          rfl
        refine take_ (i := 8) (N := some 104) (v := ?_) (a' := ?_) #[true, true, false, true, true, false, false, true, true, false, false, true, false, false, false, false, true, false, false] rfl rfl (by kernel_rfl) (fun _ _ _ h => h) (Or.inl ⟨by rfl, ?_⟩) hHeld ?_ ?_
        rotate_left
        · rintro w' ⟨s0, s1, s2, s3⟩
          go_simp
          with_reducible rfl
        rotate_left
        · simp only [Act.put, List.setIfInBounds_toArray, List.set_cons_zero, List.set_cons_succ, i64_w, i32_w]
          rfl
        refine take_ (i := 12) (N := some 108) (v := ?_) (a' := ?_) #[true, true, false, true, true, false, false, true, true, false, false, true, true, false, false, false, true, false, false] rfl rfl (by kernel_rfl) (fun _ _ _ h => h) (Or.inl ⟨by rfl, ?_⟩) hHeld ?_ ?_
        rotate_left
        · rintro w' ⟨s0, s1, s2, s3⟩
          go_simp
          with_reducible rfl
        rotate_left
        · simp only [Act.put, List.setIfInBounds_toArray, List.set_cons_zero, List.set_cons_succ, i64_w, i32_w]
          rfl
        refine pure_ (i := 13) (N := some 109) (v := ?_) (a' := ?_) #[true, true, false, true, true, false, false, true, true, false, false, true, true, true, false, false, true, false, false] rfl rfl (by kernel_rfl) (fun _ _ _ h => h) (Or.inl ⟨by rfl, ?_⟩) ?_ ?_
        rotate_left
        · intro w'
          go_simp
          with_reducible rfl
        rotate_left
        · simp only [Act.put, List.setIfInBounds_toArray, List.set_cons_zero, List.set_cons_succ, i64_w, i32_w]
          rfl
        refine one_ (i := 2) (N := some 98) #[true, true, true, true, true, false, false, true, true, false, false, true, true, true, false, false, true, false, false] rfl rfl (by kernel_rfl) (by decide) (fun K hK => ?_)
        refine goes_ Try.func41 (by kernel_rfl) rfl #[.int .u64 p0] (by rfl) rfl rfl (by simp only [List.map_toArray, List.map_cons, List.map_nil]; rfl) ?_
        with_reducible refine (HU0.out _).mono ?_
        rintro e w3 ⟨rfl, hb⟩
        refine ⟨_, rfl, ?_⟩
        have HR1 := Lib.hid (HQd.out.below hb)
        clear hb
        refine hK.out _ _ ⟨(blk_cell HR1.out.h4 0).trans rfl, (blk_cell HR1.out.h4 1).trans rfl, (blk_cell HR1.out.h4 2).trans rfl, (blk_cell HR1.out.h4 4).trans rfl⟩ (fun hHeld => ?_)
        clear hK K
        refine norm_ (a' := ?_) ?_ ?_
        rotate_left
        · show Act.put _ (some 98) _ = _
          simp only [Act.put, List.setIfInBounds_toArray, List.set_cons_zero, List.set_cons_succ, i64_w, i32_w]
          rfl
        refine one_ (i := 5) (N := some 101) #[true, true, true, true, true, true, false, true, true, false, false, true, true, true, false, false, true, false, false] rfl rfl (by kernel_rfl) (by decide) (fun K hK => ?_)
        refine goes_ Try.func42 (by kernel_rfl) rfl #[.string p1] (by rfl) rfl rfl (by simp only [List.map_toArray, List.map_cons, List.map_nil]; rfl) ?_
        with_reducible refine (HU1.out _).mono ?_
        rintro e w3 ⟨rfl, hb⟩
        refine ⟨_, rfl, ?_⟩
        have HR2 := Lib.hid (HR1.out.below hb)
        clear hb
        refine hK.out _ _ ⟨(blk_cell HR2.out.h4 0).trans rfl, (blk_cell HR2.out.h4 1).trans rfl, (blk_cell HR2.out.h4 2).trans rfl, (blk_cell HR2.out.h4 4).trans rfl⟩ (fun hHeld => ?_)
        clear hK K
        refine norm_ (a' := ?_) ?_ ?_
        rotate_left
        · show Act.put _ (some 101) _ = _
          simp only [Act.put, List.setIfInBounds_toArray, List.set_cons_zero, List.set_cons_succ, i64_w, i32_w]
          rfl
        refine pure_ (i := 6) (N := some 102) (v := ?_) (a' := ?_) #[true, true, true, true, true, true, true, true, true, false, false, true, true, true, false, false, true, false, false] rfl rfl (by kernel_rfl) (fun _ _ _ h => h) (Or.inl ⟨by rfl, ?_⟩) ?_ ?_
        rotate_left
        · intro w'
          go_simp
          with_reducible rfl
        rotate_left
        · simp only [Act.put, List.setIfInBounds_toArray, List.set_cons_zero, List.set_cons_succ, i64_w, i32_w]
          rfl
        refine one_ (i := 9) (N := some 105) #[true, true, true, true, true, true, true, true, true, true, false, true, true, true, false, false, true, false, false] rfl rfl (by kernel_rfl) (by decide) (fun K hK => ?_)
        refine goes_ Try.func41 (by kernel_rfl) rfl #[.int .u64 p2] (by rfl) rfl rfl (by simp only [List.map_toArray, List.map_cons, List.map_nil]; rfl) ?_
        with_reducible refine (HU2.out _).mono ?_
        rintro e w3 ⟨rfl, hb⟩
        refine ⟨_, rfl, ?_⟩
        have HR3 := Lib.hid (HR2.out.below hb)
        clear hb
        refine hK.out _ _ ⟨(blk_cell HR3.out.h4 0).trans rfl, (blk_cell HR3.out.h4 1).trans rfl, (blk_cell HR3.out.h4 2).trans rfl, (blk_cell HR3.out.h4 4).trans rfl⟩ (fun hHeld => ?_)
        clear hK K
        refine norm_ (a' := ?_) ?_ ?_
        rotate_left
        · show Act.put _ (some 105) _ = _
          simp only [Act.put, List.setIfInBounds_toArray, List.set_cons_zero, List.set_cons_succ, i64_w, i32_w]
          rfl
        refine pure_ (i := 10) (N := some 106) (v := ?_) (a' := ?_) #[true, true, true, true, true, true, true, true, true, true, true, true, true, true, false, false, true, false, false] rfl rfl (by kernel_rfl) (fun _ _ _ h => h) (Or.inl ⟨by rfl, ?_⟩) ?_ ?_
        rotate_left
        · intro w'
          go_simp
          with_reducible rfl
        rotate_left
        · simp only [Act.put, List.setIfInBounds_toArray, List.set_cons_zero, List.set_cons_succ, i64_w, i32_w]
          rfl
        refine one_ (i := 14) (N := some 110) #[true, true, true, true, true, true, true, true, true, true, true, true, true, true, true, false, true, false, false] rfl rfl (by kernel_rfl) (by decide) (fun K hK => ?_)
        refine goes_ Try.func41 (by kernel_rfl) rfl #[.int .u64 p4] (by rfl) rfl rfl (by simp only [List.map_toArray, List.map_cons, List.map_nil]; rfl) ?_
        with_reducible refine (HU4.out _).mono ?_
        rintro e w3 ⟨rfl, hb⟩
        refine ⟨_, rfl, ?_⟩
        have HR4 := Lib.hid (HR3.out.below hb)
        clear hb
        refine hK.out _ _ ⟨(blk_cell HR4.out.h4 0).trans rfl, (blk_cell HR4.out.h4 1).trans rfl, (blk_cell HR4.out.h4 2).trans rfl, (blk_cell HR4.out.h4 4).trans rfl⟩ (fun hHeld => ?_)
        clear hK K
        refine norm_ (a' := ?_) ?_ ?_
        rotate_left
        · show Act.put _ (some 110) _ = _
          simp only [Act.put, List.setIfInBounds_toArray, List.set_cons_zero, List.set_cons_succ, i64_w, i32_w]
          rfl
        refine pure_ (i := 15) (N := some 111) (v := ?_) (a' := ?_) #[true, true, true, true, true, true, true, true, true, true, true, true, true, true, true, true, true, false, false] rfl rfl (by kernel_rfl) (fun _ _ _ h => h) (Or.inl ⟨by rfl, ?_⟩) ?_ ?_
        rotate_left
        · intro w'
          go_simp
          with_reducible rfl
        rotate_left
        · simp only [Act.put, List.setIfInBounds_toArray, List.set_cons_zero, List.set_cons_succ, i64_w, i32_w]
          rfl
        refine pure_ (i := 17) (N := some 113) (v := ?_) (a' := ?_) #[true, true, true, true, true, true, true, true, true, true, true, true, true, true, true, true, true, true, false] rfl rfl (by kernel_rfl) (fun _ _ _ h => h) (Or.inl ⟨by rfl, ?_⟩) ?_ ?_
        rotate_left
        · intro w'
          go_simp
          with_reducible rfl
        rotate_left
        · simp only [Act.put, List.setIfInBounds_toArray, List.set_cons_zero, List.set_cons_succ, i64_w, i32_w]
          rfl
        refine pure_ (i := 18) (N := some 8) (v := ?_) (a' := ?_) #[true, true, true, true, true, true, true, true, true, true, true, true, true, true, true, true, true, true, true] rfl rfl (by kernel_rfl) (fun _ _ _ h => h) (Or.inl ⟨by rfl, ?_⟩) ?_ ?_
        rotate_left
        · intro w'
          go_simp
          with_reducible rfl
        rotate_left
        · simp only [Act.put, List.setIfInBounds_toArray, List.set_cons_zero, List.set_cons_succ, i64_w, i32_w]
          rfl
        refine done_ (by kernel_rfl) ?_
        clear HQ3 HQd HR1 HR2 HR3 HU0 HU1 HU2 HU4 q1 q2 q3' q4' hw4
        have HH : Hid (pre p0 p1 p2 p4.toNat ++ r1 = (((t0 ++ t1) ++ t2) ++ t4) ++ r1) := Lib.hid (by rw [HPR.out])
        have hhs : ((((t0 ++ t1) ++ t2) ++ t4) ++ r1).size ≤ 104 := by simp only [ByteArray.size_append]; omega
        clear HPR y0 y1 y2 y4
        generalize (((t0 ++ t1) ++ t2) ++ t4) ++ r1 = H at HH hhs ⊢
        have hs1 : ((⟨#[2]⟩ : ByteArray) ++ H).size = 1 + H.size := by rw [ByteArray.size_append]; rfl
        have HSU := Lib.hid (fun w' => Dig.parchmentref01_Sum.calls ((⟨#[2]⟩ : ByteArray) ++ H) _ w' (by unfold Dig.parchmentref01_Sum.f; rw [if_pos (by omega)]))
        have HD : Hid (hd2 ⟨p0, p1, p2, p3, p4, l5, l6⟩ r1 = Dig.dig ((⟨#[2]⟩ : ByteArray) ++ H)) := Lib.hid (by unfold hd2; rw [← HH.out])
        have hds : (Dig.dig ((⟨#[2]⟩ : ByteArray) ++ H)).size = 32 := Dig.dig_size _
        clear hs1 HH
        generalize Dig.dig ((⟨#[2]⟩ : ByteArray) ++ H) = D2 at HSU HD hds
        have HLE := Lib.hid (fun w' => parchmentref01_Leaf.calls D2 _ w' (rleaf_f D2 (by omega)))
        obtain ⟨r2, b2, hw2, z2, hcl⟩ := lclimb_any p0 d0 (leaf D2) A6 c6 n6 l6 s8 (leaf_size _) a1 a2 hp0 a3 (by omega) hc6
        have HCL := Lib.hid hcl
        clear hcl hds
        have hw0 : IntKind.i64.wrap p0 = p0 := by rw [i64_w, wrap64_in _ (by omega) (by omega)]
        have hwd : IntKind.i64.wrap d0 = d0 := by rw [i64_w, wrap64_in _ (by omega) (by omega)]
        have q1 : (9223372036854775807 < 1 + H.size) = False := eq_false (by omega)
        go_upto_region 10 with fail
        have HQd := Lib.hid (HR4.out.below (below_drew (Below.refl _ _)))
        refine start_ (n := 18) (S := fun w' => w'.cell? ⟨q4, 0, none⟩ = some (.int .u64 p0) ∧ w'.cell? ⟨q5, 0, none⟩ = some (.int .u64 d0) ∧ w'.cell? ⟨q4, 6, none⟩ = some (.slice A6 n6 c6)) (ds := []) #[false, false, false, false, false, false, false, false, false, false, false, false, false, false, false, false, false, false] (by kernel_rfl) rfl rfl ⟨(blk_cell HR4.out.h4 0).trans rfl, (blk_cell HR4.out.h5 0).trans rfl, (blk_cell HR4.out.h4 6).trans rfl⟩ (fun hHeld => ?_)
        refine pure_ (i := 0) (N := some 115) (v := ?_) (a' := ?_) #[true, false, false, false, false, false, false, false, false, false, false, false, false, false, false, false, false, false] rfl rfl (by kernel_rfl) (fun _ _ _ h => h) (Or.inl ⟨by rfl, ?_⟩) ?_ ?_
        rotate_left
        · intro w'
          go_simp
          with_reducible rfl
        rotate_left
        · simp only [Act.put, List.setIfInBounds_toArray, List.set_cons_zero, List.set_cons_succ, i64_w, i32_w]
          rfl
        refine pure_ (i := 1) (N := some 116) (v := ?_) (a' := ?_) #[true, true, false, false, false, false, false, false, false, false, false, false, false, false, false, false, false, false] rfl rfl (by kernel_rfl) (fun _ _ _ h => h) (Or.inl ⟨by rfl, ?_⟩) ?_ ?_
        rotate_left
        · intro w'
          go_simp
          with_reducible rfl
        rotate_left
        · simp only [Act.put, List.setIfInBounds_toArray, List.set_cons_zero, List.set_cons_succ, i64_w, i32_w]
          rfl
        refine pure_ (i := 4) (N := some 119) (v := ?_) (a' := ?_) #[true, true, false, false, true, false, false, false, false, false, false, false, false, false, false, false, false, false] rfl rfl (by kernel_rfl) (fun _ _ _ h => h) (Or.inl ⟨by rfl, ?_⟩) ?_ ?_
        rotate_left
        · intro w'
          go_simp
          with_reducible rfl
        rotate_left
        · simp only [Act.put, List.setIfInBounds_toArray, List.set_cons_zero, List.set_cons_succ, i64_w, i32_w]
          rfl
        refine pure_ (i := 7) (N := some 122) (v := ?_) (a' := ?_) #[true, true, false, false, true, false, false, true, false, false, false, false, false, false, false, false, false, false] rfl rfl (by kernel_rfl) (fun _ _ _ h => h) (Or.inl ⟨by rfl, ?_⟩) ?_ ?_
        rotate_left
        · intro w'
          go_simp
          with_reducible rfl
        rotate_left
        · simp only [Act.put, List.setIfInBounds_toArray, List.set_cons_zero, List.set_cons_succ, i64_w, i32_w]
          rfl
        refine pure_ (i := 10) (N := some 125) (v := ?_) (a' := ?_) #[true, true, false, false, true, false, false, true, false, false, true, false, false, false, false, false, false, false] rfl rfl (by kernel_rfl) (fun _ _ _ h => h) (Or.inl ⟨by rfl, ?_⟩) ?_ ?_
        rotate_left
        · intro w'
          go_simp
          with_reducible rfl
        rotate_left
        · simp only [Act.put, List.setIfInBounds_toArray, List.set_cons_zero, List.set_cons_succ, i64_w, i32_w]
          rfl
        refine take_ (i := 5) (N := some 120) (v := ?_) (a' := ?_) #[true, true, false, false, true, true, false, true, false, false, true, false, false, false, false, false, false, false] rfl rfl (by kernel_rfl) (fun _ _ _ h => h) (Or.inl ⟨by rfl, ?_⟩) hHeld ?_ ?_
        rotate_left
        · rintro w' ⟨s0, s1, s2⟩
          go_simp
          with_reducible rfl
        rotate_left
        · simp only [Act.put, List.setIfInBounds_toArray, List.set_cons_zero, List.set_cons_succ, i64_w, i32_w]
          rfl
        refine pure_ (i := 6) (N := some 121) (v := ?_) (a' := ?_) #[true, true, false, false, true, true, true, true, false, false, true, false, false, false, false, false, false, false] rfl rfl (by kernel_rfl) (fun _ _ _ h => h) (Or.inl ⟨by rfl, ?_⟩) ?_ ?_
        rotate_left
        · intro w'
          go_simp
          with_reducible rfl
        rotate_left
        · simp only [Act.put, List.setIfInBounds_toArray, List.set_cons_zero, List.set_cons_succ, i64_w, i32_w]
          rfl
        refine take_ (i := 8) (N := some 123) (v := ?_) (a' := ?_) #[true, true, false, false, true, true, true, true, true, false, true, false, false, false, false, false, false, false] rfl rfl (by kernel_rfl) (fun _ _ _ h => h) (Or.inl ⟨by rfl, ?_⟩) hHeld ?_ ?_
        rotate_left
        · rintro w' ⟨s0, s1, s2⟩
          go_simp
          with_reducible rfl
        rotate_left
        · simp only [Act.put, List.setIfInBounds_toArray, List.set_cons_zero, List.set_cons_succ, i64_w, i32_w]
          rfl
        refine pure_ (i := 9) (N := some 124) (v := ?_) (a' := ?_) #[true, true, false, false, true, true, true, true, true, true, true, false, false, false, false, false, false, false] rfl rfl (by kernel_rfl) (fun _ _ _ h => h) (Or.inl ⟨by rfl, ?_⟩) ?_ ?_
        rotate_left
        · intro w'
          go_simp
          with_reducible rfl
        rotate_left
        · simp only [Act.put, List.setIfInBounds_toArray, List.set_cons_zero, List.set_cons_succ, i64_w, i32_w]
          rfl
        refine take_ (i := 11) (N := some 126) (v := ?_) (a' := ?_) #[true, true, false, false, true, true, true, true, true, true, true, true, false, false, false, false, false, false] rfl rfl (by kernel_rfl) (fun _ _ _ h => h) (Or.inl ⟨by rfl, ?_⟩) hHeld ?_ ?_
        rotate_left
        · rintro w' ⟨s0, s1, s2⟩
          go_simp
          with_reducible rfl
        rotate_left
        · simp only [Act.put, List.setIfInBounds_toArray, List.set_cons_zero, List.set_cons_succ, i64_w, i32_w]
          rfl
        refine one_ (i := 2) (N := some 117) #[true, true, true, false, true, true, true, true, true, true, true, true, false, false, false, false, false, false] rfl rfl (by kernel_rfl) (by decide) (fun K hK => ?_)
        refine goes_ Try.func54 (by kernel_rfl) rfl #[.string ((⟨#[2]⟩ : ByteArray) ++ H)] (by rfl) rfl rfl (by simp only [List.map_toArray, List.map_cons, List.map_nil]; rfl) ?_
        with_reducible refine (HSU.out _).mono ?_
        rintro e w3 ⟨rfl, hb⟩
        refine ⟨_, rfl, ?_⟩
        have HQ1 := Lib.hid (HQd.out.below hb)
        clear hb
        refine hK.out _ _ ⟨(blk_cell HQ1.out.h4 0).trans rfl, (blk_cell HQ1.out.h5 0).trans rfl, (blk_cell HQ1.out.h4 6).trans rfl⟩ (fun hHeld => ?_)
        clear hK K
        refine norm_ (a' := ?_) ?_ ?_
        rotate_left
        · show Act.put _ (some 117) _ = _
          simp only [Act.put, List.setIfInBounds_toArray, List.set_cons_zero, List.set_cons_succ, i64_w, i32_w]
          rfl
        refine one_ (i := 3) (N := some 118) #[true, true, true, true, true, true, true, true, true, true, true, true, false, false, false, false, false, false] rfl rfl (by kernel_rfl) (by decide) (fun K hK => ?_)
        refine goes_ Try.func53 (by kernel_rfl) rfl #[.string D2] (by rfl) rfl rfl (by simp only [List.map_toArray, List.map_cons, List.map_nil]; rfl) ?_
        with_reducible refine (HLE.out _).mono ?_
        rintro e w3 ⟨rfl, hb⟩
        refine ⟨_, rfl, ?_⟩
        have HQ2 := Lib.hid (HQ1.out.below hb)
        clear hb
        refine hK.out _ _ ⟨(blk_cell HQ2.out.h4 0).trans rfl, (blk_cell HQ2.out.h5 0).trans rfl, (blk_cell HQ2.out.h4 6).trans rfl⟩ (fun hHeld => ?_)
        clear hK K
        refine norm_ (a' := ?_) ?_ ?_
        rotate_left
        · show Act.put _ (some 118) _ = _
          simp only [Act.put, List.setIfInBounds_toArray, List.set_cons_zero, List.set_cons_succ, i64_w, i32_w]
          rfl
        refine one_ (i := 12) (N := some 127) #[true, true, true, true, true, true, true, true, true, true, true, true, true, false, false, false, false, false] rfl rfl (by kernel_rfl) (by decide) (fun K hK => ?_)
        refine goes_ Try.func52 (by kernel_rfl) rfl #[.string (leaf D2), .int .i64 p0, .int .i64 d0, .slice A6 n6 c6] (by rfl) rfl rfl (by simp only [List.map_toArray, List.map_cons, List.map_nil]; rfl) ?_
        with_reducible refine (HCL.out _ HQ2.out.k6).mono ?_
        rintro e w3 ⟨rfl, hb⟩
        refine ⟨_, rfl, ?_⟩
        have HQ3 := Lib.hid (HQ2.out.below hb)
        clear hb
        refine hK.out _ _ ⟨(blk_cell HQ3.out.h4 0).trans rfl, (blk_cell HQ3.out.h5 0).trans rfl, (blk_cell HQ3.out.h4 6).trans rfl⟩ (fun hHeld => ?_)
        clear hK K
        refine norm_ (a' := ?_) ?_ ?_
        rotate_left
        · show Act.put _ (some 127) _ = _
          simp only [Act.put, List.setIfInBounds_toArray, List.set_cons_zero, List.set_cons_succ, i64_w, i32_w]
          rfl
        refine pure_ (i := 13) (N := some 114) (v := ?_) (a' := ?_) #[true, true, true, true, true, true, true, true, true, true, true, true, true, true, false, false, false, false] rfl rfl (by kernel_rfl) (fun _ _ _ h => h) (Or.inl ⟨by rfl, ?_⟩) ?_ ?_
        rotate_left
        · intro w'
          go_simp
          with_reducible rfl
        rotate_left
        · simp only [Act.put, List.setIfInBounds_toArray, List.set_cons_zero, List.set_cons_succ, i64_w, i32_w]
          rfl
        refine pure_ (i := 14) (N := some 128) (v := ?_) (a' := ?_) #[true, true, true, true, true, true, true, true, true, true, true, true, true, true, true, false, false, false] rfl rfl (by kernel_rfl) (fun _ _ _ h => h) (Or.inl ⟨by rfl, ?_⟩) ?_ ?_
        rotate_left
        · intro w'
          go_simp
          with_reducible rfl
        rotate_left
        · simp only [Act.put, List.setIfInBounds_toArray, List.set_cons_zero, List.set_cons_succ, i64_w, i32_w]
          rfl
        refine pure_ (i := 15) (N := some 129) (v := ?_) (a' := ?_) #[true, true, true, true, true, true, true, true, true, true, true, true, true, true, true, true, false, false] rfl rfl (by kernel_rfl) (fun _ _ _ h => h) (Or.inl ⟨by rfl, ?_⟩) ?_ ?_
        rotate_left
        · intro w'
          go_simp
          with_reducible rfl
        rotate_left
        · simp only [Act.put, List.setIfInBounds_toArray, List.set_cons_zero, List.set_cons_succ, i64_w, i32_w]
          rfl
        refine pure_ (i := 16) (N := some 9) (v := ?_) (a' := ?_) #[true, true, true, true, true, true, true, true, true, true, true, true, true, true, true, true, true, false] rfl rfl (by kernel_rfl) (fun _ _ _ h => h) (Or.inl ⟨by rfl, ?_⟩) ?_ ?_
        rotate_left
        · intro w'
          go_simp
          with_reducible rfl
        rotate_left
        · simp only [Act.put, List.setIfInBounds_toArray, List.set_cons_zero, List.set_cons_succ, i64_w, i32_w]
          rfl
        refine pure_ (i := 17) (N := some 7) (v := ?_) (a' := ?_) #[true, true, true, true, true, true, true, true, true, true, true, true, true, true, true, true, true, true] rfl rfl (by kernel_rfl) (fun _ _ _ h => h) (Or.inl ⟨by rfl, ?_⟩) ?_ ?_
        rotate_left
        · intro w'
          go_simp
          with_reducible rfl
        rotate_left
        · simp only [Act.put, List.setIfInBounds_toArray, List.set_cons_zero, List.set_cons_succ, i64_w, i32_w]
          rfl
        refine done_ (by kernel_rfl) ?_
        clear HQd HQ1 HQ2 HSU HLE HCL HR4 q1 hw0 hwd
        have HTO : Hid (topOf d0 x ⟨p0, p1, p2, p3, p4, l5, l6⟩ = way (leaf D2) p0.toNat d0.toNat l6) := Lib.hid (by
          unfold topOf
          rw [← HM.out]
          change (way (leaf M) p3.toNat p4.toNat l5).bind _ = _
          rw [HW1.out, Option.bind_some, HD.out])
        rcases hw2 with ⟨rfl, hw2⟩ | ⟨rfl, hw2⟩
        · rw [hw2] at HTO
          clear hw2
          have hB := HQ3.out.b
          have g51 := (blk_cell HQ3.out.h5 1).trans rfl
          by_cases he : r2 = d1
          · obtain rfl : V = 0 := by
              rw [← HV.out]
              unfold vfy
              rw [HCX.out, if_pos ⟨rfl, HS.out⟩, if_pos ⟨HG.out, by rw [HTO.out, he]⟩]
            have e1 : (r2.toList == d1.toList) = true := by rw [he]; exact beq_iff_eq.2 rfl
            have e2 : (r2.toList != d1.toList) = false := by rw [he]; exact bne_eq_false_iff_eq.2 rfl
            clear he
            go_wp2_with fail
            go_ret
            exact ⟨rfl, hB⟩
          · obtain rfl : V = 80 := by
              rw [← HV.out]
              unfold vfy
              rw [HCX.out, if_pos ⟨rfl, HS.out⟩, if_neg (fun h => he (by rw [HTO.out] at h; exact Option.some.inj h.2))]
            have hne : r2.toList ≠ d1.toList := fun h => he (toList_eq_iff.1 h)
            have e1 : (r2.toList == d1.toList) = false := beq_eq_false_iff_ne.2 hne
            have e2 : (r2.toList != d1.toList) = true := bne_iff_ne.2 hne
            clear he hne
            go_wp2_with fail
            go_ret
            exact ⟨rfl, hB⟩
        · obtain rfl : V = 80 := by
            rw [← HV.out]
            unfold vfy
            rw [HCX.out, if_pos ⟨rfl, HS.out⟩, if_neg (fun h => by rw [HTO.out, hw2] at h; cases h.2)]
          have hB := HQ3.out.b
          clear hw2
          go_wp2_with fail
          go_ret
          exact ⟨rfl, hB⟩
      · obtain rfl : V = 80 := by
          rw [← HV.out]
          unfold vfy
          rw [HCX.out, if_pos ⟨rfl, HS.out⟩, if_neg (fun h => ?_)]
          have h2 := h.2
          unfold topOf at h2
          rw [← HM.out] at h2
          change (way (leaf M) p3.toNat p4.toNat l5).bind _ = _ at h2
          rw [hw1] at h2
          cases h2
        have hB := HQ3.out.b
        clear hw1
        go_wp2_with fail
        go_ret
        exact ⟨rfl, hB⟩
    · rw [decide_eq_true hG]
      obtain rfl : V = 80 := by rw [← HV.out]; unfold vfy; rw [HCX.out, if_pos ⟨rfl, HS.out⟩, if_neg (fun h => hG h.1)]
      have hB := HQ.out.b
      clear hG
      go_wp2_with fail
      go_ret
      exact ⟨rfl, hB⟩
  · have hd : decide (¬ (cx = 0 ∧ d1.size = 32)) = true := decide_eq_true hA
    rw [hd]
    obtain rfl : V = 1 := by rw [← HV.out]; unfold vfy; rw [HCX.out, if_neg hA]
    have hB := HQ.out.b
    clear hd hA hcc
    go_wp2_with fail
    go_ret
    exact ⟨rfl, hB⟩
end Go.Proofs.Ytdcbacbilncnnaa.T
end
section
/- ProofVerifies, walked. Written by wip/genpv.py. -/
set_option linter.unusedVariables false
set_option linter.unusedSimpArgs false
namespace Go.Proofs.Ytdcbacbilncnnaa.T
open Go.RowKit Go.Proofs.Ytdcbacbilncnnaa.PMk Go.Proofs.Ytdcbacbilncnnaa.M Go.Proofs.Ytdcbacbilncnnaa.EncS Go.Proofs.Ytdcbacbilncnnaa.EncL Go.Proofs.YtdcbacbilncnnaaW.PrintWords Go.Proofs.YtdcbacbilncnnaaW.PrintLast
theorem want_V (d0 : Int) (d1 : ByteArray) (x : S47) (p0 : Int) (p1 : ByteArray) (p2 p3 p4 : Int) (A5 : Option Addr) (m5 c5 : Nat) (A6 : Option Addr) (m6 c6 : Nat) (l5 l6 : List ByteArray) (V : Int) (hV : vfy d0 d1 x ⟨p0, p1, p2, p3, p4, l5, l6⟩ = V) (hl5 : l5.length = m5) (hl6 : l6.length = m6) (h5 : m5 ≤ c5) (h6 : m6 ≤ c6) (k5 : m5 ≤ 65) (k6 : m6 ≤ 65) (f : FitsV x ⟨p0, p1, p2, p3, p4, l5, l6⟩) (g : d0 < 18446744073709551616) (w : World) (a : Kd.C Kd.string w A5 m5 l5) (b : Kd.C Kd.string w A6 m6 l6) : Calls Try.prog 25 #[.agg #[.int .u64 d0, .string d1, .int .i64 x.f0, .string x.f1, .string x.f2, .int .u64 x.f3, .int .u64 x.f4, .string x.f5, .string x.f6, .bool x.f7, .int .u64 p0, .string p1, .int .u64 p2, .int .i64 p3, .int .i64 p4, .slice A5 m5 c5, .slice A6 m6 c6]] w fun e w' => e = .returned (.int .i64 V) ∧ Below w.heap.size w w' := by
  subst hV
  exact want_raw d0 d1 x p0 p1 p2 p3 p4 A5 m5 c5 A6 m6 c6 l5 l6 w hl5 hl6 h5 h6 (by omega) (by omega) a b f g
theorem ver_V (d0 : Int) (d1 : ByteArray) (x : S47) (p0 : Int) (p1 : ByteArray) (p2 p3 p4 : Int) (A5 : Option Addr) (m5 c5 : Nat) (A6 : Option Addr) (m6 c6 : Nat) (l5 l6 : List ByteArray) (V : Int) (hV : vfy d0 d1 x ⟨p0, p1, p2, p3, p4, l5, l6⟩ = V) (hl5 : l5.length = m5) (hl6 : l6.length = m6) (h5 : m5 ≤ c5) (h6 : m6 ≤ c6) (k5 : m5 ≤ 65) (k6 : m6 ≤ 65) (f : FitsV x ⟨p0, p1, p2, p3, p4, l5, l6⟩) (g : d0 < 18446744073709551616) (w : World) (a : Kd.C Kd.string w A5 m5 l5) (b : Kd.C Kd.string w A6 m6 l6) : Calls Try.prog 24 #[.agg #[.int .u64 d0, .string d1], .agg #[.int .i64 x.f0, .string x.f1, .string x.f2, .int .u64 x.f3, .int .u64 x.f4, .string x.f5, .string x.f6, .bool x.f7], .agg #[.int .u64 p0, .string p1, .int .u64 p2, .int .i64 p3, .int .i64 p4, .slice A5 m5 c5, .slice A6 m6 c6]] w fun e w' => e = .returned (.int .i64 V) ∧ Below w.heap.size w w' :=
  verify_prf d0 d1 x ⟨p0, p1, p2, p3, p4, l5, l6⟩ A5 m5 c5 A6 m6 c6 V hl5 hl6 h5 h6 f hV w a b
set_option maxRecDepth 100000 in
set_option maxHeartbeats 40000000 in
theorem pv_raw (d0 : Int) (d1 : ByteArray) (x : S47) (p0 : Int) (p1 : ByteArray) (p2 p3 p4 : Int) (A5 : Option Addr) (n5 c5 : Nat) (A6 : Option Addr) (n6 c6 m5 m6 : Nat) (l5 l6 : List ByteArray) (w : World) (hm5 : min n5 65 = m5) (hm6 : min n6 65 = m6) (h5 : n5 ≤ c5) (h6 : n6 ≤ c6) (hl5 : l5.length = m5) (hl6 : l6.length = m6) (hC5 : Kd.C Kd.string w A5 m5 l5) (hC6 : Kd.C Kd.string w A6 m6 l6) (f : FitsV x ⟨p0, p1, p2, p3, p4, l5, l6⟩) (g : d0 < 18446744073709551616) :
    Calls Try.prog 5 #[.agg #[.int .u64 d0, .string d1, .int .i64 x.f0, .string x.f1, .string x.f2, .int .u64 x.f3, .int .u64 x.f4, .string x.f5, .string x.f6, .bool x.f7, .int .u64 p0, .string p1, .int .u64 p2, .int .i64 p3, .int .i64 p4, .slice A5 n5 c5, .slice A6 n6 c6]] w fun e w' => e = .returned (.bool true) ∧ Below w.heap.size w w' := by
  obtain ⟨V, hV⟩ : ∃ v, vfy d0 d1 x ⟨p0, p1, p2, p3, p4, l5, l6⟩ = v := ⟨_, rfl⟩
  have HCUT := Lib.hid (fun w' => cut_raw d0 d1 x p0 p1 p2 p3 p4 A5 n5 c5 A6 n6 c6 w' m5 m6 hm5 hm6 h5 h6)
  have HWANT := Lib.hid (want_V d0 d1 x p0 p1 p2 p3 p4 A5 m5 c5 A6 m6 c6 l5 l6 V hV hl5 hl6 (by omega) (by omega) (by omega) (by omega) f g)
  have HVER := Lib.hid (ver_V d0 d1 x p0 p1 p2 p3 p4 A5 m5 c5 A6 m6 c6 l5 l6 V hV hl5 hl6 (by omega) (by omega) (by omega) (by omega) f g)
  have HB0 := Lib.hid ((Below.refl w.heap.size w).alloc (Nat.le_refl _) (.cells #[.int .u64 d0, .string d1, .int .i64 x.f0, .string x.f1, .string x.f2, .int .u64 x.f3, .int .u64 x.f4, .string x.f5, .string x.f6, .bool x.f7, .int .u64 p0, .string p1, .int .u64 p2, .int .i64 p3, .int .i64 p4, .slice A5 n5 c5, .slice A6 n6 c6] 55))
  have HC5 := Lib.hid hC5
  have HC6 := Lib.hid hC6
  clear hm5 hm6 h5 h6 hl5 hl6 hC5 hC6 f g hV
  go_enter Try.func5, Try.ntmps5
  go_upto_region 2 with (go_at_call 22; refine (HCUT.out _).mono ?_; rintro e w1 ⟨rfl, hb⟩; have HY := Lib.hid (heap_alloc_new w1 (.cells #[.int .u64 d0, .string d1, .int .i64 x.f0, .string x.f1, .string x.f2, .int .u64 x.f3, .int .u64 x.f4, .string x.f5, .string x.f6, .bool x.f7, .int .u64 p0, .string p1, .int .u64 p2, .int .i64 p3, .int .i64 p4, .slice A5 m5 c5, .slice A6 m6 c6] 55 (0, 0))); have HB1 := Lib.hid ((HB0.out.trans (hb.mono HB0.out.size)).alloc (Nat.le_trans HB0.out.size hb.size) (.cells #[.int .u64 d0, .string d1, .int .i64 x.f0, .string x.f1, .string x.f2, .int .u64 x.f3, .int .u64 x.f4, .string x.f5, .string x.f6, .bool x.f7, .int .u64 p0, .string p1, .int .u64 p2, .int .i64 p3, .int .i64 p4, .slice A5 m5 c5, .slice A6 m6 c6] 55 (0, 0))); clear hb)
  clear HCUT HB0
  generalize w1.alloc (.cells #[.int .u64 d0, .string d1, .int .i64 x.f0, .string x.f1, .string x.f2, .int .u64 x.f3, .int .u64 x.f4, .string x.f5, .string x.f6, .bool x.f7, .int .u64 p0, .string p1, .int .u64 p2, .int .i64 p3, .int .i64 p4, .slice A5 m5 c5, .slice A6 m6 c6] 55 (0, 0)) = W1 at HY HB1 ⊢
  generalize w1.heap.size = gY at HY ⊢
  have HBd := Lib.hid (HB1.out.trans ((below_drew (Below.refl _ _) : Below W1.heap.size W1 W1.drew).mono HB1.out.size))
  have HYd : Hid (W1.drew.heap[gY]? = some (.cells #[.int .u64 d0, .string d1, .int .i64 x.f0, .string x.f1, .string x.f2, .int .u64 x.f3, .int .u64 x.f4, .string x.f5, .string x.f6, .bool x.f7, .int .u64 p0, .string p1, .int .u64 p2, .int .i64 p3, .int .i64 p4, .slice A5 m5 c5, .slice A6 m6 c6] 55 (0, 0))) := Lib.hid HY.out
  as_aux_lemma =>
  refine start_ (n := 14) (S := fun w' => w'.cell? ⟨gY, 0, none⟩ = some (.int .u64 d0) ∧ w'.cell? ⟨gY, 1, none⟩ = some (.string d1) ∧ w'.cell? ⟨gY, 2, none⟩ = some (.int .i64 x.f0) ∧ w'.cell? ⟨gY, 3, none⟩ = some (.string x.f1) ∧ w'.cell? ⟨gY, 4, none⟩ = some (.string x.f2) ∧ w'.cell? ⟨gY, 5, none⟩ = some (.int .u64 x.f3) ∧ w'.cell? ⟨gY, 6, none⟩ = some (.int .u64 x.f4) ∧ w'.cell? ⟨gY, 7, none⟩ = some (.string x.f5) ∧ w'.cell? ⟨gY, 8, none⟩ = some (.string x.f6) ∧ w'.cell? ⟨gY, 9, none⟩ = some (.bool x.f7) ∧ w'.cell? ⟨gY, 10, none⟩ = some (.int .u64 p0) ∧ w'.cell? ⟨gY, 11, none⟩ = some (.string p1) ∧ w'.cell? ⟨gY, 12, none⟩ = some (.int .u64 p2) ∧ w'.cell? ⟨gY, 13, none⟩ = some (.int .i64 p3) ∧ w'.cell? ⟨gY, 14, none⟩ = some (.int .i64 p4) ∧ w'.cell? ⟨gY, 15, none⟩ = some (.slice A5 m5 c5) ∧ w'.cell? ⟨gY, 16, none⟩ = some (.slice A6 m6 c6)) (ds := []) #[false, false, false, false, false, false, false, false, false, false, false, false, false, false] (by kernel_rfl) rfl rfl ⟨(blk_cell HY.out 0).trans rfl, (blk_cell HY.out 1).trans rfl, (blk_cell HY.out 2).trans rfl, (blk_cell HY.out 3).trans rfl, (blk_cell HY.out 4).trans rfl, (blk_cell HY.out 5).trans rfl, (blk_cell HY.out 6).trans rfl, (blk_cell HY.out 7).trans rfl, (blk_cell HY.out 8).trans rfl, (blk_cell HY.out 9).trans rfl, (blk_cell HY.out 10).trans rfl, (blk_cell HY.out 11).trans rfl, (blk_cell HY.out 12).trans rfl, (blk_cell HY.out 13).trans rfl, (blk_cell HY.out 14).trans rfl, (blk_cell HY.out 15).trans rfl, (blk_cell HY.out 16).trans rfl⟩ (fun hHeld => ?_)
  refine one_ (i := 0) (N := some 6) #[true, false, false, false, false, false, false, false, false, false, false, false, false, false] rfl rfl (by kernel_rfl) (by decide) (fun K hK => ?_)
  refine goes_ Try.func23 (by kernel_rfl) rfl #[] (by rfl) rfl rfl (by simp only [List.map_toArray, List.map_nil]) ?_
  with_reducible refine (awake22 _).mono ?_
  rintro e w3 ⟨rfl, hb⟩
  refine ⟨_, rfl, ?_⟩
  have HY1 := Lib.hid (blk_below HYd.out hb)
  have HB2 := Lib.hid (HBd.out.trans (hb.mono HBd.out.size))
  clear hb
  refine hK.out _ _ ⟨(blk_cell HY1.out 0).trans rfl, (blk_cell HY1.out 1).trans rfl, (blk_cell HY1.out 2).trans rfl, (blk_cell HY1.out 3).trans rfl, (blk_cell HY1.out 4).trans rfl, (blk_cell HY1.out 5).trans rfl, (blk_cell HY1.out 6).trans rfl, (blk_cell HY1.out 7).trans rfl, (blk_cell HY1.out 8).trans rfl, (blk_cell HY1.out 9).trans rfl, (blk_cell HY1.out 10).trans rfl, (blk_cell HY1.out 11).trans rfl, (blk_cell HY1.out 12).trans rfl, (blk_cell HY1.out 13).trans rfl, (blk_cell HY1.out 14).trans rfl, (blk_cell HY1.out 15).trans rfl, (blk_cell HY1.out 16).trans rfl⟩ (fun hHeld => ?_)
  clear hK K
  refine norm_ (a' := ?_) ?_ ?_
  rotate_left
  · show Act.put _ (some 6) _ = _
    simp only [Act.put, List.setIfInBounds_toArray, List.set_cons_zero, List.set_cons_succ, i64_w, i32_w]
    rfl
  refine pure_ (i := 1) (N := some 7) (v := ?_) (a' := ?_) #[true, true, false, false, false, false, false, false, false, false, false, false, false, false] rfl rfl (by kernel_rfl) (fun _ _ _ h => h) (Or.inl ⟨by rfl, ?_⟩) ?_ ?_
  rotate_left
  · intro w'
    go_simp
    with_reducible rfl
  rotate_left
  · simp only [Act.put, List.setIfInBounds_toArray, List.set_cons_zero, List.set_cons_succ, i64_w, i32_w]
    rfl
  refine pure_ (i := 2) (N := some 8) (v := ?_) (a' := ?_) #[true, true, true, false, false, false, false, false, false, false, false, false, false, false] rfl rfl (by kernel_rfl) (fun _ _ _ h => h) (Or.inl ⟨by rfl, ?_⟩) ?_ ?_
  rotate_left
  · intro w'
    go_simp
    with_reducible rfl
  rotate_left
  · simp only [Act.put, List.setIfInBounds_toArray, List.set_cons_zero, List.set_cons_succ, i64_w, i32_w]
    rfl
  refine pure_ (i := 4) (N := some 10) (v := ?_) (a' := ?_) #[true, true, true, false, true, false, false, false, false, false, false, false, false, false] rfl rfl (by kernel_rfl) (fun _ _ _ h => h) (Or.inl ⟨by rfl, ?_⟩) ?_ ?_
  rotate_left
  · intro w'
    go_simp
    with_reducible rfl
  rotate_left
  · simp only [Act.put, List.setIfInBounds_toArray, List.set_cons_zero, List.set_cons_succ, i64_w, i32_w]
    rfl
  refine pure_ (i := 6) (N := some 12) (v := ?_) (a' := ?_) #[true, true, true, false, true, false, true, false, false, false, false, false, false, false] rfl rfl (by kernel_rfl) (fun _ _ _ h => h) (Or.inl ⟨by rfl, ?_⟩) ?_ ?_
  rotate_left
  · intro w'
    go_simp
    with_reducible rfl
  rotate_left
  · simp only [Act.put, List.setIfInBounds_toArray, List.set_cons_zero, List.set_cons_succ, i64_w, i32_w]
    rfl
  refine take_ (i := 3) (N := some 9) (v := ?_) (a' := ?_) #[true, true, true, true, true, false, true, false, false, false, false, false, false, false] rfl rfl (by kernel_rfl) (fun _ _ _ h => h) (Or.inl ⟨by rfl, ?_⟩) hHeld ?_ ?_
  rotate_left
  · rintro w' ⟨s0, s1, s2, s3, s4, s5, s6, s7, s8, s9, s10, s11, s12, s13, s14, s15, s16⟩
    go_simp
    with_reducible rfl
  rotate_left
  · simp only [Act.put, List.setIfInBounds_toArray, List.set_cons_zero, List.set_cons_succ, i64_w, i32_w]
    rfl
  refine take_ (i := 5) (N := some 11) (v := ?_) (a' := ?_) #[true, true, true, true, true, true, true, false, false, false, false, false, false, false] rfl rfl (by kernel_rfl) (fun _ _ _ h => h) (Or.inl ⟨by rfl, ?_⟩) hHeld ?_ ?_
  rotate_left
  · rintro w' ⟨s0, s1, s2, s3, s4, s5, s6, s7, s8, s9, s10, s11, s12, s13, s14, s15, s16⟩
    go_simp
    with_reducible rfl
  rotate_left
  · simp only [Act.put, List.setIfInBounds_toArray, List.set_cons_zero, List.set_cons_succ, i64_w, i32_w]
    rfl
  refine take_ (i := 7) (N := some 13) (v := ?_) (a' := ?_) #[true, true, true, true, true, true, true, true, false, false, false, false, false, false] rfl rfl (by kernel_rfl) (fun _ _ _ h => h) (Or.inl ⟨by rfl, ?_⟩) hHeld ?_ ?_
  rotate_left
  · rintro w' ⟨s0, s1, s2, s3, s4, s5, s6, s7, s8, s9, s10, s11, s12, s13, s14, s15, s16⟩
    go_simp
    with_reducible rfl
  rotate_left
  · simp only [Act.put, List.setIfInBounds_toArray, List.set_cons_zero, List.set_cons_succ, i64_w, i32_w]
    rfl
  refine take_ (i := 9) (N := some 15) (v := ?_) (a' := ?_) #[true, true, true, true, true, true, true, true, false, true, false, false, false, false] rfl rfl (by kernel_rfl) (fun _ _ _ h => h) (Or.inl ⟨by rfl, ?_⟩) hHeld ?_ ?_
  rotate_left
  · rintro w' ⟨s0, s1, s2, s3, s4, s5, s6, s7, s8, s9, s10, s11, s12, s13, s14, s15, s16⟩
    go_simp
    with_reducible rfl
  rotate_left
  · simp only [Act.put, List.setIfInBounds_toArray, List.set_cons_zero, List.set_cons_succ, i64_w, i32_w]
    rfl
  refine one_ (i := 8) (N := some 14) #[true, true, true, true, true, true, true, true, true, true, false, false, false, false] rfl rfl (by kernel_rfl) (by decide) (fun K hK => ?_)
  refine goes_ Try.func24 (by kernel_rfl) rfl #[.agg #[.int .u64 d0, .string d1], .agg #[.int .i64 x.f0, .string x.f1, .string x.f2, .int .u64 x.f3, .int .u64 x.f4, .string x.f5, .string x.f6, .bool x.f7], .agg #[.int .u64 p0, .string p1, .int .u64 p2, .int .i64 p3, .int .i64 p4, .slice A5 m5 c5, .slice A6 m6 c6]] (by rfl) rfl rfl (by simp only [List.map_toArray, List.map_cons, List.map_nil]; rfl) ?_
  with_reducible refine (HVER.out _ (Kd.C_below HC5.out HB2.out) (Kd.C_below HC6.out HB2.out)).mono ?_
  rintro e w3 ⟨rfl, hb⟩
  refine ⟨_, rfl, ?_⟩
  have HY2 := Lib.hid (blk_below HY1.out hb)
  have HB3 := Lib.hid (HB2.out.trans (hb.mono HB2.out.size))
  clear hb
  refine hK.out _ _ ⟨(blk_cell HY2.out 0).trans rfl, (blk_cell HY2.out 1).trans rfl, (blk_cell HY2.out 2).trans rfl, (blk_cell HY2.out 3).trans rfl, (blk_cell HY2.out 4).trans rfl, (blk_cell HY2.out 5).trans rfl, (blk_cell HY2.out 6).trans rfl, (blk_cell HY2.out 7).trans rfl, (blk_cell HY2.out 8).trans rfl, (blk_cell HY2.out 9).trans rfl, (blk_cell HY2.out 10).trans rfl, (blk_cell HY2.out 11).trans rfl, (blk_cell HY2.out 12).trans rfl, (blk_cell HY2.out 13).trans rfl, (blk_cell HY2.out 14).trans rfl, (blk_cell HY2.out 15).trans rfl, (blk_cell HY2.out 16).trans rfl⟩ (fun hHeld => ?_)
  clear hK K
  refine norm_ (a' := ?_) ?_ ?_
  rotate_left
  · show Act.put _ (some 14) _ = _
    simp only [Act.put, List.setIfInBounds_toArray, List.set_cons_zero, List.set_cons_succ, i64_w, i32_w]
    rfl
  refine one_ (i := 10) (N := some 16) #[true, true, true, true, true, true, true, true, true, true, true, false, false, false] rfl rfl (by kernel_rfl) (by decide) (fun K hK => ?_)
  refine goes_ Try.func25 (by kernel_rfl) rfl #[.agg #[.int .u64 d0, .string d1, .int .i64 x.f0, .string x.f1, .string x.f2, .int .u64 x.f3, .int .u64 x.f4, .string x.f5, .string x.f6, .bool x.f7, .int .u64 p0, .string p1, .int .u64 p2, .int .i64 p3, .int .i64 p4, .slice A5 m5 c5, .slice A6 m6 c6]] (by rfl) rfl rfl (by simp only [List.map_toArray, List.map_cons, List.map_nil]; rfl) ?_
  with_reducible refine (HWANT.out _ (Kd.C_below HC5.out HB3.out) (Kd.C_below HC6.out HB3.out)).mono ?_
  rintro e w3 ⟨rfl, hb⟩
  refine ⟨_, rfl, ?_⟩
  have HY3 := Lib.hid (blk_below HY2.out hb)
  have HB4 := Lib.hid (HB3.out.trans (hb.mono HB3.out.size))
  clear hb
  refine hK.out _ _ ⟨(blk_cell HY3.out 0).trans rfl, (blk_cell HY3.out 1).trans rfl, (blk_cell HY3.out 2).trans rfl, (blk_cell HY3.out 3).trans rfl, (blk_cell HY3.out 4).trans rfl, (blk_cell HY3.out 5).trans rfl, (blk_cell HY3.out 6).trans rfl, (blk_cell HY3.out 7).trans rfl, (blk_cell HY3.out 8).trans rfl, (blk_cell HY3.out 9).trans rfl, (blk_cell HY3.out 10).trans rfl, (blk_cell HY3.out 11).trans rfl, (blk_cell HY3.out 12).trans rfl, (blk_cell HY3.out 13).trans rfl, (blk_cell HY3.out 14).trans rfl, (blk_cell HY3.out 15).trans rfl, (blk_cell HY3.out 16).trans rfl⟩ (fun hHeld => ?_)
  clear hK K
  refine norm_ (a' := ?_) ?_ ?_
  rotate_left
  · show Act.put _ (some 16) _ = _
    simp only [Act.put, List.setIfInBounds_toArray, List.set_cons_zero, List.set_cons_succ, i64_w, i32_w]
    rfl
  refine pure_ (i := 11) (N := some 17) (v := ?_) (a' := ?_) #[true, true, true, true, true, true, true, true, true, true, true, true, false, false] rfl rfl (by kernel_rfl) (fun _ _ _ h => h) (Or.inl ⟨by rfl, ?_⟩) ?_ ?_
  rotate_left
  · intro w'
    go_simp
    with_reducible rfl
  rotate_left
  · simp only [Act.put, List.setIfInBounds_toArray, List.set_cons_zero, List.set_cons_succ, i64_w, i32_w]
    rfl
  refine pure_ (i := 12) (N := some 18) (v := ?_) (a' := ?_) #[true, true, true, true, true, true, true, true, true, true, true, true, true, false] rfl rfl (by kernel_rfl) (fun _ _ _ h => h) (Or.inl ⟨by rfl, ?_⟩) ?_ ?_
  rotate_left
  · intro w'
    go_simp
    with_reducible rfl
  rotate_left
  · simp only [Act.put, List.setIfInBounds_toArray, List.set_cons_zero, List.set_cons_succ, i64_w, i32_w]
    rfl
  refine pure_ (i := 13) (N := some 2) (v := ?_) (a' := ?_) #[true, true, true, true, true, true, true, true, true, true, true, true, true, true] rfl rfl (by kernel_rfl) (fun _ _ _ h => h) (Or.inl ⟨by rfl, ?_⟩) ?_ ?_
  rotate_left
  · intro w'
    go_simp
    with_reducible rfl
  rotate_left
  · simp only [Act.put, List.setIfInBounds_toArray, List.set_cons_zero, List.set_cons_succ, i64_w, i32_w]
    rfl
  refine done_ (by kernel_rfl) ?_
  go_wp2_with fail
  go_ret
  exact ⟨rfl, HB4.out⟩
end Go.Proofs.Ytdcbacbilncnnaa.T
end
section
/- What comes in is laid open: revisions, blocks. -/
set_option linter.unusedVariables false
set_option linter.unusedSimpArgs false
namespace Go.Proofs.Ytdcbacbilncnnaa.Opn
open Go.Joins Go.ChangeShapes Go.WideShapes Go.ChangeAt Go.RowKit Go.Deep Go.Proofs.Ytdcbacbilncnnaa.PMk Go.Proofs.Ytdcbacbilncnnaa.T Go.Proofs.Ytdcbacbilncnnaa.EncL Go.Proofs.YtdcbacbilncnnaaW.PrintWords Go.Proofs.YtdcbacbilncnnaaW.PrintLast
/-- A revision that a caller can hand in. -/
structure Wide (x : S47) : Prop where
  d0 : 0 ≤ x.f3
  d1 : x.f3 < 18446744073709551616
  v0 : 0 ≤ x.f4
  v1 : x.f4 < 18446744073709551616
  t : x.f1.size ≤ 140737488351232
  f : x.f2.size ≤ 140737488351232
  h : x.f5.size ≤ 140737488351232
  b : x.f6.size ≤ 140737488351232
theorem u64_wf (a : Int) (h : (Lit.int .u64 a).wf = true) : 0 ≤ a ∧ a < 18446744073709551616 := by
  simp [Lit.wf, IntKind.min, IntKind.max, IntKind.signed, IntKind.bits] at h
  omega
instance : Inhabited S47 := ⟨z47⟩
section
variable {H : Type} {enc : TypeId × Value → H} {W : World} {base : Nat} {sp : Nat → Bool} {held : Bool}
abbrev vals (x : S47) : List Value := [.int .i64 x.f0, .string x.f1, .string x.f2, .int .u64 x.f3, .int .u64 x.f4, .string x.f5, .string x.f6, .bool x.f7]
theorem data_len (s : ByteArray) : s.data.toList.length = s.size := by rw [Array.length_toList]; rfl
set_option maxRecDepth 20000 in
theorem open_rev {n : Nat} {cs : List Value} {y : DataW H × List MemPlace} (h : DataW.trod enc Try.prog W base sp held n 47 cs = some y) :
    ∃ x : S47, cs = vals x ∧ ((∀ m ∈ y.1.weights Try.prog 47, m ≤ reachBytes) → Wide x) := by
  obtain ⟨xs, k, _, hy, hcl, hxl, hf⟩ := DataW.trod_struct Try.underlying47 h
  have c47 : Try.prog.cellsOf 47 = 8 := by kernel_rfl
  have c3 : Try.prog.cellsOf 3 = 1 := by kernel_rfl
  have c9 : Try.prog.cellsOf 9 = 1 := by kernel_rfl
  have c22 : Try.prog.cellsOf 22 = 1 := by kernel_rfl
  have c4 : Try.prog.cellsOf 4 = 1 := by kernel_rfl
  rw [c47] at hcl
  match xs, hxl, cs, hcl with
  | [y0, y1, y2, y3, y4, y5, y6, y7], _, [v0, v1, v2, v3, v4, v5, v6, v7], _ =>
    have g0 := hf 0 _ rfl
    have g1 := hf 1 _ rfl
    have g2 := hf 2 _ rfl
    have g3 := hf 3 _ rfl
    have g4 := hf 4 _ rfl
    have g5 := hf 5 _ rfl
    have g6 := hf 6 _ rfl
    have g7 := hf 7 _ rfl
    simp [c3, c9, c22, c4] at g0 g1 g2 g3 g4 g5 g6 g7
    obtain ⟨n0, e0, d0, _⟩ := DataW.trod_int Try.underlying3 g0
    obtain ⟨s1, e1, d1, _⟩ := DataW.trod_string Try.underlying9 g1
    obtain ⟨s2, e2, d2, _⟩ := DataW.trod_string Try.underlying9 g2
    obtain ⟨n3, e3, d3, w3⟩ := DataW.trod_int Try.underlying22 g3
    obtain ⟨n4, e4, d4, w4⟩ := DataW.trod_int Try.underlying22 g4
    obtain ⟨s5, e5, d5, _⟩ := DataW.trod_string Try.underlying9 g5
    obtain ⟨s6, e6, d6, _⟩ := DataW.trod_string Try.underlying9 g6
    obtain ⟨b7, e7, d7⟩ := DataW.trod_bool Try.underlying4 g7
    simp only [List.cons.injEq, and_true] at e0 e1 e2 e3 e4 e5 e6 e7
    subst e0 e1 e2 e3 e4 e5 e6 e7
    refine ⟨⟨n0, s1, s2, n3, n4, s5, s6, b7⟩, rfl, fun hw => ?_⟩
    have hu := Try.underlying47
    subst d0 d1 d2 d3 d4 d5 d6 d7
    rw [hy] at hw
    simp only [List.map_cons, List.map_nil, DataW.weights, hu, DataW.weightsEach, List.nil_append, List.append_nil, List.cons_append, List.mem_cons, List.not_mem_nil, or_false, forall_eq_or_imp, forall_eq, data_len, List.toList_toArray] at hw
    obtain ⟨q1, q2, q5, q6⟩ := hw
    obtain ⟨a3, b3⟩ := u64_wf _ w3
    obtain ⟨a4, b4⟩ := u64_wf _ w4
    exact ⟨a3, b3, a4, b4, q1, q2, q5, q6⟩
end
end Go.Proofs.Ytdcbacbilncnnaa.Opn
end
section
/- What comes in is laid open: what is shown, by what. -/
set_option linter.unusedVariables false
set_option linter.unusedSimpArgs false
namespace Go.Proofs.Ytdcbacbilncnnaa.Opn
open Go.Joins Go.ChangeShapes Go.WideShapes Go.ChangeAt Go.RowKit Go.Deep Go.Proofs.Ytdcbacbilncnnaa.PMk Go.Proofs.Ytdcbacbilncnnaa.T Go.Proofs.Ytdcbacbilncnnaa.EncL Go.Proofs.YtdcbacbilncnnaaW.PrintWords Go.Proofs.YtdcbacbilncnnaaW.PrintLast
section
variable {H : Type} {enc : TypeId × Value → H} {W : World} {base : Nat} {sp : Nat → Bool} {held : Bool}
/-- A slice of strings that came in. -/
theorem open_texts {fuel : Nat} {v : Value} {x : DataW H × List MemPlace} (h : DataW.trod enc Try.prog W base sp held fuel 51 [v] = some x) :
    ∃ A c l, v = .slice A l.length c ∧ l.length ≤ c ∧ Kd.C Kd.string W A l.length l := by
  rcases open_strs Try.underlying51 Try.underlying9 (by kernel_rfl) h with ⟨hcs, _⟩ | ⟨a, len, cap, m, Sx, hcs, hb, hl, hm, hmm, hx, hi⟩
  · simp at hcs
    subst hcs
    exact ⟨none, 0, [], rfl, Nat.le_refl _, Kd.C_nil _ _⟩
  · simp at hcs
    subst hcs
    have hlm : len ≤ m := by rw [hmm]; split <;> omega
    refine ⟨some a, cap, (List.range len).map Sx, by simp, by simpa using hl, Kd.C_of_reads (h1 := fun _ => rfl) (d := ByteArray.empty) ⟨rfl, ?_, fun _ => ⟨a, rfl, fun j hj => ?_⟩⟩⟩
    · simp; have : maxLen ≤ 9223372036854775807 := by decide
      omega
    · simp at hj
      have e : ((List.range len).map Sx).getD j ByteArray.empty = Sx j := by simp [hj]
      rw [e]
      exact (hi j (by omega)).1
set_option maxRecDepth 20000 in
/-- A digest that came in. -/
theorem open_digest {n : Nat} {cs : List Value} {y : DataW H × List MemPlace} (h : DataW.trod enc Try.prog W base sp held n 50 cs = some y) :
    ∃ (d0 : Int) (d1 : ByteArray), cs = [.int .u64 d0, .string d1] ∧ 0 ≤ d0 ∧ d0 < 18446744073709551616 := by
  obtain ⟨xs, k, _, hy, hcl, hxl, hf⟩ := DataW.trod_struct Try.underlying50 h
  have c50 : Try.prog.cellsOf 50 = 2 := by kernel_rfl
  have c9 : Try.prog.cellsOf 9 = 1 := by kernel_rfl
  have c22 : Try.prog.cellsOf 22 = 1 := by kernel_rfl
  rw [c50] at hcl
  match xs, hxl, cs, hcl with
  | [y0, y1], _, [v0, v1], _ =>
    have g0 := hf 0 _ rfl
    have g1 := hf 1 _ rfl
    simp [c9, c22] at g0 g1
    obtain ⟨n0, e0, d0, w0⟩ := DataW.trod_int Try.underlying22 g0
    obtain ⟨s1, e1, d1, _⟩ := DataW.trod_string Try.underlying9 g1
    simp only [List.cons.injEq, and_true] at e0 e1
    subst e0 e1
    obtain ⟨a, b⟩ := u64_wf _ w0
    exact ⟨n0, s1, rfl, a, b⟩
set_option maxRecDepth 20000 in
/-- A proof that came in. -/
theorem open_proof {n : Nat} {cs : List Value} {y : DataW H × List MemPlace} (h : DataW.trod enc Try.prog W base sp held n 53 cs = some y) :
    ∃ (p0 : Int) (p1 : ByteArray) (p2 p3 p4 : Int) (A5 : Option Addr) (c5 : Nat) (l5 : List ByteArray) (A6 : Option Addr) (c6 : Nat) (l6 : List ByteArray), cs = [.int .u64 p0, .string p1, .int .u64 p2, .int .i64 p3, .int .i64 p4, .slice A5 l5.length c5, .slice A6 l6.length c6] ∧
      0 ≤ p0 ∧ p0 < 18446744073709551616 ∧ 0 ≤ p2 ∧ p2 < 18446744073709551616 ∧ l5.length ≤ c5 ∧ l6.length ≤ c6 ∧ Kd.C Kd.string W A5 l5.length l5 ∧ Kd.C Kd.string W A6 l6.length l6 := by
  obtain ⟨xs, k, _, hy, hcl, hxl, hf⟩ := DataW.trod_struct Try.underlying53 h
  have c53 : Try.prog.cellsOf 53 = 7 := by kernel_rfl
  have c3 : Try.prog.cellsOf 3 = 1 := by kernel_rfl
  have c9 : Try.prog.cellsOf 9 = 1 := by kernel_rfl
  have c22 : Try.prog.cellsOf 22 = 1 := by kernel_rfl
  have c51 : Try.prog.cellsOf 51 = 1 := by kernel_rfl
  rw [c53] at hcl
  match xs, hxl, cs, hcl with
  | [y0, y1, y2, y3, y4, y5, y6], _, [v0, v1, v2, v3, v4, v5, v6], _ =>
    have g0 := hf 0 _ rfl
    have g1 := hf 1 _ rfl
    have g2 := hf 2 _ rfl
    have g3 := hf 3 _ rfl
    have g4 := hf 4 _ rfl
    have g5 := hf 5 _ rfl
    have g6 := hf 6 _ rfl
    simp [c3, c9, c22, c51] at g0 g1 g2 g3 g4 g5 g6
    obtain ⟨n0, e0, d0, w0⟩ := DataW.trod_int Try.underlying22 g0
    obtain ⟨s1, e1, d1, _⟩ := DataW.trod_string Try.underlying9 g1
    obtain ⟨n2, e2, d2, w2⟩ := DataW.trod_int Try.underlying22 g2
    obtain ⟨n3, e3, d3, _⟩ := DataW.trod_int Try.underlying3 g3
    obtain ⟨n4, e4, d4, _⟩ := DataW.trod_int Try.underlying3 g4
    obtain ⟨A5, c5, l5, rfl, h5, hC5⟩ := open_texts g5
    obtain ⟨A6, c6, l6, rfl, h6, hC6⟩ := open_texts g6
    simp only [List.cons.injEq, and_true] at e0 e1 e2 e3 e4
    subst e0 e1 e2 e3 e4
    obtain ⟨a, b⟩ := u64_wf _ w0
    obtain ⟨a', b'⟩ := u64_wf _ w2
    exact ⟨n0, s1, n2, n3, n4, A5, c5, l5, A6, c6, l6, rfl, a, b, a', b', h5, h6, hC5, hC6⟩
set_option maxRecDepth 20000 in
/-- What is shown, and by what, as it came in. -/
theorem open_shown {r : Reach} {b0 : Nat} {v : Value} {d : DataW H} {p : List MemPlace} (hv : Value.okWide Try.prog W r b0 55 v) (h : DataW.Trod enc Try.prog W base sp held 55 v d p) (hw : ∀ m ∈ d.weights Try.prog 55, m ≤ reachBytes) :
    ∃ (d0 : Int) (d1 : ByteArray) (x : S47) (p0 : Int) (p1 : ByteArray) (p2 p3 p4 : Int) (A5 : Option Addr) (c5 : Nat) (l5 : List ByteArray) (A6 : Option Addr) (c6 : Nat) (l6 : List ByteArray),
      v = .agg #[.int .u64 d0, .string d1, .int .i64 x.f0, .string x.f1, .string x.f2, .int .u64 x.f3, .int .u64 x.f4, .string x.f5, .string x.f6, .bool x.f7, .int .u64 p0, .string p1, .int .u64 p2, .int .i64 p3, .int .i64 p4, .slice A5 l5.length c5, .slice A6 l6.length c6] ∧
      d0 < 18446744073709551616 ∧ Wide x ∧ 0 ≤ p0 ∧ 0 ≤ p2 ∧ p2 < 18446744073709551616 ∧ l5.length ≤ c5 ∧ l6.length ≤ c6 ∧ Kd.C Kd.string W A5 l5.length l5 ∧ Kd.C Kd.string W A6 l6.length l6 := by
  obtain ⟨cs, rfl, hsz⟩ := okWide_struct Try.underlying55 hv
  obtain ⟨l⟩ := cs
  obtain ⟨fuel, hf⟩ := h
  obtain ⟨xs, n, _, hy, hcl, hxl, hg⟩ := DataW.trod_struct Try.underlying55 hf
  have c50 : Try.prog.cellsOf 50 = 2 := by kernel_rfl
  have c47 : Try.prog.cellsOf 47 = 8 := by kernel_rfl
  have c53 : Try.prog.cellsOf 53 = 7 := by kernel_rfl
  have c55 : Try.prog.cellsOf 55 = 17 := by kernel_rfl
  match xs, hxl with
  | [y0, y1, y2], _ =>
    have g0 := hg 0 _ rfl
    have g1 := hg 1 _ rfl
    have g2 := hg 2 _ rfl
    simp [Value.cells, c50, c47, c53] at g0 g1 g2
    obtain ⟨d0, d1, e0, _, hd⟩ := open_digest g0
    obtain ⟨x, e1, hx⟩ := open_rev g1
    obtain ⟨p0, p1, p2, p3, p4, A5, c5, l5, A6, c6, l6, e2, a, b, a', b', h5, h6, hC5, hC6⟩ := open_proof g2
    have hl : l = [.int .u64 d0, .string d1] ++ (vals x ++ [.int .u64 p0, .string p1, .int .u64 p2, .int .i64 p3, .int .i64 p4, .slice A5 l5.length c5, .slice A6 l6.length c6]) := by
      have hll : l.length = 17 := hsz.trans c55
      have q2 : l.drop 10 = l.drop 10 := rfl
      rw [← e0, ← e1, ← e2, List.take_of_length_le (l := l.drop 10) (by rw [List.length_drop]; omega)]
      rw [show l.drop 10 = (l.drop 2).drop 8 by rw [List.drop_drop], List.take_append_drop, List.take_append_drop]
    subst hl
    refine ⟨d0, d1, x, p0, p1, p2, p3, p4, A5, c5, l5, A6, c6, l6, rfl, hd, hx ?_, a, a', b', h5, h6, hC5, hC6⟩
    have hu := Try.underlying55
    simp only [Prod.mk.injEq] at hy
    rw [hy.1] at hw
    simp only [DataW.weights, hu] at hw
    intro m hm
    exact hw m (DataW.weights_mem_each (j := 1) (t := 47) rfl rfl m hm)
end
end Go.Proofs.Ytdcbacbilncnnaa.Opn
end
section
/- ProofVerifies: whatever is handed in, laid open. -/
set_option linter.unusedVariables false
set_option linter.unusedSimpArgs false
namespace Go.Proofs.Ytdcbacbilncnnaa.T
open Go.RowKit Go.Proofs.Ytdcbacbilncnnaa.PMk Go.Proofs.Ytdcbacbilncnnaa.M Go.Proofs.Ytdcbacbilncnnaa.EncL Go.Proofs.YtdcbacbilncnnaaW.PrintWords Go.Proofs.YtdcbacbilncnnaaW.PrintLast
theorem cut65 {W : World} {A : Option Addr} {l : List ByteArray} (h : Kd.C Kd.string W A l.length l) : Kd.C Kd.string W A (min l.length 65) (l.take 65) ∧ (l.take 65).length = min l.length 65 := by
  have hT := Kd.C_take (m := min l.length 65) h (by omega)
  have ht : l.take (min l.length 65) = l.take 65 := by
    rcases Nat.le_total l.length 65 with h | h
    · rw [Nat.min_eq_left h, List.take_of_length_le (Nat.le_refl _), List.take_of_length_le h]
    · rw [Nat.min_eq_right h]
  rw [ht] at hT
  have hl : (l.take 65).length = min l.length 65 := by rw [List.length_take]; omega
  exact ⟨hl ▸ hT, hl⟩
theorem pv_all (d0 : Int) (d1 : ByteArray) (x : S47) (p0 : Int) (p1 : ByteArray) (p2 p3 p4 : Int) (A5 : Option Addr) (c5 : Nat) (l5 : List ByteArray) (A6 : Option Addr) (c6 : Nat) (l6 : List ByteArray) (w : World) (g : d0 < 18446744073709551616) (hx : Opn.Wide x) (a : 0 ≤ p0) (b : 0 ≤ p2) (b' : p2 < 18446744073709551616)
    (h5 : l5.length ≤ c5) (h6 : l6.length ≤ c6) (hC5 : Kd.C Kd.string w A5 l5.length l5) (hC6 : Kd.C Kd.string w A6 l6.length l6) :
    Calls Try.prog 5 #[.agg #[.int .u64 d0, .string d1, .int .i64 x.f0, .string x.f1, .string x.f2, .int .u64 x.f3, .int .u64 x.f4, .string x.f5, .string x.f6, .bool x.f7, .int .u64 p0, .string p1, .int .u64 p2, .int .i64 p3, .int .i64 p4, .slice A5 l5.length c5, .slice A6 l6.length c6]] w fun e w' => e = .returned (.bool true) ∧ Below w.heap.size w w' := by
  obtain ⟨k5, t5⟩ := cut65 hC5
  obtain ⟨k6, t6⟩ := cut65 hC6
  have := hx.t
  have := hx.f
  have := hx.h
  have := hx.b
  exact pv_raw d0 d1 x p0 p1 p2 p3 p4 A5 l5.length c5 A6 l6.length c6 _ _ (l5.take 65) (l6.take 65) w rfl rfl h5 h6 t5 t6 k5 k6
    ⟨⟨by omega, by omega, by omega, hx.v0⟩, ⟨hx.d0, hx.d1, hx.v0, hx.v1, by omega, by omega, by omega⟩, a, b, b'⟩ g
end Go.Proofs.Ytdcbacbilncnnaa.T
end
