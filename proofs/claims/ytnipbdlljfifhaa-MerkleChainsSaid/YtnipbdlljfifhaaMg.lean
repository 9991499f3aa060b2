/- Growth: what the program takes for a way that shows it is what the reference takes. -/
/- What shows growth: the program's is the reference's, and it shows it. -/
import Derived.Test.YtnipbdlljfifhaaMr
import Derived.Lib.Hide
set_option linter.unusedVariables false
set_option linter.unusedSimpArgs false
namespace Go.Proofs.Ytnipbdlljfifhaa.M
open Go.RowKit Go.Proofs.Ytnipbdlljfifhaa.PMk Go.Proofs.YtnipbdlljfifhaaW.PrintWords Go.Proofs.YtnipbdlljfifhaaW.PrintLast
def turnsC (m n : Nat) : List Bool :=
  if h : m < n ∧ 1 ≤ m then (if m ≤ sp n then false :: turnsC m (sp n) else true :: turnsC (m - sp n) (n - sp n)) else []
termination_by n
decreasing_by
  · exact sp_lt (by omega)
  · have := sp_pos n; omega
theorem turnsC_eq {m n : Nat} (h : ¬ m < n) : turnsC m n = [] := by rw [turnsC]; rw [dif_neg (fun x => h x.1)]
theorem turnsC_le {m n : Nat} (h : m < n) (h1 : 1 ≤ m) (hm : m ≤ sp n) : turnsC m n = false :: turnsC m (sp n) := by rw [turnsC]; rw [dif_pos ⟨h, h1⟩, if_pos hm]
theorem turnsC_gt {m n : Nat} (h : m < n) (h1 : 1 ≤ m) (hm : ¬ m ≤ sp n) : turnsC m n = true :: turnsC (m - sp n) (n - sp n) := by rw [turnsC]; rw [dif_pos ⟨h, h1⟩, if_neg hm]
def step2 (t : Bool) (w : ByteArray) (p : ByteArray × ByteArray) : ByteArray × ByteArray := if t then (node w p.1, node w p.2) else (p.1, node p.2 w)
def up2 : List Bool → List ByteArray → ByteArray × ByteArray → ByteArray × ByteArray
  | t :: ts, w :: ws, p => up2 ts ws (step2 t w p)
  | _, _, p => p
theorem up2_snoc : ∀ (ts : List Bool) (ws : List ByteArray) (t : Bool) (w : ByteArray) (p : ByteArray × ByteArray), ts.length = ws.length → up2 (ts ++ [t]) (ws ++ [w]) p = step2 t w (up2 ts ws p)
  | [], [], _, _, _, _ => rfl
  | _ :: ts, _ :: ws, t, w, p, hl => by
    simp only [List.cons_append, up2]
    exact up2_snoc ts ws t w _ (by simpa using hl)
  | [], _ :: _, _, _, _, hl => by simp at hl
  | _ :: _, [], _, _, _, hl => by simp at hl
def b32 (l : List ByteArray) : Bool := l.all fun x => x.size == 32
def start (rr : Bool) (old : ByteArray) (l : List ByteArray) : Option (ByteArray × List ByteArray) :=
  match rr, l with
  | true, x :: rest => if x.size = 32 then some (x, rest) else none
  | true, [] => none
  | false, l => some (old, l)
def shownC (ts : List Bool) (rr : Bool) (old : ByteArray) (l : List ByteArray) : Option (ByteArray × ByteArray) :=
  match start rr old l with
  | none => none
  | some (a, rest) => if rest.length = ts.length ∧ b32 rest = true then some (up2 ts.reverse rest (a, a)) else none
theorem shownC_snoc (t : Bool) (ts : List Bool) (rr : Bool) (old : ByteArray) (init : List ByteArray) (last : ByteArray) :
    shownC (t :: ts) rr old (init ++ [last]) = if last.size = 32 then (shownC ts rr old init).map (step2 t last) else none := by
  have key : ∀ (a : ByteArray) (rest : List ByteArray), (if (rest ++ [last]).length = (t :: ts).length ∧ b32 (rest ++ [last]) = true then some (up2 (t :: ts).reverse (rest ++ [last]) (a, a)) else none) =
      if last.size = 32 then (if rest.length = ts.length ∧ b32 rest = true then some (up2 ts.reverse rest (a, a)) else none).map (step2 t last) else none := by
    intro a rest
    by_cases h : last.size = 32
    · by_cases h2 : rest.length = ts.length ∧ b32 rest = true
      · rw [if_pos (by simp [h2.1, b32, h] at h2 ⊢; exact h2), if_pos h, if_pos h2, Option.map_some, List.reverse_cons, up2_snoc _ _ _ _ _ (by simp [h2.1])]
      · rw [if_neg (fun h3 => h2 (by simp [b32, h] at h3 ⊢; exact h3)), if_pos h, if_neg h2]; rfl
    · rw [if_neg h, if_neg (fun h3 => h (by simp [b32] at h3; exact h3.2.2))]
  unfold shownC
  cases rr with
  | false => exact key old init
  | true =>
    cases init with
    | nil =>
      simp only [List.nil_append, start]
      by_cases h : last.size = 32
      · simp [h]
      · simp [h]
    | cons x rest =>
      by_cases hx : x.size = 32
      · have s1 : start true old (x :: rest ++ [last]) = some (x, rest ++ [last]) := by simp [start, hx]
        have s2 : start true old (x :: rest) = some (x, rest) := by simp [start, hx]
        rw [s1, s2]
        exact key x rest
      · have s1 : start true old (x :: rest ++ [last]) = none := by simp [start, hx]
        have s2 : start true old (x :: rest) = none := by simp [start, hx]
        rw [s1, s2]
        simp
theorem step2_some {o : Option (ByteArray × ByteArray)} {t : Bool} {w : ByteArray} {p : ByteArray × ByteArray} (h : o = some p) : o.map (step2 t w) = some (step2 t w p) := by rw [h]; rfl
theorem both_f : ∀ (n k m : Nat) (old : ByteArray) (l : List ByteArray) (whole : Bool), old.size = 32 → 1 ≤ m → m ≤ n → n ≤ 2147483648 → l.length < 2147483648 → 2 * n ≤ k →
    ∃ a b ok, merkle_both.f k old (m : Int) (n : Int) l whole = some (a, b, ok) ∧ a.size ≤ 32 ∧ b.size ≤ 32 ∧
      (ok = true → shownC (turnsC m n) (!whole || (turnsC m n).any id) old l = some (a, b)) ∧ (ok = false → shownC (turnsC m n) (!whole || (turnsC m n).any id) old l = none) := by
  intro n
  induction n using Nat.strongRecOn with
  | _ n ih =>
  intro k m old l whole ho h1 hmn h2 hl hk
  obtain ⟨k, rfl⟩ : ∃ q, k = q + 1 := ⟨k - 1, by omega⟩
  rw [merkle_both.f]
  by_cases hn : m = n
  · subst hn
    rw [if_pos rfl, turnsC_eq (by omega)]
    cases whole with
    | true =>
      rw [if_pos rfl]
      refine ⟨old, old, _, rfl, by omega, by omega, ?_, ?_⟩
      · intro h
        cases l with
        | nil => rfl
        | cons x t => simp at h; omega
      · intro h
        cases l with
        | nil => simp at h
        | cons x t => simp [shownC, start]
    | false =>
      rw [if_neg (by simp)]
      by_cases hl1 : (l.length : Int) = 1
      · rw [if_pos hl1, if_pos (by omega)]
        match l, hl1 with
        | [x], _ =>
          by_cases hx : x.size = 32
          · rw [if_pos (by show ((rdOf ByteArray.empty [x] 0).size : Int) = 32; show (x.size : Int) = 32; omega)]
            exact ⟨x, x, true, rfl, by omega, by omega, fun _ => by simp [shownC, start, hx, b32, up2], fun h => by simp at h⟩
          · rw [if_neg (by show ¬ (x.size : Int) = 32; omega)]
            exact ⟨_, _, false, rfl, by decide, by decide, fun h => by simp at h, fun _ => by simp [shownC, start, hx]⟩
      · rw [if_neg hl1]
        refine ⟨_, _, false, rfl, by decide, by decide, fun h => by simp at h, fun _ => ?_⟩
        match l, hl1 with
        | [], _ => simp [shownC, start]
        | x :: y :: t, _ =>
          simp only [shownC, start, Bool.not_false, Bool.true_or]
          by_cases hx : x.size = 32
          · simp [hx]
          · simp [hx]
        | [x], h => simp at h
  · have hlt' : m < n := by omega
    have hn2 : 2 ≤ n := by omega
    have hlt := sp_lt hn2
    have hle := le_sp hn2
    have hpos := sp_pos n
    rw [if_neg (by omega)]
    obtain ⟨k, rfl⟩ : ∃ q, k = q + 1 := ⟨k - 1, by omega⟩
    rcases List.eq_nil_or_concat l with rfl | ⟨init, last, rfl⟩
    · have e : wrap64 ((([] : List ByteArray).length : Int) - 1) = -1 := by rw [w64n] <;> simp
      rw [e, if_pos (by omega), merkle_both.j0, if_pos rfl]
      refine ⟨_, _, false, rfl, by decide, by decide, fun h => by simp at h, fun _ => ?_⟩
      have hne : ∃ t ts, turnsC m n = t :: ts := by
        by_cases hs : m ≤ sp n
        · exact ⟨_, _, turnsC_le hlt' h1 hs⟩
        · exact ⟨_, _, turnsC_gt hlt' h1 hs⟩
      obtain ⟨t, ts, e⟩ := hne
      rw [e]
      cases (!whole || (t :: ts).any id) <;> simp [shownC, start]
    · rw [List.concat_eq_append] at *
      obtain ⟨e1, e2, e3, e4⟩ := last_of init last (by simp at hl; omega)
      rw [e1, if_neg (by omega), if_pos (by omega), if_pos e4, e2, merkle_both.j0]
      by_cases hs : last.size = 32
      · rw [if_neg (by simp [hs])]
        rw [split_f n hn2 h2, Option.bind_some]
        by_cases hmk : m ≤ sp n
        · obtain ⟨a, b, ok, hf, ha, hb, hu, hu'⟩ := ih (sp n) hlt k m old init whole ho h1 hmk (by omega) (by simp at hl; omega) (by omega)
          rw [if_pos (by omega), if_pos (by omega), if_pos (by omega), e3, hf, Option.bind_some, if_pos e4, e2]
          simp only []
          rw [node_f b last hb (by omega), Option.bind_some, turnsC_le hlt' h1 hmk, shownC_snoc, if_pos hs]
          have er : (!whole || (false :: turnsC m (sp n)).any id) = (!whole || (turnsC m (sp n)).any id) := by simp
          rw [er]
          refine ⟨_, _, _, rfl, ha, by rw [node_size]; omega, fun h' => by rw [hu h']; rfl, fun h' => by rw [hu' h']; rfl⟩
        · obtain ⟨a, b, ok, hf, ha, hb, hu, hu'⟩ := ih (n - sp n) (by omega) k (m - sp n) old init false ho (by omega) (by omega) (by omega) (by simp at hl; omega) (by omega)
          have e5 : wrap64 ((m : Int) - (sp n : Int)) = ((m - sp n : Nat) : Int) := by rw [w64n _ (by omega) (by omega)]; omega
          have e6 : wrap64 ((n : Int) - (sp n : Int)) = ((n - sp n : Nat) : Int) := by rw [w64n _ (by omega) (by omega)]; omega
          rw [if_neg (by omega), if_pos (by omega), if_pos (by omega), e3, e5, e6, hf, Option.bind_some, if_pos e4, e2]
          simp only []
          rw [node_f last a (by omega) ha, Option.bind_some, node_f last b (by omega) hb, Option.bind_some, turnsC_gt hlt' h1 hmk, shownC_snoc, if_pos hs]
          have er : (!whole || (true :: turnsC (m - sp n) (n - sp n)).any id) = (!false || (turnsC (m - sp n) (n - sp n)).any id) := by simp
          rw [er]
          refine ⟨_, _, _, rfl, by rw [node_size]; omega, by rw [node_size]; omega, fun h' => by rw [hu h']; rfl, fun h' => by rw [hu' h']; rfl⟩
      · rw [if_pos (by simpa using fun e => hs (by omega))]
        refine ⟨_, _, _, rfl, by decide, by decide, fun h => by simp at h, fun _ => ?_⟩
        have hne : ∃ t ts, turnsC m n = t :: ts := by
          by_cases hs : m ≤ sp n
          · exact ⟨_, _, turnsC_le hlt' h1 hs⟩
          · exact ⟨_, _, turnsC_gt hlt' h1 hs⟩
        obtain ⟨t, ts, e⟩ := hne
        rw [e, shownC_snoc, if_neg hs]
/-- What both say behind the guards. -/
def valC (now : ByteArray) (old : ByteArray) (o : Option (ByteArray × ByteArray)) (r : Int) : Prop :=
  (∃ a b, o = some (a, b) ∧ a = old ∧ b = now ∧ r = 0) ∨ ((∀ a b, o = some (a, b) → ¬ (a = old ∧ b = now)) ∧ r = 80)
theorem valC.uniq {now old : ByteArray} {o : Option (ByteArray × ByteArray)} {r r' : Int} (x : valC now old o r) (y : valC now old o r') : r = r' := by
  rcases x with ⟨a, b, h1, h2, h3, h4⟩ | ⟨h1, h2⟩ <;> rcases y with ⟨a', b', g1, g2, g3, g4⟩ | ⟨g1, g2⟩
  · omega
  · exact absurd ⟨h2, h3⟩ (g1 a b h1)
  · exact absurd ⟨g2, g3⟩ (h1 a' b' g1)
  · omega
theorem consistent_f (k m n : Nat) (old now : ByteArray) (l : List ByteArray) (ho : old.size = 32) (hr : now.size = 32) (h1 : 1 ≤ m) (hmn : m ≤ n) (h2 : n ≤ 2147483648) (hl : l.length ≤ 64) (hk : 4294967296 < k) :
    ∃ r, merkle_Consistent.f k old now (m : Int) (n : Int) l = some r ∧ valC now old (shownC (turnsC m n) ((turnsC m n).any id) old l) r := by
  obtain ⟨k, rfl⟩ : ∃ q, k = q + 1 := ⟨k - 1, by omega⟩
  obtain ⟨a, b, ok, hf, ha, hb, hu, hu'⟩ := both_f n k m old l true ho h1 hmn h2 (by omega) (by omega)
  unfold merkle_Consistent.f
  rw [if_neg (by omega), if_neg (by omega), if_neg (by omega), if_pos (by omega), merkle_Consistent.j0, if_neg (by simp [hr]), if_neg (by omega), hf, Option.bind_some]
  simp only []
  have er : (!true || (turnsC m n).any id) = (turnsC m n).any id := by simp
  rw [er] at hu hu'
  cases ok with
  | true =>
    have hs := hu rfl
    rw [if_pos rfl]
    by_cases e1 : a = old
    · rw [if_pos (toList_eq_iff.2 e1)]
      by_cases e2 : b = now
      · rw [if_pos (toList_eq_iff.2 e2)]
        exact ⟨0, rfl, .inl ⟨a, b, hs, e1, e2, rfl⟩⟩
      · rw [if_neg (fun h => e2 (toList_eq_iff.1 h))]
        refine ⟨80, rfl, .inr ⟨fun a' b' h h' => e2 ?_, rfl⟩⟩
        rw [hs] at h; injection h with h; injection h with _ h; rw [h]; exact h'.2
    · rw [if_neg (fun h => e1 (toList_eq_iff.1 h))]
      refine ⟨80, rfl, .inr ⟨fun a' b' h h' => e1 ?_, rfl⟩⟩
      rw [hs] at h; injection h with h; injection h with h _; rw [h]; exact h'.1
  | false =>
    rw [if_neg (by simp)]
    exact ⟨80, rfl, .inr ⟨fun a' b' h => by rw [hu' rfl] at h; simp at h, rfl⟩⟩
theorem idx (n i : Nat) (h : i < n) (hn : n ≤ 4294967296) : wrap64 (wrap64 ((n : Int) - 1) - (i : Int)) = ((n - 1 - i : Nat) : Int) := by
  rw [w64n ((n : Int) - 1) (by omega) (by omega), w64n _ (by omega) (by omega)]; omega
theorem inc (i : Nat) (h : i < 4294967296) : wrap64 ((i : Int) + 1) = ((i + 1 : Nat) : Int) := by
  rw [w64n _ (by omega) (by omega)]; omega
theorem subc (m n : Nat) (h : n ≤ m) (hm : m < 4294967296) : wrap64 ((m : Int) - (n : Int)) = ((m - n : Nat) : Int) := by
  rw [w64n _ (by omega) (by omega)]; omega
theorem b32_cons (x : ByteArray) (l : List ByteArray) : b32 (x :: l) = ((x.size == 32) && b32 l) := rfl
theorem refc2 (old now : ByteArray) (l : List ByteArray) (acc : List Bool) (hla : l.length = acc.length) (hl : l.length ≤ 64) : ∀ (d k i : Nat) (a b : ByteArray), a.size ≤ 32 → b.size ≤ 32 → i + d = l.length → d < k →
    ∃ r, parchmentref08_Consistent.l2 k old now acc a l b (i : Int) = some r ∧ valC now old (if b32 (l.drop i) = true then some (up2 (acc.reverse.drop i) (l.drop i) (a, b)) else none) r := by
  intro d
  induction d with
  | zero =>
    intro k i a b ha hb hi hk
    obtain ⟨k, rfl⟩ : ∃ q, k = q + 1 := ⟨k - 1, by omega⟩
    rw [parchmentref08_Consistent.l2, if_neg (by omega)]
    have e1 : l.drop i = [] := List.drop_eq_nil_of_le (by omega)
    have e2 : acc.reverse.drop i = [] := List.drop_eq_nil_of_le (by simp; omega)
    rw [e1, e2, if_pos (by rfl : b32 [] = true)]
    simp only [up2]
    by_cases c1 : a = old
    · rw [if_pos (toList_eq_iff.2 c1)]
      by_cases c2 : b = now
      · rw [if_pos (toList_eq_iff.2 c2)]
        exact ⟨0, rfl, .inl ⟨a, b, rfl, c1, c2, rfl⟩⟩
      · rw [if_neg (fun h => c2 (toList_eq_iff.1 h))]
        refine ⟨80, rfl, .inr ⟨fun a' b' h h' => c2 ?_, rfl⟩⟩
        injection h with h; injection h with _ h; rw [h]; exact h'.2
    · rw [if_neg (fun h => c1 (toList_eq_iff.1 h))]
      refine ⟨80, rfl, .inr ⟨fun a' b' h h' => c1 ?_, rfl⟩⟩
      injection h with h; injection h with h _; rw [h]; exact h'.1
  | succ d ih =>
    intro k i a b ha hb hi hk
    obtain ⟨k, rfl⟩ : ∃ q, k = q + 1 := ⟨k - 1, by omega⟩
    have hil : i < l.length := by omega
    have hia : i < acc.reverse.length := by simp; omega
    have e1 : l.drop i = l[i] :: l.drop (i + 1) := List.drop_eq_getElem_cons hil
    have e2 : acc.reverse.drop i = acc.reverse[i] :: acc.reverse.drop (i + 1) := List.drop_eq_getElem_cons hia
    have e3 : rdOf ByteArray.empty l (i : Int) = l[i] := by simp [rdOf, hil]
    have e5 : rdOf false acc ((acc.length - 1 - i : Nat) : Int) = acc.reverse[i] := by
      have : acc.length - 1 - i < acc.length := by omega
      simp [rdOf, this, List.getElem_reverse]
    rw [parchmentref08_Consistent.l2, if_pos (by omega), if_pos (by omega), e3]
    by_cases hs : l[i].size = 32
    · rw [if_pos (by omega), idx _ _ (by omega) (by omega), if_pos (by omega), if_pos (by omega), e5, inc _ (by omega)]
      have hw : b32 (l.drop i) = b32 (l.drop (i + 1)) := by rw [e1, b32_cons, hs]; rfl
      have hup : up2 (acc.reverse.drop i) (l.drop i) (a, b) = up2 (acc.reverse.drop (i + 1)) (l.drop (i + 1)) (step2 acc.reverse[i] l[i] (a, b)) := by rw [e1, e2]; rfl
      rw [hw, hup]
      by_cases ht : acc.reverse[i] = true
      · rw [if_pos ht, rnode_f _ _ (by omega) ha, Option.bind_some, rnode_f _ _ (by omega) hb, Option.bind_some, ht]
        exact ih k (i + 1) _ _ (by rw [node_size]; omega) (by rw [node_size]; omega) (by omega) (by omega)
      · rw [if_neg ht, rnode_f _ _ hb (by omega), Option.bind_some, Bool.eq_false_iff.2 ht]
        exact ih k (i + 1) _ _ ha (by rw [node_size]; omega) (by omega) (by omega)
    · rw [if_neg (by omega), if_neg (by rw [e1, b32_cons, beq_eq_false_iff_ne.2 hs]; simp)]
      exact ⟨80, rfl, .inr ⟨fun a' b' h => by simp at h, rfl⟩⟩
theorem refc3 (k : Nat) (old now a : ByteArray) (l : List ByteArray) (acc : List Bool) (ha : a.size = 32) (hl : l.length ≤ 64) (hk : 100 < k) :
    ∃ r, parchmentref08_Consistent.j3 k old now acc a l = some r ∧ valC now old (if l.length = acc.length ∧ b32 l = true then some (up2 acc.reverse l (a, a)) else none) r := by
  obtain ⟨k, rfl⟩ : ∃ q, k = q + 1 := ⟨k - 1, by omega⟩
  rw [parchmentref08_Consistent.j3]
  by_cases h : l.length = acc.length
  · rw [if_pos (by omega)]
    obtain ⟨r, hr, hv⟩ := refc2 old now l acc h hl l.length k 0 a a (by omega) (by omega) (by omega) (by omega)
    refine ⟨r, hr, ?_⟩
    simpa [h] using hv
  · rw [if_neg (by omega), if_neg (fun h' => h h'.1)]
    exact ⟨80, rfl, .inr ⟨fun a' b' h => by simp at h, rfl⟩⟩
theorem refc1 (old now : ByteArray) (l : List ByteArray) (acc : List Bool) (ho : old.size = 32) (hl : l.length ≤ 64) (hacc : acc.length ≤ 4294967296) : ∀ (d k i : Nat) (flag : Bool), i + d = acc.length → d + 200 < k →
    ∃ r, parchmentref08_Consistent.l1 k old now l acc flag (i : Int) = some r ∧ valC now old (shownC acc (flag || (acc.drop i).any id) old l) r := by
  intro d
  induction d with
  | zero =>
    intro k i flag hi hk
    obtain ⟨k, rfl⟩ : ∃ q, k = q + 1 := ⟨k - 1, by omega⟩
    have e0 : acc.drop i = [] := List.drop_eq_nil_of_le (by omega)
    rw [parchmentref08_Consistent.l1, if_neg (by omega), e0]
    cases flag with
    | true =>
      rw [if_pos rfl]
      simp only [Bool.true_or]
      cases l with
      | nil =>
        rw [if_pos (by rfl)]
        exact ⟨80, rfl, .inr ⟨fun a' b' h => by simp [shownC, start] at h, rfl⟩⟩
      | cons x rest =>
        rw [if_neg (by rw [List.length_cons]; omega), if_pos (by rw [List.length_cons]; omega)]
        by_cases hx : x.size = 32
        · rw [if_pos (by show (x.size : Int) = 32; omega), if_pos (by rw [List.length_cons]; omega)]
          obtain ⟨r, hr, hv⟩ := refc3 k old now x rest acc hx (by simp at hl; omega) (by omega)
          refine ⟨r, hr, ?_⟩
          simpa [shownC, start, hx] using hv
        · rw [if_neg (by show ¬ (x.size : Int) = 32; omega)]
          exact ⟨80, rfl, .inr ⟨fun a' b' h => by simp [shownC, start, hx] at h, rfl⟩⟩
    | false =>
      rw [if_neg (by simp)]
      obtain ⟨r, hr, hv⟩ := refc3 k old now old l acc ho hl (by omega)
      refine ⟨r, hr, ?_⟩
      simpa [shownC, start] using hv
  | succ d ih =>
    intro k i flag hi hk
    obtain ⟨k, rfl⟩ : ∃ q, k = q + 1 := ⟨k - 1, by omega⟩
    have hia : i < acc.length := by omega
    have e2 : acc.drop i = acc[i] :: acc.drop (i + 1) := List.drop_eq_getElem_cons hia
    rw [parchmentref08_Consistent.l1, if_pos (by omega), inc _ (by omega)]
    cases flag with
    | true =>
      rw [if_pos rfl]
      obtain ⟨r, hr, hv⟩ := ih k (i + 1) true (by omega) (by omega)
      exact ⟨r, hr, by simpa using hv⟩
    | false =>
      rw [if_neg (by simp), if_pos (by omega)]
      have e3 : rdOf false acc (i : Int) = acc[i] := by simp [rdOf, hia]
      rw [e3]
      obtain ⟨r, hr, hv⟩ := ih k (i + 1) acc[i] (by omega) (by omega)
      refine ⟨r, hr, ?_⟩
      rw [e2, List.any_cons, Bool.false_or]
      exact hv
theorem refc0 (old now : ByteArray) (l : List ByteArray) (ho : old.size = 32) (hl : l.length ≤ 64) : ∀ (n k m : Nat) (acc : List Bool), 1 ≤ m → m ≤ n → n ≤ 2147483648 → acc.length + n ≤ 2147483800 → 2 * n + acc.length + 300 ≤ k →
    ∃ r, parchmentref08_Consistent.l0 k old now (m : Int) (n : Int) l acc = some r ∧ valC now old (shownC (acc ++ turnsC m n) ((acc ++ turnsC m n).any id) old l) r := by
  intro n
  induction n using Nat.strongRecOn with
  | _ n ih =>
  intro k m acc h1 hmn h2 ha hk
  obtain ⟨k, rfl⟩ : ∃ q, k = q + 1 := ⟨k - 1, by omega⟩
  rw [parchmentref08_Consistent.l0]
  by_cases hn : m < n
  · have hn2 : 2 ≤ n := by omega
    have hlt := sp_lt hn2
    have hle := le_sp hn2
    have hpos := sp_pos n
    rw [if_pos (by omega), half_f k n hn2 h2 (by omega), Option.bind_some]
    by_cases hmk : m ≤ sp n
    · rw [if_pos (by omega), if_pos (by omega), turnsC_le hn h1 hmk]
      obtain ⟨r, hr, hs⟩ := ih (sp n) hlt k m (acc ++ [false]) h1 hmk (by omega) (by simp; omega) (by simp; omega)
      exact ⟨r, hr, by simpa using hs⟩
    · have e5 := subc m (sp n) (by omega) (by omega)
      have e6 := subc n (sp n) (by omega) (by omega)
      have E5 := Lib.hid e5
      have E6 := Lib.hid e6
      clear e5 e6
      rw [if_neg (by omega), if_pos (by omega), E5.out, E6.out, turnsC_gt hn h1 hmk]
      obtain ⟨r, hr, hs⟩ := ih (n - sp n) (by omega) k (m - sp n) (acc ++ [true]) (by omega) (by omega) (by omega) (by simp; omega) (by simp; omega)
      exact ⟨r, hr, by simpa using hs⟩
  · rw [if_neg (by omega), turnsC_eq hn, List.append_nil]
    obtain ⟨r, hr, hv⟩ := refc1 old now l acc ho hl (by omega) acc.length k 0 false (by omega) (by omega)
    exact ⟨r, hr, by simpa using hv⟩
theorem refConsistent_f (k m n : Nat) (old now : ByteArray) (l : List ByteArray) (ho : old.size = 32) (hr : now.size = 32) (h1 : 1 ≤ m) (hmn : m ≤ n) (h2 : n ≤ 2147483648) (hl : l.length ≤ 64) (hk : 4294968000 < k) :
    ∃ r, parchmentref08_Consistent.f k old now (m : Int) (n : Int) l = some r ∧ valC now old (shownC (turnsC m n) ((turnsC m n).any id) old l) r := by
  obtain ⟨k, rfl⟩ : ∃ q, k = q + 1 := ⟨k - 1, by omega⟩
  obtain ⟨r, hr', hs⟩ := refc0 old now l ho hl n k m [] h1 hmn h2 (by simp; omega) (by simp; omega)
  unfold parchmentref08_Consistent.f
  rw [if_neg (by omega), if_neg (by omega), if_neg (by omega), if_pos (by omega), parchmentref08_Consistent.j0, if_neg (by simp [hr]), if_neg (by omega), hr']
  exact ⟨r, rfl, by simpa using hs⟩
/-- Any way, any numbers: the program says what the reference says. -/
theorem consistent_eq (k : Nat) (hk : 4294968000 < k) (old now : ByteArray) (m n : Int) (l : List ByteArray) :
    ∃ r, merkle_Consistent.f k old now m n l = some r ∧ parchmentref08_Consistent.f k old now m n l = some r := by
  obtain ⟨q, rfl⟩ : ∃ q, k = q + 1 := ⟨k - 1, by omega⟩
  by_cases g : 1 ≤ m ∧ m ≤ n ∧ n ≤ 2147483648 ∧ old.size = 32 ∧ now.size = 32 ∧ l.length ≤ 64
  · obtain ⟨g1, g2, g3, g4, g5, g6⟩ := g
    obtain ⟨n', rfl⟩ := Int.eq_ofNat_of_zero_le (show 0 ≤ n by omega)
    obtain ⟨m', rfl⟩ := Int.eq_ofNat_of_zero_le (show 0 ≤ m by omega)
    obtain ⟨r, hr, hs⟩ := consistent_f (q + 1) m' n' old now l g4 g5 (by omega) (by omega) (by omega) g6 (by omega)
    obtain ⟨r', hr', hs'⟩ := refConsistent_f (q + 1) m' n' old now l g4 g5 (by omega) (by omega) (by omega) g6 hk
    exact ⟨r, hr, hr'.trans (by rw [hs'.uniq hs])⟩
  · unfold merkle_Consistent.f parchmentref08_Consistent.f
    have j1 : ∀ a b c d e, merkle_Consistent.j0 (q + 1) a b c d e true = some 1 := fun _ _ _ _ _ => by rw [merkle_Consistent.j0, if_pos rfl]
    have j2 : ∀ a b c d e, parchmentref08_Consistent.j0 (q + 1) a b c d e true = some 1 := fun _ _ _ _ _ => by rw [parchmentref08_Consistent.j0, if_pos rfl]
    by_cases c1 : m < 1
    · rw [if_pos c1, if_pos c1, j1, j2]; exact ⟨1, rfl, rfl⟩
    by_cases c2 : n < m
    · rw [if_neg c1, if_neg c1, if_pos c2, if_pos c2, j1, j2]; exact ⟨1, rfl, rfl⟩
    by_cases c3 : n > 2147483648
    · rw [if_neg c1, if_neg c1, if_neg c2, if_neg c2, if_pos c3, if_pos c3, j1, j2]; exact ⟨1, rfl, rfl⟩
    rw [if_neg c1, if_neg c1, if_neg c2, if_neg c2, if_neg c3, if_neg c3]
    by_cases c5 : (old.size : Int) = 32
    · rw [if_pos c5, if_pos c5]
      by_cases c6 : now.size = 32
      · have c7 : (l.length : Int) > 64 := by omega
        have : ((now.size : Int) != 32) = false := by simp [c6]
        have v1 : merkle_Consistent.j0 (q + 1) old now m n l false = some 80 := by rw [merkle_Consistent.j0, if_neg (by simp), if_pos c7]
        have v2 : parchmentref08_Consistent.j0 (q + 1) old now m n l false = some 80 := by rw [parchmentref08_Consistent.j0, if_neg (by simp), if_pos c7]
        rw [this, v1, v2]
        exact ⟨80, rfl, rfl⟩
      · have : ((now.size : Int) != 32) = true := by simp; omega
        rw [this, j1, j2]; exact ⟨1, rfl, rfl⟩
    · rw [if_neg c5, if_neg c5, j1, j2]; exact ⟨1, rfl, rfl⟩
end Go.Proofs.Ytnipbdlljfifhaa.M
set_option linter.unusedVariables false
set_option linter.unusedSimpArgs false
namespace Go.Proofs.Ytnipbdlljfifhaa.M
open Go.RowKit Go.Proofs.Ytnipbdlljfifhaa.PMk Go.Proofs.YtnipbdlljfifhaaW.PrintWords Go.Proofs.YtnipbdlljfifhaaW.PrintLast
def grownT (m : Nat) (l : List ByteArray) (whole : Bool) : List ByteArray :=
  if h : m < l.length ∧ 1 ≤ m then (if m ≤ sp l.length then grownT m (l.take (sp l.length)) whole ++ [mroot (l.drop (sp l.length))] else grownT (m - sp l.length) (l.drop (sp l.length)) false ++ [mroot (l.take (sp l.length))])
  else if whole = true then [] else [mroot l]
termination_by l.length
decreasing_by
  · have := sp_lt (n := l.length) (by omega); simp; omega
  · have := sp_pos l.length; have := sp_lt (n := l.length) (by omega); simp; omega
theorem grownT_eq {m : Nat} {l : List ByteArray} {whole : Bool} (h : ¬ m < l.length) : grownT m l whole = if whole = true then [] else [mroot l] := by rw [grownT]; rw [dif_neg (fun x => h x.1)]
theorem grownT_le {m : Nat} {l : List ByteArray} {whole : Bool} (h : m < l.length) (h1 : 1 ≤ m) (hm : m ≤ sp l.length) : grownT m l whole = grownT m (l.take (sp l.length)) whole ++ [mroot (l.drop (sp l.length))] := by rw [grownT]; rw [dif_pos ⟨h, h1⟩, if_pos hm]
theorem grownT_gt {m : Nat} {l : List ByteArray} {whole : Bool} (h : m < l.length) (h1 : 1 ≤ m) (hm : ¬ m ≤ sp l.length) : grownT m l whole = grownT (m - sp l.length) (l.drop (sp l.length)) false ++ [mroot (l.take (sp l.length))] := by rw [grownT]; rw [dif_pos ⟨h, h1⟩, if_neg hm]
theorem grownT_len : ∀ (d m : Nat) (l : List ByteArray) (whole : Bool), l.length ≤ d → (grownT m l whole).length ≤ l.length + 1
  | 0, m, l, whole, h => by rw [grownT_eq (by omega)]; split <;> simp
  | d + 1, m, l, whole, h => by
    by_cases h0 : m < l.length ∧ 1 ≤ m
    · have hlt := sp_lt (n := l.length) (by omega)
      have hpos := sp_pos l.length
      by_cases hm : m ≤ sp l.length
      · rw [grownT_le h0.1 h0.2 hm]
        have := grownT_len d m (l.take (sp l.length)) whole (by simp; omega)
        simp at this ⊢; omega
      · rw [grownT_gt h0.1 h0.2 hm]
        have := grownT_len d (m - sp l.length) (l.drop (sp l.length)) false (by simp; omega)
        simp at this ⊢; omega
    · rw [grownT, dif_neg h0]; split <;> simp
theorem subw (m n : Nat) (h : n ≤ m) (hm : m < 4294967296) : wrap64 ((m : Int) - (n : Int)) = ((m - n : Nat) : Int) := subc m n h hm
theorem grown_f : ∀ (k m : Nat) (l : List ByteArray) (whole : Bool), W32 l → l.length ≤ 2147483648 → 1 ≤ m → m ≤ l.length → l.length + 1 < k → merkle_grown.f k (m : Int) l whole = some (grownT m l whole)
  | 0, m, l, whole, _, _, _, _, h => by omega
  | k + 1, m, l, whole, hw, hl, h1, hm, hk => by
    rw [merkle_grown.f]
    by_cases hn : m = l.length
    · rw [if_pos (by omega), grownT_eq (by omega)]
      cases whole with
      | true => rfl
      | false =>
        rw [if_neg (by simp), if_neg (by simp)]
        rw [root_f k l hw hl (by omega)]; rfl
    · have hlt' : m < l.length := by omega
      have h2 : 2 ≤ l.length := by omega
      have hlt := sp_lt h2
      have hpos := sp_pos l.length
      rw [if_neg (by omega), split_f _ h2 hl, Option.bind_some]
      by_cases hk2 : m ≤ sp l.length
      · have hlen := grownT_len _ m (l.take (sp l.length)) whole (Nat.le_refl _)
        rw [if_pos (by omega), if_pos (by omega), if_pos (by omega), Int.toNat_natCast, grown_f k m _ whole (hw.take _) (by simp; omega) h1 (by simp; omega) (by simp; omega), Option.bind_some,
          root_f k _ (hw.drop _) (by simp; omega) (by simp; omega), Option.bind_some, if_pos (by simp at hlen; omega), grownT_le hlt' h1 hk2]
      · have hlen := grownT_len _ (m - sp l.length) (l.drop (sp l.length)) false (Nat.le_refl _)
        rw [if_neg (by omega), if_pos (by omega), if_pos (by omega), Int.toNat_natCast, subw m (sp l.length) (by omega) (by omega), grown_f k _ _ false (hw.drop _) (by simp; omega) (by omega) (by simp; omega) (by simp; omega), Option.bind_some,
          root_f k _ (hw.take _) (by simp; omega) (by simp; omega), Option.bind_some, if_pos (by simp at hlen; omega), grownT_gt hlt' h1 hk2]
theorem rgrown_f : ∀ (k m : Nat) (l : List ByteArray) (whole : Bool), W32 l → l.length ≤ 2147483648 → 1 ≤ m → m ≤ l.length → l.length + 1 < k → parchmentref08_Grown.f k (m : Int) l whole = some (grownT m l whole)
  | 0, m, l, whole, _, _, _, _, h => by omega
  | k + 1, m, l, whole, hw, hl, h1, hm, hk => by
    rw [parchmentref08_Grown.f]
    by_cases hn : m = l.length
    · rw [if_pos (by omega), grownT_eq (by omega)]
      cases whole with
      | true => rfl
      | false =>
        rw [if_neg (by simp), if_neg (by simp), rroot_f k l hw hl (by omega)]; rfl
    · have hlt' : m < l.length := by omega
      have h2 : 2 ≤ l.length := by omega
      have hlt := sp_lt h2
      have hpos := sp_pos l.length
      rw [if_neg (by omega), half_f k _ h2 hl (by omega), Option.bind_some]
      by_cases hk2 : m ≤ sp l.length
      · have hlen := grownT_len _ m (l.take (sp l.length)) whole (Nat.le_refl _)
        rw [if_pos (by omega), if_pos (by omega), if_pos (by omega), Int.toNat_natCast, rgrown_f k m _ whole (hw.take _) (by simp; omega) h1 (by simp; omega) (by simp; omega), Option.bind_some,
          rroot_f k _ (hw.drop _) (by simp; omega) (by simp; omega), Option.bind_some, if_pos (by simp at hlen; omega), grownT_le hlt' h1 hk2]
      · have hlen := grownT_len _ (m - sp l.length) (l.drop (sp l.length)) false (Nat.le_refl _)
        rw [if_neg (by omega), if_pos (by omega), if_pos (by omega), Int.toNat_natCast, subw m (sp l.length) (by omega) (by omega), rgrown_f k _ _ false (hw.drop _) (by simp; omega) (by omega) (by simp; omega) (by simp; omega), Option.bind_some,
          rroot_f k _ (hw.take _) (by simp; omega) (by simp; omega), Option.bind_some, if_pos (by simp at hlen; omega), grownT_gt hlt' h1 hk2]
theorem grown_up : ∀ (d m : Nat) (l : List ByteArray) (whole : Bool) (old : ByteArray), l.length ≤ d → W32 l → 1 ≤ m → m ≤ l.length → ((!whole || (turnsC m l.length).any id) = false → old = mroot (l.take m)) →
    shownC (turnsC m l.length) (!whole || (turnsC m l.length).any id) old (grownT m l whole) = some (mroot (l.take m), mroot l)
  | 0, m, l, whole, old, h, hw, h1, hm, ho => by omega
  | d + 1, m, l, whole, old, h, hw, h1, hm, ho => by
    by_cases hn : m < l.length
    · have h2 : 2 ≤ l.length := by omega
      have hlt := sp_lt h2
      have hle := le_sp h2
      have hpos := sp_pos l.length
      have e := mroot_two (l := l) h2
      by_cases hk2 : m ≤ sp l.length
      · have et : (l.take (sp l.length)).length = sp l.length := by simp; omega
        have er : (!whole || (turnsC m l.length).any id) = (!whole || (turnsC m (sp l.length)).any id) := by rw [turnsC_le hn h1 hk2]; simp
        have ett : (l.take (sp l.length)).take m = l.take m := by rw [List.take_take]; congr 1; omega
        have ih := grown_up d m (l.take (sp l.length)) whole old (by omega) (hw.take _) h1 (by omega) (by rw [et, ett, ← er]; exact ho)
        rw [et, ett] at ih
        rw [er, grownT_le hn h1 hk2, turnsC_le hn h1 hk2, shownC_snoc, if_pos (mroot_size (hw.drop _)), ih]
        show some (mroot (l.take m), node _ _) = _
        rw [e]
      · have et : (l.drop (sp l.length)).length = l.length - sp l.length := by simp
        have er : (!whole || (turnsC m l.length).any id) = (!false || (turnsC (m - sp l.length) (l.length - sp l.length)).any id) := by rw [turnsC_gt hn h1 hk2]; simp
        have ih := grown_up d (m - sp l.length) (l.drop (sp l.length)) false old (by omega) (hw.drop _) (by omega) (by omega) (by simp)
        rw [et] at ih
        have hsm : sp (l.take m).length = sp l.length := by
          have e1 : (l.take m).length = m := by simp; omega
          rw [e1]
          exact sp_eq (by show sp l.length < m; omega) (by rw [Nat.pow_succ]; show m ≤ sp l.length * 2; omega)
        have hm2 : mroot (l.take m) = node (mroot (l.take (sp l.length))) (mroot ((l.drop (sp l.length)).take (m - sp l.length))) := by
          rw [mroot_two (l := l.take m) (by simp; omega), hsm, List.take_take, List.drop_take]
          congr 3
          omega
        rw [er, grownT_gt hn h1 hk2, turnsC_gt hn h1 hk2, shownC_snoc, if_pos (mroot_size (hw.take _)), ih]
        show some (node _ _, node _ _) = _
        rw [← e, ← hm2]
    · have hml : m = l.length := by omega
      subst hml
      rw [turnsC_eq (by omega), grownT_eq (by omega), List.take_length]
      rw [turnsC_eq (by omega), List.take_length] at ho
      cases whole with
      | true =>
        have := ho rfl
        subst this
        rfl
      | false =>
        rw [if_neg (by simp)]
        simp [shownC, start, mroot_size hw, b32, up2]
/-- The program says that it does. -/
theorem grown_shows (k m : Nat) (l : List ByteArray) (hw : W32 l) (hl : l.length ≤ 60) (h1 : 1 ≤ m) (hm : m ≤ l.length) (hk : 4294967296 < k) :
    merkle_Consistent.f k (mroot (l.take m)) (mroot l) (m : Int) (l.length : Int) (grownT m l true) = some 0 := by
  obtain ⟨r, hr, hv⟩ := consistent_f k m l.length (mroot (l.take m)) (mroot l) (grownT m l true) (mroot_size (hw.take _)) (mroot_size hw) h1 hm (by omega) (Nat.le_trans (grownT_len _ m l true (Nat.le_refl _)) (by omega)) hk
  have hs := grown_up _ m l true (mroot (l.take m)) (Nat.le_refl _) hw h1 hm (fun _ => rfl)
  have er : (!true || (turnsC m l.length).any id) = (turnsC m l.length).any id := by simp
  rw [er] at hs
  rw [hs] at hv
  rcases hv with ⟨a, b, _, _, _, rfl⟩ | ⟨h, _⟩
  · exact hr
  · exact absurd ⟨rfl, rfl⟩ (h _ _ rfl)
end Go.Proofs.Ytnipbdlljfifhaa.M
