/- The tree of RFC 6962 in plain Lean: halves, roots, ways. No program in sight but the printed functions. -/
/- Ways up: what the program climbs is what the reference says. -/
/- Roots, and what shows a leaf: the program's are the reference's; and what shows a leaf shows it. -/
import Derived.Test.YtnipbdlljfifhaaPMkx6
import Derived.Test.YtnipbdlljfifhaaPMkx7
import Derived.Test.YtnipbdlljfifhaaPMkx3
import Derived.Test.YtnipbdlljfifhaaPMkx4
import Derived.Test.YtnipbdlljfifhaaPMkx5
import Derived.Test.YtnipbdlljfifhaaPMkx8
set_option linter.unusedVariables false
set_option linter.unusedSimpArgs false
namespace Go.Proofs.Ytnipbdlljfifhaa.M
open Go.RowKit Go.Proofs.Ytnipbdlljfifhaa.PMk Go.Proofs.YtnipbdlljfifhaaW.PrintWords Go.Proofs.YtnipbdlljfifhaaW.PrintLast
def node (a b : ByteArray) : ByteArray := Dig.dig (((⟨#[1]⟩ : ByteArray) ++ a) ++ b)
theorem node_size (a b : ByteArray) : (node a b).size = 32 := Dig.dig_size _
theorem node_len (a b : ByteArray) : (((⟨#[1]⟩ : ByteArray) ++ a) ++ b).size = 1 + a.size + b.size ∧ ((⟨#[1]⟩ : ByteArray) ++ a).size = 1 + a.size := by
  have s1 : ((⟨#[1]⟩ : ByteArray) ++ a).size = 1 + a.size := by rw [ByteArray.size_append]; rfl
  exact ⟨by rw [ByteArray.size_append, s1], s1⟩
theorem node_f (a b : ByteArray) (ha : a.size ≤ 32) (hb : b.size ≤ 32) : hash_Node.f a b = some (node a b) := by
  obtain ⟨h1, h2⟩ := node_len a b
  unfold hash_Node.f Dig.hash_Sum.f
  rw [if_pos (by omega), if_pos (by omega), if_pos (by omega)]
  rfl
theorem rnode_f (a b : ByteArray) (ha : a.size ≤ 32) (hb : b.size ≤ 32) : parchmentref01_Node.f a b = some (node a b) := by
  obtain ⟨h1, h2⟩ := node_len a b
  unfold parchmentref01_Node.f Dig.parchmentref01_Sum.f
  rw [if_pos (by omega), if_pos (by omega), if_pos (by omega)]
  rfl
/-! ### halves -/
def sp (n : Nat) : Nat := 2 ^ (n - 1).log2
theorem sp_pos (n : Nat) : 1 ≤ sp n := Nat.one_le_two_pow
theorem sp_lt {n : Nat} (h : 2 ≤ n) : sp n < n := by
  have := Nat.log2_self_le (n := n - 1) (by omega)
  unfold sp
  omega
theorem le_sp {n : Nat} (h : 2 ≤ n) : n ≤ 2 * sp n := by
  have := Nat.lt_log2_self (n := n - 1)
  unfold sp
  rw [Nat.pow_succ] at this
  omega
theorem sp_eq {n j : Nat} (h1 : 2 ^ j < n) (h2 : n ≤ 2 ^ (j + 1)) : sp n = 2 ^ j := by
  have h0 : n - 1 ≠ 0 := by have := Nat.one_le_two_pow (n := j); omega
  have : (n - 1).log2 = j := (Nat.log2_eq_iff h0).2 ⟨by omega, by omega⟩
  rw [sp, this]
theorem bitLen_log (f : Nat) : ∀ x : Nat, x ≠ 0 → x < 2 ^ f → Lib.bitLenAux f x = x.log2 + 1 := by
  induction f with
  | zero => intro x h0 h1; simp at h1; omega
  | succ f ih =>
    intro x h0 h1
    rw [Lib.bitLenAux, if_neg h0, Nat.log2_def]
    by_cases h2 : 2 ≤ x
    · rw [if_pos h2, ih (x / 2) (by omega) (by rw [Nat.pow_succ] at h1; omega)]
      omega
    · rw [if_neg h2]
      have : x / 2 = 0 := by omega
      rw [this]
      cases f <;> simp [Lib.bitLenAux]
theorem split_f (n : Nat) (h2 : 2 ≤ n) (h : n ≤ 2147483648) : merkle_split.f (n : Int) = some (sp n : Int) := by
  have e1 : IntKind.u64.wrap (wrap64 ((n : Int) - 1)) = ((n - 1 : Nat) : Int) := by
    have : wrap64 ((n : Int) - 1) = ((n - 1 : Nat) : Int) := by unfold wrap64; omega
    rw [this]
    simp [IntKind.wrap, IntKind.bits, IntKind.signed]
    omega
  have hl : (n - 1).log2 ≤ 30 := by
    have := (Nat.log2_lt (n := n - 1) (k := 31) (by omega)).2 (by omega)
    omega
  have e2 : Lib.bitLen (n - 1) = (n - 1).log2 + 1 := bitLen_log 64 _ (by omega) (by omega)
  unfold merkle_split.f Dig.bits_Len.f
  rw [e1, if_pos (by omega), if_pos (by omega), Option.bind_some, Int.toNat_natCast, e2]
  have e3 : wrap64 ((((n - 1).log2 + 1 : Nat) : Int) - 1) = ((n - 1).log2 : Int) := by unfold wrap64; omega
  rw [e3, if_pos (by omega)]
  have hp : 2 ^ (n - 1).log2 ≤ 2 ^ 30 := Nat.pow_le_pow_right (by omega) hl
  congr 1
  have hm : min ((n - 1).log2 : Int).toNat IntKind.i64.bits = (n - 1).log2 := by
    rw [Int.toNat_natCast]
    exact Nat.min_eq_left (Nat.le_trans hl (by decide))
  unfold shl sp
  rw [hm, Int.one_mul]
  have hc : ((2 : Int) ^ (n - 1).log2) = ((2 ^ (n - 1).log2 : Nat) : Int) := by rw [Int.natCast_pow]; rfl
  rw [hc]
  generalize 2 ^ (n - 1).log2 = x at hp
  simp [IntKind.wrap, IntKind.bits, IntKind.signed]
  omega
theorem half_l0 (n : Nat) (hn : n ≤ 2147483648) : ∀ (k j : Nat), 2 ^ j < n → n - 2 ^ j ≤ k → parchmentref08_half.l0 k (n : Int) ((2 ^ j : Nat) : Int) = some (sp n : Int)
  | 0, j, h1, h2 => by omega
  | k + 1, j, h1, h2 => by
    have e : wrap64 (((2 ^ j : Nat) : Int) + ((2 ^ j : Nat) : Int)) = ((2 ^ (j + 1) : Nat) : Int) := by
      rw [Nat.pow_succ]
      generalize 2 ^ j = x at h1
      unfold wrap64
      omega
    have hp := Nat.one_le_two_pow (n := j)
    rw [parchmentref08_half.l0, e]
    by_cases h : 2 ^ (j + 1) < n
    · rw [if_pos (by omega)]
      exact half_l0 n hn k (j + 1) h (by rw [Nat.pow_succ] at h ⊢; omega)
    · rw [if_neg (by omega), sp_eq h1 (by omega)]
theorem half_f (k n : Nat) (h2 : 2 ≤ n) (h : n ≤ 2147483648) (hk : n ≤ k) : parchmentref08_half.f k (n : Int) = some (sp n : Int) := by
  have := half_l0 n h k 0 (by simp; omega) (by omega)
  simpa [parchmentref08_half.f] using this
end Go.Proofs.Ytnipbdlljfifhaa.M
set_option linter.unusedVariables false
set_option linter.unusedSimpArgs false
namespace Go.Proofs.Ytnipbdlljfifhaa.M
open Go.RowKit Go.Proofs.Ytnipbdlljfifhaa.PMk Go.Proofs.YtnipbdlljfifhaaW.PrintWords Go.Proofs.YtnipbdlljfifhaaW.PrintLast
def W32 (l : List ByteArray) : Prop := ∀ x ∈ l, x.size = 32
theorem W32.app {a b : List ByteArray} : W32 (a ++ b) ↔ W32 a ∧ W32 b := by
  constructor
  · intro h; exact ⟨fun x hx => h x (by simp [hx]), fun x hx => h x (by simp [hx])⟩
  · rintro ⟨h1, h2⟩ x hx
    rcases List.mem_append.1 hx with h | h
    · exact h1 x h
    · exact h2 x h
theorem W32.one {x : ByteArray} : W32 [x] ↔ x.size = 32 := by simp [W32]
theorem W32.cons {x : ByteArray} {l : List ByteArray} : W32 (x :: l) ↔ x.size = 32 ∧ W32 l := by simp [W32]
/-- The halves in which the m-th of n stands, from the whole down: is it the right one? -/
def turns (m n : Nat) : List Bool :=
  if h : n ≤ 1 then [] else if m < sp n then false :: turns m (sp n) else true :: turns (m - sp n) (n - sp n)
termination_by n
decreasing_by
  · exact sp_lt (by omega)
  · have := sp_pos n; omega
def step (t : Bool) (w h : ByteArray) : ByteArray := if t then node w h else node h w
theorem step_size (t : Bool) (w h : ByteArray) : (step t w h).size = 32 := by unfold step; split <;> exact node_size _ _
/-- From below up. -/
def up : List Bool → List ByteArray → ByteArray → ByteArray
  | t :: ts, w :: ws, h => up ts ws (step t w h)
  | _, _, h => h
theorem up_snoc : ∀ (ts : List Bool) (ws : List ByteArray) (t : Bool) (w h : ByteArray), ts.length = ws.length → up (ts ++ [t]) (ws ++ [w]) h = step t w (up ts ws h)
  | [], [], _, _, _, _ => rfl
  | _ :: ts, _ :: ws, t, w, h, hl => by
    simp only [List.cons_append, up]
    exact up_snoc ts ws t w _ (by simpa using hl)
  | [], _ :: _, _, _, _, hl => by simp at hl
  | _ :: _, [], _, _, _, hl => by simp at hl
theorem turns_one (m n : Nat) (h : n ≤ 1) : turns m n = [] := by rw [turns]; simp [h]
theorem turns_lt {m n : Nat} (h : 2 ≤ n) (hm : m < sp n) : turns m n = false :: turns m (sp n) := by rw [turns]; simp [show ¬ n ≤ 1 by omega, hm]
theorem turns_ge {m n : Nat} (h : 2 ≤ n) (hm : ¬ m < sp n) : turns m n = true :: turns (m - sp n) (n - sp n) := by rw [turns]; simp [show ¬ n ≤ 1 by omega, hm]
theorem w64n (x : Int) (h0 : -9223372036854775808 ≤ x) (h1 : x < 9223372036854775808) : wrap64 x = x := by unfold wrap64; omega
theorem last_of (init : List ByteArray) (last : ByteArray) (hl : init.length < 2147483648) :
    wrap64 (((init ++ [last]).length : Int) - 1) = (init.length : Int) ∧ rdOf ByteArray.empty (init ++ [last]) (init.length : Int) = last ∧ (init ++ [last]).take ((init.length : Int)).toNat = init ∧ ((init.length : Int) < ((init ++ [last]).length : Int)) := by
  refine ⟨?_, ?_, ?_, ?_⟩
  · rw [w64n _ (by simp <;> omega) (by simp <;> omega)]; simp
  · simp [rdOf]
  · simp
  · simp; omega
theorem climb_f : ∀ (n k m : Nat) (h : ByteArray) (l : List ByteArray), h.size = 32 → 1 ≤ n → n ≤ 2147483648 → m < n → l.length < 2147483648 → 2 * n ≤ k →
    ∃ r b, merkle_climb.f k h (m : Int) (n : Int) l = some (r, b) ∧ r.size ≤ 32 ∧ (b = true ↔ l.length = (turns m n).length ∧ W32 l) ∧ (b = true → r = up (turns m n).reverse l h) := by
  intro n
  induction n using Nat.strongRecOn with
  | _ n ih =>
  intro k m h l hh h1 h2 hm hl hk
  obtain ⟨k, rfl⟩ : ∃ q, k = q + 1 := ⟨k - 1, by omega⟩
  rw [merkle_climb.f]
  by_cases hn : n = 1
  · subst hn
    rw [if_pos (by rfl), turns_one _ _ (by omega)]
    refine ⟨h, _, rfl, by omega, ?_, fun _ => ?_⟩
    · cases l with
      | nil => simp [W32]
      | cons a t => simp; omega
    · cases l <;> rfl
  · have hn2 : 2 ≤ n := by omega
    have hlt := sp_lt hn2
    have hle := le_sp hn2
    have hpos := sp_pos n
    rw [if_neg (by omega)]
    obtain ⟨k, rfl⟩ : ∃ q, k = q + 1 := ⟨k - 1, by omega⟩
    have hne : (turns m n).length ≠ 0 := by
      by_cases hs : m < sp n
      · rw [turns_lt hn2 hs]; simp
      · rw [turns_ge hn2 hs]; simp
    rcases List.eq_nil_or_concat l with rfl | ⟨init, last, rfl⟩
    · have e : wrap64 ((([] : List ByteArray).length : Int) - 1) = -1 := by rw [w64n] <;> simp
      rw [e, if_pos (by omega), merkle_climb.j0, if_pos rfl]
      exact ⟨_, _, rfl, by decide, ⟨fun h => by simp at h, fun h => absurd h.1.symm (by simpa using hne)⟩, fun h => by simp at h⟩
    · rw [List.concat_eq_append] at *
      obtain ⟨e1, e2, e3, e4⟩ := last_of init last (by simp at hl; omega)
      rw [e1, if_neg (by omega), if_pos (by omega), if_pos e4, e2, merkle_climb.j0]
      by_cases hs : last.size = 32
      · rw [if_neg (by simp [hs])]
        rw [split_f n hn2 h2, Option.bind_some]
        by_cases hmk : m < sp n
        · obtain ⟨r, b, hf, hr, hb, hu⟩ := ih (sp n) hlt k m h init hh hpos (by omega) hmk (by simp at hl; omega) (by omega)
          rw [if_pos (by omega), if_pos (by omega), if_pos (by omega), e3, hf, Option.bind_some, if_pos e4, e2]
          simp only []
          rw [node_f r last hr (by omega), Option.bind_some, turns_lt hn2 hmk]
          refine ⟨_, _, rfl, by rw [node_size]; omega, ?_, fun h' => ?_⟩
          · rw [hb]
            simp only [List.length_append, List.length_cons, List.length_nil, W32.app, W32.one, hs, and_true]
            constructor <;> rintro ⟨a1, a2⟩ <;> exact ⟨by omega, a2⟩
          · rw [List.reverse_cons, up_snoc _ _ _ _ _ (by rw [List.length_reverse]; exact (hb.1 h').1.symm), ← hu h']
            rfl
        · obtain ⟨r, b, hf, hr, hb, hu⟩ := ih (n - sp n) (by omega) k (m - sp n) h init hh (by omega) (by omega) (by omega) (by simp at hl; omega) (by omega)
          have e5 : wrap64 ((m : Int) - (sp n : Int)) = ((m - sp n : Nat) : Int) := by rw [w64n _ (by omega) (by omega)]; omega
          have e6 : wrap64 ((n : Int) - (sp n : Int)) = ((n - sp n : Nat) : Int) := by rw [w64n _ (by omega) (by omega)]; omega
          rw [if_neg (by omega), if_pos (by omega), if_pos (by omega), e3, e5, e6, hf, Option.bind_some, if_pos e4, e2]
          simp only []
          rw [node_f last r (by omega) hr, Option.bind_some, turns_ge hn2 hmk]
          refine ⟨_, _, rfl, by rw [node_size]; omega, ?_, fun h' => ?_⟩
          · rw [hb]
            simp only [List.length_append, List.length_cons, List.length_nil, W32.app, W32.one, hs, and_true]
            constructor <;> rintro ⟨a1, a2⟩ <;> exact ⟨by omega, a2⟩
          · rw [List.reverse_cons, up_snoc _ _ _ _ _ (by rw [List.length_reverse]; exact (hb.1 h').1.symm), ← hu h']
            rfl
      · rw [if_pos (by simpa using fun e => hs (by omega))]
        refine ⟨_, _, rfl, by decide, ⟨fun h => by simp at h, fun h => absurd (W32.one.1 (W32.app.1 h.2).2) hs⟩, fun h => by simp at h⟩
/-- What both say of a way behind the guards. -/
def says (root h : ByteArray) (ts : List Bool) (l : List ByteArray) (r : Int) : Prop :=
  (l.length = ts.length ∧ W32 l ∧ up ts.reverse l h = root ∧ r = 0) ∨ (¬ (l.length = ts.length ∧ W32 l ∧ up ts.reverse l h = root) ∧ r = 80)
theorem says.uniq {root h : ByteArray} {ts : List Bool} {l : List ByteArray} {r r' : Int} (a : says root h ts l r) (b : says root h ts l r') : r = r' := by
  rcases a with ⟨a1, a2, a3, a4⟩ | ⟨a1, a2⟩ <;> rcases b with ⟨b1, b2, b3, b4⟩ | ⟨b1, b2⟩
  · omega
  · exact absurd ⟨a1, a2, a3⟩ b1
  · exact absurd ⟨b1, b2, b3⟩ a1
  · omega
theorem toList_eq_iff {a b : ByteArray} : a.toList = b.toList ↔ a = b := by
  constructor
  · intro h
    rw [ByteArray.toList_eq, ByteArray.toList_eq] at h
    have := Array.toList_inj.1 h
    cases a; cases b; simpa using this
  · rintro rfl; rfl
theorem verify_f (k m n : Nat) (root leaf : ByteArray) (l : List ByteArray) (hh : leaf.size = 32) (hr : root.size = 32) (h1 : 1 ≤ n) (h2 : n ≤ 2147483648) (hm : m < n) (hl : l.length ≤ 64) (hk : 4294967296 < k) :
    ∃ r, merkle_Verify.f k root leaf (m : Int) (n : Int) l = some r ∧ says root leaf (turns m n) l r := by
  obtain ⟨k, rfl⟩ : ∃ q, k = q + 1 := ⟨k - 1, by omega⟩
  obtain ⟨r, b, hf, hs, hb, hu⟩ := climb_f n k m leaf l hh h1 h2 hm (by omega) (by omega)
  unfold merkle_Verify.f
  rw [if_neg (by omega), if_neg (by omega), if_neg (by omega), if_neg (by omega), if_pos (by omega), merkle_Verify.j0, if_neg (by simp [hh]), if_neg (by omega), hf, Option.bind_some]
  simp only []
  cases b with
  | true =>
    obtain ⟨hb1, hb2⟩ := hb.1 rfl
    have hu := hu rfl
    rw [if_pos rfl]
    by_cases e : r = root
    · rw [if_pos (toList_eq_iff.2 e)]
      exact ⟨0, rfl, .inl ⟨hb1, hb2, hu ▸ e, rfl⟩⟩
    · rw [if_neg (fun h => e (toList_eq_iff.1 h))]
      exact ⟨80, rfl, .inr ⟨fun h => e (hu.trans h.2.2), rfl⟩⟩
  | false =>
    rw [if_neg (by simp)]
    exact ⟨80, rfl, .inr ⟨fun h => by have := hb.2 ⟨h.1, h.2.1⟩; simp at this, rfl⟩⟩
theorem refl1 (root : ByteArray) (l : List ByteArray) (acc : List Bool) (hla : acc.length = l.length) (hl : l.length ≤ 64) : ∀ (d k i : Nat) (h : ByteArray), h.size ≤ 32 → i + d = l.length → d < k →
    ∃ r, parchmentref08_Verify.l1 k root l acc h (i : Int) = some r ∧ ((W32 (l.drop i) ∧ up (acc.reverse.drop i) (l.drop i) h = root ∧ r = 0) ∨ (¬ (W32 (l.drop i) ∧ up (acc.reverse.drop i) (l.drop i) h = root) ∧ r = 80)) := by
  intro d
  induction d with
  | zero =>
    intro k i h hh hi hk
    obtain ⟨k, rfl⟩ : ∃ q, k = q + 1 := ⟨k - 1, by omega⟩
    rw [parchmentref08_Verify.l1, if_neg (by omega)]
    have e1 : l.drop i = [] := List.drop_eq_nil_of_le (by omega)
    have e2 : acc.reverse.drop i = [] := List.drop_eq_nil_of_le (by simp; omega)
    rw [e1, e2]
    by_cases e : h = root
    · rw [if_pos (toList_eq_iff.2 e)]
      exact ⟨0, rfl, .inl ⟨fun x hx => by simp at hx, e, rfl⟩⟩
    · rw [if_neg (fun h' => e (toList_eq_iff.1 h'))]
      exact ⟨80, rfl, .inr ⟨fun h' => e h'.2, rfl⟩⟩
  | succ d ih =>
    intro k i h hh hi hk
    obtain ⟨k, rfl⟩ : ∃ q, k = q + 1 := ⟨k - 1, by omega⟩
    have hil : i < l.length := by omega
    have hia : i < acc.reverse.length := by simp; omega
    have e1 : l.drop i = l[i] :: l.drop (i + 1) := List.drop_eq_getElem_cons hil
    have e2 : acc.reverse.drop i = acc.reverse[i] :: acc.reverse.drop (i + 1) := List.drop_eq_getElem_cons hia
    have e3 : rdOf ByteArray.empty l (i : Int) = l[i] := by simp [rdOf, hil]
    have e4 : wrap64 (wrap64 ((acc.length : Int) - 1) - (i : Int)) = ((acc.length - 1 - i : Nat) : Int) := by
      rw [w64n ((acc.length : Int) - 1) (by omega) (by omega), w64n _ (by omega) (by omega)]; omega
    have e5 : rdOf false acc ((acc.length - 1 - i : Nat) : Int) = acc.reverse[i] := by
      have : acc.length - 1 - i < acc.length := by omega
      simp [rdOf, this, List.getElem_reverse]
    have e6 : wrap64 ((i : Int) + 1) = ((i + 1 : Nat) : Int) := by rw [w64n _ (by omega) (by omega)]; omega
    rw [parchmentref08_Verify.l1, if_pos (by omega), if_pos (by omega), e3]
    by_cases hs : l[i].size = 32
    · rw [if_pos (by omega), e4, if_pos (by omega), if_pos (by omega), e5, e6]
      have hw : W32 (l.drop i) ↔ W32 (l.drop (i + 1)) := by rw [e1, W32.cons]; exact ⟨fun h => h.2, fun h => ⟨hs, h⟩⟩
      have hup : up (acc.reverse.drop i) (l.drop i) h = up (acc.reverse.drop (i + 1)) (l.drop (i + 1)) (step acc.reverse[i] l[i] h) := by rw [e1, e2]; rfl
      rw [hw, hup]
      by_cases ht : acc.reverse[i] = true
      · rw [if_pos ht, rnode_f _ _ (by omega) hh, Option.bind_some, ht]
        exact ih k (i + 1) _ (by rw [node_size]; omega) (by omega) (by omega)
      · rw [if_neg ht, rnode_f _ _ hh (by omega), Option.bind_some, Bool.eq_false_iff.2 ht]
        exact ih k (i + 1) _ (by rw [node_size]; omega) (by omega) (by omega)
    · rw [if_neg (by omega)]
      exact ⟨80, rfl, .inr ⟨fun h' => hs (by rw [e1] at h'; exact (W32.cons.1 h'.1).1), rfl⟩⟩
theorem refl0 (root leaf : ByteArray) (l : List ByteArray) (hh : leaf.size = 32) (hl : l.length ≤ 64) : ∀ (n k m : Nat) (acc : List Bool), 1 ≤ n → n ≤ 2147483648 → m < n → acc.length + n ≤ 4294967296 → n + 100 ≤ k →
    ∃ r, parchmentref08_Verify.l0 k root leaf (m : Int) (n : Int) l acc = some r ∧ says root leaf (acc ++ turns m n) l r := by
  intro n
  induction n using Nat.strongRecOn with
  | _ n ih =>
  intro k m acc h1 h2 hm ha hk
  obtain ⟨k, rfl⟩ : ∃ q, k = q + 1 := ⟨k - 1, by omega⟩
  rw [parchmentref08_Verify.l0]
  by_cases hn : 2 ≤ n
  · have hlt := sp_lt hn
    have hle := le_sp hn
    have hpos := sp_pos n
    rw [if_pos (by omega), half_f k n hn h2 (by omega), Option.bind_some]
    by_cases hmk : m < sp n
    · rw [if_pos (by omega), if_pos (by omega), turns_lt hn hmk]
      obtain ⟨r, hr, hs⟩ := ih (sp n) hlt k m (acc ++ [false]) hpos (by omega) hmk (by simp; omega) (by omega)
      exact ⟨r, hr, by simpa using hs⟩
    · have e5 : wrap64 ((m : Int) - (sp n : Int)) = ((m - sp n : Nat) : Int) := by rw [w64n _ (by omega) (by omega)]; omega
      have e6 : wrap64 ((n : Int) - (sp n : Int)) = ((n - sp n : Nat) : Int) := by rw [w64n _ (by omega) (by omega)]; omega
      rw [if_neg (by omega), if_pos (by omega), e5, e6, turns_ge hn hmk]
      obtain ⟨r, hr, hs⟩ := ih (n - sp n) (by omega) k (m - sp n) (acc ++ [true]) (by omega) (by omega) (by omega) (by simp; omega) (by omega)
      exact ⟨r, hr, by simpa using hs⟩
  · rw [if_neg (by omega), turns_one _ _ (by omega), List.append_nil]
    by_cases he : acc.length = l.length
    · rw [if_pos (by omega)]
      obtain ⟨r, hr, hs⟩ := refl1 root l acc he hl l.length k 0 leaf (by omega) (by omega) (by omega)
      refine ⟨r, hr, ?_⟩
      rcases hs with ⟨a1, a2, a3⟩ | ⟨a1, a2⟩
      · exact .inl ⟨he.symm, by simpa using a1, by simpa using a2, a3⟩
      · exact .inr ⟨fun h => a1 ⟨by simpa using h.2.1, by simpa using h.2.2⟩, a2⟩
    · rw [if_neg (by omega)]
      exact ⟨80, rfl, .inr ⟨fun h => he h.1.symm, rfl⟩⟩
theorem refVerify_f (k m n : Nat) (root leaf : ByteArray) (l : List ByteArray) (hh : leaf.size = 32) (hr : root.size = 32) (h1 : 1 ≤ n) (h2 : n ≤ 2147483648) (hm : m < n) (hl : l.length ≤ 64) (hk : 4294967296 < k) :
    ∃ r, parchmentref08_Verify.f k root leaf (m : Int) (n : Int) l = some r ∧ says root leaf (turns m n) l r := by
  obtain ⟨k, rfl⟩ : ∃ q, k = q + 1 := ⟨k - 1, by omega⟩
  obtain ⟨r, hr', hs⟩ := refl0 root leaf l hh hl n k m [] h1 h2 hm (by simp; omega) (by omega)
  unfold parchmentref08_Verify.f
  rw [if_neg (by omega), if_neg (by omega), if_neg (by omega), if_neg (by omega), if_pos (by omega), parchmentref08_Verify.j0, if_neg (by simp [hh]), if_neg (by omega), hr']
  exact ⟨r, rfl, by simpa using hs⟩
/-- Any way, any numbers: the program says what the reference says. -/
theorem verify_eq (k : Nat) (hk : 4294967296 < k) (root leaf : ByteArray) (m n : Int) (l : List ByteArray) :
    ∃ r, merkle_Verify.f k root leaf m n l = some r ∧ parchmentref08_Verify.f k root leaf m n l = some r := by
  obtain ⟨q, rfl⟩ : ∃ q, k = q + 1 := ⟨k - 1, by omega⟩
  by_cases g : 1 ≤ n ∧ n ≤ 2147483648 ∧ 0 ≤ m ∧ m < n ∧ root.size = 32 ∧ leaf.size = 32 ∧ l.length ≤ 64
  · obtain ⟨g1, g2, g3, g4, g5, g6, g7⟩ := g
    obtain ⟨n', rfl⟩ := Int.eq_ofNat_of_zero_le (show 0 ≤ n by omega)
    obtain ⟨m', rfl⟩ := Int.eq_ofNat_of_zero_le g3
    obtain ⟨r, hr, hs⟩ := verify_f (q + 1) m' n' root leaf l g6 g5 (by omega) (by omega) (by omega) g7 hk
    obtain ⟨r', hr', hs'⟩ := refVerify_f (q + 1) m' n' root leaf l g6 g5 (by omega) (by omega) (by omega) g7 hk
    exact ⟨r, hr, hr'.trans (by rw [hs'.uniq hs])⟩
  · unfold merkle_Verify.f parchmentref08_Verify.f
    have j1 : ∀ a b c d e, merkle_Verify.j0 (q + 1) a b c d e true = some 1 := fun _ _ _ _ _ => by rw [merkle_Verify.j0, if_pos rfl]
    have j2 : ∀ a b c d e, parchmentref08_Verify.j0 (q + 1) a b c d e true = some 1 := fun _ _ _ _ _ => by rw [parchmentref08_Verify.j0, if_pos rfl]
    by_cases c1 : n < 1
    · rw [if_pos c1, if_pos c1, j1, j2]; exact ⟨1, rfl, rfl⟩
    by_cases c2 : n > 2147483648
    · rw [if_neg c1, if_neg c1, if_pos c2, if_pos c2, j1, j2]; exact ⟨1, rfl, rfl⟩
    by_cases c3 : m < 0
    · rw [if_neg c1, if_neg c1, if_neg c2, if_neg c2, if_pos c3, if_pos c3, j1, j2]; exact ⟨1, rfl, rfl⟩
    by_cases c4 : m ≥ n
    · rw [if_neg c1, if_neg c1, if_neg c2, if_neg c2, if_neg c3, if_neg c3, if_pos c4, if_pos c4, j1, j2]; exact ⟨1, rfl, rfl⟩
    rw [if_neg c1, if_neg c1, if_neg c2, if_neg c2, if_neg c3, if_neg c3, if_neg c4, if_neg c4]
    by_cases c5 : (root.size : Int) = 32
    · rw [if_pos c5, if_pos c5]
      by_cases c6 : leaf.size = 32
      · have c7 : (l.length : Int) > 64 := by omega
        have : ((leaf.size : Int) != 32) = false := by simp [c6]
        have v1 : merkle_Verify.j0 (q + 1) root leaf m n l false = some 80 := by rw [merkle_Verify.j0, if_neg (by simp), if_pos c7]
        have v2 : parchmentref08_Verify.j0 (q + 1) root leaf m n l false = some 80 := by rw [parchmentref08_Verify.j0, if_neg (by simp), if_pos c7]
        rw [this, v1, v2]
        exact ⟨80, rfl, rfl⟩
      · have : ((leaf.size : Int) != 32) = true := by simp; omega
        rw [this, j1, j2]; exact ⟨1, rfl, rfl⟩
    · rw [if_neg c5, if_neg c5, j1, j2]; exact ⟨1, rfl, rfl⟩
end Go.Proofs.Ytnipbdlljfifhaa.M
set_option linter.unusedVariables false
set_option linter.unusedSimpArgs false
namespace Go.Proofs.Ytnipbdlljfifhaa.M
open Go.RowKit Go.Proofs.Ytnipbdlljfifhaa.PMk Go.Proofs.YtnipbdlljfifhaaW.PrintWords Go.Proofs.YtnipbdlljfifhaaW.PrintLast
def mroot (l : List ByteArray) : ByteArray :=
  if h : l.length ≤ 1 then (if l.length = 0 then Dig.dig ⟨#[]⟩ else l.getD 0 ByteArray.empty)
  else node (mroot (l.take (sp l.length))) (mroot (l.drop (sp l.length)))
termination_by l.length
decreasing_by
  · have := sp_lt (n := l.length) (by omega); simp; omega
  · have := sp_pos l.length; have := sp_lt (n := l.length) (by omega); simp; omega
theorem W32.take {l : List ByteArray} (h : W32 l) (n : Nat) : W32 (l.take n) := fun x hx => h x (List.mem_of_mem_take hx)
theorem W32.drop {l : List ByteArray} (h : W32 l) (n : Nat) : W32 (l.drop n) := fun x hx => h x (List.mem_of_mem_drop hx)
theorem W32.getD {l : List ByteArray} (h : W32 l) {i : Nat} (hi : i < l.length) : (l.getD i ByteArray.empty).size = 32 := by
  rw [List.getD_eq_getElem?_getD, List.getElem?_eq_getElem hi]
  exact h _ (List.getElem_mem _)
theorem mroot_size {l : List ByteArray} (h : W32 l) : (mroot l).size = 32 := by
  rw [mroot]
  split
  · split
    · exact Dig.dig_size _
    · exact h.getD (by omega)
  · exact node_size _ _
theorem mroot_two {l : List ByteArray} (h : 2 ≤ l.length) : mroot l = node (mroot (l.take (sp l.length))) (mroot (l.drop (sp l.length))) := by
  rw [mroot]; rw [dif_neg (by omega)]
theorem mroot_one {l : List ByteArray} (h : l.length = 1) : mroot l = l.getD 0 ByteArray.empty := by
  rw [mroot]; rw [dif_pos (by omega), if_neg (by omega)]
theorem mroot_nil : mroot [] = Dig.dig ⟨#[]⟩ := by rw [mroot]; rfl
theorem root_f : ∀ (k : Nat) (l : List ByteArray), W32 l → l.length ≤ 2147483648 → l.length < k → merkle_root.f k l = some (mroot l)
  | 0, l, _, _, h => by omega
  | k + 1, l, hw, hl, hk => by
    rw [merkle_root.f]
    by_cases h0 : l.length = 0
    · rw [if_pos (by omega), List.eq_nil_of_length_eq_zero h0, mroot_nil]
      unfold Dig.hash_Sum.f
      rw [if_pos (by decide)]
      rfl
    · rw [if_neg (by omega)]
      by_cases h1 : l.length = 1
      · rw [if_pos (by omega), if_pos (by omega), mroot_one h1]
        rfl
      · have h2 : 2 ≤ l.length := by omega
        have hlt := sp_lt h2
        have hpos := sp_pos l.length
        rw [if_neg (by omega), split_f _ h2 hl, Option.bind_some, if_pos (by omega), if_pos (by omega), Int.toNat_natCast,
          root_f k _ (hw.take _) (by simp; omega) (by simp; omega), Option.bind_some, root_f k _ (hw.drop _) (by simp; omega) (by simp; omega), Option.bind_some,
          node_f _ _ (by rw [mroot_size (hw.take _)]; omega) (by rw [mroot_size (hw.drop _)]; omega), Option.bind_some, mroot_two h2]
theorem rroot_f : ∀ (k : Nat) (l : List ByteArray), W32 l → l.length ≤ 2147483648 → l.length < k → parchmentref08_Root.f k l = some (mroot l)
  | 0, l, _, _, h => by omega
  | k + 1, l, hw, hl, hk => by
    rw [parchmentref08_Root.f]
    by_cases h0 : l.length = 0
    · rw [if_pos (by omega), List.eq_nil_of_length_eq_zero h0, mroot_nil]
      unfold Dig.parchmentref01_Sum.f
      rw [if_pos (by decide)]
      rfl
    · rw [if_neg (by omega)]
      by_cases h1 : l.length = 1
      · rw [if_pos (by omega), if_pos (by omega), mroot_one h1]
        rfl
      · have h2 : 2 ≤ l.length := by omega
        have hlt := sp_lt h2
        have hpos := sp_pos l.length
        rw [if_neg (by omega), half_f k _ h2 hl (by omega), Option.bind_some, if_pos (by omega), if_pos (by omega), Int.toNat_natCast,
          rroot_f k _ (hw.take _) (by simp; omega) (by simp; omega), Option.bind_some, rroot_f k _ (hw.drop _) (by simp; omega) (by simp; omega), Option.bind_some,
          rnode_f _ _ (by rw [mroot_size (hw.take _)]; omega) (by rw [mroot_size (hw.drop _)]; omega), Option.bind_some, mroot_two h2]
/-! ### what shows a leaf -/
def pathT (m : Nat) (l : List ByteArray) : List ByteArray :=
  if h : l.length ≤ 1 then [] else if m < sp l.length then pathT m (l.take (sp l.length)) ++ [mroot (l.drop (sp l.length))] else pathT (m - sp l.length) (l.drop (sp l.length)) ++ [mroot (l.take (sp l.length))]
termination_by l.length
decreasing_by
  · have := sp_lt (n := l.length) (by omega); simp; omega
  · have := sp_pos l.length; have := sp_lt (n := l.length) (by omega); simp; omega
theorem pathT_one {m : Nat} {l : List ByteArray} (h : l.length ≤ 1) : pathT m l = [] := by rw [pathT]; rw [dif_pos h]
theorem pathT_lt {m : Nat} {l : List ByteArray} (h : 2 ≤ l.length) (hm : m < sp l.length) : pathT m l = pathT m (l.take (sp l.length)) ++ [mroot (l.drop (sp l.length))] := by rw [pathT]; rw [dif_neg (by omega), if_pos hm]
theorem pathT_ge {m : Nat} {l : List ByteArray} (h : 2 ≤ l.length) (hm : ¬ m < sp l.length) : pathT m l = pathT (m - sp l.length) (l.drop (sp l.length)) ++ [mroot (l.take (sp l.length))] := by rw [pathT]; rw [dif_neg (by omega), if_neg hm]
theorem pathT_len : ∀ (d : Nat) (m : Nat) (l : List ByteArray), l.length ≤ d → (pathT m l).length ≤ l.length
  | 0, m, l, h => by rw [pathT_one (by omega)]; simp
  | d + 1, m, l, h => by
    by_cases h1 : l.length ≤ 1
    · rw [pathT_one h1]; simp
    · have h2 : 2 ≤ l.length := by omega
      have hlt := sp_lt h2
      have hpos := sp_pos l.length
      by_cases hm : m < sp l.length
      · rw [pathT_lt h2 hm]
        have := pathT_len d m (l.take (sp l.length)) (by simp; omega)
        simp at this ⊢; omega
      · rw [pathT_ge h2 hm]
        have := pathT_len d (m - sp l.length) (l.drop (sp l.length)) (by simp; omega)
        simp at this ⊢; omega
theorem path_f : ∀ (k m : Nat) (l : List ByteArray), W32 l → l.length ≤ 2147483648 → m < l.length → l.length < k → merkle_path.f k (m : Int) l = some (pathT m l)
  | 0, m, l, _, _, _, h => by omega
  | k + 1, m, l, hw, hl, hm, hk => by
    rw [merkle_path.f]
    by_cases h1 : l.length ≤ 1
    · rw [if_pos (by omega), pathT_one h1]
    · have h2 : 2 ≤ l.length := by omega
      have hlt := sp_lt h2
      have hpos := sp_pos l.length
      rw [if_neg (by omega), split_f _ h2 hl, Option.bind_some]
      by_cases hk2 : m < sp l.length
      · have hlen := pathT_len _ m (l.take (sp l.length)) (Nat.le_refl _)
        rw [if_pos (by omega), if_pos (by omega), if_pos (by omega), Int.toNat_natCast, path_f k m _ (hw.take _) (by simp; omega) (by simp; omega) (by simp; omega), Option.bind_some,
          root_f k _ (hw.drop _) (by simp; omega) (by simp; omega), Option.bind_some, if_pos (by simp at hlen; omega), pathT_lt h2 hk2]
      · have hlen := pathT_len _ (m - sp l.length) (l.drop (sp l.length)) (Nat.le_refl _)
        have e5 : wrap64 ((m : Int) - (sp l.length : Int)) = ((m - sp l.length : Nat) : Int) := by rw [w64n _ (by omega) (by omega)]; omega
        rw [if_neg (by omega), if_pos (by omega), if_pos (by omega), Int.toNat_natCast, e5, path_f k _ _ (hw.drop _) (by simp; omega) (by simp; omega) (by simp; omega), Option.bind_some,
          root_f k _ (hw.take _) (by simp; omega) (by simp; omega), Option.bind_some, if_pos (by simp at hlen; omega), pathT_ge h2 hk2]
theorem rpath_f : ∀ (k m : Nat) (l : List ByteArray), W32 l → l.length ≤ 2147483648 → m < l.length → l.length < k → parchmentref08_Path.f k (m : Int) l = some (pathT m l)
  | 0, m, l, _, _, _, h => by omega
  | k + 1, m, l, hw, hl, hm, hk => by
    rw [parchmentref08_Path.f]
    by_cases h1 : l.length ≤ 1
    · rw [if_pos (by omega), pathT_one h1]
    · have h2 : 2 ≤ l.length := by omega
      have hlt := sp_lt h2
      have hpos := sp_pos l.length
      rw [if_neg (by omega), half_f k _ h2 hl (by omega), Option.bind_some]
      by_cases hk2 : m < sp l.length
      · have hlen := pathT_len _ m (l.take (sp l.length)) (Nat.le_refl _)
        rw [if_pos (by omega), if_pos (by omega), if_pos (by omega), Int.toNat_natCast, rpath_f k m _ (hw.take _) (by simp; omega) (by simp; omega) (by simp; omega), Option.bind_some,
          rroot_f k _ (hw.drop _) (by simp; omega) (by simp; omega), Option.bind_some, if_pos (by simp at hlen; omega), pathT_lt h2 hk2]
      · have hlen := pathT_len _ (m - sp l.length) (l.drop (sp l.length)) (Nat.le_refl _)
        have e5 : wrap64 ((m : Int) - (sp l.length : Int)) = ((m - sp l.length : Nat) : Int) := by rw [w64n _ (by omega) (by omega)]; omega
        rw [if_neg (by omega), if_pos (by omega), if_pos (by omega), Int.toNat_natCast, e5, rpath_f k _ _ (hw.drop _) (by simp; omega) (by simp; omega) (by simp; omega), Option.bind_some,
          rroot_f k _ (hw.take _) (by simp; omega) (by simp; omega), Option.bind_some, if_pos (by simp at hlen; omega), pathT_ge h2 hk2]
theorem pathT_w32 : ∀ (d : Nat) (m : Nat) (l : List ByteArray), l.length ≤ d → W32 l → W32 (pathT m l)
  | 0, m, l, h, hw => by rw [pathT_one (by omega)]; simp [W32]
  | d + 1, m, l, h, hw => by
    by_cases h1 : l.length ≤ 1
    · rw [pathT_one h1]; simp [W32]
    · have h2 : 2 ≤ l.length := by omega
      have hlt := sp_lt h2
      have hpos := sp_pos l.length
      by_cases hm : m < sp l.length
      · rw [pathT_lt h2 hm]
        exact W32.app.2 ⟨pathT_w32 d m _ (by simp; omega) (hw.take _), W32.one.2 (mroot_size (hw.drop _))⟩
      · rw [pathT_ge h2 hm]
        exact W32.app.2 ⟨pathT_w32 d _ _ (by simp; omega) (hw.drop _), W32.one.2 (mroot_size (hw.take _))⟩
/-- What shows a leaf comes to the root. -/
theorem path_up : ∀ (d : Nat) (m : Nat) (l : List ByteArray), l.length ≤ d → m < l.length → (pathT m l).length = (turns m l.length).length ∧ up (turns m l.length).reverse (pathT m l) (l.getD m ByteArray.empty) = mroot l
  | 0, m, l, h, hm => by omega
  | d + 1, m, l, h, hm => by
    by_cases h1 : l.length ≤ 1
    · rw [pathT_one h1, turns_one _ _ h1]
      obtain rfl : m = 0 := by omega
      exact ⟨rfl, (mroot_one (by omega)).symm⟩
    · have h2 : 2 ≤ l.length := by omega
      have hlt := sp_lt h2
      have hpos := sp_pos l.length
      by_cases hk2 : m < sp l.length
      · have e : (l.take (sp l.length)).length = sp l.length := by simp; omega
        obtain ⟨a1, a2⟩ := path_up d m (l.take (sp l.length)) (by omega) (by omega)
        rw [e] at a1 a2
        rw [pathT_lt h2 hk2, turns_lt h2 hk2, List.reverse_cons]
        refine ⟨by simp [a1], ?_⟩
        rw [up_snoc _ _ _ _ _ (by simp [a1])]
        have e2 : (l.take (sp l.length)).getD m ByteArray.empty = l.getD m ByteArray.empty := by simp [List.getElem?_take, hk2]
        rw [e2] at a2
        rw [a2, mroot_two h2]
        rfl
      · have e : (l.drop (sp l.length)).length = l.length - sp l.length := by simp
        obtain ⟨a1, a2⟩ := path_up d (m - sp l.length) (l.drop (sp l.length)) (by omega) (by omega)
        rw [e] at a1 a2
        rw [pathT_ge h2 hk2, turns_ge h2 hk2, List.reverse_cons]
        refine ⟨by simp [a1], ?_⟩
        rw [up_snoc _ _ _ _ _ (by simp [a1])]
        have e2 : (l.drop (sp l.length)).getD (m - sp l.length) ByteArray.empty = l.getD m ByteArray.empty := by
          simp [List.getElem?_drop, show sp l.length + (m - sp l.length) = m by omega]
        rw [e2] at a2
        rw [a2, mroot_two h2]
        rfl
/-- The program says that it does. -/
theorem path_shows (k m : Nat) (l : List ByteArray) (hw : W32 l) (hl : l.length ≤ 64) (hm : m < l.length) (hk : 4294967296 < k) :
    merkle_Verify.f k (mroot l) (l.getD m ByteArray.empty) (m : Int) (l.length : Int) (pathT m l) = some 0 := by
  obtain ⟨r, hr, hs⟩ := verify_f k m l.length (mroot l) (l.getD m ByteArray.empty) (pathT m l) (hw.getD hm) (mroot_size hw) (by omega) (by omega) hm (Nat.le_trans (pathT_len _ m l (Nat.le_refl _)) hl) hk
  obtain ⟨a1, a2⟩ := path_up _ m l (Nat.le_refl _) hm
  rcases hs with ⟨_, _, _, rfl⟩ | ⟨h, _⟩
  · exact hr
  · exact absurd ⟨a1, pathT_w32 _ m l (Nat.le_refl _) hw, a2⟩ h
end Go.Proofs.Ytnipbdlljfifhaa.M
