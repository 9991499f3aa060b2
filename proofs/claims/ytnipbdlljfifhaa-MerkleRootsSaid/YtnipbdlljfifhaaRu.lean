/- The tree of digests: RootAt, Path, Grown, New. -/
import Derived.Test.YtnipbdlljfifhaaRt
import Derived.Test.YtnipbdlljfifhaaPMkx6
import Derived.Test.YtnipbdlljfifhaaPMkx7
set_option linter.unusedVariables false
set_option linter.unusedSimpArgs false
namespace Go.Proofs.Ytnipbdlljfifhaa.T
open Go.RowKit Go.Proofs.Ytnipbdlljfifhaa.PMk Go.Proofs.YtnipbdlljfifhaaW.PrintWords Go.Proofs.YtnipbdlljfifhaaW.PrintLast
/-- A slice of strings cut at n. -/
theorem cutn (A : Option Addr) (c : Nat) (L : List ByteArray) (n : Int) (h0 : 0 ≤ n) (h1 : n ≤ L.length) (hc : L.length ≤ c) :
    ∃ T t, L.take n.toNat = T ∧ T.length = t ∧ (∀ W : World, (Instr.slice 22 (.slice A L.length c) none (some (.int .i64 n)) none).run Try.prog W = .ok (.slice A t c) W) ∧ (∀ w : World, Kd.C Kd.string w A L.length L → Kd.C Kd.string w A t T) ∧ t ≤ c := by
  obtain ⟨i0, hi, _, hsz, _⟩ := info_parts info9
  obtain ⟨hcut, hA, hC⟩ := print_take_of (P := Try.prog) Value.string (⟨#[]⟩ : ByteArray) 22 9 .i64 Try.underlying22 hi hsz A c L n h0 h1 hc
  exact ⟨_, _, rfl, rfl, hcut, fun w h => Kd.C_of_reads (h1 := fun _ => rfl) (hA w (Kd.reads_of_C h)), hC⟩
theorem root_any (k : Nat) (A : Option Addr) (t c : Nat) (T : List ByteArray) (r : ByteArray) (w : World) (ht : T.length = t) (hC : Kd.C Kd.string w A t T) (hc : t ≤ c) (h : merkle_root.f k T = some r) :
    Calls Try.prog 35 #[.slice A t c] w fun e w' => e = .returned (.string r) ∧ Below w.heap.size w w' := by
  subst ht
  exact merkle_root.calls k A c T r w hC hc h
theorem path_any (k : Nat) (m : Int) (A : Option Addr) (t c : Nat) (T r : List ByteArray) (w : World) (ht : T.length = t) (hC : Kd.C Kd.string w A t T) (hc : t ≤ c) (h : merkle_path.f k m T = some r) :
    Calls Try.prog 36 #[.int .i64 m, .slice A t c] w fun e w' => ∃ v, e = .returned v ∧ Kd.R Kd.string 9 w' w.heap.size (fun _ => True) v r ∧ Below w.heap.size w w' := by
  subst ht
  exact merkle_path.calls k m A c T r w hC hc h
theorem grown_any (k : Nat) (m : Int) (A : Option Addr) (t c : Nat) (T : List ByteArray) (b : Bool) (r : List ByteArray) (w : World) (ht : T.length = t) (hC : Kd.C Kd.string w A t T) (hc : t ≤ c) (h : merkle_grown.f k m T b = some r) :
    Calls Try.prog 38 #[.int .i64 m, .slice A t c, .bool b] w fun e w' => ∃ v, e = .returned v ∧ Kd.R Kd.string 9 w' w.heap.size (fun _ => True) v r ∧ Below w.heap.size w w' := by
  subst ht
  exact merkle_grown.calls k m A c T b r w hC hc h
def rootAtF (k : Nat) (L : List ByteArray) (n : Int) : Option (ByteArray × Int) :=
  if n < 0 then some (⟨#[]⟩, 1) else if n > (L.length : Int) then some (⟨#[]⟩, 1) else (merkle_root.f k (L.take n.toNat)).bind fun r => some (r, 0)
set_option maxRecDepth 100000 in
theorem rootAt_raw (k : Nat) (w : World) (base g : Nat) (vl vp : Value) (L P : List ByteArray) (hA : At w base g vl vp L P) (n : Int) (r : ByteArray) (c : Int) (h : rootAtF k L n = some (r, c)) :
    Calls Try.prog 18 #[.pointer (some ⟨g, 0, none⟩), .int .i64 n] w fun e w' => e = .returned (.tuple #[.string r, .int .i64 c]) ∧ Below w.heap.size w w' := by
  obtain ⟨A, cl, rfl, hl, hC⟩ := hA.reads
  have HA := Lib.hid hA
  have c0 := hA.c0
  have HC := Lib.hid hC
  have HL := Lib.hid hl
  clear hA hC hl
  unfold rootAtF at h
  by_cases h0 : n < 0
  · rw [if_pos h0] at h
    simp only [Option.some.injEq, Prod.mk.injEq] at h
    obtain ⟨rfl, rfl⟩ := h
    go_enter Try.func18, Try.ntmps18
    go_wp2_with (go_at_call 15; refine (len_raw _ _ _ _ _ _ _ HA.out).mono ?_; rintro e w' ⟨rfl, hw'⟩; obtain rfl : w = w' := hw'.symm)
    go_ret2
    exact ⟨rfl, Below.refl _ _⟩
  · rw [if_neg h0] at h
    by_cases h1 : n > (L.length : Int)
    · rw [if_pos h1] at h
      simp only [Option.some.injEq, Prod.mk.injEq] at h
      obtain ⟨rfl, rfl⟩ := h
      have h2 : ¬ n ≤ (L.length : Int) := by omega
      go_enter Try.func18, Try.ntmps18
      go_wp2_with (go_at_call 15; refine (len_raw _ _ _ _ _ _ _ HA.out).mono ?_; rintro e w' ⟨rfl, hw'⟩; obtain rfl : w = w' := hw'.symm)
      go_ret2
      exact ⟨rfl, Below.refl _ _⟩
    · rw [if_neg h1] at h
      obtain ⟨r', hr, h⟩ := Option.bind_eq_some_iff.mp h
      simp only [Option.some.injEq, Prod.mk.injEq] at h
      obtain ⟨rfl, rfl⟩ := h
      have h2 : n ≤ (L.length : Int) := by omega
      have h3 : 0 ≤ n := by omega
      obtain ⟨T, t, hT, ht, hcut, hC2, hc2⟩ := cutn A cl L n h3 h2 HL.out
      rw [hT] at hr
      have HC2 := Lib.hid (hC2 w HC.out)
      have HR := Lib.hid hr
      have Hc2 := Lib.hid hc2
      have Ht := Lib.hid ht
      clear hC2 hc2 hr ht hT
      go_enter Try.func18, Try.ntmps18
      go_wp2_with (first | (go_at_call 15; refine (len_raw _ _ _ _ _ _ _ HA.out).mono ?_; rintro e w' ⟨rfl, hw'⟩; obtain rfl : w = w' := hw'.symm) | (go_at_call 35; refine (root_any k _ _ _ _ r' _ Ht.out HC2.out Hc2.out HR.out).mono ?_; rintro e w' ⟨rfl, hb⟩))
      go_ret2
      exact ⟨rfl, by assumption⟩
def pathAtF (k : Nat) (L : List ByteArray) (m n : Int) : Option (List ByteArray × Int) :=
  if n < 0 then some ([], 1) else if n > (L.length : Int) then some ([], 1) else if m < 0 then some ([], 1) else if m ≥ n then some ([], 1) else (merkle_path.f k m (L.take n.toNat)).bind fun r => some (r, 0)
set_option maxRecDepth 100000 in
theorem pathAt_raw (k : Nat) (w : World) (base g : Nat) (vl vp : Value) (L P : List ByteArray) (hA : At w base g vl vp L P) (m n : Int) (r : List ByteArray) (c : Int) (h : pathAtF k L m n = some (r, c)) :
    Calls Try.prog 20 #[.pointer (some ⟨g, 0, none⟩), .int .i64 m, .int .i64 n] w fun e w' => ∃ v, e = .returned (.tuple #[v, .int .i64 c]) ∧ Kd.R Kd.string 9 w' w.heap.size (fun _ => True) v r ∧ Below w.heap.size w w' := by
  obtain ⟨A, cl, rfl, hl, hC⟩ := hA.reads
  have HA := Lib.hid hA
  have c0 := hA.c0
  have HC := Lib.hid hC
  have HL := Lib.hid hl
  clear hA hC hl
  unfold pathAtF at h
  by_cases h0 : n < 0
  · rw [if_pos h0] at h
    simp only [Option.some.injEq, Prod.mk.injEq] at h
    obtain ⟨rfl, rfl⟩ := h
    go_enter Try.func20, Try.ntmps20
    go_wp2_with (go_at_call 15; refine (len_raw _ _ _ _ _ _ _ HA.out).mono ?_; rintro e w' ⟨rfl, hw'⟩; obtain rfl : w = w' := hw'.symm)
    all_goals (go_ret2; exact ⟨_, rfl, Kd.R_nil _ _ _ _ _, Below.refl _ _⟩)
  · rw [if_neg h0] at h
    by_cases h1 : n > (L.length : Int)
    · rw [if_pos h1] at h
      simp only [Option.some.injEq, Prod.mk.injEq] at h
      obtain ⟨rfl, rfl⟩ := h
      have h2 : ¬ n ≤ (L.length : Int) := by omega
      go_enter Try.func20, Try.ntmps20
      go_wp2_with (go_at_call 15; refine (len_raw _ _ _ _ _ _ _ HA.out).mono ?_; rintro e w' ⟨rfl, hw'⟩; obtain rfl : w = w' := hw'.symm)
      all_goals (go_ret2; exact ⟨_, rfl, Kd.R_nil _ _ _ _ _, Below.refl _ _⟩)
    · rw [if_neg h1] at h
      by_cases h5 : m < 0
      · rw [if_pos h5] at h
        simp only [Option.some.injEq, Prod.mk.injEq] at h
        obtain ⟨rfl, rfl⟩ := h
        go_enter Try.func20, Try.ntmps20
        go_wp2_with (go_at_call 15; refine (len_raw _ _ _ _ _ _ _ HA.out).mono ?_; rintro e w' ⟨rfl, hw'⟩; obtain rfl : w = w' := hw'.symm)
        all_goals (go_ret2; exact ⟨_, rfl, Kd.R_nil _ _ _ _ _, Below.refl _ _⟩)
      · rw [if_neg h5] at h
        by_cases h6 : m ≥ n
        · rw [if_pos h6] at h
          simp only [Option.some.injEq, Prod.mk.injEq] at h
          obtain ⟨rfl, rfl⟩ := h
          go_enter Try.func20, Try.ntmps20
          go_wp2_with (go_at_call 15; refine (len_raw _ _ _ _ _ _ _ HA.out).mono ?_; rintro e w' ⟨rfl, hw'⟩; obtain rfl : w = w' := hw'.symm)
          all_goals (go_ret2; exact ⟨_, rfl, Kd.R_nil _ _ _ _ _, Below.refl _ _⟩)
        · rw [if_neg h6] at h
          obtain ⟨r', hr, h⟩ := Option.bind_eq_some_iff.mp h
          simp only [Option.some.injEq, Prod.mk.injEq] at h
          obtain ⟨rfl, rfl⟩ := h
          have h2 : n ≤ (L.length : Int) := by omega
          have h3 : 0 ≤ n := by omega
          obtain ⟨T, t, hT, ht, hcut, hC2, hc2⟩ := cutn A cl L n h3 h2 HL.out
          rw [hT] at hr
          have HC2 := Lib.hid (hC2 w HC.out)
          have HR := Lib.hid hr
          have Hc2 := Lib.hid hc2
          have Ht := Lib.hid ht
          clear hC2 hc2 hr ht hT
          go_enter Try.func20, Try.ntmps20
          go_wp2_with (first | (go_at_call 15; refine (len_raw _ _ _ _ _ _ _ HA.out).mono ?_; rintro e w' ⟨rfl, hw'⟩; obtain rfl : w = w' := hw'.symm) | (go_at_call 36; refine (path_any k m _ _ _ _ r' _ Ht.out HC2.out Hc2.out HR.out).mono ?_; rintro e w' ⟨v, rfl, hv, hb⟩))
          go_ret2
          exact ⟨_, rfl, by assumption, by assumption⟩
def grownAtF (k : Nat) (L : List ByteArray) (m n : Int) : Option (List ByteArray × Int) :=
  if n < 0 then some ([], 1) else if n > (L.length : Int) then some ([], 1) else if m < 1 then some ([], 1) else if m > n then some ([], 1) else (merkle_grown.f k m (L.take n.toNat) true).bind fun r => some (r, 0)
set_option maxRecDepth 100000 in
theorem grownAt_raw (k : Nat) (w : World) (base g : Nat) (vl vp : Value) (L P : List ByteArray) (hA : At w base g vl vp L P) (m n : Int) (r : List ByteArray) (c : Int) (h : grownAtF k L m n = some (r, c)) :
    Calls Try.prog 25 #[.pointer (some ⟨g, 0, none⟩), .int .i64 m, .int .i64 n] w fun e w' => ∃ v, e = .returned (.tuple #[v, .int .i64 c]) ∧ Kd.R Kd.string 9 w' w.heap.size (fun _ => True) v r ∧ Below w.heap.size w w' := by
  obtain ⟨A, cl, rfl, hl, hC⟩ := hA.reads
  have HA := Lib.hid hA
  have c0 := hA.c0
  have HC := Lib.hid hC
  have HL := Lib.hid hl
  clear hA hC hl
  unfold grownAtF at h
  by_cases h0 : n < 0
  · rw [if_pos h0] at h
    simp only [Option.some.injEq, Prod.mk.injEq] at h
    obtain ⟨rfl, rfl⟩ := h
    go_enter Try.func25, Try.ntmps25
    go_wp2_with (go_at_call 15; refine (len_raw _ _ _ _ _ _ _ HA.out).mono ?_; rintro e w' ⟨rfl, hw'⟩; obtain rfl : w = w' := hw'.symm)
    all_goals (go_ret2; exact ⟨_, rfl, Kd.R_nil _ _ _ _ _, Below.refl _ _⟩)
  · rw [if_neg h0] at h
    by_cases h1 : n > (L.length : Int)
    · rw [if_pos h1] at h
      simp only [Option.some.injEq, Prod.mk.injEq] at h
      obtain ⟨rfl, rfl⟩ := h
      have h2 : ¬ n ≤ (L.length : Int) := by omega
      go_enter Try.func25, Try.ntmps25
      go_wp2_with (go_at_call 15; refine (len_raw _ _ _ _ _ _ _ HA.out).mono ?_; rintro e w' ⟨rfl, hw'⟩; obtain rfl : w = w' := hw'.symm)
      all_goals (go_ret2; exact ⟨_, rfl, Kd.R_nil _ _ _ _ _, Below.refl _ _⟩)
    · rw [if_neg h1] at h
      by_cases h5 : m < 1
      · rw [if_pos h5] at h
        simp only [Option.some.injEq, Prod.mk.injEq] at h
        obtain ⟨rfl, rfl⟩ := h
        go_enter Try.func25, Try.ntmps25
        go_wp2_with (go_at_call 15; refine (len_raw _ _ _ _ _ _ _ HA.out).mono ?_; rintro e w' ⟨rfl, hw'⟩; obtain rfl : w = w' := hw'.symm)
        all_goals (go_ret2; exact ⟨_, rfl, Kd.R_nil _ _ _ _ _, Below.refl _ _⟩)
      · rw [if_neg h5] at h
        by_cases h6 : m > n
        · rw [if_pos h6] at h
          simp only [Option.some.injEq, Prod.mk.injEq] at h
          obtain ⟨rfl, rfl⟩ := h
          go_enter Try.func25, Try.ntmps25
          go_wp2_with (go_at_call 15; refine (len_raw _ _ _ _ _ _ _ HA.out).mono ?_; rintro e w' ⟨rfl, hw'⟩; obtain rfl : w = w' := hw'.symm)
          all_goals (go_ret2; exact ⟨_, rfl, Kd.R_nil _ _ _ _ _, Below.refl _ _⟩)
        · rw [if_neg h6] at h
          obtain ⟨r', hr, h⟩ := Option.bind_eq_some_iff.mp h
          simp only [Option.some.injEq, Prod.mk.injEq] at h
          obtain ⟨rfl, rfl⟩ := h
          have h2 : n ≤ (L.length : Int) := by omega
          have h3 : 0 ≤ n := by omega
          obtain ⟨T, t, hT, ht, hcut, hC2, hc2⟩ := cutn A cl L n h3 h2 HL.out
          rw [hT] at hr
          have HC2 := Lib.hid (hC2 w HC.out)
          have HR := Lib.hid hr
          have Hc2 := Lib.hid hc2
          have Ht := Lib.hid ht
          clear hC2 hc2 hr ht hT
          go_enter Try.func25, Try.ntmps25
          go_wp2_with (first | (go_at_call 15; refine (len_raw _ _ _ _ _ _ _ HA.out).mono ?_; rintro e w' ⟨rfl, hw'⟩; obtain rfl : w = w' := hw'.symm) | (go_at_call 38; refine (grown_any k m _ _ _ _ true r' _ Ht.out HC2.out Hc2.out HR.out).mono ?_; rintro e w' ⟨v, rfl, hv, hb⟩))
          go_ret2
          exact ⟨_, rfl, by assumption, by assumption⟩
theorem new_raw (w : World) : Calls Try.prog 12 #[] w fun e w' => ∃ g, e = .returned (.pointer (some ⟨g, 0, none⟩)) ∧ At w' w.heap.size g (.slice none 0 0) (.slice none 0 0) [] [] ∧ Below w.heap.size w w' := by
  have hu53 := Try.underlying53
  go_enter Try.func12, Try.ntmps12
  go_wp2_with (first | ((with_reducible refine gate_dst (N := 2) rfl ?_); refine box_event ?hg (N := 2) ?hd (cs := #[.slice none 0 0, .slice none 0 0]) (t := 53) ?hr ?_; (case hd => rfl); (case hg => rfl); (case hr => first | (go_simp; done) | (go_simp; rfl)); intro gb117 hg w1 hbox hb; have HX := Lib.hid hbox; have HB := Lib.hid hb; have HG := Lib.hid hg; clear hbox hb hg))
  go_ret
  exact ⟨_, rfl, ⟨HX.out, Nat.le_of_eq HG.out.symm, World.ownsRow_nil _ _ _ _, World.ownsRow_nil _ _ _ _, by intro k hk; simp [Value.ownBlock] at hk⟩, HB.out⟩
end Go.Proofs.Ytnipbdlljfifhaa.T
