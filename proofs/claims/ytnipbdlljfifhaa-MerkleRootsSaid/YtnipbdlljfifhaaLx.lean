/- What comes in is laid open: slices of strings; a way. -/
/- The tree of a law beside the law's own list of leaves. -/
/- The laws' tree: leaf by leaf. -/
import Derived.Test.YtnipbdlljfifhaaMr
import Derived.Lib.SmallJoins
import Derived.Deep.Strs
import Derived.ProofKit
import Derived.Test.YtnipbdlljfifhaaMk
import Derived.Test.YtnipbdlljfifhaaAw
set_option linter.unusedVariables false
set_option linter.unusedSimpArgs false
namespace Go.Proofs.Ytnipbdlljfifhaa.Opn
open Go.Joins Go.ChangeShapes Go.WideShapes Go.ChangeAt Go.RowKit Go.Deep Go.Proofs.YtnipbdlljfifhaaW.PrintWords Go.Proofs.YtnipbdlljfifhaaW.PrintLast Go.Proofs.YtnipbdlljfifhaaW.PrintMore
theorem V_of_C {w : World} {A : Option Addr} {c base : Nat} {l : List ByteArray} (h : Kd.C Kd.string w A l.length l) (hc : l.length ≤ c) : Kd.V Kd.string 9 w base (fun _ => True) (.slice A l.length c) l := by
  refine ⟨A, c, rfl, hc, fun W' hW => ?_⟩
  have hr := Kd.reads_of_C (d := ByteArray.empty) h
  refine Kd.C_of_reads (h1 := fun _ => rfl) (d := ByteArray.empty) ⟨hr.1, hr.2.1, fun hn => ?_⟩
  obtain ⟨ad, e, hcell⟩ := hr.2.2 hn
  refine ⟨ad, e, fun j hj => ?_⟩
  have h1 := hcell j hj
  have h2 := World.block_lt_of_cell? w _ h1
  exact (World.cell?_of_block (hW _ trivial h2)).trans h1
abbrev refConsistent.f := PMk.parchmentref08_Consistent.f
theorem refConsistent.calls (k : Nat) (a0 a1 : ByteArray) (a2 a3 : Int) (A4 : Option Addr) (c4 : Nat) (l4 : List ByteArray) (r : Int) (w : World) (hr4 : Kd.C Kd.string w A4 l4.length l4) (hc4 : l4.length ≤ c4) (h : PMk.parchmentref08_Consistent.f k a0 a1 a2 a3 l4 = some r) :
    Calls Try.prog 24 #[.string a0, .string a1, .int .i64 a2, .int .i64 a3, .slice A4 l4.length c4] w fun e w' => e = .returned (.int .i64 r) ∧ Below w.heap.size w w' :=
  PMk.parchmentref08_Consistent.calls k a0 a1 a2 a3 (fun _ => True) A4 c4 l4 r w (V_of_C hr4 hc4) h
/-- A slice of strings that came in. -/
theorem open_texts {H : Type} {enc : TypeId × Value → H} {W : World} {base : Nat} {sp : Nat → Bool} {held : Bool} {fuel : Nat} {v : Value} {x : DataW H × List MemPlace}
    (h : DataW.trod enc Try.prog W base sp held fuel 22 [v] = some x) :
    ∃ A c l, v = .slice A l.length c ∧ l.length ≤ c ∧ Kd.C Kd.string W A l.length l := by
  rcases open_strs Try.underlying22 Try.underlying9 (by kernel_rfl) h with ⟨hcs, _⟩ | ⟨a, len, cap, m, Sx, hcs, hb, hl, hm, hmm, hx, hi⟩
  · simp at hcs
    subst hcs
    exact ⟨none, 0, [], rfl, Nat.le_refl _, Kd.C_nil _ _⟩
  · simp at hcs
    subst hcs
    have hlm : len ≤ m := by rw [hmm]; split <;> omega
    refine ⟨some a, cap, (List.range len).map Sx, by simp, by simpa using hl, Kd.C_of_reads (h1 := fun _ => rfl) (d := ByteArray.empty) ⟨rfl, ?_, fun _ => ⟨a, rfl, fun j hj => ?_⟩⟩⟩
    · simp; have : maxLen ≤ 9223372036854775807 := by decide
      omega
    · simp at hj
      have e : ((List.range len).map Sx).getD j ByteArray.empty = Sx j := by simp [hj]
      rw [e]
      exact (hi j (by omega)).1
section
variable {H : Type} {enc : TypeId × Value → H} {P : Program} {w : World} {base : Nat} {spare : Nat → Bool} {held : Bool}
theorem open_agg5 {r : Reach} {b0 : Nat} {t : TypeId} {f0 f1 f2 f3 f4 : Field} {v : Value} {d : DataW H} {p : List MemPlace} (hs : P.underlying t = some (.struct #[f0, f1, f2, f3, f4])) (hone : oneCellFields P #[f0, f1, f2, f3, f4] = true) (hC : P.cellsOf t = 5)
    (hv : Value.okWide P w r b0 t v) (h : DataW.Trod enc P w base spare held t v d p) :
    ∃ (v0 v1 v2 v3 v4 : Value) (y0 y1 y2 y3 y4 : DataW H × List MemPlace) (n : Nat), v = .agg #[v0, v1, v2, v3, v4] ∧ d = .agg [y0.1, y1.1, y2.1, y3.1, y4.1] ∧ p = y0.2 ++ (y1.2 ++ (y2.2 ++ (y3.2 ++ y4.2))) ∧
      DataW.trod enc P w base spare held n f0.type [v0] = some y0 ∧ DataW.trod enc P w base spare held n f1.type [v1] = some y1 ∧ DataW.trod enc P w base spare held n f2.type [v2] = some y2 ∧ DataW.trod enc P w base spare held n f3.type [v3] = some y3 ∧ DataW.trod enc P w base spare held n f4.type [v4] = some y4 := by
  obtain ⟨cs, rfl, hsz⟩ := okWide_struct hs hv
  obtain ⟨l⟩ := cs
  match l, hsz.trans hC with
  | [c0, c1, c2, c3, c4], _ =>
    obtain ⟨fuel, hf⟩ := h
    obtain ⟨xs, n, _, hx, _, hlen, hg⟩ := DataW.trod_struct hs hf
    obtain ⟨o0, k0⟩ := hone_of hone 0 f0 rfl
    obtain ⟨o1, k1⟩ := hone_of hone 1 f1 rfl
    obtain ⟨o2, k2⟩ := hone_of hone 2 f2 rfl
    obtain ⟨o3, k3⟩ := hone_of hone 3 f3 rfl
    obtain ⟨o4, k4⟩ := hone_of hone 4 f4 rfl
    match xs, hlen with
    | [y0, y1, y2, y3, y4], _ =>
      simp only [Prod.mk.injEq] at hx
      exact ⟨c0, c1, c2, c3, c4, y0, y1, y2, y3, y4, n, rfl, by simpa using hx.1, by simpa using hx.2, by simpa [Value.cells, o0, k0] using hg 0 f0 rfl, by simpa [Value.cells, o1, k1] using hg 1 f1 rfl, by simpa [Value.cells, o2, k2] using hg 2 f2 rfl, by simpa [Value.cells, o3, k3] using hg 3 f3 rfl, by simpa [Value.cells, o4, k4] using hg 4 f4 rfl⟩
end
theorem open_way {H : Type} {enc : TypeId × Value → H} {W : World} {base b0 : Nat} {r : Reach} {sp : Nat → Bool} {held : Bool} {v : Value} {d : DataW H} {p : List MemPlace}
    (hv : Value.okWide Try.prog W r b0 24 v) (h : DataW.Trod enc Try.prog W base sp held 24 v d p) :
    ∃ (root leaf : ByteArray) (m n : Int) (A : Option Addr) (c : Nat) (l : List ByteArray), v = .agg #[.string root, .string leaf, .int .i64 m, .int .i64 n, .slice A l.length c] ∧ l.length ≤ c ∧ Kd.C Kd.string W A l.length l := by
  obtain ⟨v0, v1, v2, v3, v4, y0, y1, y2, y3, y4, n, rfl, _, _, h0, h1, h2, h3, h4⟩ := open_agg5 Try.underlying24 (by kernel_rfl) (by kernel_rfl) hv h
  obtain ⟨s0, e0, _⟩ := DataW.trod_string Try.underlying9 h0
  obtain ⟨s1, e1, _⟩ := DataW.trod_string Try.underlying9 h1
  obtain ⟨n2, e2, _⟩ := DataW.trod_int Try.underlying3 h2
  obtain ⟨n3, e3, _⟩ := DataW.trod_int Try.underlying3 h3
  obtain ⟨A, c, l, rfl, hc, hC⟩ := open_texts h4
  simp at e0 e1 e2 e3
  subst e0 e1 e2 e3
  exact ⟨s0, s1, n2, n3, A, c, l, rfl, hc, hC⟩
end Go.Proofs.Ytnipbdlljfifhaa.Opn
set_option linter.unusedVariables false
set_option linter.unusedSimpArgs false
namespace Go.Proofs.Ytnipbdlljfifhaa.T
open Go.RowKit Go.Proofs.Ytnipbdlljfifhaa.PMk Go.Proofs.Ytnipbdlljfifhaa.M Go.Proofs.YtnipbdlljfifhaaW.PrintWords Go.Proofs.YtnipbdlljfifhaaW.PrintLast
/-- A tree, and a list of strings of the call's own in another row. -/
structure Pair (w : World) (base g : Nat) (vl vp vo : Value) (L : List ByteArray) : Prop where
  tr : At w base g vl vp L (pk L)
  ro : w.ownsRow base 9 1 vo L.length (pw_strs L)
  ap : ∀ k, vo.ownBlock = some k → vl.ownBlock ≠ some k ∧ vp.ownBlock ≠ some k
/-- The list lags one leaf behind. -/
structure Lag (w : World) (base g : Nat) (vl vp vo : Value) (L O : List ByteArray) : Prop where
  tr : At w base g vl vp L (pk L)
  ro : w.ownsRow base 9 1 vo O.length (pw_strs O)
  ap : ∀ k, vo.ownBlock = some k → vl.ownBlock ≠ some k ∧ vp.ownBlock ≠ some k
theorem Pair.lag {w : World} {base g : Nat} {vl vp vo : Value} {L : List ByteArray} (h : Pair w base g vl vp vo L) : Lag w base g vl vp vo L L := ⟨h.tr, h.ro, h.ap⟩
theorem Lag.pair {w : World} {base g : Nat} {vl vp vo : Value} {L : List ByteArray} (h : Lag w base g vl vp vo L L) : Pair w base g vl vp vo L := ⟨h.tr, h.ro, h.ap⟩
theorem Lag.below {w w1 : World} {base g : Nat} {vl vp vo : Value} {L O : List ByteArray} (h : Lag w base g vl vp vo L O) (hb : Below w.heap.size w w1) : Lag w1 base g vl vp vo L O :=
  ⟨h.tr.below hb, pw_own_below h.ro hb, h.ap⟩
theorem Pair.below {w w1 : World} {base g : Nat} {vl vp vo : Value} {L : List ByteArray} (h : Pair w base g vl vp vo L) (hb : Below w.heap.size w w1) : Pair w1 base g vl vp vo L := (h.lag.below hb).pair
theorem Pair.add {w w1 : World} {base g : Nat} {vl vp vo vl' vp' : Value} {L : List ByteArray} {h : ByteArray} (hP : Pair w base g vl vp vo L) (hA : At w1 base g vl' vp' (L ++ [h]) (pk (L ++ [h]))) (hs : Step w w1 g vl vp vl' vp') :
    Lag w1 base g vl' vp' vo (L ++ [h]) L := by
  have hg : some g ≠ vo.ownBlock := own_ne hP.ro hP.tr.blk (by decide)
  refine ⟨hA, own_move hP.ro (fun k hk => hs.block k (own_lt hP.ro k hk) (fun e => hg (by rw [hk, e])) (hP.ap k hk).1 (hP.ap k hk).2), fun k hk => ⟨fun e => ?_, fun e => ?_⟩⟩
  · rcases hs.nl k e with e | e
    · exact (hP.ap k hk).1 e
    · have := own_lt hP.ro k hk; omega
  · rcases hs.np k e with e | e
    · exact (hP.ap k hk).2 e
    · have := own_lt hP.ro k hk; omega
/-- The leaf is put behind the list, too. -/
theorem Lag.push {w w2 : World} {base g g1 cap1 n : Nat} {vl vp vo : Value} {L O : List ByteArray} {o : Obj} {h : ByteArray} (hP : Lag w base g vl vp vo L O) (hn : O.length = n)
    (ho : w2.ownsRow base 9 1 (.slice (some ⟨g1, 0, none⟩) (n + 1) cap1) (n + 1) (pw_strs O ++ [.string h])) (hg : (w.alloc o).grownBy w2 vo.ownBlock) (ha : vo.ownBlock = some g1 ∨ g1 = w.heap.size + 1) :
    Lag w2 base g vl vp (.slice (some ⟨g1, 0, none⟩) (n + 1) cap1) L (O ++ [h]) := by
  subst hn
  have hlt := (Array.getElem?_eq_some_iff.1 hP.tr.blk).1
  have hgo : some g ≠ vo.ownBlock := own_ne hP.ro hP.tr.blk (by decide)
  have kl : vl.ownBlock = none ∨ vl.ownBlock ≠ vo.ownBlock := by
    by_cases hv : vl.ownBlock = none
    · exact .inl hv
    · right; intro e
      obtain ⟨k, hk⟩ := Option.ne_none_iff_exists'.1 hv
      exact (hP.ap k (e ▸ hk)).1 hk
  have kp : vp.ownBlock = none ∨ vp.ownBlock ≠ vo.ownBlock := by
    by_cases hv : vp.ownBlock = none
    · exact .inl hv
    · right; intro e
      obtain ⟨k, hk⟩ := Option.ne_none_iff_exists'.1 hv
      exact (hP.ap k (e ▸ hk)).2 hk
  refine ⟨⟨(hg.block g (by simp; omega) hgo).trans ((heap_alloc_old w o hlt).trans hP.tr.blk), hP.tr.lo, (hP.tr.rl.alloc o).kept hg kl, (hP.tr.rp.alloc o).kept hg kp, hP.tr.ap⟩, ?_, ?_⟩
  · rw [List.length_append, List.length_singleton, ← strs_app]
    exact ho
  · intro k hk
    simp only [Value.ownBlock, Option.some.injEq] at hk
    subst hk
    rcases ha with ha | ha
    · exact hP.ap _ ha
    · exact ⟨fun e => by have := own_lt hP.tr.rl _ e; omega, fun e => by have := own_lt hP.tr.rp _ e; omega⟩
theorem add_tree (s : ByteArray) (w : World) (base g : Nat) (vl vp : Value) (L : List ByteArray) (hA : At w base g vl vp L (pk L)) (hw : W32 L) (hs : s.size < 1152921504606846000) (hn : L.length < 1000) :
    Calls Try.prog 13 #[.pointer (some ⟨g, 0, none⟩), .string s] w fun e w' => e = .returned (.string (leaf s)) ∧ ∃ vl' vp', At w' base g vl' vp' (L ++ [leaf s]) (pk (L ++ [leaf s])) ∧ Step w w' g vl vp vl' vp' ∧ Below base w w' := by
  have hl : W32 [leaf s] := W32.one.2 (leaf_size s)
  obtain ⟨k, hk⟩ := car_pk (L.length + 1) 0 L [leaf s] (by omega) hw hl (by simp) rfl
  rw [mroot_one (by rfl)] at hk
  obtain ⟨p1, p2⟩ := pk_w32 _ L (Nat.le_refl _) hw
  exact add_any s (leaf s) (leaf_f s hs) w base g vl vp L (pk L) _ hA (by omega) (by omega) k hk
def cut60 (s : ByteArray) : ByteArray := if s.size > 60 then s.extract 0 60 else s
def lf (s : ByteArray) : ByteArray := leaf (cut60 s)
def lfs (l : List ByteArray) (i : Nat) : List ByteArray := (l.take i).map lf
theorem lfs_succ {l : List ByteArray} {i : Nat} (h : i < l.length) : lfs l (i + 1) = lfs l i ++ [lf (l.getD i ByteArray.empty)] := by
  unfold lfs
  rw [List.take_succ_eq_append_getElem h, List.map_append, List.getD_eq_getElem?_getD, List.getElem?_eq_getElem h]
  rfl
theorem lfs_len {l : List ByteArray} {i : Nat} (h : i ≤ l.length) : (lfs l i).length = i := by unfold lfs; simp; omega
theorem lfs_w32 (l : List ByteArray) (i : Nat) : W32 (lfs l i) := by
  intro x hx
  obtain ⟨y, _, rfl⟩ := List.mem_map.1 hx
  exact leaf_size _
end Go.Proofs.Ytnipbdlljfifhaa.T
set_option linter.unusedVariables false
set_option linter.unusedSimpArgs false
namespace Go.Proofs.Ytnipbdlljfifhaa.T
open Go.RowKit Go.Proofs.Ytnipbdlljfifhaa.PMk Go.Proofs.Ytnipbdlljfifhaa.M Go.Proofs.YtnipbdlljfifhaaW.PrintWords Go.Proofs.YtnipbdlljfifhaaW.PrintLast
theorem leaf_calls (s : ByteArray) (hs : s.size < 1152921504606846000) (w : World) : Calls Try.prog 14 #[.string s] w fun e w' => e = .returned (.string (leaf s)) ∧ Below w.heap.size w w' :=
  parchmentref01_Leaf.calls s (leaf s) w (rleaf_f s hs)
theorem few (l : List ByteArray) (w : World) (A : Option Addr) (n : Nat) (h : Kd.C Kd.string w A n l) : n ≤ 9223372036854775807 := (Kd.reads_of_C (d := ByteArray.empty) h).2.1
set_option maxRecDepth 100000 in
theorem grown_law (A : Option Addr) (c : Nat) (l : List ByteArray) (w : World) (hC : Kd.C Kd.string w A l.length l) (hc : l.length ≤ c) :
    Calls Try.prog 19 #[.slice A l.length c, .int .i64 20] w fun e w' => ∃ g vl vp vo, e = .returned (.tuple #[.pointer (some ⟨g, 0, none⟩), vo]) ∧ Pair w' w.heap.size g vl vp vo (lfs l (min l.length 20)) ∧ Below w.heap.size w w' := by
  obtain ⟨len, hlen⟩ : ∃ n, l.length = n := ⟨_, rfl⟩
  have hmax := few l w A _ hC
  rw [hlen] at hC hc hmax ⊢
  have HC := Lib.hid hC
  have HL := Lib.hid hlen
  clear hC hlen
  obtain ⟨i0, hi, hz0, hz1, hz2⟩ := info_parts info9
  go_enter Try.func19, Try.ntmps19
  go_wp2_with (go_at_call 12; refine (new_raw _).mono ?_; rintro e w1 ⟨g, rfl, hA, hb1⟩; have HA1 := Lib.hid hA; have HB1 := Lib.hid hb1; clear hA hb1)
  have HP0 : Hid (Pair (w1.alloc (.cells #[] 9)) w.heap.size g (.slice none 0 0) (.slice none 0 0) (.slice (some ⟨w1.heap.size, 0, none⟩) 0 0) (lfs l 0)) := by
    refine Lib.hid ⟨?_, ?_, fun k hk => ⟨by simp [Value.ownBlock], by simp [Value.ownBlock]⟩⟩
    · have := HA1.out.below ((Below.refl _ w1).alloc (Nat.le_refl _) (.cells #[] 9))
      simpa [lfs, pk_nil] using this
    · exact ⟨rfl, .inr ⟨w1.heap.size, 0, #[], rfl, HB1.out.size, heap_alloc_new w1 _, Nat.le_refl _, Nat.zero_le _, rfl, rfl⟩⟩
  have HB2 : Hid (Below w.heap.size w (w1.alloc (.cells #[] 9))) := Lib.hid (HB1.out.alloc HB1.out.size _)
  go_loopw [7, 8] (fun vo vi wr => ∃ (i : Nat) (vl vp : Value), i ≤ len ∧ i ≤ 20 ∧ vi = .int .i64 i ∧ Hid (Pair wr w.heap.size g vl vp vo (lfs l i)) ∧ Hid (Below w.heap.size w wr)) (fun _ vi _ => (20 - intOf vi).toNat)
  case atStart => exact ⟨0, _, _, Nat.zero_le _, by omega, rfl, HP0, HB2⟩
  case round =>
    obtain ⟨i, vl, vp, hi1, hi2, rfl, HP, HB⟩ := hrel
    clear HP0 HB2 HA1 HB1
    by_cases h1 : i < len
    · by_cases h2 : i < 20
      · obtain ⟨x, hx⟩ : ∃ x, l.getD i ByteArray.empty = x := ⟨_, rfl⟩
        obtain ⟨ad, hA, hcx⟩ := Kd.at_string (Kd.C_below HC.out HB.out) (i : Int) (by omega) (by omega)
        subst hA
        rw [Int.toNat_natCast] at hcx
        rw [show rdOf ByteArray.empty l (i : Int) = x from (by rw [← hx]; rfl)] at hcx
        have HX := Lib.hid hx
        clear hx
        have hln : (lfs l i).length = i := lfs_len (by have := HL.out; omega)
        by_cases h60 : x.size > 60
        · have hcut : cut60 x = x.extract 0 60 := if_pos h60
          have hys : (x.extract 0 60).size < 1152921504606846000 := by rw [ByteArray.size_extract]; omega
          go_wp2_with (first
            | (go_at_call 13; refine (add_tree (x.extract 0 60) _ _ _ _ _ _ HP.out.tr (lfs_w32 _ _) hys (by rw [hln]; omega)).mono ?_; rintro e w2 ⟨rfl, vl2, vp2, hA, hst, hb1⟩; have HLg := Lib.hid (HP.out.add hA hst); have HB3 := Lib.hid (HB.out.trans hb1); clear hA hst hb1)
            | (go_at_call 14; refine (leaf_calls (x.extract 0 60) hys _).mono ?_; rintro e w3 ⟨rfl, hb1⟩; have HL3 := Lib.hid (HLg.out.below hb1); have HB4 := Lib.hid (HB3.out.trans (hb1.mono HB3.out.size)); clear hb1)
            | (at_builtin; refine wpList_append_lies _ rfl (.tmp 35) (.tmp 38) 22 rfl w.heap.size 9 i0 (.string ⟨#[]⟩) 1 16 Try.underlying22 hi hz0 hz1 hz2 rfl (by decide) u7 _ _ (by rfl) (HL3.out.ro.alloc _) ⟨w3.heap.size, 0, none⟩ 1 1 [.string (leaf (x.extract 0 60))] (by rfl) rfl (World.news_of_block (heap_alloc_new w3 _)) (by intro u hu; simp at hu; subst hu; rfl) (by decide) (by rw [hln]; unfold maxLen; omega) (by rw [hln]; omega) (by have := HB4.out.size; simp; omega) (w3.heap.size + 1) (by simp) ?_))
          intro g3 cap3 w4 hown hgrow hat hlt
          have HP5 := (HL3.out.push hln hown hgrow hat).pair
          have HB5 : Below w.heap.size w w4 := (HB4.out.alloc HB4.out.size _).grown hgrow (by have := HB4.out.size; simp; omega) (fun k hk => own_base HL3.out.ro k hk)
          have hlf : leaf (x.extract 0 60) = lf x := by rw [lf, hcut]
          rw [hlf, ← HX.out, ← lfs_succ (by have := HL.out; omega)] at HP5
          have HP6 := Lib.hid HP5
          have HB6 := Lib.hid HB5
          clear HP5 HB5 hown hgrow hat hlt HP HB HL3 HLg HB4 HB3 hcx
          go_wp2_with fail
          go_roundw
          case rel => exact ⟨i + 1, vl2, vp2, by omega, by omega, by go_num, HP6, HB6⟩
          case measure => simp [intOf]; omega
        · have hcut : cut60 x = x := if_neg h60
          have hys : x.size < 1152921504606846000 := by omega
          have h61 : ¬ (60 : Int) < (x.size : Int) := by omega
          go_wp2_with (first
            | (go_at_call 13; refine (add_tree (x) _ _ _ _ _ _ HP.out.tr (lfs_w32 _ _) hys (by rw [hln]; omega)).mono ?_; rintro e w2 ⟨rfl, vl2, vp2, hA, hst, hb1⟩; have HLg := Lib.hid (HP.out.add hA hst); have HB3 := Lib.hid (HB.out.trans hb1); clear hA hst hb1)
            | (go_at_call 14; refine (leaf_calls (x) hys _).mono ?_; rintro e w3 ⟨rfl, hb1⟩; have HL3 := Lib.hid (HLg.out.below hb1); have HB4 := Lib.hid (HB3.out.trans (hb1.mono HB3.out.size)); clear hb1)
            | (at_builtin; refine wpList_append_lies _ rfl (.tmp 35) (.tmp 38) 22 rfl w.heap.size 9 i0 (.string ⟨#[]⟩) 1 16 Try.underlying22 hi hz0 hz1 hz2 rfl (by decide) u7 _ _ (by rfl) (HL3.out.ro.alloc _) ⟨w3.heap.size, 0, none⟩ 1 1 [.string (leaf (x))] (by rfl) rfl (World.news_of_block (heap_alloc_new w3 _)) (by intro u hu; simp at hu; subst hu; rfl) (by decide) (by rw [hln]; unfold maxLen; omega) (by rw [hln]; omega) (by have := HB4.out.size; simp; omega) (w3.heap.size + 1) (by simp) ?_))
          intro g3 cap3 w4 hown hgrow hat hlt
          have HP5 := (HL3.out.push hln hown hgrow hat).pair
          have HB5 : Below w.heap.size w w4 := (HB4.out.alloc HB4.out.size _).grown hgrow (by have := HB4.out.size; simp; omega) (fun k hk => own_base HL3.out.ro k hk)
          have hlf : leaf (x) = lf x := by rw [lf, hcut]
          rw [hlf, ← HX.out, ← lfs_succ (by have := HL.out; omega)] at HP5
          have HP6 := Lib.hid HP5
          have HB6 := Lib.hid HB5
          clear HP5 HB5 hown hgrow hat hlt HP HB HL3 HLg HB4 HB3 hcx
          go_wp2_with fail
          go_roundw
          case rel => exact ⟨i + 1, vl2, vp2, by omega, by omega, by go_num, HP6, HB6⟩
          case measure => simp [intOf]; omega
      · obtain rfl : i = 20 := by omega
        have hm : min len 20 = 20 := by omega
        go_wp2_with fail
        go_ret2
        exact ⟨g, vl, vp, u7, rfl, by rw [hm]; exact HP.out, HB.out⟩
    · obtain rfl : i = len := by omega
      have hm : min i 20 = i := by omega
      go_wp2_with fail
      go_ret2
      exact ⟨g, vl, vp, u7, rfl, by rw [hm]; exact HP.out, HB.out⟩
end Go.Proofs.Ytnipbdlljfifhaa.T
