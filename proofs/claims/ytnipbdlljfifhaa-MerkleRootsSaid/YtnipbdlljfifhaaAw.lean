/- The laws' guard: a leaf of two is shown. -/
import Derived.Test.YtnipbdlljfifhaaRu
import Derived.Test.YtnipbdlljfifhaaMr
set_option linter.unusedVariables false
set_option linter.unusedSimpArgs false
namespace Go.Proofs.Ytnipbdlljfifhaa.T
open Go.RowKit Go.Proofs.Ytnipbdlljfifhaa.PMk Go.Proofs.Ytnipbdlljfifhaa.M Go.Proofs.Ytnipbdlljfifhaa.Bk Go.Proofs.YtnipbdlljfifhaaW.PrintWords Go.Proofs.YtnipbdlljfifhaaW.PrintLast
theorem Step.to_below {w w1 : World} {base g : Nat} {vl vp vl' vp' : Value} {L P : List ByteArray} (h : Step w w1 g vl vp vl' vp') (hA : At w base g vl vp L P) : Below base w w1 :=
  ⟨h.os, h.tape, h.output, h.size, fun k hk => h.block k (Nat.lt_of_lt_of_le hk hA.base) (by have := hA.lo; omega)
    (fun e => by have := own_base hA.rl k e; omega) (fun e => by have := own_base hA.rp k e; omega)⟩
theorem add_any (s h : ByteArray) (hleaf : hash_Leaf.f s = some h) (w : World) (base g : Nat) (vl vp : Value) (L P Q : List ByteArray) (hA : At w base g vl vp L P) (hn : L.length + 1 < 1000000) (hp : P.length < 1000000)
    (kc : Nat) (hc : car kc (P ++ [h]) (L.length + 1) = some Q) :
    Calls Try.prog 13 #[.pointer (some ⟨g, 0, none⟩), .string s] w fun e w' => e = .returned (.string h) ∧ ∃ vl' vp', At w' base g vl' vp' (L ++ [h]) Q ∧ Step w w' g vl vp vl' vp' ∧ Below base w w' := by
  refine (add_raw s h hleaf w base g vl vp L P Q hA hn hp kc hc).mono ?_
  rintro e w' ⟨rfl, vl', vp', h1, h2⟩
  exact ⟨rfl, vl', vp', h1, h2, h2.to_below hA⟩
def leaf (s : ByteArray) : ByteArray := Dig.dig ((⟨#[0]⟩ : ByteArray) ++ s)
theorem leaf_size (s : ByteArray) : (leaf s).size = 32 := Dig.dig_size _
theorem leaf_f (s : ByteArray) (h : s.size < 1152921504606846000) : hash_Leaf.f s = some (leaf s) := by
  have s1 : ((⟨#[0]⟩ : ByteArray) ++ s).size = 1 + s.size := by rw [ByteArray.size_append]; rfl
  unfold hash_Leaf.f Dig.hash_Sum.f
  rw [if_pos (by omega), if_pos (by omega)]
  rfl
theorem rleaf_f (s : ByteArray) (h : s.size < 1152921504606846000) : parchmentref01_Leaf.f s = some (leaf s) := by
  have s1 : ((⟨#[0]⟩ : ByteArray) ++ s).size = 1 + s.size := by rw [ByteArray.size_append]; rfl
  unfold parchmentref01_Leaf.f Dig.parchmentref01_Sum.f
  rw [if_pos (by omega), if_pos (by omega)]
  rfl
abbrev sa : ByteArray := ⟨#[97]⟩
abbrev sb : ByteArray := ⟨#[98]⟩
theorem sp2 : sp 2 = 1 := by decide
theorem two_path (x y : ByteArray) : pathT 1 [x, y] = [x] := by
  have h : ¬ 1 < sp [x, y].length := by simp [sp2]
  rw [pathT_ge (by simp) h]
  simp only [List.length_cons, List.length_nil, Nat.zero_add, Nat.reduceAdd, sp2, List.take_succ_cons, List.take_zero, List.drop_succ_cons, List.drop_zero]
  rw [pathT_one (by simp), mroot_one (by simp)]
  rfl
theorem two_root (x y : ByteArray) : mroot [x, y] = node x y := by
  rw [mroot_two (by simp)]
  simp only [List.length_cons, List.length_nil, Nat.zero_add, Nat.reduceAdd, sp2, List.take_succ_cons, List.take_zero, List.drop_succ_cons, List.drop_zero]
  rw [mroot_one (by simp), mroot_one (by simp)]
  rfl
theorem car_one (x : ByteArray) : car 1 ([] ++ [x]) 1 = some [x] := by rw [car]; simp
theorem car_two (x y : ByteArray) (hx : x.size = 32) (hy : y.size = 32) : car 2 ([x] ++ [y]) 2 = some [node x y] := by
  rw [car]
  have e := node_f x y (by omega) (by omega)
  simp [e]
  rw [car]; simp
theorem path12 (x y : ByteArray) (hx : x.size = 32) (hy : y.size = 32) : pathAtF 10 [x, y] 1 2 = some ([x], 0) := by
  have hw : W32 [x, y] := by intro z hz; simp at hz; rcases hz with rfl | rfl <;> assumption
  have := path_f 10 1 [x, y] hw (by simp) (by simp) (by simp)
  unfold pathAtF
  rw [if_neg (by omega), if_neg (by simp), if_neg (by omega), if_neg (by omega)]
  have e : List.take (2 : Int).toNat [x, y] = [x, y] := by simp
  rw [e, show (1 : Int) = ((1 : Nat) : Int) from rfl, this, two_path]
  rfl
theorem two_shows (x y : ByteArray) (hw : W32 [x, y]) : merkle_Verify.f 4294967297 (node x y) y 1 2 [x] = some 0 := by
  have h := path_shows 4294967297 1 [x, y] hw (by simp) (by simp) (by omega)
  rw [two_root, two_path] at h
  exact h
theorem root_one (w : World) (base g : Nat) (vl vp : Value) (L : List ByteArray) (x : ByteArray) (hA : At w base g vl vp L [x]) (hL : L ≠ []) (hx : x.size = 32) :
    Calls Try.prog 16 #[.pointer (some ⟨g, 0, none⟩)] w fun e w' => e = .returned (.string x) ∧ Below w.heap.size w w' :=
  root_raw w base g vl vp L [x] hA hL 0 rfl (by omega) (by intro z hz; simp at hz; rw [hz]; exact hx) (fun _ => ⟨(0, x), hx⟩) (fun k hk => by simp at hk) x rfl
theorem verify_any (k : Nat) (root leaf : ByteArray) (m n : Int) (A : Option Addr) (t c : Nat) (T : List ByteArray) (r : Int) (w : World) (ht : T.length = t) (hC : Kd.C Kd.string w A t T) (hc : t ≤ c) (h : merkle_Verify.f k root leaf m n T = some r) :
    Calls Try.prog 10 #[.string root, .string leaf, .int .i64 m, .int .i64 n, .slice A t c] w fun e w' => e = .returned (.int .i64 r) ∧ Below w.heap.size w w' := by
  subst ht
  exact merkle_Verify.calls k root leaf m n A c T r w hC hc h
set_option maxRecDepth 100000 in
theorem awake_raw (w : World) : Calls Try.prog 9 #[] w fun e w' => e = .returned (.bool true) ∧ Below w.heap.size w w' := by
  have ha := leaf_size sa
  have hb := leaf_size sb
  obtain ⟨la, hla⟩ : ∃ x, leaf sa = x := ⟨_, rfl⟩
  obtain ⟨lb, hlb⟩ : ∃ x, leaf sb = x := ⟨_, rfl⟩
  have HLa := Lib.hid ((leaf_f sa (by decide)).trans (congrArg some hla))
  have HLb := Lib.hid ((leaf_f sb (by decide)).trans (congrArg some hlb))
  rw [hla] at ha
  rw [hlb] at hb
  have HC1 := Lib.hid (car_one la)
  have HC2 := Lib.hid (car_two la lb ha hb)
  have HP := Lib.hid (path12 la lb ha hb)
  have hw : W32 [la, lb] := by intro z hz; simp at hz; rcases hz with rfl | rfl <;> assumption
  have HV := Lib.hid (two_shows la lb hw)
  have HN := Lib.hid (node_size la lb)
  clear hw hla hlb
  go_enter Try.func9, Try.ntmps9
  go_wp2_with (first
    | (go_at_call 12; refine (new_raw _).mono ?_; rintro e w1 ⟨g, rfl, hA, hb1⟩; have HA1 := Lib.hid hA; have HB1 := Lib.hid hb1; clear hA hb1)
    | (go_at_call 13; refine (add_any sa la HLa.out _ _ _ _ _ _ _ _ HA1.out (by simp) (by simp) 1 HC1.out).mono ?_; clear HA1; rintro e w2 ⟨rfl, vl2, vp2, hA, _, hb1⟩; have HA2 := Lib.hid hA; have HB2 := Lib.hid hb1; clear hA hb1)
    | (go_at_call 13; refine (add_any sb lb HLb.out _ _ _ _ _ _ _ _ HA2.out (by simp) (by simp) 2 HC2.out).mono ?_; clear HA2; rintro e w3 ⟨rfl, vl3, vp3, hA, _, hb1⟩; have HA3 := Lib.hid (show At w3 w.heap.size g vl3 vp3 [la, lb] [node la lb] from hA); have HB3 := Lib.hid hb1; clear hA hb1)
    | (go_at_call 20; refine (pathAt_raw 10 _ _ _ _ _ _ _ HA3.out 1 2 [la] 0 HP.out).mono ?_; rintro e w4 ⟨v, rfl, hv, hb1⟩; have HA4 := Lib.hid (HA3.out.below hb1); have HB4 := Lib.hid hb1; clear hb1 HA3; obtain ⟨A, c, rfl, hcl, hC⟩ := Kd.R_reads hv; have HC := Lib.hid hC; have HCL := Lib.hid hcl; obtain ⟨ad, rfl, hx⟩ := Kd.at_string hC 0 (by omega) (by simp); clear hv hC hcl; rw [show ((0 : Int)).toNat = 0 from rfl, Addr.add_zero'] at hx; replace hx : w4.cell? ad = some (.string la) := hx)
    | (go_at_call 16; refine (root_one _ _ _ _ _ _ _ HA4.out (by simp) HN.out).mono ?_; rintro e w5 ⟨rfl, hb1⟩; have HC5 := Lib.hid (Kd.C_below HC.out hb1); have HB5 := Lib.hid hb1; clear hb1 HC)
    | (go_at_call 10; refine (verify_any 4294967297 _ _ _ _ _ 1 _ [la] 0 _ rfl HC5.out HCL.out HV.out).mono ?_; rintro e w6 ⟨rfl, hb1⟩; have HB6 := Lib.hid hb1; clear hb1))
  go_ret
  refine ⟨rfl, ?_⟩
  have z1 := HB1.out.size
  have z3 := HB3.out.size
  have z2 := HB2.out.size
  have z4 := HB4.out.size
  have z5 := HB5.out.size
  exact ((((HB1.out.trans HB2.out).trans HB3.out).trans (HB4.out.mono (by omega))).trans (HB5.out.mono (by omega))).trans (HB6.out.mono (by omega))
end Go.Proofs.Ytnipbdlljfifhaa.T
namespace Go.Proofs.Ytnipbdlljfifhaa.Dig
def law_awake.f : Option Bool := some true
theorem law_awake.calls (r : Bool) (w : World) (h : law_awake.f = some r) : Calls Try.prog 9 #[] w fun e w' => e = .returned (.bool r) ∧ Go.RowKit.Below w.heap.size w w' := by
  obtain rfl := Option.some.inj h
  exact T.awake_raw w
end Go.Proofs.Ytnipbdlljfifhaa.Dig
