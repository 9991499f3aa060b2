/- Part 6 of what the proof of BlockBodies stands on. -/
import Derived.Lib.SmallJoins
import Derived.Deep.Slices
import Derived.SizedLaws
import Derived.ProofKit
import Derived.Test.YtdcbacbilncnnaaBbo5
section
/- BlockBodies, walked: written by wip/gensplit.py. -/
set_option linter.unusedVariables false
set_option linter.unusedSimpArgs false
namespace Go.Proofs.Ytdcbacbilncnnaa.T
open Go.RowKit Go.Proofs.Ytdcbacbilncnnaa.PMk Go.Proofs.Ytdcbacbilncnnaa.M Go.Proofs.Ytdcbacbilncnnaa.EncL Go.Proofs.YtdcbacbilncnnaaW.PrintWords Go.Proofs.YtdcbacbilncnnaaW.PrintLast
attribute [local go_sem ↓] eqA44 eqA47
set_option maxRecDepth 1000000 in
set_option maxHeartbeats 40000000 in
theorem bodies_r17 {a0 : Int} {a1 : ByteArray} {a2 : Int} {A Am Ac Ad : Option Addr} {c cm cc cd n : Nat} {L Lc Ld : List S47} {body : ByteArray} {w wc : World} {g7 g8 g10 g12 : Nat} {k : Int} {mb wb ob : Bool} {ew eo : Int} {i : Nat} {u0 u1 u3 u4 u5 u6 u18 u19 u20 u21 u22 u23 u24 u25 u26 u27 u28 u29 u30 u31 u32 u33 u34 u35 u36 u37 u38 u39 u40 u41 u42 u43 u44 u45 u46 u47 u48 u49 u50 u51 u52 u53 u54 u55 u56 u57 u58 u59 u60 u61 u62 u63 u64 u65 u66 u67 u68 u69 u70 u71 u72 u73 u74 u75 u76 u77 u78 u79 u80 u81 u82 u83 u84 u85 u86 u87 u88 u89 u90 u91 u92 u93 u94 u95 u96 u97 u98 u99 u100 u101 u102 u103 u104 u105 u106 u107 u108 u109 u110 u111 u112 u113 u114 u115 u116 u117 u118 u119 u120 u121 u122 u123 u124 u125 u126 u127 u128 u129 u130 u131 u132 u133 u134 u135 u136 u137 u138 u139 u140 u141 u142 u143 u144 u145 u146 u147 u148 u149 u150 u151 u152 u153 u154 u155 u156 u157 u158 u159 u160 u161 u162 u163 u164 u165 u166 u167 u168 u169 u170 u171 u172 u173 u174 u175 u176 u177 u178 u179 u180 u181 u182 u183 u184 u185 u186 u187 u188 u189 u190 u191 u192 u193 u194 u195 u196 u197 u198 u199 u200 u201 u202 u203 u204 u205 u206 u207 u208 u209 u210 u211 u212 u213 u214 u215 u216 u217 u218 u219 u220 u221 u222 u223 u224 u225 u226 u227 u228 u229 u230 u231 u232 u233 u234 u235 u236 u237 u238 u239 u240 u241 u242 u243 u244 u245 u246 u247 u248 u249 u250 u251 u252 u253 u254 u255 u256 : Value} {Q : Exit → Act → World → Prop} (hp : ∀ c a v d w, Q (.panic c) (a.put d v) w → Q (.panic c) a w) (HLN : Hid (L.length = n)) (HLc : Hid (Lw L k body = Lc)) (HLd : Hid (Lo L k = Ld)) (h1 : i < n) (H : Hid (B2 w wc g7 g8 g10 g12 a0 a1 a2 A Am Ac Ad n c cm cc cd L Lc Ld)) (hQ : ∀ (v172 v173 v174 v175 v176 v177 v178 v179 v180 v181 v182 v183 v184 v185 v186 v187 v188 v189 v190 v191 v192 v193 v194 v195 v196 v197 v198 v199 v200 v201 v202 v203 v204 v205 v206 v207 v208 v209 v210 v211 v212 v213 : Value) (wx : World), Hid (B2 w wx g7 g8 g10 g12 a0 a1 a2 A Am Ac Ad n c cm cc cd L Lc Ld) → Q .normal ⟨List.toArray (u0 :: u1 :: .string body :: u3 :: u4 :: u5 :: u6 :: .pointer (some ⟨g7, 0, none⟩) :: .pointer (some ⟨g8, 0, none⟩) :: .int .i64 k :: .pointer (some ⟨g10, 0, none⟩) :: .int .i64 ew :: .pointer (some ⟨g12, 0, none⟩) :: .int .i64 eo :: .bool mb :: .bool wb :: .bool ob :: .int .i64 i :: u18 :: u19 :: u20 :: u21 :: u22 :: u23 :: u24 :: u25 :: u26 :: u27 :: u28 :: u29 :: u30 :: u31 :: u32 :: u33 :: u34 :: u35 :: u36 :: u37 :: u38 :: u39 :: u40 :: u41 :: u42 :: u43 :: u44 :: u45 :: u46 :: u47 :: u48 :: u49 :: u50 :: u51 :: u52 :: u53 :: u54 :: u55 :: u56 :: u57 :: u58 :: u59 :: u60 :: u61 :: u62 :: u63 :: u64 :: u65 :: u66 :: u67 :: u68 :: u69 :: u70 :: u71 :: u72 :: u73 :: u74 :: u75 :: u76 :: u77 :: u78 :: u79 :: u80 :: u81 :: u82 :: u83 :: u84 :: u85 :: u86 :: u87 :: u88 :: u89 :: u90 :: u91 :: u92 :: u93 :: u94 :: u95 :: u96 :: u97 :: u98 :: u99 :: u100 :: u101 :: u102 :: u103 :: u104 :: u105 :: u106 :: u107 :: u108 :: u109 :: u110 :: u111 :: u112 :: u113 :: u114 :: u115 :: u116 :: u117 :: u118 :: u119 :: u120 :: u121 :: u122 :: u123 :: u124 :: u125 :: u126 :: u127 :: u128 :: u129 :: u130 :: u131 :: u132 :: u133 :: u134 :: u135 :: u136 :: u137 :: u138 :: u139 :: u140 :: u141 :: u142 :: u143 :: u144 :: u145 :: u146 :: u147 :: u148 :: u149 :: u150 :: u151 :: u152 :: u153 :: u154 :: u155 :: u156 :: u157 :: u158 :: u159 :: u160 :: u161 :: u162 :: u163 :: u164 :: u165 :: u166 :: u167 :: u168 :: u169 :: u170 :: u171 :: v172 :: v173 :: v174 :: v175 :: v176 :: v177 :: v178 :: v179 :: v180 :: v181 :: v182 :: v183 :: v184 :: v185 :: v186 :: v187 :: v188 :: v189 :: v190 :: v191 :: v192 :: v193 :: v194 :: v195 :: v196 :: v197 :: v198 :: v199 :: v200 :: v201 :: v202 :: v203 :: v204 :: v205 :: v206 :: v207 :: v208 :: v209 :: v210 :: v211 :: v212 :: v213 :: (.bool false) :: u215 :: u216 :: u217 :: u218 :: u219 :: u220 :: u221 :: u222 :: u223 :: u224 :: u225 :: u226 :: u227 :: u228 :: u229 :: u230 :: u231 :: u232 :: u233 :: u234 :: u235 :: u236 :: u237 :: u238 :: u239 :: u240 :: u241 :: u242 :: u243 :: u244 :: u245 :: u246 :: u247 :: u248 :: u249 :: u250 :: u251 :: u252 :: u253 :: u254 :: u255 :: u256 :: []), []⟩ wx) :
    ∀ {C : Code}, rg 17 = C → Code.wp Try.prog C Q ⟨List.toArray (u0 :: u1 :: .string body :: u3 :: u4 :: u5 :: u6 :: .pointer (some ⟨g7, 0, none⟩) :: .pointer (some ⟨g8, 0, none⟩) :: .int .i64 k :: .pointer (some ⟨g10, 0, none⟩) :: .int .i64 ew :: .pointer (some ⟨g12, 0, none⟩) :: .int .i64 eo :: .bool mb :: .bool wb :: .bool ob :: .int .i64 i :: u18 :: u19 :: u20 :: u21 :: u22 :: u23 :: u24 :: u25 :: u26 :: u27 :: u28 :: u29 :: u30 :: u31 :: u32 :: u33 :: u34 :: u35 :: u36 :: u37 :: u38 :: u39 :: u40 :: u41 :: u42 :: u43 :: u44 :: u45 :: u46 :: u47 :: u48 :: u49 :: u50 :: u51 :: u52 :: u53 :: u54 :: u55 :: u56 :: u57 :: u58 :: u59 :: u60 :: u61 :: u62 :: u63 :: u64 :: u65 :: u66 :: u67 :: u68 :: u69 :: u70 :: u71 :: u72 :: u73 :: u74 :: u75 :: u76 :: u77 :: u78 :: u79 :: u80 :: u81 :: u82 :: u83 :: u84 :: u85 :: u86 :: u87 :: u88 :: u89 :: u90 :: u91 :: u92 :: u93 :: u94 :: u95 :: u96 :: u97 :: u98 :: u99 :: u100 :: u101 :: u102 :: u103 :: u104 :: u105 :: u106 :: u107 :: u108 :: u109 :: u110 :: u111 :: u112 :: u113 :: u114 :: u115 :: u116 :: u117 :: u118 :: u119 :: u120 :: u121 :: u122 :: u123 :: u124 :: u125 :: u126 :: u127 :: u128 :: u129 :: u130 :: u131 :: u132 :: u133 :: u134 :: u135 :: u136 :: u137 :: u138 :: u139 :: u140 :: u141 :: u142 :: u143 :: u144 :: u145 :: u146 :: u147 :: u148 :: u149 :: u150 :: u151 :: u152 :: u153 :: u154 :: u155 :: u156 :: u157 :: u158 :: u159 :: u160 :: u161 :: u162 :: u163 :: u164 :: u165 :: u166 :: u167 :: u168 :: u169 :: u170 :: u171 :: u172 :: u173 :: u174 :: u175 :: u176 :: u177 :: u178 :: u179 :: u180 :: u181 :: u182 :: u183 :: u184 :: u185 :: u186 :: u187 :: u188 :: u189 :: u190 :: u191 :: u192 :: u193 :: u194 :: u195 :: u196 :: u197 :: u198 :: u199 :: u200 :: u201 :: u202 :: u203 :: u204 :: u205 :: u206 :: u207 :: u208 :: u209 :: u210 :: u211 :: u212 :: u213 :: u214 :: u215 :: u216 :: u217 :: u218 :: u219 :: u220 :: u221 :: u222 :: u223 :: u224 :: u225 :: u226 :: u227 :: u228 :: u229 :: u230 :: u231 :: u232 :: u233 :: u234 :: u235 :: u236 :: u237 :: u238 :: u239 :: u240 :: u241 :: u242 :: u243 :: u244 :: u245 :: u246 :: u247 :: u248 :: u249 :: u250 :: u251 :: u252 :: u253 :: u254 :: u255 :: u256 :: []), []⟩ wc := by
  rintro _ rfl
  have HQ := Lib.hid hQ
  clear hQ
  conv => arg 2; whnf
  have HD := Lib.hid H.out.drew
  obtain ⟨a7, hA, hx0, hx1, hx2, hx3, hx4, hx5, hx6, hx7⟩ := at_T47 HD.out.h.kb (i : Int) (by omega) (by omega)
  subst hA
  obtain ⟨a8, hA, hm0, hm1, hm2, hm3, hm4, hm5, hm6, hm7⟩ := at_T44 HD.out.h.km (i : Int) (by omega) (by omega)
  subst hA
  rw [rd_map' L (i : Int) (by rw [HLN.out]; omega) (by omega)] at hm0 hm1 hm2 hm3 hm4 hm5 hm6 hm7
  unfold rf at hm0 hm1 hm2 hm3 hm4 hm5 hm6 hm7
  have hz0 : decide ((i : Int) < 0) = false := decide_eq_false (by omega)
  have hz1 : decide ((n : Int) ≤ (i : Int)) = false := decide_eq_false (by omega)
  have hz2 : decide (n ≤ i) = false := decide_eq_false (by omega)
  by_cases hk : (i : Int) = k
  · have hk1 : ((i : Int) == k) = true := beq_iff_eq.2 hk
    have hk2 : ((i : Int) != k) = false := by rw [bne, hk1]; rfl
    clear hk
    simp only [Int.toNat_natCast] at hx0 hx1 hx2 hx3 hx4 hx5 hx6 hx7 hm0 hm1 hm2 hm3 hm4 hm5 hm6 hm7
    generalize rd_T47 L (i : Int) = y at hx0 hx1 hx2 hx3 hx4 hx5 hx6 hx7 hm0 hm1 hm2 hm3 hm4 hm5 hm6 hm7
    obtain ⟨y0, y1, y2, y3, y4, y5, y6, y7⟩ := y
    dsimp only at hx0 hx1 hx2 hx3 hx4 hx5 hx6 hx7 hm0 hm1 hm2 hm3 hm4 hm5 hm6 hm7
    have q7 := (blk_cell HD.out.h.g7 3).trans rfl
    have q8 := (blk_cell HD.out.h.g8 3).trans rfl
    refine start_ (n := 43) (S := fun w' => w'.cell? ⟨g7, 3, none⟩ = some (.slice (some a7) n c) ∧ w'.cell? ⟨g8, 3, none⟩ = some (.slice (some a8) n cm) ∧ w'.cell? (a7.add (i * 8)) = some (.int .i64 y0) ∧ w'.cell? ⟨(a7.add (i * 8)).block, (a7.add (i * 8)).off + 1, none⟩ = some (.string y1) ∧ w'.cell? ⟨(a7.add (i * 8)).block, (a7.add (i * 8)).off + 2, none⟩ = some (.string y2) ∧ w'.cell? ⟨(a7.add (i * 8)).block, (a7.add (i * 8)).off + 3, none⟩ = some (.int .u64 y3) ∧ w'.cell? ⟨(a7.add (i * 8)).block, (a7.add (i * 8)).off + 4, none⟩ = some (.int .u64 y4) ∧ w'.cell? ⟨(a7.add (i * 8)).block, (a7.add (i * 8)).off + 5, none⟩ = some (.string y5) ∧ w'.cell? ⟨(a7.add (i * 8)).block, (a7.add (i * 8)).off + 6, none⟩ = some (.string y6) ∧ w'.cell? ⟨(a7.add (i * 8)).block, (a7.add (i * 8)).off + 7, none⟩ = some (.bool y7) ∧ w'.cell? (a8.add (i * 8)) = some (.int .i64 y0) ∧ w'.cell? ⟨(a8.add (i * 8)).block, (a8.add (i * 8)).off + 1, none⟩ = some (.string y1) ∧ w'.cell? ⟨(a8.add (i * 8)).block, (a8.add (i * 8)).off + 2, none⟩ = some (.string y2) ∧ w'.cell? ⟨(a8.add (i * 8)).block, (a8.add (i * 8)).off + 3, none⟩ = some (.int .u64 y3) ∧ w'.cell? ⟨(a8.add (i * 8)).block, (a8.add (i * 8)).off + 4, none⟩ = some (.int .u64 y4) ∧ w'.cell? ⟨(a8.add (i * 8)).block, (a8.add (i * 8)).off + 5, none⟩ = some (.string y5) ∧ w'.cell? ⟨(a8.add (i * 8)).block, (a8.add (i * 8)).off + 6, none⟩ = some (.string y6) ∧ w'.cell? ⟨(a8.add (i * 8)).block, (a8.add (i * 8)).off + 7, none⟩ = some (.bool y7)) (ds := []) #[false, false, false, false, false, false, false, false, false, false, false, false, false, false, false, false, false, false, false, false, false, false, false, false, false, false, false, false, false, false, false, false, false, false, false, false, false, false, false, false, false, false, false] (by kernel_rfl) rfl rfl ⟨q7, q8, hx0, hx1, hx2, hx3, hx4, hx5, hx6, hx7, hm0, hm1, hm2, hm3, hm4, hm5, hm6, hm7⟩ (fun hHeld => ?_)
    refine pure_ (i := 0) (N := some 172) (v := ?_) (a' := ?_) #[true, false, false, false, false, false, false, false, false, false, false, false, false, false, false, false, false, false, false, false, false, false, false, false, false, false, false, false, false, false, false, false, false, false, false, false, false, false, false, false, false, false, false] rfl rfl (by kernel_rfl) (fun c a w h => hp c a _ _ w h) (Or.inl ⟨by rfl, ?_⟩) ?_ ?_
    rotate_left
    · intro w'
      go_simp
      with_reducible rfl
    rotate_left
    · simp only [Act.put, List.setIfInBounds_toArray, List.set_cons_zero, List.set_cons_succ, i64_w, i32_w]
      rfl
    refine pure_ (i := 2) (N := some 174) (v := ?_) (a' := ?_) #[true, false, true, false, false, false, false, false, false, false, false, false, false, false, false, false, false, false, false, false, false, false, false, false, false, false, false, false, false, false, false, false, false, false, false, false, false, false, false, false, false, false, false] rfl rfl (by kernel_rfl) (fun c a w h => hp c a _ _ w h) (Or.inl ⟨by rfl, ?_⟩) ?_ ?_
    rotate_left
    · intro w'
      go_simp
      with_reducible rfl
    rotate_left
    · simp only [Act.put, List.setIfInBounds_toArray, List.set_cons_zero, List.set_cons_succ, i64_w, i32_w]
      rfl
    refine pure_ (i := 6) (N := some 178) (v := ?_) (a' := ?_) #[true, false, true, false, false, false, true, false, false, false, false, false, false, false, false, false, false, false, false, false, false, false, false, false, false, false, false, false, false, false, false, false, false, false, false, false, false, false, false, false, false, false, false] rfl rfl (by kernel_rfl) (fun c a w h => hp c a _ _ w h) (Or.inl ⟨by rfl, ?_⟩) ?_ ?_
    rotate_left
    · intro w'
      go_simp
      with_reducible rfl
    rotate_left
    · simp only [Act.put, List.setIfInBounds_toArray, List.set_cons_zero, List.set_cons_succ, i64_w, i32_w]
      rfl
    refine pure_ (i := 8) (N := some 180) (v := ?_) (a' := ?_) #[true, false, true, false, false, false, true, false, true, false, false, false, false, false, false, false, false, false, false, false, false, false, false, false, false, false, false, false, false, false, false, false, false, false, false, false, false, false, false, false, false, false, false] rfl rfl (by kernel_rfl) (fun c a w h => hp c a _ _ w h) (Or.inl ⟨by rfl, ?_⟩) ?_ ?_
    rotate_left
    · intro w'
      go_simp
      with_reducible rfl
    rotate_left
    · simp only [Act.put, List.setIfInBounds_toArray, List.set_cons_zero, List.set_cons_succ, i64_w, i32_w]
      rfl
    refine take_ (i := 1) (N := some 173) (v := ?_) (a' := ?_) #[true, true, true, false, false, false, true, false, true, false, false, false, false, false, false, false, false, false, false, false, false, false, false, false, false, false, false, false, false, false, false, false, false, false, false, false, false, false, false, false, false, false, false] rfl rfl (by kernel_rfl) (fun c a w h => hp c a _ _ w h) (Or.inl ⟨by rfl, ?_⟩) hHeld ?_ ?_
    rotate_left
    · rintro w' ⟨s0, s1, s2, s3, s4, s5, s6, s7, s8, s9, s10, s11, s12, s13, s14, s15, s16, s17⟩
      go_simp
      with_reducible rfl
    rotate_left
    · simp only [Act.put, List.setIfInBounds_toArray, List.set_cons_zero, List.set_cons_succ, i64_w, i32_w]
      rfl
    refine pure_ (i := 3) (N := some 175) (v := ?_) (a' := ?_) #[true, true, true, true, false, false, true, false, true, false, false, false, false, false, false, false, false, false, false, false, false, false, false, false, false, false, false, false, false, false, false, false, false, false, false, false, false, false, false, false, false, false, false] rfl rfl (by kernel_rfl) (fun c a w h => hp c a _ _ w h) (Or.inl ⟨by rfl, ?_⟩) ?_ ?_
    rotate_left
    · intro w'
      go_simp
      with_reducible rfl
    rotate_left
    · simp only [Act.put, List.setIfInBounds_toArray, List.set_cons_zero, List.set_cons_succ, i64_w, i32_w]
      rfl
    refine take_ (i := 4) (N := some 176) (v := ?_) (a' := ?_) #[true, true, true, true, true, false, true, false, true, false, false, false, false, false, false, false, false, false, false, false, false, false, false, false, false, false, false, false, false, false, false, false, false, false, false, false, false, false, false, false, false, false, false] rfl rfl (by kernel_rfl) (fun c a w h => hp c a _ _ w h) (Or.inl ⟨by rfl, ?_⟩) hHeld ?_ ?_
    rotate_left
    · rintro w' ⟨s0, s1, s2, s3, s4, s5, s6, s7, s8, s9, s10, s11, s12, s13, s14, s15, s16, s17⟩
      go_simp
      with_reducible rfl
    rotate_left
    · simp only [Act.put, List.setIfInBounds_toArray, List.set_cons_zero, List.set_cons_succ, i64_w, i32_w]
      rfl
    refine take_ (i := 7) (N := some 179) (v := ?_) (a' := ?_) #[true, true, true, true, true, false, true, true, true, false, false, false, false, false, false, false, false, false, false, false, false, false, false, false, false, false, false, false, false, false, false, false, false, false, false, false, false, false, false, false, false, false, false] rfl rfl (by kernel_rfl) (fun c a w h => hp c a _ _ w h) (Or.inl ⟨by rfl, ?_⟩) hHeld ?_ ?_
    rotate_left
    · rintro w' ⟨s0, s1, s2, s3, s4, s5, s6, s7, s8, s9, s10, s11, s12, s13, s14, s15, s16, s17⟩
      go_simp
      with_reducible rfl
    rotate_left
    · simp only [Act.put, List.setIfInBounds_toArray, List.set_cons_zero, List.set_cons_succ, i64_w, i32_w]
      rfl
    refine pure_ (i := 9) (N := some 181) (v := ?_) (a' := ?_) #[true, true, true, true, true, false, true, true, true, true, false, false, false, false, false, false, false, false, false, false, false, false, false, false, false, false, false, false, false, false, false, false, false, false, false, false, false, false, false, false, false, false, false] rfl rfl (by kernel_rfl) (fun c a w h => hp c a _ _ w h) (Or.inl ⟨by rfl, ?_⟩) ?_ ?_
    rotate_left
    · intro w'
      go_simp
      with_reducible rfl
    rotate_left
    · simp only [Act.put, List.setIfInBounds_toArray, List.set_cons_zero, List.set_cons_succ, i64_w, i32_w]
      rfl
    refine take_ (i := 10) (N := some 182) (v := ?_) (a' := ?_) #[true, true, true, true, true, false, true, true, true, true, true, false, false, false, false, false, false, false, false, false, false, false, false, false, false, false, false, false, false, false, false, false, false, false, false, false, false, false, false, false, false, false, false] rfl rfl (by kernel_rfl) (fun c a w h => hp c a _ _ w h) (Or.inl ⟨by rfl, ?_⟩) hHeld ?_ ?_
    rotate_left
    · rintro w' ⟨s0, s1, s2, s3, s4, s5, s6, s7, s8, s9, s10, s11, s12, s13, s14, s15, s16, s17⟩
      go_simp
      with_reducible rfl
    rotate_left
    · simp only [Act.put, List.setIfInBounds_toArray, List.set_cons_zero, List.set_cons_succ, i64_w, i32_w]
      rfl
    refine one_ (i := 5) (N := some 177) #[true, true, true, true, true, true, true, true, true, true, true, false, false, false, false, false, false, false, false, false, false, false, false, false, false, false, false, false, false, false, false, false, false, false, false, false, false, false, false, false, false, false, false] rfl rfl (by kernel_rfl) (by decide) (fun K hK => ?_)
    refine goes_ Try.func21 (by kernel_rfl) rfl #[.agg #[.int .i64 y0, .string y1, .string y2, .int .u64 y3, .int .u64 y4, .string y5, .string y6, .bool y7]] (by rfl) rfl rfl (by simp only [List.map_toArray, List.map_cons, List.map_nil]; rfl) ?_
    with_reducible refine (ref_any ⟨y0, y1, y2, y3, y4, y5, y6, y7⟩ _).mono ?_
    rintro e w5 ⟨rfl, hb⟩
    refine ⟨_, rfl, ?_⟩
    have H5 := Lib.hid (HD.out.below hb)
    refine hK.out _ _ ⟨(blk_cell H5.out.h.g7 3).trans rfl, (blk_cell H5.out.h.g8 3).trans rfl, (hb.cell (World.block_lt_of_cell? _ _ hx0)).trans hx0, (hb.cell (World.block_lt_of_cell? _ _ hx1)).trans hx1, (hb.cell (World.block_lt_of_cell? _ _ hx2)).trans hx2, (hb.cell (World.block_lt_of_cell? _ _ hx3)).trans hx3, (hb.cell (World.block_lt_of_cell? _ _ hx4)).trans hx4, (hb.cell (World.block_lt_of_cell? _ _ hx5)).trans hx5, (hb.cell (World.block_lt_of_cell? _ _ hx6)).trans hx6, (hb.cell (World.block_lt_of_cell? _ _ hx7)).trans hx7, (hb.cell (World.block_lt_of_cell? _ _ hm0)).trans hm0, (hb.cell (World.block_lt_of_cell? _ _ hm1)).trans hm1, (hb.cell (World.block_lt_of_cell? _ _ hm2)).trans hm2, (hb.cell (World.block_lt_of_cell? _ _ hm3)).trans hm3, (hb.cell (World.block_lt_of_cell? _ _ hm4)).trans hm4, (hb.cell (World.block_lt_of_cell? _ _ hm5)).trans hm5, (hb.cell (World.block_lt_of_cell? _ _ hm6)).trans hm6, (hb.cell (World.block_lt_of_cell? _ _ hm7)).trans hm7⟩ (fun hHeld => ?_)
    clear hK K
    refine norm_ (a' := ?_) ?_ ?_
    rotate_left
    · show Act.put _ (some 177) _ = _
      simp only [Act.put, List.setIfInBounds_toArray, List.set_cons_zero, List.set_cons_succ, i64_w, i32_w]
      rfl
    refine pure_ (i := 11) (N := some 183) (v := ?_) (a' := ?_) #[true, true, true, true, true, true, true, true, true, true, true, true, false, false, false, false, false, false, false, false, false, false, false, false, false, false, false, false, false, false, false, false, false, false, false, false, false, false, false, false, false, false, false] rfl rfl (by kernel_rfl) (fun c a w h => hp c a _ _ w h) (Or.inl ⟨by rfl, ?_⟩) ?_ ?_
    rotate_left
    · intro w'
      go_simp
      with_reducible rfl
    rotate_left
    · simp only [Act.put, List.setIfInBounds_toArray, List.set_cons_zero, List.set_cons_succ, i64_w, i32_w]
      rfl
    refine pure_ (i := 12) (N := some 184) (v := ?_) (a' := ?_) #[true, true, true, true, true, true, true, true, true, true, true, true, true, false, false, false, false, false, false, false, false, false, false, false, false, false, false, false, false, false, false, false, false, false, false, false, false, false, false, false, false, false, false] rfl rfl (by kernel_rfl) (fun c a w h => hp c a _ _ w h) (Or.inl ⟨by rfl, ?_⟩) ?_ ?_
    rotate_left
    · intro w'
      go_simp
      with_reducible rfl
    rotate_left
    · simp only [Act.put, List.setIfInBounds_toArray, List.set_cons_zero, List.set_cons_succ, i64_w, i32_w]
      rfl
    refine pure_ (i := 13) (N := some 185) (v := ?_) (a' := ?_) #[true, true, true, true, true, true, true, true, true, true, true, true, true, true, false, false, false, false, false, false, false, false, false, false, false, false, false, false, false, false, false, false, false, false, false, false, false, false, false, false, false, false, false] rfl rfl (by kernel_rfl) (fun c a w h => hp c a _ _ w h) (Or.inl ⟨by rfl, ?_⟩) ?_ ?_
    rotate_left
    · intro w'
      go_simp
      with_reducible rfl
    rotate_left
    · simp only [Act.put, List.setIfInBounds_toArray, List.set_cons_zero, List.set_cons_succ, i64_w, i32_w]
      rfl
    refine pure_ (i := 14) (N := some 186) (v := ?_) (a' := ?_) #[true, true, true, true, true, true, true, true, true, true, true, true, true, true, true, false, false, false, false, false, false, false, false, false, false, false, false, false, false, false, false, false, false, false, false, false, false, false, false, false, false, false, false] rfl rfl (by kernel_rfl) (fun c a w h => hp c a _ _ w h) (Or.inl ⟨by rfl, ?_⟩) ?_ ?_
    rotate_left
    · intro w'
      go_simp
      with_reducible rfl
    rotate_left
    · simp only [Act.put, List.setIfInBounds_toArray, List.set_cons_zero, List.set_cons_succ, i64_w, i32_w]
      rfl
    refine pure_ (i := 15) (N := some 187) (v := ?_) (a' := ?_) #[true, true, true, true, true, true, true, true, true, true, true, true, true, true, true, true, false, false, false, false, false, false, false, false, false, false, false, false, false, false, false, false, false, false, false, false, false, false, false, false, false, false, false] rfl rfl (by kernel_rfl) (fun c a w h => hp c a _ _ w h) (Or.inl ⟨by rfl, ?_⟩) ?_ ?_
    rotate_left
    · intro w'
      go_simp
      with_reducible rfl
    rotate_left
    · simp only [Act.put, List.setIfInBounds_toArray, List.set_cons_zero, List.set_cons_succ, i64_w, i32_w]
      rfl
    refine pure_ (i := 16) (N := some 188) (v := ?_) (a' := ?_) #[true, true, true, true, true, true, true, true, true, true, true, true, true, true, true, true, true, false, false, false, false, false, false, false, false, false, false, false, false, false, false, false, false, false, false, false, false, false, false, false, false, false, false] rfl rfl (by kernel_rfl) (fun c a w h => hp c a _ _ w h) (Or.inl ⟨by rfl, ?_⟩) ?_ ?_
    rotate_left
    · intro w'
      go_simp
      with_reducible rfl
    rotate_left
    · simp only [Act.put, List.setIfInBounds_toArray, List.set_cons_zero, List.set_cons_succ, i64_w, i32_w]
      rfl
    refine pure_ (i := 17) (N := some 189) (v := undef) (a' := ?_) #[true, true, true, true, true, true, true, true, true, true, true, true, true, true, true, true, true, true, false, false, false, false, false, false, false, false, false, false, false, false, false, false, false, false, false, false, false, false, false, false, false, false, false] rfl rfl (by kernel_rfl) (fun c a w h => hp c a _ _ w h) (Or.inr ⟨by rfl, rfl⟩) ?_ ?_
    rotate_left
    · simp only [Act.put, List.setIfInBounds_toArray, List.set_cons_zero, List.set_cons_succ, i64_w, i32_w]
      rfl
    refine pure_ (i := 18) (N := some 190) (v := undef) (a' := ?_) #[true, true, true, true, true, true, true, true, true, true, true, true, true, true, true, true, true, true, true, false, false, false, false, false, false, false, false, false, false, false, false, false, false, false, false, false, false, false, false, false, false, false, false] rfl rfl (by kernel_rfl) (fun c a w h => hp c a _ _ w h) (Or.inr ⟨by rfl, rfl⟩) ?_ ?_
    rotate_left
    · simp only [Act.put, List.setIfInBounds_toArray, List.set_cons_zero, List.set_cons_succ, i64_w, i32_w]
      rfl
    refine pure_ (i := 19) (N := some 191) (v := undef) (a' := ?_) #[true, true, true, true, true, true, true, true, true, true, true, true, true, true, true, true, true, true, true, true, false, false, false, false, false, false, false, false, false, false, false, false, false, false, false, false, false, false, false, false, false, false, false] rfl rfl (by kernel_rfl) (fun c a w h => hp c a _ _ w h) (Or.inr ⟨by rfl, rfl⟩) ?_ ?_
    rotate_left
    · simp only [Act.put, List.setIfInBounds_toArray, List.set_cons_zero, List.set_cons_succ, i64_w, i32_w]
      rfl
    refine pure_ (i := 20) (N := some 192) (v := undef) (a' := ?_) #[true, true, true, true, true, true, true, true, true, true, true, true, true, true, true, true, true, true, true, true, true, false, false, false, false, false, false, false, false, false, false, false, false, false, false, false, false, false, false, false, false, false, false] rfl rfl (by kernel_rfl) (fun c a w h => hp c a _ _ w h) (Or.inr ⟨by rfl, rfl⟩) ?_ ?_
    rotate_left
    · simp only [Act.put, List.setIfInBounds_toArray, List.set_cons_zero, List.set_cons_succ, i64_w, i32_w]
      rfl
    refine pure_ (i := 21) (N := some 193) (v := undef) (a' := ?_) #[true, true, true, true, true, true, true, true, true, true, true, true, true, true, true, true, true, true, true, true, true, true, false, false, false, false, false, false, false, false, false, false, false, false, false, false, false, false, false, false, false, false, false] rfl rfl (by kernel_rfl) (fun c a w h => hp c a _ _ w h) (Or.inr ⟨by rfl, rfl⟩) ?_ ?_
    rotate_left
    · simp only [Act.put, List.setIfInBounds_toArray, List.set_cons_zero, List.set_cons_succ, i64_w, i32_w]
      rfl
    refine pure_ (i := 22) (N := some 194) (v := undef) (a' := ?_) #[true, true, true, true, true, true, true, true, true, true, true, true, true, true, true, true, true, true, true, true, true, true, true, false, false, false, false, false, false, false, false, false, false, false, false, false, false, false, false, false, false, false, false] rfl rfl (by kernel_rfl) (fun c a w h => hp c a _ _ w h) (Or.inr ⟨by rfl, rfl⟩) ?_ ?_
    rotate_left
    · simp only [Act.put, List.setIfInBounds_toArray, List.set_cons_zero, List.set_cons_succ, i64_w, i32_w]
      rfl
    refine pure_ (i := 23) (N := some 195) (v := undef) (a' := ?_) #[true, true, true, true, true, true, true, true, true, true, true, true, true, true, true, true, true, true, true, true, true, true, true, true, false, false, false, false, false, false, false, false, false, false, false, false, false, false, false, false, false, false, false] rfl rfl (by kernel_rfl) (fun c a w h => hp c a _ _ w h) (Or.inr ⟨by rfl, rfl⟩) ?_ ?_
    rotate_left
    · simp only [Act.put, List.setIfInBounds_toArray, List.set_cons_zero, List.set_cons_succ, i64_w, i32_w]
      rfl
    refine pure_ (i := 24) (N := some 196) (v := undef) (a' := ?_) #[true, true, true, true, true, true, true, true, true, true, true, true, true, true, true, true, true, true, true, true, true, true, true, true, true, false, false, false, false, false, false, false, false, false, false, false, false, false, false, false, false, false, false] rfl rfl (by kernel_rfl) (fun c a w h => hp c a _ _ w h) (Or.inr ⟨by rfl, rfl⟩) ?_ ?_
    rotate_left
    · simp only [Act.put, List.setIfInBounds_toArray, List.set_cons_zero, List.set_cons_succ, i64_w, i32_w]
      rfl
    refine pure_ (i := 25) (N := some 197) (v := undef) (a' := ?_) #[true, true, true, true, true, true, true, true, true, true, true, true, true, true, true, true, true, true, true, true, true, true, true, true, true, true, false, false, false, false, false, false, false, false, false, false, false, false, false, false, false, false, false] rfl rfl (by kernel_rfl) (fun c a w h => hp c a _ _ w h) (Or.inr ⟨by rfl, rfl⟩) ?_ ?_
    rotate_left
    · simp only [Act.put, List.setIfInBounds_toArray, List.set_cons_zero, List.set_cons_succ, i64_w, i32_w]
      rfl
    refine pure_ (i := 26) (N := some 198) (v := undef) (a' := ?_) #[true, true, true, true, true, true, true, true, true, true, true, true, true, true, true, true, true, true, true, true, true, true, true, true, true, true, true, false, false, false, false, false, false, false, false, false, false, false, false, false, false, false, false] rfl rfl (by kernel_rfl) (fun c a w h => hp c a _ _ w h) (Or.inr ⟨by rfl, rfl⟩) ?_ ?_
    rotate_left
    · simp only [Act.put, List.setIfInBounds_toArray, List.set_cons_zero, List.set_cons_succ, i64_w, i32_w]
      rfl
    refine pure_ (i := 27) (N := some 199) (v := undef) (a' := ?_) #[true, true, true, true, true, true, true, true, true, true, true, true, true, true, true, true, true, true, true, true, true, true, true, true, true, true, true, true, false, false, false, false, false, false, false, false, false, false, false, false, false, false, false] rfl rfl (by kernel_rfl) (fun c a w h => hp c a _ _ w h) (Or.inr ⟨by rfl, rfl⟩) ?_ ?_
    rotate_left
    · simp only [Act.put, List.setIfInBounds_toArray, List.set_cons_zero, List.set_cons_succ, i64_w, i32_w]
      rfl
    refine pure_ (i := 28) (N := some 200) (v := undef) (a' := ?_) #[true, true, true, true, true, true, true, true, true, true, true, true, true, true, true, true, true, true, true, true, true, true, true, true, true, true, true, true, true, false, false, false, false, false, false, false, false, false, false, false, false, false, false] rfl rfl (by kernel_rfl) (fun c a w h => hp c a _ _ w h) (Or.inr ⟨by rfl, rfl⟩) ?_ ?_
    rotate_left
    · simp only [Act.put, List.setIfInBounds_toArray, List.set_cons_zero, List.set_cons_succ, i64_w, i32_w]
      rfl
    refine pure_ (i := 29) (N := some 201) (v := undef) (a' := ?_) #[true, true, true, true, true, true, true, true, true, true, true, true, true, true, true, true, true, true, true, true, true, true, true, true, true, true, true, true, true, true, false, false, false, false, false, false, false, false, false, false, false, false, false] rfl rfl (by kernel_rfl) (fun c a w h => hp c a _ _ w h) (Or.inr ⟨by rfl, rfl⟩) ?_ ?_
    rotate_left
    · simp only [Act.put, List.setIfInBounds_toArray, List.set_cons_zero, List.set_cons_succ, i64_w, i32_w]
      rfl
    refine pure_ (i := 30) (N := some 202) (v := undef) (a' := ?_) #[true, true, true, true, true, true, true, true, true, true, true, true, true, true, true, true, true, true, true, true, true, true, true, true, true, true, true, true, true, true, true, false, false, false, false, false, false, false, false, false, false, false, false] rfl rfl (by kernel_rfl) (fun c a w h => hp c a _ _ w h) (Or.inr ⟨by rfl, rfl⟩) ?_ ?_
    rotate_left
    · simp only [Act.put, List.setIfInBounds_toArray, List.set_cons_zero, List.set_cons_succ, i64_w, i32_w]
      rfl
    refine pure_ (i := 31) (N := some 203) (v := undef) (a' := ?_) #[true, true, true, true, true, true, true, true, true, true, true, true, true, true, true, true, true, true, true, true, true, true, true, true, true, true, true, true, true, true, true, true, false, false, false, false, false, false, false, false, false, false, false] rfl rfl (by kernel_rfl) (fun c a w h => hp c a _ _ w h) (Or.inr ⟨by rfl, rfl⟩) ?_ ?_
    rotate_left
    · simp only [Act.put, List.setIfInBounds_toArray, List.set_cons_zero, List.set_cons_succ, i64_w, i32_w]
      rfl
    refine pure_ (i := 32) (N := some 204) (v := undef) (a' := ?_) #[true, true, true, true, true, true, true, true, true, true, true, true, true, true, true, true, true, true, true, true, true, true, true, true, true, true, true, true, true, true, true, true, true, false, false, false, false, false, false, false, false, false, false] rfl rfl (by kernel_rfl) (fun c a w h => hp c a _ _ w h) (Or.inr ⟨by rfl, rfl⟩) ?_ ?_
    rotate_left
    · simp only [Act.put, List.setIfInBounds_toArray, List.set_cons_zero, List.set_cons_succ, i64_w, i32_w]
      rfl
    refine pure_ (i := 33) (N := some 205) (v := undef) (a' := ?_) #[true, true, true, true, true, true, true, true, true, true, true, true, true, true, true, true, true, true, true, true, true, true, true, true, true, true, true, true, true, true, true, true, true, true, false, false, false, false, false, false, false, false, false] rfl rfl (by kernel_rfl) (fun c a w h => hp c a _ _ w h) (Or.inr ⟨by rfl, rfl⟩) ?_ ?_
    rotate_left
    · simp only [Act.put, List.setIfInBounds_toArray, List.set_cons_zero, List.set_cons_succ, i64_w, i32_w]
      rfl
    refine pure_ (i := 34) (N := some 206) (v := undef) (a' := ?_) #[true, true, true, true, true, true, true, true, true, true, true, true, true, true, true, true, true, true, true, true, true, true, true, true, true, true, true, true, true, true, true, true, true, true, true, false, false, false, false, false, false, false, false] rfl rfl (by kernel_rfl) (fun c a w h => hp c a _ _ w h) (Or.inr ⟨by rfl, rfl⟩) ?_ ?_
    rotate_left
    · simp only [Act.put, List.setIfInBounds_toArray, List.set_cons_zero, List.set_cons_succ, i64_w, i32_w]
      rfl
    refine pure_ (i := 35) (N := some 207) (v := undef) (a' := ?_) #[true, true, true, true, true, true, true, true, true, true, true, true, true, true, true, true, true, true, true, true, true, true, true, true, true, true, true, true, true, true, true, true, true, true, true, true, false, false, false, false, false, false, false] rfl rfl (by kernel_rfl) (fun c a w h => hp c a _ _ w h) (Or.inr ⟨by rfl, rfl⟩) ?_ ?_
    rotate_left
    · simp only [Act.put, List.setIfInBounds_toArray, List.set_cons_zero, List.set_cons_succ, i64_w, i32_w]
      rfl
    refine pure_ (i := 36) (N := some 208) (v := undef) (a' := ?_) #[true, true, true, true, true, true, true, true, true, true, true, true, true, true, true, true, true, true, true, true, true, true, true, true, true, true, true, true, true, true, true, true, true, true, true, true, true, false, false, false, false, false, false] rfl rfl (by kernel_rfl) (fun c a w h => hp c a _ _ w h) (Or.inr ⟨by rfl, rfl⟩) ?_ ?_
    rotate_left
    · simp only [Act.put, List.setIfInBounds_toArray, List.set_cons_zero, List.set_cons_succ, i64_w, i32_w]
      rfl
    refine pure_ (i := 37) (N := some 209) (v := undef) (a' := ?_) #[true, true, true, true, true, true, true, true, true, true, true, true, true, true, true, true, true, true, true, true, true, true, true, true, true, true, true, true, true, true, true, true, true, true, true, true, true, true, false, false, false, false, false] rfl rfl (by kernel_rfl) (fun c a w h => hp c a _ _ w h) (Or.inr ⟨by rfl, rfl⟩) ?_ ?_
    rotate_left
    · simp only [Act.put, List.setIfInBounds_toArray, List.set_cons_zero, List.set_cons_succ, i64_w, i32_w]
      rfl
    refine pure_ (i := 38) (N := some 210) (v := undef) (a' := ?_) #[true, true, true, true, true, true, true, true, true, true, true, true, true, true, true, true, true, true, true, true, true, true, true, true, true, true, true, true, true, true, true, true, true, true, true, true, true, true, true, false, false, false, false] rfl rfl (by kernel_rfl) (fun c a w h => hp c a _ _ w h) (Or.inr ⟨by rfl, rfl⟩) ?_ ?_
    rotate_left
    · simp only [Act.put, List.setIfInBounds_toArray, List.set_cons_zero, List.set_cons_succ, i64_w, i32_w]
      rfl
    refine pure_ (i := 39) (N := some 211) (v := undef) (a' := ?_) #[true, true, true, true, true, true, true, true, true, true, true, true, true, true, true, true, true, true, true, true, true, true, true, true, true, true, true, true, true, true, true, true, true, true, true, true, true, true, true, true, false, false, false] rfl rfl (by kernel_rfl) (fun c a w h => hp c a _ _ w h) (Or.inr ⟨by rfl, rfl⟩) ?_ ?_
    rotate_left
    · simp only [Act.put, List.setIfInBounds_toArray, List.set_cons_zero, List.set_cons_succ, i64_w, i32_w]
      rfl
    refine pure_ (i := 40) (N := some 212) (v := undef) (a' := ?_) #[true, true, true, true, true, true, true, true, true, true, true, true, true, true, true, true, true, true, true, true, true, true, true, true, true, true, true, true, true, true, true, true, true, true, true, true, true, true, true, true, true, false, false] rfl rfl (by kernel_rfl) (fun c a w h => hp c a _ _ w h) (Or.inr ⟨by rfl, rfl⟩) ?_ ?_
    rotate_left
    · simp only [Act.put, List.setIfInBounds_toArray, List.set_cons_zero, List.set_cons_succ, i64_w, i32_w]
      rfl
    refine pure_ (i := 41) (N := some 213) (v := ?_) (a' := ?_) #[true, true, true, true, true, true, true, true, true, true, true, true, true, true, true, true, true, true, true, true, true, true, true, true, true, true, true, true, true, true, true, true, true, true, true, true, true, true, true, true, true, true, false] rfl rfl (by kernel_rfl) (fun c a w h => hp c a _ _ w h) (Or.inl ⟨by rfl, ?_⟩) ?_ ?_
    rotate_left
    · intro w'
      go_simp
      with_reducible rfl
    rotate_left
    · simp only [Act.put, List.setIfInBounds_toArray, List.set_cons_zero, List.set_cons_succ, i64_w, i32_w]
      rfl
    refine pure_ (i := 42) (N := some 214) (v := ?_) (a' := ?_) #[true, true, true, true, true, true, true, true, true, true, true, true, true, true, true, true, true, true, true, true, true, true, true, true, true, true, true, true, true, true, true, true, true, true, true, true, true, true, true, true, true, true, true] rfl rfl (by kernel_rfl) (fun c a w h => hp c a _ _ w h) (Or.inl ⟨by rfl, ?_⟩) ?_ ?_
    rotate_left
    · intro w'
      go_simp
      with_reducible rfl
    rotate_left
    · simp only [Act.put, List.setIfInBounds_toArray, List.set_cons_zero, List.set_cons_succ, i64_w, i32_w]
      rfl
    refine done_ (by kernel_rfl) ?_
    go_wp2
    exact HQ.out _ _ _ _ _ _ _ _ _ _ _ _ _ _ _ _ _ _ _ _ _ _ _ _ _ _ _ _ _ _ _ _ _ _ _ _ _ _ _ _ _ _ _ H5
  · have hk1 : ((i : Int) == k) = false := beq_eq_false_iff_ne.2 hk
    have hk2 : ((i : Int) != k) = true := bne_iff_ne.2 hk
    obtain ⟨a10, hA, hc0, hc1, hc2, hc3, hc4, hc5, hc6, hc7⟩ := at_T47 HD.out.kc (i : Int) (by omega) (by omega)
    subst hA
    obtain ⟨a12, hA, hd0, hd1, hd2, hd3, hd4, hd5, hd6, hd7⟩ := at_T47 HD.out.kd (i : Int) (by omega) (by omega)
    subst hA
    rw [← HLc.out, Lw_ne hk] at hc0 hc1 hc2 hc3 hc4 hc5 hc6 hc7
    rw [← HLd.out, Lo_ne hk] at hd0 hd1 hd2 hd3 hd4 hd5 hd6 hd7
    clear hk
    simp only [Int.toNat_natCast] at hx0 hx1 hx2 hx3 hx4 hx5 hx6 hx7 hm0 hm1 hm2 hm3 hm4 hm5 hm6 hm7 hc0 hc1 hc2 hc3 hc4 hc5 hc6 hc7 hd0 hd1 hd2 hd3 hd4 hd5 hd6 hd7
    generalize rd_T47 L (i : Int) = y at hx0 hx1 hx2 hx3 hx4 hx5 hx6 hx7 hm0 hm1 hm2 hm3 hm4 hm5 hm6 hm7 hc0 hc1 hc2 hc3 hc4 hc5 hc6 hc7 hd0 hd1 hd2 hd3 hd4 hd5 hd6 hd7
    obtain ⟨y0, y1, y2, y3, y4, y5, y6, y7⟩ := y
    dsimp only at hx0 hx1 hx2 hx3 hx4 hx5 hx6 hx7 hm0 hm1 hm2 hm3 hm4 hm5 hm6 hm7 hc0 hc1 hc2 hc3 hc4 hc5 hc6 hc7 hd0 hd1 hd2 hd3 hd4 hd5 hd6 hd7
    have q7 := (blk_cell HD.out.h.g7 3).trans rfl
    have q8 := (blk_cell HD.out.h.g8 3).trans rfl
    have q10 := (blk_cell HD.out.g10 3).trans rfl
    have q12 := (blk_cell HD.out.g12 3).trans rfl
    refine start_ (n := 43) (S := fun w' => w'.cell? ⟨g7, 3, none⟩ = some (.slice (some a7) n c) ∧ w'.cell? ⟨g8, 3, none⟩ = some (.slice (some a8) n cm) ∧ w'.cell? (a7.add (i * 8)) = some (.int .i64 y0) ∧ w'.cell? ⟨(a7.add (i * 8)).block, (a7.add (i * 8)).off + 1, none⟩ = some (.string y1) ∧ w'.cell? ⟨(a7.add (i * 8)).block, (a7.add (i * 8)).off + 2, none⟩ = some (.string y2) ∧ w'.cell? ⟨(a7.add (i * 8)).block, (a7.add (i * 8)).off + 3, none⟩ = some (.int .u64 y3) ∧ w'.cell? ⟨(a7.add (i * 8)).block, (a7.add (i * 8)).off + 4, none⟩ = some (.int .u64 y4) ∧ w'.cell? ⟨(a7.add (i * 8)).block, (a7.add (i * 8)).off + 5, none⟩ = some (.string y5) ∧ w'.cell? ⟨(a7.add (i * 8)).block, (a7.add (i * 8)).off + 6, none⟩ = some (.string y6) ∧ w'.cell? ⟨(a7.add (i * 8)).block, (a7.add (i * 8)).off + 7, none⟩ = some (.bool y7) ∧ w'.cell? (a8.add (i * 8)) = some (.int .i64 y0) ∧ w'.cell? ⟨(a8.add (i * 8)).block, (a8.add (i * 8)).off + 1, none⟩ = some (.string y1) ∧ w'.cell? ⟨(a8.add (i * 8)).block, (a8.add (i * 8)).off + 2, none⟩ = some (.string y2) ∧ w'.cell? ⟨(a8.add (i * 8)).block, (a8.add (i * 8)).off + 3, none⟩ = some (.int .u64 y3) ∧ w'.cell? ⟨(a8.add (i * 8)).block, (a8.add (i * 8)).off + 4, none⟩ = some (.int .u64 y4) ∧ w'.cell? ⟨(a8.add (i * 8)).block, (a8.add (i * 8)).off + 5, none⟩ = some (.string y5) ∧ w'.cell? ⟨(a8.add (i * 8)).block, (a8.add (i * 8)).off + 6, none⟩ = some (.string y6) ∧ w'.cell? ⟨(a8.add (i * 8)).block, (a8.add (i * 8)).off + 7, none⟩ = some (.bool y7) ∧ w'.cell? ⟨g10, 3, none⟩ = some (.slice (some a10) n cc) ∧ w'.cell? ⟨g12, 3, none⟩ = some (.slice (some a12) n cd) ∧ w'.cell? (a10.add (i * 8)) = some (.int .i64 y0) ∧ w'.cell? ⟨(a10.add (i * 8)).block, (a10.add (i * 8)).off + 1, none⟩ = some (.string y1) ∧ w'.cell? ⟨(a10.add (i * 8)).block, (a10.add (i * 8)).off + 2, none⟩ = some (.string y2) ∧ w'.cell? ⟨(a10.add (i * 8)).block, (a10.add (i * 8)).off + 3, none⟩ = some (.int .u64 y3) ∧ w'.cell? ⟨(a10.add (i * 8)).block, (a10.add (i * 8)).off + 4, none⟩ = some (.int .u64 y4) ∧ w'.cell? ⟨(a10.add (i * 8)).block, (a10.add (i * 8)).off + 5, none⟩ = some (.string y5) ∧ w'.cell? ⟨(a10.add (i * 8)).block, (a10.add (i * 8)).off + 6, none⟩ = some (.string y6) ∧ w'.cell? ⟨(a10.add (i * 8)).block, (a10.add (i * 8)).off + 7, none⟩ = some (.bool y7) ∧ w'.cell? (a12.add (i * 8)) = some (.int .i64 y0) ∧ w'.cell? ⟨(a12.add (i * 8)).block, (a12.add (i * 8)).off + 1, none⟩ = some (.string y1) ∧ w'.cell? ⟨(a12.add (i * 8)).block, (a12.add (i * 8)).off + 2, none⟩ = some (.string y2) ∧ w'.cell? ⟨(a12.add (i * 8)).block, (a12.add (i * 8)).off + 3, none⟩ = some (.int .u64 y3) ∧ w'.cell? ⟨(a12.add (i * 8)).block, (a12.add (i * 8)).off + 4, none⟩ = some (.int .u64 y4) ∧ w'.cell? ⟨(a12.add (i * 8)).block, (a12.add (i * 8)).off + 5, none⟩ = some (.string y5) ∧ w'.cell? ⟨(a12.add (i * 8)).block, (a12.add (i * 8)).off + 6, none⟩ = some (.string y6) ∧ w'.cell? ⟨(a12.add (i * 8)).block, (a12.add (i * 8)).off + 7, none⟩ = some (.bool y7)) (ds := []) #[false, false, false, false, false, false, false, false, false, false, false, false, false, false, false, false, false, false, false, false, false, false, false, false, false, false, false, false, false, false, false, false, false, false, false, false, false, false, false, false, false, false, false] (by kernel_rfl) rfl rfl ⟨q7, q8, hx0, hx1, hx2, hx3, hx4, hx5, hx6, hx7, hm0, hm1, hm2, hm3, hm4, hm5, hm6, hm7, q10, q12, hc0, hc1, hc2, hc3, hc4, hc5, hc6, hc7, hd0, hd1, hd2, hd3, hd4, hd5, hd6, hd7⟩ (fun hHeld => ?_)
    refine pure_ (i := 0) (N := some 172) (v := ?_) (a' := ?_) #[true, false, false, false, false, false, false, false, false, false, false, false, false, false, false, false, false, false, false, false, false, false, false, false, false, false, false, false, false, false, false, false, false, false, false, false, false, false, false, false, false, false, false] rfl rfl (by kernel_rfl) (fun c a w h => hp c a _ _ w h) (Or.inl ⟨by rfl, ?_⟩) ?_ ?_
    rotate_left
    · intro w'
      go_simp
      with_reducible rfl
    rotate_left
    · simp only [Act.put, List.setIfInBounds_toArray, List.set_cons_zero, List.set_cons_succ, i64_w, i32_w]
      rfl
    refine pure_ (i := 2) (N := some 174) (v := ?_) (a' := ?_) #[true, false, true, false, false, false, false, false, false, false, false, false, false, false, false, false, false, false, false, false, false, false, false, false, false, false, false, false, false, false, false, false, false, false, false, false, false, false, false, false, false, false, false] rfl rfl (by kernel_rfl) (fun c a w h => hp c a _ _ w h) (Or.inl ⟨by rfl, ?_⟩) ?_ ?_
    rotate_left
    · intro w'
      go_simp
      with_reducible rfl
    rotate_left
    · simp only [Act.put, List.setIfInBounds_toArray, List.set_cons_zero, List.set_cons_succ, i64_w, i32_w]
      rfl
    refine pure_ (i := 6) (N := some 178) (v := ?_) (a' := ?_) #[true, false, true, false, false, false, true, false, false, false, false, false, false, false, false, false, false, false, false, false, false, false, false, false, false, false, false, false, false, false, false, false, false, false, false, false, false, false, false, false, false, false, false] rfl rfl (by kernel_rfl) (fun c a w h => hp c a _ _ w h) (Or.inl ⟨by rfl, ?_⟩) ?_ ?_
    rotate_left
    · intro w'
      go_simp
      with_reducible rfl
    rotate_left
    · simp only [Act.put, List.setIfInBounds_toArray, List.set_cons_zero, List.set_cons_succ, i64_w, i32_w]
      rfl
    refine pure_ (i := 8) (N := some 180) (v := ?_) (a' := ?_) #[true, false, true, false, false, false, true, false, true, false, false, false, false, false, false, false, false, false, false, false, false, false, false, false, false, false, false, false, false, false, false, false, false, false, false, false, false, false, false, false, false, false, false] rfl rfl (by kernel_rfl) (fun c a w h => hp c a _ _ w h) (Or.inl ⟨by rfl, ?_⟩) ?_ ?_
    rotate_left
    · intro w'
      go_simp
      with_reducible rfl
    rotate_left
    · simp only [Act.put, List.setIfInBounds_toArray, List.set_cons_zero, List.set_cons_succ, i64_w, i32_w]
      rfl
    refine take_ (i := 1) (N := some 173) (v := ?_) (a' := ?_) #[true, true, true, false, false, false, true, false, true, false, false, false, false, false, false, false, false, false, false, false, false, false, false, false, false, false, false, false, false, false, false, false, false, false, false, false, false, false, false, false, false, false, false] rfl rfl (by kernel_rfl) (fun c a w h => hp c a _ _ w h) (Or.inl ⟨by rfl, ?_⟩) hHeld ?_ ?_
    rotate_left
    · rintro w' ⟨s0, s1, s2, s3, s4, s5, s6, s7, s8, s9, s10, s11, s12, s13, s14, s15, s16, s17, s18, s19, s20, s21, s22, s23, s24, s25, s26, s27, s28, s29, s30, s31, s32, s33, s34, s35⟩
      go_simp
      with_reducible rfl
    rotate_left
    · simp only [Act.put, List.setIfInBounds_toArray, List.set_cons_zero, List.set_cons_succ, i64_w, i32_w]
      rfl
    refine pure_ (i := 3) (N := some 175) (v := ?_) (a' := ?_) #[true, true, true, true, false, false, true, false, true, false, false, false, false, false, false, false, false, false, false, false, false, false, false, false, false, false, false, false, false, false, false, false, false, false, false, false, false, false, false, false, false, false, false] rfl rfl (by kernel_rfl) (fun c a w h => hp c a _ _ w h) (Or.inl ⟨by rfl, ?_⟩) ?_ ?_
    rotate_left
    · intro w'
      go_simp
      with_reducible rfl
    rotate_left
    · simp only [Act.put, List.setIfInBounds_toArray, List.set_cons_zero, List.set_cons_succ, i64_w, i32_w]
      rfl
    refine take_ (i := 4) (N := some 176) (v := ?_) (a' := ?_) #[true, true, true, true, true, false, true, false, true, false, false, false, false, false, false, false, false, false, false, false, false, false, false, false, false, false, false, false, false, false, false, false, false, false, false, false, false, false, false, false, false, false, false] rfl rfl (by kernel_rfl) (fun c a w h => hp c a _ _ w h) (Or.inl ⟨by rfl, ?_⟩) hHeld ?_ ?_
    rotate_left
    · rintro w' ⟨s0, s1, s2, s3, s4, s5, s6, s7, s8, s9, s10, s11, s12, s13, s14, s15, s16, s17, s18, s19, s20, s21, s22, s23, s24, s25, s26, s27, s28, s29, s30, s31, s32, s33, s34, s35⟩
      go_simp
      with_reducible rfl
    rotate_left
    · simp only [Act.put, List.setIfInBounds_toArray, List.set_cons_zero, List.set_cons_succ, i64_w, i32_w]
      rfl
    refine take_ (i := 7) (N := some 179) (v := ?_) (a' := ?_) #[true, true, true, true, true, false, true, true, true, false, false, false, false, false, false, false, false, false, false, false, false, false, false, false, false, false, false, false, false, false, false, false, false, false, false, false, false, false, false, false, false, false, false] rfl rfl (by kernel_rfl) (fun c a w h => hp c a _ _ w h) (Or.inl ⟨by rfl, ?_⟩) hHeld ?_ ?_
    rotate_left
    · rintro w' ⟨s0, s1, s2, s3, s4, s5, s6, s7, s8, s9, s10, s11, s12, s13, s14, s15, s16, s17, s18, s19, s20, s21, s22, s23, s24, s25, s26, s27, s28, s29, s30, s31, s32, s33, s34, s35⟩
      go_simp
      with_reducible rfl
    rotate_left
    · simp only [Act.put, List.setIfInBounds_toArray, List.set_cons_zero, List.set_cons_succ, i64_w, i32_w]
      rfl
    refine pure_ (i := 9) (N := some 181) (v := ?_) (a' := ?_) #[true, true, true, true, true, false, true, true, true, true, false, false, false, false, false, false, false, false, false, false, false, false, false, false, false, false, false, false, false, false, false, false, false, false, false, false, false, false, false, false, false, false, false] rfl rfl (by kernel_rfl) (fun c a w h => hp c a _ _ w h) (Or.inl ⟨by rfl, ?_⟩) ?_ ?_
    rotate_left
    · intro w'
      go_simp
      with_reducible rfl
    rotate_left
    · simp only [Act.put, List.setIfInBounds_toArray, List.set_cons_zero, List.set_cons_succ, i64_w, i32_w]
      rfl
    refine take_ (i := 10) (N := some 182) (v := ?_) (a' := ?_) #[true, true, true, true, true, false, true, true, true, true, true, false, false, false, false, false, false, false, false, false, false, false, false, false, false, false, false, false, false, false, false, false, false, false, false, false, false, false, false, false, false, false, false] rfl rfl (by kernel_rfl) (fun c a w h => hp c a _ _ w h) (Or.inl ⟨by rfl, ?_⟩) hHeld ?_ ?_
    rotate_left
    · rintro w' ⟨s0, s1, s2, s3, s4, s5, s6, s7, s8, s9, s10, s11, s12, s13, s14, s15, s16, s17, s18, s19, s20, s21, s22, s23, s24, s25, s26, s27, s28, s29, s30, s31, s32, s33, s34, s35⟩
      go_simp
      with_reducible rfl
    rotate_left
    · simp only [Act.put, List.setIfInBounds_toArray, List.set_cons_zero, List.set_cons_succ, i64_w, i32_w]
      rfl
    refine one_ (i := 5) (N := some 177) #[true, true, true, true, true, true, true, true, true, true, true, false, false, false, false, false, false, false, false, false, false, false, false, false, false, false, false, false, false, false, false, false, false, false, false, false, false, false, false, false, false, false, false] rfl rfl (by kernel_rfl) (by decide) (fun K hK => ?_)
    refine goes_ Try.func21 (by kernel_rfl) rfl #[.agg #[.int .i64 y0, .string y1, .string y2, .int .u64 y3, .int .u64 y4, .string y5, .string y6, .bool y7]] (by rfl) rfl rfl (by simp only [List.map_toArray, List.map_cons, List.map_nil]; rfl) ?_
    with_reducible refine (ref_any ⟨y0, y1, y2, y3, y4, y5, y6, y7⟩ _).mono ?_
    rintro e w5 ⟨rfl, hb⟩
    refine ⟨_, rfl, ?_⟩
    have H5 := Lib.hid (HD.out.below hb)
    refine hK.out _ _ ⟨(blk_cell H5.out.h.g7 3).trans rfl, (blk_cell H5.out.h.g8 3).trans rfl, (hb.cell (World.block_lt_of_cell? _ _ hx0)).trans hx0, (hb.cell (World.block_lt_of_cell? _ _ hx1)).trans hx1, (hb.cell (World.block_lt_of_cell? _ _ hx2)).trans hx2, (hb.cell (World.block_lt_of_cell? _ _ hx3)).trans hx3, (hb.cell (World.block_lt_of_cell? _ _ hx4)).trans hx4, (hb.cell (World.block_lt_of_cell? _ _ hx5)).trans hx5, (hb.cell (World.block_lt_of_cell? _ _ hx6)).trans hx6, (hb.cell (World.block_lt_of_cell? _ _ hx7)).trans hx7, (hb.cell (World.block_lt_of_cell? _ _ hm0)).trans hm0, (hb.cell (World.block_lt_of_cell? _ _ hm1)).trans hm1, (hb.cell (World.block_lt_of_cell? _ _ hm2)).trans hm2, (hb.cell (World.block_lt_of_cell? _ _ hm3)).trans hm3, (hb.cell (World.block_lt_of_cell? _ _ hm4)).trans hm4, (hb.cell (World.block_lt_of_cell? _ _ hm5)).trans hm5, (hb.cell (World.block_lt_of_cell? _ _ hm6)).trans hm6, (hb.cell (World.block_lt_of_cell? _ _ hm7)).trans hm7, (blk_cell H5.out.g10 3).trans rfl, (blk_cell H5.out.g12 3).trans rfl, (hb.cell (World.block_lt_of_cell? _ _ hc0)).trans hc0, (hb.cell (World.block_lt_of_cell? _ _ hc1)).trans hc1, (hb.cell (World.block_lt_of_cell? _ _ hc2)).trans hc2, (hb.cell (World.block_lt_of_cell? _ _ hc3)).trans hc3, (hb.cell (World.block_lt_of_cell? _ _ hc4)).trans hc4, (hb.cell (World.block_lt_of_cell? _ _ hc5)).trans hc5, (hb.cell (World.block_lt_of_cell? _ _ hc6)).trans hc6, (hb.cell (World.block_lt_of_cell? _ _ hc7)).trans hc7, (hb.cell (World.block_lt_of_cell? _ _ hd0)).trans hd0, (hb.cell (World.block_lt_of_cell? _ _ hd1)).trans hd1, (hb.cell (World.block_lt_of_cell? _ _ hd2)).trans hd2, (hb.cell (World.block_lt_of_cell? _ _ hd3)).trans hd3, (hb.cell (World.block_lt_of_cell? _ _ hd4)).trans hd4, (hb.cell (World.block_lt_of_cell? _ _ hd5)).trans hd5, (hb.cell (World.block_lt_of_cell? _ _ hd6)).trans hd6, (hb.cell (World.block_lt_of_cell? _ _ hd7)).trans hd7⟩ (fun hHeld => ?_)
    clear hK K
    refine norm_ (a' := ?_) ?_ ?_
    rotate_left
    · show Act.put _ (some 177) _ = _
      simp only [Act.put, List.setIfInBounds_toArray, List.set_cons_zero, List.set_cons_succ, i64_w, i32_w]
      rfl
    refine pure_ (i := 11) (N := some 183) (v := ?_) (a' := ?_) #[true, true, true, true, true, true, true, true, true, true, true, true, false, false, false, false, false, false, false, false, false, false, false, false, false, false, false, false, false, false, false, false, false, false, false, false, false, false, false, false, false, false, false] rfl rfl (by kernel_rfl) (fun c a w h => hp c a _ _ w h) (Or.inl ⟨by rfl, ?_⟩) ?_ ?_
    rotate_left
    · intro w'
      go_simp
      with_reducible rfl
    rotate_left
    · simp only [Act.put, List.setIfInBounds_toArray, List.set_cons_zero, List.set_cons_succ, i64_w, i32_w]
      rfl
    refine pure_ (i := 12) (N := some 184) (v := ?_) (a' := ?_) #[true, true, true, true, true, true, true, true, true, true, true, true, true, false, false, false, false, false, false, false, false, false, false, false, false, false, false, false, false, false, false, false, false, false, false, false, false, false, false, false, false, false, false] rfl rfl (by kernel_rfl) (fun c a w h => hp c a _ _ w h) (Or.inl ⟨by rfl, ?_⟩) ?_ ?_
    rotate_left
    · intro w'
      go_simp
      with_reducible rfl
    rotate_left
    · simp only [Act.put, List.setIfInBounds_toArray, List.set_cons_zero, List.set_cons_succ, i64_w, i32_w]
      rfl
    refine pure_ (i := 13) (N := some 185) (v := ?_) (a' := ?_) #[true, true, true, true, true, true, true, true, true, true, true, true, true, true, false, false, false, false, false, false, false, false, false, false, false, false, false, false, false, false, false, false, false, false, false, false, false, false, false, false, false, false, false] rfl rfl (by kernel_rfl) (fun c a w h => hp c a _ _ w h) (Or.inl ⟨by rfl, ?_⟩) ?_ ?_
    rotate_left
    · intro w'
      go_simp
      with_reducible rfl
    rotate_left
    · simp only [Act.put, List.setIfInBounds_toArray, List.set_cons_zero, List.set_cons_succ, i64_w, i32_w]
      rfl
    refine pure_ (i := 14) (N := some 186) (v := ?_) (a' := ?_) #[true, true, true, true, true, true, true, true, true, true, true, true, true, true, true, false, false, false, false, false, false, false, false, false, false, false, false, false, false, false, false, false, false, false, false, false, false, false, false, false, false, false, false] rfl rfl (by kernel_rfl) (fun c a w h => hp c a _ _ w h) (Or.inl ⟨by rfl, ?_⟩) ?_ ?_
    rotate_left
    · intro w'
      go_simp
      with_reducible rfl
    rotate_left
    · simp only [Act.put, List.setIfInBounds_toArray, List.set_cons_zero, List.set_cons_succ, i64_w, i32_w]
      rfl
    refine pure_ (i := 15) (N := some 187) (v := ?_) (a' := ?_) #[true, true, true, true, true, true, true, true, true, true, true, true, true, true, true, true, false, false, false, false, false, false, false, false, false, false, false, false, false, false, false, false, false, false, false, false, false, false, false, false, false, false, false] rfl rfl (by kernel_rfl) (fun c a w h => hp c a _ _ w h) (Or.inl ⟨by rfl, ?_⟩) ?_ ?_
    rotate_left
    · intro w'
      go_simp
      with_reducible rfl
    rotate_left
    · simp only [Act.put, List.setIfInBounds_toArray, List.set_cons_zero, List.set_cons_succ, i64_w, i32_w]
      rfl
    refine pure_ (i := 16) (N := some 188) (v := ?_) (a' := ?_) #[true, true, true, true, true, true, true, true, true, true, true, true, true, true, true, true, true, false, false, false, false, false, false, false, false, false, false, false, false, false, false, false, false, false, false, false, false, false, false, false, false, false, false] rfl rfl (by kernel_rfl) (fun c a w h => hp c a _ _ w h) (Or.inl ⟨by rfl, ?_⟩) ?_ ?_
    rotate_left
    · intro w'
      go_simp
      with_reducible rfl
    rotate_left
    · simp only [Act.put, List.setIfInBounds_toArray, List.set_cons_zero, List.set_cons_succ, i64_w, i32_w]
      rfl
    refine pure_ (i := 17) (N := some 189) (v := ?_) (a' := ?_) #[true, true, true, true, true, true, true, true, true, true, true, true, true, true, true, true, true, true, false, false, false, false, false, false, false, false, false, false, false, false, false, false, false, false, false, false, false, false, false, false, false, false, false] rfl rfl (by kernel_rfl) (fun c a w h => hp c a _ _ w h) (Or.inl ⟨by rfl, ?_⟩) ?_ ?_
    rotate_left
    · intro w'
      go_simp
      with_reducible rfl
    rotate_left
    · simp only [Act.put, List.setIfInBounds_toArray, List.set_cons_zero, List.set_cons_succ, i64_w, i32_w]
      rfl
    refine pure_ (i := 19) (N := some 191) (v := ?_) (a' := ?_) #[true, true, true, true, true, true, true, true, true, true, true, true, true, true, true, true, true, true, false, true, false, false, false, false, false, false, false, false, false, false, false, false, false, false, false, false, false, false, false, false, false, false, false] rfl rfl (by kernel_rfl) (fun c a w h => hp c a _ _ w h) (Or.inl ⟨by rfl, ?_⟩) ?_ ?_
    rotate_left
    · intro w'
      go_simp
      with_reducible rfl
    rotate_left
    · simp only [Act.put, List.setIfInBounds_toArray, List.set_cons_zero, List.set_cons_succ, i64_w, i32_w]
      rfl
    refine pure_ (i := 22) (N := some 194) (v := ?_) (a' := ?_) #[true, true, true, true, true, true, true, true, true, true, true, true, true, true, true, true, true, true, false, true, false, false, true, false, false, false, false, false, false, false, false, false, false, false, false, false, false, false, false, false, false, false, false] rfl rfl (by kernel_rfl) (fun c a w h => hp c a _ _ w h) (Or.inl ⟨by rfl, ?_⟩) ?_ ?_
    rotate_left
    · intro w'
      go_simp
      with_reducible rfl
    rotate_left
    · simp only [Act.put, List.setIfInBounds_toArray, List.set_cons_zero, List.set_cons_succ, i64_w, i32_w]
      rfl
    refine pure_ (i := 24) (N := some 196) (v := ?_) (a' := ?_) #[true, true, true, true, true, true, true, true, true, true, true, true, true, true, true, true, true, true, false, true, false, false, true, false, true, false, false, false, false, false, false, false, false, false, false, false, false, false, false, false, false, false, false] rfl rfl (by kernel_rfl) (fun c a w h => hp c a _ _ w h) (Or.inl ⟨by rfl, ?_⟩) ?_ ?_
    rotate_left
    · intro w'
      go_simp
      with_reducible rfl
    rotate_left
    · simp only [Act.put, List.setIfInBounds_toArray, List.set_cons_zero, List.set_cons_succ, i64_w, i32_w]
      rfl
    refine take_ (i := 18) (N := some 190) (v := ?_) (a' := ?_) #[true, true, true, true, true, true, true, true, true, true, true, true, true, true, true, true, true, true, true, true, false, false, true, false, true, false, false, false, false, false, false, false, false, false, false, false, false, false, false, false, false, false, false] rfl rfl (by kernel_rfl) (fun c a w h => hp c a _ _ w h) (Or.inl ⟨by rfl, ?_⟩) hHeld ?_ ?_
    rotate_left
    · rintro w' ⟨s0, s1, s2, s3, s4, s5, s6, s7, s8, s9, s10, s11, s12, s13, s14, s15, s16, s17, s18, s19, s20, s21, s22, s23, s24, s25, s26, s27, s28, s29, s30, s31, s32, s33, s34, s35⟩
      go_simp
      with_reducible rfl
    rotate_left
    · simp only [Act.put, List.setIfInBounds_toArray, List.set_cons_zero, List.set_cons_succ, i64_w, i32_w]
      rfl
    refine pure_ (i := 20) (N := some 192) (v := ?_) (a' := ?_) #[true, true, true, true, true, true, true, true, true, true, true, true, true, true, true, true, true, true, true, true, true, false, true, false, true, false, false, false, false, false, false, false, false, false, false, false, false, false, false, false, false, false, false] rfl rfl (by kernel_rfl) (fun c a w h => hp c a _ _ w h) (Or.inl ⟨by rfl, ?_⟩) ?_ ?_
    rotate_left
    · intro w'
      go_simp
      with_reducible rfl
    rotate_left
    · simp only [Act.put, List.setIfInBounds_toArray, List.set_cons_zero, List.set_cons_succ, i64_w, i32_w]
      rfl
    refine take_ (i := 21) (N := some 193) (v := ?_) (a' := ?_) #[true, true, true, true, true, true, true, true, true, true, true, true, true, true, true, true, true, true, true, true, true, true, true, false, true, false, false, false, false, false, false, false, false, false, false, false, false, false, false, false, false, false, false] rfl rfl (by kernel_rfl) (fun c a w h => hp c a _ _ w h) (Or.inl ⟨by rfl, ?_⟩) hHeld ?_ ?_
    rotate_left
    · rintro w' ⟨s0, s1, s2, s3, s4, s5, s6, s7, s8, s9, s10, s11, s12, s13, s14, s15, s16, s17, s18, s19, s20, s21, s22, s23, s24, s25, s26, s27, s28, s29, s30, s31, s32, s33, s34, s35⟩
      go_simp
      with_reducible rfl
    rotate_left
    · simp only [Act.put, List.setIfInBounds_toArray, List.set_cons_zero, List.set_cons_succ, i64_w, i32_w]
      rfl
    refine take_ (i := 23) (N := some 195) (v := ?_) (a' := ?_) #[true, true, true, true, true, true, true, true, true, true, true, true, true, true, true, true, true, true, true, true, true, true, true, true, true, false, false, false, false, false, false, false, false, false, false, false, false, false, false, false, false, false, false] rfl rfl (by kernel_rfl) (fun c a w h => hp c a _ _ w h) (Or.inl ⟨by rfl, ?_⟩) hHeld ?_ ?_
    rotate_left
    · rintro w' ⟨s0, s1, s2, s3, s4, s5, s6, s7, s8, s9, s10, s11, s12, s13, s14, s15, s16, s17, s18, s19, s20, s21, s22, s23, s24, s25, s26, s27, s28, s29, s30, s31, s32, s33, s34, s35⟩
      go_simp
      with_reducible rfl
    rotate_left
    · simp only [Act.put, List.setIfInBounds_toArray, List.set_cons_zero, List.set_cons_succ, i64_w, i32_w]
      rfl
    refine pure_ (i := 25) (N := some 197) (v := ?_) (a' := ?_) #[true, true, true, true, true, true, true, true, true, true, true, true, true, true, true, true, true, true, true, true, true, true, true, true, true, true, false, false, false, false, false, false, false, false, false, false, false, false, false, false, false, false, false] rfl rfl (by kernel_rfl) (fun c a w h => hp c a _ _ w h) (Or.inl ⟨by rfl, ?_⟩) ?_ ?_
    rotate_left
    · intro w'
      go_simp
      with_reducible rfl
    rotate_left
    · simp only [Act.put, List.setIfInBounds_toArray, List.set_cons_zero, List.set_cons_succ, i64_w, i32_w]
      rfl
    refine take_ (i := 26) (N := some 198) (v := ?_) (a' := ?_) #[true, true, true, true, true, true, true, true, true, true, true, true, true, true, true, true, true, true, true, true, true, true, true, true, true, true, true, false, false, false, false, false, false, false, false, false, false, false, false, false, false, false, false] rfl rfl (by kernel_rfl) (fun c a w h => hp c a _ _ w h) (Or.inl ⟨by rfl, ?_⟩) hHeld ?_ ?_
    rotate_left
    · rintro w' ⟨s0, s1, s2, s3, s4, s5, s6, s7, s8, s9, s10, s11, s12, s13, s14, s15, s16, s17, s18, s19, s20, s21, s22, s23, s24, s25, s26, s27, s28, s29, s30, s31, s32, s33, s34, s35⟩
      go_simp
      with_reducible rfl
    rotate_left
    · simp only [Act.put, List.setIfInBounds_toArray, List.set_cons_zero, List.set_cons_succ, i64_w, i32_w]
      rfl
    refine pure_ (i := 27) (N := some 199) (v := ?_) (a' := ?_) #[true, true, true, true, true, true, true, true, true, true, true, true, true, true, true, true, true, true, true, true, true, true, true, true, true, true, true, true, false, false, false, false, false, false, false, false, false, false, false, false, false, false, false] rfl rfl (by kernel_rfl) (fun c a w h => hp c a _ _ w h) (Or.inl ⟨by rfl, ?_⟩) ?_ ?_
    rotate_left
    · intro w'
      go_simp
      with_reducible rfl
    rotate_left
    · simp only [Act.put, List.setIfInBounds_toArray, List.set_cons_zero, List.set_cons_succ, i64_w, i32_w]
      rfl
    refine pure_ (i := 28) (N := some 200) (v := ?_) (a' := ?_) #[true, true, true, true, true, true, true, true, true, true, true, true, true, true, true, true, true, true, true, true, true, true, true, true, true, true, true, true, true, false, false, false, false, false, false, false, false, false, false, false, false, false, false] rfl rfl (by kernel_rfl) (fun c a w h => hp c a _ _ w h) (Or.inl ⟨by rfl, ?_⟩) ?_ ?_
    rotate_left
    · intro w'
      go_simp
      with_reducible rfl
    rotate_left
    · simp only [Act.put, List.setIfInBounds_toArray, List.set_cons_zero, List.set_cons_succ, i64_w, i32_w]
      rfl
    refine pure_ (i := 29) (N := some 201) (v := ?_) (a' := ?_) #[true, true, true, true, true, true, true, true, true, true, true, true, true, true, true, true, true, true, true, true, true, true, true, true, true, true, true, true, true, true, false, false, false, false, false, false, false, false, false, false, false, false, false] rfl rfl (by kernel_rfl) (fun c a w h => hp c a _ _ w h) (Or.inl ⟨by rfl, ?_⟩) ?_ ?_
    rotate_left
    · intro w'
      go_simp
      with_reducible rfl
    rotate_left
    · simp only [Act.put, List.setIfInBounds_toArray, List.set_cons_zero, List.set_cons_succ, i64_w, i32_w]
      rfl
    refine pure_ (i := 31) (N := some 203) (v := ?_) (a' := ?_) #[true, true, true, true, true, true, true, true, true, true, true, true, true, true, true, true, true, true, true, true, true, true, true, true, true, true, true, true, true, true, false, true, false, false, false, false, false, false, false, false, false, false, false] rfl rfl (by kernel_rfl) (fun c a w h => hp c a _ _ w h) (Or.inl ⟨by rfl, ?_⟩) ?_ ?_
    rotate_left
    · intro w'
      go_simp
      with_reducible rfl
    rotate_left
    · simp only [Act.put, List.setIfInBounds_toArray, List.set_cons_zero, List.set_cons_succ, i64_w, i32_w]
      rfl
    refine pure_ (i := 34) (N := some 206) (v := ?_) (a' := ?_) #[true, true, true, true, true, true, true, true, true, true, true, true, true, true, true, true, true, true, true, true, true, true, true, true, true, true, true, true, true, true, false, true, false, false, true, false, false, false, false, false, false, false, false] rfl rfl (by kernel_rfl) (fun c a w h => hp c a _ _ w h) (Or.inl ⟨by rfl, ?_⟩) ?_ ?_
    rotate_left
    · intro w'
      go_simp
      with_reducible rfl
    rotate_left
    · simp only [Act.put, List.setIfInBounds_toArray, List.set_cons_zero, List.set_cons_succ, i64_w, i32_w]
      rfl
    refine pure_ (i := 36) (N := some 208) (v := ?_) (a' := ?_) #[true, true, true, true, true, true, true, true, true, true, true, true, true, true, true, true, true, true, true, true, true, true, true, true, true, true, true, true, true, true, false, true, false, false, true, false, true, false, false, false, false, false, false] rfl rfl (by kernel_rfl) (fun c a w h => hp c a _ _ w h) (Or.inl ⟨by rfl, ?_⟩) ?_ ?_
    rotate_left
    · intro w'
      go_simp
      with_reducible rfl
    rotate_left
    · simp only [Act.put, List.setIfInBounds_toArray, List.set_cons_zero, List.set_cons_succ, i64_w, i32_w]
      rfl
    refine take_ (i := 30) (N := some 202) (v := ?_) (a' := ?_) #[true, true, true, true, true, true, true, true, true, true, true, true, true, true, true, true, true, true, true, true, true, true, true, true, true, true, true, true, true, true, true, true, false, false, true, false, true, false, false, false, false, false, false] rfl rfl (by kernel_rfl) (fun c a w h => hp c a _ _ w h) (Or.inl ⟨by rfl, ?_⟩) hHeld ?_ ?_
    rotate_left
    · rintro w' ⟨s0, s1, s2, s3, s4, s5, s6, s7, s8, s9, s10, s11, s12, s13, s14, s15, s16, s17, s18, s19, s20, s21, s22, s23, s24, s25, s26, s27, s28, s29, s30, s31, s32, s33, s34, s35⟩
      go_simp
      with_reducible rfl
    rotate_left
    · simp only [Act.put, List.setIfInBounds_toArray, List.set_cons_zero, List.set_cons_succ, i64_w, i32_w]
      rfl
    refine pure_ (i := 32) (N := some 204) (v := ?_) (a' := ?_) #[true, true, true, true, true, true, true, true, true, true, true, true, true, true, true, true, true, true, true, true, true, true, true, true, true, true, true, true, true, true, true, true, true, false, true, false, true, false, false, false, false, false, false] rfl rfl (by kernel_rfl) (fun c a w h => hp c a _ _ w h) (Or.inl ⟨by rfl, ?_⟩) ?_ ?_
    rotate_left
    · intro w'
      go_simp
      with_reducible rfl
    rotate_left
    · simp only [Act.put, List.setIfInBounds_toArray, List.set_cons_zero, List.set_cons_succ, i64_w, i32_w]
      rfl
    refine take_ (i := 33) (N := some 205) (v := ?_) (a' := ?_) #[true, true, true, true, true, true, true, true, true, true, true, true, true, true, true, true, true, true, true, true, true, true, true, true, true, true, true, true, true, true, true, true, true, true, true, false, true, false, false, false, false, false, false] rfl rfl (by kernel_rfl) (fun c a w h => hp c a _ _ w h) (Or.inl ⟨by rfl, ?_⟩) hHeld ?_ ?_
    rotate_left
    · rintro w' ⟨s0, s1, s2, s3, s4, s5, s6, s7, s8, s9, s10, s11, s12, s13, s14, s15, s16, s17, s18, s19, s20, s21, s22, s23, s24, s25, s26, s27, s28, s29, s30, s31, s32, s33, s34, s35⟩
      go_simp
      with_reducible rfl
    rotate_left
    · simp only [Act.put, List.setIfInBounds_toArray, List.set_cons_zero, List.set_cons_succ, i64_w, i32_w]
      rfl
    refine take_ (i := 35) (N := some 207) (v := ?_) (a' := ?_) #[true, true, true, true, true, true, true, true, true, true, true, true, true, true, true, true, true, true, true, true, true, true, true, true, true, true, true, true, true, true, true, true, true, true, true, true, true, false, false, false, false, false, false] rfl rfl (by kernel_rfl) (fun c a w h => hp c a _ _ w h) (Or.inl ⟨by rfl, ?_⟩) hHeld ?_ ?_
    rotate_left
    · rintro w' ⟨s0, s1, s2, s3, s4, s5, s6, s7, s8, s9, s10, s11, s12, s13, s14, s15, s16, s17, s18, s19, s20, s21, s22, s23, s24, s25, s26, s27, s28, s29, s30, s31, s32, s33, s34, s35⟩
      go_simp
      with_reducible rfl
    rotate_left
    · simp only [Act.put, List.setIfInBounds_toArray, List.set_cons_zero, List.set_cons_succ, i64_w, i32_w]
      rfl
    refine pure_ (i := 37) (N := some 209) (v := ?_) (a' := ?_) #[true, true, true, true, true, true, true, true, true, true, true, true, true, true, true, true, true, true, true, true, true, true, true, true, true, true, true, true, true, true, true, true, true, true, true, true, true, true, false, false, false, false, false] rfl rfl (by kernel_rfl) (fun c a w h => hp c a _ _ w h) (Or.inl ⟨by rfl, ?_⟩) ?_ ?_
    rotate_left
    · intro w'
      go_simp
      with_reducible rfl
    rotate_left
    · simp only [Act.put, List.setIfInBounds_toArray, List.set_cons_zero, List.set_cons_succ, i64_w, i32_w]
      rfl
    refine take_ (i := 38) (N := some 210) (v := ?_) (a' := ?_) #[true, true, true, true, true, true, true, true, true, true, true, true, true, true, true, true, true, true, true, true, true, true, true, true, true, true, true, true, true, true, true, true, true, true, true, true, true, true, true, false, false, false, false] rfl rfl (by kernel_rfl) (fun c a w h => hp c a _ _ w h) (Or.inl ⟨by rfl, ?_⟩) hHeld ?_ ?_
    rotate_left
    · rintro w' ⟨s0, s1, s2, s3, s4, s5, s6, s7, s8, s9, s10, s11, s12, s13, s14, s15, s16, s17, s18, s19, s20, s21, s22, s23, s24, s25, s26, s27, s28, s29, s30, s31, s32, s33, s34, s35⟩
      go_simp
      with_reducible rfl
    rotate_left
    · simp only [Act.put, List.setIfInBounds_toArray, List.set_cons_zero, List.set_cons_succ, i64_w, i32_w]
      rfl
    refine pure_ (i := 39) (N := some 211) (v := ?_) (a' := ?_) #[true, true, true, true, true, true, true, true, true, true, true, true, true, true, true, true, true, true, true, true, true, true, true, true, true, true, true, true, true, true, true, true, true, true, true, true, true, true, true, true, false, false, false] rfl rfl (by kernel_rfl) (fun c a w h => hp c a _ _ w h) (Or.inl ⟨by rfl, ?_⟩) ?_ ?_
    rotate_left
    · intro w'
      go_simp
      with_reducible rfl
    rotate_left
    · simp only [Act.put, List.setIfInBounds_toArray, List.set_cons_zero, List.set_cons_succ, i64_w, i32_w]
      rfl
    refine pure_ (i := 40) (N := some 212) (v := ?_) (a' := ?_) #[true, true, true, true, true, true, true, true, true, true, true, true, true, true, true, true, true, true, true, true, true, true, true, true, true, true, true, true, true, true, true, true, true, true, true, true, true, true, true, true, true, false, false] rfl rfl (by kernel_rfl) (fun c a w h => hp c a _ _ w h) (Or.inl ⟨by rfl, ?_⟩) ?_ ?_
    rotate_left
    · intro w'
      go_simp
      with_reducible rfl
    rotate_left
    · simp only [Act.put, List.setIfInBounds_toArray, List.set_cons_zero, List.set_cons_succ, i64_w, i32_w]
      rfl
    refine pure_ (i := 41) (N := some 213) (v := ?_) (a' := ?_) #[true, true, true, true, true, true, true, true, true, true, true, true, true, true, true, true, true, true, true, true, true, true, true, true, true, true, true, true, true, true, true, true, true, true, true, true, true, true, true, true, true, true, false] rfl rfl (by kernel_rfl) (fun c a w h => hp c a _ _ w h) (Or.inl ⟨by rfl, ?_⟩) ?_ ?_
    rotate_left
    · intro w'
      go_simp
      with_reducible rfl
    rotate_left
    · simp only [Act.put, List.setIfInBounds_toArray, List.set_cons_zero, List.set_cons_succ, i64_w, i32_w]
      rfl
    refine pure_ (i := 42) (N := some 214) (v := ?_) (a' := ?_) #[true, true, true, true, true, true, true, true, true, true, true, true, true, true, true, true, true, true, true, true, true, true, true, true, true, true, true, true, true, true, true, true, true, true, true, true, true, true, true, true, true, true, true] rfl rfl (by kernel_rfl) (fun c a w h => hp c a _ _ w h) (Or.inl ⟨by rfl, ?_⟩) ?_ ?_
    rotate_left
    · intro w'
      go_simp
      with_reducible rfl
    rotate_left
    · simp only [Act.put, List.setIfInBounds_toArray, List.set_cons_zero, List.set_cons_succ, i64_w, i32_w]
      rfl
    refine done_ (by kernel_rfl) ?_
    go_wp2
    exact HQ.out _ _ _ _ _ _ _ _ _ _ _ _ _ _ _ _ _ _ _ _ _ _ _ _ _ _ _ _ _ _ _ _ _ _ _ _ _ _ _ _ _ _ _ H5
end Go.Proofs.Ytdcbacbilncnnaa.T
end
section
/- BlockBodies, walked: written by wip/gensplit.py. -/
set_option linter.unusedVariables false
set_option linter.unusedSimpArgs false
namespace Go.Proofs.Ytdcbacbilncnnaa.T
open Go.RowKit Go.Proofs.Ytdcbacbilncnnaa.PMk Go.Proofs.Ytdcbacbilncnnaa.M Go.Proofs.Ytdcbacbilncnnaa.EncL Go.Proofs.YtdcbacbilncnnaaW.PrintWords Go.Proofs.YtdcbacbilncnnaaW.PrintLast
attribute [local go_sem ↓] eqA44 eqA47
set_option maxRecDepth 1000000 in
set_option maxHeartbeats 40000000 in
theorem bodies_r19 {a0 : Int} {a1 : ByteArray} {a2 : Int} {A Am Ac Ad : Option Addr} {c cm cc cd n : Nat} {L Lc Ld : List S47} {body : ByteArray} {w wc : World} {g7 g8 g10 g12 : Nat} {k : Int} {mb wb ob : Bool} {ew eo : Int} {u0 u1 u3 u4 u5 u6 u17 u18 u19 u20 u21 u22 u23 u24 u25 u26 u27 u28 u29 u30 u31 u32 u33 u34 u35 u36 u37 u38 u39 u40 u41 u42 u43 u44 u45 u46 u47 u48 u49 u50 u51 u52 u53 u54 u55 u56 u57 u58 u59 u60 u61 u62 u63 u64 u65 u66 u67 u68 u69 u70 u71 u72 u73 u74 u75 u76 u77 u78 u79 u80 u81 u82 u83 u84 u85 u86 u87 u88 u89 u90 u91 u92 u93 u94 u95 u96 u97 u98 u99 u100 u101 u102 u103 u104 u105 u106 u107 u108 u109 u110 u111 u112 u113 u114 u115 u116 u117 u118 u119 u120 u121 u122 u123 u124 u125 u126 u127 u128 u129 u130 u131 u132 u133 u134 u135 u136 u137 u138 u139 u140 u141 u142 u143 u144 u145 u146 u147 u148 u149 u150 u151 u152 u153 u154 u155 u156 u157 u158 u159 u160 u161 u162 u163 u164 u165 u166 u167 u168 u169 u170 u171 u172 u173 u174 u175 u176 u177 u178 u179 u180 u181 u182 u183 u184 u185 u186 u187 u188 u189 u190 u191 u192 u193 u194 u195 u196 u197 u198 u199 u200 u201 u202 u203 u204 u205 u206 u207 u208 u209 u210 u211 u212 u213 u214 u215 u216 u217 u218 u219 u220 u221 u222 u223 u224 u225 u226 u227 u228 u229 u230 u231 u232 u233 u234 u235 u236 u237 u238 u239 u240 u241 u242 u243 u244 u245 u246 u247 u248 u249 u250 u251 u252 u253 u254 u255 u256 : Value} {Q : Exit → Act → World → Prop} (hp : ∀ c a v d w, Q (.panic c) (a.put d v) w → Q (.panic c) a w) (HLN : Hid (L.length = n)) (HLc : Hid (Lw L k body = Lc)) (HLd : Hid (Lo L k = Ld)) (HWB : Hid (wi L k body (leaf body) = wb)) (HOB : Hid (wo L k = ob)) (H : Hid (B2 w wc g7 g8 g10 g12 a0 a1 a2 A Am Ac Ad n c cm cc cd L Lc Ld)) (hQ : ∀ (v215 v216 v217 v218 v219 v220 v221 v222 v223 v224 v225 v226 v227 v228 v229 v230 v231 v232 v233 v234 v235 v236 v237 v238 v239 v240 v241 v242 v243 v244 v245 v246 v247 v248 v249 v250 v251 v252 v253 v254 v255 v256 : Value) (wx : World), Below w.heap.size w wx → Q .normal ⟨List.toArray (u0 :: u1 :: .string body :: u3 :: u4 :: u5 :: (.bool true) :: .pointer (some ⟨g7, 0, none⟩) :: .pointer (some ⟨g8, 0, none⟩) :: .int .i64 k :: .pointer (some ⟨g10, 0, none⟩) :: .int .i64 ew :: .pointer (some ⟨g12, 0, none⟩) :: .int .i64 eo :: .bool mb :: .bool wb :: .bool ob :: u17 :: u18 :: u19 :: u20 :: u21 :: u22 :: u23 :: u24 :: u25 :: u26 :: u27 :: u28 :: u29 :: u30 :: u31 :: u32 :: u33 :: u34 :: u35 :: u36 :: u37 :: u38 :: u39 :: u40 :: u41 :: u42 :: u43 :: u44 :: u45 :: u46 :: u47 :: u48 :: u49 :: u50 :: u51 :: u52 :: u53 :: u54 :: u55 :: u56 :: u57 :: u58 :: u59 :: u60 :: u61 :: u62 :: u63 :: u64 :: u65 :: u66 :: u67 :: u68 :: u69 :: u70 :: u71 :: u72 :: u73 :: u74 :: u75 :: u76 :: u77 :: u78 :: u79 :: u80 :: u81 :: u82 :: u83 :: u84 :: u85 :: u86 :: u87 :: u88 :: u89 :: u90 :: u91 :: u92 :: u93 :: u94 :: u95 :: u96 :: u97 :: u98 :: u99 :: u100 :: u101 :: u102 :: u103 :: u104 :: u105 :: u106 :: u107 :: u108 :: u109 :: u110 :: u111 :: u112 :: u113 :: u114 :: u115 :: u116 :: u117 :: u118 :: u119 :: u120 :: u121 :: u122 :: u123 :: u124 :: u125 :: u126 :: u127 :: u128 :: u129 :: u130 :: u131 :: u132 :: u133 :: u134 :: u135 :: u136 :: u137 :: u138 :: u139 :: u140 :: u141 :: u142 :: u143 :: u144 :: u145 :: u146 :: u147 :: u148 :: u149 :: u150 :: u151 :: u152 :: u153 :: u154 :: u155 :: u156 :: u157 :: u158 :: u159 :: u160 :: u161 :: u162 :: u163 :: u164 :: u165 :: u166 :: u167 :: u168 :: u169 :: u170 :: u171 :: u172 :: u173 :: u174 :: u175 :: u176 :: u177 :: u178 :: u179 :: u180 :: u181 :: u182 :: u183 :: u184 :: u185 :: u186 :: u187 :: u188 :: u189 :: u190 :: u191 :: u192 :: u193 :: u194 :: u195 :: u196 :: u197 :: u198 :: u199 :: u200 :: u201 :: u202 :: u203 :: u204 :: u205 :: u206 :: u207 :: u208 :: u209 :: u210 :: u211 :: u212 :: u213 :: u214 :: v215 :: v216 :: v217 :: v218 :: v219 :: v220 :: v221 :: v222 :: v223 :: v224 :: v225 :: v226 :: v227 :: v228 :: v229 :: v230 :: v231 :: v232 :: v233 :: v234 :: v235 :: v236 :: v237 :: v238 :: v239 :: v240 :: v241 :: v242 :: v243 :: v244 :: v245 :: v246 :: v247 :: v248 :: v249 :: v250 :: v251 :: v252 :: v253 :: v254 :: v255 :: v256 :: []), []⟩ wx) :
    ∀ {C : Code}, rg 19 = C → Code.wp Try.prog C Q ⟨List.toArray (u0 :: u1 :: .string body :: u3 :: u4 :: u5 :: u6 :: .pointer (some ⟨g7, 0, none⟩) :: .pointer (some ⟨g8, 0, none⟩) :: .int .i64 k :: .pointer (some ⟨g10, 0, none⟩) :: .int .i64 ew :: .pointer (some ⟨g12, 0, none⟩) :: .int .i64 eo :: .bool mb :: .bool wb :: .bool ob :: u17 :: u18 :: u19 :: u20 :: u21 :: u22 :: u23 :: u24 :: u25 :: u26 :: u27 :: u28 :: u29 :: u30 :: u31 :: u32 :: u33 :: u34 :: u35 :: u36 :: u37 :: u38 :: u39 :: u40 :: u41 :: u42 :: u43 :: u44 :: u45 :: u46 :: u47 :: u48 :: u49 :: u50 :: u51 :: u52 :: u53 :: u54 :: u55 :: u56 :: u57 :: u58 :: u59 :: u60 :: u61 :: u62 :: u63 :: u64 :: u65 :: u66 :: u67 :: u68 :: u69 :: u70 :: u71 :: u72 :: u73 :: u74 :: u75 :: u76 :: u77 :: u78 :: u79 :: u80 :: u81 :: u82 :: u83 :: u84 :: u85 :: u86 :: u87 :: u88 :: u89 :: u90 :: u91 :: u92 :: u93 :: u94 :: u95 :: u96 :: u97 :: u98 :: u99 :: u100 :: u101 :: u102 :: u103 :: u104 :: u105 :: u106 :: u107 :: u108 :: u109 :: u110 :: u111 :: u112 :: u113 :: u114 :: u115 :: u116 :: u117 :: u118 :: u119 :: u120 :: u121 :: u122 :: u123 :: u124 :: u125 :: u126 :: u127 :: u128 :: u129 :: u130 :: u131 :: u132 :: u133 :: u134 :: u135 :: u136 :: u137 :: u138 :: u139 :: u140 :: u141 :: u142 :: u143 :: u144 :: u145 :: u146 :: u147 :: u148 :: u149 :: u150 :: u151 :: u152 :: u153 :: u154 :: u155 :: u156 :: u157 :: u158 :: u159 :: u160 :: u161 :: u162 :: u163 :: u164 :: u165 :: u166 :: u167 :: u168 :: u169 :: u170 :: u171 :: u172 :: u173 :: u174 :: u175 :: u176 :: u177 :: u178 :: u179 :: u180 :: u181 :: u182 :: u183 :: u184 :: u185 :: u186 :: u187 :: u188 :: u189 :: u190 :: u191 :: u192 :: u193 :: u194 :: u195 :: u196 :: u197 :: u198 :: u199 :: u200 :: u201 :: u202 :: u203 :: u204 :: u205 :: u206 :: u207 :: u208 :: u209 :: u210 :: u211 :: u212 :: u213 :: u214 :: u215 :: u216 :: u217 :: u218 :: u219 :: u220 :: u221 :: u222 :: u223 :: u224 :: u225 :: u226 :: u227 :: u228 :: u229 :: u230 :: u231 :: u232 :: u233 :: u234 :: u235 :: u236 :: u237 :: u238 :: u239 :: u240 :: u241 :: u242 :: u243 :: u244 :: u245 :: u246 :: u247 :: u248 :: u249 :: u250 :: u251 :: u252 :: u253 :: u254 :: u255 :: u256 :: []), []⟩ wc := by
  rintro _ rfl
  have HQ := Lib.hid hQ
  clear hQ
  have hB := H.out.h.b
  conv => arg 2; whnf
  have hwb := HWB.out
  have hob := HOB.out
  clear HWB HOB
  cases wb with
  | true =>
    obtain ⟨h0, h1'⟩ := wi_range hwb
    rw [HLN.out] at h1'
    obtain ⟨ac, hA, _, _, _, _, _, _, hx6, hx7⟩ := at_T47 H.out.kc k h0 h1'
    rw [← HLc.out, Lw_eq hwb] at hx6 hx7
    unfold dressed at hx6 hx7
    dsimp only at hx6 hx7
    subst hA
    have q10 := (blk_cell H.out.g10 3).trans rfl
    have hz0 : decide (k < 0) = false := decide_eq_false (by omega)
    have hz1 : decide ((n : Int) ≤ k) = false := decide_eq_false (by omega)
    cases ob with
    | true =>
      obtain ⟨ao, hA, _, _, _, _, _, _, hy6, hy7⟩ := at_T47 H.out.kd k h0 h1'
      rw [← HLd.out, Lo_eq hob] at hy6 hy7
      unfold bare at hy6 hy7
      dsimp only at hy6 hy7
      subst hA
      have q12 := (blk_cell H.out.g12 3).trans rfl
      clear hwb hob
      go_wp2_with fail
      exact HQ.out _ _ _ _ _ _ _ _ _ _ _ _ _ _ _ _ _ _ _ _ _ _ _ _ _ _ _ _ _ _ _ _ _ _ _ _ _ _ _ _ _ _ _ hB
    | false =>
      clear hwb hob
      go_wp2_with fail
      exact HQ.out _ _ _ _ _ _ _ _ _ _ _ _ _ _ _ _ _ _ _ _ _ _ _ _ _ _ _ _ _ _ _ _ _ _ _ _ _ _ _ _ _ _ _ hB
  | false =>
    cases ob with
    | true =>
      obtain ⟨h0, h1'⟩ := wo_range hob
      rw [HLN.out] at h1'
      have hz0 : decide (k < 0) = false := decide_eq_false (by omega)
      have hz1 : decide ((n : Int) ≤ k) = false := decide_eq_false (by omega)
      obtain ⟨ao, hA, _, _, _, _, _, _, hy6, hy7⟩ := at_T47 H.out.kd k h0 h1'
      rw [← HLd.out, Lo_eq hob] at hy6 hy7
      unfold bare at hy6 hy7
      dsimp only at hy6 hy7
      subst hA
      have q12 := (blk_cell H.out.g12 3).trans rfl
      clear hwb hob
      go_wp2_with fail
      exact HQ.out _ _ _ _ _ _ _ _ _ _ _ _ _ _ _ _ _ _ _ _ _ _ _ _ _ _ _ _ _ _ _ _ _ _ _ _ _ _ _ _ _ _ _ hB
    | false =>
      clear hwb hob
      go_wp2_with fail
      exact HQ.out _ _ _ _ _ _ _ _ _ _ _ _ _ _ _ _ _ _ _ _ _ _ _ _ _ _ _ _ _ _ _ _ _ _ _ _ _ _ _ _ _ _ _ hB
end Go.Proofs.Ytdcbacbilncnnaa.T
end
section
/- BlockBodies, walked: written by wip/gensplit.py. -/
set_option linter.unusedVariables false
set_option linter.unusedSimpArgs false
namespace Go.Proofs.Ytdcbacbilncnnaa.T
open Go.RowKit Go.Proofs.Ytdcbacbilncnnaa.PMk Go.Proofs.Ytdcbacbilncnnaa.M Go.Proofs.Ytdcbacbilncnnaa.EncL Go.Proofs.YtdcbacbilncnnaaW.PrintWords Go.Proofs.YtdcbacbilncnnaaW.PrintLast
set_option maxRecDepth 1000000 in
set_option maxHeartbeats 40000000 in
theorem bodies_raw (a0 : Int) (a1 : ByteArray) (a2 : Int) (A : Option Addr) (c : Nat) (l : List S47) (at_ : Int) (body : ByteArray) (w : World) (hC : Kd.C k47 w A l.length l) (hc : l.length ≤ c) (g : FitsB a0 a1 a2 (l.take 66)) (hs : body.size < 1152921504606846000) :
    Calls Try.prog 4 #[.agg #[.int .u64 a0, .string a1, .int .u64 a2, .slice A l.length c], .int .i64 at_, .string body] w fun e w' => e = .returned (.bool true) ∧ Below w.heap.size w w' := by
  have HBl := Lib.hid (fun w' hb => block_v a0 a1 a2 A c l w' (Kd.C_below hC hb) hc)
  have HG := Lib.hid g
  have hn : (l.take 66).length ≤ 66 := by rw [List.length_take]; omega
  have hnc : (l.take 66).length ≤ c := by rw [List.length_take]; omega
  generalize l.length = len at HBl ⊢
  clear hC hc
  generalize l.take 66 = L at HBl HG g hn hnc
  clear g
  obtain ⟨n, hln⟩ : ∃ n, L.length = n := ⟨_, rfl⟩
  rw [hln] at HBl hn hnc
  have HLN := Lib.hid hln
  clear hln
  have HB0 := Lib.hid ((Below.refl w.heap.size w).alloc (Nat.le_refl _) (.cells #[.int .u64 a0, .string a1, .int .u64 a2, .slice A len c] 25))
  go_enter Try.func4, Try.ntmps4
  go_upto_region 2 with (go_at_call 10; refine (HBl.out _ HB0.out).mono ?_; rintro e w1 ⟨Am, cm, rfl, hkb, hkm, hb⟩; have HKB := Lib.hid hkb; have HKM := Lib.hid hkm; have HB1 := Lib.hid (HB0.out.trans (hb.mono HB0.out.size)); clear hkb hkm hb)
  have HQ : Hid (B1 w _ w1.heap.size (w1.heap.size + 1) a0 a1 a2 A Am n c cm L) := Lib.hid ⟨blk_alloc (heap_alloc_new w1 (.cells #[.int .u64 a0, .string a1, .int .u64 a2, .slice A n c] 25 (0, 0))) (.cells #[.int .u64 a0, .string a1, .int .u64 a2, .slice Am n cm] 28 (0, 0)), by simpa using heap_alloc_new (w1.alloc (.cells #[.int .u64 a0, .string a1, .int .u64 a2, .slice A n c] 25 (0, 0))) _,
    Kd.C_below HKB.out (((Below.refl _ _).alloc (Nat.le_refl _) _).alloc (by simp) _), Kd.C_below HKM.out (((Below.refl _ _).alloc (Nat.le_refl _) _).alloc (by simp) _), (HB1.out.alloc HB1.out.size _).alloc (by have := HB1.out.size; simp; omega) _⟩
  clear HKB HKM HB1 HB0 HBl
  generalize World.alloc (World.alloc _ _) _ = W at HQ ⊢
  generalize w1.heap.size + 1 = g8 at HQ ⊢
  generalize w1.heap.size = g7 at HQ ⊢
  have HWA := Lib.hid (fun k w' hC => with_any a0 a1 a2 A c n L k body w' HLN.out hC (by omega) hs)
  have HOA := Lib.hid (fun k w' hC => without_any a0 a1 a2 A c n L k w' HLN.out hC hnc (by omega))
  have b0 : W.cell? ⟨g7, 0, none⟩ = some (.int .u64 a0) := (blk_cell HQ.out.g7 0).trans rfl
  have b1 : W.cell? ⟨g7, 1, none⟩ = some (.string a1) := (blk_cell HQ.out.g7 1).trans rfl
  have b2 : W.cell? ⟨g7, 2, none⟩ = some (.int .u64 a2) := (blk_cell HQ.out.g7 2).trans rfl
  have b3 : W.cell? ⟨g7, 3, none⟩ = some (.slice A n c) := (blk_cell HQ.out.g7 3).trans rfl
  go_upto_region 3 with fail
  go_cut [31] (fun v31 wc => wc = W ∧ ∃ b : Bool, v31 = .bool b ∧ (b = true → 0 < n))
  case first =>
    as_aux_lemma =>
    by_cases h1 : (0 : Int) < (n : Int)
    · have hd1 : decide ((0 : Int) < (n : Int)) = true := decide_eq_true h1
      by_cases h2 : (0 : Int) ≤ at_
      · have hd2 : decide ((0 : Int) ≤ at_) = true := decide_eq_true h2
        go_wp2_with fail
        go_meet
        case rel => exact ⟨rfl, true, rfl, fun _ => by omega⟩
      · have hd2 : decide ((0 : Int) ≤ at_) = false := decide_eq_false h2
        go_wp2_with fail
        go_meet
        case rel => exact ⟨rfl, false, rfl, fun h => by cases h⟩
    · have hd1 : decide ((0 : Int) < (n : Int)) = false := decide_eq_false h1
      go_wp2_with fail
      go_meet
      case rel => exact ⟨rfl, false, rfl, fun h => by cases h⟩
  case rest =>
    as_aux_lemma =>
    obtain ⟨rfl, bb, rfl, hbb⟩ := hcut
    go_upto_if 31 with fail
    go_cut [9] (fun v9 wx => wx = wc ∧ ∃ k : Int, v9 = .int .i64 k)
    case first =>
      as_aux_lemma =>
      cases bb with
      | true =>
        have hpos := hbb rfl
        have hne : ¬ ((n : Int) + 1 = 0) := by omega
        have hw1 : IntKind.i64.wrap ((n : Int) + 1) = (n : Int) + 1 := by rw [i64_w, wrap64_in _ (by omega) (by omega)]
        go_wp2_with fail
        go_meet
        case rel => exact ⟨rfl, _, rfl⟩
      | false =>
        go_wp2_with fail
        go_meet
        case rel => exact ⟨rfl, _, rfl⟩
    case rest =>
      as_aux_lemma =>
      obtain ⟨rfl, k, rfl⟩ := hcut
      go_upto_region 6 with (go_at_call 18; refine (HWA.out k _ HQ.out.kb).mono ?_; rintro e w2 ⟨Ac, cc, rfl, hkc, hb⟩; have HKC := Lib.hid hkc; have HQ2 := Lib.hid (HQ.out.below hb); clear hkc hb)
      obtain ⟨ew, hew⟩ : ∃ e : Int, (if wi L k body (leaf body) = true then (0 : Int) else 1) = e := ⟨_, rfl⟩
      rw [hew]
      have HEW := Lib.hid hew
      have HKC' : Hid (Kd.C k47 w2 Ac n (Lw L k body)) := HKC
      have HQ3 : Hid (B1 w (w2.alloc (.cells #[.int .u64 a0, .string a1, .int .u64 a2, .slice Ac n cc] 25)) g7 g8 a0 a1 a2 A Am n c cm L) := Lib.hid (HQ2.out.below ((Below.refl _ _).alloc (Nat.le_refl _) _))
      have HX10 := Lib.hid (heap_alloc_new w2 (.cells #[.int .u64 a0, .string a1, .int .u64 a2, .slice Ac n cc] 25 (0, 0)))
      have HKC2 := Lib.hid (Kd.C_below HKC'.out ((Below.refl _ _).alloc (Nat.le_refl _) (.cells #[.int .u64 a0, .string a1, .int .u64 a2, .slice Ac n cc] 25 (0, 0))))
      clear hew b0 b1 b2 b3 HKC HKC' HQ2 HQ HWA
      generalize w2.alloc (.cells #[.int .u64 a0, .string a1, .int .u64 a2, .slice Ac n cc] 25) = W3 at HQ3 HX10 HKC2 ⊢
      generalize w2.heap.size = g10 at HX10 ⊢
      have b0 : W3.cell? ⟨g7, 0, none⟩ = some (.int .u64 a0) := (blk_cell HQ3.out.g7 0).trans rfl
      have b1 : W3.cell? ⟨g7, 1, none⟩ = some (.string a1) := (blk_cell HQ3.out.g7 1).trans rfl
      have b2 : W3.cell? ⟨g7, 2, none⟩ = some (.int .u64 a2) := (blk_cell HQ3.out.g7 2).trans rfl
      have b3 : W3.cell? ⟨g7, 3, none⟩ = some (.slice A n c) := (blk_cell HQ3.out.g7 3).trans rfl
      go_upto_region 7 with (go_at_call 19; refine (HOA.out k _ HQ3.out.kb).mono ?_; rintro e w4 ⟨Ad, cd, rfl, hkd, hb⟩; have HKD := Lib.hid hkd; have HQ4 := Lib.hid (HQ3.out.below hb); have HX4 := Lib.hid (blk_below HX10.out hb); have HKC4 := Lib.hid (Kd.C_below HKC2.out hb); clear hkd hb)
      obtain ⟨eo, heo⟩ : ∃ e : Int, (if wo L k = true then (0 : Int) else 1) = e := ⟨_, rfl⟩
      rw [heo]
      have HEO := Lib.hid heo
      have HKD' : Hid (Kd.C k47 w4 Ad n (Lo L k)) := HKD
      have H : Hid (B2 w _ g7 g8 g10 w4.heap.size a0 a1 a2 A Am Ac Ad n c cm cc cd L (Lw L k body) (Lo L k)) :=
        Lib.hid ⟨HQ4.out.below ((Below.refl _ _).alloc (Nat.le_refl _) (.cells #[.int .u64 a0, .string a1, .int .u64 a2, .slice Ad n cd] 25 (0, 0))), blk_alloc HX4.out _, heap_alloc_new w4 _, Kd.C_below HKC4.out ((Below.refl _ _).alloc (Nat.le_refl _) _), Kd.C_below HKD'.out ((Below.refl _ _).alloc (Nat.le_refl _) _)⟩
      clear heo b0 b1 b2 b3 HKD HKD' HQ4 HX4 HKC4 HQ3 HX10 HKC2 HOA
      generalize w4.alloc (.cells #[.int .u64 a0, .string a1, .int .u64 a2, .slice Ad n cd] 25) = V at H ⊢
      generalize w4.heap.size = g12 at H ⊢
      obtain ⟨Ld, hLd⟩ : ∃ l, Lo L k = l := ⟨_, rfl⟩
      obtain ⟨Lc, hLc⟩ : ∃ l, Lw L k body = l := ⟨_, rfl⟩
      rw [hLd, hLc] at H
      have HLd := Lib.hid hLd
      have HLc := Lib.hid hLc
      clear hLd hLc
      as_aux_lemma =>
      -- may
      obtain ⟨mb, hmb⟩ : ∃ b, (decide (0 ≤ k) && decide (k < (n : Int)) && bod (rd_T47 L k).f0) = b := ⟨_, rfl⟩
      have HMB := Lib.hid hmb
      clear hmb
      have q3 : V.cell? ⟨g8, 3, none⟩ = some (.slice Am n cm) := (blk_cell H.out.h.g8 3).trans rfl
      go_cut [14] (fun v14 wx => v14 = .bool mb ∧ Hid (B2 w wx g7 g8 g10 g12 a0 a1 a2 A Am Ac Ad n c cm cc cd L Lc Ld))
      case first =>
        as_aux_lemma =>
        have hmb := HMB.out
        by_cases h0 : 0 ≤ k
        · have hd0 : decide ((0 : Int) ≤ k) = true := decide_eq_true h0
          by_cases h1 : k < (n : Int)
          · have hd1 : decide (k < (n : Int)) = true := decide_eq_true h1
            rw [hd0, hd1, Bool.true_and, Bool.true_and] at hmb
            obtain ⟨ad, hA, hx0, _⟩ := at_T44 H.out.h.km k h0 h1
            rw [rd_map' L k (by rw [HLN.out]; exact h1) h0] at hx0
            change V.cell? _ = some (.int .i64 (rd_T47 L k).f0) at hx0
            subst hA
            generalize (rd_T47 L k).f0 = op at hx0 hmb
            by_cases h3 : op = 3
            · have hb3 : (op == 3) = true := beq_iff_eq.2 h3
              obtain rfl : mb = true := by rw [← hmb]; unfold bod; rw [if_pos h3]
              go_wp2_with fail
              go_meet
              case rel => exact ⟨rfl, H⟩
            · have hb3 : (op == 3) = false := beq_eq_false_iff_ne.2 h3
              have hb4 : (op == 4) = mb := by rw [← hmb]; unfold bod; rw [if_neg h3]
              go_wp2_with fail
              go_meet
              case rel => exact ⟨rfl, H⟩
          · have hd1 : decide (k < (n : Int)) = false := decide_eq_false h1
            obtain rfl : mb = false := by rw [← hmb, hd0, hd1]; rfl
            go_wp2_with fail
            go_meet
            case rel => exact ⟨rfl, H⟩
        · have hd0 : decide ((0 : Int) ≤ k) = false := decide_eq_false h0
          obtain rfl : mb = false := by rw [← hmb, hd0]; rfl
          go_wp2_with fail
          go_meet
          case rel => exact ⟨rfl, H⟩
      obtain ⟨rfl, H⟩ := hcut
      obtain ⟨wb, hwb⟩ : ∃ b, wi L k body (leaf body) = b := ⟨_, rfl⟩
      have HWB := Lib.hid hwb
      have HWM : Hid (wb = (mb && (rd_T47 L k).f5.toList == (leaf body).toList && decide ((body.size : Int) ≤ 1024))) := Lib.hid (by rw [← hwb, ← HMB.out]; unfold wi; rw [HLN.out])
      have hew := HEW.out
      rw [hwb] at hew
      obtain ⟨ob, hob⟩ : ∃ b, wo L k = b := ⟨_, rfl⟩
      have HOB := Lib.hid hob
      have HOM : Hid (ob = (mb && !(rd_T47 L k).f7)) := Lib.hid (by rw [← hob, ← HMB.out]; unfold wo; rw [HLN.out])
      have heo := HEO.out
      rw [hob] at heo
      have HE1 := Lib.hid hew
      have HE2 := Lib.hid heo
      have HLF := Lib.hid (fun w' => hash_Leaf.calls body _ w' (leaf_f _ hs))
      have HRM : Hid (mb = true → 0 ≤ k ∧ k < (n : Int)) := Lib.hid (fun h => by have := HMB.out; rw [h] at this; simp only [Bool.and_eq_true, decide_eq_true_eq] at this; exact this.1)
      clear hwb hob hew heo
      as_aux_lemma =>
      go_upto_region 8 with fail
      refine bodies_r8 (k := k) (mb := mb) (wb := wb) (ob := ob) (ew := ew) (eo := eo) (fun _ _ _ d _ h => by cases d <;> exact h) HLN HWM HRM hs H ?_ (by kernel_rfl)
      intro v78 v79 v80 v81 v82 v83 v84 v85 v86 v87 v88 v89 v90 v91 v92 v93 v94 wx H'
      clear H
      have H := H'
      clear H'
      go_upto_region 9 with fail
      refine bodies_r9 (k := k) (mb := mb) (wb := wb) (ob := ob) (ew := ew) (eo := eo) (fun _ _ _ d _ h => by cases d <;> exact h) HLN HOM HRM H ?_ (by kernel_rfl)
      intro v95 v96 v97 v98 v99 v100 v101 v102 v103 v104 wx H'
      clear H
      have H := H'
      clear H'
      as_aux_lemma =>
      go_upto_region 10 with fail
      refine bodies_r10 (k := k) (mb := mb) (wb := wb) (ob := ob) (ew := ew) (eo := eo) (fun _ _ _ d _ h => by cases d <;> exact h) HE1 HE2 H ?_ (by kernel_rfl)
      intro v105 v106 v107 v108 v109 v110 v111 v112 v113 v114 v115 v116 v117 v118 v119 v120 v121 v122 v123 v124 v125 v126 v127 v128 v129 v130 v131 v132 v133 wx H'
      clear H
      have H := H'
      clear H'
      as_aux_lemma =>
      go_upto_region 12 with fail
      refine bodies_r12 (k := k) (mb := mb) (wb := wb) (ob := ob) (ew := ew) (eo := eo) (fun _ _ _ d _ h => by cases d <;> exact h) HLN HG HLc HLd H ?_ (by kernel_rfl)
      intro v135 v136 v137 v138 v139 v140 v141 v142 v143 v144 v145 v146 v147 v148 v149 v150 v151 v152 v153 v154 v155 v156 v157 v158 v159 v160 v161 v162 v163 wx H'
      clear H
      have H := H'
      clear H'
      as_aux_lemma =>
      go_wp2_with fail
      go_loopw [17] (fun v17 wr => ∃ i : Nat, v17 = .int .i64 i ∧ i ≤ n ∧ Hid (B2 w wr g7 g8 g10 g12 a0 a1 a2 A Am Ac Ad n c cm cc cd L Lc Ld)) (fun v17 _ => (n - intOf v17).toNat)
      case atStart => exact ⟨0, by go_num, Nat.zero_le _, H⟩
      case round =>
        clear H
        as_aux_lemma =>
        obtain ⟨i, rfl, hi, H⟩ := hrel
        by_cases h1 : i < n
        · have q7r : wr.cell? ⟨g7, 3, none⟩ = some (.slice A n c) := (blk_cell H.out.h.g7 3).trans rfl
          go_upto_region 17 with fail
          clear q7r
          refine bodies_r17 (k := k) (mb := mb) (wb := wb) (ob := ob) (ew := ew) (eo := eo) (fun _ _ _ d _ h => by cases d <;> exact h) HLN HLc HLd h1 H ?_ (by kernel_rfl)
          intro v172 v173 v174 v175 v176 v177 v178 v179 v180 v181 v182 v183 v184 v185 v186 v187 v188 v189 v190 v191 v192 v193 v194 v195 v196 v197 v198 v199 v200 v201 v202 v203 v204 v205 v206 v207 v208 v209 v210 v211 v212 v213 wx H'
          clear H
          have H := H'
          clear H'
          go_wp2_with fail
          go_roundw
          case rel => exact ⟨i + 1, by go_num, by omega, H⟩
          case measure => (simp [intOf] <;> omega)
        · have q7r : wr.cell? ⟨g7, 3, none⟩ = some (.slice A n c) := (blk_cell H.out.h.g7 3).trans rfl
          have hB := H.out.h.b
          go_upto_region 19 with fail
          clear q7r
          refine bodies_r19 (k := k) (mb := mb) (wb := wb) (ob := ob) (ew := ew) (eo := eo) (fun _ _ _ d _ h => by cases d <;> exact h) HLN HLc HLd HWB HOB H ?_ (by kernel_rfl)
          intro v215 v216 v217 v218 v219 v220 v221 v222 v223 v224 v225 v226 v227 v228 v229 v230 v231 v232 v233 v234 v235 v236 v237 v238 v239 v240 v241 v242 v243 v244 v245 v246 v247 v248 v249 v250 v251 v252 v253 v254 v255 v256 wx hB
          go_wp2_with fail
          go_ret
          exact ⟨rfl, hB⟩
end Go.Proofs.Ytdcbacbilncnnaa.T
end
section
/- What comes in is laid open: revisions, blocks. -/
set_option linter.unusedVariables false
set_option linter.unusedSimpArgs false
namespace Go.Proofs.Ytdcbacbilncnnaa.Opn
open Go.Joins Go.ChangeShapes Go.WideShapes Go.ChangeAt Go.RowKit Go.Deep Go.Proofs.Ytdcbacbilncnnaa.PMk Go.Proofs.Ytdcbacbilncnnaa.T Go.Proofs.Ytdcbacbilncnnaa.EncL Go.Proofs.YtdcbacbilncnnaaW.PrintWords Go.Proofs.YtdcbacbilncnnaaW.PrintLast
/-- A revision that a caller can hand in. -/
structure Wide (x : S47) : Prop where
  d0 : 0 ≤ x.f3
  d1 : x.f3 < 18446744073709551616
  v0 : 0 ≤ x.f4
  v1 : x.f4 < 18446744073709551616
  t : x.f1.size ≤ 140737488351232
  f : x.f2.size ≤ 140737488351232
  h : x.f5.size ≤ 140737488351232
  b : x.f6.size ≤ 140737488351232
theorem u64_wf (a : Int) (h : (Lit.int .u64 a).wf = true) : 0 ≤ a ∧ a < 18446744073709551616 := by
  simp [Lit.wf, IntKind.min, IntKind.max, IntKind.signed, IntKind.bits] at h
  omega
instance : Inhabited S47 := ⟨z47⟩
section
variable {H : Type} {enc : TypeId × Value → H} {W : World} {base : Nat} {sp : Nat → Bool} {held : Bool}
abbrev vals (x : S47) : List Value := [.int .i64 x.f0, .string x.f1, .string x.f2, .int .u64 x.f3, .int .u64 x.f4, .string x.f5, .string x.f6, .bool x.f7]
theorem data_len (s : ByteArray) : s.data.toList.length = s.size := by rw [Array.length_toList]; rfl
set_option maxRecDepth 20000 in
theorem open_rev {n : Nat} {cs : List Value} {y : DataW H × List MemPlace} (h : DataW.trod enc Try.prog W base sp held n 47 cs = some y) :
    ∃ x : S47, cs = vals x ∧ ((∀ m ∈ y.1.weights Try.prog 47, m ≤ reachBytes) → Wide x) := by
  obtain ⟨xs, k, _, hy, hcl, hxl, hf⟩ := DataW.trod_struct Try.underlying47 h
  have c47 : Try.prog.cellsOf 47 = 8 := by kernel_rfl
  have c3 : Try.prog.cellsOf 3 = 1 := by kernel_rfl
  have c9 : Try.prog.cellsOf 9 = 1 := by kernel_rfl
  have c22 : Try.prog.cellsOf 22 = 1 := by kernel_rfl
  have c4 : Try.prog.cellsOf 4 = 1 := by kernel_rfl
  rw [c47] at hcl
  match xs, hxl, cs, hcl with
  | [y0, y1, y2, y3, y4, y5, y6, y7], _, [v0, v1, v2, v3, v4, v5, v6, v7], _ =>
    have g0 := hf 0 _ rfl
    have g1 := hf 1 _ rfl
    have g2 := hf 2 _ rfl
    have g3 := hf 3 _ rfl
    have g4 := hf 4 _ rfl
    have g5 := hf 5 _ rfl
    have g6 := hf 6 _ rfl
    have g7 := hf 7 _ rfl
    simp [c3, c9, c22, c4] at g0 g1 g2 g3 g4 g5 g6 g7
    obtain ⟨n0, e0, d0, _⟩ := DataW.trod_int Try.underlying3 g0
    obtain ⟨s1, e1, d1, _⟩ := DataW.trod_string Try.underlying9 g1
    obtain ⟨s2, e2, d2, _⟩ := DataW.trod_string Try.underlying9 g2
    obtain ⟨n3, e3, d3, w3⟩ := DataW.trod_int Try.underlying22 g3
    obtain ⟨n4, e4, d4, w4⟩ := DataW.trod_int Try.underlying22 g4
    obtain ⟨s5, e5, d5, _⟩ := DataW.trod_string Try.underlying9 g5
    obtain ⟨s6, e6, d6, _⟩ := DataW.trod_string Try.underlying9 g6
    obtain ⟨b7, e7, d7⟩ := DataW.trod_bool Try.underlying4 g7
    simp only [List.cons.injEq, and_true] at e0 e1 e2 e3 e4 e5 e6 e7
    subst e0 e1 e2 e3 e4 e5 e6 e7
    refine ⟨⟨n0, s1, s2, n3, n4, s5, s6, b7⟩, rfl, fun hw => ?_⟩
    have hu := Try.underlying47
    subst d0 d1 d2 d3 d4 d5 d6 d7
    rw [hy] at hw
    simp only [List.map_cons, List.map_nil, DataW.weights, hu, DataW.weightsEach, List.nil_append, List.append_nil, List.cons_append, List.mem_cons, List.not_mem_nil, or_false, forall_eq_or_imp, forall_eq, data_len, List.toList_toArray] at hw
    obtain ⟨q1, q2, q5, q6⟩ := hw
    obtain ⟨a3, b3⟩ := u64_wf _ w3
    obtain ⟨a4, b4⟩ := u64_wf _ w4
    exact ⟨a3, b3, a4, b4, q1, q2, q5, q6⟩
theorem weightsAll_mem {P : Program} {t : TypeId} : ∀ {l : List (DataW H)} {d : DataW H}, d ∈ l → ∀ n ∈ d.weights P t, n ∈ DataW.weightsAll P t l
  | e :: l, d, hd, n, hn => by
    rw [DataW.weightsAll, List.mem_append]
    rcases List.mem_cons.1 hd with rfl | hd
    · exact .inl hn
    · exact .inr (weightsAll_mem hd n hn)
/-- A slice of revisions that came in. -/
theorem open_revs {fuel : Nat} {v : Value} {x : DataW H × List MemPlace} (h : DataW.trod enc Try.prog W base sp held fuel 23 [v] = some x) (hw : ∀ m ∈ x.1.weights Try.prog 23, m ≤ reachBytes) :
    ∃ A c l, v = .slice A l.length c ∧ l.length ≤ c ∧ Kd.C k47 W A l.length l ∧ ∀ y ∈ l, Wide y := by
  rcases open_slice Try.underlying23 h with ⟨hcs, _⟩ | ⟨a, len, cap, m, n, D, Pl, hcs, hb, hl, hm, hmm, hx, hi⟩
  · simp at hcs
    subst hcs
    exact ⟨none, 0, [], rfl, Nat.le_refl _, Kd.C_nil _ _, fun y hy => absurd hy (by simp)⟩
  · simp at hcs
    subst hcs
    have hlm : len ≤ m := by rw [hmm]; split <;> omega
    have c47 : Try.prog.cellsOf 47 = 8 := by kernel_rfl
    have each : ∀ i, i < len → ∃ q : S47, W.cells? base (a.add (i * 8)) 8 = some (vals q) ∧ Wide q := by
      intro i hlt
      obtain ⟨cs, h1, h2⟩ := hi i (by omega)
      obtain ⟨q, rfl, hq⟩ := open_rev h2
      rw [c47] at h1
      refine ⟨q, h1, hq fun n hn => hw n ?_⟩
      have hu := Try.underlying23
      rw [hx]
      simp only [DataW.weights, hu]
      exact List.mem_cons_of_mem _ (List.mem_append_left _ (weightsAll_mem (List.mem_map.2 ⟨i, List.mem_range.2 hlt, rfl⟩) n hn))
    obtain ⟨q, hq⟩ := choose_lt each
    have hln : ((List.range len).map q).length = len := by simp
    have hmx : maxLen ≤ 9223372036854775807 := by decide
    refine ⟨some a, cap, (List.range len).map q, by rw [hln], by rw [hln]; simpa using hl, ⟨rfl, by rw [hln]; omega, fun _ => ⟨a, rfl, fun j p hj => ?_⟩⟩, ?_⟩
    · have hjl : j < len := by
        have := (List.getElem?_eq_some_iff.1 hj).1
        rw [hln] at this
        exact this
      obtain rfl : q j = p := by
        rw [List.getElem?_map, List.getElem?_range hjl] at hj
        exact Option.some.inj hj
      refine ⟨vals (q j), rfl, k47_mk _ _, fun i u hu => ?_⟩
      obtain ⟨_, hlen, hcell⟩ := World.cells?_some (hq j hjl).1
      have hi8 : i < 8 := (List.getElem?_eq_some_iff.1 hu).1
      have e0 := hcell i hi8
      rw [Go.Deep.add_add] at e0
      rw [hu] at e0
      exact e0
    · intro y hy
      obtain ⟨i, hi', rfl⟩ := List.mem_map.1 hy
      exact (hq i (List.mem_range.1 hi')).2
set_option maxRecDepth 20000 in
/-- A block that came in. -/
theorem open_block {r : Reach} {b0 : Nat} {v : Value} {d : DataW H} {p : List MemPlace} (hv : Value.okWide Try.prog W r b0 25 v) (h : DataW.Trod enc Try.prog W base sp held 25 v d p) (hw : ∀ m ∈ d.weights Try.prog 25, m ≤ reachBytes) :
    ∃ (a0 : Int) (a1 : ByteArray) (a2 : Int) (A : Option Addr) (c : Nat) (l : List S47), v = .agg #[.int .u64 a0, .string a1, .int .u64 a2, .slice A l.length c] ∧ l.length ≤ c ∧ Kd.C k47 W A l.length l ∧
      0 ≤ a0 ∧ a0 < 18446744073709551616 ∧ a1.size ≤ 140737488351232 ∧ 0 ≤ a2 ∧ a2 < 18446744073709551616 ∧ ∀ y ∈ l, Wide y := by
  obtain ⟨cs, rfl, hsz⟩ := okWide_struct Try.underlying25 hv
  obtain ⟨l⟩ := cs
  have c25 : Try.prog.cellsOf 25 = 4 := by kernel_rfl
  match l, hsz.trans c25 with
  | [v0, v1, v2, v3], _ =>
    obtain ⟨fuel, hf⟩ := h
    obtain ⟨xs, n, _, hy, hcl, hxl, hf⟩ := DataW.trod_struct Try.underlying25 hf
    have c9 : Try.prog.cellsOf 9 = 1 := by kernel_rfl
    have c22 : Try.prog.cellsOf 22 = 1 := by kernel_rfl
    have c23 : Try.prog.cellsOf 23 = 1 := by kernel_rfl
    match xs, hxl with
    | [y0, y1, y2, y3], _ =>
      have g0 := hf 0 _ rfl
      have g1 := hf 1 _ rfl
      have g2 := hf 2 _ rfl
      have g3 := hf 3 _ rfl
      simp [Value.cells, c9, c22, c23] at g0 g1 g2 g3
      obtain ⟨n0, e0, d0, w0⟩ := DataW.trod_int Try.underlying22 g0
      obtain ⟨s1, e1, d1, _⟩ := DataW.trod_string Try.underlying9 g1
      obtain ⟨n2, e2, d2, w2⟩ := DataW.trod_int Try.underlying22 g2
      have hu := Try.underlying25
      subst d0 d1 d2
      simp only [List.map_cons, List.map_nil, Prod.mk.injEq] at hy
      rw [hy.1] at hw
      simp only [DataW.weights, hu, DataW.weightsEach, List.nil_append, List.append_nil, List.cons_append, List.mem_cons, forall_eq_or_imp, data_len, List.map_cons, List.map_nil] at hw
      obtain ⟨q1, q3⟩ := hw
      obtain ⟨A, c, l, rfl, hc, hC, hW⟩ := open_revs g3 q3
      simp only [List.cons.injEq, and_true] at e0 e1 e2
      subst e0 e1 e2
      obtain ⟨a3, b3⟩ := u64_wf _ w0
      obtain ⟨a4, b4⟩ := u64_wf _ w2
      exact ⟨n0, s1, n2, A, c, l, rfl, hc, hC, a3, b3, q1, a4, b4, hW⟩
end
end Go.Proofs.Ytdcbacbilncnnaa.Opn
end
section
namespace Go.Proofs.Ytdcbacbilncnnaa.PMu
open Go.RowKit Go.Proofs.Ytdcbacbilncnnaa.PMk Go.Proofs.YtdcbacbilncnnaaW.PrintWords Go.Proofs.YtdcbacbilncnnaaW.PrintLast Go.Proofs.YtdcbacbilncnnaaW.PrintMore
attribute [local go_sem] max2_int min2_int max_two min_two max_three min_three max_four min_four   -- for this text's walks alone
set_option linter.unusedVariables false
set_option linter.unusedSimpArgs false
theorem q1_ {α : Type} (l : List α) (i : Nat) (a : α) : l.toArray.setIfInBounds i a = (l.set i a).toArray := List.setIfInBounds_toArray ..
theorem q2_ {α : Type} (a b : α) (l : List α) : (a :: l).set 0 b = b :: l := rfl
theorem q3_ {α : Type} (a b : α) (l : List α) (n : Nat) : (a :: l).set (n + 1) b = a :: l.set n b := rfl
/-! ### parchmentlaw09_BlockUnlike: function 3 -/
end Go.Proofs.Ytdcbacbilncnnaa.PMu
end
section
/- BlockUnlike, plain. -/
set_option linter.unusedVariables false
set_option linter.unusedSimpArgs false
namespace Go.Proofs.Ytdcbacbilncnnaa.T
open Go.RowKit Go.Proofs.Ytdcbacbilncnnaa.PMk Go.Proofs.Ytdcbacbilncnnaa.PMu Go.Proofs.Ytdcbacbilncnnaa.Opn Go.Proofs.Ytdcbacbilncnnaa.M Go.Proofs.Ytdcbacbilncnnaa.EncS Go.Proofs.Ytdcbacbilncnnaa.EncL Go.Proofs.YtdcbacbilncnnaaW.PrintWords Go.Proofs.YtdcbacbilncnnaaW.PrintLast
structure WideB (a0 : Int) (a1 : ByteArray) (a2 : Int) (l : List S47) : Prop where
  p0 : 0 ≤ a0
  p1 : a0 < 18446744073709551616
  s : a1.size ≤ 140737488351232
  q0 : 0 ≤ a2
  q1 : a2 < 18446744073709551616
  ls : ∀ y ∈ l, Wide y
  n : l.length ≤ 66
theorem WideB.fits' {a0 : Int} {a1 : ByteArray} {a2 : Int} {l : List S47} (h : WideB a0 a1 a2 l) : FitsB a0 a1 a2 l :=
  ⟨h.p0, h.p1, by have := h.s; omega, h.q0, h.q1, fun x hx => ⟨(h.ls x hx).d0, (h.ls x hx).d1, (h.ls x hx).v0, (h.ls x hx).v1, by have := (h.ls x hx).t; omega, by have := (h.ls x hx).f; omega, by have := (h.ls x hx).h; omega⟩, by have := h.n; omega⟩
end Go.Proofs.Ytdcbacbilncnnaa.T
end
