/- Of any number that a uint64 holds, the program's bytes are the reference's bytes, and a cursor over them takes that number again and is at its end. No condition. -/
import Derived.Test.YtfnijaiaodplgaaPEncx2
import Derived.Test.YtfnijaiaodplgaaEncM
namespace Go.Proofs.Ytfnijaiaodplgaa.Pure
open Go.RowKit Go.Proofs.Ytfnijaiaodplgaa.PEnc Go.Proofs.YtfnijaiaodplgaaW.PrintWords Go.Proofs.YtfnijaiaodplgaaW.PrintLast
open Go.Proofs.Ytfnijaiaodplgaa.EncS Go.Proofs.Ytfnijaiaodplgaa.EncL

theorem EncNumbers : parchmentlaw02_EncNumbers.Pure := by
  intro a0 ha
  obtain ⟨h0, h1⟩ := wf_u64 a0 ha
  obtain ⟨n, rfl⟩ := Int.eq_ofNat_of_zero_le h0
  have hn : n < 18446744073709551616 := by omega
  refine Ev.rounds (g := fun k => parchmentlaw02_EncNumbers.f k (n : Int)) ?_
  unfold parchmentlaw02_EncNumbers.f
  refine Ev.bind (uint_f n hn) ?_
  simp only [enc_At.f, Option.bind_some]
  refine Ev.bind awake ?_
  simp only [↓reduceIte]
  refine Ev.bind (uint_f n hn) ?_
  refine Ev.bind (ref_uint_f n n (Nat.le_refl _) hn) ?_
  simp only [↓reduceIte]
  refine Ev.bind (take_own n hn) ?_
  simp only [↓reduceIte, end_all, Option.bind_some]
  exact Ev.now _

end Go.Proofs.Ytfnijaiaodplgaa.Pure
