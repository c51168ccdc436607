/- Texts of the proof of PageReads, part 36. -/
import Derived.Test.YtdohpjjggjehfaaPageReadsM35
import Derived.Test.YtdohpjjggjehfaaPageReadsM22
import Derived.Test.YtdohpjjggjehfaaPageReadsM23
import Derived.Test.YtdohpjjggjehfaaPageReadsM20
import Derived.Test.YtdohpjjggjehfaaPageReadsM13
import Derived.Test.YtdohpjjggjehfaaPageReadsM21
import Derived.Test.YtdohpjjggjehfaaPageReadsM15
section
namespace Go.Proofs.Ytdohpjjggjehfaa.PgEv
set_option linter.unusedVariables false
set_option linter.unusedSimpArgs false
open Go.RowKit Go.Proofs.Ytdohpjjggjehfaa.Print Go.Proofs.Ytdohpjjggjehfaa.SMath Go.Proofs.Ytdohpjjggjehfaa.SealEv Go.Proofs.Ytdohpjjggjehfaa.PackMath Go.Proofs.Ytdohpjjggjehfaa.PackEv Go.Proofs.YtdohpjjggjehfaaW.PrintWords Go.Proofs.YtdohpjjggjehfaaW.PrintLast Go.Proofs.YtdohpjjggjehfaaW.PrintMore
set_option maxHeartbeats 2000000 in
theorem rchk (a b c d : Int) : slipwayref03_Check.f a b c d = some (if HOK a b c d then 0 else 30) := by
  unfold slipwayref03_Check.f
  by_cases h : HOK a b c d
  · rw [if_pos h]
    unfold HOK at h
    rw [if_neg (by omega), if_neg (by omega), if_neg (by omega), if_neg (by omega), if_neg (by omega), if_neg (by omega), if_neg (by omega)]
    by_cases a1 : a = 1
    · rw [if_pos a1]
    · rw [if_neg a1, if_pos (by omega)]
  · rw [if_neg h]
    unfold HOK at h
    by_cases b1 : a < 1
    · rw [if_pos b1]
    rw [if_neg b1]
    by_cases b2 : a > 3
    · rw [if_pos b2]
    rw [if_neg b2]
    by_cases b3 : b < 0
    · rw [if_pos b3]
    rw [if_neg b3]
    by_cases b4 : b ≥ 1048576
    · rw [if_pos b4]
    rw [if_neg b4]
    by_cases b5 : c < 1
    · rw [if_pos b5]
    rw [if_neg b5]
    by_cases b6 : d < c
    · rw [if_pos b6]
    rw [if_neg b6]
    by_cases b7 : d > 1152921504606846976
    · rw [if_pos b7]
    rw [if_neg b7, if_neg (by omega), if_neg (by omega)]
set_option maxHeartbeats 2000000 in
theorem fill_ev (d : Nat) : ∀ b : List Int, b.length + d = 28 → Ev (fun k => slipwayref03_header.l0 k b) (b ++ List.replicate d 0) := by
  induction d with
  | zero =>
    intro b hb
    refine Ev.step (f := fun _ => some b) (fun k => ?_) (by simpa using Ev.now _)
    simp only [slipwayref03_header.l0]
    rw [if_neg (by omega)]
  | succ d ih =>
    intro b hb
    have := ih (b ++ [0]) (by rw [List.length_append, List.length_singleton]; omega)
    rw [List.append_assoc] at this
    refine Ev.step (fun k => ?_) this
    simp only [slipwayref03_header.l0]
    rw [if_pos (by omega), if_pos (by omega)]
theorem hed_ev {a b c d : Int} (hh : HOK a b c d) {x : List Int} (hP : PackOK ws (hv a b c d) x) (h22 : x.length = 22) : Ev (fun k => slipwayref03_header.f k a b c d) (x ++ List.replicate 6 0) := by
  obtain ⟨r, hr, rR⟩ := ref_pack_ev ws (hv a b c d) (hv_u64 hh)
  obtain ⟨r2, rP⟩ := rR.1 (hv_fit hh)
  have e := hP.unique rP
  have hu := hv_u64 hh
  unfold slipwayref03_header.f
  rw [u64_id (hu a (by simp [hv])).1 (hu a (by simp [hv])).2, u64_id (hu b (by simp [hv])).1 (hu b (by simp [hv])).2, u64_id (hu c (by simp [hv])).1 (hu c (by simp [hv])).2, u64_id (hu d (by simp [hv])).1 (hu d (by simp [hv])).2]
  refine Ev.bind hr ?_
  rw [← e]
  exact fill_ev 6 x (by omega)
theorem of_ev {p : List Int} (h : p.length = 288) : slipwayref03_of.f p = some p := by
  unfold slipwayref03_of.f
  rw [if_pos (by omega), List.take_of_length_le (by omega)]
end Go.Proofs.Ytdohpjjggjehfaa.PgEv
end
