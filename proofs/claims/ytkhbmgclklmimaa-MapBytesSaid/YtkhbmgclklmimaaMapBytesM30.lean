/- Texts of the proof of MapBytes, part 30. -/
import Derived.Test.YtkhbmgclklmimaaMapBytesM29
import Derived.Lib.Bytes
import Derived.Test.YtkhbmgclklmimaaMapBytesM15
import Derived.Test.YtkhbmgclklmimaaMapBytesM19
import Derived.Test.YtkhbmgclklmimaaMapBytesM21
section
namespace Go.Proofs.Ytkhbmgclklmimaa.MapEv
set_option linter.unusedVariables false
set_option linter.unusedSimpArgs false
open Go.RowKit Go.Proofs.Ytkhbmgclklmimaa.Print Go.Proofs.YtkhbmgclklmimaaW.PrintWords Go.Proofs.YtkhbmgclklmimaaW.PrintLast Go.Proofs.YtkhbmgclklmimaaW.PrintMore
set_option maxHeartbeats 2000000 in
theorem by_inj : ∀ {a b : List Int}, okY a → okY b → Lib.bytesOf a = Lib.bytesOf b → a = b
  | [], [], _, _, _ => rfl
  | [], _ :: _, _, _, h => by simp [Lib.bytesOf] at h
  | _ :: _, [], _, _, h => by simp [Lib.bytesOf] at h
  | x :: s, y :: t, ha, hb, h => by
    simp only [Lib.bytesOf, List.map_cons, List.cons.injEq] at h
    obtain ⟨h1, h2⟩ := h
    obtain ⟨x0, x1⟩ := ha x (by simp)
    obtain ⟨y0, y1⟩ := hb y (by simp)
    have e : x = y := by
      have := congrArg UInt8.toNat h1
      simp at this
      omega
    rw [e, by_inj (fun z hz => ha z (by simp [hz])) (fun z hz => hb z (by simp [hz])) h2]
theorem by_ne {a b : List Int} (ha : okY a) (hb : okY b) (h : a ≠ b) : ((strOfNums a).toList == (strOfNums b).toList) = false := by
  rw [Lib.strOfNums_toList, Lib.strOfNums_toList]
  exact beq_eq_false_iff_ne.mpr (fun e => h (by_inj ha hb e))
def byR (kind gen part seq : Int) (bad : List Bool) (wear : List Int) (recs : List S55) : List Int × Int := if okP kind gen part seq bad wear recs then (mbo kind gen part seq bad wear recs, 0) else ([], 62)
theorem okP_okB {kind gen part seq : Int} {bad : List Bool} {wear : List Int} {recs : List S55} (h : okP kind gen part seq bad wear recs) : okB kind bad wear recs := by
  unfold okB
  rcases h with ⟨h1, h2, h3, h4, h5, h6, h7, h8⟩ | ⟨h1, h2, h3, h4, h5, h6, h7, h8⟩
  · exact .inl ⟨h1, h4.2, h5, h7⟩
  · exact .inr ⟨h1, h5, h6, h7⟩
set_option maxHeartbeats 2000000 in
theorem bytes_ev (kind gen part seq : Int) (bad : List Bool) (wear : List Int) (recs : List S55) (hw : wear.length ≤ 140737488355328) (hr : recs.length ≤ 140737488355328) :
    Ev (fun k => mapjnl_Bytes.f k kind gen part seq bad wear recs) (byR kind gen part seq bad wear recs) := by
  unfold mapjnl_Bytes.f byR
  refine Ev.bind (fits_ev kind gen part seq bad wear recs hw hr) ?_
  by_cases h : okP kind gen part seq bad wear recs
  · rw [if_pos h]
    exact Ev.iff_pos (decide_eq_true h) (Ev.iff_pos (okP_okB h) (Ev.now _))
  · rw [if_neg h]
    exact Ev.iff_neg (by rw [decide_eq_false h]; decide) (Ev.now _)
set_option maxHeartbeats 2000000 in
theorem rbytes_ev (kind gen part seq : Int) (bad : List Bool) (wear : List Int) (recs : List S55) (hw : wear.length ≤ 140737488355328) :
    Ev (fun k => slipwayref06_Bytes.f k kind gen part seq bad wear recs) (byR kind gen part seq bad wear recs) := by
  unfold slipwayref06_Bytes.f byR
  refine Ev.bind (rpage_ev kind gen part seq bad wear recs hw) ?_
  by_cases h : okP kind gen part seq bad wear recs
  · rw [if_pos h]
    exact Ev.iff_pos (decide_eq_true h) (Ev.iff_pos (okP_okB h) (Ev.now _))
  · rw [if_neg h]
    exact Ev.iff_neg (by rw [decide_eq_false h]; decide) (Ev.now _)
abbrev S8 := Int × Int × Int × Int × List Bool × List Int × List S55 × Int
def z62 : S8 := (0, 0, 0, 0, [], [], [], 62)
def byP (b : List Int) : S8 :=
  if (byR (pc b).k (pc b).gen (pc b).part (pc b).seq (pc b).bad (pc b).wear (pc b).recs).2 = 0 ∧ ((strOfNums (byR (pc b).k (pc b).gen (pc b).part (pc b).seq (pc b).bad (pc b).wear (pc b).recs).1).toList == (strOfNums b).toList) = true then ((pc b).k, (pc b).gen, (pc b).part, (pc b).seq, (pc b).bad, (pc b).wear, (pc b).recs, 0) else z62
def paR (b : List Int) : S8 := if b.length = 256 then byP b else z62
set_option maxHeartbeats 2000000 in
theorem pc_small (b : List Int) (ho : okY b) (hl : b.length = 256) : (pc b).wear.length ≤ 64 ∧ (pc b).recs.length ≤ 24 ∧ (pc b).bad.length ≤ 64 := by
  obtain ⟨h0, h1⟩ := ho _ (pB_mem (o := 2) (by rw [hl]; decide))
  unfold pc
  split
  · refine ⟨?_, by simp, ?_⟩
    · show (pWear b (pN b)).length ≤ 64
      rw [pWear_len]; unfold pN; omega
    · show (pBad b (pN b)).length ≤ 64
      rw [pBad_len]; unfold pN; omega
  · split
    · refine ⟨by simp, ?_, by simp⟩
      show (pRecs b (pN b)).length ≤ 24
      rw [pRecs_len]; unfold pN; omega
    · simp
theorem be_okY : ∀ (s : Nat) (n : Int), okY (be s n)
  | 0, _ => fun x hx => by simp [be] at hx
  | s + 1, n => fun x hx => by
    unfold be at hx
    rcases List.mem_append.1 hx with h | h
    · exact be_okY s _ x h
    · simp at h; omega
theorem okY_app {a b : List Int} (ha : okY a) (hb : okY b) : okY (a ++ b) := fun x hx => (List.mem_append.1 hx).elim (ha x) (hb x)
theorem mb1_okY (kind gen part : Int) (n : Nat) : okY (mb1 kind gen part n) := by
  unfold mb1
  refine okY_app (okY_app (fun x hx => ?_) (be_okY _ _)) (be_okY _ _)
  simp at hx
  omega
set_option maxHeartbeats 2000000 in
theorem no_page {b : List Int} (ho : okY b) (hl : b.length = 256) (h : ¬ pOk b) : byP b = z62 := by
  have h0 : ¬ (pB b 0 = 1 ∧ pB b 2 ≤ 64) := fun x => h (.inl x)
  have h1 : ¬ (pB b 0 = 2 ∧ pB b 2 ≤ 24) := fun x => h (.inr x)
  have e : pc b = ⟨pB b 0, pGen b, pB b 1, 0, [], [], []⟩ := by unfold pc; rw [if_neg h0, if_neg h1]
  unfold byP
  rw [e]
  simp only
  refine if_neg ?_
  rintro ⟨h2, h3⟩
  unfold byR at h2 h3
  by_cases hp : okP (pB b 0) (pGen b) (pB b 1) 0 [] [] []
  · rw [if_pos hp] at h3
    rcases hp with hp | hp
    · have := hp.2.2.2.1.1
      simp at this
    · have hk := hp.1
      have hn : ¬ pB b 2 ≤ 24 := fun x => h1 ⟨hk, x⟩
      have hm : mbo (pB b 0) (pGen b) (pB b 1) 0 [] [] [] = mb1 (pB b 0) (pGen b) (pB b 1) 0 ++ List.replicate 240 0 := by
        have e3 : mb3 (pB b 0) (pGen b) (pB b 1) 0 [] [] [] = mb1 (pB b 0) (pGen b) (pB b 1) 0 := by
          unfold mb3 mb2
          rw [if_neg (by rw [hk]; decide)]
          simp
        unfold mbo
        rw [e3, mb1_len]
      have hy : okY (mb1 (pB b 0) (pGen b) (pB b 1) 0 ++ List.replicate 240 0) := okY_app (mb1_okY _ _ _ _) (fun x hx => by rw [List.eq_of_mem_replicate hx]; decide)
      have hne : mbo (pB b 0) (pGen b) (pB b 1) 0 [] [] [] ≠ b := by
        intro he
        have h4 : pB (mbo (pB b 0) (pGen b) (pB b 1) 0 [] [] []) 2 = 0 := by
          rw [hm]
          rfl
        rw [he] at h4
        omega
      rw [by_ne (by rw [hm]; exact hy) ho hne] at h3
      exact absurd h3 (by decide)
  · rw [if_neg hp] at h2
    exact absurd h2 (by decide)
set_option maxHeartbeats 2000000 in
theorem parse_ev (b : List Int) (ho : okY b) : Ev (fun k => mapjnl_Parse.f k b) (paR b) := by
  unfold mapjnl_Parse.f paR
  by_cases hl : b.length = 256
  · rw [if_pos hl]
    obtain ⟨s1, s2, s3⟩ := pc_small b ho hl
    refine Ev.iff_pos hl (Ev.iff_pos ho ?_)
    by_cases h : pOk b
    · refine Ev.iff_pos h (Ev.bind (bytes_ev _ _ _ _ _ _ _ (by omega) (by omega)) ?_)
      unfold byP
      exact Ev.fix (fun n => by split <;> rfl)
    · rw [no_page ho hl h]
      exact Ev.iff_neg h (Ev.now _)
  · rw [if_neg hl]
    exact Ev.iff_neg hl (Ev.now _)
theorem rparse_ev (b : List Int) (ho : okY b) : Ev (fun k => slipwayref06_Parse.f k b) (paR b) := by
  unfold slipwayref06_Parse.f paR
  by_cases hl : b.length = 256
  · rw [if_pos hl]
    obtain ⟨s1, s2, s3⟩ := pc_small b ho hl
    refine Ev.iff_pos hl (Ev.iff_pos ho (Ev.bind (rbytes_ev _ _ _ _ _ _ _ (by omega)) ?_))
    unfold byP
    exact Ev.fix (fun n => by split <;> rfl)
  · rw [if_neg hl]
    exact Ev.iff_neg hl (Ev.now _)
theorem paR_small (b : List Int) (ho : okY b) : (paR b).2.2.2.2.1.length ≤ 64 ∧ (paR b).2.2.2.2.2.1.length ≤ 64 ∧ (paR b).2.2.2.2.2.2.1.length ≤ 24 := by
  unfold paR
  split
  · rename_i hl
    obtain ⟨s1, s2, s3⟩ := pc_small b ho hl
    unfold byP
    split
    · exact ⟨s3, s1, s2⟩
    · simp [z62]
  · simp [z62]
theorem okY_wf {l : List Int} (h : ∀ x ∈ l, (Lit.int .u8 x).wf = true) : okY l := fun x hx => by
  have := h x hx
  simp [Lit.wf, IntKind.min, IntKind.max, IntKind.signed, IntKind.bits] at this
  omega
end Go.Proofs.Ytkhbmgclklmimaa.MapEv
end
