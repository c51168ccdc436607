/- Texts of the proof of MapOrder, part 30. -/
import Derived.Test.YtkhbmgclklmimaaMapOrderM22
import Derived.Test.YtkhbmgclklmimaaMapOrderM20
import Derived.Test.YtkhbmgclklmimaaMapOrderM21
section
namespace Go.Proofs.Ytkhbmgclklmimaa.MapEv
set_option linter.unusedVariables false
set_option linter.unusedSimpArgs false
open Go.RowKit Go.Proofs.Ytkhbmgclklmimaa.Print Go.Proofs.YtkhbmgclklmimaaW.PrintWords Go.Proofs.YtkhbmgclklmimaaW.PrintLast Go.Proofs.YtkhbmgclklmimaaW.PrintMore
theorem pclo_f (l : List S42) (hn : l.length ≤ 2097152) : api_MapPage_41.f l = some l := by
  unfold api_MapPage_41.f
  simp only [Option.bind_some, List.length_nil, List.nil_append]
  rw [if_pos (by omega)]
theorem pgrow (n : Int) (h0 : 0 ≤ n) (h1 : n ≤ 4194304) : api_MapPage_75.f [] n = some [] := by
  unfold api_MapPage_75.f
  rw [w64 (n := n) (by omega) (by omega), if_neg (by omega)]
  by_cases h : n > 0
  · rw [if_pos h, if_pos h0, if_pos (by simp only [List.length_nil]; omega)]
    simp only [Option.bind_some]
    rw [if_pos (by omega)]
    rfl
  · rw [if_neg h]
set_option maxHeartbeats 2000000 in
theorem pcat (a b : List S42) (ha : a.length ≤ 2097152) (hb : b.length ≤ 2097152) : Ev (fun k => api_MapPage_43.f k [a, b]) (a ++ b) := by
  refine Ev.of (fun k => api_MapPage_43.mono _ k) (k := 7) ?_
  have g0 := pgrow ((a.length : Int) + b.length) (by omega) (by omega)
  have e0 : rd_L8 [a, b] 0 = a := rfl
  have e1 : rd_L8 [a, b] 1 = b := rfl
  simp only [api_MapPage_43.f, api_MapPage_43.l0, List.length_cons, List.length_nil, e0, e1, Int.zero_add, Nat.zero_add, Nat.reduceAdd]
  rw [w64 (n := (a.length : Int)) (by omega) (by omega), show wrap64 (1 : Int) = 1 from w64 (n := 1) (by decide) (by decide), e1, w64 (n := (a.length : Int) + b.length) (by omega) (by omega), show wrap64 ((1 : Int) + 1) = 2 from w64 (n := 2) (by decide) (by decide)]
  rw [if_pos (by decide), if_pos (by decide), if_pos (by decide), if_neg (by omega), if_pos (by decide), if_pos (by decide), if_pos (by decide), if_neg (by omega), if_neg (by decide), g0]
  simp only [Option.bind_some, api_MapPage_43.l1, List.length_cons, List.length_nil, e0, e1, Int.zero_add, Nat.zero_add, Nat.reduceAdd, List.nil_append]
  rw [show wrap64 (1 : Int) = 1 from w64 (n := 1) (by decide) (by decide), e1, show wrap64 ((1 : Int) + 1) = 2 from w64 (n := 2) (by decide) (by decide)]
  rw [if_pos (by decide), if_pos (by decide), if_pos (by decide), if_pos (by omega), if_pos (by decide), if_pos (by decide), if_pos (by decide), if_pos (by omega), if_neg (by decide)]
end Go.Proofs.Ytkhbmgclklmimaa.MapEv
end
