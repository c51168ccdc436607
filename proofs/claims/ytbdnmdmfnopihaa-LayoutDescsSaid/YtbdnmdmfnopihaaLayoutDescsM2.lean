/- Texts of the proof of LayoutDescs, part 2. -/
import Derived.Test.YtbdnmdmfnopihaaLayoutDescsM0
import Derived.Test.YtbdnmdmfnopihaaLayoutDescsM1
import Derived.Test.YtbdnmdmfnopihaaWMore
import Derived.Laws.BitsLemmas
import Derived.Lib.Bytes
import Derived.SizedLaws
import Derived.ChangeSame
import Derived.Deep.Slices
import Derived.Deep.Fields
import Derived.Test.YtbdnmdmfnopihaaWWords
section
namespace Go.Proofs.Ytbdnmdmfnopihaa.Print
open Go.RowKit Go.Proofs.YtbdnmdmfnopihaaW.PrintWords Go.Proofs.YtbdnmdmfnopihaaW.PrintLast Go.Proofs.YtbdnmdmfnopihaaW.PrintMore
attribute [local go_sem] max2_int min2_int max_two min_two max_three min_three max_four min_four   -- for this text's walks alone
attribute [local go_sem ↓] Go.Proofs.Ytbdnmdmfnopihaa.Sem.isSome_setCell
attribute [local go_sem] Go.Instr.field Go.asAgg
set_option linter.unusedVariables false
set_option linter.unusedSimpArgs false
attribute [local go_sem high] eqA57
def bytes_Equal.f (l0 : List Int) (l1 : List Int) : Option (Bool) := some ((strOfNums l0).toList == (strOfNums l1).toList)
set_option maxHeartbeats 8000000 in
set_option maxRecDepth 100000 in
theorem bytes_Equal.calls (A0 : Option Addr) (c0 : Nat) (l0 : List Int) (A1 : Option Addr) (c1 : Nat) (l1 : List Int) (r : Bool) (w : World) (hr0 : Kd.C (Kd.int .u8) w A0 l0.length l0) (hc0 : l0.length ≤ c0) (hr1 : Kd.C (Kd.int .u8) w A1 l1.length l1) (hc1 : l1.length ≤ c1) (h : bytes_Equal.f l0 l1 = some r) :
    Calls Try.prog 33 #[.slice A0 l0.length c0, .slice A1 l1.length c1] w fun e w' => e = .returned (.bool r) ∧ Drawn0 w w' := by
  have HR0 := Aside0.mk hr0
  have HC0 := Aside0.mk hc0
  clear hr0 hc0
  have HR1 := Aside0.mk hr1
  have HC1 := Aside0.mk hc1
  clear hr1 hc1
  have H : (some ((strOfNums l0).toList == (strOfNums l1).toList)) = some r := h
  clear h
  obtain rfl := Option.some.inj H
  have hcv3 := Kd.C_string (P := Try.prog) (A := A0) (c := c0) Try.underlying48 Try.underlying5 Try.underlying9 HR0.out
  have hcv4 := Kd.C_string (P := Try.prog) (A := A1) (c := c1) Try.underlying48 Try.underlying5 Try.underlying9 HR1.out
  go_enter Try.func33, Try.ntmps33
  go_wp2
  go_ret
  exact ⟨by first | rfl | (simp; done) | (simp [*]; done), by repeat (first | exact Drawn0.refl _ | apply Drawn0.step)⟩
def api_Desc.l0 : Nat → List (S57) → List (S57) → Int → Int → Option (Bool)
  | 0, _, _, _, _ => none
  | k + 1, x0, x1, x12, x13 => if x13 < x12 then (if 0 ≤ x13 then (if x13 < (x0.length : Int) then (if x13 < (x1.length : Int) then (if (!(((rd_T57 x0 x13).f0) == ((rd_T57 x1 x13).f0)) || (!(((rd_T57 x0 x13).f1) == ((rd_T57 x1 x13).f1)) || (!(((rd_T57 x0 x13).f2) == ((rd_T57 x1 x13).f2))))) = true then (some false) else (api_Desc.l0 k x0 x1 x12 (wrap64 (x13 + 1)))) else (none)) else (none)) else (none)) else (some true)
def api_Desc.f (k : Nat) (l0 : List (S57)) (l1 : List (S57)) : Option (Bool) := if (l0.length : Int) = (l1.length : Int) then (api_Desc.l0 k l0 l1 (l0.length : Int) 0) else (some false)
set_option maxHeartbeats 8000000 in
set_option maxRecDepth 100000 in
theorem api_Desc.calls (k : Nat) (A0 : Option Addr) (c0 : Nat) (l0 : List (S57)) (A1 : Option Addr) (c1 : Nat) (l1 : List (S57)) (r : Bool) (w : World) (hr0 : Kd.C k57 w A0 l0.length l0) (hc0 : l0.length ≤ c0) (hr1 : Kd.C k57 w A1 l1.length l1) (hc1 : l1.length ≤ c1) (h : api_Desc.f k l0 l1 = some r) :
    Calls Try.prog 34 #[.slice A0 l0.length c0, .slice A1 l1.length c1] w fun e w' => e = .returned (.bool r) ∧ Drawn0 w w' := by
  have hu57 := Try.underlying57
  have HR0 := Aside0.mk hr0
  have HC0 := Aside0.mk hc0
  clear hr0 hc0
  have HR1 := Aside0.mk hr1
  have HC1 := Aside0.mk hc1
  clear hr1 hc1
  have H : (if (l0.length : Int) = (l1.length : Int) then (api_Desc.l0 k l0 l1 (l0.length : Int) 0) else (some false)) = some r := h
  clear h
  by_cases c3 : (l0.length : Int) = (l1.length : Int)
  · rw [if_pos c3] at H
    have c3b0 : ((l0.length : Int) == (l1.length : Int)) = true := beq_iff_eq.mpr c3
    have c3b1 : ((l0.length : Int) != (l1.length : Int)) = false := bne_eq_false_iff_eq.mpr c3
    have c3b2 : (l0.length == l1.length) = true := by first | simpa using c3 | (simp at c3 ⊢; omega)
    clear c3
    have H' := Aside0.mk H
    clear H
    go_enter Try.func34, Try.ntmps34
    go_wp2
    repeat (go_quiet (fail); try go_wp2)
    go_loopg [13] k (fun kq v13 w' => ∃ (x13_1 : Int), v13 = .int .i64 x13_1 ∧ Aside0 (api_Desc.l0 kq l0 l1 (l0.length : Int) x13_1 = some r) ∧ Aside0 (kq ≤ k) ∧ Drawn0 w w')
    case atStart => exact ⟨(0), (by first | rfl | (simp; done) | (simp [*]; done)), H', ⟨Nat.le_refl _⟩, by repeat (first | exact Drawn0.refl _ | apply Drawn0.step)⟩
    case round =>
      clear H'
      try clear c1
      try clear p2
      try clear c3
      try clear c3b0
      try clear c3b1
      try clear c3b2
      obtain ⟨x13_1, rfl, HA, HK1, ⟨m1, rfl⟩⟩ := hrel
      cases gk with
      | zero => exact absurd HA.out (by simp [api_Desc.l0])
      | succ k1 =>
        have H := HA.out
        clear HA
        simp only [api_Desc.l0] at H
        by_cases c4 : x13_1 < (l0.length : Int)
        · rw [if_pos c4] at H
          have c4b0 : decide (x13_1 < (l0.length : Int)) = true := decide_eq_true c4
          clear c4
          by_cases c5 : 0 ≤ x13_1
          · rw [if_pos c5] at H
            have c5b0 : decide (0 ≤ x13_1) = true := decide_eq_true c5
            clear c5
            by_cases c6 : x13_1 < (l0.length : Int)
            · rw [if_pos c6] at H
              have c6b0 : decide (x13_1 < (l0.length : Int)) = true := decide_eq_true c6
              clear c6
              by_cases c7 : x13_1 < (l1.length : Int)
              · rw [if_pos c7] at H
                have c7b0 : decide (x13_1 < (l1.length : Int)) = true := decide_eq_true c7
                clear c7
                by_cases c8 : (!(((rd_T57 l0 x13_1).f0) == ((rd_T57 l1 x13_1).f0)) || (!(((rd_T57 l0 x13_1).f1) == ((rd_T57 l1 x13_1).f1)) || (!(((rd_T57 l0 x13_1).f2) == ((rd_T57 l1 x13_1).f2))))) = true
                · rw [if_pos c8] at H
                  have c8b0 : (!(((rd_T57 l0 x13_1).f0) == ((rd_T57 l1 x13_1).f0)) || (!(((rd_T57 l0 x13_1).f1) == ((rd_T57 l1 x13_1).f1)) || (!(((rd_T57 l0 x13_1).f2) == ((rd_T57 l1 x13_1).f2))))) = true := c8
                  clear c8
                  obtain rfl := Option.some.inj H
                  have p350 : 0 ≤ (x13_1 : Int) := of_decide_eq_true (by first | (with_reducible assumption) | assumption)
                  have q350 : x13_1 < (l0.length : Int) := of_decide_eq_true (by first | (with_reducible assumption) | assumption)
                  obtain ⟨ad350, e350, hx350_0, hx350_1, hx350_2⟩ := at_T57 HR0.out x13_1 p350 q350
                  cases e350
                  replace p350 := eq_true p350
                  replace q350 := eq_true q350
                  have p351 : 0 ≤ (x13_1 : Int) := of_decide_eq_true (by first | (with_reducible assumption) | assumption)
                  have q351 : x13_1 < (l1.length : Int) := of_decide_eq_true (by first | (with_reducible assumption) | assumption)
                  obtain ⟨ad351, e351, hx351_0, hx351_1, hx351_2⟩ := at_T57 HR1.out x13_1 p351 q351
                  cases e351
                  replace p351 := eq_true p351
                  replace q351 := eq_true q351
                  go_wp2
                  repeat (go_quiet (fail); try go_wp2)
                  go_ret
                  exact ⟨by first | rfl | (simp; done) | (simp [*]; done), by repeat (first | exact Drawn0.refl _ | apply Drawn0.step)⟩
                · rw [if_neg c8] at H
                  have c8b0 : (!(((rd_T57 l0 x13_1).f0) == ((rd_T57 l1 x13_1).f0)) || (!(((rd_T57 l0 x13_1).f1) == ((rd_T57 l1 x13_1).f1)) || (!(((rd_T57 l0 x13_1).f2) == ((rd_T57 l1 x13_1).f2))))) = false := by simpa using c8
                  clear c8
                  have H' := Aside0.mk H
                  clear H
                  have p350 : 0 ≤ (x13_1 : Int) := of_decide_eq_true (by first | (with_reducible assumption) | assumption)
                  have q350 : x13_1 < (l0.length : Int) := of_decide_eq_true (by first | (with_reducible assumption) | assumption)
                  obtain ⟨ad350, e350, hx350_0, hx350_1, hx350_2⟩ := at_T57 HR0.out x13_1 p350 q350
                  cases e350
                  replace p350 := eq_true p350
                  replace q350 := eq_true q350
                  have p351 : 0 ≤ (x13_1 : Int) := of_decide_eq_true (by first | (with_reducible assumption) | assumption)
                  have q351 : x13_1 < (l1.length : Int) := of_decide_eq_true (by first | (with_reducible assumption) | assumption)
                  obtain ⟨ad351, e351, hx351_0, hx351_1, hx351_2⟩ := at_T57 HR1.out x13_1 p351 q351
                  cases e351
                  replace p351 := eq_true p351
                  replace q351 := eq_true q351
                  go_wp2
                  repeat (go_quiet (fail); try go_wp2)
                  go_roundg k1
                  case measure => have := HK1.out; omega
                  case rel => exact ⟨(wrap64 (x13_1 + 1)), (by first | rfl | (simp; done) | (simp [*]; done)), H', ⟨by have := HK1.out; omega⟩, by repeat (first | exact Drawn0.refl _ | apply Drawn0.step)⟩
              · rw [if_neg c7] at H
                exact absurd H (by simp)
            · rw [if_neg c6] at H
              exact absurd H (by simp)
          · rw [if_neg c5] at H
            exact absurd H (by simp)
        · rw [if_neg c4] at H
          have c4b0 : decide (x13_1 < (l0.length : Int)) = false := decide_eq_false c4
          clear c4
          obtain rfl := Option.some.inj H
          go_wp2
          repeat (go_quiet (fail); try go_wp2)
          go_ret
          exact ⟨by first | rfl | (simp; done) | (simp [*]; done), by repeat (first | exact Drawn0.refl _ | apply Drawn0.step)⟩
  · rw [if_neg c3] at H
    have c3b0 : ((l0.length : Int) == (l1.length : Int)) = false := beq_eq_false_iff_ne.mpr c3
    have c3b1 : ((l0.length : Int) != (l1.length : Int)) = true := bne_iff_ne.mpr c3
    have c3b2 : (l0.length == l1.length) = false := by first | simpa using c3 | (simp at c3 ⊢; omega)
    obtain rfl := Option.some.inj H
    go_enter Try.func34, Try.ntmps34
    go_wp2
    repeat (go_quiet (fail); try go_wp2)
    go_ret
    exact ⟨by first | rfl | (simp; done) | (simp [*]; done), by repeat (first | exact Drawn0.refl _ | apply Drawn0.step)⟩
def slipwaylaw11_LayoutDescs.f (k : Nat) (l0 : List (S57)) (l1 : List Int) (a2 : Int) : Option (Bool) := (slipwaylaw11_live.f k).bind fun t352 => (if t352 = true then ((layout_EncodeDescs.f k l0).bind fun bt353 => ((slipwayref11_EncodeDescs.f k l0).bind fun bt357 => ((layout_DecodeDescs.f k l1 a2).bind fun bt361 => ((slipwayref11_DecodeDescs.f k l1 a2).bind fun bt365 => ((bytes_Equal.f bt353.1 bt357.1).bind fun t369 => (if t369 = true then (if bt353.2 = bt357.2 then ((api_Desc.f k bt361.1 bt365.1).bind fun t370 => (if t370 = true then (some (bt361.2 == bt365.2)) else (none))) else (none)) else (none))))))) else (none))
set_option maxHeartbeats 8000000 in
set_option maxRecDepth 100000 in
theorem slipwaylaw11_LayoutDescs.calls (k : Nat) (A0 : Option Addr) (c0 : Nat) (l0 : List (S57)) (A1 : Option Addr) (c1 : Nat) (l1 : List Int) (a2 : Int) (r : Bool) (w : World) (hr0 : Kd.C k57 w A0 l0.length l0) (hc0 : l0.length ≤ c0) (hr1 : Kd.C (Kd.int .u8) w A1 l1.length l1) (hc1 : l1.length ≤ c1) (h : slipwaylaw11_LayoutDescs.f k l0 l1 a2 = some r) :
    Calls Try.prog 6 #[.slice A0 l0.length c0, .slice A1 l1.length c1, .int .i64 a2] w fun e w' => e = .returned (.bool r) ∧ Below w.heap.size w w' := by
  have HR0 := Aside0.mk hr0
  have HC0 := Aside0.mk hc0
  clear hr0 hc0
  have HR1 := Aside0.mk hr1
  have HC1 := Aside0.mk hc1
  clear hr1 hc1
  have HB := Aside0.mk (Below.refl w.heap.size w)
  have H : ((slipwaylaw11_live.f k).bind fun t352 => (if t352 = true then ((layout_EncodeDescs.f k l0).bind fun bt353 => ((slipwayref11_EncodeDescs.f k l0).bind fun bt357 => ((layout_DecodeDescs.f k l1 a2).bind fun bt361 => ((slipwayref11_DecodeDescs.f k l1 a2).bind fun bt365 => ((bytes_Equal.f bt353.1 bt357.1).bind fun t369 => (if t369 = true then (if bt353.2 = bt357.2 then ((api_Desc.f k bt361.1 bt365.1).bind fun t370 => (if t370 = true then (some (bt361.2 == bt365.2)) else (none))) else (none)) else (none))))))) else (none))) = some r := h
  clear h
  replace H := Option.bind_eq_some_iff.mp H
  obtain ⟨t352, A40, H⟩ := H
  replace H : (if t352 = true then ((layout_EncodeDescs.f k l0).bind fun bt353 => ((slipwayref11_EncodeDescs.f k l0).bind fun bt357 => ((layout_DecodeDescs.f k l1 a2).bind fun bt361 => ((slipwayref11_DecodeDescs.f k l1 a2).bind fun bt365 => ((bytes_Equal.f bt353.1 bt357.1).bind fun t369 => (if t369 = true then (if bt353.2 = bt357.2 then ((api_Desc.f k bt361.1 bt365.1).bind fun t370 => (if t370 = true then (some (bt361.2 == bt365.2)) else (none))) else (none)) else (none))))))) else (none)) = some r := H
  have A4 := Aside0.mk A40
  clear A40
  by_cases c5 : t352 = true
  · subst c5
    have H1 : ((layout_EncodeDescs.f k l0).bind fun bt353 => ((slipwayref11_EncodeDescs.f k l0).bind fun bt357 => ((layout_DecodeDescs.f k l1 a2).bind fun bt361 => ((slipwayref11_DecodeDescs.f k l1 a2).bind fun bt365 => ((bytes_Equal.f bt353.1 bt357.1).bind fun t369 => (if t369 = true then (if bt353.2 = bt357.2 then ((api_Desc.f k bt361.1 bt365.1).bind fun t370 => (if t370 = true then (some (bt361.2 == bt365.2)) else (none))) else (none)) else (none))))))) = some r := by rw [if_pos rfl] at H; exact H
    clear H
    have H := H1
    clear H1
    replace H := Option.bind_eq_some_iff.mp H
    obtain ⟨⟨t353, t354⟩, A60, H⟩ := H
    replace H : ((slipwayref11_EncodeDescs.f k l0).bind fun bt357 => ((layout_DecodeDescs.f k l1 a2).bind fun bt361 => ((slipwayref11_DecodeDescs.f k l1 a2).bind fun bt365 => ((bytes_Equal.f t353 bt357.1).bind fun t369 => (if t369 = true then (if t354 = bt357.2 then ((api_Desc.f k bt361.1 bt365.1).bind fun t370 => (if t370 = true then (some (bt361.2 == bt365.2)) else (none))) else (none)) else (none)))))) = some r := H
    have A6 := Aside0.mk A60
    clear A60
    replace H := Option.bind_eq_some_iff.mp H
    obtain ⟨⟨t357, t358⟩, A70, H⟩ := H
    replace H : ((layout_DecodeDescs.f k l1 a2).bind fun bt361 => ((slipwayref11_DecodeDescs.f k l1 a2).bind fun bt365 => ((bytes_Equal.f t353 t357).bind fun t369 => (if t369 = true then (if t354 = t358 then ((api_Desc.f k bt361.1 bt365.1).bind fun t370 => (if t370 = true then (some (bt361.2 == bt365.2)) else (none))) else (none)) else (none))))) = some r := H
    have A7 := Aside0.mk A70
    clear A70
    replace H := Option.bind_eq_some_iff.mp H
    obtain ⟨⟨t361, t362⟩, A80, H⟩ := H
    replace H : ((slipwayref11_DecodeDescs.f k l1 a2).bind fun bt365 => ((bytes_Equal.f t353 t357).bind fun t369 => (if t369 = true then (if t354 = t358 then ((api_Desc.f k t361 bt365.1).bind fun t370 => (if t370 = true then (some (t362 == bt365.2)) else (none))) else (none)) else (none)))) = some r := H
    have A8 := Aside0.mk A80
    clear A80
    replace H := Option.bind_eq_some_iff.mp H
    obtain ⟨⟨t365, t366⟩, A90, H⟩ := H
    replace H : ((bytes_Equal.f t353 t357).bind fun t369 => (if t369 = true then (if t354 = t358 then ((api_Desc.f k t361 t365).bind fun t370 => (if t370 = true then (some (t362 == t366)) else (none))) else (none)) else (none))) = some r := H
    have A9 := Aside0.mk A90
    clear A90
    replace H := Option.bind_eq_some_iff.mp H
    obtain ⟨t369, A100, H⟩ := H
    replace H : (if t369 = true then (if t354 = t358 then ((api_Desc.f k t361 t365).bind fun t370 => (if t370 = true then (some (t362 == t366)) else (none))) else (none)) else (none)) = some r := H
    have A10 := Aside0.mk A100
    clear A100
    by_cases c11 : t369 = true
    · subst c11
      have H1 : (if t354 = t358 then ((api_Desc.f k t361 t365).bind fun t370 => (if t370 = true then (some (t362 == t366)) else (none))) else (none)) = some r := by rw [if_pos rfl] at H; exact H
      clear H
      have H := H1
      clear H1
      by_cases c12 : t354 = t358
      · rw [if_pos c12] at H
        have c12b0 : (t354 == t358) = true := beq_iff_eq.mpr c12
        have c12b1 : (t354 != t358) = false := bne_eq_false_iff_eq.mpr c12
        clear c12
        replace H := Option.bind_eq_some_iff.mp H
        obtain ⟨t370, A130, H⟩ := H
        replace H : (if t370 = true then (some (t362 == t366)) else (none)) = some r := H
        have A13 := Aside0.mk A130
        clear A130
        by_cases c14 : t370 = true
        · subst c14
          have H1 : (some (t362 == t366)) = some r := by rw [if_pos rfl] at H; exact H
          clear H
          have H := H1
          clear H1
          obtain rfl := Option.some.inj H
          go_enter Try.func6, Try.ntmps6
          go_wp2_with (first | ((with_reducible refine gate_callee (f := 10) rfl ?_); refine goesL_ (some 15) rfl rfl Try.func10 (by kernel_rfl) rfl #[] rfl (by (try simp only [List.map_toArray, List.map_cons, List.map_nil]); first | done | rfl | (simp only [List.length_drop, List.length_take]; rfl)) ?_; (with_reducible refine (slipwaylaw11_live.calls k  true _ A4.out).mono ?_); rintro e w15 ⟨rfl, hb⟩; refine ⟨_, rfl, ?_⟩; have n0_ := Aside0.mk (below_step (by repeat (first | (with_reducible first | exact HB.out | apply below_alloc | apply pw_below_drewN | apply below_drew1) | exact HB.out)) hb); clear HB; have HB := n0_; clear n0_; (try clear hb); (try clear hb2); (try clear hk); (try clear hi)) | ((with_reducible refine gate_callee (f := 29) rfl ?_); refine goesL_ (some 19) rfl rfl Try.func29 (by kernel_rfl) rfl #[.slice A0 l0.length c0] rfl (by (try simp only [List.map_toArray, List.map_cons, List.map_nil]); first | done | rfl | (simp only [List.length_drop, List.length_take]; rfl)) ?_; (with_reducible refine (layout_EncodeDescs.calls k _ _ l0 t353 t354 _ ?side1 ?side2 A6.out).mono ?_); (case side1 => repeat (first | exact (Kd.C_below HR0.out HB.out) | (with_reducible refine Kd.C_alloc ?_ _) | (with_reducible refine Kd.C_drewN ?_ _) | (with_reducible refine Kd.C_drew ?_))); (case side2 => exact HC0.out); rintro e w16 ⟨v355, rfl, ho0, hb⟩; refine ⟨_, rfl, ?_⟩; have n0_ := Aside0.mk (Kd.R_lower ho0 (below_size (by repeat (first | (with_reducible first | exact HB.out | apply below_alloc | apply pw_below_drewN | apply below_drew1) | exact HB.out)))); have n1_ := Aside0.mk (below_step (by repeat (first | (with_reducible first | exact HB.out | apply below_alloc | apply pw_below_drewN | apply below_drew1) | exact HB.out)) hb); clear HB; have HO356 := n0_; have HB := n1_; clear n0_ n1_; (try clear hb); (try clear hb2); (try clear hk); (try clear hi); (try clear ho0)) | ((with_reducible refine gate_callee (f := 30) rfl ?_); refine goesL_ (some 24) rfl rfl Try.func30 (by kernel_rfl) rfl #[.slice A0 l0.length c0] rfl (by (try simp only [List.map_toArray, List.map_cons, List.map_nil]); first | done | rfl | (simp only [List.length_drop, List.length_take]; rfl)) ?_; (with_reducible refine (slipwayref11_EncodeDescs.calls k _ _ l0 t357 t358 _ ?side1 ?side2 A7.out).mono ?_); (case side1 => repeat (first | exact (Kd.C_below HR0.out HB.out) | (with_reducible refine Kd.C_alloc ?_ _) | (with_reducible refine Kd.C_drewN ?_ _) | (with_reducible refine Kd.C_drew ?_))); (case side2 => exact HC0.out); rintro e w17 ⟨v359, rfl, ho0, hb⟩; refine ⟨_, rfl, ?_⟩; have n0_ := Aside0.mk (Kd.R_elder' (by (with_reducible repeat (first | apply Kd.R_alloc | apply Kd.R_drewN | apply Kd.R_drew)); exact HO356.out) (Kd.R_base ho0) hb); have n1_ := Aside0.mk (Kd.R_lower (Kd.R_new' ho0 (Kd.R_lt (by (with_reducible repeat (first | apply Kd.R_alloc | apply Kd.R_drewN | apply Kd.R_drew)); exact HO356.out))) (below_size (by repeat (first | (with_reducible first | exact HB.out | apply below_alloc | apply pw_below_drewN | apply below_drew1) | exact HB.out)))); have n2_ := Aside0.mk (below_step (by repeat (first | (with_reducible first | exact HB.out | apply below_alloc | apply pw_below_drewN | apply below_drew1) | exact HB.out)) hb); clear HO356; clear HB; have HO356 := n0_; have HO360 := n1_; have HB := n2_; clear n0_ n1_ n2_; (try clear hb); (try clear hb2); (try clear hk); (try clear hi); (try clear ho0)) | ((with_reducible refine gate_callee (f := 31) rfl ?_); refine goesL_ (some 30) rfl rfl Try.func31 (by kernel_rfl) rfl #[.slice A1 l1.length c1, .int .i64 a2] rfl (by (try simp only [List.map_toArray, List.map_cons, List.map_nil]); first | done | rfl | (simp only [List.length_drop, List.length_take]; rfl)) ?_; (with_reducible refine (layout_DecodeDescs.calls k _ _ l1 a2 t361 t362 _ ?side1 ?side2 A8.out).mono ?_); (case side1 => repeat (first | exact (Kd.C_below HR1.out HB.out) | (with_reducible refine Kd.C_alloc ?_ _) | (with_reducible refine Kd.C_drewN ?_ _) | (with_reducible refine Kd.C_drew ?_))); (case side2 => exact HC1.out); rintro e w18 ⟨v363, rfl, ho0, hb⟩; refine ⟨_, rfl, ?_⟩; have n0_ := Aside0.mk (Kd.R_below (by (with_reducible repeat (first | apply Kd.R_alloc | apply Kd.R_drewN | apply Kd.R_drew)); exact HO356.out) hb); have n1_ := Aside0.mk (Kd.R_below (by (with_reducible repeat (first | apply Kd.R_alloc | apply Kd.R_drewN | apply Kd.R_drew)); exact HO360.out) hb); have n2_ := Aside0.mk (Kd.R_lower ho0 (below_size (by repeat (first | (with_reducible first | exact HB.out | apply below_alloc | apply pw_below_drewN | apply below_drew1) | exact HB.out)))); have n3_ := Aside0.mk (below_step (by repeat (first | (with_reducible first | exact HB.out | apply below_alloc | apply pw_below_drewN | apply below_drew1) | exact HB.out)) hb); clear HO356; clear HO360; clear HB; have HO356 := n0_; have HO360 := n1_; have HO364 := n2_; have HB := n3_; clear n0_ n1_ n2_ n3_; (try clear hb); (try clear hb2); (try clear hk); (try clear hi); (try clear ho0)) | ((with_reducible refine gate_callee (f := 32) rfl ?_); refine goesL_ (some 36) rfl rfl Try.func32 (by kernel_rfl) rfl #[.slice A1 l1.length c1, .int .i64 a2] rfl (by (try simp only [List.map_toArray, List.map_cons, List.map_nil]); first | done | rfl | (simp only [List.length_drop, List.length_take]; rfl)) ?_; (with_reducible refine (slipwayref11_DecodeDescs.calls k _ _ l1 a2 t365 t366 _ ?side1 ?side2 A9.out).mono ?_); (case side1 => repeat (first | exact (Kd.C_below HR1.out HB.out) | (with_reducible refine Kd.C_alloc ?_ _) | (with_reducible refine Kd.C_drewN ?_ _) | (with_reducible refine Kd.C_drew ?_))); (case side2 => exact HC1.out); rintro e w19 ⟨v367, rfl, ho0, hb⟩; refine ⟨_, rfl, ?_⟩; have n0_ := Aside0.mk (Kd.R_below (by (with_reducible repeat (first | apply Kd.R_alloc | apply Kd.R_drewN | apply Kd.R_drew)); exact HO356.out) hb); have n1_ := Aside0.mk (Kd.R_below (by (with_reducible repeat (first | apply Kd.R_alloc | apply Kd.R_drewN | apply Kd.R_drew)); exact HO360.out) hb); have n2_ := Aside0.mk (Kd.R_elder' (by (with_reducible repeat (first | apply Kd.R_alloc | apply Kd.R_drewN | apply Kd.R_drew)); exact HO364.out) (Kd.R_base ho0) hb); have n3_ := Aside0.mk (Kd.R_lower (Kd.R_new' ho0 (Kd.R_lt (by (with_reducible repeat (first | apply Kd.R_alloc | apply Kd.R_drewN | apply Kd.R_drew)); exact HO364.out))) (below_size (by repeat (first | (with_reducible first | exact HB.out | apply below_alloc | apply pw_below_drewN | apply below_drew1) | exact HB.out)))); have n4_ := Aside0.mk (below_step (by repeat (first | (with_reducible first | exact HB.out | apply below_alloc | apply pw_below_drewN | apply below_drew1) | exact HB.out)) hb); clear HO356; clear HO360; clear HO364; clear HB; have HO356 := n0_; have HO360 := n1_; have HO364 := n2_; have HO368 := n3_; have HB := n4_; clear n0_ n1_ n2_ n3_ n4_; (try clear hb); (try clear hb2); (try clear hk); (try clear hi); (try clear ho0); obtain ⟨Ao20, co20, eo20⟩ := Kd.R_slice HO356.out; subst eo20; obtain ⟨Ao21, co21, eo21⟩ := Kd.R_slice HO360.out; subst eo21) | ((with_reducible refine gate_callee (f := 33) rfl ?_); refine goesL_ (some 41) rfl rfl Try.func33 (by kernel_rfl) rfl #[.slice Ao20 t353.length co20, .slice Ao21 t357.length co21] rfl (by (try simp only [List.map_toArray, List.map_cons, List.map_nil]); first | done | rfl | (simp only [List.length_drop, List.length_take]; rfl)) ?_; (with_reducible refine (bytes_Equal.calls _ _ t353 _ _ t357 true _ ?side1 ?side2 ?side3 ?side4 A10.out).mono ?_); (case side1 => repeat (first | exact (Kd.R_reads' HO356.out).2.2 | (with_reducible refine Kd.C_alloc ?_ _) | (with_reducible refine Kd.C_drewN ?_ _) | (with_reducible refine Kd.C_drew ?_))); (case side2 => exact (Kd.R_reads' HO356.out).2.1); (case side3 => repeat (first | exact (Kd.R_reads' HO360.out).2.2 | (with_reducible refine Kd.C_alloc ?_ _) | (with_reducible refine Kd.C_drewN ?_ _) | (with_reducible refine Kd.C_drew ?_))); (case side4 => exact (Kd.R_reads' HO360.out).2.1); rintro e w' ⟨rfl, ⟨nd, rfl⟩⟩; refine ⟨_, rfl, ?_⟩; obtain ⟨Ao22, co22, eo22⟩ := Kd.R_slice HO364.out; subst eo22; obtain ⟨Ao23, co23, eo23⟩ := Kd.R_slice HO368.out; subst eo23) | (go_at_call 34; (with_reducible refine (api_Desc.calls k _ _ t361 _ _ t365 true _ ?side1 ?side2 ?side3 ?side4 A13.out).mono ?_); (case side1 => repeat (first | exact (Kd.R_reads' HO364.out).2.2 | (with_reducible refine Kd.C_alloc ?_ _) | (with_reducible refine Kd.C_drewN ?_ _) | (with_reducible refine Kd.C_drew ?_))); (case side2 => exact (Kd.R_reads' HO364.out).2.1); (case side3 => repeat (first | exact (Kd.R_reads' HO368.out).2.2 | (with_reducible refine Kd.C_alloc ?_ _) | (with_reducible refine Kd.C_drewN ?_ _) | (with_reducible refine Kd.C_drew ?_))); (case side4 => exact (Kd.R_reads' HO368.out).2.1); rintro e w' ⟨rfl, ⟨nd, rfl⟩⟩))
          go_ret
          exact ⟨by first | rfl | (simp [errW_none, errW_some] <;> rfl) | (simp [*, errW_none, errW_some] <;> rfl), by repeat (first | (with_reducible first | exact HB.out | apply below_alloc | apply pw_below_drewN | apply below_drew1) | exact HB.out)⟩
        · replace c14 := Bool.eq_false_iff.mpr c14
          subst c14
          have H1 : (none) = some r := by rw [if_neg (show ¬ (false = true) by decide)] at H; exact H
          clear H
          have H := H1
          clear H1
          exact absurd H (by simp)
      · rw [if_neg c12] at H
        exact absurd H (by simp)
    · replace c11 := Bool.eq_false_iff.mpr c11
      subst c11
      have H1 : (none) = some r := by rw [if_neg (show ¬ (false = true) by decide)] at H; exact H
      clear H
      have H := H1
      clear H1
      exact absurd H (by simp)
  · replace c5 := Bool.eq_false_iff.mpr c5
    subst c5
    have H1 : (none) = some r := by rw [if_neg (show ¬ (false = true) by decide)] at H; exact H
    clear H
    have H := H1
    clear H1
    exact absurd H (by simp)
/-- THE ONE PURE STATEMENT of slipwaylaw11_LayoutDescs: yours. -/
def slipwaylaw11_LayoutDescs.Pure : Prop := ∀ (l0 : List (S57)) (l1 : List Int) (a2 : Int), (l0.length ≤ maxLen ∧ l0.length * 24 ≤ 140737488351232 ∧ ∀ x ∈ l0, ((Lit.int .i64 x.f0).wf = true ∧ ((Lit.int .i64 x.f1).wf = true ∧ (Lit.int .i64 x.f2).wf = true))) → (l1.length ≤ maxLen ∧ l1.length * 1 ≤ 140737488351232 ∧ ∀ x ∈ l1, (Lit.int .u8 x).wf = true) → (Lit.int .i64 a2).wf = true → ∃ k, slipwaylaw11_LayoutDescs.f k l0 l1 a2 = some true
theorem slipwaylaw11_LayoutDescs.walk (P : slipwaylaw11_LayoutDescs.Pure) (A0 : Option Addr) (c0 : Nat) (l0 : List (S57)) (A1 : Option Addr) (c1 : Nat) (l1 : List Int) (a2 : Int) (w : World) (hr0 : Kd.C k57 w A0 l0.length l0) (hc0 : l0.length ≤ c0) (hr1 : Kd.C (Kd.int .u8) w A1 l1.length l1) (hc1 : l1.length ≤ c1) (w0 : (l0.length ≤ maxLen ∧ l0.length * 24 ≤ 140737488351232 ∧ ∀ x ∈ l0, ((Lit.int .i64 x.f0).wf = true ∧ ((Lit.int .i64 x.f1).wf = true ∧ (Lit.int .i64 x.f2).wf = true)))) (w1 : (l1.length ≤ maxLen ∧ l1.length * 1 ≤ 140737488351232 ∧ ∀ x ∈ l1, (Lit.int .u8 x).wf = true)) (w2 : (Lit.int .i64 a2).wf = true) :
    Calls Try.prog 6 #[.slice A0 l0.length c0, .slice A1 l1.length c1, .int .i64 a2] w fun e w' => e = .returned (.bool true) ∧ Below w.heap.size w w' := by
  obtain ⟨k, h⟩ := P l0 l1 a2 w0 w1 w2
  refine (slipwaylaw11_LayoutDescs.calls k A0 c0 l0 A1 c1 l1 a2 true w hr0 hc0 hr1 hc1 h).mono ?_
  rintro e w' ⟨rfl, hd⟩
  exact ⟨rfl, hd⟩
end Go.Proofs.Ytbdnmdmfnopihaa.Print
end
section
namespace Go.Proofs.Ytbdnmdmfnopihaa.SMath
set_option linter.unusedVariables false
set_option linter.unusedSimpArgs false
open Go.RowKit Go.Proofs.YtbdnmdmfnopihaaW.PrintWords Go.Proofs.YtbdnmdmfnopihaaW.PrintMore
/-- A byte. -/
def Byte (x : Int) : Prop := 0 ≤ x ∧ x < 256
/-- A list of bytes. -/
def Bytes (l : List Int) : Prop := ∀ x ∈ l, Byte x
theorem wf_u8 {x : Int} (h : (Lit.int .u8 x).wf = true) : Byte x := by
  simp [Lit.wf, IntKind.min, IntKind.max, IntKind.signed, IntKind.bits] at h
  unfold Byte; omega
theorem bytes_of_wf {l : List Int} (h : ∀ x ∈ l, (Lit.int .u8 x).wf = true) : Bytes l := fun x hx => wf_u8 (h x hx)
/-- How many of a byte's bits are 0. -/
def z8 (c : Int) : Int := 8 - (c % 2 + c / 2 % 2 + c / 4 % 2 + c / 8 % 2 + c / 16 % 2 + c / 32 % 2 + c / 64 % 2 + c / 128 % 2)
def zeros : List Int → Int
  | [] => 0
  | c :: l => z8 c + zeros l
theorem byte_nat {x : Int} (h : Byte x) : ∃ n : Nat, x = n ∧ n < 256 := ⟨x.toNat, by unfold Byte at h; omega, by unfold Byte at h; omega⟩
theorem and_one_u8 (x : Int) (h0 : 0 ≤ x) (h1 : x < 256) : Go.bits .and .u8 x 1 = x % 2 := by
  have := bits_mask .u8 8 (by decide) wraps_u8 1 (by decide) x h0 (by simpa using h1)
  simpa using this
theorem wraps_u64 (n : Int) (h₀ : 0 ≤ n) (h₁ : n < 2 ^ 64) : IntKind.u64.wrap n = n := by
  simp [IntKind.wrap, IntKind.bits, IntKind.signed]
  omega
theorem wrap_u64 (n : Int) : IntKind.u64.wrap n = n % 18446744073709551616 := by simp [IntKind.wrap, IntKind.bits, IntKind.signed]
theorem u64_id {n : Int} (h0 : 0 ≤ n) (h1 : n < 18446744073709551616) : IntKind.u64.wrap n = n := by rw [wrap_u64]; omega
theorem and_one_u64 (x : Int) (h0 : 0 ≤ x) (h1 : x < 18446744073709551616) : Go.bits .and .u64 x 1 = x % 2 := by
  have := bits_mask .u64 64 (by decide) wraps_u64 1 (by decide) x h0 (by simpa using h1)
  simpa using this
theorem shr_at (k : IntKind) (x : Int) (i : Nat) (h : i ≤ k.bits) : shr k x (i : Int) = x / 2 ^ i := by
  unfold shr
  rw [Int.toNat_natCast, Nat.min_eq_left h]
theorem shr_range {k : IntKind} {x : Int} (i : Int) {m : Int} (h0 : 0 ≤ x) (h1 : x < m) : 0 ≤ shr k x i ∧ shr k x i < m := by
  unfold shr
  have h2 : (0 : Int) < 2 ^ min i.toNat k.bits := Int.pow_pos (by decide)
  constructor
  · exact Int.ediv_nonneg h0 (by omega)
  · have := Int.ediv_le_self (2 ^ min i.toNat k.bits) h0
    omega
theorem bit_test (c : Int) (hc : Byte c) (i : Nat) (hi : i ≤ 8) : Go.bits .and .u8 (shr .u8 c (i : Int)) 1 = (c / 2 ^ i) % 2 := by
  have h2 := shr_range (k := .u8) (i : Int) hc.1 hc.2
  rw [and_one_u8 _ h2.1 h2.2, shr_at .u8 c i hi]
/-- a has each 1 bit of b. -/
def cov (a b : Int) : Prop := ∀ i < 8, (b / 2 ^ i) % 2 ≤ (a / 2 ^ i) % 2
theorem or_u8 (a b : Nat) (ha : a < 256) (hb : b < 256) : Go.bits .or .u8 a b = ((a ||| b : Nat) : Int) := (bits_nat .u8 8 (by decide) wraps_u8 a b ha hb).2
theorem testBit_high {a i : Nat} (ha : a < 256) (hi : ¬ i < 8) : a.testBit i = false := Nat.testBit_lt_two_pow (Nat.lt_of_lt_of_le ha (by have : 2 ^ 8 ≤ 2 ^ i := Nat.pow_le_pow_right (by decide) (by omega); simpa using this))
theorem cov_refl (a : Int) : cov a a := fun _ _ => Int.le_refl _
/-- Each byte of a covers b's. -/
def Cov : List Int → List Int → Prop
  | [], [] => True
  | a :: l, b :: m => cov a b ∧ Cov l m
  | _, _ => False
theorem Cov.len : ∀ {l m : List Int}, Cov l m → l.length = m.length
  | [], [], _ => rfl
  | _ :: l, _ :: m, h => by simp [Cov.len (l := l) (m := m) h.2]
  | [], _ :: _, h => h.elim
  | _ :: _, [], h => h.elim
theorem Cov.refl : ∀ l, Cov l l
  | [] => trivial
  | a :: l => ⟨cov_refl a, Cov.refl l⟩
theorem Cov.append : ∀ {l m l' m' : List Int}, l.length = m.length → (Cov (l ++ l') (m ++ m') ↔ Cov l m ∧ Cov l' m')
  | [], [], _, _, _ => by simp [Cov]
  | a :: l, b :: m, l', m', h => by
    have ih := Cov.append (l := l) (m := m) (l' := l') (m' := m') (by simpa using h)
    simp only [List.cons_append, Cov, ih, and_assoc]
  | [], _ :: _, _, _, h => by simp at h
  | _ :: _, [], _, _, h => by simp at h
end Go.Proofs.Ytbdnmdmfnopihaa.SMath
end
section
namespace Go.Proofs.Ytbdnmdmfnopihaa.SealEv
set_option linter.unusedVariables false
set_option linter.unusedSimpArgs false
open Go.RowKit Go.Proofs.Ytbdnmdmfnopihaa.Print Go.Proofs.Ytbdnmdmfnopihaa.SMath Go.Proofs.YtbdnmdmfnopihaaW.PrintWords Go.Proofs.YtbdnmdmfnopihaaW.PrintLast Go.Proofs.YtbdnmdmfnopihaaW.PrintMore
theorem w64 {n : Int} (h0 : -9223372036854775808 ≤ n) (h1 : n ≤ 9223372036854775807) : wrap64 n = n := by unfold wrap64; omega
theorem rd_nat (l : List Int) (i : Nat) (h : i < l.length) : rd l (i : Int) = l[i] := by simp [rd, List.getD_eq_getElem?_getD, h]
theorem byte_at {l : List Int} (hl : Bytes l) (i : Nat) (h : i < l.length) : Byte l[i] := hl _ (List.getElem_mem h)
theorem bytes_drop {l : List Int} (h : Bytes l) (n : Nat) : Bytes (l.drop n) := fun x hx => h x (List.mem_of_mem_drop hx)
theorem bytes_append {a b : List Int} (ha : Bytes a) (hb : Bytes b) : Bytes (a ++ b) := fun x hx => (List.mem_append.1 hx).elim (ha x) (hb x)
theorem Ev.iff_pos {α : Type} {c : Prop} [Decidable c] {g f : Nat → Option α} {r : α} (h : c) (k : Ev g r) : Ev (fun n => if c then g n else f n) r := k.imp fun _ hk n hn => (if_pos h).trans (hk n hn)
theorem Ev.iff_neg {α : Type} {c : Prop} [Decidable c] {g f : Nat → Option α} {r : α} (h : ¬ c) (k : Ev f r) : Ev (fun n => if c then g n else f n) r := k.imp fun _ hk n hn => (if_neg h).trans (hk n hn)
theorem Ev.bindS {α β : Type} {a : α} {f : Nat → α → Option β} {r : β} {g : Nat → Option α} (h : ∀ n, g n = some a) (k : Ev (fun n => f n a) r) : Ev (fun n => (g n).bind (f n)) r := Ev.bind ⟨0, fun n _ => h n⟩ k
theorem u64_small (j : Nat) (h : j ≤ 64) : IntKind.u64.wrap (j : Int) = (j : Int) := u64_id (by omega) (by omega)
theorem suc64 (i n : Nat) (h : i < n) (hn : n ≤ 140737488355328) : wrap64 ((i : Int) + 1) = ((i + 1 : Nat) : Int) := by rw [w64 (by omega) (by omega)]; rfl
theorem u8_inj {x y : Int} (hx : Byte x) (hy : Byte y) (h : UInt8.ofNat x.toNat = UInt8.ofNat y.toNat) : x = y := by
  have h1 := congrArg UInt8.toNat h
  simp only [UInt8.toNat_ofNat'] at h1
  unfold Byte at hx hy
  omega
theorem map_inj : ∀ {a b : List Int}, Bytes a → Bytes b → (a.map fun n => UInt8.ofNat n.toNat) = (b.map fun n => UInt8.ofNat n.toNat) → a = b
  | [], [], _, _, _ => rfl
  | x :: a, y :: b, ha, hb, h => by
    simp only [List.map_cons, List.cons.injEq] at h
    rw [u8_inj (ha x (by simp)) (hb y (by simp)) h.1, map_inj (fun z hz => ha z (by simp [hz])) (fun z hz => hb z (by simp [hz])) h.2]
  | [], _ :: _, _, _, h => by simp at h
  | _ :: _, [], _, _, h => by simp at h
theorem bytes_equal {a b : List Int} (ha : Bytes a) (hb : Bytes b) : bytes_Equal.f a b = some (decide (a = b)) := by
  unfold bytes_Equal.f
  rw [Lib.strOfNums_toList, Lib.strOfNums_toList]
  congr 1
  by_cases h : a = b
  · subst h
    simp
  · have : ¬ (Lib.bytesOf a = Lib.bytesOf b) := fun e => h (map_inj ha hb e)
    simp [h, this]
end Go.Proofs.Ytbdnmdmfnopihaa.SealEv
end
section
namespace Go.Proofs.Ytbdnmdmfnopihaa.SealEv
set_option linter.unusedVariables false
set_option linter.unusedSimpArgs false
open Go.RowKit Go.Proofs.Ytbdnmdmfnopihaa.Print Go.Proofs.Ytbdnmdmfnopihaa.SMath Go.Proofs.YtbdnmdmfnopihaaW.PrintWords Go.Proofs.YtbdnmdmfnopihaaW.PrintLast Go.Proofs.YtbdnmdmfnopihaaW.PrintMore
set_option maxHeartbeats 2000000 in
theorem slices_equal_from (a b : List Int) (hlen : a.length = b.length) (hn : a.length ≤ 140737488355328) (d : Nat) : ∀ (i : Nat), i + d = a.length → a.take i = b.take i →
    Ev (fun k => slices_Equal_byte_byte.l0 k a b (a.length : Int) (i : Int)) (decide (a = b)) := by
  induction d with
  | zero =>
    intro i hi h
    have hab : a = b := by rw [List.take_of_length_le (by omega), List.take_of_length_le (by omega)] at h; exact h
    refine Ev.step (f := fun _ => some true) (fun k => ?_) (by simp only [hab, decide_true]; exact Ev.now _)
    simp only [slices_Equal_byte_byte.l0]
    rw [if_neg (by omega)]
  | succ d ih =>
    intro i hi h
    have h1 : i < a.length := by omega
    have h2 : i < b.length := by omega
    have hs := suc64 i a.length h1 hn
    by_cases he : a[i] = b[i]
    · refine Ev.step (f := fun k => slices_Equal_byte_byte.l0 k a b (a.length : Int) ((i + 1 : Nat) : Int)) (fun k => ?_) (ih (i + 1) (by omega) (by rw [List.take_succ_eq_append_getElem h1, List.take_succ_eq_append_getElem h2, h, he]))
      simp only [slices_Equal_byte_byte.l0]
      rw [if_pos (by omega), if_pos (by omega), if_pos (by omega), if_pos (by omega), rd_nat a i h1, rd_nat b i h2, if_pos he, hs]
    · have hab : ¬ a = b := fun e => he (by subst e; rfl)
      refine Ev.step (f := fun _ => some false) (fun k => ?_) (by simp only [hab, decide_false]; exact Ev.now _)
      simp only [slices_Equal_byte_byte.l0]
      rw [if_pos (by omega), if_pos (by omega), if_pos (by omega), if_pos (by omega), rd_nat a i h1, rd_nat b i h2, if_neg he]
theorem slices_equal (a b : List Int) (hn : a.length ≤ 140737488355328) : Ev (fun k => slices_Equal_byte_byte.f k a b) (decide (a = b)) := by
  unfold slices_Equal_byte_byte.f
  by_cases h : a.length = b.length
  · exact Ev.iff_pos (by omega) (slices_equal_from a b h hn a.length 0 (by omega) rfl)
  · have hab : ¬ a = b := fun e => h (by rw [e])
    simp only [hab, decide_false]
    exact Ev.iff_neg (by omega) (Ev.now _)
theorem or_i64 (i : Nat) (x y : Int) (hi : i ≤ 40) (hx0 : 0 ≤ x) (hx : x % 2 ^ i = 0) (hx1 : x < 2 ^ 40) (hy0 : 0 ≤ y) (hy : y < 2 ^ i) : Go.bits .or .i64 x y = x + y := by
  have hy1 : y < 2 ^ 40 := Int.lt_of_lt_of_le hy (by exact_mod_cast Nat.pow_le_pow_right (by decide) hi)
  exact bits_join .i64 40 (by decide) (fun n h0 h1 => by rw [IntKind.wrap_i64]; omega) i x y hx0 hx hx1 hy0 hy hy1
end Go.Proofs.Ytbdnmdmfnopihaa.SealEv
end
section
namespace Go.Proofs.Ytbdnmdmfnopihaa.DescEv
set_option linter.unusedVariables false
set_option linter.unusedSimpArgs false
open Go.RowKit Go.Proofs.Ytbdnmdmfnopihaa.Print Go.Proofs.Ytbdnmdmfnopihaa.SMath Go.Proofs.Ytbdnmdmfnopihaa.SealEv Go.Proofs.YtbdnmdmfnopihaaW.PrintWords Go.Proofs.YtbdnmdmfnopihaaW.PrintLast Go.Proofs.YtbdnmdmfnopihaaW.PrintMore
def DOK (d : S57) : Prop := (0 ≤ d.f0 ∧ d.f0 ≤ 65535) ∧ (0 ≤ d.f1 ∧ d.f1 ≤ 65535) ∧ (0 ≤ d.f2 ∧ d.f2 ≤ 65535)
def chunk (d : S57) : List Int := [d.f0 / 256 % 256, d.f0 % 256, d.f1 / 256 % 256, d.f1 % 256, d.f2 / 256 % 256, d.f2 % 256, 0, 0, 0, 0, 0, 0, 0, 0, 0, 0]
theorem chunk_len (d : S57) : (chunk d).length = 16 := rfl
def chunks (l : List S57) : List Int := l.flatMap chunk
theorem chunks_len : ∀ l : List S57, (chunks l).length = 16 * l.length
  | [] => rfl
  | d :: l => by
    have := chunks_len l
    simp only [chunks, List.flatMap_cons, List.length_append, chunk_len, List.length_cons] at this ⊢
    omega
theorem chunks_snoc (l : List S57) (d : S57) : chunks (l ++ [d]) = chunks l ++ chunk d := by simp [chunks]
def fin (l : List S57) : List Int := chunks l ++ List.replicate (256 - 16 * l.length) 0
theorem fin_len {l : List S57} (h : l.length ≤ 16) : (fin l).length = 256 := by
  unfold fin
  rw [List.length_append, chunks_len, List.length_replicate]
  omega
open Classical in
noncomputable def encR (l : List S57) : List Int × Int := if l.length ≤ 16 ∧ ∀ d ∈ l, DOK d then (fin l, 0) else ([], 1)
theorem set_pre (pre rest : List Int) (j : Nat) (v : Int) : (pre ++ rest).set (pre.length + j) v = pre ++ rest.set j v := by
  rw [List.set_append_right _ _ (by omega)]
  congr 2
  omega
theorem ix0 (i t : Nat) (hi : i < 16) (ht : t < 3) : wrap64 (wrap64 ((i : Int) * 16) + wrap64 (2 * (t : Int))) = ((16 * i + 2 * t : Nat) : Int) := by
  rw [w64 (n := (i : Int) * 16) (by omega) (by omega), w64 (n := 2 * (t : Int)) (by omega) (by omega), w64 (by omega) (by omega)]
  omega
theorem ix1 (i t : Nat) (hi : i < 16) (ht : t < 3) : wrap64 (((16 * i + 2 * t : Nat) : Int) + 1) = ((16 * i + (2 * t + 1) : Nat) : Int) := by
  rw [w64 (by omega) (by omega)]
  omega
set_option maxHeartbeats 2000000 in
theorem enc_step (pre rest : List Int) (i t : Nat) (x13 : List S57) (x14 x15 : Int) (c : List Int) (hlen : pre.length = 16 * i) (hr : pre.length + rest.length = 256) (hi : i < 16) (ht : t < 3) (hc : c.length = 3) (h0 : 0 ≤ c[t]) (h1 : c[t] ≤ 65535) {r : List Int × Int}
    (next : Ev (fun k => layout_EncodeDescs.l1 k (pre ++ (rest.set (2 * t) (c[t] / 256 % 256)).set (2 * t + 1) (c[t] % 256)) (i : Int) x13 x14 x15 c 3 ((t + 1 : Nat) : Int)) r) :
    Ev (fun k => layout_EncodeDescs.l1 k (pre ++ rest) (i : Int) x13 x14 x15 c 3 (t : Int)) r := by
  refine Ev.step (fun k => ?_) next
  have hl : (pre ++ rest).length = 256 := by rw [List.length_append]; exact hr
  have hs : wrap64 ((t : Int) + 1) = ((t + 1 : Nat) : Int) := by rw [w64 (by omega) (by omega)]; rfl
  simp only [layout_EncodeDescs.l1]
  rw [rd_nat c t (by omega), ix0 i t hi ht, ix1 i t hi ht, hl, hs, if_pos (by omega), if_pos (by omega), if_pos (by omega), if_neg (by omega), if_neg (by omega), if_pos (by omega), if_pos (by omega), if_pos (by omega), if_pos (by omega), Int.toNat_natCast, Int.toNat_natCast, ← hlen, set_pre, set_pre]
set_option maxHeartbeats 2000000 in
theorem enc_bad (s : List Int) (x5 : Int) (t : Nat) (x13 : List S57) (x14 x15 : Int) (c : List Int) (ht : t < 3) (hc : c.length = 3) (h0 : ¬ (0 ≤ c[t] ∧ c[t] ≤ 65535)) :
    Ev (fun k => layout_EncodeDescs.l1 k s x5 x13 x14 x15 c 3 (t : Int)) ([], 1) := by
  refine Ev.step (f := fun _ => some ([], 1)) (fun k => ?_) (Ev.now _)
  simp only [layout_EncodeDescs.l1]
  rw [rd_nat c t (by omega), if_pos (by omega), if_pos (by omega), if_pos (by omega)]
  by_cases h : c[t] < 0
  · rw [if_pos h]
  · rw [if_neg h, if_pos (by omega)]
theorem enc_end (s : List Int) (x5 : Int) (x13 : List S57) (x14 x15 : Int) (c : List Int) {r : List Int × Int} (next : Ev (fun k => layout_EncodeDescs.l0 k s x13 x14 (wrap64 (x15 + 1))) r) :
    Ev (fun k => layout_EncodeDescs.l1 k s x5 x13 x14 x15 c 3 3) r := by
  refine Ev.step (fun k => ?_) next
  simp only [layout_EncodeDescs.l1]
  rw [if_neg (by omega)]
theorem three_sets (m : Nat) (a b c d e f : Int) : ((((((List.replicate (16 + m) (0 : Int)).set 0 a).set 1 b).set 2 c).set 3 d).set 4 e).set 5 f = [a, b, c, d, e, f, 0, 0, 0, 0, 0, 0, 0, 0, 0, 0] ++ List.replicate m 0 := by
  rw [← List.replicate_append_replicate]
  rfl
set_option maxHeartbeats 2000000 in
theorem enc_one (pre : List Int) (i : Nat) (x13 : List S57) (x14 x15 : Int) (q : S57) (hlen : pre.length = 16 * i) (hi : i < 16) {r : List Int × Int}
    (good : DOK q → Ev (fun k => layout_EncodeDescs.l0 k (pre ++ chunk q ++ List.replicate (256 - 16 * (i + 1)) 0) x13 x14 (wrap64 (x15 + 1))) r) (bad : ¬ DOK q → r = ([], 1)) :
    Ev (fun k => layout_EncodeDescs.l1 k (pre ++ List.replicate (256 - 16 * i) 0) (i : Int) x13 x14 x15 [q.f0, q.f1, q.f2] 3 0) r := by
  have hm : 256 - 16 * i = 16 + (256 - 16 * (i + 1)) := by omega
  rw [hm]
  have hL : pre.length + (16 + (256 - 16 * (i + 1))) = 256 := by omega
  by_cases h0 : 0 ≤ q.f0 ∧ q.f0 ≤ 65535
  · refine enc_step pre _ i 0 x13 x14 x15 [q.f0, q.f1, q.f2] hlen (by rw [List.length_replicate]; exact hL) hi (by omega) rfl h0.1 h0.2 ?_
    by_cases h1 : 0 ≤ q.f1 ∧ q.f1 ≤ 65535
    · refine enc_step pre _ i 1 x13 x14 x15 [q.f0, q.f1, q.f2] hlen (by rw [List.length_set, List.length_set, List.length_replicate]; exact hL) hi (by omega) rfl h1.1 h1.2 ?_
      by_cases h2 : 0 ≤ q.f2 ∧ q.f2 ≤ 65535
      · refine enc_step pre _ i 2 x13 x14 x15 [q.f0, q.f1, q.f2] hlen (by rw [List.length_set, List.length_set, List.length_set, List.length_set, List.length_replicate]; exact hL) hi (by omega) rfl h2.1 h2.2 ?_
        have e := three_sets (256 - 16 * (i + 1)) (q.f0 / 256 % 256) (q.f0 % 256) (q.f1 / 256 % 256) (q.f1 % 256) (q.f2 / 256 % 256) (q.f2 % 256)
        have g := good ⟨h0, h1, h2⟩
        rw [List.append_assoc] at g
        have e' : ((((((List.replicate (16 + (256 - 16 * (i + 1))) (0 : Int)).set (2 * 0) ([q.f0, q.f1, q.f2][0] / 256 % 256)).set (2 * 0 + 1) ([q.f0, q.f1, q.f2][0] % 256)).set (2 * 1) ([q.f0, q.f1, q.f2][1] / 256 % 256)).set (2 * 1 + 1) ([q.f0, q.f1, q.f2][1] % 256)).set (2 * 2) ([q.f0, q.f1, q.f2][2] / 256 % 256)).set (2 * 2 + 1) ([q.f0, q.f1, q.f2][2] % 256) = chunk q ++ List.replicate (256 - 16 * (i + 1)) 0 := e
        rw [e']
        exact enc_end _ _ x13 x14 x15 _ g
      · rw [bad (fun h => h2 h.2.2)]
        exact enc_bad _ _ 2 x13 x14 x15 [q.f0, q.f1, q.f2] (by omega) rfl h2
    · rw [bad (fun h => h1 h.2.1)]
      exact enc_bad _ _ 1 x13 x14 x15 [q.f0, q.f1, q.f2] (by omega) rfl h1
  · rw [bad (fun h => h0 h.1)]
    exact enc_bad _ _ 0 x13 x14 x15 [q.f0, q.f1, q.f2] (by omega) rfl h0
theorem rdT (l : List S57) (i : Nat) (h : i < l.length) : rd_T57 l (i : Int) = l[i] := by simp [rd_T57, List.getD_eq_getElem?_getD, h]
set_option maxHeartbeats 2000000 in
theorem enc_from (l : List S57) (hn : l.length ≤ 16) (d : Nat) : ∀ (i : Nat), i + d = l.length → (∀ j, j < i → ∀ h : j < l.length, DOK l[j]) →
    Ev (fun k => layout_EncodeDescs.l0 k (chunks (l.take i) ++ List.replicate (256 - 16 * i) 0) l (l.length : Int) (i : Int)) (encR l) := by
  induction d with
  | zero =>
    intro i hi hg
    have hi' : i = l.length := by omega
    subst hi'
    have hall : l.length ≤ 16 ∧ ∀ d ∈ l, DOK d := ⟨hn, fun d hd => by obtain ⟨j, hj, rfl⟩ := List.getElem_of_mem hd; exact hg j hj hj⟩
    refine Ev.step (f := fun _ => some (fin l, 0)) (fun k => ?_) (by rw [encR, if_pos hall]; exact Ev.now _)
    simp only [layout_EncodeDescs.l0]
    rw [if_neg (by omega), List.take_length]
    rfl
  | succ d ih =>
    intro i hi hg
    have hlt : i < l.length := by omega
    have hs := suc64 i l.length hlt (by omega)
    refine Ev.step (f := fun k => layout_EncodeDescs.l1 k (chunks (l.take i) ++ List.replicate (256 - 16 * i) 0) (i : Int) l (l.length : Int) (i : Int) [l[i].f0, l[i].f1, l[i].f2] 3 0) (fun k => ?_) ?_
    · simp only [layout_EncodeDescs.l0]
      rw [if_pos (by omega), if_pos (by omega), if_pos (by omega), rdT l i hlt]
      rfl
    · refine enc_one _ i l (l.length : Int) (i : Int) l[i] (by rw [chunks_len, List.length_take]; omega) (by omega) (fun hq => ?_) (fun hq => ?_)
      · rw [hs, ← chunks_snoc, ← List.take_succ_eq_append_getElem hlt]
        refine ih (i + 1) (by omega) (fun j hj h => ?_)
        rcases Nat.lt_or_ge j i with h1 | h1
        · exact hg j h1 h
        · have : j = i := by omega
          subst this
          exact hq
      · rw [encR, if_neg (fun h => hq (h.2 _ (List.getElem_mem hlt)))]
theorem enc_ev (l : List S57) : Ev (fun k => layout_EncodeDescs.f k l) (encR l) := by
  unfold layout_EncodeDescs.f
  by_cases h : l.length ≤ 16
  · refine Ev.iff_neg (by omega) (Ev.iff_pos (by omega) ?_)
    exact enc_from l h l.length 0 (by omega) (fun j hj => by omega)
  · rw [encR, if_neg (fun h' => h h'.1)]
    exact Ev.iff_pos (by omega) (Ev.now _)
theorem chunk_bytes (d : S57) : Bytes (chunk d) := by
  intro x hx
  simp only [chunk, List.mem_cons, List.not_mem_nil, or_false] at hx
  unfold Byte
  omega
theorem chunks_bytes (l : List S57) : Bytes (chunks l) := by
  intro x hx
  obtain ⟨d, _, hd⟩ := List.mem_flatMap.1 hx
  exact chunk_bytes d x hd
theorem fin_bytes (l : List S57) : Bytes (fin l) := by
  refine bytes_append (chunks_bytes l) (fun x hx => ?_)
  rw [List.eq_of_mem_replicate hx]
  exact ⟨by omega, by omega⟩
def two (b : List Int) (p : Nat) : Int := b.getD p 0 * 256 + b.getD (p + 1) 0
def desc (b : List Int) (i : Nat) : S57 := ⟨two b (16 * i), two b (16 * i + 2), two b (16 * i + 4)⟩
def descs (b : List Int) (n : Nat) : List S57 := (List.range n).map (desc b)
theorem descs_succ (b : List Int) (n : Nat) : descs b (n + 1) = descs b n ++ [desc b n] := by simp [descs, List.range_succ]
theorem descs_len (b : List Int) (n : Nat) : (descs b n).length = n := by simp [descs]
set_option maxHeartbeats 2000000 in
theorem num_ev (b : List Int) (hb : Bytes b) (hl : b.length = 256) (i t : Nat) (hi : i < 16) (ht : t < 3) : layout_DecodeDescs_1.f (t : Int) (b.drop (16 * i)) = some (two b (16 * i + 2 * t)) := by
  unfold layout_DecodeDescs_1.f
  have e0 : wrap64 (2 * (t : Int)) = ((2 * t : Nat) : Int) := by rw [w64 (by omega) (by omega)]; omega
  have e1 : wrap64 (((2 * t : Nat) : Int) + 1) = ((2 * t + 1 : Nat) : Int) := by rw [w64 (by omega) (by omega)]; omega
  have hd : (b.drop (16 * i)).length = 256 - 16 * i := by rw [List.length_drop, hl]
  have h0 : 2 * t < (b.drop (16 * i)).length := by omega
  have h1 : 2 * t + 1 < (b.drop (16 * i)).length := by omega
  rw [e0, e1, if_pos (by omega), if_pos (by omega), if_pos (by omega), if_pos (by omega), rd_nat _ _ h0, rd_nat _ _ h1]
  have q0 : (b.drop (16 * i))[2 * t] = b.getD (16 * i + 2 * t) 0 := by simp [List.getElem_drop, List.getD_eq_getElem?_getD, show 16 * i + 2 * t < b.length by omega]
  have q1 : (b.drop (16 * i))[2 * t + 1] = b.getD (16 * i + 2 * t + 1) 0 := by
    have : 16 * i + (2 * t + 1) < b.length := by omega
    simp [List.getElem_drop, List.getD_eq_getElem?_getD, Nat.add_assoc, this]
  have b0 := bytes_drop hb (16 * i) _ (List.getElem_mem h0)
  have b1 := bytes_drop hb (16 * i) _ (List.getElem_mem h1)
  unfold Byte at b0 b1
  rw [w64 (n := (b.drop (16 * i))[2 * t]) (by omega) (by omega), w64 (n := (b.drop (16 * i))[2 * t] * 256) (by omega) (by omega), w64 (n := (b.drop (16 * i))[2 * t + 1]) (by omega) (by omega), or_i64 8 _ _ (by omega) (by omega) (by omega) (by omega) (by omega) (by omega), q0, q1]
  rfl
theorem two_range {b : List Int} (hb : Bytes b) (p : Nat) : 0 ≤ two b p ∧ two b p ≤ 65535 := by
  have h : ∀ q, Byte (b.getD q 0) := fun q => by
    rw [List.getD_eq_getElem?_getD]
    rcases Nat.lt_or_ge q b.length with hq | hq
    · rw [List.getElem?_eq_getElem hq]; exact hb _ (List.getElem_mem hq)
    · rw [List.getElem?_eq_none hq]; exact ⟨by decide, by decide⟩
  have h0 := h p
  have h1 := h (p + 1)
  unfold Byte at h0 h1
  unfold two
  omega
theorem descs_ok {b : List Int} (hb : Bytes b) (n : Nat) : ∀ d ∈ descs b n, DOK d := fun d hd => by
  obtain ⟨i, _, rfl⟩ := List.mem_map.1 hd
  exact ⟨two_range hb _, two_range hb _, two_range hb _⟩
open Classical in
noncomputable def decR (b : List Int) (n : Int) : List S57 × Int := if n < 0 ∨ n > 16 then ([], 1) else if b.length ≠ 256 then ([], 111) else if fin (descs b n.toNat) = b then (descs b n.toNat, 0) else ([], 111)
set_option maxHeartbeats 2000000 in
theorem dec_from (b : List Int) (hb : Bytes b) (hl : b.length = 256) (n : Nat) (hn : n ≤ 16) (d : Nat) : ∀ i : Nat, i + d = n →
    Ev (fun k => layout_DecodeDescs.l0 k b (descs b i) (n : Int) (i : Int)) (decR b n) := by
  induction d with
  | zero =>
    intro i hi
    have hi' : i = n := by omega
    subst hi'
    refine Ev.step (f := fun k => (layout_EncodeDescs.f k (descs b i)).bind fun bt295 => (if bt295.2 = 0 then ((slices_Equal_byte_byte.f k bt295.1 b).bind fun t299 => (if t299 = true then (some (descs b i, 0)) else (some (([] : List (S57)), 111)))) else (some (([] : List (S57)), 111)))) (fun k => ?_) ?_
    · simp only [layout_DecodeDescs.l0]
      rw [if_neg (by omega)]
    · refine Ev.bind (enc_ev (descs b i)) ?_
      have e : encR (descs b i) = (fin (descs b i), 0) := by rw [encR, if_pos ⟨by rw [descs_len]; exact hn, descs_ok hb i⟩]
      rw [e]
      refine Ev.iff_pos rfl ?_
      refine Ev.bind (slices_equal _ _ (by rw [fin_len (by rw [descs_len]; exact hn)]; omega)) ?_
      have e2 : decR b (i : Int) = if fin (descs b i) = b then (descs b i, 0) else ([], 111) := by
        rw [decR, if_neg (by omega), if_neg (by omega), Int.toNat_natCast]
      rw [e2]
      by_cases h : fin (descs b i) = b
      · rw [if_pos h]
        exact Ev.iff_pos (by simp [h]) (Ev.now _)
      · rw [if_neg h]
        exact Ev.iff_neg (by simp [h]) (Ev.now _)
  | succ d ih =>
    intro i hi
    have hs := suc64 i n (by omega) (by omega)
    have e16 : wrap64 ((i : Int) * 16) = ((16 * i : Nat) : Int) := by rw [w64 (by omega) (by omega)]; omega
    refine Ev.step (fun k => ?_) (ih (i + 1) (by omega))
    have n0 := num_ev b hb hl i 0 (by omega) (by omega)
    have n1 := num_ev b hb hl i 1 (by omega) (by omega)
    have n2 := num_ev b hb hl i 2 (by omega) (by omega)
    simp only [layout_DecodeDescs.l0]
    rw [if_pos (by omega), e16, if_pos (by omega), if_pos (by omega), Int.toNat_natCast]
    have m0 : layout_DecodeDescs_1.f 0 (b.drop (16 * i)) = some (two b (16 * i)) := n0
    have m1 : layout_DecodeDescs_1.f 1 (b.drop (16 * i)) = some (two b (16 * i + 2)) := n1
    have m2 : layout_DecodeDescs_1.f 2 (b.drop (16 * i)) = some (two b (16 * i + 4)) := n2
    rw [m0, m1, m2]
    simp only [Option.bind_some]
    rw [if_pos (by rw [descs_len]; omega), hs, descs_succ]
    rfl
set_option maxHeartbeats 2000000 in
theorem dec_ev (b : List Int) (hb : Bytes b) (n : Int) : Ev (fun k => layout_DecodeDescs.f k b n) (decR b n) := by
  unfold layout_DecodeDescs.f
  by_cases h0 : n < 0
  · refine Ev.iff_pos h0 (Ev.step (f := fun _ => some ([], 1)) (fun k => ?_) ?_)
    · simp only [layout_DecodeDescs.j0]
      rw [if_pos trivial]
    · rw [decR, if_pos (.inl h0)]; exact Ev.now _
  · refine Ev.iff_neg h0 ?_
    by_cases h1 : n > 16
    · refine Ev.step (f := fun _ => some ([], 1)) (fun k => ?_) ?_
      · simp only [layout_DecodeDescs.j0]
        rw [if_pos (by simp [h1])]
      · rw [decR, if_pos (.inr h1)]; exact Ev.now _
    · by_cases h2 : b.length = 256
      · obtain ⟨m, rfl⟩ : ∃ m : Nat, n = m := ⟨n.toNat, by omega⟩
        refine Ev.step (f := fun k => layout_DecodeDescs.l0 k b [] (m : Int) 0) (fun k => ?_) (dec_from b hb h2 m (by omega) m 0 (by omega))
        simp only [layout_DecodeDescs.j0]
        rw [if_neg (by simp [h1]), if_pos (by omega)]
      · refine Ev.step (f := fun _ => some ([], 111)) (fun k => ?_) ?_
        · simp only [layout_DecodeDescs.j0]
          rw [if_neg (by simp [h1]), if_neg (by omega)]
        · rw [decR, if_neg (by omega), if_pos h2]; exact Ev.now _
set_option maxHeartbeats 2000000 in
theorem desc_equal (l : List S57) (hn : l.length ≤ 140737488355328) : Ev (fun k => api_Desc.f k l l) true := by
  have from_ : ∀ (d i : Nat), i + d = l.length → Ev (fun k => api_Desc.l0 k l l (l.length : Int) (i : Int)) true := by
    intro d
    induction d with
    | zero =>
      intro i hi
      refine Ev.step (f := fun _ => some true) (fun k => ?_) (Ev.now _)
      simp only [api_Desc.l0]
      rw [if_neg (by omega)]
    | succ d ih =>
      intro i hi
      have hs := suc64 i l.length (by omega) hn
      refine Ev.step (fun k => ?_) (ih (i + 1) (by omega))
      simp only [api_Desc.l0]
      rw [if_pos (by omega), if_pos (by omega), if_pos (by omega), if_pos (by omega), if_neg (by simp), hs]
  unfold api_Desc.f
  exact Ev.iff_pos rfl (from_ l.length 0 (by omega))
end Go.Proofs.Ytbdnmdmfnopihaa.DescEv
end
section
namespace Go.Proofs.Ytbdnmdmfnopihaa.PackMath
set_option linter.unusedVariables false
set_option linter.unusedSimpArgs false
open Go.RowKit Go.Proofs.Ytbdnmdmfnopihaa.SMath Go.Proofs.YtbdnmdmfnopihaaW.PrintWords Go.Proofs.YtbdnmdmfnopihaaW.PrintMore
theorem prd_nat (l : List Int) (i : Nat) (h : i < l.length) : rd l (i : Int) = l[i] := by simp [rd, List.getD_eq_getElem?_getD, h]
/-- Bit j of bytes, the highest of a byte first. -/
def gb (l : List Int) (j : Nat) : Bool := ((l.getD (j / 8) 0).toNat).testBit (7 - j % 8)
/-- Bit i of a value, the lowest first. -/
def vb (v : Int) (i : Nat) : Bool := v.toNat.testBit i
def b2i (b : Bool) : Int := if b then 1 else 0
theorem gb_out (l : List Int) (j : Nat) (h : 8 * l.length ≤ j) : gb l j = false := by
  have h1 : l.length ≤ j / 8 := by omega
  simp [gb, List.getD_eq_getElem?_getD, h1]
theorem gb_at (l : List Int) (i s : Nat) (hi : i < l.length) (hs : s < 8) : gb l (8 * i + (7 - s)) = (l[i].toNat).testBit s := by
  have h1 : (8 * i + (7 - s)) / 8 = i := by omega
  have h2 : 7 - (8 * i + (7 - s)) % 8 = s := by omega
  unfold gb
  rw [h1, h2]
  simp [List.getD_eq_getElem?_getD, hi]
theorem byte_ext {x y : Int} (hx : Byte x) (hy : Byte y) (h : ∀ s, s < 8 → x.toNat.testBit s = y.toNat.testBit s) : x = y := by
  obtain ⟨a, rfl, ha⟩ := byte_nat hx
  obtain ⟨b, rfl, hb⟩ := byte_nat hy
  congr 1
  apply Nat.eq_of_testBit_eq
  intro i
  by_cases hi : i < 8
  · exact h i hi
  · rw [testBit_high ha hi, testBit_high hb hi]
theorem bytes_ext {a b : List Int} (ha : Bytes a) (hb : Bytes b) (hl : a.length = b.length) (h : ∀ j, j < 8 * a.length → gb a j = gb b j) : a = b := by
  apply List.ext_getElem hl
  intro i h1 h2
  refine byte_ext (ha _ (List.getElem_mem h1)) (hb _ (List.getElem_mem h2)) (fun s hs => ?_)
  have := h (8 * i + (7 - s)) (by omega)
  rw [gb_at a i s h1 hs, gb_at b i s h2 hs] at this
  exact this
theorem and_one_bit (n s : Nat) : (n / 2 ^ s) % 2 = if n.testBit s then 1 else 0 := by
  rw [Nat.testBit_eq_decide_div_mod_eq]
  by_cases h : n / 2 ^ s % 2 = 1
  · simp [h]
  · have : n / 2 ^ s % 2 = 0 := by omega
    simp [this]
theorem cast_div_mod (n s : Nat) : ((n : Int) / 2 ^ s) % 2 = ((n / 2 ^ s % 2 : Nat) : Int) := by push_cast; rfl
theorem read_u8 (c : Int) (hc : Byte c) (s : Nat) (hs : s ≤ 8) : Go.bits .and .u8 (shr .u8 c (s : Int)) 1 = b2i (c.toNat.testBit s) := by
  rw [bit_test c hc s hs]
  obtain ⟨n, rfl, hn⟩ := byte_nat hc
  rw [cast_div_mod, and_one_bit, Int.toNat_natCast, b2i]
  cases n.testBit s <;> rfl
def U64 (v : Int) : Prop := 0 ≤ v ∧ v < 18446744073709551616
theorem read_u64 (v : Int) (hv : U64 v) (s : Nat) (hs : s ≤ 64) : Go.bits .and .u64 (shr .u64 v (s : Int)) 1 = b2i (vb v s) := by
  have h2 := shr_range (k := .u64) (s : Int) hv.1 hv.2
  rw [and_one_u64 _ h2.1 h2.2, shr_at .u64 v s hs]
  obtain ⟨n, rfl⟩ := Int.eq_ofNat_of_zero_le hv.1
  rw [cast_div_mod, and_one_bit, vb, Int.toNat_natCast, b2i]
  cases n.testBit s <;> rfl
theorem b2i_range (b : Bool) : 0 ≤ b2i b ∧ b2i b ≤ 1 := by cases b <;> decide
set_option maxHeartbeats 2000000 in
theorem put_bit (n s : Nat) (hn : n < 256) (hs : s < 8) (b : Bool) : ∃ m : Nat, Go.bits .or .u8 (n : Int) (shl .u8 (b2i b % 256) (s : Int)) = (m : Int) ∧ m < 256 ∧ ∀ t, t < 8 → m.testBit t = (n.testBit t || (decide (t = s) && b)) := by
  have hsh : shl .u8 (b2i b % 256) (s : Int) = ((if b then 2 ^ s else 0 : Nat) : Int) := by
    unfold shl
    rw [IntKind.wrap_u8, Int.toNat_natCast, Nat.min_eq_left (by simp [IntKind.bits]; omega)]
    cases b
    · simp [b2i]
    · have : 2 ^ s < 2 ^ 8 := Nat.pow_lt_pow_right (by decide) hs
      have h2 : (b2i true % 256) = 1 := rfl
      rw [h2, Int.one_mul]
      have h3 : ((2 : Int) ^ s) = ((2 ^ s : Nat) : Int) := by push_cast; rfl
      rw [h3]
      simp only [if_true]
      generalize 2 ^ s = q at this ⊢
      omega
  have hlt : (if b then 2 ^ s else 0 : Nat) < 256 := by
    cases b
    · simp
    · have : 2 ^ s < 2 ^ 8 := Nat.pow_lt_pow_right (by decide) hs
      simpa using this
  refine ⟨n ||| (if b then 2 ^ s else 0), by rw [hsh, or_u8 n _ hn hlt], by have := Nat.or_lt_two_pow (n := 8) hn hlt; simpa using this, fun t ht => ?_⟩
  rw [Nat.testBit_or]
  congr 1
  cases b
  · simp
  · simp only [if_true, Bool.and_true]
    rw [Nat.testBit_two_pow]
    by_cases h : s = t
    · simp [h]
    · have : ¬ t = s := fun e => h e.symm
      simp [h, this]
/-- Bytes with one bit put. -/
theorem gb_set {out : List Int} (ho : Bytes out) (at_ : Nat) (h : at_ / 8 < out.length) (b : Bool) :
    ∃ out', out.set (at_ / 8) (Go.bits .or .u8 (rd out ((at_ / 8 : Nat) : Int)) (shl .u8 (b2i b % 256) ((7 - at_ % 8 : Nat) : Int))) = out' ∧ Bytes out' ∧ out'.length = out.length ∧ ∀ j, gb out' j = if j = at_ then (gb out at_ || b) else gb out j := by
  obtain ⟨n, hn, hn8⟩ := byte_nat (ho _ (List.getElem_mem h))
  obtain ⟨m, hm, hm8, ht⟩ := put_bit n (7 - at_ % 8) hn8 (by omega) b
  refine ⟨_, rfl, ?_, by simp, ?_⟩
  · intro x hx
    rw [prd_nat out _ h, hn, hm] at hx
    rcases List.mem_or_eq_of_mem_set hx with hx | hx
    · exact ho x hx
    · rw [hx]
      exact ⟨by omega, by omega⟩
  · intro j
    rw [prd_nat out _ h, hn, hm]
    by_cases hj : j / 8 = at_ / 8
    · have e1 : (out.set (at_ / 8) (m : Int)).getD (j / 8) 0 = (m : Int) := by rw [hj]; simp [List.getD_eq_getElem?_getD, h]
      have e2 : out.getD (j / 8) 0 = (n : Int) := by rw [hj]; simp [List.getD_eq_getElem?_getD, h, hn]
      have e3 : out.getD (at_ / 8) 0 = (n : Int) := by simp [List.getD_eq_getElem?_getD, h, hn]
      unfold gb
      rw [e1, e2, e3, Int.toNat_natCast, Int.toNat_natCast, ht _ (by omega)]
      by_cases hje : j = at_
      · subst hje
        simp
      · have : ¬ 7 - j % 8 = 7 - at_ % 8 := by omega
        simp [hje, this]
    · have e1 : (out.set (at_ / 8) (m : Int)).getD (j / 8) 0 = out.getD (j / 8) 0 := by
        simp [List.getD_eq_getElem?_getD, List.getElem?_set, show ¬ at_ / 8 = j / 8 from fun e => hj e.symm]
      have hje : ¬ j = at_ := fun e => hj (by rw [e])
      unfold gb
      rw [e1, if_neg hje]
/-- The bits of values of some widths, one behind the other. -/
def pb : List Nat → List Int → Nat → Bool
  | w :: ws, v :: vs, j => if j < w then vb v (w - 1 - j) else pb ws vs (j - w)
  | _, _, _ => false
def tot (ws : List Nat) : Nat := ws.sum
theorem tot_cons (w : Nat) (ws : List Nat) : tot (w :: ws) = w + tot ws := by simp [tot]
theorem tot_take_succ (ws : List Nat) (i : Nat) (h : i < ws.length) : tot (ws.take (i + 1)) = tot (ws.take i) + ws[i] := by
  unfold tot
  rw [List.take_succ_eq_append_getElem h, List.sum_append]
  simp
set_option maxHeartbeats 2000000 in
theorem pb_at : ∀ (ws : List Nat) (vs : List Int) (i : Nat) (h : i < ws.length) (h' : i < vs.length) (t : Nat), t < ws[i] → pb ws vs (tot (ws.take i) + t) = vb vs[i] (ws[i] - 1 - t)
  | w :: ws, v :: vs, 0, h, h', t, ht => by
    have : t < w := ht
    simp [pb, tot, this]
  | w :: ws, v :: vs, i + 1, h, h', t, ht => by
    have ih := pb_at ws vs i (by simpa using h) (by simpa using h') t (by simpa using ht)
    rw [List.take_succ_cons, tot_cons]
    have h1 : ¬ (w + tot (ws.take i) + t < w) := by omega
    have h2 : w + tot (ws.take i) + t - w = tot (ws.take i) + t := by omega
    simp only [pb]
    rw [if_neg h1, h2]
    exact ih
  | [], _, i, h, _, _, _ => by simp at h
  | _ :: _, [], i, _, h', _, _ => by simp at h'
theorem pb_out : ∀ (ws : List Nat) (vs : List Int) (j : Nat), tot ws ≤ j → pb ws vs j = false
  | w :: ws, v :: vs, j, h => by
    rw [tot_cons] at h
    simp only [pb]
    rw [if_neg (by omega)]
    exact pb_out ws vs (j - w) (by omega)
  | [], _, _, _ => rfl
  | _ :: _, [], _, _ => rfl
/-- The value of w bits from position p on, behind v. -/
def fg (G : Nat → Bool) (p : Nat) : Nat → Nat → Nat
  | 0, v => v
  | w + 1, v => fg G (p + 1) w (2 * v + (G p).toNat)
theorem fg_bound (G : Nat → Bool) : ∀ (w p v : Nat), fg G p w v < 2 ^ w * (v + 1)
  | 0, p, v => by simp [fg]
  | w + 1, p, v => by
    have := fg_bound G w (p + 1) (2 * v + (G p).toNat)
    simp only [fg]
    refine Nat.lt_of_lt_of_le this ?_
    have hb : (G p).toNat ≤ 1 := Bool.toNat_le _
    rw [Nat.pow_succ, Nat.mul_assoc]
    exact Nat.mul_le_mul_left _ (by omega)
theorem fg_split (G : Nat → Bool) : ∀ (w p v : Nat), fg G p w v = 2 ^ w * v + fg G p w 0
  | 0, p, v => by simp [fg]
  | w + 1, p, v => by
    simp only [fg]
    rw [fg_split G w (p + 1) (2 * v + (G p).toNat), fg_split G w (p + 1) (2 * 0 + (G p).toNat), Nat.pow_succ, Nat.mul_add, Nat.mul_add]
    have : 2 ^ w * (2 * v) = 2 ^ w * 2 * v := by rw [Nat.mul_assoc]
    omega
theorem fg_succ (G : Nat → Bool) (w p : Nat) : fg G p (w + 1) 0 = 2 ^ w * (G p).toNat + fg G (p + 1) w 0 := by
  simp only [fg]
  rw [fg_split G w (p + 1) (2 * 0 + (G p).toNat)]
  simp
theorem fg_lt (G : Nat → Bool) (w p : Nat) : fg G p w 0 < 2 ^ w := by simpa using fg_bound G w p 0
set_option maxHeartbeats 2000000 in
theorem fg_bit (G : Nat → Bool) : ∀ (w p t : Nat), t < w → (fg G p w 0).testBit (w - 1 - t) = G (p + t)
  | 0, p, t, h => absurd h (by omega)
  | w + 1, p, t, h => by
    have hlt := fg_lt G w (p + 1)
    rw [fg_succ]
    cases t with
    | zero =>
      have e : w + 1 - 1 - 0 = w := by omega
      rw [e, Nat.testBit_two_pow_mul_add _ hlt, if_neg (by omega), Nat.sub_self, Nat.add_zero]
      cases G p <;> rfl
    | succ t =>
      have e : w + 1 - 1 - (t + 1) = w - 1 - t := by omega
      rw [e, Nat.testBit_two_pow_mul_add _ hlt, if_pos (by omega), fg_bit G w (p + 1) t (by omega)]
      congr 1
      omega
set_option maxHeartbeats 2000000 in
theorem fg_of_bits (G : Nat → Bool) (w p n : Nat) (hn : n < 2 ^ w) (h : ∀ t, t < w → n.testBit (w - 1 - t) = G (p + t)) : fg G p w 0 = n := by
  apply Nat.eq_of_testBit_eq
  intro i
  by_cases hi : i < w
  · have h1 := fg_bit G w p (w - 1 - i) (by omega)
    have h2 := h (w - 1 - i) (by omega)
    rw [← h2] at h1
    have : w - 1 - (w - 1 - i) = i := by omega
    rw [this] at h1
    exact h1
  · have hp : 2 ^ w ≤ 2 ^ i := Nat.pow_le_pow_right (by decide) (by omega)
    rw [Nat.testBit_lt_two_pow (Nat.lt_of_lt_of_le (fg_lt G w p) hp), Nat.testBit_lt_two_pow (Nat.lt_of_lt_of_le hn hp)]
def len (n : Nat) : Nat := if n = 0 then 0 else n.log2 + 1
end Go.Proofs.Ytbdnmdmfnopihaa.PackMath
end
section
namespace Go.Proofs.Ytbdnmdmfnopihaa.PackEv
set_option linter.unusedVariables false
set_option linter.unusedSimpArgs false
open Go.RowKit Go.Proofs.Ytbdnmdmfnopihaa.Print Go.Proofs.Ytbdnmdmfnopihaa.SMath Go.Proofs.Ytbdnmdmfnopihaa.SealEv Go.Proofs.Ytbdnmdmfnopihaa.PackMath Go.Proofs.YtbdnmdmfnopihaaW.PrintWords Go.Proofs.YtbdnmdmfnopihaaW.PrintLast Go.Proofs.YtbdnmdmfnopihaaW.PrintMore
def good (w : Int) : Prop := 1 ≤ w ∧ w ≤ 64
/-- Widths that may be. -/
def wok (ws : List Int) : Prop := ws.length ≤ 64 ∧ ∀ w ∈ ws, good w
def wn (ws : List Int) : List Nat := ws.map Int.toNat
theorem wn_len (ws : List Int) : (wn ws).length = ws.length := by simp [wn]
theorem wn_at (ws : List Int) (i : Nat) (h : i < ws.length) : (wn ws)[i]'(by rw [wn_len]; exact h) = ws[i].toNat := by simp [wn]
theorem tot_take_le (ws : List Int) (hg : ∀ j (h : j < ws.length), ws[j] ≤ 64) : ∀ i, i ≤ ws.length → tot ((wn ws).take i) ≤ 64 * i
  | 0, _ => by simp [tot]
  | i + 1, h => by
    have ih := tot_take_le ws hg i (by omega)
    have hi : i < (wn ws).length := by rw [wn_len]; omega
    rw [tot_take_succ _ _ hi, wn_at ws i (by omega)]
    have := hg i (by omega)
    omega
theorem tot_all (ws : List Int) : tot ((wn ws).take ws.length) = tot (wn ws) := by rw [← wn_len ws, List.take_length]
theorem tot_step (ws : List Int) (i : Nat) (h : i < ws.length) (h0 : 0 ≤ ws[i]) : (tot ((wn ws).take i) : Int) + ws[i] = (tot ((wn ws).take (i + 1)) : Int) := by
  have hi : i < (wn ws).length := by rw [wn_len]; omega
  rw [tot_take_succ _ _ hi, wn_at ws i h]
  omega
theorem tot_le_of (ws : List Int) (h64 : ws.length ≤ 64) (i : Nat) (hi : i ≤ ws.length) (hg : ∀ j, j < i → ∀ h : j < ws.length, good ws[j]) : tot ((wn ws).take i) ≤ 64 * i := by
  induction i with
  | zero => simp [tot]
  | succ i ih =>
    have ih' := ih (by omega) (fun j hj h => hg j (by omega) h)
    have hlt : i < (wn ws).length := by rw [wn_len]; omega
    have := (hg i (by omega) (by omega)).2
    rw [tot_take_succ _ _ hlt, wn_at ws i (by omega)]
    omega
theorem all_good {ws : List Int} (hg : ∀ j, j < ws.length → ∀ h : j < ws.length, good ws[j]) : ∀ w ∈ ws, good w := fun w hw => by
  obtain ⟨j, hj, rfl⟩ := List.getElem_of_mem hw
  exact hg j hj hj
def WidR (ws : List Int) (r : Int × Int) : Prop := (wok ws → r = ((((tot (wn ws) + 7) / 8 : Nat) : Int), 0)) ∧ (¬ wok ws → r = (0, 1))
theorem tot_max {ws : List Int} (h : wok ws) : tot (wn ws) ≤ 4096 := by
  have := tot_take_le ws (fun j hj => (h.2 _ (List.getElem_mem hj)).2) ws.length (Nat.le_refl _)
  rw [tot_all] at this
  have := h.1
  omega
theorem div8 (n : Nat) (h : n ≤ 4096) : wrap64 (Int.tdiv (wrap64 ((n : Int) + 7)) 8) = (((n + 7) / 8 : Nat) : Int) := by
  rw [SealEv.w64 (n := (n : Int) + 7) (by omega) (by omega), Int.tdiv_eq_ediv_of_nonneg (by omega), SealEv.w64 (by omega) (by omega)]
  omega
set_option maxHeartbeats 2000000 in
theorem ref_width_from (ws : List Int) (h64 : ws.length ≤ 64) (d : Nat) : ∀ i, i + d = ws.length → (∀ j, j < i → ∀ h : j < ws.length, good ws[j]) →
    ∃ r, Ev (fun k => slipwayref01_Width.l0 k ws (tot ((wn ws).take i) : Int) (i : Int)) r ∧ WidR ws r := by
  induction d with
  | zero =>
    intro i hi hg
    have : i = ws.length := by omega
    subst this
    have hw : wok ws := ⟨h64, all_good hg⟩
    refine ⟨((((tot (wn ws) + 7) / 8 : Nat) : Int), 0), Ev.step (f := fun _ => some ((((tot (wn ws) + 7) / 8 : Nat) : Int), 0)) (fun k => ?_) (Ev.now _), fun _ => rfl, fun h => absurd hw h⟩
    simp only [slipwayref01_Width.l0]
    rw [if_neg (by omega), tot_all, div8 _ (tot_max hw)]
  | succ d ih =>
    intro i hi hg
    have h1 : i < ws.length := by omega
    have hs := suc64 i ws.length h1 (by omega)
    have hle := tot_le_of ws h64 i (by omega) hg
    by_cases hw : good ws[i]
    · have hst := tot_step ws i h1 (by have := hw.1; omega)
      obtain ⟨r, hr, hR⟩ := ih (i + 1) (by omega) (fun j hj h => by
        rcases Nat.lt_or_ge j i with hji | hji
        · exact hg j hji h
        · have : j = i := by omega
          subst this
          exact hw)
      refine ⟨r, Ev.step (f := fun k => slipwayref01_Width.l0 k ws (tot ((wn ws).take (i + 1)) : Int) ((i + 1 : Nat) : Int)) (fun k => ?_) hr, hR⟩
      have hw1 := hw.1
      have hw2 := hw.2
      simp only [slipwayref01_Width.l0]
      rw [rd_nat ws i h1, SealEv.w64 (n := (tot ((wn ws).take i) : Int) + ws[i]) (by omega) (by omega), hst, hs]
      rw [if_pos (by omega), if_pos (by omega), if_neg (by omega), if_neg (by omega)]
    · refine ⟨(0, 1), Ev.step (f := fun _ => some (0, 1)) (fun k => ?_) (Ev.now _), fun h => absurd (h.2 _ (List.getElem_mem h1)) hw, fun _ => rfl⟩
      simp only [slipwayref01_Width.l0]
      rw [rd_nat ws i h1, if_pos (by omega), if_pos (by omega)]
      unfold good at hw
      by_cases h2 : ws[i] < 1
      · rw [if_pos h2]
      · rw [if_neg h2, if_pos (by omega)]
theorem ref_width_ev (ws : List Int) : ∃ r, Ev (fun k => slipwayref01_Width.f k ws) r ∧ WidR ws r := by
  unfold slipwayref01_Width.f
  by_cases h : ws.length ≤ 64
  · obtain ⟨r, hr, hR⟩ := ref_width_from ws h ws.length 0 (by omega) (fun j hj => by omega)
    exact ⟨r, Ev.iff_neg (by omega) hr, hR⟩
  · exact ⟨(0, 1), Ev.iff_pos (by omega) (Ev.now _), fun hw => absurd hw.1 h, fun _ => rfl⟩
end Go.Proofs.Ytbdnmdmfnopihaa.PackEv
end
section
namespace Go.Proofs.Ytbdnmdmfnopihaa.PackEv
set_option linter.unusedVariables false
set_option linter.unusedSimpArgs false
open Go.RowKit Go.Proofs.Ytbdnmdmfnopihaa.Print Go.Proofs.Ytbdnmdmfnopihaa.SMath Go.Proofs.Ytbdnmdmfnopihaa.SealEv Go.Proofs.Ytbdnmdmfnopihaa.PackMath Go.Proofs.YtbdnmdmfnopihaaW.PrintWords Go.Proofs.YtbdnmdmfnopihaaW.PrintLast Go.Proofs.YtbdnmdmfnopihaaW.PrintMore
def U64s (vs : List Int) : Prop := ∀ v ∈ vs, U64 v
theorem u64s_at {vs : List Int} (h : U64s vs) (i : Nat) (hi : i < vs.length) : U64 vs[i] := h _ (List.getElem_mem hi)
/-- Values that have as many bits as they may. -/
def fits (ws vs : List Int) : Prop := wok ws ∧ vs.length = ws.length ∧ ∀ i (h : i < ws.length) (h' : i < vs.length), vs[i].toNat < 2 ^ ws[i].toNat
def PackOK (ws vs out : List Int) : Prop := Bytes out ∧ out.length = (tot (wn ws) + 7) / 8 ∧ ∀ j, gb out j = pb (wn ws) vs j
def PackR (ws vs : List Int) (r : List Int × Int) : Prop := (fits ws vs → r.2 = 0 ∧ PackOK ws vs r.1) ∧ (¬ fits ws vs → r = ([], 1))
theorem PackOK.unique {ws vs a b : List Int} (ha : PackOK ws vs a) (hb : PackOK ws vs b) : a = b :=
  bytes_ext ha.1 hb.1 (ha.2.1.trans hb.2.1.symm) (fun j _ => (ha.2.2 j).trans (hb.2.2 j).symm)
theorem PackR.unique {ws vs : List Int} {a b : List Int × Int} (ha : PackR ws vs a) (hb : PackR ws vs b) : a = b := by
  by_cases h : fits ws vs
  · obtain ⟨a1, a2⟩ := ha.1 h
    obtain ⟨b1, b2⟩ := hb.1 h
    exact Prod.ext (a2.unique b2) (a1.trans b1.symm)
  · rw [ha.2 h, hb.2 h]
theorem PackR.bytes {ws vs : List Int} {r : List Int × Int} (h : PackR ws vs r) : Bytes r.1 := by
  by_cases hf : fits ws vs
  · exact (h.1 hf).2.1
  · rw [h.2 hf]
    intro x hx
    simp at hx
/-- Bits up to some place stand. -/
def Inv (ws vs : List Int) (at_ : Nat) (out : List Int) : Prop := Bytes out ∧ out.length = (tot (wn ws) + 7) / 8 ∧ ∀ j, gb out j = (decide (j < at_) && pb (wn ws) vs j)
theorem Inv.zero (ws vs : List Int) : Inv ws vs 0 (List.replicate ((tot (wn ws) + 7) / 8) 0) := by
  refine ⟨fun x hx => ?_, by simp, fun j => ?_⟩
  · rw [(List.mem_replicate.mp hx).2]
    exact ⟨by decide, by decide⟩
  · have : (List.replicate ((tot (wn ws) + 7) / 8) (0 : Int)).getD (j / 8) 0 = 0 := by
      rw [List.getD_eq_getElem?_getD, List.getElem?_replicate]
      split <;> rfl
    unfold gb
    rw [this]
    simp
theorem Inv.done {ws vs out : List Int} (h : Inv ws vs (tot (wn ws)) out) : PackOK ws vs out := ⟨h.1, h.2.1, fun j => by
  rw [h.2.2 j]
  by_cases hj : j < tot (wn ws)
  · simp [hj]
  · rw [pb_out (wn ws) vs j (by omega)]
    simp⟩
theorem idx8 (a : Nat) (h : a ≤ 8192) : wrap64 (Int.tdiv (a : Int) 8) = ((a / 8 : Nat) : Int) := by
  rw [Int.tdiv_eq_ediv_of_nonneg (by omega), SealEv.w64 (by omega) (by omega)]
  rfl
theorem off8 (a : Nat) : wrap64 (7 - (Int.tmod (a : Int) 8)) = ((7 - a % 8 : Nat) : Int) := by
  rw [Int.tmod_eq_emod_of_nonneg (by omega), SealEv.w64 (by omega) (by omega)]
  omega
theorem tot_le (ws : List Nat) (i : Nat) : tot (ws.take i) ≤ tot ws := by
  have h := List.take_append_drop i ws
  have : tot ws = tot (ws.take i) + tot (ws.drop i) := by
    unfold tot
    rw [← List.sum_append, h]
  omega
theorem ey64 (w : Int) (t : Nat) (h1 : 1 ≤ w) (h2 : w ≤ 64) (ht : t < w.toNat) : wrap64 (((w.toNat - 1 - t : Nat) : Int) - 1) = w - 1 - ((t + 1 : Nat) : Int) := by
  rw [SealEv.w64 (by omega) (by omega)]
  omega
theorem suc_add (a t : Nat) (h : a + t ≤ 8192) : wrap64 (((a + t : Nat) : Int) + 1) = ((a + (t + 1) : Nat) : Int) := by
  rw [SealEv.w64 (by omega) (by omega)]
  omega
theorem suc_small (t : Nat) (h : t ≤ 8192) : wrap64 ((t : Int) + 1) = ((t + 1 : Nat) : Int) := by
  rw [SealEv.w64 (by omega) (by omega)]
  omega
theorem n_lt (t d w : Nat) (h : t + (d + 1) = w) : t < w := by omega
theorem n_next (t d w : Nat) (h : t + (d + 1) = w) : t + 1 + d = w := by omega
theorem n_8192 (a t w T : Nat) (h : a + w ≤ T) (hT : T ≤ 4096) (ht : t < w) : a + t ≤ 8192 := by omega
theorem n_t (t w : Nat) (h : t < w) (hw : w ≤ 64) : t ≤ 8192 := by omega
theorem n_idx (a t w T n : Nat) (h : a + w ≤ T) (ht : t < w) (hn : n = (T + 7) / 8) : (a + t) / 8 < n := by omega
theorem n_int (w : Int) (t : Nat) (h : t < w.toNat) : (t : Int) < w := by omega
theorem n_64 (w : Int) (h : w ≤ 64) : w.toNat ≤ 64 := by omega
theorem n_sub (w : Int) (t : Nat) (h : t < w.toNat) : w - 1 - (t : Int) = ((w.toNat - 1 - t : Nat) : Int) := by omega
theorem n_s (w t : Nat) (h : w ≤ 64) : w - 1 - t ≤ 64 := by omega
theorem n_7 (a : Nat) : 7 - a % 8 ≤ 64 := by omega
/-- One bit more. -/
theorem Inv.put {ws vs : List Int} {i t : Nat} {out : List Int} (h : i < ws.length) (h' : i < vs.length) (ht : t < ws[i].toNat) (hv : U64 vs[i]) (hw : ws[i].toNat ≤ 64) (hI : Inv ws vs (tot ((wn ws).take i) + t) out) :
    ∃ out', out.set ((tot ((wn ws).take i) + t) / 8) (Go.bits .or .u8 (rd out (((tot ((wn ws).take i) + t) / 8 : Nat) : Int)) (shl .u8 (Go.bits .and .u64 (shr .u64 vs[i] ((ws[i].toNat - 1 - t : Nat) : Int)) 1 % 256) ((7 - (tot ((wn ws).take i) + t) % 8 : Nat) : Int))) = out' ∧ Inv ws vs (tot ((wn ws).take i) + (t + 1)) out' := by
  have hi : i < (wn ws).length := by rw [wn_len]; exact h
  have hlt : tot ((wn ws).take i) + t < tot (wn ws) := by
    have h1 := tot_le (wn ws) (i + 1)
    rw [tot_take_succ _ _ hi, wn_at ws i h] at h1
    omega
  have hT := pb_at (wn ws) vs i hi h' t (by rw [wn_at ws i h]; exact ht)
  rw [wn_at ws i h] at hT
  rw [read_u64 _ hv _ (by omega)]
  obtain ⟨o1, o2, o3, o4⟩ := gb_set hI.1 (tot ((wn ws).take i) + t) (by rw [hI.2.1]; omega) (vb vs[i] (ws[i].toNat - 1 - t))
  refine ⟨o1, o2, o3, o4.1.trans hI.2.1, fun j => ?_⟩
  rw [o4.2 j, hI.2.2, hI.2.2]
  by_cases hj : j = tot ((wn ws).take i) + t
  · subst hj
    rw [if_pos rfl, hT]
    simp
  · rw [if_neg hj]
    have : decide (j < tot ((wn ws).take i) + (t + 1)) = decide (j < tot ((wn ws).take i) + t) := by
      by_cases hd : j < tot ((wn ws).take i) + t
      · rw [decide_eq_true hd, decide_eq_true (by omega)]
      · rw [decide_eq_false hd, decide_eq_false (by omega)]
    rw [this]
set_option maxHeartbeats 2000000 in
theorem ref_pack_in (ws vs : List Int) (hw : wok ws) (hl : vs.length = ws.length) (hv : U64s vs) (i : Nat) (h : i < ws.length)
    (next : ∀ out', Inv ws vs (tot ((wn ws).take (i + 1))) out' → ∃ r, Ev (fun k => slipwayref01_Pack.l0 k ws vs out' (tot ((wn ws).take (i + 1)) : Int) ((i + 1 : Nat) : Int)) r ∧ PackR ws vs r) (d : Nat) :
    ∀ t out, t + d = ws[i].toNat → Inv ws vs (tot ((wn ws).take i) + t) out →
    ∃ r, Ev (fun k => slipwayref01_Pack.l1 k ws vs out ((tot ((wn ws).take i) + t : Nat) : Int) (i : Int) (ws[i] - 1 - (t : Int))) r ∧ PackR ws vs r := by
  have hg := hw.2 _ (List.getElem_mem h)
  have hg1 := hg.1
  have hg2 := hg.2
  have hi : i < (wn ws).length := by rw [wn_len]; exact h
  have hsuc := tot_take_succ (wn ws) i hi
  rw [wn_at ws i h] at hsuc
  have hmax := tot_max hw
  have hle := tot_le (wn ws) (i + 1)
  have h' : i < vs.length := by omega
  have h64 := hw.1
  have hA : tot ((wn ws).take i) + ws[i].toNat ≤ tot (wn ws) := by omega
  induction d with
  | zero =>
    intro t out ht hI
    obtain ⟨r, hr, hR⟩ := next out (by rw [hsuc]; have : t = ws[i].toNat := by omega
                                       rw [← this]; exact hI)
    refine ⟨r, Ev.step (f := fun k => slipwayref01_Pack.l0 k ws vs out (tot ((wn ws).take (i + 1)) : Int) ((i + 1 : Nat) : Int)) (fun k => ?_) hr, hR⟩
    have e1 : tot ((wn ws).take i) + t = tot ((wn ws).take (i + 1)) := by omega
    simp only [slipwayref01_Pack.l1]
    rw [if_neg (by omega), suc64 i ws.length h (by omega), e1]
  | succ d ih =>
    intro t out ht hI
    have htw := n_lt t d _ ht
    have hw64 := n_64 _ hg2
    obtain ⟨out', ho, hI'⟩ := hI.put h h' htw (u64s_at hv i h') hw64
    obtain ⟨r, hr, hR⟩ := ih (t + 1) out' (n_next t d _ ht) hI'
    refine ⟨r, Ev.step (f := fun k => slipwayref01_Pack.l1 k ws vs out' ((tot ((wn ws).take i) + (t + 1) : Nat) : Int) (i : Int) (ws[i] - 1 - ((t + 1 : Nat) : Int))) (fun k => ?_) hr, hR⟩
    have e8 := idx8 (tot ((wn ws).take i) + t) (n_8192 _ _ _ _ hA hmax htw)
    have es := off8 (tot ((wn ws).take i) + t)
    have ex : ws[i] - 1 - (t : Int) = ((ws[i].toNat - 1 - t : Nat) : Int) := n_sub _ t htw
    have eu := u64_small (ws[i].toNat - 1 - t) (n_s _ t hw64)
    have eu2 := u64_small (7 - (tot ((wn ws).take i) + t) % 8) (n_7 _)
    have ey := ey64 ws[i] t hg1 hg2 htw
    have ea := suc_add (tot ((wn ws).take i)) t (n_8192 _ _ _ _ hA hmax htw)
    have hlen := hI.2.1
    have a2 : ((tot ((wn ws).take i) + t) / 8 : Nat) < out.length := n_idx _ _ _ _ _ hA htw hlen
    have a3 : (((tot ((wn ws).take i) + t) / 8 : Nat) : Int) < (out.length : Int) := Int.ofNat_lt.mpr a2
    have a4 : (i : Int) < (vs.length : Int) := Int.ofNat_lt.mpr h'
    clear ih hR hr hI hI' hlen next
    rw [ex]
    simp only [slipwayref01_Pack.l1]
    rw [e8, es, eu, eu2, ey, ea, rd_nat vs i h', Int.toNat_natCast, ho]
    rw [if_pos (Int.natCast_nonneg _), if_pos (Int.natCast_nonneg _), if_pos a3, if_pos (Int.natCast_nonneg _), if_pos a4, if_pos (Int.natCast_nonneg _), if_pos (Int.natCast_nonneg _)]
set_option maxHeartbeats 2000000 in
theorem shr_zero (v w : Nat) (hw : w ≤ 64) : (shr .u64 (v : Int) (w : Int) != 0) = decide (¬ v < 2 ^ w) := by
  rw [shr_at .u64 (v : Int) w (by simpa [IntKind.bits] using hw)]
  have e : (v : Int) / 2 ^ w = ((v / 2 ^ w : Nat) : Int) := by push_cast; rfl
  rw [e]
  have h2 : v / 2 ^ w = 0 ↔ v < 2 ^ w := by
    rw [Nat.div_eq_zero_iff]
    have := Nat.two_pow_pos w
    omega
  by_cases h : v < 2 ^ w
  · simp [h, h2.mpr h]
  · have h3 : ¬ v / 2 ^ w = 0 := fun e => h (h2.mp e)
    have h4 : ¬ ((v / 2 ^ w : Nat) : Int) = 0 := by omega
    rw [decide_eq_true h, bne_iff_ne]
    exact h4
set_option maxHeartbeats 2000000 in
theorem ref_pack_out (ws vs : List Int) (hw : wok ws) (hl : vs.length = ws.length) (hv : U64s vs) (d : Nat) : ∀ i out, i + d = ws.length → Inv ws vs (tot ((wn ws).take i)) out → (∀ j, j < i → ∀ (h : j < ws.length) (h' : j < vs.length), vs[j].toNat < 2 ^ ws[j].toNat) →
    ∃ r, Ev (fun k => slipwayref01_Pack.l0 k ws vs out (tot ((wn ws).take i) : Int) (i : Int)) r ∧ PackR ws vs r := by
  have h64 := hw.1
  induction d with
  | zero =>
    intro i out hi hI hf
    have : i = ws.length := by omega
    subst this
    rw [tot_all] at hI
    have hfit : fits ws vs := ⟨hw, hl, fun j h h' => hf j h h h'⟩
    refine ⟨(out, 0), Ev.step (f := fun _ => some (out, 0)) (fun k => ?_) (Ev.now _), fun _ => ⟨rfl, hI.done⟩, fun hn => absurd hfit hn⟩
    simp only [slipwayref01_Pack.l0]
    rw [if_neg (by omega)]
  | succ d ih =>
    intro i out hi hI hf
    have h : i < ws.length := by omega
    have h' : i < vs.length := by omega
    have hg := hw.2 _ (List.getElem_mem h)
    have hg1 := hg.1
    have hg2 := hg.2
    have hu := u64s_at hv i h'
    obtain ⟨v, hv0⟩ := Int.eq_ofNat_of_zero_le hu.1
    have hvt : vs[i].toNat = v := by rw [hv0]; rfl
    have hwt : ws[i] = (ws[i].toNat : Int) := by omega
    have eu := u64_small ws[i].toNat (by omega)
    rw [← hwt] at eu
    have ew : wrap64 (ws[i] - 1) = ws[i] - 1 - ((0 : Nat) : Int) := by rw [SealEv.w64 (by omega) (by omega)]; omega
    have hb64 : v < 2 ^ 64 := by have := hu.2; omega
    have hsz := shr_zero v ws[i].toNat (by omega)
    rw [← hwt, ← hv0] at hsz
    have key : ∀ k, slipwayref01_Pack.l0 (k + 1) ws vs out (tot ((wn ws).take i) : Int) (i : Int) = slipwayref01_Pack.j1 k ws vs out (tot ((wn ws).take i) : Int) (i : Int) (decide (¬ v < 2 ^ ws[i].toNat)) := fun k => by
      simp only [slipwayref01_Pack.l0]
      rw [rd_nat vs i h', rd_nat ws i h, if_pos (by omega), if_pos (by omega), if_pos (by omega), eu]
      by_cases h6 : ws[i] < 64
      · rw [if_pos h6, if_pos (by omega), hsz]
      · have e64 : ws[i].toNat = 64 := by omega
        rw [if_neg h6, e64, decide_eq_false (fun e => e hb64)]
    by_cases hb : v < 2 ^ ws[i].toNat
    · obtain ⟨r, hr, hR⟩ := ref_pack_in ws vs hw hl hv i h (fun out' hI' => ih (i + 1) out' (by omega) hI' (fun j hj h1 h2 => by
        rcases Nat.lt_or_ge j i with hji | hji
        · exact hf j hji h1 h2
        · have : j = i := by omega
          subst this
          rw [hvt]
          exact hb)) ws[i].toNat 0 out (by omega) hI
      refine ⟨r, Ev.step (f := fun k => slipwayref01_Pack.j1 k ws vs out (tot ((wn ws).take i) : Int) (i : Int) (decide (¬ v < 2 ^ ws[i].toNat))) key (Ev.step (f := fun k => slipwayref01_Pack.l1 k ws vs out ((tot ((wn ws).take i) + 0 : Nat) : Int) (i : Int) (ws[i] - 1 - ((0 : Nat) : Int))) (fun k => ?_) hr), hR⟩
      simp only [slipwayref01_Pack.j1]
      rw [decide_eq_false (fun e => e hb), if_neg (by decide), if_pos (by omega), if_pos (by omega), rd_nat ws i h, ew]
      rfl
    · have hnf : ¬ fits ws vs := fun hf' => hb (by have := hf'.2.2 i h h'; rw [hvt] at this; exact this)
      refine ⟨([], 1), Ev.step (f := fun k => slipwayref01_Pack.j1 k ws vs out (tot ((wn ws).take i) : Int) (i : Int) (decide (¬ v < 2 ^ ws[i].toNat))) key (Ev.step (f := fun _ => some ([], 1)) (fun k => ?_) (Ev.now _)), fun hf' => absurd hf' hnf, fun _ => rfl⟩
      simp only [slipwayref01_Pack.j1]
      rw [decide_eq_true hb, if_pos rfl]
set_option maxHeartbeats 2000000 in
theorem ref_pack_ev (ws vs : List Int) (hv : U64s vs) : ∃ r, Ev (fun k => slipwayref01_Pack.f k ws vs) r ∧ PackR ws vs r := by
  obtain ⟨q, hq, q1, q2⟩ := ref_width_ev ws
  unfold slipwayref01_Pack.f
  by_cases hw : wok ws
  · rw [q1 hw] at hq
    have hmax := tot_max hw
    by_cases hl : vs.length = ws.length
    · obtain ⟨r, hr, hR⟩ := ref_pack_out ws vs hw hl hv ws.length 0 _ (by omega) (Inv.zero ws vs) (fun j hj => by omega)
      refine ⟨r, Ev.bind hq (Ev.iff_pos rfl (Ev.iff_pos (by omega) (Ev.iff_pos (Int.natCast_nonneg _) (Ev.iff_pos ?_ ?_)))), hR⟩
      · rw [Int.toNat_natCast]
        omega
      · rw [Int.toNat_natCast]
        exact hr
    · exact ⟨([], 1), Ev.bind hq (Ev.iff_pos rfl (Ev.iff_neg (by omega) (Ev.now _))), fun hf => absurd hf.2.1 hl, fun _ => rfl⟩
  · rw [q2 hw] at hq
    exact ⟨([], 1), Ev.bind hq (Ev.iff_neg (by decide) (Ev.now _)), fun hf => absurd hf.1 hw, fun _ => rfl⟩
end Go.Proofs.Ytbdnmdmfnopihaa.PackEv
end
section
namespace Go.Proofs.Ytbdnmdmfnopihaa.PackEv
set_option linter.unusedVariables false
set_option linter.unusedSimpArgs false
open Go.RowKit Go.Proofs.Ytbdnmdmfnopihaa.Print Go.Proofs.Ytbdnmdmfnopihaa.SMath Go.Proofs.Ytbdnmdmfnopihaa.SealEv Go.Proofs.Ytbdnmdmfnopihaa.PackMath Go.Proofs.YtbdnmdmfnopihaaW.PrintWords Go.Proofs.YtbdnmdmfnopihaaW.PrintLast Go.Proofs.YtbdnmdmfnopihaaW.PrintMore
theorem fg_snoc (G : Nat → Bool) : ∀ (w p v : Nat), fg G p (w + 1) v = 2 * fg G p w v + (G (p + w)).toNat
  | 0, p, v => by simp [fg]
  | w + 1, p, v => by
    have := fg_snoc G w (p + 1) (2 * v + (G p).toNat)
    simp only [fg] at this ⊢
    rw [this]
    have e : p + 1 + w = p + (w + 1) := by omega
    rw [e]
/-- A value that is unpacked. -/
def uval (ws b : List Int) (i : Nat) : Int := (fg (gb b) (tot ((wn ws).take i)) ((wn ws).getD i 0) 0 : Nat)
def uvals (ws b : List Int) (n : Nat) : List Int := (List.range n).map (uval ws b)
theorem uvals_succ (ws b : List Int) (n : Nat) : uvals ws b (n + 1) = uvals ws b n ++ [uval ws b n] := by simp [uvals, List.range_succ]
theorem uvals_len (ws b : List Int) (n : Nat) : (uvals ws b n).length = n := by simp [uvals]
theorem uval_at (ws b : List Int) (i : Nat) (h : i < ws.length) : uval ws b i = (fg (gb b) (tot ((wn ws).take i)) ws[i].toNat 0 : Nat) := by
  have hi : i < (wn ws).length := by rw [wn_len]; exact h
  have : (wn ws).getD i 0 = ws[i].toNat := by rw [← wn_at ws i h]; simp [List.getD_eq_getElem?_getD, hi]
  rw [uval, this]
/-- Bits behind the values, of which one is 1. -/
def late (ws b : List Int) : Prop := ∃ j, tot (wn ws) ≤ j ∧ j < 8 * b.length ∧ gb b j = true
def UnpR (ws b : List Int) (r : List Int × Int) : Prop :=
  (¬ wok ws → r = ([], 1)) ∧ (wok ws → b.length ≠ (tot (wn ws) + 7) / 8 → r = ([], 3)) ∧ (wok ws → b.length = (tot (wn ws) + 7) / 8 → late ws b → r = ([], 1)) ∧
  (wok ws → b.length = (tot (wn ws) + 7) / 8 → ¬ late ws b → r = (uvals ws b ws.length, 0))
theorem UnpR.unique {ws b : List Int} {r q : List Int × Int} (h : UnpR ws b r) (k : UnpR ws b q) : r = q := by
  by_cases h1 : wok ws
  · by_cases h2 : b.length = (tot (wn ws) + 7) / 8
    · by_cases h3 : late ws b
      · rw [h.2.2.1 h1 h2 h3, k.2.2.1 h1 h2 h3]
      · rw [h.2.2.2 h1 h2 h3, k.2.2.2 h1 h2 h3]
    · rw [h.2.1 h1 h2, k.2.1 h1 h2]
  · rw [h.1 h1, k.1 h1]
theorem b2i_toNat (b : Bool) : b2i b = (b.toNat : Int) := by cases b <;> rfl
theorem b2i_u64 (b : Bool) : IntKind.u64.wrap (b2i b) = b2i b := by cases b <;> rfl
theorem n_lt8 (a n : Nat) (h : a < 8 * n) : a / 8 < n := by omega
theorem read_at (b : List Int) (hb : Bytes b) (a : Nat) (h : a < 8 * b.length) : Go.bits .and .u8 (shr .u8 (rd b ((a / 8 : Nat) : Int)) ((7 - a % 8 : Nat) : Int)) 1 = b2i (gb b a) := by
  have h1 := n_lt8 a b.length h
  rw [rd_nat b _ h1, read_u8 _ (byte_at hb _ h1) _ (by omega)]
  unfold gb
  simp [List.getD_eq_getElem?_getD, h1]
set_option maxHeartbeats 2000000 in
theorem or_u64 (v : Nat) (hv : v < 9223372036854775808) (b : Bool) : Go.bits .or .u64 (IntKind.u64.wrap ((v : Int) * 2)) (b2i b) = ((2 * v + b.toNat : Nat) : Int) := by
  rw [u64_id (by omega) (by omega)]
  have hb := b2i_range b
  have := bits_join .u64 64 (by decide) wraps_u64 1 ((v : Int) * 2) (b2i b) (by omega) (by omega) (by have : (2 : Int) ^ 64 = 18446744073709551616 := rfl; omega) hb.1 (by have : (2 : Int) ^ 1 = 2 := rfl; omega) (by have : (2 : Int) ^ 64 = 18446744073709551616 := rfl; omega)
  rw [this, b2i_toNat]
  omega
theorem fg_63 (G : Nat → Bool) (p t w : Nat) (h : t < w) (hw : w ≤ 64) : fg G p t 0 < 9223372036854775808 := by
  have h1 := fg_lt G t p
  have h2 : 2 ^ t ≤ 2 ^ 63 := Nat.pow_le_pow_right (by decide) (by omega)
  have h3 : (2 : Nat) ^ 63 = 9223372036854775808 := rfl
  omega
theorem late_cons {ws b : List Int} {j : Nat} (hj : ∀ i, tot (wn ws) ≤ i → i < j → gb b i = false) (hn : 8 * b.length ≤ j) : ¬ late ws b := by
  rintro ⟨i, h1, h2, h3⟩
  rw [hj i h1 (by omega)] at h3
  cases h3
theorem next_false {ws b : List Int} {j : Nat} (hj : ∀ i, tot (wn ws) ≤ i → i < j → gb b i = false) (h : gb b j = false) : ∀ i, tot (wn ws) ≤ i → i < j + 1 → gb b i = false := fun i h1 h2 => by
  rcases Nat.lt_or_ge i j with h3 | h3
  · exact hj i h1 h3
  · have : i = j := by omega
    rw [this]
    exact h
theorem mul8 (n : Nat) (h : n ≤ 600) : wrap64 (8 * (n : Int)) = ((8 * n : Nat) : Int) := by
  rw [SealEv.w64 (by omega) (by omega)]
  omega
theorem n_tot (ws : List Int) (hw : wok ws) (i : Nat) (h : i < ws.length) : tot ((wn ws).take i) + ws[i].toNat ≤ tot (wn ws) ∧ tot ((wn ws).take (i + 1)) = tot ((wn ws).take i) + ws[i].toNat := by
  have hi : i < (wn ws).length := by rw [wn_len]; exact h
  have h1 := tot_take_succ (wn ws) i hi
  rw [wn_at ws i h] at h1
  have h2 := tot_le (wn ws) (i + 1)
  exact ⟨by omega, h1⟩
theorem n_in (a t w T n : Nat) (h : a + w ≤ T) (ht : t < w) (hn : n = (T + 7) / 8) : a + t < 8 * n := by omega
set_option maxHeartbeats 2000000 in
theorem ref_late (ws b : List Int) (hb : Bytes b) (hn : b.length ≤ 600) (acc : List Int) (d : Nat) :
    ∀ j, j + d = max (8 * b.length) (tot (wn ws)) → tot (wn ws) ≤ j → (∀ i, tot (wn ws) ≤ i → i < j → gb b i = false) →
    ∃ r, Ev (fun k => slipwayref01_Unpack.l2 k b (b.length : Int) acc (j : Int)) r ∧ (late ws b → r = ([], 1)) ∧ (¬ late ws b → r = (acc, 0)) := by
  induction d with
  | zero =>
    intro j hj h0 hf
    have hl := late_cons (b := b) hf (by omega)
    refine ⟨(acc, 0), Ev.step (f := fun _ => some (acc, 0)) (fun k => ?_) (Ev.now _), fun h => absurd h hl, fun _ => rfl⟩
    simp only [slipwayref01_Unpack.l2]
    rw [mul8 _ hn, if_neg (by omega)]
  | succ d ih =>
    intro j hj h0 hf
    by_cases hlt : j < 8 * b.length
    · have e8 := idx8 j (by omega)
      have es := off8 j
      have eu := u64_small (7 - j % 8) (n_7 j)
      have er := read_at b hb j hlt
      have hlt' : (j : Int) < ((8 * b.length : Nat) : Int) := Int.ofNat_lt.mpr hlt
      have h8 : ((j / 8 : Nat) : Int) < (b.length : Int) := Int.ofNat_lt.mpr (n_lt8 j _ hlt)
      have hs := suc_small j (by omega)
      cases hg : gb b j with
      | true =>
        have hl : late ws b := ⟨j, h0, hlt, hg⟩
        refine ⟨([], 1), Ev.step (f := fun _ => some ([], 1)) (fun k => ?_) (Ev.now _), fun _ => rfl, fun h => absurd hl h⟩
        simp only [slipwayref01_Unpack.l2]
        rw [mul8 _ hn, if_pos hlt', e8, es, eu, er, hg, if_pos (Int.natCast_nonneg _), if_pos h8, if_pos (Int.natCast_nonneg _), if_neg (by decide)]
      | false =>
        obtain ⟨r, hr, hR⟩ := ih (j + 1) (by omega) (by omega) (next_false hf hg)
        refine ⟨r, Ev.step (f := fun k => slipwayref01_Unpack.l2 k b (b.length : Int) acc ((j + 1 : Nat) : Int)) (fun k => ?_) hr, hR⟩
        simp only [slipwayref01_Unpack.l2]
        rw [mul8 _ hn, if_pos hlt', e8, es, eu, er, hg, hs, if_pos (Int.natCast_nonneg _), if_pos h8, if_pos (Int.natCast_nonneg _), if_pos (by decide)]
    · have hl := late_cons (b := b) hf (by omega)
      refine ⟨(acc, 0), Ev.step (f := fun _ => some (acc, 0)) (fun k => ?_) (Ev.now _), fun h => absurd h hl, fun _ => rfl⟩
      simp only [slipwayref01_Unpack.l2]
      rw [mul8 _ hn, if_neg (by omega)]
set_option maxHeartbeats 2000000 in
theorem ref_unp_in (ws b : List Int) (hw : wok ws) (hb : Bytes b) (hn : b.length = (tot (wn ws) + 7) / 8) (i : Nat) (h : i < ws.length) (r : List Int × Int)
    (next : Ev (fun k => slipwayref01_Unpack.l0 k ws b (b.length : Int) (uvals ws b (i + 1)) (tot ((wn ws).take (i + 1)) : Int) ((i + 1 : Nat) : Int)) r) (d : Nat) :
    ∀ t, t + d = ws[i].toNat → Ev (fun k => slipwayref01_Unpack.l1 k ws b (b.length : Int) (uvals ws b i) ((tot ((wn ws).take i) + t : Nat) : Int) (i : Int) ((fg (gb b) (tot ((wn ws).take i)) t 0 : Nat) : Int) (t : Int)) r := by
  have hg := hw.2 _ (List.getElem_mem h)
  have hg1 := hg.1
  have hg2 := hg.2
  have hmax := tot_max hw
  obtain ⟨hA, hS⟩ := n_tot ws hw i h
  have h64 := hw.1
  have hw64 := n_64 _ hg2
  have hi0 : (i : Int) < (ws.length : Int) := Int.ofNat_lt.mpr h
  induction d with
  | zero =>
    intro t ht
    have htw : t = ws[i].toNat := ht
    refine Ev.step (f := fun k => slipwayref01_Unpack.l0 k ws b (b.length : Int) (uvals ws b (i + 1)) (tot ((wn ws).take (i + 1)) : Int) ((i + 1 : Nat) : Int)) (fun k => ?_) next
    have e1 : ¬ ((t : Int) < ws[i]) := by omega
    have e2 : (uvals ws b i).length < 17592186044416 := by rw [uvals_len]; omega
    have e3 := suc64 i ws.length h (by omega)
    simp only [slipwayref01_Unpack.l1]
    rw [if_pos (Int.natCast_nonneg _), if_pos hi0, rd_nat ws i h, if_neg e1, if_pos e2, e3, hS, uvals_succ, uval_at ws b i h, htw]
  | succ d ih =>
    intro t ht
    have htw := n_lt t d _ ht
    have hin := n_in _ _ _ _ _ hA htw hn
    have h8192 := n_8192 _ _ _ _ hA hmax htw
    have e8 := idx8 (tot ((wn ws).take i) + t) h8192
    have es := off8 (tot ((wn ws).take i) + t)
    have eu := u64_small (7 - (tot ((wn ws).take i) + t) % 8) (n_7 _)
    have er := read_at b hb (tot ((wn ws).take i) + t) hin
    have h8 : (((tot ((wn ws).take i) + t) / 8 : Nat) : Int) < (b.length : Int) := Int.ofNat_lt.mpr (n_lt8 _ _ hin)
    have hor := or_u64 (fg (gb b) (tot ((wn ws).take i)) t 0) (fg_63 _ _ _ _ htw hw64) (gb b (tot ((wn ws).take i) + t))
    rw [← fg_snoc] at hor
    have e1 : (t : Int) < ws[i] := n_int _ _ htw
    have ea := suc_add (tot ((wn ws).take i)) t h8192
    have et := suc_small t (n_t t _ htw hw64)
    refine Ev.step (f := fun k => slipwayref01_Unpack.l1 k ws b (b.length : Int) (uvals ws b i) ((tot ((wn ws).take i) + (t + 1) : Nat) : Int) (i : Int) ((fg (gb b) (tot ((wn ws).take i)) (t + 1) 0 : Nat) : Int) ((t + 1 : Nat) : Int)) (fun k => ?_) (ih (t + 1) (n_next t d _ ht))
    simp only [slipwayref01_Unpack.l1]
    rw [if_pos (Int.natCast_nonneg _), if_pos hi0, rd_nat ws i h, if_pos e1, e8, es, eu, er, b2i_u64, hor, ea, et, if_pos (Int.natCast_nonneg _), if_pos h8, if_pos (Int.natCast_nonneg _)]
set_option maxHeartbeats 2000000 in
theorem ref_unp_out (ws b : List Int) (hw : wok ws) (hb : Bytes b) (hn : b.length = (tot (wn ws) + 7) / 8) (r : List Int × Int)
    (next : Ev (fun k => slipwayref01_Unpack.l2 k b (b.length : Int) (uvals ws b ws.length) (tot (wn ws) : Int)) r) (d : Nat) : ∀ i, i + d = ws.length →
    Ev (fun k => slipwayref01_Unpack.l0 k ws b (b.length : Int) (uvals ws b i) (tot ((wn ws).take i) : Int) (i : Int)) r := by
  have h64 := hw.1
  induction d with
  | zero =>
    intro i hi
    have : i = ws.length := by omega
    subst this
    refine Ev.step (f := fun k => slipwayref01_Unpack.l2 k b (b.length : Int) (uvals ws b ws.length) (tot (wn ws) : Int)) (fun k => ?_) next
    simp only [slipwayref01_Unpack.l0]
    rw [if_neg (by omega), tot_all]
  | succ d ih =>
    intro i hi
    have h : i < ws.length := by omega
    have h0 := ref_unp_in ws b hw hb hn i h _ (ih (i + 1) (by omega)) ws[i].toNat 0 (by omega)
    refine Ev.step (f := fun k => slipwayref01_Unpack.l1 k ws b (b.length : Int) (uvals ws b i) ((tot ((wn ws).take i) + 0 : Nat) : Int) (i : Int) ((fg (gb b) (tot ((wn ws).take i)) 0 0 : Nat) : Int) ((0 : Nat) : Int)) (fun k => ?_) h0
    simp only [slipwayref01_Unpack.l0]
    rw [if_pos (by omega)]
    rfl
set_option maxHeartbeats 2000000 in
theorem ref_unpack_ev (ws b : List Int) (hb : Bytes b) : ∃ r, Ev (fun k => slipwayref01_Unpack.f k ws b) r ∧ UnpR ws b r := by
  obtain ⟨q, hq, q1, q2⟩ := ref_width_ev ws
  unfold slipwayref01_Unpack.f
  by_cases hw : wok ws
  · rw [q1 hw] at hq
    have hmax := tot_max hw
    by_cases hn : b.length = (tot (wn ws) + 7) / 8
    · have h600 : b.length ≤ 600 := by omega
      obtain ⟨r, hr, r1, r2⟩ := ref_late ws b hb h600 (uvals ws b ws.length) (max (8 * b.length) (tot (wn ws)) - tot (wn ws)) (tot (wn ws)) (by omega) (Nat.le_refl _) (fun i h1 h2 => by omega)
      have hout := ref_unp_out ws b hw hb hn r hr ws.length 0 (by omega)
      refine ⟨r, Ev.bind hq (Ev.iff_pos rfl (Ev.iff_pos (by simp only; omega) ?_)), fun h => absurd hw h, fun _ h => absurd hn h, fun _ _ => r1, fun _ _ => r2⟩
      have e : (((tot (wn ws) + 7) / 8 : Nat) : Int) = (b.length : Int) := by rw [hn]
      simp only [e]
      exact hout
    · exact ⟨([], 3), Ev.bind hq (Ev.iff_pos rfl (Ev.iff_neg (by simp only; omega) (Ev.now _))), fun h => absurd hw h, fun _ _ => rfl, fun _ h => absurd h hn, fun _ h => absurd h hn⟩
  · rw [q2 hw] at hq
    exact ⟨([], 1), Ev.bind hq (Ev.iff_neg (by decide) (Ev.now _)), fun _ => rfl, fun h => absurd h hw, fun h => absurd h hw, fun h => absurd h hw⟩
end Go.Proofs.Ytbdnmdmfnopihaa.PackEv
end
section
namespace Go.Proofs.Ytbdnmdmfnopihaa.PackEv
set_option linter.unusedVariables false
set_option linter.unusedSimpArgs false
open Go.RowKit Go.Proofs.Ytbdnmdmfnopihaa.SMath Go.Proofs.Ytbdnmdmfnopihaa.SealEv Go.Proofs.Ytbdnmdmfnopihaa.PackMath Go.Proofs.Ytbdnmdmfnopihaa.PackEv Go.Proofs.YtbdnmdmfnopihaaW.PrintWords Go.Proofs.YtbdnmdmfnopihaaW.PrintLast Go.Proofs.YtbdnmdmfnopihaaW.PrintMore
set_option maxHeartbeats 2000000 in
theorem back_one {ws vs x : List Int} (hv : U64s vs) (hf : fits ws vs) (hx : PackOK ws vs x) {r : List Int × Int} (h : UnpR ws x r) : r = (vs, 0) := by
  have hl : ¬ late ws x := by
    rintro ⟨j, h1, h2, h3⟩
    rw [hx.2.2 j, pb_out _ _ _ h1] at h3
    cases h3
  rw [h.2.2.2 hf.1 hx.2.1 hl]
  congr 1
  apply List.ext_getElem
  · rw [uvals_len, hf.2.1]
  · intro i h1 h2
    have hi : i < ws.length := by rw [uvals_len] at h1; exact h1
    have e : (uvals ws x ws.length)[i] = uval ws x i := by simp [uvals]
    have hiw : i < (wn ws).length := by rw [wn_len]; exact hi
    rw [e, uval_at ws x i hi, fg_of_bits (gb x) ws[i].toNat (tot ((wn ws).take i)) vs[i].toNat (hf.2.2 i hi h2) ?_]
    · have := (u64s_at hv i h2).1
      omega
    · intro t ht
      rw [hx.2.2, pb_at (wn ws) vs i hiw h2 t (by rw [wn_at ws i hi]; exact ht), wn_at ws i hi]
      rfl
end Go.Proofs.Ytbdnmdmfnopihaa.PackEv
end
section
namespace Go.Proofs.Ytbdnmdmfnopihaa.DescEv
set_option linter.unusedVariables false
set_option linter.unusedSimpArgs false
open Go.RowKit Go.Proofs.Ytbdnmdmfnopihaa.Print Go.Proofs.Ytbdnmdmfnopihaa.SMath Go.Proofs.Ytbdnmdmfnopihaa.SealEv Go.Proofs.Ytbdnmdmfnopihaa.PackMath Go.Proofs.Ytbdnmdmfnopihaa.PackEv Go.Proofs.YtbdnmdmfnopihaaW.PrintWords Go.Proofs.YtbdnmdmfnopihaaW.PrintLast Go.Proofs.YtbdnmdmfnopihaaW.PrintMore
def six (d : S57) : List Int := [d.f0 / 256 % 256, d.f0 % 256, d.f1 / 256 % 256, d.f1 % 256, d.f2 / 256 % 256, d.f2 % 256]
theorem chunk_six (d : S57) : chunk d = six d ++ List.replicate 10 0 := rfl
def w16 : List Int := [16, 16, 16]
theorem w16_ok : wok w16 := ⟨by decide, by unfold w16 good; decide⟩
theorem w16_tot : tot (wn w16) = 48 := by decide
def v3 (d : S57) : List Int := [d.f0, d.f1, d.f2]
theorem v3_u64 {d : S57} (h : DOK d) : U64s (v3 d) := by
  obtain ⟨h0, h1, h2⟩ := h
  intro v hv
  simp only [v3, List.mem_cons, List.not_mem_nil, or_false] at hv
  unfold U64
  rcases hv with rfl | rfl | rfl <;> omega
theorem v3_fit {d : S57} (h : DOK d) : fits w16 (v3 d) := by
  obtain ⟨h0, h1, h2⟩ := h
  refine ⟨w16_ok, rfl, fun i hi hi' => ?_⟩
  have hi3 : i < 3 := hi
  have hp : (2 : Nat) ^ 16 = 65536 := rfl
  have : i = 0 ∨ i = 1 ∨ i = 2 := by omega
  rcases this with rfl | rfl | rfl
  · show d.f0.toNat < 2 ^ 16
    omega
  · show d.f1.toNat < 2 ^ 16
    omega
  · show d.f2.toNat < 2 ^ 16
    omega
set_option maxHeartbeats 2000000 in
theorem gb_two (out : List Int) (i t : Nat) (f : Int) (h0 : out.getD (2 * i) 0 = f / 256 % 256) (h1 : out.getD (2 * i + 1) 0 = f % 256) (hf : 0 ≤ f) (ht : t < 16) : gb out (16 * i + t) = f.toNat.testBit (15 - t) := by
  unfold gb
  by_cases h : t < 8
  · rw [show (16 * i + t) / 8 = 2 * i by omega, show (16 * i + t) % 8 = t by omega, h0]
    have e : (f / 256 % 256).toNat = f.toNat / 2 ^ 8 % 2 ^ 8 := by
      have : (2 : Nat) ^ 8 = 256 := rfl
      omega
    rw [e, Nat.testBit_mod_two_pow, Nat.testBit_div_two_pow, show 15 - t = 8 + (7 - t) by omega]
    simp [show 7 - t < 8 by omega, Nat.add_comm]
  · rw [show (16 * i + t) / 8 = 2 * i + 1 by omega, show (16 * i + t) % 8 = t - 8 by omega, h1]
    have e : (f % 256).toNat = f.toNat % 2 ^ 8 := by
      have : (2 : Nat) ^ 8 = 256 := rfl
      omega
    rw [e, Nat.testBit_mod_two_pow, show 15 - t = 7 - (t - 8) by omega]
    simp [show 7 - (t - 8) < 8 by omega]
theorem six_bytes (d : S57) : Bytes (six d) := by
  intro x hx
  simp only [six, List.mem_cons, List.not_mem_nil, or_false] at hx
  unfold Byte
  omega
set_option maxHeartbeats 2000000 in
theorem six_ok {d : S57} (h : DOK d) : PackOK w16 (v3 d) (six d) := by
  refine ⟨six_bytes d, by rw [w16_tot]; rfl, fun j => ?_⟩
  obtain ⟨h0, h1, h2⟩ := h
  by_cases hj : j < 48
  · have hw : wn w16 = [16, 16, 16] := rfl
    rw [hw]
    rcases Nat.lt_or_ge j 16 with q | q
    · have e := pb_at [16, 16, 16] (v3 d) 0 (by decide) (by simp [v3]) j q
      have e' : pb [16, 16, 16] (v3 d) j = d.f0.toNat.testBit (15 - j) := by
        rw [show tot (List.take 0 [16, 16, 16]) + j = j by simp [tot]] at e
        exact e
      rw [e']
      have g := gb_two (six d) 0 j d.f0 rfl rfl h0.1 q
      rwa [Nat.mul_zero, Nat.zero_add] at g
    · rcases Nat.lt_or_ge j 32 with q2 | q2
      · obtain ⟨t, rfl⟩ : ∃ t, j = 16 + t := ⟨j - 16, by omega⟩
        have e := pb_at [16, 16, 16] (v3 d) 1 (by decide) (by simp [v3]) t (show t < 16 by omega)
        have e' : pb [16, 16, 16] (v3 d) (16 + t) = d.f1.toNat.testBit (15 - t) := e
        rw [e']
        exact gb_two (six d) 1 t d.f1 rfl rfl h1.1 (by omega)
      · obtain ⟨t, rfl⟩ : ∃ t, j = 32 + t := ⟨j - 32, by omega⟩
        have e := pb_at [16, 16, 16] (v3 d) 2 (by decide) (by simp [v3]) t (show t < 16 by omega)
        have e' : pb [16, 16, 16] (v3 d) (32 + t) = d.f2.toNat.testBit (15 - t) := e
        rw [e']
        exact gb_two (six d) 2 t d.f2 rfl rfl h2.1 (by omega)
  · rw [gb_out _ _ (by show 8 * 6 ≤ j; omega), pb_out _ _ _ (by rw [w16_tot]; omega)]
theorem pack3 {d : S57} (h : DOK d) : Ev (fun k => slipwayref01_Pack.f k w16 (v3 d)) (six d, 0) := by
  obtain ⟨r, hr, rR⟩ := ref_pack_ev w16 (v3 d) (v3_u64 h)
  obtain ⟨r2, rP⟩ := rR.1 (v3_fit h)
  have : r = (six d, 0) := Prod.ext (rP.unique (six_ok h)) r2
  exact this ▸ hr
theorem pad_one (p : List Int) (d : Nat) : p ++ List.replicate (d + 1) (0 : Int) = (p ++ [0]) ++ List.replicate d 0 := by simp [List.replicate_succ]
set_option maxHeartbeats 2000000 in
theorem renc_l2 (d : Nat) : ∀ p : List Int, p.length + d = 256 → Ev (fun k => slipwayref11_EncodeDescs.l2 k p) (p ++ List.replicate d 0, 0) := by
  induction d with
  | zero =>
    intro p hl
    refine Ev.step (f := fun k => some (p, 0)) (fun k => ?_) (by rw [List.replicate_zero, List.append_nil]; exact Ev.now _)
    unfold slipwayref11_EncodeDescs.l2
    rw [if_neg (by omega)]
  | succ d ih =>
    intro p hl
    rw [pad_one]
    refine Ev.step (fun k => ?_) (ih (p ++ [0]) (by rw [List.length_append]; simp; omega))
    rw [slipwayref11_EncodeDescs.l2.eq_def]
    simp only
    rw [if_pos (by omega), if_pos (by omega)]
set_option maxHeartbeats 2000000 in
theorem renc_l1 (l : List S57) (out : List Int) (i : Nat) (hi : i < l.length) (hn : l.length ≤ 16) (ho : out.length = 16 * i) {r : List Int × Int} (d : Nat) : ∀ p : List Int, p.length + d = 16 →
    Ev (fun k => slipwayref11_EncodeDescs.l0 k l (out ++ (p ++ List.replicate d 0)) ((i + 1 : Nat) : Int)) r → Ev (fun k => slipwayref11_EncodeDescs.l1 k l out (i : Int) p) r := by
  induction d with
  | zero =>
    intro p hl h
    rw [List.replicate_zero, List.append_nil] at h
    refine Ev.step (fun k => ?_) h
    rw [slipwayref11_EncodeDescs.l1.eq_def]
    simp only
    rw [if_neg (by omega), if_pos (by omega), suc64 i l.length hi (by omega)]
  | succ d ih =>
    intro p hl h
    rw [pad_one] at h
    refine Ev.step (fun k => ?_) (ih (p ++ [0]) (by rw [List.length_append]; simp; omega) h)
    rw [slipwayref11_EncodeDescs.l1.eq_def]
    simp only
    rw [if_pos (by omega), if_pos (by omega)]
theorem renc_bad (l : List S57) (out : List Int) (i a b c : Int) : Ev (fun k => slipwayref11_EncodeDescs.j1 k l out i true a b c) ([], 1) := by
  refine Ev.step (f := fun _ => some ([], 1)) (fun k => ?_) (Ev.now _)
  rw [slipwayref11_EncodeDescs.j1.eq_def]
  simp only
  rw [if_pos trivial]
set_option maxHeartbeats 2000000 in
theorem renc_from (l : List S57) (hn : l.length ≤ 16) (d : Nat) : ∀ (i : Nat), i + d = l.length → (∀ j, j < i → ∀ h : j < l.length, DOK l[j]) →
    Ev (fun k => slipwayref11_EncodeDescs.l0 k l (chunks (l.take i)) (i : Int)) (encR l) := by
  induction d with
  | zero =>
    intro i hi hg
    have hi' : i = l.length := by omega
    subst hi'
    have hall : l.length ≤ 16 ∧ ∀ d ∈ l, DOK d := ⟨hn, fun d hd => by obtain ⟨j, hj, rfl⟩ := List.getElem_of_mem hd; exact hg j hj hj⟩
    refine Ev.step (f := fun k => slipwayref11_EncodeDescs.l2 k (chunks (l.take l.length))) (fun k => ?_) ?_
    · rw [slipwayref11_EncodeDescs.l0.eq_def]
      simp only
      rw [if_neg (by omega)]
    · rw [encR, if_pos hall, List.take_length]
      exact renc_l2 (256 - 16 * l.length) (chunks l) (by rw [chunks_len]; omega)
  | succ d ih =>
    intro i hi hg
    have hlt : i < l.length := by omega
    have bad : ¬ DOK l[i] → encR l = ([], 1) := fun h => by rw [encR, if_neg (fun h' => h (h'.2 _ (List.getElem_mem hlt)))]
    have st : ∀ {r}, Ev (fun k => if l[i].f0 < 0 then (slipwayref11_EncodeDescs.j1 k l (chunks (l.take i)) (i : Int) true l[i].f0 l[i].f1 l[i].f2) else (if l[i].f0 > 65535 then (slipwayref11_EncodeDescs.j1 k l (chunks (l.take i)) (i : Int) true l[i].f0 l[i].f1 l[i].f2) else (if l[i].f1 < 0 then (slipwayref11_EncodeDescs.j1 k l (chunks (l.take i)) (i : Int) true l[i].f0 l[i].f1 l[i].f2) else (if l[i].f1 > 65535 then (slipwayref11_EncodeDescs.j1 k l (chunks (l.take i)) (i : Int) true l[i].f0 l[i].f1 l[i].f2) else (if l[i].f2 < 0 then (slipwayref11_EncodeDescs.j1 k l (chunks (l.take i)) (i : Int) true l[i].f0 l[i].f1 l[i].f2) else (slipwayref11_EncodeDescs.j1 k l (chunks (l.take i)) (i : Int) (decide (l[i].f2 > 65535)) l[i].f0 l[i].f1 l[i].f2)))))) r → Ev (fun k => slipwayref11_EncodeDescs.l0 k l (chunks (l.take i)) (i : Int)) r := fun {r} h => by
      refine Ev.step (fun k => ?_) h
      rw [slipwayref11_EncodeDescs.l0.eq_def]
      simp only
      rw [if_pos (by omega), if_pos (by omega), rdT l i hlt]
    refine st ?_
    by_cases a0 : l[i].f0 < 0
    · rw [bad (fun h => by have := h.1; omega)]; exact Ev.iff_pos a0 (renc_bad ..)
    refine Ev.iff_neg a0 ?_
    by_cases a1 : l[i].f0 > 65535
    · rw [bad (fun h => by have := h.1; omega)]; exact Ev.iff_pos a1 (renc_bad ..)
    refine Ev.iff_neg a1 ?_
    by_cases b0 : l[i].f1 < 0
    · rw [bad (fun h => by have := h.2.1; omega)]; exact Ev.iff_pos b0 (renc_bad ..)
    refine Ev.iff_neg b0 ?_
    by_cases b1 : l[i].f1 > 65535
    · rw [bad (fun h => by have := h.2.1; omega)]; exact Ev.iff_pos b1 (renc_bad ..)
    refine Ev.iff_neg b1 ?_
    by_cases c0 : l[i].f2 < 0
    · rw [bad (fun h => by have := h.2.2; omega)]; exact Ev.iff_pos c0 (renc_bad ..)
    refine Ev.iff_neg c0 ?_
    by_cases c1 : l[i].f2 > 65535
    · rw [bad (fun h => by have := h.2.2; omega), decide_eq_true c1]; exact renc_bad ..
    rw [decide_eq_false c1]
    have hq : DOK l[i] := ⟨by omega, by omega, by omega⟩
    have u : ∀ x : Int, 0 ≤ x → x ≤ 65535 → IntKind.u64.wrap x = x := fun x h0 h1 => u64_id h0 (by omega)
    refine Ev.step (f := fun k => (slipwayref01_Pack.f k w16 (v3 l[i])).bind fun bt294 => (slipwayref11_EncodeDescs.l1 k l (chunks (l.take i)) (i : Int) bt294.1)) (fun k => ?_) ?_
    · rw [slipwayref11_EncodeDescs.j1.eq_def]
      simp only
      rw [if_neg (by decide), u _ (by omega) (by omega), u _ (by omega) (by omega), u _ (by omega) (by omega)]
      rfl
    · refine Ev.bind (pack3 hq) (renc_l1 l _ i hlt hn (by rw [chunks_len, List.length_take]; omega) 10 (six l[i]) rfl ?_)
      rw [← chunk_six, ← chunks_snoc, ← List.take_succ_eq_append_getElem hlt]
      refine ih (i + 1) (by omega) (fun j hj h => ?_)
      rcases Nat.lt_or_ge j i with h1 | h1
      · exact hg j h1 h
      · have : j = i := by omega
        subst this
        exact hq
theorem renc_ev (l : List S57) : Ev (fun k => slipwayref11_EncodeDescs.f k l) (encR l) := by
  unfold slipwayref11_EncodeDescs.f
  by_cases h : l.length ≤ 16
  · refine Ev.iff_neg (by omega) (Ev.iff_pos (by omega) ?_)
    exact renc_from l h l.length 0 (by omega) (fun j hj => by omega)
  · rw [encR, if_neg (fun h' => h h'.1)]
    exact Ev.iff_pos (by omega) (Ev.now _)
theorem getD_byte {b : List Int} (hb : Bytes b) (q : Nat) : Byte (b.getD q 0) := by
  rw [List.getD_eq_getElem?_getD]
  rcases Nat.lt_or_ge q b.length with hq | hq
  · rw [List.getElem?_eq_getElem hq]; exact hb _ (List.getElem_mem hq)
  · rw [List.getElem?_eq_none hq]; exact ⟨by decide, by decide⟩
set_option maxHeartbeats 2000000 in
theorem cut_six (b : List Int) (hb : Bytes b) (hl : b.length = 256) (i : Nat) (hi : i < 16) : (b.take (16 * i + 6)).drop (16 * i) = six (desc b i) := by
  apply List.ext_getElem
  · rw [List.length_drop, List.length_take]
    show _ = 6
    omega
  · intro t h1 h2
    have ht : t < 6 := h2
    have e : ((b.take (16 * i + 6)).drop (16 * i))[t] = b.getD (16 * i + t) 0 := by
      have : 16 * i + t < b.length := by omega
      simp [List.getElem_drop, List.getElem_take, List.getD_eq_getElem?_getD, this]
    rw [e]
    have g0 := getD_byte hb (16 * i)
    have g1 := getD_byte hb (16 * i + 1)
    have g2 := getD_byte hb (16 * i + 2)
    have g3 := getD_byte hb (16 * i + 3)
    have g4 := getD_byte hb (16 * i + 4)
    have g5 := getD_byte hb (16 * i + 5)
    unfold Byte at g0 g1 g2 g3 g4 g5
    have : t = 0 ∨ t = 1 ∨ t = 2 ∨ t = 3 ∨ t = 4 ∨ t = 5 := by omega
    rcases this with rfl | rfl | rfl | rfl | rfl | rfl
    · show b.getD (16 * i) 0 = (b.getD (16 * i) 0 * 256 + b.getD (16 * i + 1) 0) / 256 % 256
      omega
    · show b.getD (16 * i + 1) 0 = (b.getD (16 * i) 0 * 256 + b.getD (16 * i + 1) 0) % 256
      omega
    · show b.getD (16 * i + 2) 0 = (b.getD (16 * i + 2) 0 * 256 + b.getD (16 * i + 3) 0) / 256 % 256
      omega
    · show b.getD (16 * i + 3) 0 = (b.getD (16 * i + 2) 0 * 256 + b.getD (16 * i + 3) 0) % 256
      omega
    · show b.getD (16 * i + 4) 0 = (b.getD (16 * i + 4) 0 * 256 + b.getD (16 * i + 5) 0) / 256 % 256
      omega
    · show b.getD (16 * i + 5) 0 = (b.getD (16 * i + 4) 0 * 256 + b.getD (16 * i + 5) 0) % 256
      omega
theorem desc_ok {b : List Int} (hb : Bytes b) (i : Nat) : DOK (desc b i) := ⟨two_range hb _, two_range hb _, two_range hb _⟩
theorem unpack3 (b : List Int) (hb : Bytes b) (hl : b.length = 256) (i : Nat) (hi : i < 16) : Ev (fun k => slipwayref01_Unpack.f k w16 ((b.take (16 * i + 6)).drop (16 * i))) (v3 (desc b i), 0) := by
  rw [cut_six b hb hl i hi]
  have hd := desc_ok hb i
  obtain ⟨u, hu, uR⟩ := ref_unpack_ev w16 (six (desc b i)) (six_bytes _)
  have e := back_one (v3_u64 hd) (v3_fit hd) (six_ok hd) uR
  exact e ▸ hu
theorem str_eq {a b : List Int} (ha : Bytes a) (hb : Bytes b) : (strOfNums a).toList = (strOfNums b).toList ↔ a = b := by
  rw [Lib.strOfNums_toList, Lib.strOfNums_toList]
  constructor
  · intro h
    exact map_inj ha hb h
  · rintro rfl
    rfl
set_option maxHeartbeats 2000000 in
theorem rdec_from (b : List Int) (hb : Bytes b) (hl : b.length = 256) (n : Nat) (hn : n ≤ 16) (d : Nat) : ∀ i : Nat, i + d = n →
    Ev (fun k => slipwayref11_DecodeDescs.l0 k b (n : Int) (descs b i) (i : Int)) (decR b n) := by
  induction d with
  | zero =>
    intro i hi
    have hi' : i = n := by omega
    subst hi'
    refine Ev.step (f := fun k => (slipwayref11_EncodeDescs.f k (descs b i)).bind fun bt346 => (if (strOfNums bt346.1).toList = (strOfNums b).toList then (some (descs b i, 0)) else (some (([] : List (S57)), 111)))) (fun k => ?_) ?_
    · simp only [slipwayref11_DecodeDescs.l0]
      rw [if_neg (by omega)]
    · refine Ev.bind (renc_ev (descs b i)) ?_
      have e : encR (descs b i) = (fin (descs b i), 0) := by rw [encR, if_pos ⟨by rw [descs_len]; exact hn, descs_ok hb i⟩]
      rw [e]
      have e2 : decR b (i : Int) = if fin (descs b i) = b then (descs b i, 0) else ([], 111) := by
        rw [decR, if_neg (by omega), if_neg (by omega), Int.toNat_natCast]
      rw [e2]
      by_cases h : fin (descs b i) = b
      · rw [if_pos h]
        exact Ev.iff_pos ((str_eq (fin_bytes _) hb).2 h) (Ev.now _)
      · rw [if_neg h]
        exact Ev.iff_neg (fun x => h ((str_eq (fin_bytes _) hb).1 x)) (Ev.now _)
  | succ d ih =>
    intro i hi
    have hs := suc64 i n (by omega) (by omega)
    have e16 : wrap64 ((i : Int) * 16) = ((16 * i : Nat) : Int) := by rw [w64 (by omega) (by omega)]; omega
    have e22 : wrap64 (((16 * i : Nat) : Int) + 6) = ((16 * i + 6 : Nat) : Int) := by rw [w64 (by omega) (by omega)]; omega
    refine Ev.step (f := fun k => (slipwayref01_Unpack.f k w16 ((b.take (16 * i + 6)).drop (16 * i))).bind fun bt336 => (if 0 < (bt336.1.length : Int) then (if 1 < (bt336.1.length : Int) then (if 2 < (bt336.1.length : Int) then (if (descs b i).length < 5864062014805 then (slipwayref11_DecodeDescs.l0 k b (n : Int) (descs b i ++ [(⟨wrap64 (rd bt336.1 0), wrap64 (rd bt336.1 1), wrap64 (rd bt336.1 2)⟩ : S57)]) (wrap64 ((i : Int) + 1))) else (none)) else (none)) else (none)) else (none))) (fun k => ?_) ?_
    · simp only [slipwayref11_DecodeDescs.l0]
      rw [if_pos (by omega), e16, e22, if_pos (by omega), if_pos (by omega), if_pos (by omega), Int.toNat_natCast, Int.toNat_natCast]
      rfl
    · refine Ev.bind (unpack3 b hb hl i (by omega)) (Ev.iff_pos (by simp [v3]) (Ev.iff_pos (by simp [v3]) (Ev.iff_pos (by simp [v3]) (Ev.iff_pos (by rw [descs_len]; omega) ?_))))
      have hd := desc_ok hb i
      obtain ⟨h0, h1, h2⟩ := hd
      have q0 : wrap64 (rd (v3 (desc b i)) 0) = (desc b i).f0 := w64 (n := (desc b i).f0) (by omega) (by omega)
      have q1 : wrap64 (rd (v3 (desc b i)) 1) = (desc b i).f1 := w64 (n := (desc b i).f1) (by omega) (by omega)
      have q2 : wrap64 (rd (v3 (desc b i)) 2) = (desc b i).f2 := w64 (n := (desc b i).f2) (by omega) (by omega)
      have := ih (i + 1) (by omega)
      rw [descs_succ] at this
      show Ev (fun k => slipwayref11_DecodeDescs.l0 k b (n : Int) (descs b i ++ [(⟨wrap64 (rd (v3 (desc b i)) 0), wrap64 (rd (v3 (desc b i)) 1), wrap64 (rd (v3 (desc b i)) 2)⟩ : S57)]) (wrap64 ((i : Int) + 1))) _
      rw [q0, q1, q2, hs]
      exact this
set_option maxHeartbeats 2000000 in
theorem rdec_ev (b : List Int) (hb : Bytes b) (n : Int) : Ev (fun k => slipwayref11_DecodeDescs.f k b n) (decR b n) := by
  unfold slipwayref11_DecodeDescs.f
  by_cases h0 : n < 0
  · refine Ev.iff_pos h0 (Ev.step (f := fun _ => some ([], 1)) (fun k => ?_) ?_)
    · simp only [slipwayref11_DecodeDescs.j0]
      rw [if_pos trivial]
    · rw [decR, if_pos (.inl h0)]; exact Ev.now _
  · refine Ev.iff_neg h0 ?_
    by_cases h1 : n > 16
    · refine Ev.step (f := fun _ => some ([], 1)) (fun k => ?_) ?_
      · simp only [slipwayref11_DecodeDescs.j0]
        rw [if_pos (by simp [h1])]
      · rw [decR, if_pos (.inr h1)]; exact Ev.now _
    · by_cases h2 : b.length = 256
      · obtain ⟨m, rfl⟩ : ∃ m : Nat, n = m := ⟨n.toNat, by omega⟩
        refine Ev.step (f := fun k => slipwayref11_DecodeDescs.l0 k b (m : Int) [] 0) (fun k => ?_) (rdec_from b hb h2 m (by omega) m 0 (by omega))
        simp only [slipwayref11_DecodeDescs.j0]
        rw [if_neg (by simp [h1]), if_pos (by omega)]
      · refine Ev.step (f := fun _ => some ([], 111)) (fun k => ?_) ?_
        · simp only [slipwayref11_DecodeDescs.j0]
          rw [if_neg (by simp [h1]), if_neg (by omega)]
        · rw [decR, if_neg (by omega), if_pos h2]; exact Ev.now _
end Go.Proofs.Ytbdnmdmfnopihaa.DescEv
end
section
namespace Go.Proofs.Ytbdnmdmfnopihaa.Pure
set_option linter.unusedVariables false
set_option linter.unusedSimpArgs false
open Go.RowKit Go.Proofs.Ytbdnmdmfnopihaa.Print Go.Proofs.Ytbdnmdmfnopihaa.SMath Go.Proofs.Ytbdnmdmfnopihaa.SealEv Go.Proofs.Ytbdnmdmfnopihaa.DescEv Go.Proofs.Ytbdnmdmfnopihaa.PackEv Go.Proofs.YtbdnmdmfnopihaaW.PrintWords Go.Proofs.YtbdnmdmfnopihaaW.PrintLast Go.Proofs.YtbdnmdmfnopihaaW.PrintMore
theorem live_ev : Ev (fun k => slipwaylaw11_live.f k) true := Ev.of slipwaylaw11_live.mono (k := 60) (by decide +kernel)
theorem encR_bytes (l : List S57) : Bytes (encR l).1 := by
  unfold encR
  split
  · exact fin_bytes l
  · intro x hx; cases hx
theorem decR_len (b : List Int) (n : Int) : (decR b n).1.length ≤ 140737488355328 := by
  unfold decR
  split
  · simp
  · split
    · simp
    · split
      · rw [descs_len]; omega
      · simp
set_option maxHeartbeats 2000000 in
theorem LayoutDescs : slipwaylaw11_LayoutDescs.Pure := by
  intro l x n hl hx _
  refine Ev.rounds ?_
  have hx8 : Bytes x := bytes_of_wf hx.2.2
  unfold slipwaylaw11_LayoutDescs.f
  refine Ev.bind live_ev (Ev.iff_pos rfl (Ev.bind (enc_ev l) (Ev.bind (renc_ev l) (Ev.bind (dec_ev x hx8 n) (Ev.bind (rdec_ev x hx8 n) ?_)))))
  refine Ev.bindS (fun _ => bytes_equal (encR_bytes l) (encR_bytes l)) (Ev.iff_pos (by simp) (Ev.iff_pos rfl ?_))
  refine Ev.bind (desc_equal _ (decR_len x n)) (Ev.iff_pos rfl ?_)
  rw [show ((decR x n).2 == (decR x n).2) = true by simp]
  exact Ev.now _
end Go.Proofs.Ytbdnmdmfnopihaa.Pure
end
section
namespace Go.Proofs.Ytbdnmdmfnopihaa.Opn
open Go.RowKit Go.Proofs.YtbdnmdmfnopihaaW.PrintWords Go.ChangeShapes Go.WideShapes Go.Deep
/-- No part of a datum weighs more than can be reached. -/
def Small {H : Type} (P : Program) (t : TypeId) (d : DataW H) : Prop := ∀ n, n ∈ DataW.weights P t d → n ≤ 140737488351232
/-- What is trod at type t is a value of kind d, with what is told of it. -/
def Opens (P : Program) (t : TypeId) {α : Type} (d : Kd α) (wf : α → Prop) : Prop :=
  ∀ {H : Type} (enc : TypeId × Value → H) (w : World) (fuel : Nat) (cs : List Value) (x : DataW H × List MemPlace),
    DataW.trod enc P w 0 (fun _ => true) true fuel t cs = some x → Small P t x.1 → ∃ a, wf a ∧ d.K w a cs
theorem Opens.int {P : Program} {t : TypeId} {k : IntKind} (ht : P.underlying t = some (.int k)) : Opens P t (Kd.int k) (fun a => (Lit.int k a).wf = true) := by
  intro H enc w fuel cs x h _
  obtain ⟨n, rfl, _, hw⟩ := DataW.trod_int ht h
  exact ⟨n, hw, rfl⟩
theorem Opens.bool {P : Program} {t : TypeId} (ht : P.underlying t = some .bool) : Opens P t Kd.bool (fun _ => True) := by
  intro H enc w fuel cs x h _
  obtain ⟨b, rfl, _⟩ := DataW.trod_bool ht h
  exact ⟨b, trivial, rfl⟩
theorem Opens.iso {P : Program} {t : TypeId} {α β : Type} {d : Kd α} {wf : α → Prop} (h : Opens P t d wf) (f : β → α) (g : α → β) (hg : ∀ a, f (g a) = a) : Opens P t (Kd.iso d f) (fun b => wf (f b)) := by
  intro H enc w fuel cs x hx hs
  obtain ⟨a, hw, hK⟩ := h enc w fuel cs x hx hs
  refine ⟨g a, ?_, ?_⟩
  · show wf (f (g a)); rw [hg]; exact hw
  · show d.K w (f (g a)) cs; rw [hg]; exact hK
set_option maxHeartbeats 2000000 in
theorem list_of {α : Type} {p : Nat → α → Prop} : ∀ (n : Nat), (∀ i, i < n → ∃ a, p i a) → ∃ l : List α, l.length = n ∧ ∀ i a, l[i]? = some a → p i a
  | 0, _ => ⟨[], rfl, fun i a h => by simp at h⟩
  | n + 1, h => by
    obtain ⟨l, hl, hp⟩ := list_of n (fun i hi => h i (by omega))
    obtain ⟨a, ha⟩ := h n (by omega)
    refine ⟨l ++ [a], by simp [hl], fun i b hb => ?_⟩
    rcases Nat.lt_or_ge i l.length with hi | hi
    · rw [List.getElem?_append_left hi] at hb; exact hp i b hb
    · rw [List.getElem?_append_right hi] at hb
      have hi0 : i - l.length = 0 := by
        rcases Nat.eq_zero_or_pos (i - l.length) with h0 | h0
        · exact h0
        · rw [List.getElem?_eq_none (by simp; omega)] at hb; cases hb
      rw [hi0] at hb
      simp at hb
      subst hb
      have : i = n := by omega
      subst this
      exact ha
theorem weightsAll_mem {H : Type} {P : Program} {e : TypeId} : ∀ {l : List (DataW H)} {d : DataW H}, d ∈ l → ∀ n, n ∈ DataW.weights P e d → n ∈ DataW.weightsAll P e l
  | x :: l, d, hd, n, hn => by
    simp only [DataW.weightsAll, List.mem_append]
    rcases List.mem_cons.1 hd with rfl | hd
    · exact .inl hn
    · exact .inr (weightsAll_mem hd n hn)
set_option maxHeartbeats 2000000 in
theorem Opens.slice {P : Program} {t e : TypeId} {α : Type} {d : Kd α} {wf : α → Prop} {B : Nat} (ht : P.underlying t = some (.slice e)) (hc : P.cellsOf e = d.sz) (hB : P.bytesOf e = B) (h : Opens P e d wf) :
    Opens P t (Kd.slice e d) (fun l => l.length ≤ maxLen ∧ l.length * B ≤ 140737488351232 ∧ ∀ x ∈ l, wf x) := by
  intro H enc w fuel cs x hx hs
  rcases open_slice ht hx with ⟨rfl, _⟩ | ⟨a, len, cap, m, n, D, Pl, rfl, hb, hl, hm, hmm, rfl, hi⟩
  · exact ⟨[], ⟨Nat.zero_le _, by simp, fun x hx => by cases hx⟩, none, 0, rfl, Nat.le_refl _, rfl, Nat.zero_le _, fun h0 => absurd h0 (Nat.lt_irrefl _)⟩
  · simp only [if_true] at hmm
    subst hmm
    have hD : ∀ i, i < len → Small P e (D i) := fun i hi n hn => by
      refine hs n ?_
      simp only [DataW.weights, ht]
      refine List.mem_cons_of_mem _ (List.mem_append.2 (.inl (weightsAll_mem (List.mem_map.2 ⟨i, List.mem_range.2 hi, rfl⟩) n hn)))
    have hex : ∀ i, i < len → ∃ a0, wf a0 ∧ ∃ c, c.length = d.sz ∧ d.K w a0 c ∧ ∀ j u, c[j]? = some u → w.cell? (a.add (i * d.sz + j)) = some u := by
      intro i hil
      obtain ⟨cs', hcs, htr⟩ := hi i (by omega)
      obtain ⟨a0, hw, hK⟩ := h enc w n cs' _ htr (hD i hil)
      refine ⟨a0, hw, cs', ?_, hK, fun j u hu => ?_⟩
      · exact d.K_len hK
      · obtain ⟨_, hcl, hat⟩ := World.cells?_some hcs
        have hj : j < P.cellsOf e := by
          have := (List.getElem?_eq_some_iff.1 hu).1
          omega
        rw [← hc, ← Go.Deep.add_add, hat j hj, hu]
    obtain ⟨l, hl2, hp⟩ := list_of len hex
    have hmem : ∀ x ∈ l, wf x := fun x hx => by
      obtain ⟨i, hi⟩ := List.getElem?_of_mem hx
      exact (hp i x hi).1
    refine ⟨l, ⟨by omega, ?_, hmem⟩, some a, m, by rw [hl2], by omega, ?_⟩
    · have hlen := hs ((((List.range len).map D).length + ((List.range (m - len)).map fun j => D (len + j)).length) * P.bytesOf e) (by simp only [DataW.weights, ht]; exact List.mem_cons_self)
      simp only [List.length_map, List.length_range, hB] at hlen
      rw [hl2]
      exact Nat.le_trans (Nat.mul_le_mul_right _ (Nat.le_add_right _ _)) hlen
    · refine ⟨rfl, ?_, fun _ => ⟨a, rfl, fun j p hj => (hp j p hj).2⟩⟩
      rw [hl2]
      exact Nat.le_trans hl hm
/-- The fields of a struct, from a cell on. -/
def OpensFs (P : Program) (off : Nat) (fs : List Field) {α : Type} (d : Kd α) (wf : α → Prop) : Prop :=
  ∀ {H : Type} (enc : TypeId × Value → H) (w : World) (fuel : Nat) (cs : List Value) (xs : List (DataW H × List MemPlace)), xs.length = fs.length →
    (∀ (i : Nat) (f : Field), fs[i]? = some f → DataW.trod enc P w 0 (fun _ => true) true fuel f.type ((cs.drop f.offset).take (P.cellsOf f.type)) = xs[i]?) →
    (∀ n, n ∈ DataW.weightsEach P (fs.map (fun f => f.type)) (xs.map (·.1)) → n ≤ 140737488351232) → cs.length = off + d.sz → ∃ a, wf a ∧ d.K w a (cs.drop off)
set_option maxHeartbeats 2000000 in
theorem OpensFs.one {P : Program} {off : Nat} {f : Field} {α : Type} {d : Kd α} {wf : α → Prop} (ho : f.offset = off) (hc : P.cellsOf f.type = d.sz) (h : Opens P f.type d wf) : OpensFs P off [f] d wf := by
  intro H enc w fuel cs xs hl hx hs hlen
  match xs, hl with
  | [y], _ =>
    have h0 := hx 0 f rfl
    simp only [List.getElem?_cons_zero] at h0
    rw [ho, hc, List.take_of_length_le (by rw [List.length_drop]; omega)] at h0
    exact h enc w fuel _ y h0 (fun n hn => hs n (by simp [DataW.weightsEach, hn]))
set_option maxHeartbeats 2000000 in
theorem OpensFs.cons {P : Program} {off off2 : Nat} {f : Field} {fs : List Field} {α β : Type} {d : Kd α} {d2 : Kd β} {wf : α → Prop} {wf2 : β → Prop} (ho : f.offset = off) (hc : P.cellsOf f.type = d.sz) (h2 : off2 = off + d.sz) (h : Opens P f.type d wf) (hs2 : OpensFs P off2 fs d2 wf2) :
    OpensFs P off (f :: fs) (Kd.pair d d2) (fun x => wf x.1 ∧ wf2 x.2) := by
  intro H enc w fuel cs xs hl hx hs hlen
  match xs, hl with
  | y :: ys, hl =>
    have h0 := hx 0 f rfl
    simp only [List.getElem?_cons_zero] at h0
    rw [ho, hc] at h0
    obtain ⟨a, hw, hK⟩ := h enc w fuel _ y h0 (fun n hn => hs n (by simp [DataW.weightsEach, hn]))
    have hlen' : cs.length = off + (d.sz + d2.sz) := hlen
    obtain ⟨b, hw2, hK2⟩ := hs2 enc w fuel cs ys (by simpa using hl) (fun i g hg => by simpa using hx (i + 1) g (by simpa using hg)) (fun n hn => hs n (by simp only [List.map_cons, DataW.weightsEach]; exact List.mem_append.2 (.inr hn))) (by omega)
    refine ⟨(a, b), ⟨hw, hw2⟩, _, _, ?_, hK, hK2⟩
    rw [h2, ← List.drop_drop, List.take_append_drop]
set_option maxHeartbeats 2000000 in
theorem Opens.struct {P : Program} {t : TypeId} {fs : Array Field} {α : Type} {d : Kd α} {wf : α → Prop} (ht : P.underlying t = some (.struct fs)) (hc : P.cellsOf t = d.sz) (h : OpensFs P 0 fs.toList d wf) : Opens P t d wf := by
  intro H enc w fuel cs x hx hs
  obtain ⟨xs, n, _, rfl, hl, hlen, hf⟩ := DataW.trod_struct ht hx
  have := h enc w n cs xs (by simpa using hlen) (fun i f hi => hf i f (by simpa using hi)) (fun k hk => hs k (by simp only [DataW.weights, ht]; exact hk)) (by omega)
  simpa using this
/-- A parameter, laid open. -/
theorem opened {H : Type} {enc : TypeId × Value → H} {P : Program} {W : World} {t : TypeId} {v : Value} {d : DataW H} {p : List MemPlace} {ts : List TypeId} {ds : List (DataW H)} {α : Type} {kd : Kd α} {wf : α → Prop}
    (hsz : (DataW.weightsEach P ts ds).all (· ≤ reachBytes) = true) (j : Nat) (ht : ts[j]? = some t) (hd : ds[j]? = some d) (ho : Opens P t kd wf) (h : DataW.Trod enc P W 0 (fun _ => true) true t v d p) :
    ∃ a, wf a ∧ kd.K W a v.cells.toList := by
  obtain ⟨fuel, hf⟩ := h
  refine ho enc W fuel _ _ hf (fun n hn => ?_)
  have := List.all_eq_true.1 hsz _ (DataW.weights_mem_each ht hd n hn)
  exact of_decide_eq_true this
end Go.Proofs.Ytbdnmdmfnopihaa.Opn
end
