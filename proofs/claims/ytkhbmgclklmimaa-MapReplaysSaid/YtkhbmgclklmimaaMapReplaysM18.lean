/- Texts of the proof of MapReplays, part 18. -/
import Derived.Test.YtkhbmgclklmimaaMapReplaysMA
import Derived.Test.YtkhbmgclklmimaaMapReplaysM14
import Derived.Test.YtkhbmgclklmimaaMapReplaysM17
import Derived.Test.YtkhbmgclklmimaaMapReplaysM16
section
namespace Go.Proofs.Ytkhbmgclklmimaa.Print
open Go.RowKit Go.Proofs.YtkhbmgclklmimaaW.PrintWords Go.Proofs.YtkhbmgclklmimaaW.PrintLast Go.Proofs.YtkhbmgclklmimaaW.PrintMore
attribute [local go_sem] max2_int min2_int max_two min_two max_three min_three max_four min_four   -- for this text's walks alone
attribute [local go_sem ↓] Go.Proofs.Ytkhbmgclklmimaa.Sem.isSome_setCell
attribute [local go_sem] Go.Instr.field Go.asAgg
set_option linter.unusedVariables false
set_option linter.unusedSimpArgs false
mutual
def slipwayref06_page.j0:Nat → Bool → Int → Int → Int → Int → List Bool → List Int → List (S55) → Option (Bool)
 | 0,_,_,_,_,_,_,_,_=>none
 | k + 1,x13,x620000,x620001,x620002,x620003,x620004,x620005,x620006=>if x13=true then (some false) else (if x620000=2 then ((slipwayref06_Records.f k x620001 x620006).bind fun bt620=>(if bt620.2.2.2.2.2.2.2=0 then (if x620002=0 then (if x620003=0 then (if (x620004.length:Int)=0 then (some ((x620005.length:Int) == 0)) else (some false)) else (some false)) else (some false)) else (some false))) else (if x620000=1 then (if x620002 < 0 then (slipwayref06_page.j1 k true x620000 x620001 x620002 x620003 x620004 x620005 x620006) else (if x620002 > 3 then (slipwayref06_page.j1 k true x620000 x620001 x620002 x620003 x620004 x620005 x620006) else (if x620003 < 0 then (slipwayref06_page.j1 k true x620000 x620001 x620002 x620003 x620004 x620005 x620006) else (if x620003 > 1152921504606846976 then (slipwayref06_page.j1 k true x620000 x620001 x620002 x620003 x620004 x620005 x620006) else (if (x620006.length:Int) > 0 then (slipwayref06_page.j1 k true x620000 x620001 x620002 x620003 x620004 x620005 x620006) else (if (x620004.length:Int) < 1 then (slipwayref06_page.j1 k true x620000 x620001 x620002 x620003 x620004 x620005 x620006) else (if (x620004.length:Int) > 64 then (slipwayref06_page.j1 k true x620000 x620001 x620002 x620003 x620004 x620005 x620006) else (slipwayref06_page.j1 k ((x620005.length:Int) != (x620004.length:Int)) x620000 x620001 x620002 x620003 x620004 x620005 x620006)))))))) else (slipwayref06_page.j1 k true x620000 x620001 x620002 x620003 x620004 x620005 x620006)))
def slipwayref06_page.j1:Nat → Bool → Int → Int → Int → Int → List Bool → List Int → List (S55) → Option (Bool)
 | 0,_,_,_,_,_,_,_,_=>none
 | k + 1,x98,x620000,x620001,x620002,x620003,x620004,x620005,x620006=>if x98=true then (some false) else (slipwayref06_page.l0 k 0 x620000 x620001 x620002 x620003 x620004 x620005 x620006)
def slipwayref06_page.l0:Nat → Int → Int → Int → Int → Int → List Bool → List Int → List (S55) → Option (Bool)
 | 0,_,_,_,_,_,_,_,_=>none
 | k + 1,x5,x620000,x620001,x620002,x620003,x620004,x620005,x620006=>if x5 < (x620005.length:Int) then (if 0≤x5 then (if (rd x620005 x5) < 0 then (some false) else (if (rd x620005 x5) > 16777215 then (some false) else (slipwayref06_page.l0 k (wrap64 (x5 + 1)) x620000 x620001 x620002 x620003 x620004 x620005 x620006))) else (none)) else (some true)
end
def slipwayref06_page.f (k:Nat) (a0_0:Int) (a0_1:Int) (a0_2:Int) (a0_3:Int) (l0_4:List Bool) (l0_5:List Int) (l0_6:List (S55)):Option (Bool):=if a0_1 < 0 then (slipwayref06_page.j0 k true a0_0 a0_1 a0_2 a0_3 l0_4 l0_5 l0_6) else (slipwayref06_page.j0 k (decide (a0_1 > 1152921504606846976)) a0_0 a0_1 a0_2 a0_3 l0_4 l0_5 l0_6)
set_option maxHeartbeats 8000000 in
set_option maxRecDepth 100000 in
theorem slipwayref06_page.calls (k:Nat) (a0_0:Int) (a0_1:Int) (a0_2:Int) (a0_3:Int) (A0_4:Option Addr) (c0_4:Nat) (l0_4:List Bool) (A0_5:Option Addr) (c0_5:Nat) (l0_5:List Int) (A0_6:Option Addr) (c0_6:Nat) (l0_6:List (S55)) (r:Bool) (w:World) (hr0_4:Kd.C Kd.bool w A0_4 l0_4.length l0_4) (hc0_4:l0_4.length≤c0_4) (hr0_5:Kd.C (Kd.int .i64) w A0_5 l0_5.length l0_5) (hc0_5:l0_5.length≤c0_5) (hr0_6:Kd.C k55 w A0_6 l0_6.length l0_6) (hc0_6:l0_6.length≤c0_6) (h:slipwayref06_page.f k a0_0 a0_1 a0_2 a0_3 l0_4 l0_5 l0_6=some r) :
  Calls Try.prog 73 #[.agg #[.int .i64 a0_0,.int .i64 a0_1,.int .i64 a0_2,.int .i64 a0_3,.slice A0_4 l0_4.length c0_4,.slice A0_5 l0_5.length c0_5,.slice A0_6 l0_6.length c0_6]] w fun e w'=>e=.returned (.bool r)∧Below w.heap.size w w':=by
 have hu42:=Try.underlying42
 have HR0_4:=zm hr0_4
 have HC0_4:=zm hc0_4
 clear hr0_4 hc0_4
 have HR0_5:=zm hr0_5
 have HC0_5:=zm hc0_5
 clear hr0_5 hc0_5
 have HR0_6:=zm hr0_6
 have HC0_6:=zm hc0_6
 clear hr0_6 hc0_6
 have HB:=zm (Below.refl w.heap.size w)
 have H:(if a0_1 < 0 then (slipwayref06_page.j0 k true a0_0 a0_1 a0_2 a0_3 l0_4 l0_5 l0_6) else (slipwayref06_page.j0 k (decide (a0_1 > 1152921504606846976)) a0_0 a0_1 a0_2 a0_3 l0_4 l0_5 l0_6))=some r:=h
 clear h
 have HC2:=zm H
 clear H
 go_enter Try.func73,Try.ntmps73
 go_upto_region 1 with (first|((with_reducible refine gate_dst (N:=1) rfl ?_);(try (refine gate_guard (by rfl) ?_;dsimp only));refine box_event ?hg (N:=1) ?hd (cs:=#[.int .i64 a0_0,.int .i64 a0_1,.int .i64 a0_2,.int .i64 a0_3,.slice A0_4 l0_4.length c0_4,.slice A0_5 l0_5.length c0_5,.slice A0_6 l0_6.length c0_6]) (t:=42) ?hr ?_;(case hd=>rfl);(case hg=>rfl);(case hr=>first|(go_simp;done)|(go_simp;rfl));intro gb619 hg w3 hbox hb;have n0_:=zm (below_step (by repeat (first|(with_reducible first|exact HB.out|apply zlA|apply zlN|apply zlD)|exact HB.out)) hb);have n1_:=zm (hbox);have n2_:=zm ((by rw [hg];exact (below_size (by repeat (first|(with_reducible first|exact HB.out|apply zlA|apply zlN|apply zlD)|exact HB.out))):w.heap.size≤gb619));have n3_:=zm ((by rw [hg];exact (below_size (by repeat (first|(with_reducible first|exact HB.out|apply zlA|apply zlN|apply zlD)|exact HB.out))):w.heap.size≤gb619));clear HB;have HB:=n0_;have BK619:=n1_;have GW619:=n2_;have GE619:=n3_;clear n0_ n1_ n2_ n3_;clear hb hbox hg))
 (try simp only [Act.put,List.setIfInBounds_toArray,List.set_cons_zero,List.set_cons_succ])
 go_cut [13] (fun v13 wc=>∃ (kq:Nat) (x13_1:Bool),v13=.bool x13_1∧Aside0 (slipwayref06_page.j0 kq x13_1 a0_0 a0_1 a0_2 a0_3 l0_4 l0_5 l0_6=some r)∧Aside0 (kq≤k)∧Aside0 (wc.heap[gb619]?=some (.cells #[.int .i64 a0_0,.int .i64 a0_1,.int .i64 a0_2,.int .i64 a0_3,(.slice A0_4 l0_4.length c0_4),(.slice A0_5 l0_5.length c0_5),(.slice A0_6 l0_6.length c0_6)] 42 (0,0)))∧Aside0 (Below w.heap.size w wc))
 case first =>
  have H:=HC2.out
  clear HC2
  by_cases c4:a0_1 < 0
  ·rw [if_pos c4] at H
   have c4b0:decide (a0_1 < 0)=true:=decide_eq_true c4
   clear c4
   (first|rw [c4b0]|(simp only [i64_w,i32_w];rw [c4b0])|skip)
   have H':=zm H
   clear H
   have hcz5_0:w3.cell? ⟨gb619,0,none⟩=some (.int .i64 a0_0):=(blk_cell BK619.out 0).trans rfl
   have hcz5_1:w3.cell? ⟨gb619,1,none⟩=some (.int .i64 a0_1):=(blk_cell BK619.out 1).trans rfl
   have hcz5_2:w3.cell? ⟨gb619,2,none⟩=some (.int .i64 a0_2):=(blk_cell BK619.out 2).trans rfl
   have hcz5_3:w3.cell? ⟨gb619,3,none⟩=some (.int .i64 a0_3):=(blk_cell BK619.out 3).trans rfl
   have hcz5_4:w3.cell? ⟨gb619,4,none⟩=some (.slice A0_4 l0_4.length c0_4):=(blk_cell BK619.out 4).trans rfl
   have hcz5_5:w3.cell? ⟨gb619,5,none⟩=some (.slice A0_5 l0_5.length c0_5):=(blk_cell BK619.out 5).trans rfl
   have hcz5_6:w3.cell? ⟨gb619,6,none⟩=some (.slice A0_6 l0_6.length c0_6):=(blk_cell BK619.out 6).trans rfl
   have hfz5_0:=blk_frozen BK619.out 0
   have hfz5_1:=blk_frozen BK619.out 1
   have hfz5_2:=blk_frozen BK619.out 2
   have hfz5_3:=blk_frozen BK619.out 3
   have hfz5_4:=blk_frozen BK619.out 4
   have hfz5_5:=blk_frozen BK619.out 5
   have hfz5_6:=blk_frozen BK619.out 6
   go_wp2
   go_meet
   case rel=>exact ⟨_,(true),(by first|rfl|(simp;done)|(simp [*];done)),H',⟨by first|omega|exact Nat.le_refl _⟩,⟨by (with_reducible repeat (first|refine zbN ?_ _|refine zbD ?_|refine zbA ?_ _));exact BK619.out⟩,⟨by repeat (first|(with_reducible first|exact HB.out|apply zlA|apply zlN|apply zlD|refine zlS ?_ GE619.out)|exact HB.out)⟩⟩
  ·rw [if_neg c4] at H
   have c4b0:decide (a0_1 < 0)=false:=decide_eq_false c4
   clear c4
   (first|rw [c4b0]|(simp only [i64_w,i32_w];rw [c4b0])|skip)
   have H':=zm H
   clear H
   have hcz6_0:w3.cell? ⟨gb619,0,none⟩=some (.int .i64 a0_0):=(blk_cell BK619.out 0).trans rfl
   have hcz6_1:w3.cell? ⟨gb619,1,none⟩=some (.int .i64 a0_1):=(blk_cell BK619.out 1).trans rfl
   have hcz6_2:w3.cell? ⟨gb619,2,none⟩=some (.int .i64 a0_2):=(blk_cell BK619.out 2).trans rfl
   have hcz6_3:w3.cell? ⟨gb619,3,none⟩=some (.int .i64 a0_3):=(blk_cell BK619.out 3).trans rfl
   have hcz6_4:w3.cell? ⟨gb619,4,none⟩=some (.slice A0_4 l0_4.length c0_4):=(blk_cell BK619.out 4).trans rfl
   have hcz6_5:w3.cell? ⟨gb619,5,none⟩=some (.slice A0_5 l0_5.length c0_5):=(blk_cell BK619.out 5).trans rfl
   have hcz6_6:w3.cell? ⟨gb619,6,none⟩=some (.slice A0_6 l0_6.length c0_6):=(blk_cell BK619.out 6).trans rfl
   have hfz6_0:=blk_frozen BK619.out 0
   have hfz6_1:=blk_frozen BK619.out 1
   have hfz6_2:=blk_frozen BK619.out 2
   have hfz6_3:=blk_frozen BK619.out 3
   have hfz6_4:=blk_frozen BK619.out 4
   have hfz6_5:=blk_frozen BK619.out 5
   have hfz6_6:=blk_frozen BK619.out 6
   go_wp2
   go_meet
   case rel=>exact ⟨_,(decide (a0_1 > 1152921504606846976)),(by first|rfl|(simp;done)|(simp [*];done)),H',⟨by first|omega|exact Nat.le_refl _⟩,⟨by (with_reducible repeat (first|refine zbN ?_ _|refine zbD ?_|refine zbA ?_ _));exact BK619.out⟩,⟨by repeat (first|(with_reducible first|exact HB.out|apply zlA|apply zlN|apply zlD|refine zlS ?_ GE619.out)|exact HB.out)⟩⟩
 case rest =>
  clear HC2
  try clear p2
  try clear c4
  try clear c4b0
  try clear hcz5_0
  try clear hcz5_1
  try clear hcz5_2
  try clear hcz5_3
  try clear hcz5_4
  try clear hcz5_5
  try clear hcz5_6
  try clear hcz6_0
  try clear hcz6_1
  try clear hcz6_2
  try clear hcz6_3
  try clear hcz6_4
  try clear hcz6_5
  try clear hcz6_6
  try clear hfz5_0
  try clear hfz5_1
  try clear hfz5_2
  try clear hfz5_3
  try clear hfz5_4
  try clear hfz5_5
  try clear hfz5_6
  try clear hfz6_0
  try clear hfz6_1
  try clear hfz6_2
  try clear hfz6_3
  try clear hfz6_4
  try clear hfz6_5
  try clear hfz6_6
  obtain ⟨kq,x13_1,rfl,HA,HJ1,BK619,HB⟩:=hcut
  cases kq with
  | zero=>exact absurd HA.out (by simp [slipwayref06_page.j0])
  | succ kj1 =>
   have H:=HA.out
   clear HA
   simp only [slipwayref06_page.j0] at H
   by_cases c7:x13_1=true
   ·subst c7
    have H1:(some false)=some r:=by rw [if_pos rfl] at H;exact H
    clear H
    have H:=H1
    clear H1
    obtain rfl:=Option.some.inj H
    go_wp2
    go_ret
    exact ⟨by first|rfl|(simp [errW_none,errW_some] <;> rfl)|(simp [*,errW_none,errW_some] <;> rfl),by repeat (first|(with_reducible first|exact HB.out|apply zlA|apply zlN|apply zlD|refine zlS ?_ GE619.out)|exact HB.out)⟩
   ·replace c7:=Bool.eq_false_iff.mpr c7
    subst c7
    have H1:(if a0_0=2 then ((slipwayref06_Records.f kj1 a0_1 l0_6).bind fun bt620=>(if bt620.2.2.2.2.2.2.2=0 then (if a0_2=0 then (if a0_3=0 then (if (l0_4.length:Int)=0 then (some ((l0_5.length:Int) == 0)) else (some false)) else (some false)) else (some false)) else (some false))) else (if a0_0=1 then (if a0_2 < 0 then (slipwayref06_page.j1 kj1 true a0_0 a0_1 a0_2 a0_3 l0_4 l0_5 l0_6) else (if a0_2 > 3 then (slipwayref06_page.j1 kj1 true a0_0 a0_1 a0_2 a0_3 l0_4 l0_5 l0_6) else (if a0_3 < 0 then (slipwayref06_page.j1 kj1 true a0_0 a0_1 a0_2 a0_3 l0_4 l0_5 l0_6) else (if a0_3 > 1152921504606846976 then (slipwayref06_page.j1 kj1 true a0_0 a0_1 a0_2 a0_3 l0_4 l0_5 l0_6) else (if (l0_6.length:Int) > 0 then (slipwayref06_page.j1 kj1 true a0_0 a0_1 a0_2 a0_3 l0_4 l0_5 l0_6) else (if (l0_4.length:Int) < 1 then (slipwayref06_page.j1 kj1 true a0_0 a0_1 a0_2 a0_3 l0_4 l0_5 l0_6) else (if (l0_4.length:Int) > 64 then (slipwayref06_page.j1 kj1 true a0_0 a0_1 a0_2 a0_3 l0_4 l0_5 l0_6) else (slipwayref06_page.j1 kj1 ((l0_5.length:Int) != (l0_4.length:Int)) a0_0 a0_1 a0_2 a0_3 l0_4 l0_5 l0_6)))))))) else (slipwayref06_page.j1 kj1 true a0_0 a0_1 a0_2 a0_3 l0_4 l0_5 l0_6)))=some r:=by rw [if_neg (show ¬ (false=true) by decide)] at H;exact H
    clear H
    have H:=H1
    clear H1
    by_cases c8:a0_0=2
    ·rw [if_pos c8] at H
     have c8b0:(a0_0 == 2)=true:=beq_iff_eq.mpr c8
     have c8b1:(a0_0 != 2)=false:=bne_eq_false_iff_eq.mpr c8
     clear c8
     replace H:=Option.bind_eq_some_iff.mp H
     obtain ⟨⟨t620,t621,t622,t623,t624,t627,t630,t633⟩,A90,H⟩:=H
     replace H:(if t633=0 then (if a0_2=0 then (if a0_3=0 then (if (l0_4.length:Int)=0 then (some ((l0_5.length:Int) == 0)) else (some false)) else (some false)) else (some false)) else (some false))=some r:=H
     have A9:=zm A90
     clear A90
     by_cases c10:t633=0
     ·rw [if_pos c10] at H
      have c10b0:(t633 == 0)=true:=beq_iff_eq.mpr c10
      have c10b1:(t633 != 0)=false:=bne_eq_false_iff_eq.mpr c10
      clear c10
      by_cases c11:a0_2=0
      ·rw [if_pos c11] at H
       have c11b0:(a0_2 == 0)=true:=beq_iff_eq.mpr c11
       have c11b1:(a0_2 != 0)=false:=bne_eq_false_iff_eq.mpr c11
       clear c11
       by_cases c12:a0_3=0
       ·rw [if_pos c12] at H
        have c12b0:(a0_3 == 0)=true:=beq_iff_eq.mpr c12
        have c12b1:(a0_3 != 0)=false:=bne_eq_false_iff_eq.mpr c12
        clear c12
        by_cases c13:(l0_4.length:Int)=0
        ·rw [if_pos c13] at H
         have c13b0:((l0_4.length:Int) == 0)=true:=beq_iff_eq.mpr c13
         have c13b1:((l0_4.length:Int) != 0)=false:=bne_eq_false_iff_eq.mpr c13
         clear c13
         obtain rfl:=Option.some.inj H
         have hcz14_0:wc.cell? ⟨gb619,0,none⟩=some (.int .i64 a0_0):=(blk_cell BK619.out 0).trans rfl
         have hcz14_1:wc.cell? ⟨gb619,1,none⟩=some (.int .i64 a0_1):=(blk_cell BK619.out 1).trans rfl
         have hcz14_2:wc.cell? ⟨gb619,2,none⟩=some (.int .i64 a0_2):=(blk_cell BK619.out 2).trans rfl
         have hcz14_3:wc.cell? ⟨gb619,3,none⟩=some (.int .i64 a0_3):=(blk_cell BK619.out 3).trans rfl
         have hcz14_4:wc.cell? ⟨gb619,4,none⟩=some (.slice A0_4 l0_4.length c0_4):=(blk_cell BK619.out 4).trans rfl
         have hcz14_5:wc.cell? ⟨gb619,5,none⟩=some (.slice A0_5 l0_5.length c0_5):=(blk_cell BK619.out 5).trans rfl
         have hcz14_6:wc.cell? ⟨gb619,6,none⟩=some (.slice A0_6 l0_6.length c0_6):=(blk_cell BK619.out 6).trans rfl
         have hfz14_0:=blk_frozen BK619.out 0
         have hfz14_1:=blk_frozen BK619.out 1
         have hfz14_2:=blk_frozen BK619.out 2
         have hfz14_3:=blk_frozen BK619.out 3
         have hfz14_4:=blk_frozen BK619.out 4
         have hfz14_5:=blk_frozen BK619.out 5
         have hfz14_6:=blk_frozen BK619.out 6
         go_wp2_with (first|((with_reducible refine gate_callee (f:=30) rfl ?_);refine goesL_ (some 22) rfl rfl Try.func30 (by kernel_rfl) rfl #[.int .i64 a0_1,.slice A0_6 l0_6.length c0_6] rfl (by (try simp only [List.map_toArray,List.map_cons,List.map_nil]);first|done|rfl|(simp only [List.length_drop,List.length_take];rfl)) ?_;(with_reducible refine (slipwayref06_Records.calls kj1 a0_1 _ _ l0_6 t620 t621 t622 t623 t624 t627 t630 t633 _ ?side1 ?side2 A9.out).mono ?_);(case side1=>repeat (first|exact (Kd.C_below HR0_6.out HB.out)|(with_reducible refine Kd.C_alloc ?_ _)|(with_reducible refine Kd.C_drewN ?_ _)|(with_reducible refine Kd.C_drew ?_)));(case side2=>exact HC0_6.out);rintro e w15 ⟨v625,v628,v631,rfl,ho0,ho1,ho2,hb⟩;refine ⟨_,rfl,?_⟩;have n0_:=zm (Kd.R_lower ho0 (below_size (by repeat (first|(with_reducible first|exact HB.out|apply zlA|apply zlN|apply zlD|refine zlS ?_ GE619.out)|exact HB.out))));have n1_:=zm (Kd.R_lower ho1 (below_size (by repeat (first|(with_reducible first|exact HB.out|apply zlA|apply zlN|apply zlD|refine zlS ?_ GE619.out)|exact HB.out))));have n2_:=zm (Kd.R_lower ho2 (below_size (by repeat (first|(with_reducible first|exact HB.out|apply zlA|apply zlN|apply zlD|refine zlS ?_ GE619.out)|exact HB.out))));have n3_:=zm (zbB (g:=gb619) (o:=.cells #[.int .i64 a0_0,.int .i64 a0_1,.int .i64 a0_2,.int .i64 a0_3,.slice A0_4 l0_4.length c0_4,.slice A0_5 l0_5.length c0_5,.slice A0_6 l0_6.length c0_6] 42 (0,0)) (by (with_reducible repeat (first|refine zbN ?_ _|refine zbD ?_|refine zbA ?_ _));exact BK619.out) hb);have n4_:=zm (below_step (by repeat (first|(with_reducible first|exact HB.out|apply zlA|apply zlN|apply zlD|refine zlS ?_ GE619.out)|exact HB.out)) hb);clear BK619 HB;have HO626:=n0_;have HO629:=n1_;have HO632:=n2_;have BK619:=n3_;have HB:=n4_;clear n0_ n1_ n2_ n3_ n4_;(try clear hb);(try clear hb2);(try clear hk);(try clear hi);(try clear ho0);(try clear ho1);(try clear ho2))|((with_reducible refine gate_dst (N:=3) rfl ?_);(try (refine gate_guard (by rfl) ?_;dsimp only));refine box_event ?hg (N:=3) ?hd (cs:=#[.int .i64 0,.int .i64 0,.int .i64 0,.int .i64 0,.slice none 0 0,.slice none 0 0,.slice none 0 0]) (t:=42) ?hr ?_;(case hd=>rfl);(case hg=>rfl);(case hr=>first|(go_simp;done)|(go_simp;rfl));intro gb634 hg w16 hbox hb;have n0_:=zm (Kd.R_below (by (with_reducible repeat (first|apply zrA|apply zrN|apply zrD));exact HO626.out) hb);have n1_:=zm (Kd.R_below (by (with_reducible repeat (first|apply zrA|apply zrN|apply zrD));exact HO629.out) hb);have n2_:=zm (Kd.R_below (by (with_reducible repeat (first|apply zrA|apply zrN|apply zrD));exact HO632.out) hb);have n3_:=zm (zbB (g:=gb619) (o:=.cells #[.int .i64 a0_0,.int .i64 a0_1,.int .i64 a0_2,.int .i64 a0_3,.slice A0_4 l0_4.length c0_4,.slice A0_5 l0_5.length c0_5,.slice A0_6 l0_6.length c0_6] 42 (0,0)) (by (with_reducible repeat (first|refine zbN ?_ _|refine zbD ?_|refine zbA ?_ _));exact BK619.out) hb);have n4_:=zm (below_step (by repeat (first|(with_reducible first|exact HB.out|apply zlA|apply zlN|apply zlD|refine zlS ?_ GE619.out)|exact HB.out)) hb);have n5_:=zm (hbox);have n6_:=zm ((by rw [hg];exact (below_size (by repeat (first|(with_reducible first|exact HB.out|apply zlA|apply zlN|apply zlD|refine zlS ?_ GE619.out)|exact HB.out))):w.heap.size≤gb634));have n7_:=zm ((by rw [hg];exact (below_size (by repeat (first|(with_reducible first|exact HB.out|apply zlA|apply zlN|apply zlD|refine zlS ?_ GE619.out)|exact HB.out))):w.heap.size≤gb634));have n8_:=zm ((by rw [hg];exact Nat.ne_of_lt (blk_lt (g:=gb619) (o:=.cells #[.int .i64 a0_0,.int .i64 a0_1,.int .i64 a0_2,.int .i64 a0_3,.slice A0_4 l0_4.length c0_4,.slice A0_5 l0_5.length c0_5,.slice A0_6 l0_6.length c0_6] 42 (0,0)) (by (with_reducible repeat (first|refine zbN ?_ _|refine zbD ?_|refine zbA ?_ _));exact BK619.out)):gb619≠gb634));have n9_:=zm ((by rw [hg];exact Nat.ne_of_gt (blk_lt (g:=gb619) (o:=.cells #[.int .i64 a0_0,.int .i64 a0_1,.int .i64 a0_2,.int .i64 a0_3,.slice A0_4 l0_4.length c0_4,.slice A0_5 l0_5.length c0_5,.slice A0_6 l0_6.length c0_6] 42 (0,0)) (by (with_reducible repeat (first|refine zbN ?_ _|refine zbD ?_|refine zbA ?_ _));exact BK619.out)):gb634≠gb619));clear HO626 HO629 HO632 BK619 HB;have HO626:=n0_;have HO629:=n1_;have HO632:=n2_;have BK619:=n3_;have HB:=n4_;have BK634:=n5_;have GW634:=n6_;have GE634:=n7_;have NB619_634:=n8_;have NB634_619:=n9_;clear n0_ n1_ n2_ n3_ n4_ n5_ n6_ n7_ n8_ n9_;clear hb hbox hg;have hnb17:=NB634_619.out;have hnc17:=NB619_634.out;have hcz18_0:w16.cell? ⟨gb634,0,none⟩=some (.int .i64 0):=(blk_cell BK634.out 0).trans rfl;have hcz18_1:w16.cell? ⟨gb634,1,none⟩=some (.int .i64 0):=(blk_cell BK634.out 1).trans rfl;have hcz18_2:w16.cell? ⟨gb634,2,none⟩=some (.int .i64 0):=(blk_cell BK634.out 2).trans rfl;have hcz18_3:w16.cell? ⟨gb634,3,none⟩=some (.int .i64 0):=(blk_cell BK634.out 3).trans rfl;have hcz18_4:w16.cell? ⟨gb634,4,none⟩=some (.slice none 0 0):=(blk_cell BK634.out 4).trans rfl;have hcz18_5:w16.cell? ⟨gb634,5,none⟩=some (.slice none 0 0):=(blk_cell BK634.out 5).trans rfl;have hcz18_6:w16.cell? ⟨gb634,6,none⟩=some (.slice none 0 0):=(blk_cell BK634.out 6).trans rfl;have hfz18_0:=blk_frozen BK634.out 0;have hfz18_1:=blk_frozen BK634.out 1;have hfz18_2:=blk_frozen BK634.out 2;have hfz18_3:=blk_frozen BK634.out 3;have hfz18_4:=blk_frozen BK634.out 4;have hfz18_5:=blk_frozen BK634.out 5;have hfz18_6:=blk_frozen BK634.out 6;obtain ⟨Ao19,co19,eo19⟩:=Kd.R_slice HO626.out;subst eo19;obtain ⟨Ao20,co20,eo20⟩:=Kd.R_slice HO629.out;subst eo20;obtain ⟨Ao21,co21,eo21⟩:=Kd.R_slice HO632.out;subst eo21;have hcz22_0:w16.cell? ⟨gb619,0,none⟩=some (.int .i64 a0_0):=(blk_cell BK619.out 0).trans rfl;have hcz22_1:w16.cell? ⟨gb619,1,none⟩=some (.int .i64 a0_1):=(blk_cell BK619.out 1).trans rfl;have hcz22_2:w16.cell? ⟨gb619,2,none⟩=some (.int .i64 a0_2):=(blk_cell BK619.out 2).trans rfl;have hcz22_3:w16.cell? ⟨gb619,3,none⟩=some (.int .i64 a0_3):=(blk_cell BK619.out 3).trans rfl;have hcz22_4:w16.cell? ⟨gb619,4,none⟩=some (.slice A0_4 l0_4.length c0_4):=(blk_cell BK619.out 4).trans rfl;have hcz22_5:w16.cell? ⟨gb619,5,none⟩=some (.slice A0_5 l0_5.length c0_5):=(blk_cell BK619.out 5).trans rfl;have hcz22_6:w16.cell? ⟨gb619,6,none⟩=some (.slice A0_6 l0_6.length c0_6):=(blk_cell BK619.out 6).trans rfl;have hfz22_0:=blk_frozen BK619.out 0;have hfz22_1:=blk_frozen BK619.out 1;have hfz22_2:=blk_frozen BK619.out 2;have hfz22_3:=blk_frozen BK619.out 3;have hfz22_4:=blk_frozen BK619.out 4;have hfz22_5:=blk_frozen BK619.out 5;have hfz22_6:=blk_frozen BK619.out 6))
         go_ret
         exact ⟨by first|rfl|(simp [errW_none,errW_some] <;> rfl)|(simp [*,errW_none,errW_some] <;> rfl),by repeat (first|(with_reducible first|exact HB.out|apply zlA|apply zlN|apply zlD|refine zlS ?_ GE619.out|refine zlS ?_ GE634.out)|exact HB.out)⟩
        ·rw [if_neg c13] at H
         have c13b0:((l0_4.length:Int) == 0)=false:=beq_eq_false_iff_ne.mpr c13
         have c13b1:((l0_4.length:Int) != 0)=true:=bne_iff_ne.mpr c13
         have c13b2:¬ (l0_4=[]):=fun h_=>c13 (by rw [h_];rfl)
         obtain rfl:=Option.some.inj H
         have hcz23_0:wc.cell? ⟨gb619,0,none⟩=some (.int .i64 a0_0):=(blk_cell BK619.out 0).trans rfl
         have hcz23_1:wc.cell? ⟨gb619,1,none⟩=some (.int .i64 a0_1):=(blk_cell BK619.out 1).trans rfl
         have hcz23_2:wc.cell? ⟨gb619,2,none⟩=some (.int .i64 a0_2):=(blk_cell BK619.out 2).trans rfl
         have hcz23_3:wc.cell? ⟨gb619,3,none⟩=some (.int .i64 a0_3):=(blk_cell BK619.out 3).trans rfl
         have hcz23_4:wc.cell? ⟨gb619,4,none⟩=some (.slice A0_4 l0_4.length c0_4):=(blk_cell BK619.out 4).trans rfl
         have hcz23_5:wc.cell? ⟨gb619,5,none⟩=some (.slice A0_5 l0_5.length c0_5):=(blk_cell BK619.out 5).trans rfl
         have hcz23_6:wc.cell? ⟨gb619,6,none⟩=some (.slice A0_6 l0_6.length c0_6):=(blk_cell BK619.out 6).trans rfl
         have hfz23_0:=blk_frozen BK619.out 0
         have hfz23_1:=blk_frozen BK619.out 1
         have hfz23_2:=blk_frozen BK619.out 2
         have hfz23_3:=blk_frozen BK619.out 3
         have hfz23_4:=blk_frozen BK619.out 4
         have hfz23_5:=blk_frozen BK619.out 5
         have hfz23_6:=blk_frozen BK619.out 6
         go_wp2_with (first|((with_reducible refine gate_callee (f:=30) rfl ?_);refine goesL_ (some 22) rfl rfl Try.func30 (by kernel_rfl) rfl #[.int .i64 a0_1,.slice A0_6 l0_6.length c0_6] rfl (by (try simp only [List.map_toArray,List.map_cons,List.map_nil]);first|done|rfl|(simp only [List.length_drop,List.length_take];rfl)) ?_;(with_reducible refine (slipwayref06_Records.calls kj1 a0_1 _ _ l0_6 t620 t621 t622 t623 t624 t627 t630 t633 _ ?side1 ?side2 A9.out).mono ?_);(case side1=>repeat (first|exact (Kd.C_below HR0_6.out HB.out)|(with_reducible refine Kd.C_alloc ?_ _)|(with_reducible refine Kd.C_drewN ?_ _)|(with_reducible refine Kd.C_drew ?_)));(case side2=>exact HC0_6.out);rintro e w24 ⟨v625,v628,v631,rfl,ho0,ho1,ho2,hb⟩;refine ⟨_,rfl,?_⟩;have n0_:=zm (Kd.R_lower ho0 (below_size (by repeat (first|(with_reducible first|exact HB.out|apply zlA|apply zlN|apply zlD|refine zlS ?_ GE619.out)|exact HB.out))));have n1_:=zm (Kd.R_lower ho1 (below_size (by repeat (first|(with_reducible first|exact HB.out|apply zlA|apply zlN|apply zlD|refine zlS ?_ GE619.out)|exact HB.out))));have n2_:=zm (Kd.R_lower ho2 (below_size (by repeat (first|(with_reducible first|exact HB.out|apply zlA|apply zlN|apply zlD|refine zlS ?_ GE619.out)|exact HB.out))));have n3_:=zm (zbB (g:=gb619) (o:=.cells #[.int .i64 a0_0,.int .i64 a0_1,.int .i64 a0_2,.int .i64 a0_3,.slice A0_4 l0_4.length c0_4,.slice A0_5 l0_5.length c0_5,.slice A0_6 l0_6.length c0_6] 42 (0,0)) (by (with_reducible repeat (first|refine zbN ?_ _|refine zbD ?_|refine zbA ?_ _));exact BK619.out) hb);have n4_:=zm (below_step (by repeat (first|(with_reducible first|exact HB.out|apply zlA|apply zlN|apply zlD|refine zlS ?_ GE619.out)|exact HB.out)) hb);clear BK619 HB;have HO626:=n0_;have HO629:=n1_;have HO632:=n2_;have BK619:=n3_;have HB:=n4_;clear n0_ n1_ n2_ n3_ n4_;(try clear hb);(try clear hb2);(try clear hk);(try clear hi);(try clear ho0);(try clear ho1);(try clear ho2))|((with_reducible refine gate_dst (N:=3) rfl ?_);(try (refine gate_guard (by rfl) ?_;dsimp only));refine box_event ?hg (N:=3) ?hd (cs:=#[.int .i64 0,.int .i64 0,.int .i64 0,.int .i64 0,.slice none 0 0,.slice none 0 0,.slice none 0 0]) (t:=42) ?hr ?_;(case hd=>rfl);(case hg=>rfl);(case hr=>first|(go_simp;done)|(go_simp;rfl));intro gb634 hg w25 hbox hb;have n0_:=zm (Kd.R_below (by (with_reducible repeat (first|apply zrA|apply zrN|apply zrD));exact HO626.out) hb);have n1_:=zm (Kd.R_below (by (with_reducible repeat (first|apply zrA|apply zrN|apply zrD));exact HO629.out) hb);have n2_:=zm (Kd.R_below (by (with_reducible repeat (first|apply zrA|apply zrN|apply zrD));exact HO632.out) hb);have n3_:=zm (zbB (g:=gb619) (o:=.cells #[.int .i64 a0_0,.int .i64 a0_1,.int .i64 a0_2,.int .i64 a0_3,.slice A0_4 l0_4.length c0_4,.slice A0_5 l0_5.length c0_5,.slice A0_6 l0_6.length c0_6] 42 (0,0)) (by (with_reducible repeat (first|refine zbN ?_ _|refine zbD ?_|refine zbA ?_ _));exact BK619.out) hb);have n4_:=zm (below_step (by repeat (first|(with_reducible first|exact HB.out|apply zlA|apply zlN|apply zlD|refine zlS ?_ GE619.out)|exact HB.out)) hb);have n5_:=zm (hbox);have n6_:=zm ((by rw [hg];exact (below_size (by repeat (first|(with_reducible first|exact HB.out|apply zlA|apply zlN|apply zlD|refine zlS ?_ GE619.out)|exact HB.out))):w.heap.size≤gb634));have n7_:=zm ((by rw [hg];exact (below_size (by repeat (first|(with_reducible first|exact HB.out|apply zlA|apply zlN|apply zlD|refine zlS ?_ GE619.out)|exact HB.out))):w.heap.size≤gb634));have n8_:=zm ((by rw [hg];exact Nat.ne_of_lt (blk_lt (g:=gb619) (o:=.cells #[.int .i64 a0_0,.int .i64 a0_1,.int .i64 a0_2,.int .i64 a0_3,.slice A0_4 l0_4.length c0_4,.slice A0_5 l0_5.length c0_5,.slice A0_6 l0_6.length c0_6] 42 (0,0)) (by (with_reducible repeat (first|refine zbN ?_ _|refine zbD ?_|refine zbA ?_ _));exact BK619.out)):gb619≠gb634));have n9_:=zm ((by rw [hg];exact Nat.ne_of_gt (blk_lt (g:=gb619) (o:=.cells #[.int .i64 a0_0,.int .i64 a0_1,.int .i64 a0_2,.int .i64 a0_3,.slice A0_4 l0_4.length c0_4,.slice A0_5 l0_5.length c0_5,.slice A0_6 l0_6.length c0_6] 42 (0,0)) (by (with_reducible repeat (first|refine zbN ?_ _|refine zbD ?_|refine zbA ?_ _));exact BK619.out)):gb634≠gb619));clear HO626 HO629 HO632 BK619 HB;have HO626:=n0_;have HO629:=n1_;have HO632:=n2_;have BK619:=n3_;have HB:=n4_;have BK634:=n5_;have GW634:=n6_;have GE634:=n7_;have NB619_634:=n8_;have NB634_619:=n9_;clear n0_ n1_ n2_ n3_ n4_ n5_ n6_ n7_ n8_ n9_;clear hb hbox hg;have hnb26:=NB634_619.out;have hnc26:=NB619_634.out;have hcz27_0:w25.cell? ⟨gb634,0,none⟩=some (.int .i64 0):=(blk_cell BK634.out 0).trans rfl;have hcz27_1:w25.cell? ⟨gb634,1,none⟩=some (.int .i64 0):=(blk_cell BK634.out 1).trans rfl;have hcz27_2:w25.cell? ⟨gb634,2,none⟩=some (.int .i64 0):=(blk_cell BK634.out 2).trans rfl;have hcz27_3:w25.cell? ⟨gb634,3,none⟩=some (.int .i64 0):=(blk_cell BK634.out 3).trans rfl;have hcz27_4:w25.cell? ⟨gb634,4,none⟩=some (.slice none 0 0):=(blk_cell BK634.out 4).trans rfl;have hcz27_5:w25.cell? ⟨gb634,5,none⟩=some (.slice none 0 0):=(blk_cell BK634.out 5).trans rfl;have hcz27_6:w25.cell? ⟨gb634,6,none⟩=some (.slice none 0 0):=(blk_cell BK634.out 6).trans rfl;have hfz27_0:=blk_frozen BK634.out 0;have hfz27_1:=blk_frozen BK634.out 1;have hfz27_2:=blk_frozen BK634.out 2;have hfz27_3:=blk_frozen BK634.out 3;have hfz27_4:=blk_frozen BK634.out 4;have hfz27_5:=blk_frozen BK634.out 5;have hfz27_6:=blk_frozen BK634.out 6;obtain ⟨Ao28,co28,eo28⟩:=Kd.R_slice HO626.out;subst eo28;obtain ⟨Ao29,co29,eo29⟩:=Kd.R_slice HO629.out;subst eo29;obtain ⟨Ao30,co30,eo30⟩:=Kd.R_slice HO632.out;subst eo30;have hcz31_0:w25.cell? ⟨gb619,0,none⟩=some (.int .i64 a0_0):=(blk_cell BK619.out 0).trans rfl;have hcz31_1:w25.cell? ⟨gb619,1,none⟩=some (.int .i64 a0_1):=(blk_cell BK619.out 1).trans rfl;have hcz31_2:w25.cell? ⟨gb619,2,none⟩=some (.int .i64 a0_2):=(blk_cell BK619.out 2).trans rfl;have hcz31_3:w25.cell? ⟨gb619,3,none⟩=some (.int .i64 a0_3):=(blk_cell BK619.out 3).trans rfl;have hcz31_4:w25.cell? ⟨gb619,4,none⟩=some (.slice A0_4 l0_4.length c0_4):=(blk_cell BK619.out 4).trans rfl;have hcz31_5:w25.cell? ⟨gb619,5,none⟩=some (.slice A0_5 l0_5.length c0_5):=(blk_cell BK619.out 5).trans rfl;have hcz31_6:w25.cell? ⟨gb619,6,none⟩=some (.slice A0_6 l0_6.length c0_6):=(blk_cell BK619.out 6).trans rfl;have hfz31_0:=blk_frozen BK619.out 0;have hfz31_1:=blk_frozen BK619.out 1;have hfz31_2:=blk_frozen BK619.out 2;have hfz31_3:=blk_frozen BK619.out 3;have hfz31_4:=blk_frozen BK619.out 4;have hfz31_5:=blk_frozen BK619.out 5;have hfz31_6:=blk_frozen BK619.out 6))
         go_ret
         exact ⟨by first|rfl|(simp [errW_none,errW_some] <;> rfl)|(simp [*,errW_none,errW_some] <;> rfl),by repeat (first|(with_reducible first|exact HB.out|apply zlA|apply zlN|apply zlD|refine zlS ?_ GE619.out|refine zlS ?_ GE634.out)|exact HB.out)⟩
       ·rw [if_neg c12] at H
        have c12b0:(a0_3 == 0)=false:=beq_eq_false_iff_ne.mpr c12
        have c12b1:(a0_3 != 0)=true:=bne_iff_ne.mpr c12
        obtain rfl:=Option.some.inj H
        have hcz32_0:wc.cell? ⟨gb619,0,none⟩=some (.int .i64 a0_0):=(blk_cell BK619.out 0).trans rfl
        have hcz32_1:wc.cell? ⟨gb619,1,none⟩=some (.int .i64 a0_1):=(blk_cell BK619.out 1).trans rfl
        have hcz32_2:wc.cell? ⟨gb619,2,none⟩=some (.int .i64 a0_2):=(blk_cell BK619.out 2).trans rfl
        have hcz32_3:wc.cell? ⟨gb619,3,none⟩=some (.int .i64 a0_3):=(blk_cell BK619.out 3).trans rfl
        have hcz32_4:wc.cell? ⟨gb619,4,none⟩=some (.slice A0_4 l0_4.length c0_4):=(blk_cell BK619.out 4).trans rfl
        have hcz32_5:wc.cell? ⟨gb619,5,none⟩=some (.slice A0_5 l0_5.length c0_5):=(blk_cell BK619.out 5).trans rfl
        have hcz32_6:wc.cell? ⟨gb619,6,none⟩=some (.slice A0_6 l0_6.length c0_6):=(blk_cell BK619.out 6).trans rfl
        have hfz32_0:=blk_frozen BK619.out 0
        have hfz32_1:=blk_frozen BK619.out 1
        have hfz32_2:=blk_frozen BK619.out 2
        have hfz32_3:=blk_frozen BK619.out 3
        have hfz32_4:=blk_frozen BK619.out 4
        have hfz32_5:=blk_frozen BK619.out 5
        have hfz32_6:=blk_frozen BK619.out 6
        go_wp2_with (first|((with_reducible refine gate_callee (f:=30) rfl ?_);refine goesL_ (some 22) rfl rfl Try.func30 (by kernel_rfl) rfl #[.int .i64 a0_1,.slice A0_6 l0_6.length c0_6] rfl (by (try simp only [List.map_toArray,List.map_cons,List.map_nil]);first|done|rfl|(simp only [List.length_drop,List.length_take];rfl)) ?_;(with_reducible refine (slipwayref06_Records.calls kj1 a0_1 _ _ l0_6 t620 t621 t622 t623 t624 t627 t630 t633 _ ?side1 ?side2 A9.out).mono ?_);(case side1=>repeat (first|exact (Kd.C_below HR0_6.out HB.out)|(with_reducible refine Kd.C_alloc ?_ _)|(with_reducible refine Kd.C_drewN ?_ _)|(with_reducible refine Kd.C_drew ?_)));(case side2=>exact HC0_6.out);rintro e w33 ⟨v625,v628,v631,rfl,ho0,ho1,ho2,hb⟩;refine ⟨_,rfl,?_⟩;have n0_:=zm (Kd.R_lower ho0 (below_size (by repeat (first|(with_reducible first|exact HB.out|apply zlA|apply zlN|apply zlD|refine zlS ?_ GE619.out)|exact HB.out))));have n1_:=zm (Kd.R_lower ho1 (below_size (by repeat (first|(with_reducible first|exact HB.out|apply zlA|apply zlN|apply zlD|refine zlS ?_ GE619.out)|exact HB.out))));have n2_:=zm (Kd.R_lower ho2 (below_size (by repeat (first|(with_reducible first|exact HB.out|apply zlA|apply zlN|apply zlD|refine zlS ?_ GE619.out)|exact HB.out))));have n3_:=zm (zbB (g:=gb619) (o:=.cells #[.int .i64 a0_0,.int .i64 a0_1,.int .i64 a0_2,.int .i64 a0_3,.slice A0_4 l0_4.length c0_4,.slice A0_5 l0_5.length c0_5,.slice A0_6 l0_6.length c0_6] 42 (0,0)) (by (with_reducible repeat (first|refine zbN ?_ _|refine zbD ?_|refine zbA ?_ _));exact BK619.out) hb);have n4_:=zm (below_step (by repeat (first|(with_reducible first|exact HB.out|apply zlA|apply zlN|apply zlD|refine zlS ?_ GE619.out)|exact HB.out)) hb);clear BK619 HB;have HO626:=n0_;have HO629:=n1_;have HO632:=n2_;have BK619:=n3_;have HB:=n4_;clear n0_ n1_ n2_ n3_ n4_;(try clear hb);(try clear hb2);(try clear hk);(try clear hi);(try clear ho0);(try clear ho1);(try clear ho2))|((with_reducible refine gate_dst (N:=3) rfl ?_);(try (refine gate_guard (by rfl) ?_;dsimp only));refine box_event ?hg (N:=3) ?hd (cs:=#[.int .i64 0,.int .i64 0,.int .i64 0,.int .i64 0,.slice none 0 0,.slice none 0 0,.slice none 0 0]) (t:=42) ?hr ?_;(case hd=>rfl);(case hg=>rfl);(case hr=>first|(go_simp;done)|(go_simp;rfl));intro gb634 hg w34 hbox hb;have n0_:=zm (Kd.R_below (by (with_reducible repeat (first|apply zrA|apply zrN|apply zrD));exact HO626.out) hb);have n1_:=zm (Kd.R_below (by (with_reducible repeat (first|apply zrA|apply zrN|apply zrD));exact HO629.out) hb);have n2_:=zm (Kd.R_below (by (with_reducible repeat (first|apply zrA|apply zrN|apply zrD));exact HO632.out) hb);have n3_:=zm (zbB (g:=gb619) (o:=.cells #[.int .i64 a0_0,.int .i64 a0_1,.int .i64 a0_2,.int .i64 a0_3,.slice A0_4 l0_4.length c0_4,.slice A0_5 l0_5.length c0_5,.slice A0_6 l0_6.length c0_6] 42 (0,0)) (by (with_reducible repeat (first|refine zbN ?_ _|refine zbD ?_|refine zbA ?_ _));exact BK619.out) hb);have n4_:=zm (below_step (by repeat (first|(with_reducible first|exact HB.out|apply zlA|apply zlN|apply zlD|refine zlS ?_ GE619.out)|exact HB.out)) hb);have n5_:=zm (hbox);have n6_:=zm ((by rw [hg];exact (below_size (by repeat (first|(with_reducible first|exact HB.out|apply zlA|apply zlN|apply zlD|refine zlS ?_ GE619.out)|exact HB.out))):w.heap.size≤gb634));have n7_:=zm ((by rw [hg];exact (below_size (by repeat (first|(with_reducible first|exact HB.out|apply zlA|apply zlN|apply zlD|refine zlS ?_ GE619.out)|exact HB.out))):w.heap.size≤gb634));have n8_:=zm ((by rw [hg];exact Nat.ne_of_lt (blk_lt (g:=gb619) (o:=.cells #[.int .i64 a0_0,.int .i64 a0_1,.int .i64 a0_2,.int .i64 a0_3,.slice A0_4 l0_4.length c0_4,.slice A0_5 l0_5.length c0_5,.slice A0_6 l0_6.length c0_6] 42 (0,0)) (by (with_reducible repeat (first|refine zbN ?_ _|refine zbD ?_|refine zbA ?_ _));exact BK619.out)):gb619≠gb634));have n9_:=zm ((by rw [hg];exact Nat.ne_of_gt (blk_lt (g:=gb619) (o:=.cells #[.int .i64 a0_0,.int .i64 a0_1,.int .i64 a0_2,.int .i64 a0_3,.slice A0_4 l0_4.length c0_4,.slice A0_5 l0_5.length c0_5,.slice A0_6 l0_6.length c0_6] 42 (0,0)) (by (with_reducible repeat (first|refine zbN ?_ _|refine zbD ?_|refine zbA ?_ _));exact BK619.out)):gb634≠gb619));clear HO626 HO629 HO632 BK619 HB;have HO626:=n0_;have HO629:=n1_;have HO632:=n2_;have BK619:=n3_;have HB:=n4_;have BK634:=n5_;have GW634:=n6_;have GE634:=n7_;have NB619_634:=n8_;have NB634_619:=n9_;clear n0_ n1_ n2_ n3_ n4_ n5_ n6_ n7_ n8_ n9_;clear hb hbox hg;have hnb35:=NB634_619.out;have hnc35:=NB619_634.out;have hcz36_0:w34.cell? ⟨gb634,0,none⟩=some (.int .i64 0):=(blk_cell BK634.out 0).trans rfl;have hcz36_1:w34.cell? ⟨gb634,1,none⟩=some (.int .i64 0):=(blk_cell BK634.out 1).trans rfl;have hcz36_2:w34.cell? ⟨gb634,2,none⟩=some (.int .i64 0):=(blk_cell BK634.out 2).trans rfl;have hcz36_3:w34.cell? ⟨gb634,3,none⟩=some (.int .i64 0):=(blk_cell BK634.out 3).trans rfl;have hcz36_4:w34.cell? ⟨gb634,4,none⟩=some (.slice none 0 0):=(blk_cell BK634.out 4).trans rfl;have hcz36_5:w34.cell? ⟨gb634,5,none⟩=some (.slice none 0 0):=(blk_cell BK634.out 5).trans rfl;have hcz36_6:w34.cell? ⟨gb634,6,none⟩=some (.slice none 0 0):=(blk_cell BK634.out 6).trans rfl;have hfz36_0:=blk_frozen BK634.out 0;have hfz36_1:=blk_frozen BK634.out 1;have hfz36_2:=blk_frozen BK634.out 2;have hfz36_3:=blk_frozen BK634.out 3;have hfz36_4:=blk_frozen BK634.out 4;have hfz36_5:=blk_frozen BK634.out 5;have hfz36_6:=blk_frozen BK634.out 6;obtain ⟨Ao37,co37,eo37⟩:=Kd.R_slice HO626.out;subst eo37;obtain ⟨Ao38,co38,eo38⟩:=Kd.R_slice HO629.out;subst eo38;obtain ⟨Ao39,co39,eo39⟩:=Kd.R_slice HO632.out;subst eo39;have hcz40_0:w34.cell? ⟨gb619,0,none⟩=some (.int .i64 a0_0):=(blk_cell BK619.out 0).trans rfl;have hcz40_1:w34.cell? ⟨gb619,1,none⟩=some (.int .i64 a0_1):=(blk_cell BK619.out 1).trans rfl;have hcz40_2:w34.cell? ⟨gb619,2,none⟩=some (.int .i64 a0_2):=(blk_cell BK619.out 2).trans rfl;have hcz40_3:w34.cell? ⟨gb619,3,none⟩=some (.int .i64 a0_3):=(blk_cell BK619.out 3).trans rfl;have hcz40_4:w34.cell? ⟨gb619,4,none⟩=some (.slice A0_4 l0_4.length c0_4):=(blk_cell BK619.out 4).trans rfl;have hcz40_5:w34.cell? ⟨gb619,5,none⟩=some (.slice A0_5 l0_5.length c0_5):=(blk_cell BK619.out 5).trans rfl;have hcz40_6:w34.cell? ⟨gb619,6,none⟩=some (.slice A0_6 l0_6.length c0_6):=(blk_cell BK619.out 6).trans rfl;have hfz40_0:=blk_frozen BK619.out 0;have hfz40_1:=blk_frozen BK619.out 1;have hfz40_2:=blk_frozen BK619.out 2;have hfz40_3:=blk_frozen BK619.out 3;have hfz40_4:=blk_frozen BK619.out 4;have hfz40_5:=blk_frozen BK619.out 5;have hfz40_6:=blk_frozen BK619.out 6))
        go_ret
        exact ⟨by first|rfl|(simp [errW_none,errW_some] <;> rfl)|(simp [*,errW_none,errW_some] <;> rfl),by repeat (first|(with_reducible first|exact HB.out|apply zlA|apply zlN|apply zlD|refine zlS ?_ GE619.out|refine zlS ?_ GE634.out)|exact HB.out)⟩
      ·rw [if_neg c11] at H
       have c11b0:(a0_2 == 0)=false:=beq_eq_false_iff_ne.mpr c11
       have c11b1:(a0_2 != 0)=true:=bne_iff_ne.mpr c11
       obtain rfl:=Option.some.inj H
       have hcz41_0:wc.cell? ⟨gb619,0,none⟩=some (.int .i64 a0_0):=(blk_cell BK619.out 0).trans rfl
       have hcz41_1:wc.cell? ⟨gb619,1,none⟩=some (.int .i64 a0_1):=(blk_cell BK619.out 1).trans rfl
       have hcz41_2:wc.cell? ⟨gb619,2,none⟩=some (.int .i64 a0_2):=(blk_cell BK619.out 2).trans rfl
       have hcz41_3:wc.cell? ⟨gb619,3,none⟩=some (.int .i64 a0_3):=(blk_cell BK619.out 3).trans rfl
       have hcz41_4:wc.cell? ⟨gb619,4,none⟩=some (.slice A0_4 l0_4.length c0_4):=(blk_cell BK619.out 4).trans rfl
       have hcz41_5:wc.cell? ⟨gb619,5,none⟩=some (.slice A0_5 l0_5.length c0_5):=(blk_cell BK619.out 5).trans rfl
       have hcz41_6:wc.cell? ⟨gb619,6,none⟩=some (.slice A0_6 l0_6.length c0_6):=(blk_cell BK619.out 6).trans rfl
       have hfz41_0:=blk_frozen BK619.out 0
       have hfz41_1:=blk_frozen BK619.out 1
       have hfz41_2:=blk_frozen BK619.out 2
       have hfz41_3:=blk_frozen BK619.out 3
       have hfz41_4:=blk_frozen BK619.out 4
       have hfz41_5:=blk_frozen BK619.out 5
       have hfz41_6:=blk_frozen BK619.out 6
       go_wp2_with (first|((with_reducible refine gate_callee (f:=30) rfl ?_);refine goesL_ (some 22) rfl rfl Try.func30 (by kernel_rfl) rfl #[.int .i64 a0_1,.slice A0_6 l0_6.length c0_6] rfl (by (try simp only [List.map_toArray,List.map_cons,List.map_nil]);first|done|rfl|(simp only [List.length_drop,List.length_take];rfl)) ?_;(with_reducible refine (slipwayref06_Records.calls kj1 a0_1 _ _ l0_6 t620 t621 t622 t623 t624 t627 t630 t633 _ ?side1 ?side2 A9.out).mono ?_);(case side1=>repeat (first|exact (Kd.C_below HR0_6.out HB.out)|(with_reducible refine Kd.C_alloc ?_ _)|(with_reducible refine Kd.C_drewN ?_ _)|(with_reducible refine Kd.C_drew ?_)));(case side2=>exact HC0_6.out);rintro e w42 ⟨v625,v628,v631,rfl,ho0,ho1,ho2,hb⟩;refine ⟨_,rfl,?_⟩;have n0_:=zm (Kd.R_lower ho0 (below_size (by repeat (first|(with_reducible first|exact HB.out|apply zlA|apply zlN|apply zlD|refine zlS ?_ GE619.out)|exact HB.out))));have n1_:=zm (Kd.R_lower ho1 (below_size (by repeat (first|(with_reducible first|exact HB.out|apply zlA|apply zlN|apply zlD|refine zlS ?_ GE619.out)|exact HB.out))));have n2_:=zm (Kd.R_lower ho2 (below_size (by repeat (first|(with_reducible first|exact HB.out|apply zlA|apply zlN|apply zlD|refine zlS ?_ GE619.out)|exact HB.out))));have n3_:=zm (zbB (g:=gb619) (o:=.cells #[.int .i64 a0_0,.int .i64 a0_1,.int .i64 a0_2,.int .i64 a0_3,.slice A0_4 l0_4.length c0_4,.slice A0_5 l0_5.length c0_5,.slice A0_6 l0_6.length c0_6] 42 (0,0)) (by (with_reducible repeat (first|refine zbN ?_ _|refine zbD ?_|refine zbA ?_ _));exact BK619.out) hb);have n4_:=zm (below_step (by repeat (first|(with_reducible first|exact HB.out|apply zlA|apply zlN|apply zlD|refine zlS ?_ GE619.out)|exact HB.out)) hb);clear BK619 HB;have HO626:=n0_;have HO629:=n1_;have HO632:=n2_;have BK619:=n3_;have HB:=n4_;clear n0_ n1_ n2_ n3_ n4_;(try clear hb);(try clear hb2);(try clear hk);(try clear hi);(try clear ho0);(try clear ho1);(try clear ho2))|((with_reducible refine gate_dst (N:=3) rfl ?_);(try (refine gate_guard (by rfl) ?_;dsimp only));refine box_event ?hg (N:=3) ?hd (cs:=#[.int .i64 0,.int .i64 0,.int .i64 0,.int .i64 0,.slice none 0 0,.slice none 0 0,.slice none 0 0]) (t:=42) ?hr ?_;(case hd=>rfl);(case hg=>rfl);(case hr=>first|(go_simp;done)|(go_simp;rfl));intro gb634 hg w43 hbox hb;have n0_:=zm (Kd.R_below (by (with_reducible repeat (first|apply zrA|apply zrN|apply zrD));exact HO626.out) hb);have n1_:=zm (Kd.R_below (by (with_reducible repeat (first|apply zrA|apply zrN|apply zrD));exact HO629.out) hb);have n2_:=zm (Kd.R_below (by (with_reducible repeat (first|apply zrA|apply zrN|apply zrD));exact HO632.out) hb);have n3_:=zm (zbB (g:=gb619) (o:=.cells #[.int .i64 a0_0,.int .i64 a0_1,.int .i64 a0_2,.int .i64 a0_3,.slice A0_4 l0_4.length c0_4,.slice A0_5 l0_5.length c0_5,.slice A0_6 l0_6.length c0_6] 42 (0,0)) (by (with_reducible repeat (first|refine zbN ?_ _|refine zbD ?_|refine zbA ?_ _));exact BK619.out) hb);have n4_:=zm (below_step (by repeat (first|(with_reducible first|exact HB.out|apply zlA|apply zlN|apply zlD|refine zlS ?_ GE619.out)|exact HB.out)) hb);have n5_:=zm (hbox);have n6_:=zm ((by rw [hg];exact (below_size (by repeat (first|(with_reducible first|exact HB.out|apply zlA|apply zlN|apply zlD|refine zlS ?_ GE619.out)|exact HB.out))):w.heap.size≤gb634));have n7_:=zm ((by rw [hg];exact (below_size (by repeat (first|(with_reducible first|exact HB.out|apply zlA|apply zlN|apply zlD|refine zlS ?_ GE619.out)|exact HB.out))):w.heap.size≤gb634));have n8_:=zm ((by rw [hg];exact Nat.ne_of_lt (blk_lt (g:=gb619) (o:=.cells #[.int .i64 a0_0,.int .i64 a0_1,.int .i64 a0_2,.int .i64 a0_3,.slice A0_4 l0_4.length c0_4,.slice A0_5 l0_5.length c0_5,.slice A0_6 l0_6.length c0_6] 42 (0,0)) (by (with_reducible repeat (first|refine zbN ?_ _|refine zbD ?_|refine zbA ?_ _));exact BK619.out)):gb619≠gb634));have n9_:=zm ((by rw [hg];exact Nat.ne_of_gt (blk_lt (g:=gb619) (o:=.cells #[.int .i64 a0_0,.int .i64 a0_1,.int .i64 a0_2,.int .i64 a0_3,.slice A0_4 l0_4.length c0_4,.slice A0_5 l0_5.length c0_5,.slice A0_6 l0_6.length c0_6] 42 (0,0)) (by (with_reducible repeat (first|refine zbN ?_ _|refine zbD ?_|refine zbA ?_ _));exact BK619.out)):gb634≠gb619));clear HO626 HO629 HO632 BK619 HB;have HO626:=n0_;have HO629:=n1_;have HO632:=n2_;have BK619:=n3_;have HB:=n4_;have BK634:=n5_;have GW634:=n6_;have GE634:=n7_;have NB619_634:=n8_;have NB634_619:=n9_;clear n0_ n1_ n2_ n3_ n4_ n5_ n6_ n7_ n8_ n9_;clear hb hbox hg;have hnb44:=NB634_619.out;have hnc44:=NB619_634.out;have hcz45_0:w43.cell? ⟨gb634,0,none⟩=some (.int .i64 0):=(blk_cell BK634.out 0).trans rfl;have hcz45_1:w43.cell? ⟨gb634,1,none⟩=some (.int .i64 0):=(blk_cell BK634.out 1).trans rfl;have hcz45_2:w43.cell? ⟨gb634,2,none⟩=some (.int .i64 0):=(blk_cell BK634.out 2).trans rfl;have hcz45_3:w43.cell? ⟨gb634,3,none⟩=some (.int .i64 0):=(blk_cell BK634.out 3).trans rfl;have hcz45_4:w43.cell? ⟨gb634,4,none⟩=some (.slice none 0 0):=(blk_cell BK634.out 4).trans rfl;have hcz45_5:w43.cell? ⟨gb634,5,none⟩=some (.slice none 0 0):=(blk_cell BK634.out 5).trans rfl;have hcz45_6:w43.cell? ⟨gb634,6,none⟩=some (.slice none 0 0):=(blk_cell BK634.out 6).trans rfl;have hfz45_0:=blk_frozen BK634.out 0;have hfz45_1:=blk_frozen BK634.out 1;have hfz45_2:=blk_frozen BK634.out 2;have hfz45_3:=blk_frozen BK634.out 3;have hfz45_4:=blk_frozen BK634.out 4;have hfz45_5:=blk_frozen BK634.out 5;have hfz45_6:=blk_frozen BK634.out 6;obtain ⟨Ao46,co46,eo46⟩:=Kd.R_slice HO626.out;subst eo46;obtain ⟨Ao47,co47,eo47⟩:=Kd.R_slice HO629.out;subst eo47;obtain ⟨Ao48,co48,eo48⟩:=Kd.R_slice HO632.out;subst eo48;have hcz49_0:w43.cell? ⟨gb619,0,none⟩=some (.int .i64 a0_0):=(blk_cell BK619.out 0).trans rfl;have hcz49_1:w43.cell? ⟨gb619,1,none⟩=some (.int .i64 a0_1):=(blk_cell BK619.out 1).trans rfl;have hcz49_2:w43.cell? ⟨gb619,2,none⟩=some (.int .i64 a0_2):=(blk_cell BK619.out 2).trans rfl;have hcz49_3:w43.cell? ⟨gb619,3,none⟩=some (.int .i64 a0_3):=(blk_cell BK619.out 3).trans rfl;have hcz49_4:w43.cell? ⟨gb619,4,none⟩=some (.slice A0_4 l0_4.length c0_4):=(blk_cell BK619.out 4).trans rfl;have hcz49_5:w43.cell? ⟨gb619,5,none⟩=some (.slice A0_5 l0_5.length c0_5):=(blk_cell BK619.out 5).trans rfl;have hcz49_6:w43.cell? ⟨gb619,6,none⟩=some (.slice A0_6 l0_6.length c0_6):=(blk_cell BK619.out 6).trans rfl;have hfz49_0:=blk_frozen BK619.out 0;have hfz49_1:=blk_frozen BK619.out 1;have hfz49_2:=blk_frozen BK619.out 2;have hfz49_3:=blk_frozen BK619.out 3;have hfz49_4:=blk_frozen BK619.out 4;have hfz49_5:=blk_frozen BK619.out 5;have hfz49_6:=blk_frozen BK619.out 6))
       go_ret
       exact ⟨by first|rfl|(simp [errW_none,errW_some] <;> rfl)|(simp [*,errW_none,errW_some] <;> rfl),by repeat (first|(with_reducible first|exact HB.out|apply zlA|apply zlN|apply zlD|refine zlS ?_ GE619.out|refine zlS ?_ GE634.out)|exact HB.out)⟩
     ·rw [if_neg c10] at H
      have c10b0:(t633 == 0)=false:=beq_eq_false_iff_ne.mpr c10
      have c10b1:(t633 != 0)=true:=bne_iff_ne.mpr c10
      obtain rfl:=Option.some.inj H
      have hcz50_0:wc.cell? ⟨gb619,0,none⟩=some (.int .i64 a0_0):=(blk_cell BK619.out 0).trans rfl
      have hcz50_1:wc.cell? ⟨gb619,1,none⟩=some (.int .i64 a0_1):=(blk_cell BK619.out 1).trans rfl
      have hcz50_2:wc.cell? ⟨gb619,2,none⟩=some (.int .i64 a0_2):=(blk_cell BK619.out 2).trans rfl
      have hcz50_3:wc.cell? ⟨gb619,3,none⟩=some (.int .i64 a0_3):=(blk_cell BK619.out 3).trans rfl
      have hcz50_4:wc.cell? ⟨gb619,4,none⟩=some (.slice A0_4 l0_4.length c0_4):=(blk_cell BK619.out 4).trans rfl
      have hcz50_5:wc.cell? ⟨gb619,5,none⟩=some (.slice A0_5 l0_5.length c0_5):=(blk_cell BK619.out 5).trans rfl
      have hcz50_6:wc.cell? ⟨gb619,6,none⟩=some (.slice A0_6 l0_6.length c0_6):=(blk_cell BK619.out 6).trans rfl
      have hfz50_0:=blk_frozen BK619.out 0
      have hfz50_1:=blk_frozen BK619.out 1
      have hfz50_2:=blk_frozen BK619.out 2
      have hfz50_3:=blk_frozen BK619.out 3
      have hfz50_4:=blk_frozen BK619.out 4
      have hfz50_5:=blk_frozen BK619.out 5
      have hfz50_6:=blk_frozen BK619.out 6
      go_wp2_with (first|((with_reducible refine gate_callee (f:=30) rfl ?_);refine goesL_ (some 22) rfl rfl Try.func30 (by kernel_rfl) rfl #[.int .i64 a0_1,.slice A0_6 l0_6.length c0_6] rfl (by (try simp only [List.map_toArray,List.map_cons,List.map_nil]);first|done|rfl|(simp only [List.length_drop,List.length_take];rfl)) ?_;(with_reducible refine (slipwayref06_Records.calls kj1 a0_1 _ _ l0_6 t620 t621 t622 t623 t624 t627 t630 t633 _ ?side1 ?side2 A9.out).mono ?_);(case side1=>repeat (first|exact (Kd.C_below HR0_6.out HB.out)|(with_reducible refine Kd.C_alloc ?_ _)|(with_reducible refine Kd.C_drewN ?_ _)|(with_reducible refine Kd.C_drew ?_)));(case side2=>exact HC0_6.out);rintro e w51 ⟨v625,v628,v631,rfl,ho0,ho1,ho2,hb⟩;refine ⟨_,rfl,?_⟩;have n0_:=zm (Kd.R_lower ho0 (below_size (by repeat (first|(with_reducible first|exact HB.out|apply zlA|apply zlN|apply zlD|refine zlS ?_ GE619.out)|exact HB.out))));have n1_:=zm (Kd.R_lower ho1 (below_size (by repeat (first|(with_reducible first|exact HB.out|apply zlA|apply zlN|apply zlD|refine zlS ?_ GE619.out)|exact HB.out))));have n2_:=zm (Kd.R_lower ho2 (below_size (by repeat (first|(with_reducible first|exact HB.out|apply zlA|apply zlN|apply zlD|refine zlS ?_ GE619.out)|exact HB.out))));have n3_:=zm (zbB (g:=gb619) (o:=.cells #[.int .i64 a0_0,.int .i64 a0_1,.int .i64 a0_2,.int .i64 a0_3,.slice A0_4 l0_4.length c0_4,.slice A0_5 l0_5.length c0_5,.slice A0_6 l0_6.length c0_6] 42 (0,0)) (by (with_reducible repeat (first|refine zbN ?_ _|refine zbD ?_|refine zbA ?_ _));exact BK619.out) hb);have n4_:=zm (below_step (by repeat (first|(with_reducible first|exact HB.out|apply zlA|apply zlN|apply zlD|refine zlS ?_ GE619.out)|exact HB.out)) hb);clear BK619 HB;have HO626:=n0_;have HO629:=n1_;have HO632:=n2_;have BK619:=n3_;have HB:=n4_;clear n0_ n1_ n2_ n3_ n4_;(try clear hb);(try clear hb2);(try clear hk);(try clear hi);(try clear ho0);(try clear ho1);(try clear ho2))|((with_reducible refine gate_dst (N:=3) rfl ?_);(try (refine gate_guard (by rfl) ?_;dsimp only));refine box_event ?hg (N:=3) ?hd (cs:=#[.int .i64 0,.int .i64 0,.int .i64 0,.int .i64 0,.slice none 0 0,.slice none 0 0,.slice none 0 0]) (t:=42) ?hr ?_;(case hd=>rfl);(case hg=>rfl);(case hr=>first|(go_simp;done)|(go_simp;rfl));intro gb634 hg w52 hbox hb;have n0_:=zm (Kd.R_below (by (with_reducible repeat (first|apply zrA|apply zrN|apply zrD));exact HO626.out) hb);have n1_:=zm (Kd.R_below (by (with_reducible repeat (first|apply zrA|apply zrN|apply zrD));exact HO629.out) hb);have n2_:=zm (Kd.R_below (by (with_reducible repeat (first|apply zrA|apply zrN|apply zrD));exact HO632.out) hb);have n3_:=zm (zbB (g:=gb619) (o:=.cells #[.int .i64 a0_0,.int .i64 a0_1,.int .i64 a0_2,.int .i64 a0_3,.slice A0_4 l0_4.length c0_4,.slice A0_5 l0_5.length c0_5,.slice A0_6 l0_6.length c0_6] 42 (0,0)) (by (with_reducible repeat (first|refine zbN ?_ _|refine zbD ?_|refine zbA ?_ _));exact BK619.out) hb);have n4_:=zm (below_step (by repeat (first|(with_reducible first|exact HB.out|apply zlA|apply zlN|apply zlD|refine zlS ?_ GE619.out)|exact HB.out)) hb);have n5_:=zm (hbox);have n6_:=zm ((by rw [hg];exact (below_size (by repeat (first|(with_reducible first|exact HB.out|apply zlA|apply zlN|apply zlD|refine zlS ?_ GE619.out)|exact HB.out))):w.heap.size≤gb634));have n7_:=zm ((by rw [hg];exact (below_size (by repeat (first|(with_reducible first|exact HB.out|apply zlA|apply zlN|apply zlD|refine zlS ?_ GE619.out)|exact HB.out))):w.heap.size≤gb634));have n8_:=zm ((by rw [hg];exact Nat.ne_of_lt (blk_lt (g:=gb619) (o:=.cells #[.int .i64 a0_0,.int .i64 a0_1,.int .i64 a0_2,.int .i64 a0_3,.slice A0_4 l0_4.length c0_4,.slice A0_5 l0_5.length c0_5,.slice A0_6 l0_6.length c0_6] 42 (0,0)) (by (with_reducible repeat (first|refine zbN ?_ _|refine zbD ?_|refine zbA ?_ _));exact BK619.out)):gb619≠gb634));have n9_:=zm ((by rw [hg];exact Nat.ne_of_gt (blk_lt (g:=gb619) (o:=.cells #[.int .i64 a0_0,.int .i64 a0_1,.int .i64 a0_2,.int .i64 a0_3,.slice A0_4 l0_4.length c0_4,.slice A0_5 l0_5.length c0_5,.slice A0_6 l0_6.length c0_6] 42 (0,0)) (by (with_reducible repeat (first|refine zbN ?_ _|refine zbD ?_|refine zbA ?_ _));exact BK619.out)):gb634≠gb619));clear HO626 HO629 HO632 BK619 HB;have HO626:=n0_;have HO629:=n1_;have HO632:=n2_;have BK619:=n3_;have HB:=n4_;have BK634:=n5_;have GW634:=n6_;have GE634:=n7_;have NB619_634:=n8_;have NB634_619:=n9_;clear n0_ n1_ n2_ n3_ n4_ n5_ n6_ n7_ n8_ n9_;clear hb hbox hg;have hnb53:=NB634_619.out;have hnc53:=NB619_634.out;have hcz54_0:w52.cell? ⟨gb634,0,none⟩=some (.int .i64 0):=(blk_cell BK634.out 0).trans rfl;have hcz54_1:w52.cell? ⟨gb634,1,none⟩=some (.int .i64 0):=(blk_cell BK634.out 1).trans rfl;have hcz54_2:w52.cell? ⟨gb634,2,none⟩=some (.int .i64 0):=(blk_cell BK634.out 2).trans rfl;have hcz54_3:w52.cell? ⟨gb634,3,none⟩=some (.int .i64 0):=(blk_cell BK634.out 3).trans rfl;have hcz54_4:w52.cell? ⟨gb634,4,none⟩=some (.slice none 0 0):=(blk_cell BK634.out 4).trans rfl;have hcz54_5:w52.cell? ⟨gb634,5,none⟩=some (.slice none 0 0):=(blk_cell BK634.out 5).trans rfl;have hcz54_6:w52.cell? ⟨gb634,6,none⟩=some (.slice none 0 0):=(blk_cell BK634.out 6).trans rfl;have hfz54_0:=blk_frozen BK634.out 0;have hfz54_1:=blk_frozen BK634.out 1;have hfz54_2:=blk_frozen BK634.out 2;have hfz54_3:=blk_frozen BK634.out 3;have hfz54_4:=blk_frozen BK634.out 4;have hfz54_5:=blk_frozen BK634.out 5;have hfz54_6:=blk_frozen BK634.out 6;obtain ⟨Ao55,co55,eo55⟩:=Kd.R_slice HO626.out;subst eo55;obtain ⟨Ao56,co56,eo56⟩:=Kd.R_slice HO629.out;subst eo56;obtain ⟨Ao57,co57,eo57⟩:=Kd.R_slice HO632.out;subst eo57))
      go_ret
      exact ⟨by first|rfl|(simp [errW_none,errW_some] <;> rfl)|(simp [*,errW_none,errW_some] <;> rfl),by repeat (first|(with_reducible first|exact HB.out|apply zlA|apply zlN|apply zlD|refine zlS ?_ GE619.out|refine zlS ?_ GE634.out)|exact HB.out)⟩
    ·rw [if_neg c8] at H
     have c8b0:(a0_0 == 2)=false:=beq_eq_false_iff_ne.mpr c8
     have c8b1:(a0_0 != 2)=true:=bne_iff_ne.mpr c8
     have HC58:=zm H
     clear H
     have hcz59_0:wc.cell? ⟨gb619,0,none⟩=some (.int .i64 a0_0):=(blk_cell BK619.out 0).trans rfl
     have hcz59_1:wc.cell? ⟨gb619,1,none⟩=some (.int .i64 a0_1):=(blk_cell BK619.out 1).trans rfl
     have hcz59_2:wc.cell? ⟨gb619,2,none⟩=some (.int .i64 a0_2):=(blk_cell BK619.out 2).trans rfl
     have hcz59_3:wc.cell? ⟨gb619,3,none⟩=some (.int .i64 a0_3):=(blk_cell BK619.out 3).trans rfl
     have hcz59_4:wc.cell? ⟨gb619,4,none⟩=some (.slice A0_4 l0_4.length c0_4):=(blk_cell BK619.out 4).trans rfl
     have hcz59_5:wc.cell? ⟨gb619,5,none⟩=some (.slice A0_5 l0_5.length c0_5):=(blk_cell BK619.out 5).trans rfl
     have hcz59_6:wc.cell? ⟨gb619,6,none⟩=some (.slice A0_6 l0_6.length c0_6):=(blk_cell BK619.out 6).trans rfl
     have hfz59_0:=blk_frozen BK619.out 0
     have hfz59_1:=blk_frozen BK619.out 1
     have hfz59_2:=blk_frozen BK619.out 2
     have hfz59_3:=blk_frozen BK619.out 3
     have hfz59_4:=blk_frozen BK619.out 4
     have hfz59_5:=blk_frozen BK619.out 5
     have hfz59_6:=blk_frozen BK619.out 6
     go_upto_region 6 with (fail)
     go_cut [98] (fun v98 wc=>∃ (kq:Nat) (x98_57:Bool),v98=.bool x98_57∧Aside0 (slipwayref06_page.j1 kq x98_57 a0_0 a0_1 a0_2 a0_3 l0_4 l0_5 l0_6=some r)∧Aside0 (kq≤kj1)∧Aside0 (wc.heap[gb619]?=some (.cells #[.int .i64 a0_0,.int .i64 a0_1,.int .i64 a0_2,.int .i64 a0_3,(.slice A0_4 l0_4.length c0_4),(.slice A0_5 l0_5.length c0_5),(.slice A0_6 l0_6.length c0_6)] 42 (0,0)))∧Aside0 (Below w.heap.size w wc))
     case first =>
      have H:=HC58.out
      clear HC58
      by_cases c60:a0_0=1
      ·rw [if_pos c60] at H
       have c60b0:(a0_0 == 1)=true:=beq_iff_eq.mpr c60
       have c60b1:(a0_0 != 1)=false:=bne_eq_false_iff_eq.mpr c60
       clear c60
       (first|rw [c60b0]|(simp only [i64_w,i32_w];rw [c60b0])|skip)
       by_cases c61:a0_2 < 0
       ·rw [if_pos c61] at H
        have c61b0:decide (a0_2 < 0)=true:=decide_eq_true c61
        clear c61
        have H':=zm H
        clear H
        have hcz62_0:wc.cell? ⟨gb619,0,none⟩=some (.int .i64 a0_0):=(blk_cell BK619.out 0).trans rfl
        have hcz62_1:wc.cell? ⟨gb619,1,none⟩=some (.int .i64 a0_1):=(blk_cell BK619.out 1).trans rfl
        have hcz62_2:wc.cell? ⟨gb619,2,none⟩=some (.int .i64 a0_2):=(blk_cell BK619.out 2).trans rfl
        have hcz62_3:wc.cell? ⟨gb619,3,none⟩=some (.int .i64 a0_3):=(blk_cell BK619.out 3).trans rfl
        have hcz62_4:wc.cell? ⟨gb619,4,none⟩=some (.slice A0_4 l0_4.length c0_4):=(blk_cell BK619.out 4).trans rfl
        have hcz62_5:wc.cell? ⟨gb619,5,none⟩=some (.slice A0_5 l0_5.length c0_5):=(blk_cell BK619.out 5).trans rfl
        have hcz62_6:wc.cell? ⟨gb619,6,none⟩=some (.slice A0_6 l0_6.length c0_6):=(blk_cell BK619.out 6).trans rfl
        have hfz62_0:=blk_frozen BK619.out 0
        have hfz62_1:=blk_frozen BK619.out 1
        have hfz62_2:=blk_frozen BK619.out 2
        have hfz62_3:=blk_frozen BK619.out 3
        have hfz62_4:=blk_frozen BK619.out 4
        have hfz62_5:=blk_frozen BK619.out 5
        have hfz62_6:=blk_frozen BK619.out 6
        go_wp2
        go_meet
        case rel=>exact ⟨_,(true),(by first|rfl|(simp;done)|(simp [*];done)),H',⟨by have:=HJ1.out;first|omega|exact Nat.le_refl _⟩,⟨by (with_reducible repeat (first|refine zbN ?_ _|refine zbD ?_|refine zbA ?_ _));exact BK619.out⟩,⟨by repeat (first|(with_reducible first|exact HB.out|apply zlA|apply zlN|apply zlD|refine zlS ?_ GE619.out)|exact HB.out)⟩⟩
       ·rw [if_neg c61] at H
        have c61b0:decide (a0_2 < 0)=false:=decide_eq_false c61
        clear c61
        by_cases c63:a0_2 > 3
        ·rw [if_pos c63] at H
         have c63b0:decide (3 < a0_2)=true:=decide_eq_true c63
         clear c63
         have H':=zm H
         clear H
         have hcz64_0:wc.cell? ⟨gb619,0,none⟩=some (.int .i64 a0_0):=(blk_cell BK619.out 0).trans rfl
         have hcz64_1:wc.cell? ⟨gb619,1,none⟩=some (.int .i64 a0_1):=(blk_cell BK619.out 1).trans rfl
         have hcz64_2:wc.cell? ⟨gb619,2,none⟩=some (.int .i64 a0_2):=(blk_cell BK619.out 2).trans rfl
         have hcz64_3:wc.cell? ⟨gb619,3,none⟩=some (.int .i64 a0_3):=(blk_cell BK619.out 3).trans rfl
         have hcz64_4:wc.cell? ⟨gb619,4,none⟩=some (.slice A0_4 l0_4.length c0_4):=(blk_cell BK619.out 4).trans rfl
         have hcz64_5:wc.cell? ⟨gb619,5,none⟩=some (.slice A0_5 l0_5.length c0_5):=(blk_cell BK619.out 5).trans rfl
         have hcz64_6:wc.cell? ⟨gb619,6,none⟩=some (.slice A0_6 l0_6.length c0_6):=(blk_cell BK619.out 6).trans rfl
         have hfz64_0:=blk_frozen BK619.out 0
         have hfz64_1:=blk_frozen BK619.out 1
         have hfz64_2:=blk_frozen BK619.out 2
         have hfz64_3:=blk_frozen BK619.out 3
         have hfz64_4:=blk_frozen BK619.out 4
         have hfz64_5:=blk_frozen BK619.out 5
         have hfz64_6:=blk_frozen BK619.out 6
         go_wp2
         go_meet
         case rel=>exact ⟨_,(true),(by first|rfl|(simp;done)|(simp [*];done)),H',⟨by have:=HJ1.out;first|omega|exact Nat.le_refl _⟩,⟨by (with_reducible repeat (first|refine zbN ?_ _|refine zbD ?_|refine zbA ?_ _));exact BK619.out⟩,⟨by repeat (first|(with_reducible first|exact HB.out|apply zlA|apply zlN|apply zlD|refine zlS ?_ GE619.out)|exact HB.out)⟩⟩
        ·rw [if_neg c63] at H
         have c63b0:decide (3 < a0_2)=false:=decide_eq_false c63
         clear c63
         by_cases c65:a0_3 < 0
         ·rw [if_pos c65] at H
          have c65b0:decide (a0_3 < 0)=true:=decide_eq_true c65
          clear c65
          have H':=zm H
          clear H
          have hcz66_0:wc.cell? ⟨gb619,0,none⟩=some (.int .i64 a0_0):=(blk_cell BK619.out 0).trans rfl
          have hcz66_1:wc.cell? ⟨gb619,1,none⟩=some (.int .i64 a0_1):=(blk_cell BK619.out 1).trans rfl
          have hcz66_2:wc.cell? ⟨gb619,2,none⟩=some (.int .i64 a0_2):=(blk_cell BK619.out 2).trans rfl
          have hcz66_3:wc.cell? ⟨gb619,3,none⟩=some (.int .i64 a0_3):=(blk_cell BK619.out 3).trans rfl
          have hcz66_4:wc.cell? ⟨gb619,4,none⟩=some (.slice A0_4 l0_4.length c0_4):=(blk_cell BK619.out 4).trans rfl
          have hcz66_5:wc.cell? ⟨gb619,5,none⟩=some (.slice A0_5 l0_5.length c0_5):=(blk_cell BK619.out 5).trans rfl
          have hcz66_6:wc.cell? ⟨gb619,6,none⟩=some (.slice A0_6 l0_6.length c0_6):=(blk_cell BK619.out 6).trans rfl
          have hfz66_0:=blk_frozen BK619.out 0
          have hfz66_1:=blk_frozen BK619.out 1
          have hfz66_2:=blk_frozen BK619.out 2
          have hfz66_3:=blk_frozen BK619.out 3
          have hfz66_4:=blk_frozen BK619.out 4
          have hfz66_5:=blk_frozen BK619.out 5
          have hfz66_6:=blk_frozen BK619.out 6
          go_wp2
          go_meet
          case rel=>exact ⟨_,(true),(by first|rfl|(simp;done)|(simp [*];done)),H',⟨by have:=HJ1.out;first|omega|exact Nat.le_refl _⟩,⟨by (with_reducible repeat (first|refine zbN ?_ _|refine zbD ?_|refine zbA ?_ _));exact BK619.out⟩,⟨by repeat (first|(with_reducible first|exact HB.out|apply zlA|apply zlN|apply zlD|refine zlS ?_ GE619.out)|exact HB.out)⟩⟩
         ·rw [if_neg c65] at H
          have c65b0:decide (a0_3 < 0)=false:=decide_eq_false c65
          clear c65
          by_cases c67:a0_3 > 1152921504606846976
          ·rw [if_pos c67] at H
           have c67b0:decide (1152921504606846976 < a0_3)=true:=decide_eq_true c67
           clear c67
           have H':=zm H
           clear H
           have hcz68_0:wc.cell? ⟨gb619,0,none⟩=some (.int .i64 a0_0):=(blk_cell BK619.out 0).trans rfl
           have hcz68_1:wc.cell? ⟨gb619,1,none⟩=some (.int .i64 a0_1):=(blk_cell BK619.out 1).trans rfl
           have hcz68_2:wc.cell? ⟨gb619,2,none⟩=some (.int .i64 a0_2):=(blk_cell BK619.out 2).trans rfl
           have hcz68_3:wc.cell? ⟨gb619,3,none⟩=some (.int .i64 a0_3):=(blk_cell BK619.out 3).trans rfl
           have hcz68_4:wc.cell? ⟨gb619,4,none⟩=some (.slice A0_4 l0_4.length c0_4):=(blk_cell BK619.out 4).trans rfl
           have hcz68_5:wc.cell? ⟨gb619,5,none⟩=some (.slice A0_5 l0_5.length c0_5):=(blk_cell BK619.out 5).trans rfl
           have hcz68_6:wc.cell? ⟨gb619,6,none⟩=some (.slice A0_6 l0_6.length c0_6):=(blk_cell BK619.out 6).trans rfl
           have hfz68_0:=blk_frozen BK619.out 0
           have hfz68_1:=blk_frozen BK619.out 1
           have hfz68_2:=blk_frozen BK619.out 2
           have hfz68_3:=blk_frozen BK619.out 3
           have hfz68_4:=blk_frozen BK619.out 4
           have hfz68_5:=blk_frozen BK619.out 5
           have hfz68_6:=blk_frozen BK619.out 6
           go_wp2
           go_meet
           case rel=>exact ⟨_,(true),(by first|rfl|(simp;done)|(simp [*];done)),H',⟨by have:=HJ1.out;first|omega|exact Nat.le_refl _⟩,⟨by (with_reducible repeat (first|refine zbN ?_ _|refine zbD ?_|refine zbA ?_ _));exact BK619.out⟩,⟨by repeat (first|(with_reducible first|exact HB.out|apply zlA|apply zlN|apply zlD|refine zlS ?_ GE619.out)|exact HB.out)⟩⟩
          ·rw [if_neg c67] at H
           have c67b0:decide (1152921504606846976 < a0_3)=false:=decide_eq_false c67
           clear c67
           by_cases c69:(l0_6.length:Int) > 0
           ·rw [if_pos c69] at H
            have c69b0:decide (0 < (l0_6.length:Int))=true:=decide_eq_true c69
            have c69b1:decide (0 < l0_6.length)=true:=decide_eq_true (by omega)
            clear c69
            have H':=zm H
            clear H
            have hcz70_0:wc.cell? ⟨gb619,0,none⟩=some (.int .i64 a0_0):=(blk_cell BK619.out 0).trans rfl
            have hcz70_1:wc.cell? ⟨gb619,1,none⟩=some (.int .i64 a0_1):=(blk_cell BK619.out 1).trans rfl
            have hcz70_2:wc.cell? ⟨gb619,2,none⟩=some (.int .i64 a0_2):=(blk_cell BK619.out 2).trans rfl
            have hcz70_3:wc.cell? ⟨gb619,3,none⟩=some (.int .i64 a0_3):=(blk_cell BK619.out 3).trans rfl
            have hcz70_4:wc.cell? ⟨gb619,4,none⟩=some (.slice A0_4 l0_4.length c0_4):=(blk_cell BK619.out 4).trans rfl
            have hcz70_5:wc.cell? ⟨gb619,5,none⟩=some (.slice A0_5 l0_5.length c0_5):=(blk_cell BK619.out 5).trans rfl
            have hcz70_6:wc.cell? ⟨gb619,6,none⟩=some (.slice A0_6 l0_6.length c0_6):=(blk_cell BK619.out 6).trans rfl
            have hfz70_0:=blk_frozen BK619.out 0
            have hfz70_1:=blk_frozen BK619.out 1
            have hfz70_2:=blk_frozen BK619.out 2
            have hfz70_3:=blk_frozen BK619.out 3
            have hfz70_4:=blk_frozen BK619.out 4
            have hfz70_5:=blk_frozen BK619.out 5
            have hfz70_6:=blk_frozen BK619.out 6
            go_wp2
            go_meet
            case rel=>exact ⟨_,(true),(by first|rfl|(simp;done)|(simp [*];done)),H',⟨by have:=HJ1.out;first|omega|exact Nat.le_refl _⟩,⟨by (with_reducible repeat (first|refine zbN ?_ _|refine zbD ?_|refine zbA ?_ _));exact BK619.out⟩,⟨by repeat (first|(with_reducible first|exact HB.out|apply zlA|apply zlN|apply zlD|refine zlS ?_ GE619.out)|exact HB.out)⟩⟩
           ·rw [if_neg c69] at H
            have c69b0:decide (0 < (l0_6.length:Int))=false:=decide_eq_false c69
            have c69b1:decide (0 < l0_6.length)=false:=decide_eq_false (by omega)
            clear c69
            by_cases c71:(l0_4.length:Int) < 1
            ·rw [if_pos c71] at H
             have c71b0:decide ((l0_4.length:Int) < 1)=true:=decide_eq_true c71
             have c71b1:decide (l0_4.length < 1)=true:=decide_eq_true (by omega)
             clear c71
             have H':=zm H
             clear H
             have hcz72_0:wc.cell? ⟨gb619,0,none⟩=some (.int .i64 a0_0):=(blk_cell BK619.out 0).trans rfl
             have hcz72_1:wc.cell? ⟨gb619,1,none⟩=some (.int .i64 a0_1):=(blk_cell BK619.out 1).trans rfl
             have hcz72_2:wc.cell? ⟨gb619,2,none⟩=some (.int .i64 a0_2):=(blk_cell BK619.out 2).trans rfl
             have hcz72_3:wc.cell? ⟨gb619,3,none⟩=some (.int .i64 a0_3):=(blk_cell BK619.out 3).trans rfl
             have hcz72_4:wc.cell? ⟨gb619,4,none⟩=some (.slice A0_4 l0_4.length c0_4):=(blk_cell BK619.out 4).trans rfl
             have hcz72_5:wc.cell? ⟨gb619,5,none⟩=some (.slice A0_5 l0_5.length c0_5):=(blk_cell BK619.out 5).trans rfl
             have hcz72_6:wc.cell? ⟨gb619,6,none⟩=some (.slice A0_6 l0_6.length c0_6):=(blk_cell BK619.out 6).trans rfl
             have hfz72_0:=blk_frozen BK619.out 0
             have hfz72_1:=blk_frozen BK619.out 1
             have hfz72_2:=blk_frozen BK619.out 2
             have hfz72_3:=blk_frozen BK619.out 3
             have hfz72_4:=blk_frozen BK619.out 4
             have hfz72_5:=blk_frozen BK619.out 5
             have hfz72_6:=blk_frozen BK619.out 6
             go_wp2
             go_meet
             case rel=>exact ⟨_,(true),(by first|rfl|(simp;done)|(simp [*];done)),H',⟨by have:=HJ1.out;first|omega|exact Nat.le_refl _⟩,⟨by (with_reducible repeat (first|refine zbN ?_ _|refine zbD ?_|refine zbA ?_ _));exact BK619.out⟩,⟨by repeat (first|(with_reducible first|exact HB.out|apply zlA|apply zlN|apply zlD|refine zlS ?_ GE619.out)|exact HB.out)⟩⟩
            ·rw [if_neg c71] at H
             have c71b0:decide ((l0_4.length:Int) < 1)=false:=decide_eq_false c71
             have c71b1:decide (l0_4.length < 1)=false:=decide_eq_false (by omega)
             clear c71
             by_cases c73:(l0_4.length:Int) > 64
             ·rw [if_pos c73] at H
              have c73b0:decide (64 < (l0_4.length:Int))=true:=decide_eq_true c73
              have c73b1:decide (64 < l0_4.length)=true:=decide_eq_true (by omega)
              clear c73
              have H':=zm H
              clear H
              have hcz74_0:wc.cell? ⟨gb619,0,none⟩=some (.int .i64 a0_0):=(blk_cell BK619.out 0).trans rfl
              have hcz74_1:wc.cell? ⟨gb619,1,none⟩=some (.int .i64 a0_1):=(blk_cell BK619.out 1).trans rfl
              have hcz74_2:wc.cell? ⟨gb619,2,none⟩=some (.int .i64 a0_2):=(blk_cell BK619.out 2).trans rfl
              have hcz74_3:wc.cell? ⟨gb619,3,none⟩=some (.int .i64 a0_3):=(blk_cell BK619.out 3).trans rfl
              have hcz74_4:wc.cell? ⟨gb619,4,none⟩=some (.slice A0_4 l0_4.length c0_4):=(blk_cell BK619.out 4).trans rfl
              have hcz74_5:wc.cell? ⟨gb619,5,none⟩=some (.slice A0_5 l0_5.length c0_5):=(blk_cell BK619.out 5).trans rfl
              have hcz74_6:wc.cell? ⟨gb619,6,none⟩=some (.slice A0_6 l0_6.length c0_6):=(blk_cell BK619.out 6).trans rfl
              have hfz74_0:=blk_frozen BK619.out 0
              have hfz74_1:=blk_frozen BK619.out 1
              have hfz74_2:=blk_frozen BK619.out 2
              have hfz74_3:=blk_frozen BK619.out 3
              have hfz74_4:=blk_frozen BK619.out 4
              have hfz74_5:=blk_frozen BK619.out 5
              have hfz74_6:=blk_frozen BK619.out 6
              go_wp2
              go_meet
              case rel=>exact ⟨_,(true),(by first|rfl|(simp;done)|(simp [*];done)),H',⟨by have:=HJ1.out;first|omega|exact Nat.le_refl _⟩,⟨by (with_reducible repeat (first|refine zbN ?_ _|refine zbD ?_|refine zbA ?_ _));exact BK619.out⟩,⟨by repeat (first|(with_reducible first|exact HB.out|apply zlA|apply zlN|apply zlD|refine zlS ?_ GE619.out)|exact HB.out)⟩⟩
             ·rw [if_neg c73] at H
              have c73b0:decide (64 < (l0_4.length:Int))=false:=decide_eq_false c73
              have c73b1:decide (64 < l0_4.length)=false:=decide_eq_false (by omega)
              clear c73
              have H':=zm H
              clear H
              have hcz75_0:wc.cell? ⟨gb619,0,none⟩=some (.int .i64 a0_0):=(blk_cell BK619.out 0).trans rfl
              have hcz75_1:wc.cell? ⟨gb619,1,none⟩=some (.int .i64 a0_1):=(blk_cell BK619.out 1).trans rfl
              have hcz75_2:wc.cell? ⟨gb619,2,none⟩=some (.int .i64 a0_2):=(blk_cell BK619.out 2).trans rfl
              have hcz75_3:wc.cell? ⟨gb619,3,none⟩=some (.int .i64 a0_3):=(blk_cell BK619.out 3).trans rfl
              have hcz75_4:wc.cell? ⟨gb619,4,none⟩=some (.slice A0_4 l0_4.length c0_4):=(blk_cell BK619.out 4).trans rfl
              have hcz75_5:wc.cell? ⟨gb619,5,none⟩=some (.slice A0_5 l0_5.length c0_5):=(blk_cell BK619.out 5).trans rfl
              have hcz75_6:wc.cell? ⟨gb619,6,none⟩=some (.slice A0_6 l0_6.length c0_6):=(blk_cell BK619.out 6).trans rfl
              have hfz75_0:=blk_frozen BK619.out 0
              have hfz75_1:=blk_frozen BK619.out 1
              have hfz75_2:=blk_frozen BK619.out 2
              have hfz75_3:=blk_frozen BK619.out 3
              have hfz75_4:=blk_frozen BK619.out 4
              have hfz75_5:=blk_frozen BK619.out 5
              have hfz75_6:=blk_frozen BK619.out 6
              go_wp2
              go_meet
              case rel=>exact ⟨_,(((l0_5.length:Int) != (l0_4.length:Int))),(by first|rfl|(simp;done)|(simp [*];done)),H',⟨by have:=HJ1.out;first|omega|exact Nat.le_refl _⟩,⟨by (with_reducible repeat (first|refine zbN ?_ _|refine zbD ?_|refine zbA ?_ _));exact BK619.out⟩,⟨by repeat (first|(with_reducible first|exact HB.out|apply zlA|apply zlN|apply zlD|refine zlS ?_ GE619.out)|exact HB.out)⟩⟩
      ·rw [if_neg c60] at H
       have c60b0:(a0_0 == 1)=false:=beq_eq_false_iff_ne.mpr c60
       have c60b1:(a0_0 != 1)=true:=bne_iff_ne.mpr c60
       (first|rw [c60b0]|(simp only [i64_w,i32_w];rw [c60b0])|skip)
       have H':=zm H
       clear H
       have hcz76_0:wc.cell? ⟨gb619,0,none⟩=some (.int .i64 a0_0):=(blk_cell BK619.out 0).trans rfl
       have hcz76_1:wc.cell? ⟨gb619,1,none⟩=some (.int .i64 a0_1):=(blk_cell BK619.out 1).trans rfl
       have hcz76_2:wc.cell? ⟨gb619,2,none⟩=some (.int .i64 a0_2):=(blk_cell BK619.out 2).trans rfl
       have hcz76_3:wc.cell? ⟨gb619,3,none⟩=some (.int .i64 a0_3):=(blk_cell BK619.out 3).trans rfl
       have hcz76_4:wc.cell? ⟨gb619,4,none⟩=some (.slice A0_4 l0_4.length c0_4):=(blk_cell BK619.out 4).trans rfl
       have hcz76_5:wc.cell? ⟨gb619,5,none⟩=some (.slice A0_5 l0_5.length c0_5):=(blk_cell BK619.out 5).trans rfl
       have hcz76_6:wc.cell? ⟨gb619,6,none⟩=some (.slice A0_6 l0_6.length c0_6):=(blk_cell BK619.out 6).trans rfl
       have hfz76_0:=blk_frozen BK619.out 0
       have hfz76_1:=blk_frozen BK619.out 1
       have hfz76_2:=blk_frozen BK619.out 2
       have hfz76_3:=blk_frozen BK619.out 3
       have hfz76_4:=blk_frozen BK619.out 4
       have hfz76_5:=blk_frozen BK619.out 5
       have hfz76_6:=blk_frozen BK619.out 6
       go_wp2
       go_meet
       case rel=>exact ⟨_,(true),(by first|rfl|(simp;done)|(simp [*];done)),H',⟨by have:=HJ1.out;first|omega|exact Nat.le_refl _⟩,⟨by (with_reducible repeat (first|refine zbN ?_ _|refine zbD ?_|refine zbA ?_ _));exact BK619.out⟩,⟨by repeat (first|(with_reducible first|exact HB.out|apply zlA|apply zlN|apply zlD|refine zlS ?_ GE619.out)|exact HB.out)⟩⟩
     case rest =>
      clear HC58
      try clear c1
      try clear c2
      try clear p2
      try clear c3
      try clear c4
      try clear c4b0
      try clear c5
      try clear c6
      try clear c7
      try clear c8
      try clear c8b0
      try clear c8b1
      try clear c10
      try clear c10b0
      try clear c10b1
      try clear c11
      try clear c11b0
      try clear c11b1
      try clear c12
      try clear c12b0
      try clear c12b1
      try clear c13
      try clear c13b0
      try clear c13b1
      try clear c13b2
      try clear c17
      try clear c26
      try clear c30
      try clear c35
      try clear c44
      try clear c53
      try clear c60
      try clear c60b0
      try clear c60b1
      try clear c61
      try clear c61b0
      try clear c63
      try clear c63b0
      try clear c65
      try clear c65b0
      try clear c67
      try clear c67b0
      try clear c69
      try clear c69b0
      try clear c69b1
      try clear c71
      try clear c71b0
      try clear c71b1
      try clear c73
      try clear c73b0
      try clear c73b1
      try clear hcz14_0
      try clear hcz14_1
      try clear hcz14_2
      try clear hcz14_3
      try clear hcz14_4
      try clear hcz14_5
      try clear hcz14_6
      try clear hcz18_0
      try clear hcz18_1
      try clear hcz18_2
      try clear hcz18_3
      try clear hcz18_4
      try clear hcz18_5
      try clear hcz18_6
      try clear hcz22_0
      try clear hcz22_1
      try clear hcz22_2
      try clear hcz22_3
      try clear hcz22_4
      try clear hcz22_5
      try clear hcz22_6
      try clear hcz23_0
      try clear hcz23_1
      try clear hcz23_2
      try clear hcz23_3
      try clear hcz23_4
      try clear hcz23_5
      try clear hcz23_6
      try clear hcz27_0
      try clear hcz27_1
      try clear hcz27_2
      try clear hcz27_3
      try clear hcz27_4
      try clear hcz27_5
      try clear hcz27_6
      try clear hcz31_0
      try clear hcz31_1
      try clear hcz31_2
      try clear hcz31_3
      try clear hcz31_4
      try clear hcz31_5
      try clear hcz31_6
      try clear hcz32_0
      try clear hcz32_1
      try clear hcz32_2
      try clear hcz32_3
      try clear hcz32_4
      try clear hcz32_5
      try clear hcz32_6
      try clear hcz36_0
      try clear hcz36_1
      try clear hcz36_2
      try clear hcz36_3
      try clear hcz36_4
      try clear hcz36_5
      try clear hcz36_6
      try clear hcz40_0
      try clear hcz40_1
      try clear hcz40_2
      try clear hcz40_3
      try clear hcz40_4
      try clear hcz40_5
      try clear hcz40_6
      try clear hcz41_0
      try clear hcz41_1
      try clear hcz41_2
      try clear hcz41_3
      try clear hcz41_4
      try clear hcz41_5
      try clear hcz41_6
      try clear hcz45_0
      try clear hcz45_1
      try clear hcz45_2
      try clear hcz45_3
      try clear hcz45_4
      try clear hcz45_5
      try clear hcz45_6
      try clear hcz49_0
      try clear hcz49_1
      try clear hcz49_2
      try clear hcz49_3
      try clear hcz49_4
      try clear hcz49_5
      try clear hcz49_6
      try clear hcz50_0
      try clear hcz50_1
      try clear hcz50_2
      try clear hcz50_3
      try clear hcz50_4
      try clear hcz50_5
      try clear hcz50_6
      try clear hcz54_0
      try clear hcz54_1
      try clear hcz54_2
      try clear hcz54_3
      try clear hcz54_4
      try clear hcz54_5
      try clear hcz54_6
      try clear hcz59_0
      try clear hcz59_1
      try clear hcz59_2
      try clear hcz59_3
      try clear hcz59_4
      try clear hcz59_5
      try clear hcz59_6
      try clear hcz5_0
      try clear hcz5_1
      try clear hcz5_2
      try clear hcz5_3
      try clear hcz5_4
      try clear hcz5_5
      try clear hcz5_6
      try clear hcz62_0
      try clear hcz62_1
      try clear hcz62_2
      try clear hcz62_3
      try clear hcz62_4
      try clear hcz62_5
      try clear hcz62_6
      try clear hcz64_0
      try clear hcz64_1
      try clear hcz64_2
      try clear hcz64_3
      try clear hcz64_4
      try clear hcz64_5
      try clear hcz64_6
      try clear hcz66_0
      try clear hcz66_1
      try clear hcz66_2
      try clear hcz66_3
      try clear hcz66_4
      try clear hcz66_5
      try clear hcz66_6
      try clear hcz68_0
      try clear hcz68_1
      try clear hcz68_2
      try clear hcz68_3
      try clear hcz68_4
      try clear hcz68_5
      try clear hcz68_6
      try clear hcz6_0
      try clear hcz6_1
      try clear hcz6_2
      try clear hcz6_3
      try clear hcz6_4
      try clear hcz6_5
      try clear hcz6_6
      try clear hcz70_0
      try clear hcz70_1
      try clear hcz70_2
      try clear hcz70_3
      try clear hcz70_4
      try clear hcz70_5
      try clear hcz70_6
      try clear hcz72_0
      try clear hcz72_1
      try clear hcz72_2
      try clear hcz72_3
      try clear hcz72_4
      try clear hcz72_5
      try clear hcz72_6
      try clear hcz74_0
      try clear hcz74_1
      try clear hcz74_2
      try clear hcz74_3
      try clear hcz74_4
      try clear hcz74_5
      try clear hcz74_6
      try clear hcz75_0
      try clear hcz75_1
      try clear hcz75_2
      try clear hcz75_3
      try clear hcz75_4
      try clear hcz75_5
      try clear hcz75_6
      try clear hcz76_0
      try clear hcz76_1
      try clear hcz76_2
      try clear hcz76_3
      try clear hcz76_4
      try clear hcz76_5
      try clear hcz76_6
      try clear hfz14_0
      try clear hfz14_1
      try clear hfz14_2
      try clear hfz14_3
      try clear hfz14_4
      try clear hfz14_5
      try clear hfz14_6
      try clear hfz18_0
      try clear hfz18_1
      try clear hfz18_2
      try clear hfz18_3
      try clear hfz18_4
      try clear hfz18_5
      try clear hfz18_6
      try clear hfz22_0
      try clear hfz22_1
      try clear hfz22_2
      try clear hfz22_3
      try clear hfz22_4
      try clear hfz22_5
      try clear hfz22_6
      try clear hfz23_0
      try clear hfz23_1
      try clear hfz23_2
      try clear hfz23_3
      try clear hfz23_4
      try clear hfz23_5
      try clear hfz23_6
      try clear hfz27_0
      try clear hfz27_1
      try clear hfz27_2
      try clear hfz27_3
      try clear hfz27_4
      try clear hfz27_5
      try clear hfz27_6
      try clear hfz31_0
      try clear hfz31_1
      try clear hfz31_2
      try clear hfz31_3
      try clear hfz31_4
      try clear hfz31_5
      try clear hfz31_6
      try clear hfz32_0
      try clear hfz32_1
      try clear hfz32_2
      try clear hfz32_3
      try clear hfz32_4
      try clear hfz32_5
      try clear hfz32_6
      try clear hfz36_0
      try clear hfz36_1
      try clear hfz36_2
      try clear hfz36_3
      try clear hfz36_4
      try clear hfz36_5
      try clear hfz36_6
      try clear hfz40_0
      try clear hfz40_1
      try clear hfz40_2
      try clear hfz40_3
      try clear hfz40_4
      try clear hfz40_5
      try clear hfz40_6
      try clear hfz41_0
      try clear hfz41_1
      try clear hfz41_2
      try clear hfz41_3
      try clear hfz41_4
      try clear hfz41_5
      try clear hfz41_6
      try clear hfz45_0
      try clear hfz45_1
      try clear hfz45_2
      try clear hfz45_3
      try clear hfz45_4
      try clear hfz45_5
      try clear hfz45_6
      try clear hfz49_0
      try clear hfz49_1
      try clear hfz49_2
      try clear hfz49_3
      try clear hfz49_4
      try clear hfz49_5
      try clear hfz49_6
      try clear hfz50_0
      try clear hfz50_1
      try clear hfz50_2
      try clear hfz50_3
      try clear hfz50_4
      try clear hfz50_5
      try clear hfz50_6
      try clear hfz54_0
      try clear hfz54_1
      try clear hfz54_2
      try clear hfz54_3
      try clear hfz54_4
      try clear hfz54_5
      try clear hfz54_6
      try clear hfz59_0
      try clear hfz59_1
      try clear hfz59_2
      try clear hfz59_3
      try clear hfz59_4
      try clear hfz59_5
      try clear hfz59_6
      try clear hfz5_0
      try clear hfz5_1
      try clear hfz5_2
      try clear hfz5_3
      try clear hfz5_4
      try clear hfz5_5
      try clear hfz5_6
      try clear hfz62_0
      try clear hfz62_1
      try clear hfz62_2
      try clear hfz62_3
      try clear hfz62_4
      try clear hfz62_5
      try clear hfz62_6
      try clear hfz64_0
      try clear hfz64_1
      try clear hfz64_2
      try clear hfz64_3
      try clear hfz64_4
      try clear hfz64_5
      try clear hfz64_6
      try clear hfz66_0
      try clear hfz66_1
      try clear hfz66_2
      try clear hfz66_3
      try clear hfz66_4
      try clear hfz66_5
      try clear hfz66_6
      try clear hfz68_0
      try clear hfz68_1
      try clear hfz68_2
      try clear hfz68_3
      try clear hfz68_4
      try clear hfz68_5
      try clear hfz68_6
      try clear hfz6_0
      try clear hfz6_1
      try clear hfz6_2
      try clear hfz6_3
      try clear hfz6_4
      try clear hfz6_5
      try clear hfz6_6
      try clear hfz70_0
      try clear hfz70_1
      try clear hfz70_2
      try clear hfz70_3
      try clear hfz70_4
      try clear hfz70_5
      try clear hfz70_6
      try clear hfz72_0
      try clear hfz72_1
      try clear hfz72_2
      try clear hfz72_3
      try clear hfz72_4
      try clear hfz72_5
      try clear hfz72_6
      try clear hfz74_0
      try clear hfz74_1
      try clear hfz74_2
      try clear hfz74_3
      try clear hfz74_4
      try clear hfz74_5
      try clear hfz74_6
      try clear hfz75_0
      try clear hfz75_1
      try clear hfz75_2
      try clear hfz75_3
      try clear hfz75_4
      try clear hfz75_5
      try clear hfz75_6
      try clear hfz76_0
      try clear hfz76_1
      try clear hfz76_2
      try clear hfz76_3
      try clear hfz76_4
      try clear hfz76_5
      try clear hfz76_6
      try clear p2
      obtain ⟨kq,x98_57,rfl,HA,HJ57,BK619,HB⟩:=hcut
      cases kq with
      | zero=>exact absurd HA.out (by simp [slipwayref06_page.j1])
      | succ kj57 =>
       have H:=HA.out
       clear HA
       simp only [slipwayref06_page.j1] at H
       by_cases c77:x98_57=true
       ·subst c77
        have H1:(some false)=some r:=by rw [if_pos rfl] at H;exact H
        clear H
        have H:=H1
        clear H1
        obtain rfl:=Option.some.inj H
        go_wp2
        go_ret
        exact ⟨by first|rfl|(simp [errW_none,errW_some] <;> rfl)|(simp [*,errW_none,errW_some] <;> rfl),by repeat (first|(with_reducible first|exact HB.out|apply zlA|apply zlN|apply zlD|refine zlS ?_ GE619.out)|exact HB.out)⟩
       ·replace c77:=Bool.eq_false_iff.mpr c77
        subst c77
        have H1:(slipwayref06_page.l0 kj57 0 a0_0 a0_1 a0_2 a0_3 l0_4 l0_5 l0_6)=some r:=by rw [if_neg (show ¬ (false=true) by decide)] at H;exact H
        clear H
        have H:=H1
        clear H1
        have H':=zm H
        clear H
        go_wp2
        go_loopg [5] kj57 (fun kq v5 w'=>∃ (x5_3:Int),v5=.int .i64 x5_3∧Aside0 (slipwayref06_page.l0 kq x5_3 a0_0 a0_1 a0_2 a0_3 l0_4 l0_5 l0_6=some r)∧Aside0 (kq≤kj57)∧Aside0 (w'.heap[gb619]?=some (.cells #[.int .i64 a0_0,.int .i64 a0_1,.int .i64 a0_2,.int .i64 a0_3,(.slice A0_4 l0_4.length c0_4),(.slice A0_5 l0_5.length c0_5),(.slice A0_6 l0_6.length c0_6)] 42 (0,0)))∧Aside0 (Below w.heap.size w w'))
        case atStart=>exact ⟨(0),(by first|rfl|(simp;done)|(simp [*];done)),H',⟨Nat.le_refl _⟩,⟨by (with_reducible repeat (first|refine zbN ?_ _|refine zbD ?_|refine zbA ?_ _));exact BK619.out⟩,⟨by repeat (first|(with_reducible first|exact HB.out|apply zlA|apply zlN|apply zlD|refine zlS ?_ GE619.out)|exact HB.out)⟩⟩
        case round =>
         clear H'
         try clear c1
         try clear c2
         try clear p2
         try clear c3
         try clear c4
         try clear c4b0
         try clear c5
         try clear c6
         try clear c7
         try clear c8
         try clear c8b0
         try clear c8b1
         try clear c10
         try clear c10b0
         try clear c10b1
         try clear c11
         try clear c11b0
         try clear c11b1
         try clear c12
         try clear c12b0
         try clear c12b1
         try clear c13
         try clear c13b0
         try clear c13b1
         try clear c13b2
         try clear c17
         try clear c26
         try clear c30
         try clear c35
         try clear c44
         try clear c53
         try clear c60
         try clear c60b0
         try clear c60b1
         try clear c61
         try clear c61b0
         try clear c63
         try clear c63b0
         try clear c65
         try clear c65b0
         try clear c67
         try clear c67b0
         try clear c69
         try clear c69b0
         try clear c69b1
         try clear c71
         try clear c71b0
         try clear c71b1
         try clear c73
         try clear c73b0
         try clear c73b1
         try clear c77
         try clear hcz14_0
         try clear hcz14_1
         try clear hcz14_2
         try clear hcz14_3
         try clear hcz14_4
         try clear hcz14_5
         try clear hcz14_6
         try clear hcz18_0
         try clear hcz18_1
         try clear hcz18_2
         try clear hcz18_3
         try clear hcz18_4
         try clear hcz18_5
         try clear hcz18_6
         try clear hcz22_0
         try clear hcz22_1
         try clear hcz22_2
         try clear hcz22_3
         try clear hcz22_4
         try clear hcz22_5
         try clear hcz22_6
         try clear hcz23_0
         try clear hcz23_1
         try clear hcz23_2
         try clear hcz23_3
         try clear hcz23_4
         try clear hcz23_5
         try clear hcz23_6
         try clear hcz27_0
         try clear hcz27_1
         try clear hcz27_2
         try clear hcz27_3
         try clear hcz27_4
         try clear hcz27_5
         try clear hcz27_6
         try clear hcz31_0
         try clear hcz31_1
         try clear hcz31_2
         try clear hcz31_3
         try clear hcz31_4
         try clear hcz31_5
         try clear hcz31_6
         try clear hcz32_0
         try clear hcz32_1
         try clear hcz32_2
         try clear hcz32_3
         try clear hcz32_4
         try clear hcz32_5
         try clear hcz32_6
         try clear hcz36_0
         try clear hcz36_1
         try clear hcz36_2
         try clear hcz36_3
         try clear hcz36_4
         try clear hcz36_5
         try clear hcz36_6
         try clear hcz40_0
         try clear hcz40_1
         try clear hcz40_2
         try clear hcz40_3
         try clear hcz40_4
         try clear hcz40_5
         try clear hcz40_6
         try clear hcz41_0
         try clear hcz41_1
         try clear hcz41_2
         try clear hcz41_3
         try clear hcz41_4
         try clear hcz41_5
         try clear hcz41_6
         try clear hcz45_0
         try clear hcz45_1
         try clear hcz45_2
         try clear hcz45_3
         try clear hcz45_4
         try clear hcz45_5
         try clear hcz45_6
         try clear hcz49_0
         try clear hcz49_1
         try clear hcz49_2
         try clear hcz49_3
         try clear hcz49_4
         try clear hcz49_5
         try clear hcz49_6
         try clear hcz50_0
         try clear hcz50_1
         try clear hcz50_2
         try clear hcz50_3
         try clear hcz50_4
         try clear hcz50_5
         try clear hcz50_6
         try clear hcz54_0
         try clear hcz54_1
         try clear hcz54_2
         try clear hcz54_3
         try clear hcz54_4
         try clear hcz54_5
         try clear hcz54_6
         try clear hcz59_0
         try clear hcz59_1
         try clear hcz59_2
         try clear hcz59_3
         try clear hcz59_4
         try clear hcz59_5
         try clear hcz59_6
         try clear hcz5_0
         try clear hcz5_1
         try clear hcz5_2
         try clear hcz5_3
         try clear hcz5_4
         try clear hcz5_5
         try clear hcz5_6
         try clear hcz62_0
         try clear hcz62_1
         try clear hcz62_2
         try clear hcz62_3
         try clear hcz62_4
         try clear hcz62_5
         try clear hcz62_6
         try clear hcz64_0
         try clear hcz64_1
         try clear hcz64_2
         try clear hcz64_3
         try clear hcz64_4
         try clear hcz64_5
         try clear hcz64_6
         try clear hcz66_0
         try clear hcz66_1
         try clear hcz66_2
         try clear hcz66_3
         try clear hcz66_4
         try clear hcz66_5
         try clear hcz66_6
         try clear hcz68_0
         try clear hcz68_1
         try clear hcz68_2
         try clear hcz68_3
         try clear hcz68_4
         try clear hcz68_5
         try clear hcz68_6
         try clear hcz6_0
         try clear hcz6_1
         try clear hcz6_2
         try clear hcz6_3
         try clear hcz6_4
         try clear hcz6_5
         try clear hcz6_6
         try clear hcz70_0
         try clear hcz70_1
         try clear hcz70_2
         try clear hcz70_3
         try clear hcz70_4
         try clear hcz70_5
         try clear hcz70_6
         try clear hcz72_0
         try clear hcz72_1
         try clear hcz72_2
         try clear hcz72_3
         try clear hcz72_4
         try clear hcz72_5
         try clear hcz72_6
         try clear hcz74_0
         try clear hcz74_1
         try clear hcz74_2
         try clear hcz74_3
         try clear hcz74_4
         try clear hcz74_5
         try clear hcz74_6
         try clear hcz75_0
         try clear hcz75_1
         try clear hcz75_2
         try clear hcz75_3
         try clear hcz75_4
         try clear hcz75_5
         try clear hcz75_6
         try clear hcz76_0
         try clear hcz76_1
         try clear hcz76_2
         try clear hcz76_3
         try clear hcz76_4
         try clear hcz76_5
         try clear hcz76_6
         try clear hfz14_0
         try clear hfz14_1
         try clear hfz14_2
         try clear hfz14_3
         try clear hfz14_4
         try clear hfz14_5
         try clear hfz14_6
         try clear hfz18_0
         try clear hfz18_1
         try clear hfz18_2
         try clear hfz18_3
         try clear hfz18_4
         try clear hfz18_5
         try clear hfz18_6
         try clear hfz22_0
         try clear hfz22_1
         try clear hfz22_2
         try clear hfz22_3
         try clear hfz22_4
         try clear hfz22_5
         try clear hfz22_6
         try clear hfz23_0
         try clear hfz23_1
         try clear hfz23_2
         try clear hfz23_3
         try clear hfz23_4
         try clear hfz23_5
         try clear hfz23_6
         try clear hfz27_0
         try clear hfz27_1
         try clear hfz27_2
         try clear hfz27_3
         try clear hfz27_4
         try clear hfz27_5
         try clear hfz27_6
         try clear hfz31_0
         try clear hfz31_1
         try clear hfz31_2
         try clear hfz31_3
         try clear hfz31_4
         try clear hfz31_5
         try clear hfz31_6
         try clear hfz32_0
         try clear hfz32_1
         try clear hfz32_2
         try clear hfz32_3
         try clear hfz32_4
         try clear hfz32_5
         try clear hfz32_6
         try clear hfz36_0
         try clear hfz36_1
         try clear hfz36_2
         try clear hfz36_3
         try clear hfz36_4
         try clear hfz36_5
         try clear hfz36_6
         try clear hfz40_0
         try clear hfz40_1
         try clear hfz40_2
         try clear hfz40_3
         try clear hfz40_4
         try clear hfz40_5
         try clear hfz40_6
         try clear hfz41_0
         try clear hfz41_1
         try clear hfz41_2
         try clear hfz41_3
         try clear hfz41_4
         try clear hfz41_5
         try clear hfz41_6
         try clear hfz45_0
         try clear hfz45_1
         try clear hfz45_2
         try clear hfz45_3
         try clear hfz45_4
         try clear hfz45_5
         try clear hfz45_6
         try clear hfz49_0
         try clear hfz49_1
         try clear hfz49_2
         try clear hfz49_3
         try clear hfz49_4
         try clear hfz49_5
         try clear hfz49_6
         try clear hfz50_0
         try clear hfz50_1
         try clear hfz50_2
         try clear hfz50_3
         try clear hfz50_4
         try clear hfz50_5
         try clear hfz50_6
         try clear hfz54_0
         try clear hfz54_1
         try clear hfz54_2
         try clear hfz54_3
         try clear hfz54_4
         try clear hfz54_5
         try clear hfz54_6
         try clear hfz59_0
         try clear hfz59_1
         try clear hfz59_2
         try clear hfz59_3
         try clear hfz59_4
         try clear hfz59_5
         try clear hfz59_6
         try clear hfz5_0
         try clear hfz5_1
         try clear hfz5_2
         try clear hfz5_3
         try clear hfz5_4
         try clear hfz5_5
         try clear hfz5_6
         try clear hfz62_0
         try clear hfz62_1
         try clear hfz62_2
         try clear hfz62_3
         try clear hfz62_4
         try clear hfz62_5
         try clear hfz62_6
         try clear hfz64_0
         try clear hfz64_1
         try clear hfz64_2
         try clear hfz64_3
         try clear hfz64_4
         try clear hfz64_5
         try clear hfz64_6
         try clear hfz66_0
         try clear hfz66_1
         try clear hfz66_2
         try clear hfz66_3
         try clear hfz66_4
         try clear hfz66_5
         try clear hfz66_6
         try clear hfz68_0
         try clear hfz68_1
         try clear hfz68_2
         try clear hfz68_3
         try clear hfz68_4
         try clear hfz68_5
         try clear hfz68_6
         try clear hfz6_0
         try clear hfz6_1
         try clear hfz6_2
         try clear hfz6_3
         try clear hfz6_4
         try clear hfz6_5
         try clear hfz6_6
         try clear hfz70_0
         try clear hfz70_1
         try clear hfz70_2
         try clear hfz70_3
         try clear hfz70_4
         try clear hfz70_5
         try clear hfz70_6
         try clear hfz72_0
         try clear hfz72_1
         try clear hfz72_2
         try clear hfz72_3
         try clear hfz72_4
         try clear hfz72_5
         try clear hfz72_6
         try clear hfz74_0
         try clear hfz74_1
         try clear hfz74_2
         try clear hfz74_3
         try clear hfz74_4
         try clear hfz74_5
         try clear hfz74_6
         try clear hfz75_0
         try clear hfz75_1
         try clear hfz75_2
         try clear hfz75_3
         try clear hfz75_4
         try clear hfz75_5
         try clear hfz75_6
         try clear hfz76_0
         try clear hfz76_1
         try clear hfz76_2
         try clear hfz76_3
         try clear hfz76_4
         try clear hfz76_5
         try clear hfz76_6
         try clear p2
         obtain ⟨x5_3,rfl,HA,HK3,BK619,HB⟩:=hrel
         cases gk with
         | zero=>exact absurd HA.out (by simp [slipwayref06_page.l0])
         | succ k3 =>
          have H:=HA.out
          clear HA
          simp only [slipwayref06_page.l0] at H
          by_cases c78:x5_3 < (l0_5.length:Int)
          ·rw [if_pos c78] at H
           have c78b0:decide (x5_3 < (l0_5.length:Int))=true:=decide_eq_true c78
           clear c78
           by_cases c79:0≤x5_3
           ·rw [if_pos c79] at H
            have c79b0:decide (0≤x5_3)=true:=decide_eq_true c79
            clear c79
            by_cases c80:(rd l0_5 x5_3) < 0
            ·rw [if_pos c80] at H
             have c80b0:decide ((rd l0_5 x5_3) < 0)=true:=decide_eq_true c80
             clear c80
             obtain rfl:=Option.some.inj H
             have hcz81_0:wr.cell? ⟨gb619,0,none⟩=some (.int .i64 a0_0):=(blk_cell BK619.out 0).trans rfl
             have hcz81_1:wr.cell? ⟨gb619,1,none⟩=some (.int .i64 a0_1):=(blk_cell BK619.out 1).trans rfl
             have hcz81_2:wr.cell? ⟨gb619,2,none⟩=some (.int .i64 a0_2):=(blk_cell BK619.out 2).trans rfl
             have hcz81_3:wr.cell? ⟨gb619,3,none⟩=some (.int .i64 a0_3):=(blk_cell BK619.out 3).trans rfl
             have hcz81_4:wr.cell? ⟨gb619,4,none⟩=some (.slice A0_4 l0_4.length c0_4):=(blk_cell BK619.out 4).trans rfl
             have hcz81_5:wr.cell? ⟨gb619,5,none⟩=some (.slice A0_5 l0_5.length c0_5):=(blk_cell BK619.out 5).trans rfl
             have hcz81_6:wr.cell? ⟨gb619,6,none⟩=some (.slice A0_6 l0_6.length c0_6):=(blk_cell BK619.out 6).trans rfl
             have hfz81_0:=blk_frozen BK619.out 0
             have hfz81_1:=blk_frozen BK619.out 1
             have hfz81_2:=blk_frozen BK619.out 2
             have hfz81_3:=blk_frozen BK619.out 3
             have hfz81_4:=blk_frozen BK619.out 4
             have hfz81_5:=blk_frozen BK619.out 5
             have hfz81_6:=blk_frozen BK619.out 6
             have p635:0≤(x5_3:Int):=of_decide_eq_true (by first|(with_reducible assumption)|assumption)
             have q635:x5_3 < (l0_5.length:Int):=of_decide_eq_true (by first|(with_reducible assumption)|assumption)
             obtain ⟨ad635,e635,hx635_0⟩:=Kd.at_int HR0_5.out x5_3 p635 q635
             cases e635
             replace hx635_0:=(HB.out.cell (World.block_lt_of_cell? w _ hx635_0)).trans hx635_0
             replace p635:=eq_true p635
             replace q635:=eq_true q635
             go_wp2
             go_ret
             exact ⟨by first|rfl|(simp [errW_none,errW_some] <;> rfl)|(simp [*,errW_none,errW_some] <;> rfl),by repeat (first|(with_reducible first|exact HB.out|apply zlA|apply zlN|apply zlD|refine zlS ?_ GE619.out)|exact HB.out)⟩
            ·rw [if_neg c80] at H
             have c80b0:decide ((rd l0_5 x5_3) < 0)=false:=decide_eq_false c80
             clear c80
             by_cases c82:(rd l0_5 x5_3) > 16777215
             ·rw [if_pos c82] at H
              have c82b0:decide (16777215 < (rd l0_5 x5_3))=true:=decide_eq_true c82
              clear c82
              obtain rfl:=Option.some.inj H
              have hcz83_0:wr.cell? ⟨gb619,0,none⟩=some (.int .i64 a0_0):=(blk_cell BK619.out 0).trans rfl
              have hcz83_1:wr.cell? ⟨gb619,1,none⟩=some (.int .i64 a0_1):=(blk_cell BK619.out 1).trans rfl
              have hcz83_2:wr.cell? ⟨gb619,2,none⟩=some (.int .i64 a0_2):=(blk_cell BK619.out 2).trans rfl
              have hcz83_3:wr.cell? ⟨gb619,3,none⟩=some (.int .i64 a0_3):=(blk_cell BK619.out 3).trans rfl
              have hcz83_4:wr.cell? ⟨gb619,4,none⟩=some (.slice A0_4 l0_4.length c0_4):=(blk_cell BK619.out 4).trans rfl
              have hcz83_5:wr.cell? ⟨gb619,5,none⟩=some (.slice A0_5 l0_5.length c0_5):=(blk_cell BK619.out 5).trans rfl
              have hcz83_6:wr.cell? ⟨gb619,6,none⟩=some (.slice A0_6 l0_6.length c0_6):=(blk_cell BK619.out 6).trans rfl
              have hfz83_0:=blk_frozen BK619.out 0
              have hfz83_1:=blk_frozen BK619.out 1
              have hfz83_2:=blk_frozen BK619.out 2
              have hfz83_3:=blk_frozen BK619.out 3
              have hfz83_4:=blk_frozen BK619.out 4
              have hfz83_5:=blk_frozen BK619.out 5
              have hfz83_6:=blk_frozen BK619.out 6
              have p635:0≤(x5_3:Int):=of_decide_eq_true (by first|(with_reducible assumption)|assumption)
              have q635:x5_3 < (l0_5.length:Int):=of_decide_eq_true (by first|(with_reducible assumption)|assumption)
              obtain ⟨ad635,e635,hx635_0⟩:=Kd.at_int HR0_5.out x5_3 p635 q635
              cases e635
              replace hx635_0:=(HB.out.cell (World.block_lt_of_cell? w _ hx635_0)).trans hx635_0
              replace p635:=eq_true p635
              replace q635:=eq_true q635
              have p636:0≤(x5_3:Int):=of_decide_eq_true (by first|(with_reducible assumption)|assumption)
              have q636:x5_3 < (l0_5.length:Int):=of_decide_eq_true (by first|(with_reducible assumption)|assumption)
              obtain ⟨ad636,e636,hx636_0⟩:=Kd.at_int HR0_5.out x5_3 p636 q636
              obtain rfl:ad635=ad636:=(by injection e636)
              replace hx636_0:=(HB.out.cell (World.block_lt_of_cell? w _ hx636_0)).trans hx636_0
              replace p636:=eq_true p636
              replace q636:=eq_true q636
              go_wp2
              go_ret
              exact ⟨by first|rfl|(simp [errW_none,errW_some] <;> rfl)|(simp [*,errW_none,errW_some] <;> rfl),by repeat (first|(with_reducible first|exact HB.out|apply zlA|apply zlN|apply zlD|refine zlS ?_ GE619.out)|exact HB.out)⟩
             ·rw [if_neg c82] at H
              have c82b0:decide (16777215 < (rd l0_5 x5_3))=false:=decide_eq_false c82
              clear c82
              have H':=zm H
              clear H
              have hcz84_0:wr.cell? ⟨gb619,0,none⟩=some (.int .i64 a0_0):=(blk_cell BK619.out 0).trans rfl
              have hcz84_1:wr.cell? ⟨gb619,1,none⟩=some (.int .i64 a0_1):=(blk_cell BK619.out 1).trans rfl
              have hcz84_2:wr.cell? ⟨gb619,2,none⟩=some (.int .i64 a0_2):=(blk_cell BK619.out 2).trans rfl
              have hcz84_3:wr.cell? ⟨gb619,3,none⟩=some (.int .i64 a0_3):=(blk_cell BK619.out 3).trans rfl
              have hcz84_4:wr.cell? ⟨gb619,4,none⟩=some (.slice A0_4 l0_4.length c0_4):=(blk_cell BK619.out 4).trans rfl
              have hcz84_5:wr.cell? ⟨gb619,5,none⟩=some (.slice A0_5 l0_5.length c0_5):=(blk_cell BK619.out 5).trans rfl
              have hcz84_6:wr.cell? ⟨gb619,6,none⟩=some (.slice A0_6 l0_6.length c0_6):=(blk_cell BK619.out 6).trans rfl
              have hfz84_0:=blk_frozen BK619.out 0
              have hfz84_1:=blk_frozen BK619.out 1
              have hfz84_2:=blk_frozen BK619.out 2
              have hfz84_3:=blk_frozen BK619.out 3
              have hfz84_4:=blk_frozen BK619.out 4
              have hfz84_5:=blk_frozen BK619.out 5
              have hfz84_6:=blk_frozen BK619.out 6
              have p635:0≤(x5_3:Int):=of_decide_eq_true (by first|(with_reducible assumption)|assumption)
              have q635:x5_3 < (l0_5.length:Int):=of_decide_eq_true (by first|(with_reducible assumption)|assumption)
              obtain ⟨ad635,e635,hx635_0⟩:=Kd.at_int HR0_5.out x5_3 p635 q635
              cases e635
              replace hx635_0:=(HB.out.cell (World.block_lt_of_cell? w _ hx635_0)).trans hx635_0
              replace p635:=eq_true p635
              replace q635:=eq_true q635
              have p636:0≤(x5_3:Int):=of_decide_eq_true (by first|(with_reducible assumption)|assumption)
              have q636:x5_3 < (l0_5.length:Int):=of_decide_eq_true (by first|(with_reducible assumption)|assumption)
              obtain ⟨ad636,e636,hx636_0⟩:=Kd.at_int HR0_5.out x5_3 p636 q636
              obtain rfl:ad635=ad636:=(by injection e636)
              replace hx636_0:=(HB.out.cell (World.block_lt_of_cell? w _ hx636_0)).trans hx636_0
              replace p636:=eq_true p636
              replace q636:=eq_true q636
              go_wp2
              go_roundg k3
              case measure=>have:=HJ1.out;have:=HJ57.out;have:=HK3.out;omega
              case rel=>exact ⟨(wrap64 (x5_3 + 1)),(by first|rfl|(simp;done)|(simp [*];done)),H',⟨by have:=HJ1.out;have:=HJ57.out;have:=HK3.out;omega⟩,⟨by (with_reducible repeat (first|refine zbN ?_ _|refine zbD ?_|refine zbA ?_ _));exact BK619.out⟩,⟨by repeat (first|(with_reducible first|exact HB.out|apply zlA|apply zlN|apply zlD|refine zlS ?_ GE619.out)|exact HB.out)⟩⟩
           ·rw [if_neg c79] at H
            exact absurd H (by simp)
          ·rw [if_neg c78] at H
           have c78b0:decide (x5_3 < (l0_5.length:Int))=false:=decide_eq_false c78
           clear c78
           obtain rfl:=Option.some.inj H
           have hcz85_0:wr.cell? ⟨gb619,0,none⟩=some (.int .i64 a0_0):=(blk_cell BK619.out 0).trans rfl
           have hcz85_1:wr.cell? ⟨gb619,1,none⟩=some (.int .i64 a0_1):=(blk_cell BK619.out 1).trans rfl
           have hcz85_2:wr.cell? ⟨gb619,2,none⟩=some (.int .i64 a0_2):=(blk_cell BK619.out 2).trans rfl
           have hcz85_3:wr.cell? ⟨gb619,3,none⟩=some (.int .i64 a0_3):=(blk_cell BK619.out 3).trans rfl
           have hcz85_4:wr.cell? ⟨gb619,4,none⟩=some (.slice A0_4 l0_4.length c0_4):=(blk_cell BK619.out 4).trans rfl
           have hcz85_5:wr.cell? ⟨gb619,5,none⟩=some (.slice A0_5 l0_5.length c0_5):=(blk_cell BK619.out 5).trans rfl
           have hcz85_6:wr.cell? ⟨gb619,6,none⟩=some (.slice A0_6 l0_6.length c0_6):=(blk_cell BK619.out 6).trans rfl
           have hfz85_0:=blk_frozen BK619.out 0
           have hfz85_1:=blk_frozen BK619.out 1
           have hfz85_2:=blk_frozen BK619.out 2
           have hfz85_3:=blk_frozen BK619.out 3
           have hfz85_4:=blk_frozen BK619.out 4
           have hfz85_5:=blk_frozen BK619.out 5
           have hfz85_6:=blk_frozen BK619.out 6
           go_wp2
           go_ret
           exact ⟨by first|rfl|(simp [errW_none,errW_some] <;> rfl)|(simp [*,errW_none,errW_some] <;> rfl),by repeat (first|(with_reducible first|exact HB.out|apply zlA|apply zlN|apply zlD|refine zlS ?_ GE619.out)|exact HB.out)⟩
end Go.Proofs.Ytkhbmgclklmimaa.Print
end
section
namespace Go.Proofs.Ytkhbmgclklmimaa.Print
open Go.RowKit Go.Proofs.YtkhbmgclklmimaaW.PrintWords Go.Proofs.YtkhbmgclklmimaaW.PrintLast Go.Proofs.YtkhbmgclklmimaaW.PrintMore
attribute [local go_sem] max2_int min2_int max_two min_two max_three min_three max_four min_four   -- for this text's walks alone
attribute [local go_sem ↓] Go.Proofs.Ytkhbmgclklmimaa.Sem.isSome_setCell
attribute [local go_sem] Go.Instr.field Go.asAgg
set_option linter.unusedVariables false
set_option linter.unusedSimpArgs false
mutual
def slipwayref06_know.l0:Nat → Int → List Bool → List Int → Int → Int → Int → Int → Int → List Bool → List Int → List (S55) → Option (List Bool × List Int × Int)
 | 0,_,_,_,_,_,_,_,_,_,_,_=>none
 | k + 1,x5,x638000,x638001,x638002,x639000,x639001,x639002,x639003,x639004,x639005,x639006=>if x5 < (x639004.length:Int) then (slipwayref06_know.j1 k x5 (decide (x5 < (x639005.length:Int))) x638000 x638001 x638002 x639000 x639001 x639002 x639003 x639004 x639005 x639006) else (slipwayref06_know.j1 k x5 false x638000 x638001 x638002 x639000 x639001 x639002 x639003 x639004 x639005 x639006)
def slipwayref06_know.j1:Nat → Int → Bool → List Bool → List Int → Int → Int → Int → Int → Int → List Bool → List Int → List (S55) → Option (List Bool × List Int × Int)
 | 0,_,_,_,_,_,_,_,_,_,_,_,_=>none
 | k + 1,x5,x19,x638000,x638001,x638002,x639000,x639001,x639002,x639003,x639004,x639005,x639006=>if x19=true then (if (wrap64 ((wrap64 (x639002 * 64)) + x5)) < (x638000.length:Int) then (if (wrap64 ((wrap64 (x639002 * 64)) + x5)) < (x638001.length:Int) then (if 0≤(wrap64 ((wrap64 (x639002 * 64)) + x5)) then (if rdOf false x638000 (wrap64 ((wrap64 (x639002 * 64)) + x5))=true then (if 0≤x5 then (if x5 < (x639005.length:Int) then (slipwayref06_know.l0 k (wrap64 (x5 + 1)) (x638000.set ((wrap64 ((wrap64 (x639002 * 64)) + x5)):Int).toNat true) (x638001.set ((wrap64 ((wrap64 (x639002 * 64)) + x5)):Int).toNat (mx (rd x638001 (wrap64 ((wrap64 (x639002 * 64)) + x5))) (rd x639005 x5))) x638002 x639000 x639001 x639002 x639003 x639004 x639005 x639006) else (none)) else (none)) else (if 0≤x5 then (if x5 < (x639004.length:Int) then (if x5 < (x639005.length:Int) then (slipwayref06_know.l0 k (wrap64 (x5 + 1)) (x638000.set ((wrap64 ((wrap64 (x639002 * 64)) + x5)):Int).toNat (rdOf false x639004 x5)) (x638001.set ((wrap64 ((wrap64 (x639002 * 64)) + x5)):Int).toNat (mx (rd x638001 (wrap64 ((wrap64 (x639002 * 64)) + x5))) (rd x639005 x5))) x638002 x639000 x639001 x639002 x639003 x639004 x639005 x639006) else (none)) else (none)) else (none))) else (none)) else (slipwayref06_know.l0 k (wrap64 (x5 + 1)) x638000 x638001 x638002 x639000 x639001 x639002 x639003 x639004 x639005 x639006)) else (slipwayref06_know.l0 k (wrap64 (x5 + 1)) x638000 x638001 x638002 x639000 x639001 x639002 x639003 x639004 x639005 x639006)) else (slipwayref06_know.l1 k 0 x638000 x638001 (mx x638002 x639003) x639000 x639001 x639002 x639003 x639004 x639005 x639006)
def slipwayref06_know.l1:Nat → Int → List Bool → List Int → Int → Int → Int → Int → Int → List Bool → List Int → List (S55) → Option (List Bool × List Int × Int)
 | 0,_,_,_,_,_,_,_,_,_,_,_=>none
 | k + 1,x7,x638000,x638001,x638002,x639000,x639001,x639002,x639003,x639004,x639005,x639006=>if x7 < (x639006.length:Int) then (if 0≤x7 then (if ((rd_T55 x639006 x7).f1) < (x638000.length:Int) then ((slipwayref06_one.f x638000 x638001 x638002 ((rd_T55 x639006 x7).f0) ((rd_T55 x639006 x7).f1) ((rd_T55 x639006 x7).f2)).bind fun bt652=>(slipwayref06_know.l1 k (wrap64 (x7 + 1)) bt652.1 bt652.2.1 bt652.2.2 x639000 x639001 x639002 x639003 x639004 x639005 x639006)) else (slipwayref06_know.l1 k (wrap64 (x7 + 1)) x638000 x638001 x638002 x639000 x639001 x639002 x639003 x639004 x639005 x639006)) else (none)) else (some (x638000,x638001,x638002))
end
def slipwayref06_know.f (k:Nat) (l0_0:List Bool) (l0_1:List Int) (a0_2:Int) (a1_0:Int) (a1_1:Int) (a1_2:Int) (a1_3:Int) (l1_4:List Bool) (l1_5:List Int) (l1_6:List (S55)):Option (List Bool × List Int × Int):=slipwayref06_know.l0 k 0 l0_0 l0_1 a0_2 a1_0 a1_1 a1_2 a1_3 l1_4 l1_5 l1_6
def slipwayref06_know.T6:Bool × List (List Nat × List Nat):=(true,[([],[]),([0],[0]),([],[]),([],[]),([3],[3]),([],[]),([4,5],[4,5]),([6],[6]),([7],[7]),([8],[8]),([9,8],[8,9]),([8],[8]),([10,11,8],[8,10,11]),([12,8],[8,12]),([8,13],[8,13]),([1,2,0,1,2,3,4,5,6,7,8,9,10,11,12,13,14],[1,2]),([15,14,8,0,1,2,3,4,5,6,7,8,9,10,11,12,13,14],[14,15])])
def slipwayref06_know.B6:List Nat:=[0,1,0,0,8,0,56,120,248,504,1016,504,4088,8184,16376,32767,65535]
theorem slipwayref06_know.tab6:rtab .any (opsOf Try.f74 6)=slipwayref06_know.T6:=by kernel_rfl
theorem slipwayref06_know.bits6:waitsOk slipwayref06_know.T6.2 slipwayref06_know.B6=true:=by kernel_rfl
def slipwayref06_know.T7:Bool × List (List Nat × List Nat):=(true,[([],[]),([0],[0]),([],[]),([],[]),([3],[3]),([],[]),([4,5],[4,5]),([6],[6]),([],[]),([8],[8]),([],[]),([9,10],[9,10]),([11],[11]),([7,12],[7,12]),([1,2,0,1,2,3,4,5,6,7,8,9,10,11,12,13],[1,2]),([14,13,0,1,2,3,4,5,6,7,8,9,10,11,12,13],[13,14])])
def slipwayref06_know.B7:List Nat:=[0,1,0,0,8,0,56,120,0,256,0,1792,3840,8184,16383,32767]
theorem slipwayref06_know.tab7:rtab .any (opsOf Try.f74 7)=slipwayref06_know.T7:=by kernel_rfl
theorem slipwayref06_know.bits7:waitsOk slipwayref06_know.T7.2 slipwayref06_know.B7=true:=by kernel_rfl
def slipwayref06_know.T12:Bool × List (List Nat × List Nat):=(true,[([],[]),([0],[0]),([],[]),([1,2],[1,2]),([3],[3]),([4],[4]),([],[]),([6],[6]),([7],[7]),([5,8],[5,8])])
def slipwayref06_know.B12:List Nat:=[0,1,0,7,15,31,0,64,192,511]
theorem slipwayref06_know.tab12:rtab .any (opsOf Try.f74 12)=slipwayref06_know.T12:=by kernel_rfl
theorem slipwayref06_know.bits12:waitsOk slipwayref06_know.T12.2 slipwayref06_know.B12=true:=by kernel_rfl
def slipwayref06_know.T13:Bool × List (List Nat × List Nat):=(true,[([],[]),([],[]),([1],[1]),([],[]),([2,3],[2,3]),([4],[4]),([0,5],[0,5]),([6,6,0,1,2,3,4,5,6],[6])])
def slipwayref06_know.B13:List Nat:=[0,0,2,0,14,30,63,127]
theorem slipwayref06_know.tab13:rtab .any (opsOf Try.f74 13)=slipwayref06_know.T13:=by kernel_rfl
theorem slipwayref06_know.bits13:waitsOk slipwayref06_know.T13.2 slipwayref06_know.B13=true:=by kernel_rfl
set_option maxHeartbeats 8000000 in
set_option maxRecDepth 100000 in
theorem slipwayref06_know.calls (k:Nat) (P0_0_:Nat → Prop) (u9000_:Value) (l0_0:List Bool) (P0_1_:Nat → Prop) (u9001_:Value) (l0_1:List Int) (a0_2:Int) (a1_0:Int) (a1_1:Int) (a1_2:Int) (a1_3:Int) (A1_4:Option Addr) (c1_4:Nat) (l1_4:List Bool) (A1_5:Option Addr) (c1_5:Nat) (l1_5:List Int) (A1_6:Option Addr) (c1_6:Nat) (l1_6:List (S55)) (r1:List Bool) (r2:List Int) (r3:Int) (w0 w:World) (hB:Below w0.heap.size w0 w) (ho0_0:Kd.R Kd.bool 4 w w0.heap.size P0_0_ u9000_ l0_0) (ho0_1:Kd.R (Kd.int .i64) 2 w w0.heap.size P0_1_ u9001_ l0_1) (hr1_4:∀ W_,Kept w W_ (fun k_=>P0_0_ k_∨P0_1_ k_) → Kd.C Kd.bool W_ A1_4 l1_4.length l1_4) (hc1_4:l1_4.length≤c1_4) (hr1_5:∀ W_,Kept w W_ (fun k_=>P0_0_ k_∨P0_1_ k_) → Kd.C (Kd.int .i64) W_ A1_5 l1_5.length l1_5) (hc1_5:l1_5.length≤c1_5) (hr1_6:∀ W_,Kept w W_ (fun k_=>P0_0_ k_∨P0_1_ k_) → Kd.C k55 W_ A1_6 l1_6.length l1_6) (hc1_6:l1_6.length≤c1_6) (h:slipwayref06_know.f k l0_0 l0_1 a0_2 a1_0 a1_1 a1_2 a1_3 l1_4 l1_5 l1_6=some (r1,r2,r3)) :
  Calls Try.prog 74 #[.agg #[u9000_,u9001_,.int .i64 a0_2],.agg #[.int .i64 a1_0,.int .i64 a1_1,.int .i64 a1_2,.int .i64 a1_3,.slice A1_4 l1_4.length c1_4,.slice A1_5 l1_5.length c1_5,.slice A1_6 l1_6.length c1_6]] w fun e w'=>∃ v0_ v1_:Value,e=.returned (.agg #[v0_,v1_,.int .i64 r3])∧Kd.R Kd.bool 4 w' w0.heap.size (fun k_=>((P0_0_ k_∨P0_1_ k_)∨w.heap.size≤k_)) v0_ r1∧Kd.R (Kd.int .i64) 2 w' w0.heap.size (fun k_=>((P0_0_ k_∨P0_1_ k_)∨w.heap.size≤k_)) v1_ r2∧Below w0.heap.size w0 w'∧Kept w w' (fun k_=>P0_0_ k_∨P0_1_ k_):=by
 have hu25:=Try.underlying25
 have hu42:=Try.underlying42
 have hu55:=Try.underlying55
 have HO0_0:=zm (show Kd.R Kd.bool 4 w w0.heap.size (fun k_=>((P0_0_ k_∨P0_1_ k_)∨w.heap.size≤k_)) u9000_ l0_0 from Kd.R_mono ho0_0 (fun k_ hk=>(.inl (.inl hk))))
 have HO0_1:=zm (show Kd.R (Kd.int .i64) 2 w w0.heap.size (fun k_=>((P0_0_ k_∨P0_1_ k_)∨w.heap.size≤k_)) u9001_ l0_1 from Kd.R_mono ho0_1 (fun k_ hk=>(.inl (.inr hk))))
 have HR1_4:=zm hr1_4
 have HC1_4:=zm hc1_4
 clear hr1_4 hc1_4
 have HR1_5:=zm hr1_5
 have HC1_5:=zm hc1_5
 clear hr1_5 hc1_5
 have HR1_6:=zm hr1_6
 have HC1_6:=zm hc1_6
 clear hr1_6 hc1_6
 have HK:=zm (Kept.refl w (fun k_=>P0_0_ k_∨P0_1_ k_))
 have HW0:=zm hB.size
 have HB:=zm hB
 clear hB
 have H:(slipwayref06_know.l0 k 0 l0_0 l0_1 a0_2 a1_0 a1_1 a1_2 a1_3 l1_4 l1_5 l1_6)=some (r1,r2,r3):=h
 clear h
 have H':=zm H
 clear H
 obtain ⟨Ao3,co3,eo3⟩:=Kd.R_slice HO0_0.out
 subst eo3
 obtain ⟨Ao4,co4,eo4⟩:=Kd.R_slice HO0_1.out
 subst eo4
 go_enter Try.func74,Try.ntmps74
 go_wp2_with (first|((with_reducible refine gate_dst (N:=2) rfl ?_);(try (refine gate_guard (by rfl) ?_;dsimp only));refine box_event ?hg (N:=2) ?hd (cs:=#[.slice Ao3 l0_0.length co3,.slice Ao4 l0_1.length co4,.int .i64 a0_2]) (t:=25) ?hr ?_;(case hd=>rfl);(case hg=>rfl);(case hr=>first|(go_simp;done)|(go_simp;rfl));intro gb637 hg w5 hbox hb;have n0_:=zm (Kd.R_below (by (with_reducible repeat (first|apply zrA|apply zrN|apply zrD));exact HO0_0.out) hb);have n1_:=zm (Kd.R_below (by (with_reducible repeat (first|apply zrA|apply zrN|apply zrD));exact HO0_1.out) hb);have n2_:=zm (Kept.below (S:=(fun k_=>P0_0_ k_∨P0_1_ k_)) (by repeat (first|(with_reducible first|exact HK.out|apply Kept.alloc|apply Kept.drewN|apply Kept.drew)|exact HK.out)) hb);have n3_:=zm (below_step (by repeat (first|(with_reducible first|exact HB.out|apply zlA|apply zlN|apply zlD)|exact HB.out)) hb);have n4_:=zm (hbox);have n5_:=zm ((by rw [hg];exact (by first|exact HK.out.1|exact (show Kept w _ (fun k_=>P0_0_ k_∨P0_1_ k_) from by repeat (first|(with_reducible first|exact HK.out|apply Kept.alloc|apply Kept.drewN|apply Kept.drew)|exact HK.out)).1):w.heap.size≤gb637));have n6_:=zm ((by rw [hg];exact (below_size (by repeat (first|(with_reducible first|exact HB.out|apply zlA|apply zlN|apply zlD)|exact HB.out))):w0.heap.size≤gb637));clear HO0_0 HO0_1 HK HB;have HO0_0:=n0_;have HO0_1:=n1_;have HK:=n2_;have HB:=n3_;have BK637:=n4_;have GW637:=n5_;have GE637:=n6_;clear n0_ n1_ n2_ n3_ n4_ n5_ n6_;clear hb hbox hg)|((with_reducible refine gate_dst (N:=3) rfl ?_);(try (refine gate_guard (by rfl) ?_;dsimp only));refine box_event ?hg (N:=3) ?hd (cs:=#[.int .i64 a1_0,.int .i64 a1_1,.int .i64 a1_2,.int .i64 a1_3,.slice A1_4 l1_4.length c1_4,.slice A1_5 l1_5.length c1_5,.slice A1_6 l1_6.length c1_6]) (t:=42) ?hr ?_;(case hd=>rfl);(case hg=>rfl);(case hr=>first|(go_simp;done)|(go_simp;rfl));intro gb638 hg w6 hbox hb;have n0_:=zm (Kd.R_below (by (with_reducible repeat (first|apply zrA|apply zrN|apply zrD));exact HO0_0.out) hb);have n1_:=zm (Kd.R_below (by (with_reducible repeat (first|apply zrA|apply zrN|apply zrD));exact HO0_1.out) hb);have n2_:=zm (zbB (g:=gb637) (o:=.cells #[.slice Ao3 l0_0.length co3,.slice Ao4 l0_1.length co4,.int .i64 a0_2] 25 (0,0)) (by (with_reducible repeat (first|refine zbN ?_ _|refine zbD ?_|refine zbA ?_ _));exact BK637.out) hb);have n3_:=zm (Kept.below (S:=(fun k_=>P0_0_ k_∨P0_1_ k_)) (by repeat (first|(with_reducible first|exact HK.out|apply Kept.alloc|apply Kept.drewN|apply Kept.drew|refine Kept.setCell ?_ (.inr GW637.out) _)|exact HK.out)) hb);have n4_:=zm (below_step (by repeat (first|(with_reducible first|exact HB.out|apply zlA|apply zlN|apply zlD|refine zlS ?_ GE637.out)|exact HB.out)) hb);have n5_:=zm (hbox);have n6_:=zm ((by rw [hg];exact (by first|exact HK.out.1|exact (show Kept w _ (fun k_=>P0_0_ k_∨P0_1_ k_) from by repeat (first|(with_reducible first|exact HK.out|apply Kept.alloc|apply Kept.drewN|apply Kept.drew|refine Kept.setCell ?_ (.inr GW637.out) _)|exact HK.out)).1):w.heap.size≤gb638));have n7_:=zm ((by rw [hg];exact (below_size (by repeat (first|(with_reducible first|exact HB.out|apply zlA|apply zlN|apply zlD|refine zlS ?_ GE637.out)|exact HB.out))):w0.heap.size≤gb638));have n8_:=zm ((by rw [hg];exact Nat.ne_of_lt (blk_lt (g:=gb637) (o:=.cells #[.slice Ao3 l0_0.length co3,.slice Ao4 l0_1.length co4,.int .i64 a0_2] 25 (0,0)) (by (with_reducible repeat (first|refine zbN ?_ _|refine zbD ?_|refine zbA ?_ _));exact BK637.out)):gb637≠gb638));have n9_:=zm ((by rw [hg];exact Nat.ne_of_gt (blk_lt (g:=gb637) (o:=.cells #[.slice Ao3 l0_0.length co3,.slice Ao4 l0_1.length co4,.int .i64 a0_2] 25 (0,0)) (by (with_reducible repeat (first|refine zbN ?_ _|refine zbD ?_|refine zbA ?_ _));exact BK637.out)):gb638≠gb637));clear HO0_0 HO0_1 BK637 HK HB;have HO0_0:=n0_;have HO0_1:=n1_;have BK637:=n2_;have HK:=n3_;have HB:=n4_;have BK638:=n5_;have GW638:=n6_;have GE638:=n7_;have NB637_638:=n8_;have NB638_637:=n9_;clear n0_ n1_ n2_ n3_ n4_ n5_ n6_ n7_ n8_ n9_;clear hb hbox hg)|((with_reducible refine gate_dst (N:=4) rfl ?_);(try (refine gate_guard (by rfl) ?_;dsimp only));refine box_event ?hg (N:=4) ?hd (cs:=#[.slice none 0 0,.slice none 0 0,.int .i64 0]) (t:=25) ?hr ?_;(case hd=>rfl);(case hg=>rfl);(case hr=>first|(go_simp;done)|(go_simp;rfl));intro gb639 hg w7 hbox hb;have n0_:=zm (Kd.R_below (by (with_reducible repeat (first|apply zrA|apply zrN|apply zrD));exact HO0_0.out) hb);have n1_:=zm (Kd.R_below (by (with_reducible repeat (first|apply zrA|apply zrN|apply zrD));exact HO0_1.out) hb);have n2_:=zm (zbB (g:=gb637) (o:=.cells #[.slice Ao3 l0_0.length co3,.slice Ao4 l0_1.length co4,.int .i64 a0_2] 25 (0,0)) (by (with_reducible repeat (first|refine zbN ?_ _|refine zbD ?_|refine zbA ?_ _));exact BK637.out) hb);have n3_:=zm (zbB (g:=gb638) (o:=.cells #[.int .i64 a1_0,.int .i64 a1_1,.int .i64 a1_2,.int .i64 a1_3,.slice A1_4 l1_4.length c1_4,.slice A1_5 l1_5.length c1_5,.slice A1_6 l1_6.length c1_6] 42 (0,0)) (by (with_reducible repeat (first|refine zbN ?_ _|refine zbD ?_|refine zbA ?_ _));exact BK638.out) hb);have n4_:=zm (Kept.below (S:=(fun k_=>P0_0_ k_∨P0_1_ k_)) (by repeat (first|(with_reducible first|exact HK.out|apply Kept.alloc|apply Kept.drewN|apply Kept.drew|refine Kept.setCell ?_ (.inr GW637.out) _|refine Kept.setCell ?_ (.inr GW638.out) _)|exact HK.out)) hb);have n5_:=zm (below_step (by repeat (first|(with_reducible first|exact HB.out|apply zlA|apply zlN|apply zlD|refine zlS ?_ GE637.out|refine zlS ?_ GE638.out)|exact HB.out)) hb);have n6_:=zm (hbox);have n7_:=zm ((by rw [hg];exact (by first|exact HK.out.1|exact (show Kept w _ (fun k_=>P0_0_ k_∨P0_1_ k_) from by repeat (first|(with_reducible first|exact HK.out|apply Kept.alloc|apply Kept.drewN|apply Kept.drew|refine Kept.setCell ?_ (.inr GW637.out) _|refine Kept.setCell ?_ (.inr GW638.out) _)|exact HK.out)).1):w.heap.size≤gb639));have n8_:=zm ((by rw [hg];exact (below_size (by repeat (first|(with_reducible first|exact HB.out|apply zlA|apply zlN|apply zlD|refine zlS ?_ GE637.out|refine zlS ?_ GE638.out)|exact HB.out))):w0.heap.size≤gb639));have n9_:=zm ((by rw [hg];exact Nat.ne_of_lt (blk_lt (g:=gb637) (o:=.cells #[.slice Ao3 l0_0.length co3,.slice Ao4 l0_1.length co4,.int .i64 a0_2] 25 (0,0)) (by (with_reducible repeat (first|refine zbN ?_ _|refine zbD ?_|refine zbA ?_ _));exact BK637.out)):gb637≠gb639));have n10_:=zm ((by rw [hg];exact Nat.ne_of_gt (blk_lt (g:=gb637) (o:=.cells #[.slice Ao3 l0_0.length co3,.slice Ao4 l0_1.length co4,.int .i64 a0_2] 25 (0,0)) (by (with_reducible repeat (first|refine zbN ?_ _|refine zbD ?_|refine zbA ?_ _));exact BK637.out)):gb639≠gb637));have n11_:=zm ((by rw [hg];exact Nat.ne_of_lt (blk_lt (g:=gb638) (o:=.cells #[.int .i64 a1_0,.int .i64 a1_1,.int .i64 a1_2,.int .i64 a1_3,.slice A1_4 l1_4.length c1_4,.slice A1_5 l1_5.length c1_5,.slice A1_6 l1_6.length c1_6] 42 (0,0)) (by (with_reducible repeat (first|refine zbN ?_ _|refine zbD ?_|refine zbA ?_ _));exact BK638.out)):gb638≠gb639));have n12_:=zm ((by rw [hg];exact Nat.ne_of_gt (blk_lt (g:=gb638) (o:=.cells #[.int .i64 a1_0,.int .i64 a1_1,.int .i64 a1_2,.int .i64 a1_3,.slice A1_4 l1_4.length c1_4,.slice A1_5 l1_5.length c1_5,.slice A1_6 l1_6.length c1_6] 42 (0,0)) (by (with_reducible repeat (first|refine zbN ?_ _|refine zbD ?_|refine zbA ?_ _));exact BK638.out)):gb639≠gb638));clear HO0_0 HO0_1 BK637 BK638 HK HB;have HO0_0:=n0_;have HO0_1:=n1_;have BK637:=n2_;have BK638:=n3_;have HK:=n4_;have HB:=n5_;have BK639:=n6_;have GW639:=n7_;have GE639:=n8_;have NB637_639:=n9_;have NB639_637:=n10_;have NB638_639:=n11_;have NB639_638:=n12_;clear n0_ n1_ n2_ n3_ n4_ n5_ n6_ n7_ n8_ n9_ n10_ n11_ n12_;clear hb hbox hg))
 go_loopg [5] k (fun kq v5 w'=>∃ (x5_1:Int) (x638000_1:List Bool) (x638001_1:List Int) (u638000:Value) (u638001:Value),v5=.int .i64 x5_1∧Aside0 (slipwayref06_know.l0 kq x5_1 x638000_1 x638001_1 a0_2 a1_0 a1_1 a1_2 a1_3 l1_4 l1_5 l1_6=some (r1,r2,r3))∧Aside0 (kq≤k)∧Aside0 (Kd.R Kd.bool 4 w' w0.heap.size (fun k_=>((P0_0_ k_∨P0_1_ k_)∨w.heap.size≤k_)) u638000 x638000_1)∧Aside0 (Kd.R (Kd.int .i64) 2 w' w0.heap.size (fun k_=>((P0_0_ k_∨P0_1_ k_)∨w.heap.size≤k_)) u638001 x638001_1)∧Aside0 (w'.heap[gb637]?=some (.cells #[u638000,u638001,.int .i64 a0_2] 25 (0,0)))∧Aside0 (w'.heap[gb638]?=some (.cells #[.int .i64 a1_0,.int .i64 a1_1,.int .i64 a1_2,.int .i64 a1_3,(.slice A1_4 l1_4.length c1_4),(.slice A1_5 l1_5.length c1_5),(.slice A1_6 l1_6.length c1_6)] 42 (0,0)))∧Aside0 (w'.heap[gb639]?=some (.cells #[(.slice none 0 0),(.slice none 0 0),.int .i64 0] 25 (0,0)))∧Aside0 (Kept w w' (fun k_=>P0_0_ k_∨P0_1_ k_))∧Aside0 (Below w0.heap.size w0 w'))
 case atStart=>exact ⟨(0),(l0_0),(l0_1),(.slice Ao3 l0_0.length co3),(.slice Ao4 l0_1.length co4),(by first|rfl|(simp;done)|(simp [*];done)),H',⟨Nat.le_refl _⟩,⟨by (with_reducible repeat (first|apply zrA|apply zrN|apply zrD));exact HO0_0.out⟩,⟨by (with_reducible repeat (first|apply zrA|apply zrN|apply zrD));exact HO0_1.out⟩,⟨by (with_reducible repeat (first|refine zbN ?_ _|refine zbD ?_|refine zbA ?_ _));exact BK637.out⟩,⟨by (with_reducible repeat (first|refine zbN ?_ _|refine zbD ?_|refine zbA ?_ _));exact BK638.out⟩,⟨by (with_reducible repeat (first|refine zbN ?_ _|refine zbD ?_|refine zbA ?_ _));exact BK639.out⟩,⟨by repeat (first|(with_reducible first|exact HK.out|apply Kept.alloc|apply Kept.drewN|apply Kept.drew|refine Kept.setCell ?_ (.inr GW637.out) _|refine Kept.setCell ?_ (.inr GW638.out) _|refine Kept.setCell ?_ (.inr GW639.out) _)|exact HK.out)⟩,⟨by repeat (first|(with_reducible first|exact HB.out|apply zlA|apply zlN|apply zlD|refine zlS ?_ GE637.out|refine zlS ?_ GE638.out|refine zlS ?_ GE639.out)|exact HB.out)⟩⟩
 case round =>
  clear H'
  try clear c1
  try clear p2
  try clear c7
  obtain ⟨x5_1,x638000_1,x638001_1,u638000,u638001,rfl,HA,HK1,HO_638000,HO_638001,BK637,BK638,BK639,HK,HB⟩:=hrel
  cases gk with
  | zero=>exact absurd HA.out (by simp [slipwayref06_know.l0])
  | succ k1 =>
   have H:=HA.out
   clear HA
   simp only [slipwayref06_know.l0] at H
   have HC8:=zm H
   clear H
   go_upto_region 2 with (fail)
   go_cut [19] (fun v19 wc=>∃ (kq:Nat) (x19_7:Bool),v19=.bool x19_7∧Aside0 (slipwayref06_know.j1 kq x5_1 x19_7 x638000_1 x638001_1 a0_2 a1_0 a1_1 a1_2 a1_3 l1_4 l1_5 l1_6=some (r1,r2,r3))∧Aside0 (kq≤k1)∧Aside0 (Kd.R Kd.bool 4 wc w0.heap.size (fun k_=>((P0_0_ k_∨P0_1_ k_)∨w.heap.size≤k_)) u638000 x638000_1)∧Aside0 (Kd.R (Kd.int .i64) 2 wc w0.heap.size (fun k_=>((P0_0_ k_∨P0_1_ k_)∨w.heap.size≤k_)) u638001 x638001_1)∧Aside0 (wc.heap[gb637]?=some (.cells #[u638000,u638001,.int .i64 a0_2] 25 (0,0)))∧Aside0 (wc.heap[gb638]?=some (.cells #[.int .i64 a1_0,.int .i64 a1_1,.int .i64 a1_2,.int .i64 a1_3,(.slice A1_4 l1_4.length c1_4),(.slice A1_5 l1_5.length c1_5),(.slice A1_6 l1_6.length c1_6)] 42 (0,0)))∧Aside0 (wc.heap[gb639]?=some (.cells #[(.slice none 0 0),(.slice none 0 0),.int .i64 0] 25 (0,0)))∧Aside0 (Kept w wc (fun k_=>P0_0_ k_∨P0_1_ k_))∧Aside0 (Below w0.heap.size w0 wc))
   case first =>
    have H:=HC8.out
    clear HC8
    by_cases c9:x5_1 < (l1_4.length:Int)
    ·rw [if_pos c9] at H
     have c9b0:decide (x5_1 < (l1_4.length:Int))=true:=decide_eq_true c9
     clear c9
     (first|rw [c9b0]|(simp only [i64_w,i32_w];rw [c9b0])|skip)
     have H':=zm H
     clear H
     have hnb10:=NB638_637.out
     have hnc10:=NB637_638.out
     have hnb11:=NB638_639.out
     have hnc11:=NB639_638.out
     have hcz12_0:wr.cell? ⟨gb638,0,none⟩=some (.int .i64 a1_0):=(blk_cell BK638.out 0).trans rfl
     have hcz12_1:wr.cell? ⟨gb638,1,none⟩=some (.int .i64 a1_1):=(blk_cell BK638.out 1).trans rfl
     have hcz12_2:wr.cell? ⟨gb638,2,none⟩=some (.int .i64 a1_2):=(blk_cell BK638.out 2).trans rfl
     have hcz12_3:wr.cell? ⟨gb638,3,none⟩=some (.int .i64 a1_3):=(blk_cell BK638.out 3).trans rfl
     have hcz12_4:wr.cell? ⟨gb638,4,none⟩=some (.slice A1_4 l1_4.length c1_4):=(blk_cell BK638.out 4).trans rfl
     have hcz12_5:wr.cell? ⟨gb638,5,none⟩=some (.slice A1_5 l1_5.length c1_5):=(blk_cell BK638.out 5).trans rfl
     have hcz12_6:wr.cell? ⟨gb638,6,none⟩=some (.slice A1_6 l1_6.length c1_6):=(blk_cell BK638.out 6).trans rfl
     have hfz12_0:=blk_frozen BK638.out 0
     have hfz12_1:=blk_frozen BK638.out 1
     have hfz12_2:=blk_frozen BK638.out 2
     have hfz12_3:=blk_frozen BK638.out 3
     have hfz12_4:=blk_frozen BK638.out 4
     have hfz12_5:=blk_frozen BK638.out 5
     have hfz12_6:=blk_frozen BK638.out 6
     go_wp2
     go_meet
     case rel=>exact ⟨_,(decide (x5_1 < (l1_5.length:Int))),(by first|rfl|(simp;done)|(simp [*];done)),H',⟨by have:=HK1.out;first|omega|exact Nat.le_refl _⟩,⟨by (with_reducible repeat (first|apply zrA|apply zrN|apply zrD));exact HO_638000.out⟩,⟨by (with_reducible repeat (first|apply zrA|apply zrN|apply zrD));exact HO_638001.out⟩,⟨by (with_reducible repeat (first|refine zbN ?_ _|refine zbD ?_|refine zbA ?_ _));exact BK637.out⟩,⟨by (with_reducible repeat (first|refine zbN ?_ _|refine zbD ?_|refine zbA ?_ _));exact BK638.out⟩,⟨by (with_reducible repeat (first|refine zbN ?_ _|refine zbD ?_|refine zbA ?_ _));exact BK639.out⟩,⟨by repeat (first|(with_reducible first|exact HK.out|apply Kept.alloc|apply Kept.drewN|apply Kept.drew|refine Kept.setCell ?_ (.inr GW637.out) _|refine Kept.setCell ?_ (.inr GW638.out) _|refine Kept.setCell ?_ (.inr GW639.out) _)|exact HK.out)⟩,⟨by repeat (first|(with_reducible first|exact HB.out|apply zlA|apply zlN|apply zlD|refine zlS ?_ GE637.out|refine zlS ?_ GE638.out|refine zlS ?_ GE639.out)|exact HB.out)⟩⟩
    ·rw [if_neg c9] at H
     have c9b0:decide (x5_1 < (l1_4.length:Int))=false:=decide_eq_false c9
     clear c9
     (first|rw [c9b0]|(simp only [i64_w,i32_w];rw [c9b0])|skip)
     have H':=zm H
     clear H
     have hnb13:=NB638_637.out
     have hnc13:=NB637_638.out
     have hnb14:=NB638_639.out
     have hnc14:=NB639_638.out
     have hcz15_0:wr.cell? ⟨gb638,0,none⟩=some (.int .i64 a1_0):=(blk_cell BK638.out 0).trans rfl
     have hcz15_1:wr.cell? ⟨gb638,1,none⟩=some (.int .i64 a1_1):=(blk_cell BK638.out 1).trans rfl
     have hcz15_2:wr.cell? ⟨gb638,2,none⟩=some (.int .i64 a1_2):=(blk_cell BK638.out 2).trans rfl
     have hcz15_3:wr.cell? ⟨gb638,3,none⟩=some (.int .i64 a1_3):=(blk_cell BK638.out 3).trans rfl
     have hcz15_4:wr.cell? ⟨gb638,4,none⟩=some (.slice A1_4 l1_4.length c1_4):=(blk_cell BK638.out 4).trans rfl
     have hcz15_5:wr.cell? ⟨gb638,5,none⟩=some (.slice A1_5 l1_5.length c1_5):=(blk_cell BK638.out 5).trans rfl
     have hcz15_6:wr.cell? ⟨gb638,6,none⟩=some (.slice A1_6 l1_6.length c1_6):=(blk_cell BK638.out 6).trans rfl
     have hfz15_0:=blk_frozen BK638.out 0
     have hfz15_1:=blk_frozen BK638.out 1
     have hfz15_2:=blk_frozen BK638.out 2
     have hfz15_3:=blk_frozen BK638.out 3
     have hfz15_4:=blk_frozen BK638.out 4
     have hfz15_5:=blk_frozen BK638.out 5
     have hfz15_6:=blk_frozen BK638.out 6
     go_wp2
     go_meet
     case rel=>exact ⟨_,(false),(by first|rfl|(simp;done)|(simp [*];done)),H',⟨by have:=HK1.out;first|omega|exact Nat.le_refl _⟩,⟨by (with_reducible repeat (first|apply zrA|apply zrN|apply zrD));exact HO_638000.out⟩,⟨by (with_reducible repeat (first|apply zrA|apply zrN|apply zrD));exact HO_638001.out⟩,⟨by (with_reducible repeat (first|refine zbN ?_ _|refine zbD ?_|refine zbA ?_ _));exact BK637.out⟩,⟨by (with_reducible repeat (first|refine zbN ?_ _|refine zbD ?_|refine zbA ?_ _));exact BK638.out⟩,⟨by (with_reducible repeat (first|refine zbN ?_ _|refine zbD ?_|refine zbA ?_ _));exact BK639.out⟩,⟨by repeat (first|(with_reducible first|exact HK.out|apply Kept.alloc|apply Kept.drewN|apply Kept.drew|refine Kept.setCell ?_ (.inr GW637.out) _|refine Kept.setCell ?_ (.inr GW638.out) _|refine Kept.setCell ?_ (.inr GW639.out) _)|exact HK.out)⟩,⟨by repeat (first|(with_reducible first|exact HB.out|apply zlA|apply zlN|apply zlD|refine zlS ?_ GE637.out|refine zlS ?_ GE638.out|refine zlS ?_ GE639.out)|exact HB.out)⟩⟩
   case rest =>
    clear HC8
    try clear c1
    try clear p2
    try clear c7
    try clear c9
    try clear c9b0
    try clear c10
    try clear c11
    try clear c13
    try clear c14
    try clear hcz12_0
    try clear hcz12_1
    try clear hcz12_2
    try clear hcz12_3
    try clear hcz12_4
    try clear hcz12_5
    try clear hcz12_6
    try clear hcz15_0
    try clear hcz15_1
    try clear hcz15_2
    try clear hcz15_3
    try clear hcz15_4
    try clear hcz15_5
    try clear hcz15_6
    try clear hfz12_0
    try clear hfz12_1
    try clear hfz12_2
    try clear hfz12_3
    try clear hfz12_4
    try clear hfz12_5
    try clear hfz12_6
    try clear hfz15_0
    try clear hfz15_1
    try clear hfz15_2
    try clear hfz15_3
    try clear hfz15_4
    try clear hfz15_5
    try clear hfz15_6
    try clear p2
    obtain ⟨kq,x19_7,rfl,HA,HJ7,HO_638000,HO_638001,BK637,BK638,BK639,HK,HB⟩:=hcut
    cases kq with
    | zero=>exact absurd HA.out (by simp [slipwayref06_know.j1])
    | succ kj7 =>
     have H:=HA.out
     clear HA
     simp only [slipwayref06_know.j1] at H
     by_cases c16:x19_7=true
     ·subst c16
      have H1:(if (wrap64 ((wrap64 (a1_2 * 64)) + x5_1)) < (x638000_1.length:Int) then (if (wrap64 ((wrap64 (a1_2 * 64)) + x5_1)) < (x638001_1.length:Int) then (if 0≤(wrap64 ((wrap64 (a1_2 * 64)) + x5_1)) then (if rdOf false x638000_1 (wrap64 ((wrap64 (a1_2 * 64)) + x5_1))=true then (if 0≤x5_1 then (if x5_1 < (l1_5.length:Int) then (slipwayref06_know.l0 kj7 (wrap64 (x5_1 + 1)) (x638000_1.set ((wrap64 ((wrap64 (a1_2 * 64)) + x5_1)):Int).toNat true) (x638001_1.set ((wrap64 ((wrap64 (a1_2 * 64)) + x5_1)):Int).toNat (mx (rd x638001_1 (wrap64 ((wrap64 (a1_2 * 64)) + x5_1))) (rd l1_5 x5_1))) a0_2 a1_0 a1_1 a1_2 a1_3 l1_4 l1_5 l1_6) else (none)) else (none)) else (if 0≤x5_1 then (if x5_1 < (l1_4.length:Int) then (if x5_1 < (l1_5.length:Int) then (slipwayref06_know.l0 kj7 (wrap64 (x5_1 + 1)) (x638000_1.set ((wrap64 ((wrap64 (a1_2 * 64)) + x5_1)):Int).toNat (rdOf false l1_4 x5_1)) (x638001_1.set ((wrap64 ((wrap64 (a1_2 * 64)) + x5_1)):Int).toNat (mx (rd x638001_1 (wrap64 ((wrap64 (a1_2 * 64)) + x5_1))) (rd l1_5 x5_1))) a0_2 a1_0 a1_1 a1_2 a1_3 l1_4 l1_5 l1_6) else (none)) else (none)) else (none))) else (none)) else (slipwayref06_know.l0 kj7 (wrap64 (x5_1 + 1)) x638000_1 x638001_1 a0_2 a1_0 a1_1 a1_2 a1_3 l1_4 l1_5 l1_6)) else (slipwayref06_know.l0 kj7 (wrap64 (x5_1 + 1)) x638000_1 x638001_1 a0_2 a1_0 a1_1 a1_2 a1_3 l1_4 l1_5 l1_6))=some (r1,r2,r3):=by rw [if_pos rfl] at H;exact H
      clear H
      have H:=H1
      clear H1
      by_cases c17:(wrap64 ((wrap64 (a1_2 * 64)) + x5_1)) < (x638000_1.length:Int)
      ·rw [if_pos c17] at H
       have c17b0:decide ((wrap64 ((wrap64 (a1_2 * 64)) + x5_1)) < (x638000_1.length:Int))=true:=decide_eq_true c17
       clear c17
       by_cases c18:(wrap64 ((wrap64 (a1_2 * 64)) + x5_1)) < (x638001_1.length:Int)
       ·rw [if_pos c18] at H
        have c18b0:decide ((wrap64 ((wrap64 (a1_2 * 64)) + x5_1)) < (x638001_1.length:Int))=true:=decide_eq_true c18
        clear c18
        obtain ⟨ji19,hji19⟩:∃ j_:Int,(wrap64 ((wrap64 (a1_2 * 64)) + x5_1))=j_:=⟨_,rfl⟩
        replace H:(if 0≤(ji19) then (if rdOf false x638000_1 (ji19)=true then (if 0≤x5_1 then (if x5_1 < (l1_5.length:Int) then (slipwayref06_know.l0 kj7 (wrap64 (x5_1 + 1)) (x638000_1.set ((ji19):Int).toNat true) (x638001_1.set ((ji19):Int).toNat (mx (rd x638001_1 (ji19)) (rd l1_5 x5_1))) a0_2 a1_0 a1_1 a1_2 a1_3 l1_4 l1_5 l1_6) else (none)) else (none)) else (if 0≤x5_1 then (if x5_1 < (l1_4.length:Int) then (if x5_1 < (l1_5.length:Int) then (slipwayref06_know.l0 kj7 (wrap64 (x5_1 + 1)) (x638000_1.set ((ji19):Int).toNat (rdOf false l1_4 x5_1)) (x638001_1.set ((ji19):Int).toNat (mx (rd x638001_1 (ji19)) (rd l1_5 x5_1))) a0_2 a1_0 a1_1 a1_2 a1_3 l1_4 l1_5 l1_6) else (none)) else (none)) else (none))) else (none))=some (r1,r2,r3):=by first|(rw [hji19] at H;exact H)|(simp only [hji19] at H ⊢;exact H)
        (try rw [hji19] at c17b0)
        (try rw [hji19] at c18b0)
        have hji19w:(IntKind.i64.wrap ((wrap64 (a1_2 * 64)) + x5_1))=ji19:=(i64_w _).trans hji19
        by_cases c20:0≤(ji19)
        ·rw [if_pos c20] at H
         have c20b0:decide (0≤(ji19))=true:=decide_eq_true c20
         clear c20
         obtain ⟨bq21,hbq21⟩:∃ b_:Bool,b_=(rdOf false x638000_1 (ji19)):=⟨_,rfl⟩
         replace H:(if bq21=true then (if 0≤x5_1 then (if x5_1 < (l1_5.length:Int) then (slipwayref06_know.l0 kj7 (wrap64 (x5_1 + 1)) (x638000_1.set ((ji19):Int).toNat true) (x638001_1.set ((ji19):Int).toNat (mx (rd x638001_1 (ji19)) (rd l1_5 x5_1))) a0_2 a1_0 a1_1 a1_2 a1_3 l1_4 l1_5 l1_6) else (none)) else (none)) else (if 0≤x5_1 then (if x5_1 < (l1_4.length:Int) then (if x5_1 < (l1_5.length:Int) then (slipwayref06_know.l0 kj7 (wrap64 (x5_1 + 1)) (x638000_1.set ((ji19):Int).toNat (rdOf false l1_4 x5_1)) (x638001_1.set ((ji19):Int).toNat (mx (rd x638001_1 (ji19)) (rd l1_5 x5_1))) a0_2 a1_0 a1_1 a1_2 a1_3 l1_4 l1_5 l1_6) else (none)) else (none)) else (none)))=some (r1,r2,r3):=by rw [← hbq21] at H;exact H
         have Nbq21:=zm hbq21
         clear hbq21
         by_cases c22:bq21=true
         ·subst c22
          have H1:(if 0≤x5_1 then (if x5_1 < (l1_5.length:Int) then (slipwayref06_know.l0 kj7 (wrap64 (x5_1 + 1)) (x638000_1.set ((ji19):Int).toNat true) (x638001_1.set ((ji19):Int).toNat (mx (rd x638001_1 (ji19)) (rd l1_5 x5_1))) a0_2 a1_0 a1_1 a1_2 a1_3 l1_4 l1_5 l1_6) else (none)) else (none))=some (r1,r2,r3):=by rw [if_pos rfl] at H;exact H
          clear H
          have H:=H1
          clear H1
          obtain ⟨y641,hy641⟩:∃ y_:List Bool,y_=(x638000_1.set ((ji19):Int).toNat true):=⟨_,rfl⟩
          replace H:(if 0≤x5_1 then (if x5_1 < (l1_5.length:Int) then (slipwayref06_know.l0 kj7 (wrap64 (x5_1 + 1)) y641 (x638001_1.set ((ji19):Int).toNat (mx (rd x638001_1 (ji19)) (rd l1_5 x5_1))) a0_2 a1_0 a1_1 a1_2 a1_3 l1_4 l1_5 l1_6) else (none)) else (none))=some (r1,r2,r3):=by first|(rw [hy641];with_reducible exact H)|(have H2_:=(Option.bind_some _ _).symm.trans H;rw [hy641];with_reducible exact H2_)|(have H2_:=(Option.bind_some _ _).symm.trans H;with_reducible exact H2_)|with_reducible exact H|(rw [hy641];exact H)|exact H
          have Ny641:=zm hy641
          clear hy641
          by_cases c24:0≤x5_1
          ·rw [if_pos c24] at H
           have c24b0:decide (0≤x5_1)=true:=decide_eq_true c24
           clear c24
           by_cases c25:x5_1 < (l1_5.length:Int)
           ·rw [if_pos c25] at H
            have c25b0:decide (x5_1 < (l1_5.length:Int))=true:=decide_eq_true c25
            clear c25
            obtain ⟨ji26,hji26⟩:∃ j_:Int,(mx (rd x638001_1 (ji19)) (rd l1_5 x5_1))=j_:=⟨_,rfl⟩
            replace H:(slipwayref06_know.l0 kj7 (wrap64 (x5_1 + 1)) y641 (x638001_1.set ((ji19):Int).toNat (ji26)) a0_2 a1_0 a1_1 a1_2 a1_3 l1_4 l1_5 l1_6)=some (r1,r2,r3):=by first|(rw [hji26] at H;exact H)|(simp only [hji26] at H ⊢;exact H)
            have hji26_:(if (rd x638001_1 (ji19)) < (rd l1_5 x5_1) then (rd l1_5 x5_1) else (rd x638001_1 (ji19)))=ji26:=hji26
            obtain ⟨y644,hy644⟩:∃ y_:List Int,y_=(x638001_1.set ((ji19):Int).toNat (ji26)):=⟨_,rfl⟩
            replace H:(slipwayref06_know.l0 kj7 (wrap64 (x5_1 + 1)) y641 y644 a0_2 a1_0 a1_1 a1_2 a1_3 l1_4 l1_5 l1_6)=some (r1,r2,r3):=by first|(rw [hy644];with_reducible exact H)|(have H2_:=(Option.bind_some _ _).symm.trans H;rw [hy644];with_reducible exact H2_)|(have H2_:=(Option.bind_some _ _).symm.trans H;with_reducible exact H2_)|with_reducible exact H|(rw [hy644];exact H)|exact H
            have Ny644:=zm hy644
            clear hy644
            have H':=zm H
            clear H
            have hnb28:=NB638_637.out
            have hnc28:=NB637_638.out
            have hnb29:=NB638_639.out
            have hnc29:=NB639_638.out
            have hcz30_0:wc.cell? ⟨gb638,0,none⟩=some (.int .i64 a1_0):=(blk_cell BK638.out 0).trans rfl
            have hcz30_1:wc.cell? ⟨gb638,1,none⟩=some (.int .i64 a1_1):=(blk_cell BK638.out 1).trans rfl
            have hcz30_2:wc.cell? ⟨gb638,2,none⟩=some (.int .i64 a1_2):=(blk_cell BK638.out 2).trans rfl
            have hcz30_3:wc.cell? ⟨gb638,3,none⟩=some (.int .i64 a1_3):=(blk_cell BK638.out 3).trans rfl
            have hcz30_4:wc.cell? ⟨gb638,4,none⟩=some (.slice A1_4 l1_4.length c1_4):=(blk_cell BK638.out 4).trans rfl
            have hcz30_5:wc.cell? ⟨gb638,5,none⟩=some (.slice A1_5 l1_5.length c1_5):=(blk_cell BK638.out 5).trans rfl
            have hcz30_6:wc.cell? ⟨gb638,6,none⟩=some (.slice A1_6 l1_6.length c1_6):=(blk_cell BK638.out 6).trans rfl
            have hfz30_0:=blk_frozen BK638.out 0
            have hfz30_1:=blk_frozen BK638.out 1
            have hfz30_2:=blk_frozen BK638.out 2
            have hfz30_3:=blk_frozen BK638.out 3
            have hfz30_4:=blk_frozen BK638.out 4
            have hfz30_5:=blk_frozen BK638.out 5
            have hfz30_6:=blk_frozen BK638.out 6
            have hnb31:=NB637_639.out
            have hnc31:=NB639_637.out
            have hcz32_0:wc.cell? ⟨gb637,0,none⟩=some (u638000):=(blk_cell BK637.out 0).trans rfl
            have hcz32_1:wc.cell? ⟨gb637,1,none⟩=some (u638001):=(blk_cell BK637.out 1).trans rfl
            have hcz32_2:wc.cell? ⟨gb637,2,none⟩=some (.int .i64 a0_2):=(blk_cell BK637.out 2).trans rfl
            have hfz32_0:=blk_frozen BK637.out 0
            have hfz32_1:=blk_frozen BK637.out 1
            have hfz32_2:=blk_frozen BK637.out 2
            obtain ⟨Ao33,co33,eo33⟩:=Kd.R_slice HO_638000.out
            subst eo33
            obtain ⟨Ao34,co34,eo34⟩:=Kd.R_slice HO_638001.out
            subst eo34
            try go_wp2
            have n0_:=zm (zrD HO_638000.out)
            have n1_:=zm (zrD HO_638001.out)
            have n2_:=zm (zbD BK637.out)
            have n3_:=zm (zbD BK638.out)
            have n4_:=zm (zbD BK639.out)
            have n5_:=zm (Kept.drew HK.out)
            have n6_:=zm (zlD HB.out)
            clear HO_638000 HO_638001 BK637 BK638 BK639 HK HB
            have HO_638000:=n0_
            have HO_638001:=n1_
            have BK637:=n2_
            have BK638:=n3_
            have BK639:=n4_
            have HK:=n5_
            have HB:=n6_
            clear n0_ n1_ n2_ n3_ n4_ n5_ n6_
            have p640:0≤((ji19):Int):=of_decide_eq_true (by first|(with_reducible assumption)|assumption)
            have q640:(ji19) < (x638000_1.length:Int):=of_decide_eq_true (by first|(with_reducible assumption)|assumption)
            obtain ⟨ad640,e640,hx640_0⟩:=Kd.at_bool (Kd.R_reads' HO_638000.out).2.2 (ji19) p640 q640
            (try rw [← Nbq21.out] at hx640_0)
            cases e640
            replace p640:=eq_true p640
            replace q640:=eq_true q640
            have p23:0≤((ji19):Int):=of_decide_eq_true (by first|(with_reducible assumption)|assumption)
            have q23:((ji19):Int) < ((x638000_1.length:Int):Int):=of_decide_eq_true (by first|(with_reducible assumption)|assumption)
            obtain ⟨go23,co23,eo23,gb23,gl23,cl23,HG23⟩:=Kd.R_form HO_638000.out (by omega)
            (first|cases eo23|(injection eo23 with ea_ en_ ec_;(first|subst ea_|(injection ea_ with ea_;subst ea_));subst ec_;clear en_))
            have GB23:=zm gb23
            have GG23:=zm HG23
            clear gb23 gl23 HG23
            have HMgo23:=zm (show ((P0_0_ go23∨P0_1_ go23)∨w.heap.size≤go23) from (HO_638000.out.1 _ rfl))
            (first|simp only [add_plain] at hx640_0|skip)
            obtain ⟨hx23_0,hf23_0⟩:=Kd.R_celln false HO_638000.out ((ji19):Int) p23 q23
            replace p23:=eq_true p23
            replace q23:=eq_true q23
            have HP36:=Kd.R_putn HO_638000.out ((ji19):Int) true
            rw [← Ny641.out] at HP36
            have HQ36:=zm HP36
            clear HP36
            refine start_ (n:=17) (S:=fun w'=>w'.cell? ⟨gb637,0,none⟩=some (.slice (some ⟨go23,0,none⟩) x638000_1.length co33)∧w'.cell? ⟨gb637,1,none⟩=some (.slice Ao34 x638001_1.length co34)∧w'.cell? ⟨gb637,2,none⟩=some (.int .i64 a0_2)∧w'.cell? ⟨go23,((ji19)).toNat,none⟩=some (.bool true)) (ds:=[16]) #[false,false,false,false,false,false,false,false,false,false,false,false,false,false,false,false,false] (by kernel_rfl) rfl rfl ⟨(blk_cell BK637.out 0).trans rfl,(blk_cell BK637.out 1).trans rfl,(blk_cell BK637.out 2).trans rfl,hx640_0⟩ (fun hHeld=>?_);refine with_tabW slipwayref06_know.tab6 slipwayref06_know.bits6 (fun HT_ HW_=>?_)
            generalize wc.drew=w35 at HO_638000 HO_638001 BK637 BK638 BK639 HK HB GG23 HQ36 hf23_0 hx23_0 hx640_0 hHeld ⊢
            refine pure_ (i:=0) (N:=some 39) (v:=?_) (a':=?_) #[true,false,false,false,false,false,false,false,false,false,false,false,false,false,false,false,false] rfl rfl (any_of HT_.out (by kernel_rfl)) (fun _ _ _ h=>h) (Or.inl ⟨by rfl,?_⟩) ?_ ?_
            rotate_left
            ·intro w'
             go_simp
             with_reducible rfl
            rotate_left
            ·simp only [Act.put,List.setIfInBounds_toArray,List.set_cons_zero,List.set_cons_succ,i64_w,i32_w]
             rfl
            refine pure_ (i:=2) (N:=some 41) (v:=?_) (a':=?_) #[true,false,true,false,false,false,false,false,false,false,false,false,false,false,false,false,false] rfl rfl (any_of HT_.out (by kernel_rfl)) (fun _ _ _ h=>h) (Or.inl ⟨by rfl,?_⟩) ?_ ?_
            rotate_left
            ·intro w'
             go_simp
             with_reducible rfl
            rotate_left
            ·simp only [Act.put,List.setIfInBounds_toArray,List.set_cons_zero,List.set_cons_succ,i64_w,i32_w]
             rfl
            refine pure_ (i:=3) (N:=some 42) (v:=?_) (a':=?_) #[true,false,true,true,false,false,false,false,false,false,false,false,false,false,false,false,false] rfl rfl (any_of HT_.out (by kernel_rfl)) (fun _ _ _ h=>h) (Or.inl ⟨by rfl,?_⟩) ?_ ?_
            rotate_left
            ·intro w'
             go_simp
             with_reducible rfl
            rotate_left
            ·simp only [Act.put,List.setIfInBounds_toArray,List.set_cons_zero,List.set_cons_succ,i64_w,i32_w]
             rfl
            refine pure_ (i:=5) (N:=some 44) (v:=?_) (a':=?_) #[true,false,true,true,false,true,false,false,false,false,false,false,false,false,false,false,false] rfl rfl (any_of HT_.out (by kernel_rfl)) (fun _ _ _ h=>h) (Or.inl ⟨by rfl,?_⟩) ?_ ?_
            rotate_left
            ·intro w'
             go_simp
             with_reducible rfl
            rotate_left
            ·simp only [Act.put,List.setIfInBounds_toArray,List.set_cons_zero,List.set_cons_succ,i64_w,i32_w]
             rfl
            refine take_ (i:=1) (N:=some 40) (v:=?_) (a':=?_) #[true,true,true,true,false,true,false,false,false,false,false,false,false,false,false,false,false] rfl rfl (take_ofW HT_.out HW_.out (by kernel_rfl)) (fun _ _ _ h=>h) (Or.inl ⟨by rfl,?_⟩) hHeld ?_ ?_
            rotate_left
            ·rintro w' ⟨s0,s1,s2,s3⟩
             go_simp
             with_reducible rfl
            rotate_left
            ·simp only [Act.put,List.setIfInBounds_toArray,List.set_cons_zero,List.set_cons_succ,i64_w,i32_w]
             rfl
            refine take_ (i:=4) (N:=some 43) (v:=?_) (a':=?_) #[true,true,true,true,true,true,false,false,false,false,false,false,false,false,false,false,false] rfl rfl (take_ofW HT_.out HW_.out (by kernel_rfl)) (fun _ _ _ h=>h) (Or.inl ⟨by rfl,?_⟩) hHeld ?_ ?_
            rotate_left
            ·rintro w' ⟨s0,s1,s2,s3⟩
             go_simp
             with_reducible rfl
            rotate_left
            ·simp only [Act.put,List.setIfInBounds_toArray,List.set_cons_zero,List.set_cons_succ,i64_w,i32_w]
             rfl
            refine pure_ (i:=6) (N:=some 45) (v:=?_) (a':=?_) #[true,true,true,true,true,true,true,false,false,false,false,false,false,false,false,false,false] rfl rfl (any_of HT_.out (by kernel_rfl)) (fun _ _ _ h=>h) (Or.inl ⟨by rfl,?_⟩) ?_ ?_
            rotate_left
            ·intro w'
             go_simp
             with_reducible rfl
            rotate_left
            ·simp only [Act.put,List.setIfInBounds_toArray,List.set_cons_zero,List.set_cons_succ,i64_w,i32_w]
             rfl
            refine take_ (i:=7) (N:=some 46) (v:=?_) (a':=?_) #[true,true,true,true,true,true,true,true,false,false,false,false,false,false,false,false,false] rfl rfl (take_ofW HT_.out HW_.out (by kernel_rfl)) (fun _ _ _ h=>h) (Or.inl ⟨by rfl,?_⟩) hHeld ?_ ?_
            rotate_left
            ·rintro w' ⟨s0,s1,s2,s3⟩
             go_simp
             with_reducible rfl
            rotate_left
            ·simp only [Act.put,List.setIfInBounds_toArray,List.set_cons_zero,List.set_cons_succ,i64_w,i32_w]
             rfl
            refine pure_ (i:=8) (N:=some 47) (v:=?_) (a':=?_) #[true,true,true,true,true,true,true,true,true,false,false,false,false,false,false,false,false] rfl rfl (any_of HT_.out (by kernel_rfl)) (fun _ _ _ h=>h) (Or.inl ⟨by rfl,?_⟩) ?_ ?_
            rotate_left
            ·intro w'
             go_simp
             with_reducible rfl
            rotate_left
            ·simp only [Act.put,List.setIfInBounds_toArray,List.set_cons_zero,List.set_cons_succ,i64_w,i32_w]
             rfl
            refine pure_ (i:=9) (N:=some 48) (v:=undef) (a':=?_) #[true,true,true,true,true,true,true,true,true,true,false,false,false,false,false,false,false] rfl rfl (any_of HT_.out (by kernel_rfl)) (fun _ _ _ h=>h) (Or.inr ⟨by rfl,rfl⟩) ?_ ?_
            rotate_left
            ·simp only [Act.put,List.setIfInBounds_toArray,List.set_cons_zero,List.set_cons_succ,i64_w,i32_w]
             rfl
            refine pure_ (i:=10) (N:=some 49) (v:=undef) (a':=?_) #[true,true,true,true,true,true,true,true,true,true,true,false,false,false,false,false,false] rfl rfl (any_of HT_.out (by kernel_rfl)) (fun _ _ _ h=>h) (Or.inr ⟨by rfl,rfl⟩) ?_ ?_
            rotate_left
            ·simp only [Act.put,List.setIfInBounds_toArray,List.set_cons_zero,List.set_cons_succ,i64_w,i32_w]
             rfl
            refine pure_ (i:=11) (N:=some 50) (v:=undef) (a':=?_) #[true,true,true,true,true,true,true,true,true,true,true,true,false,false,false,false,false] rfl rfl (any_of HT_.out (by kernel_rfl)) (fun _ _ _ h=>h) (Or.inr ⟨by rfl,rfl⟩) ?_ ?_
            rotate_left
            ·simp only [Act.put,List.setIfInBounds_toArray,List.set_cons_zero,List.set_cons_succ,i64_w,i32_w]
             rfl
            refine pure_ (i:=12) (N:=some 51) (v:=undef) (a':=?_) #[true,true,true,true,true,true,true,true,true,true,true,true,true,false,false,false,false] rfl rfl (any_of HT_.out (by kernel_rfl)) (fun _ _ _ h=>h) (Or.inr ⟨by rfl,rfl⟩) ?_ ?_
            rotate_left
            ·simp only [Act.put,List.setIfInBounds_toArray,List.set_cons_zero,List.set_cons_succ,i64_w,i32_w]
             rfl
            refine pure_ (i:=13) (N:=some 52) (v:=undef) (a':=?_) #[true,true,true,true,true,true,true,true,true,true,true,true,true,true,false,false,false] rfl rfl (any_of HT_.out (by kernel_rfl)) (fun _ _ _ h=>h) (Or.inr ⟨by rfl,rfl⟩) ?_ ?_
            rotate_left
            ·simp only [Act.put,List.setIfInBounds_toArray,List.set_cons_zero,List.set_cons_succ,i64_w,i32_w]
             rfl
            refine pure_ (i:=14) (N:=some 53) (v:=?_) (a':=?_) #[true,true,true,true,true,true,true,true,true,true,true,true,true,true,true,false,false] rfl rfl (any_of HT_.out (by kernel_rfl)) (fun _ _ _ h=>h) (Or.inl ⟨by rfl,?_⟩) ?_ ?_
            rotate_left
            ·intro w'
             go_simp
             with_reducible rfl
            rotate_left
            ·simp only [Act.put,List.setIfInBounds_toArray,List.set_cons_zero,List.set_cons_succ,i64_w,i32_w]
             rfl
            refine pure_ (i:=15) (N:=some 54) (v:=?_) (a':=?_) #[true,true,true,true,true,true,true,true,true,true,true,true,true,true,true,true,false] rfl rfl (any_of HT_.out (by kernel_rfl)) (fun _ _ _ h=>h) (Or.inl ⟨by rfl,?_⟩) ?_ ?_
            rotate_left
            ·intro w'
             go_simp
             with_reducible rfl
            rotate_left
            ·simp only [Act.put,List.setIfInBounds_toArray,List.set_cons_zero,List.set_cons_succ,i64_w,i32_w]
             rfl
            refine last_ (i:=16) (N:=none) #[true,true,true,true,true,true,true,true,true,true,true,true,true,true,true,true,true] rfl rfl (one_of HT_.out (by kernel_rfl)) (by decide) (fun K hK=>?_)
            refine skip_ (w1:=?_) (by rfl) rfl ?_ ?_
            rotate_left
            ·go_simp
             rfl
            refine hK.out _ _ ?_
            clear hK K
            refine done_ (done_of HT_.out (by kernel_rfl)) ?_
            try go_wp2
            have n0_:Aside0 (Kd.R Kd.bool 4 (w35.setCell ⟨go23,((ji19):Int).toNat,none⟩ (.bool true)) w0.heap.size (fun k_=>((P0_0_ k_∨P0_1_ k_)∨w.heap.size≤k_)) (.slice (some ⟨go23,0,none⟩) x638000_1.length co33) y641):=⟨by (with_reducible repeat (first|apply zrA|apply zrN|apply zrD));exact HQ36.out⟩
            have n1_:Aside0 (Kd.R (Kd.int .i64) 2 (w35.setCell ⟨go23,((ji19):Int).toNat,none⟩ (.bool true)) w0.heap.size (fun k_=>((P0_0_ k_∨P0_1_ k_)∨w.heap.size≤k_)) (.slice Ao34 x638001_1.length co34) x638001_1):=⟨by (with_reducible repeat (first|apply zrA|apply zrN|apply zrD));exact Kd.R_mono (Kd.R_far (p:=⟨go23,((ji19):Int).toNat,none⟩) (Kd.R_types HO_638001.out GG23.out (by decide)) (fun _ hk=>hk.2) (.bool true)) (fun _ hk=>hk.1)⟩
            have n2_:Aside0 ((w35.setCell ⟨go23,((ji19):Int).toNat,none⟩ (.bool true)).heap[gb637]?=some (.cells #[.slice (some ⟨go23,0,none⟩) x638000_1.length co33,.slice Ao34 x638001_1.length co34,.int .i64 a0_2] 25 (0,0))):=⟨by (with_reducible repeat (first|refine zbN ?_ _|refine zbD ?_|refine zbA ?_ _));refine blk_far ?_ (by have h_:=Kd.R_ne HO_638000.out BK637.out (by decide);intro e_;exact h_ (by rw [e_];rfl)) _;(with_reducible repeat (first|refine zbN ?_ _|refine zbD ?_|refine zbA ?_ _));exact BK637.out⟩
            have n3_:Aside0 ((w35.setCell ⟨go23,((ji19):Int).toNat,none⟩ (.bool true)).heap[gb638]?=some (.cells #[.int .i64 a1_0,.int .i64 a1_1,.int .i64 a1_2,.int .i64 a1_3,.slice A1_4 l1_4.length c1_4,.slice A1_5 l1_5.length c1_5,.slice A1_6 l1_6.length c1_6] 42 (0,0))):=⟨by (with_reducible repeat (first|refine zbN ?_ _|refine zbD ?_|refine zbA ?_ _));refine blk_far ?_ (by have h_:=Kd.R_ne HO_638000.out BK638.out (by decide);intro e_;exact h_ (by rw [e_];rfl)) _;(with_reducible repeat (first|refine zbN ?_ _|refine zbD ?_|refine zbA ?_ _));exact BK638.out⟩
            have n4_:Aside0 ((w35.setCell ⟨go23,((ji19):Int).toNat,none⟩ (.bool true)).heap[gb639]?=some (.cells #[.slice none 0 0,.slice none 0 0,.int .i64 0] 25 (0,0))):=⟨by (with_reducible repeat (first|refine zbN ?_ _|refine zbD ?_|refine zbA ?_ _));refine blk_far ?_ (by have h_:=Kd.R_ne HO_638000.out BK639.out (by decide);intro e_;exact h_ (by rw [e_];rfl)) _;(with_reducible repeat (first|refine zbN ?_ _|refine zbD ?_|refine zbA ?_ _));exact BK639.out⟩
            have n5_:Aside0 (Kept w (w35.setCell ⟨go23,((ji19):Int).toNat,none⟩ (.bool true)) (fun k_=>P0_0_ k_∨P0_1_ k_)):=⟨by repeat (first|(with_reducible first|exact HK.out|apply Kept.alloc|apply Kept.drewN|apply Kept.drew|refine Kept.setCell ?_ HMgo23.out _|refine Kept.setCell ?_ (.inr GW637.out) _|refine Kept.setCell ?_ (.inr GW638.out) _|refine Kept.setCell ?_ (.inr GW639.out) _)|exact HK.out)⟩
            have n6_:Aside0 (Below w0.heap.size w0 (w35.setCell ⟨go23,((ji19):Int).toNat,none⟩ (.bool true))):=⟨by repeat (first|(with_reducible first|exact HB.out|apply zlA|apply zlN|apply zlD|refine zlS ?_ GB23.out|refine zlS ?_ GE637.out|refine zlS ?_ GE638.out|refine zlS ?_ GE639.out)|exact HB.out)⟩
            (try clear HO_638000)
            (try clear HO_638001)
            (try clear BK637)
            (try clear BK638)
            (try clear BK639)
            (try clear HK)
            (try clear HB)
            generalize (w35.setCell ⟨go23,((ji19):Int).toNat,none⟩ (.bool true))=w37 at n0_ n1_ n2_ n3_ n4_ n5_ n6_ ⊢
            have HO_638000:=n0_
            have HO_638001:=n1_
            have BK637:=n2_
            have BK638:=n3_
            have BK639:=n4_
            have HK:=n5_
            have HB:=n6_
            clear n0_ n1_ n2_ n3_ n4_ n5_ n6_
            have n0_:=zm (zrD HO_638000.out)
            have n1_:=zm (zrD HO_638001.out)
            have n2_:=zm (zbD BK637.out)
            have n3_:=zm (zbD BK638.out)
            have n4_:=zm (zbD BK639.out)
            have n5_:=zm (Kept.drew HK.out)
            have n6_:=zm (zlD HB.out)
            clear HO_638000 HO_638001 BK637 BK638 BK639 HK HB
            have HO_638000:=n0_
            have HO_638001:=n1_
            have BK637:=n2_
            have BK638:=n3_
            have BK639:=n4_
            have HK:=n5_
            have HB:=n6_
            clear n0_ n1_ n2_ n3_ n4_ n5_ n6_
            have p642:0≤((ji19):Int):=of_decide_eq_true (by first|(with_reducible assumption)|assumption)
            have q642:(ji19) < (x638001_1.length:Int):=of_decide_eq_true (by first|(with_reducible assumption)|assumption)
            obtain ⟨ad642,e642,hx642_0⟩:=Kd.at_int (Kd.R_reads' HO_638001.out).2.2 (ji19) p642 q642
            cases e642
            replace p642:=eq_true p642
            replace q642:=eq_true q642
            have p643:0≤(x5_1:Int):=of_decide_eq_true (by first|(with_reducible assumption)|assumption)
            have q643:x5_1 < (l1_5.length:Int):=of_decide_eq_true (by first|(with_reducible assumption)|assumption)
            obtain ⟨ad643,e643,hx643_0⟩:=Kd.at_int (Kd.C_kept_now HR1_5.out HK.out) x5_1 p643 q643
            have hw643_0:=hx643_0
            cases e643
            replace p643:=eq_true p643
            replace q643:=eq_true q643
            have p27:0≤((ji19):Int):=of_decide_eq_true (by first|(with_reducible assumption)|assumption)
            have q27:((ji19):Int) < ((x638001_1.length:Int):Int):=of_decide_eq_true (by first|(with_reducible assumption)|assumption)
            obtain ⟨go27,co27,eo27,gb27,gl27,cl27,HG27⟩:=Kd.R_form HO_638001.out (by omega)
            (first|cases eo27|(injection eo27 with ea_ en_ ec_;(first|subst ea_|(injection ea_ with ea_;subst ea_));subst ec_;clear en_))
            have GB27:=zm gb27
            have GG27:=zm HG27
            clear gb27 gl27 HG27
            have HMgo27:=zm (show ((P0_0_ go27∨P0_1_ go27)∨w.heap.size≤go27) from (HO_638001.out.1 _ rfl))
            (first|simp only [add_plain] at hx642_0|skip)
            obtain ⟨hx27_0,hf27_0⟩:=Kd.R_celln 0 HO_638001.out ((ji19):Int) p27 q27
            replace p27:=eq_true p27
            replace q27:=eq_true q27
            have HP39:=Kd.R_putn HO_638001.out ((ji19):Int) ji26
            rw [← Ny644.out] at HP39
            have HQ39:=zm HP39
            clear HP39
            refine start_ (n:=16) (S:=fun w'=>w'.cell? ⟨gb637,0,none⟩=some (.slice (some ⟨go23,0,none⟩) x638000_1.length co33)∧w'.cell? ⟨gb637,1,none⟩=some (.slice (some ⟨go27,0,none⟩) x638001_1.length co34)∧w'.cell? ⟨gb637,2,none⟩=some (.int .i64 a0_2)∧w'.cell? ⟨gb638,0,none⟩=some (.int .i64 a1_0)∧w'.cell? ⟨gb638,1,none⟩=some (.int .i64 a1_1)∧w'.cell? ⟨gb638,2,none⟩=some (.int .i64 a1_2)∧w'.cell? ⟨gb638,3,none⟩=some (.int .i64 a1_3)∧w'.cell? ⟨gb638,4,none⟩=some (.slice A1_4 l1_4.length c1_4)∧w'.cell? ⟨gb638,5,none⟩=some (.slice (some ad643) l1_5.length c1_5)∧w'.cell? ⟨gb638,6,none⟩=some (.slice A1_6 l1_6.length c1_6)∧w'.cell? ⟨go27,((ji19)).toNat,none⟩=some (.int .i64 (rd x638001_1 (ji19)))∧w'.cell? (ad643.add (x5_1).toNat)=some (.int .i64 (rd l1_5 x5_1))) (ds:=[15]) #[false,false,false,false,false,false,false,false,false,false,false,false,false,false,false,false] (by kernel_rfl) rfl rfl ⟨(blk_cell BK637.out 0).trans rfl,(blk_cell BK637.out 1).trans rfl,(blk_cell BK637.out 2).trans rfl,(blk_cell BK638.out 0).trans rfl,(blk_cell BK638.out 1).trans rfl,(blk_cell BK638.out 2).trans rfl,(blk_cell BK638.out 3).trans rfl,(blk_cell BK638.out 4).trans rfl,(blk_cell BK638.out 5).trans rfl,(blk_cell BK638.out 6).trans rfl,hx642_0,(Kd.foot_int (HR1_5.out _ (by repeat (first|exact HK.out|apply Kept.alloc|apply Kept.drewN|apply Kept.drew|refine Kept.setCell ?_ HMgo27.out _))) x5_1 (of_eq_true p643) (of_eq_true q643))⟩ (fun hHeld=>?_);refine with_tabW slipwayref06_know.tab7 slipwayref06_know.bits7 (fun HT_ HW_=>?_)
            generalize w37.drew=w38 at HO_638000 HO_638001 BK637 BK638 BK639 HK HB GG27 HQ36 HQ39 hf27_0 hx27_0 hx642_0 hx643_0 hHeld ⊢
            refine pure_ (i:=0) (N:=some 55) (v:=?_) (a':=?_) #[true,false,false,false,false,false,false,false,false,false,false,false,false,false,false,false] rfl rfl (any_of HT_.out (by kernel_rfl)) (fun _ _ _ h=>h) (Or.inl ⟨by rfl,?_⟩) ?_ ?_
            rotate_left
            ·intro w'
             go_simp
             with_reducible rfl
            rotate_left
            ·simp only [Act.put,List.setIfInBounds_toArray,List.set_cons_zero,List.set_cons_succ,i64_w,i32_w]
             rfl
            refine pure_ (i:=2) (N:=some 57) (v:=?_) (a':=?_) #[true,false,true,false,false,false,false,false,false,false,false,false,false,false,false,false] rfl rfl (any_of HT_.out (by kernel_rfl)) (fun _ _ _ h=>h) (Or.inl ⟨by rfl,?_⟩) ?_ ?_
            rotate_left
            ·intro w'
             go_simp
             with_reducible rfl
            rotate_left
            ·simp only [Act.put,List.setIfInBounds_toArray,List.set_cons_zero,List.set_cons_succ,i64_w,i32_w]
             rfl
            refine pure_ (i:=3) (N:=some 58) (v:=?_) (a':=?_) #[true,false,true,true,false,false,false,false,false,false,false,false,false,false,false,false] rfl rfl (any_of HT_.out (by kernel_rfl)) (fun _ _ _ h=>h) (Or.inl ⟨by rfl,?_⟩) ?_ ?_
            rotate_left
            ·intro w'
             go_simp
             with_reducible rfl
            rotate_left
            ·simp only [Act.put,List.setIfInBounds_toArray,List.set_cons_zero,List.set_cons_succ,i64_w,i32_w]
             rfl
            refine pure_ (i:=5) (N:=some 60) (v:=?_) (a':=?_) #[true,false,true,true,false,true,false,false,false,false,false,false,false,false,false,false] rfl rfl (any_of HT_.out (by kernel_rfl)) (fun _ _ _ h=>h) (Or.inl ⟨by rfl,?_⟩) ?_ ?_
            rotate_left
            ·intro w'
             go_simp
             with_reducible rfl
            rotate_left
            ·simp only [Act.put,List.setIfInBounds_toArray,List.set_cons_zero,List.set_cons_succ,i64_w,i32_w]
             rfl
            refine pure_ (i:=8) (N:=some 63) (v:=?_) (a':=?_) #[true,false,true,true,false,true,false,false,true,false,false,false,false,false,false,false] rfl rfl (any_of HT_.out (by kernel_rfl)) (fun _ _ _ h=>h) (Or.inl ⟨by rfl,?_⟩) ?_ ?_
            rotate_left
            ·intro w'
             go_simp
             with_reducible rfl
            rotate_left
            ·simp only [Act.put,List.setIfInBounds_toArray,List.set_cons_zero,List.set_cons_succ,i64_w,i32_w]
             rfl
            refine pure_ (i:=10) (N:=some 65) (v:=?_) (a':=?_) #[true,false,true,true,false,true,false,false,true,false,true,false,false,false,false,false] rfl rfl (any_of HT_.out (by kernel_rfl)) (fun _ _ _ h=>h) (Or.inl ⟨by rfl,?_⟩) ?_ ?_
            rotate_left
            ·intro w'
             go_simp
             with_reducible rfl
            rotate_left
            ·simp only [Act.put,List.setIfInBounds_toArray,List.set_cons_zero,List.set_cons_succ,i64_w,i32_w]
             rfl
            refine take_ (i:=1) (N:=some 56) (v:=?_) (a':=?_) #[true,true,true,true,false,true,false,false,true,false,true,false,false,false,false,false] rfl rfl (take_ofW HT_.out HW_.out (by kernel_rfl)) (fun _ _ _ h=>h) (Or.inl ⟨by rfl,?_⟩) hHeld ?_ ?_
            rotate_left
            ·rintro w' ⟨s0,s1,s2,s3,s4,s5,s6,s7,s8,s9,s10,s11⟩
             go_simp
             with_reducible rfl
            rotate_left
            ·simp only [Act.put,List.setIfInBounds_toArray,List.set_cons_zero,List.set_cons_succ,i64_w,i32_w]
             rfl
            refine take_ (i:=4) (N:=some 59) (v:=?_) (a':=?_) #[true,true,true,true,true,true,false,false,true,false,true,false,false,false,false,false] rfl rfl (take_ofW HT_.out HW_.out (by kernel_rfl)) (fun _ _ _ h=>h) (Or.inl ⟨by rfl,?_⟩) hHeld ?_ ?_
            rotate_left
            ·rintro w' ⟨s0,s1,s2,s3,s4,s5,s6,s7,s8,s9,s10,s11⟩
             go_simp
             with_reducible rfl
            rotate_left
            ·simp only [Act.put,List.setIfInBounds_toArray,List.set_cons_zero,List.set_cons_succ,i64_w,i32_w]
             rfl
            refine pure_ (i:=6) (N:=some 61) (v:=?_) (a':=?_) #[true,true,true,true,true,true,true,false,true,false,true,false,false,false,false,false] rfl rfl (any_of HT_.out (by kernel_rfl)) (fun _ _ _ h=>h) (Or.inl ⟨by rfl,?_⟩) ?_ ?_
            rotate_left
            ·intro w'
             go_simp
             with_reducible rfl
            rotate_left
            ·simp only [Act.put,List.setIfInBounds_toArray,List.set_cons_zero,List.set_cons_succ,i64_w,i32_w]
             rfl
            refine take_ (i:=7) (N:=some 62) (v:=?_) (a':=?_) #[true,true,true,true,true,true,true,true,true,false,true,false,false,false,false,false] rfl rfl (take_ofW HT_.out HW_.out (by kernel_rfl)) (fun _ _ _ h=>h) (Or.inl ⟨by rfl,?_⟩) hHeld ?_ ?_
            rotate_left
            ·rintro w' ⟨s0,s1,s2,s3,s4,s5,s6,s7,s8,s9,s10,s11⟩
             go_simp
             with_reducible rfl
            rotate_left
            ·simp only [Act.put,List.setIfInBounds_toArray,List.set_cons_zero,List.set_cons_succ,i64_w,i32_w]
             rfl
            refine take_ (i:=9) (N:=some 64) (v:=?_) (a':=?_) #[true,true,true,true,true,true,true,true,true,true,true,false,false,false,false,false] rfl rfl (take_ofW HT_.out HW_.out (by kernel_rfl)) (fun _ _ _ h=>h) (Or.inl ⟨by rfl,?_⟩) hHeld ?_ ?_
            rotate_left
            ·rintro w' ⟨s0,s1,s2,s3,s4,s5,s6,s7,s8,s9,s10,s11⟩
             go_simp
             with_reducible rfl
            rotate_left
            ·simp only [Act.put,List.setIfInBounds_toArray,List.set_cons_zero,List.set_cons_succ,i64_w,i32_w]
             rfl
            refine pure_ (i:=11) (N:=some 66) (v:=?_) (a':=?_) #[true,true,true,true,true,true,true,true,true,true,true,true,false,false,false,false] rfl rfl (any_of HT_.out (by kernel_rfl)) (fun _ _ _ h=>h) (Or.inl ⟨by rfl,?_⟩) ?_ ?_
            rotate_left
            ·intro w'
             go_simp
             with_reducible rfl
            rotate_left
            ·simp only [Act.put,List.setIfInBounds_toArray,List.set_cons_zero,List.set_cons_succ,i64_w,i32_w]
             rfl
            refine take_ (i:=12) (N:=some 67) (v:=?_) (a':=?_) #[true,true,true,true,true,true,true,true,true,true,true,true,true,false,false,false] rfl rfl (take_ofW HT_.out HW_.out (by kernel_rfl)) (fun _ _ _ h=>h) (Or.inl ⟨by rfl,?_⟩) hHeld ?_ ?_
            rotate_left
            ·rintro w' ⟨s0,s1,s2,s3,s4,s5,s6,s7,s8,s9,s10,s11⟩
             go_simp
             with_reducible rfl
            rotate_left
            ·simp only [Act.put,List.setIfInBounds_toArray,List.set_cons_zero,List.set_cons_succ,i64_w,i32_w]
             rfl
            refine pure_ (i:=13) (N:=some 68) (v:=?_) (a':=?_) #[true,true,true,true,true,true,true,true,true,true,true,true,true,true,false,false] rfl rfl (any_of HT_.out (by kernel_rfl)) (fun _ _ _ h=>h) (Or.inl ⟨by rfl,?_⟩) ?_ ?_
            rotate_left
            ·intro w'
             go_simp
             with_reducible rfl
            rotate_left
            ·simp only [Act.put,List.setIfInBounds_toArray,List.set_cons_zero,List.set_cons_succ,i64_w,i32_w]
             rfl
            refine pure_ (i:=14) (N:=some 69) (v:=?_) (a':=?_) #[true,true,true,true,true,true,true,true,true,true,true,true,true,true,true,false] rfl rfl (any_of HT_.out (by kernel_rfl)) (fun _ _ _ h=>h) (Or.inl ⟨by rfl,?_⟩) ?_ ?_
            rotate_left
            ·intro w'
             go_simp
             with_reducible rfl
            rotate_left
            ·simp only [Act.put,List.setIfInBounds_toArray,List.set_cons_zero,List.set_cons_succ,i64_w,i32_w]
             rfl
            refine last_ (i:=15) (N:=none) #[true,true,true,true,true,true,true,true,true,true,true,true,true,true,true,true] rfl rfl (one_of HT_.out (by kernel_rfl)) (by decide) (fun K hK=>?_)
            refine skip_ (w1:=?_) (by rfl) rfl ?_ ?_
            rotate_left
            ·go_simp
             rfl
            refine hK.out _ _ ?_
            clear hK K
            refine done_ (done_of HT_.out (by kernel_rfl)) ?_
            try go_wp2
            go_roundg kj7
            case measure=>have:=HK1.out;have:=HJ7.out;omega
            case rel=>exact ⟨(wrap64 (x5_1 + 1)),(y641),(y644),(.slice (some ⟨go23,0,none⟩) x638000_1.length co33),(.slice (some ⟨go27,0,none⟩) x638001_1.length co34),(by first|rfl|(simp;done)|(simp [*];done)),H',⟨by have:=HK1.out;have:=HJ7.out;omega⟩,⟨by (with_reducible repeat (first|apply zrA|apply zrN|apply zrD));exact Kd.R_mono (Kd.R_far (p:=⟨go27,((ji19):Int).toNat,none⟩) (Kd.R_types HO_638000.out GG27.out (by decide)) (fun _ hk=>hk.2) (.int .i64 ji26)) (fun _ hk=>hk.1)⟩,⟨by (with_reducible repeat (first|apply zrA|apply zrN|apply zrD));exact HQ39.out⟩,⟨by (with_reducible repeat (first|refine zbN ?_ _|refine zbD ?_|refine zbA ?_ _));refine blk_far ?_ (by have h_:=Kd.R_ne HO_638001.out BK637.out (by decide);intro e_;exact h_ (by rw [e_];rfl)) _;(with_reducible repeat (first|refine zbN ?_ _|refine zbD ?_|refine zbA ?_ _));exact BK637.out⟩,⟨by (with_reducible repeat (first|refine zbN ?_ _|refine zbD ?_|refine zbA ?_ _));refine blk_far ?_ (by have h_:=Kd.R_ne HO_638001.out BK638.out (by decide);intro e_;exact h_ (by rw [e_];rfl)) _;(with_reducible repeat (first|refine zbN ?_ _|refine zbD ?_|refine zbA ?_ _));exact BK638.out⟩,⟨by (with_reducible repeat (first|refine zbN ?_ _|refine zbD ?_|refine zbA ?_ _));refine blk_far ?_ (by have h_:=Kd.R_ne HO_638001.out BK639.out (by decide);intro e_;exact h_ (by rw [e_];rfl)) _;(with_reducible repeat (first|refine zbN ?_ _|refine zbD ?_|refine zbA ?_ _));exact BK639.out⟩,⟨by repeat (first|(with_reducible first|exact HK.out|apply Kept.alloc|apply Kept.drewN|apply Kept.drew|refine Kept.setCell ?_ HMgo27.out _|refine Kept.setCell ?_ (.inr GW637.out) _|refine Kept.setCell ?_ (.inr GW638.out) _|refine Kept.setCell ?_ (.inr GW639.out) _)|exact HK.out)⟩,⟨by repeat (first|(with_reducible first|exact HB.out|apply zlA|apply zlN|apply zlD|refine zlS ?_ GB27.out|refine zlS ?_ GE637.out|refine zlS ?_ GE638.out|refine zlS ?_ GE639.out)|exact HB.out)⟩⟩
           ·rw [if_neg c25] at H
            exact absurd H (by simp)
          ·rw [if_neg c24] at H
           exact absurd H (by simp)
         ·replace c22:=Bool.eq_false_iff.mpr c22
          subst c22
          have H1:(if 0≤x5_1 then (if x5_1 < (l1_4.length:Int) then (if x5_1 < (l1_5.length:Int) then (slipwayref06_know.l0 kj7 (wrap64 (x5_1 + 1)) (x638000_1.set ((ji19):Int).toNat (rdOf false l1_4 x5_1)) (x638001_1.set ((ji19):Int).toNat (mx (rd x638001_1 (ji19)) (rd l1_5 x5_1))) a0_2 a1_0 a1_1 a1_2 a1_3 l1_4 l1_5 l1_6) else (none)) else (none)) else (none))=some (r1,r2,r3):=by rw [if_neg (show ¬ (false=true) by decide)] at H;exact H
          clear H
          have H:=H1
          clear H1
          by_cases c40:0≤x5_1
          ·rw [if_pos c40] at H
           have c40b0:decide (0≤x5_1)=true:=decide_eq_true c40
           clear c40
           by_cases c41:x5_1 < (l1_4.length:Int)
           ·rw [if_pos c41] at H
            have c41b0:decide (x5_1 < (l1_4.length:Int))=true:=decide_eq_true c41
            clear c41
            obtain ⟨y646,hy646⟩:∃ y_:List Bool,y_=(x638000_1.set ((ji19):Int).toNat (rdOf false l1_4 x5_1)):=⟨_,rfl⟩
            replace H:(if x5_1 < (l1_5.length:Int) then (slipwayref06_know.l0 kj7 (wrap64 (x5_1 + 1)) y646 (x638001_1.set ((ji19):Int).toNat (mx (rd x638001_1 (ji19)) (rd l1_5 x5_1))) a0_2 a1_0 a1_1 a1_2 a1_3 l1_4 l1_5 l1_6) else (none))=some (r1,r2,r3):=by first|(rw [hy646];with_reducible exact H)|(have H2_:=(Option.bind_some _ _).symm.trans H;rw [hy646];with_reducible exact H2_)|(have H2_:=(Option.bind_some _ _).symm.trans H;with_reducible exact H2_)|with_reducible exact H|(rw [hy646];exact H)|exact H
            have Ny646:=zm hy646
            clear hy646
            by_cases c43:x5_1 < (l1_5.length:Int)
            ·rw [if_pos c43] at H
             have c43b0:decide (x5_1 < (l1_5.length:Int))=true:=decide_eq_true c43
             clear c43
             obtain ⟨ji44,hji44⟩:∃ j_:Int,(mx (rd x638001_1 (ji19)) (rd l1_5 x5_1))=j_:=⟨_,rfl⟩
             replace H:(slipwayref06_know.l0 kj7 (wrap64 (x5_1 + 1)) y646 (x638001_1.set ((ji19):Int).toNat (ji44)) a0_2 a1_0 a1_1 a1_2 a1_3 l1_4 l1_5 l1_6)=some (r1,r2,r3):=by first|(rw [hji44] at H;exact H)|(simp only [hji44] at H ⊢;exact H)
             have hji44_:(if (rd x638001_1 (ji19)) < (rd l1_5 x5_1) then (rd l1_5 x5_1) else (rd x638001_1 (ji19)))=ji44:=hji44
             obtain ⟨y649,hy649⟩:∃ y_:List Int,y_=(x638001_1.set ((ji19):Int).toNat (ji44)):=⟨_,rfl⟩
             replace H:(slipwayref06_know.l0 kj7 (wrap64 (x5_1 + 1)) y646 y649 a0_2 a1_0 a1_1 a1_2 a1_3 l1_4 l1_5 l1_6)=some (r1,r2,r3):=by first|(rw [hy649];with_reducible exact H)|(have H2_:=(Option.bind_some _ _).symm.trans H;rw [hy649];with_reducible exact H2_)|(have H2_:=(Option.bind_some _ _).symm.trans H;with_reducible exact H2_)|with_reducible exact H|(rw [hy649];exact H)|exact H
             have Ny649:=zm hy649
             clear hy649
             have H':=zm H
             clear H
             have hnb46:=NB638_637.out
             have hnc46:=NB637_638.out
             have hnb47:=NB638_639.out
             have hnc47:=NB639_638.out
             have hcz48_0:wc.cell? ⟨gb638,0,none⟩=some (.int .i64 a1_0):=(blk_cell BK638.out 0).trans rfl
             have hcz48_1:wc.cell? ⟨gb638,1,none⟩=some (.int .i64 a1_1):=(blk_cell BK638.out 1).trans rfl
             have hcz48_2:wc.cell? ⟨gb638,2,none⟩=some (.int .i64 a1_2):=(blk_cell BK638.out 2).trans rfl
             have hcz48_3:wc.cell? ⟨gb638,3,none⟩=some (.int .i64 a1_3):=(blk_cell BK638.out 3).trans rfl
             have hcz48_4:wc.cell? ⟨gb638,4,none⟩=some (.slice A1_4 l1_4.length c1_4):=(blk_cell BK638.out 4).trans rfl
             have hcz48_5:wc.cell? ⟨gb638,5,none⟩=some (.slice A1_5 l1_5.length c1_5):=(blk_cell BK638.out 5).trans rfl
             have hcz48_6:wc.cell? ⟨gb638,6,none⟩=some (.slice A1_6 l1_6.length c1_6):=(blk_cell BK638.out 6).trans rfl
             have hfz48_0:=blk_frozen BK638.out 0
             have hfz48_1:=blk_frozen BK638.out 1
             have hfz48_2:=blk_frozen BK638.out 2
             have hfz48_3:=blk_frozen BK638.out 3
             have hfz48_4:=blk_frozen BK638.out 4
             have hfz48_5:=blk_frozen BK638.out 5
             have hfz48_6:=blk_frozen BK638.out 6
             have hnb49:=NB637_639.out
             have hnc49:=NB639_637.out
             have hcz50_0:wc.cell? ⟨gb637,0,none⟩=some (u638000):=(blk_cell BK637.out 0).trans rfl
             have hcz50_1:wc.cell? ⟨gb637,1,none⟩=some (u638001):=(blk_cell BK637.out 1).trans rfl
             have hcz50_2:wc.cell? ⟨gb637,2,none⟩=some (.int .i64 a0_2):=(blk_cell BK637.out 2).trans rfl
             have hfz50_0:=blk_frozen BK637.out 0
             have hfz50_1:=blk_frozen BK637.out 1
             have hfz50_2:=blk_frozen BK637.out 2
             obtain ⟨Ao51,co51,eo51⟩:=Kd.R_slice HO_638000.out
             subst eo51
             obtain ⟨Ao52,co52,eo52⟩:=Kd.R_slice HO_638001.out
             subst eo52
             try go_wp2
             have n0_:=zm (zrD HO_638000.out)
             have n1_:=zm (zrD HO_638001.out)
             have n2_:=zm (zbD BK637.out)
             have n3_:=zm (zbD BK638.out)
             have n4_:=zm (zbD BK639.out)
             have n5_:=zm (Kept.drew HK.out)
             have n6_:=zm (zlD HB.out)
             clear HO_638000 HO_638001 BK637 BK638 BK639 HK HB
             have HO_638000:=n0_
             have HO_638001:=n1_
             have BK637:=n2_
             have BK638:=n3_
             have BK639:=n4_
             have HK:=n5_
             have HB:=n6_
             clear n0_ n1_ n2_ n3_ n4_ n5_ n6_
             have p640:0≤((ji19):Int):=of_decide_eq_true (by first|(with_reducible assumption)|assumption)
             have q640:(ji19) < (x638000_1.length:Int):=of_decide_eq_true (by first|(with_reducible assumption)|assumption)
             obtain ⟨ad640,e640,hx640_0⟩:=Kd.at_bool (Kd.R_reads' HO_638000.out).2.2 (ji19) p640 q640
             (try rw [← Nbq21.out] at hx640_0)
             cases e640
             replace p640:=eq_true p640
             replace q640:=eq_true q640
             have p645:0≤(x5_1:Int):=of_decide_eq_true (by first|(with_reducible assumption)|assumption)
             have q645:x5_1 < (l1_4.length:Int):=of_decide_eq_true (by first|(with_reducible assumption)|assumption)
             obtain ⟨ad645,e645,hx645_0⟩:=Kd.at_bool (Kd.C_kept_now HR1_4.out HK.out) x5_1 p645 q645
             have hw645_0:=hx645_0
             (try rw [← Nbq21.out] at hx645_0)
             cases e645
             replace p645:=eq_true p645
             replace q645:=eq_true q645
             have p42:0≤((ji19):Int):=of_decide_eq_true (by first|(with_reducible assumption)|assumption)
             have q42:((ji19):Int) < ((x638000_1.length:Int):Int):=of_decide_eq_true (by first|(with_reducible assumption)|assumption)
             obtain ⟨go42,co42,eo42,gb42,gl42,cl42,HG42⟩:=Kd.R_form HO_638000.out (by omega)
             (first|cases eo42|(injection eo42 with ea_ en_ ec_;(first|subst ea_|(injection ea_ with ea_;subst ea_));subst ec_;clear en_))
             have GB42:=zm gb42
             have GG42:=zm HG42
             clear gb42 gl42 HG42
             have HMgo42:=zm (show ((P0_0_ go42∨P0_1_ go42)∨w.heap.size≤go42) from (HO_638000.out.1 _ rfl))
             (first|simp only [add_plain] at hx640_0|skip)
             obtain ⟨hx42_0,hf42_0⟩:=Kd.R_celln false HO_638000.out ((ji19):Int) p42 q42
             replace p42:=eq_true p42
             replace q42:=eq_true q42
             have HP54:=Kd.R_putn HO_638000.out ((ji19):Int) (rdOf false l1_4 x5_1)
             rw [← Ny646.out] at HP54
             have HQ54:=zm HP54
             clear HP54
             refine start_ (n:=17) (S:=fun w'=>w'.cell? ⟨gb637,0,none⟩=some (.slice (some ⟨go42,0,none⟩) x638000_1.length co51)∧w'.cell? ⟨gb637,1,none⟩=some (.slice Ao52 x638001_1.length co52)∧w'.cell? ⟨gb637,2,none⟩=some (.int .i64 a0_2)∧w'.cell? ⟨gb638,0,none⟩=some (.int .i64 a1_0)∧w'.cell? ⟨gb638,1,none⟩=some (.int .i64 a1_1)∧w'.cell? ⟨gb638,2,none⟩=some (.int .i64 a1_2)∧w'.cell? ⟨gb638,3,none⟩=some (.int .i64 a1_3)∧w'.cell? ⟨gb638,4,none⟩=some (.slice (some ad645) l1_4.length c1_4)∧w'.cell? ⟨gb638,5,none⟩=some (.slice A1_5 l1_5.length c1_5)∧w'.cell? ⟨gb638,6,none⟩=some (.slice A1_6 l1_6.length c1_6)∧w'.cell? ⟨go42,((ji19)).toNat,none⟩=some (.bool false)∧w'.cell? (ad645.add (x5_1).toNat)=some (.bool (rdOf false l1_4 x5_1))) (ds:=[16]) #[false,false,false,false,false,false,false,false,false,false,false,false,false,false,false,false,false] (by kernel_rfl) rfl rfl ⟨(blk_cell BK637.out 0).trans rfl,(blk_cell BK637.out 1).trans rfl,(blk_cell BK637.out 2).trans rfl,(blk_cell BK638.out 0).trans rfl,(blk_cell BK638.out 1).trans rfl,(blk_cell BK638.out 2).trans rfl,(blk_cell BK638.out 3).trans rfl,(blk_cell BK638.out 4).trans rfl,(blk_cell BK638.out 5).trans rfl,(blk_cell BK638.out 6).trans rfl,hx640_0,(Kd.foot_bool (HR1_4.out _ (by repeat (first|exact HK.out|apply Kept.alloc|apply Kept.drewN|apply Kept.drew|refine Kept.setCell ?_ HMgo42.out _))) x5_1 (of_eq_true p645) (of_eq_true q645))⟩ (fun hHeld=>?_);refine with_tabW slipwayref06_know.tab6 slipwayref06_know.bits6 (fun HT_ HW_=>?_)
             generalize wc.drew=w53 at HO_638000 HO_638001 BK637 BK638 BK639 HK HB GG42 HQ54 hf42_0 hx42_0 hx640_0 hx645_0 hHeld ⊢
             refine pure_ (i:=0) (N:=some 39) (v:=?_) (a':=?_) #[true,false,false,false,false,false,false,false,false,false,false,false,false,false,false,false,false] rfl rfl (any_of HT_.out (by kernel_rfl)) (fun _ _ _ h=>h) (Or.inl ⟨by rfl,?_⟩) ?_ ?_
             rotate_left
             ·intro w'
              go_simp
              with_reducible rfl
             rotate_left
             ·simp only [Act.put,List.setIfInBounds_toArray,List.set_cons_zero,List.set_cons_succ,i64_w,i32_w]
              rfl
             refine pure_ (i:=2) (N:=some 41) (v:=?_) (a':=?_) #[true,false,true,false,false,false,false,false,false,false,false,false,false,false,false,false,false] rfl rfl (any_of HT_.out (by kernel_rfl)) (fun _ _ _ h=>h) (Or.inl ⟨by rfl,?_⟩) ?_ ?_
             rotate_left
             ·intro w'
              go_simp
              with_reducible rfl
             rotate_left
             ·simp only [Act.put,List.setIfInBounds_toArray,List.set_cons_zero,List.set_cons_succ,i64_w,i32_w]
              rfl
             refine pure_ (i:=3) (N:=some 42) (v:=?_) (a':=?_) #[true,false,true,true,false,false,false,false,false,false,false,false,false,false,false,false,false] rfl rfl (any_of HT_.out (by kernel_rfl)) (fun _ _ _ h=>h) (Or.inl ⟨by rfl,?_⟩) ?_ ?_
             rotate_left
             ·intro w'
              go_simp
              with_reducible rfl
             rotate_left
             ·simp only [Act.put,List.setIfInBounds_toArray,List.set_cons_zero,List.set_cons_succ,i64_w,i32_w]
              rfl
             refine pure_ (i:=5) (N:=some 44) (v:=?_) (a':=?_) #[true,false,true,true,false,true,false,false,false,false,false,false,false,false,false,false,false] rfl rfl (any_of HT_.out (by kernel_rfl)) (fun _ _ _ h=>h) (Or.inl ⟨by rfl,?_⟩) ?_ ?_
             rotate_left
             ·intro w'
              go_simp
              with_reducible rfl
             rotate_left
             ·simp only [Act.put,List.setIfInBounds_toArray,List.set_cons_zero,List.set_cons_succ,i64_w,i32_w]
              rfl
             refine take_ (i:=1) (N:=some 40) (v:=?_) (a':=?_) #[true,true,true,true,false,true,false,false,false,false,false,false,false,false,false,false,false] rfl rfl (take_ofW HT_.out HW_.out (by kernel_rfl)) (fun _ _ _ h=>h) (Or.inl ⟨by rfl,?_⟩) hHeld ?_ ?_
             rotate_left
             ·rintro w' ⟨s0,s1,s2,s3,s4,s5,s6,s7,s8,s9,s10,s11⟩
              go_simp
              with_reducible rfl
             rotate_left
             ·simp only [Act.put,List.setIfInBounds_toArray,List.set_cons_zero,List.set_cons_succ,i64_w,i32_w]
              rfl
             refine take_ (i:=4) (N:=some 43) (v:=?_) (a':=?_) #[true,true,true,true,true,true,false,false,false,false,false,false,false,false,false,false,false] rfl rfl (take_ofW HT_.out HW_.out (by kernel_rfl)) (fun _ _ _ h=>h) (Or.inl ⟨by rfl,?_⟩) hHeld ?_ ?_
             rotate_left
             ·rintro w' ⟨s0,s1,s2,s3,s4,s5,s6,s7,s8,s9,s10,s11⟩
              go_simp
              with_reducible rfl
             rotate_left
             ·simp only [Act.put,List.setIfInBounds_toArray,List.set_cons_zero,List.set_cons_succ,i64_w,i32_w]
              rfl
             refine pure_ (i:=6) (N:=some 45) (v:=?_) (a':=?_) #[true,true,true,true,true,true,true,false,false,false,false,false,false,false,false,false,false] rfl rfl (any_of HT_.out (by kernel_rfl)) (fun _ _ _ h=>h) (Or.inl ⟨by rfl,?_⟩) ?_ ?_
             rotate_left
             ·intro w'
              go_simp
              with_reducible rfl
             rotate_left
             ·simp only [Act.put,List.setIfInBounds_toArray,List.set_cons_zero,List.set_cons_succ,i64_w,i32_w]
              rfl
             refine take_ (i:=7) (N:=some 46) (v:=?_) (a':=?_) #[true,true,true,true,true,true,true,true,false,false,false,false,false,false,false,false,false] rfl rfl (take_ofW HT_.out HW_.out (by kernel_rfl)) (fun _ _ _ h=>h) (Or.inl ⟨by rfl,?_⟩) hHeld ?_ ?_
             rotate_left
             ·rintro w' ⟨s0,s1,s2,s3,s4,s5,s6,s7,s8,s9,s10,s11⟩
              go_simp
              with_reducible rfl
             rotate_left
             ·simp only [Act.put,List.setIfInBounds_toArray,List.set_cons_zero,List.set_cons_succ,i64_w,i32_w]
              rfl
             refine pure_ (i:=8) (N:=some 47) (v:=?_) (a':=?_) #[true,true,true,true,true,true,true,true,true,false,false,false,false,false,false,false,false] rfl rfl (any_of HT_.out (by kernel_rfl)) (fun _ _ _ h=>h) (Or.inl ⟨by rfl,?_⟩) ?_ ?_
             rotate_left
             ·intro w'
              go_simp
              with_reducible rfl
             rotate_left
             ·simp only [Act.put,List.setIfInBounds_toArray,List.set_cons_zero,List.set_cons_succ,i64_w,i32_w]
              rfl
             refine pure_ (i:=9) (N:=some 48) (v:=?_) (a':=?_) #[true,true,true,true,true,true,true,true,true,true,false,false,false,false,false,false,false] rfl rfl (any_of HT_.out (by kernel_rfl)) (fun _ _ _ h=>h) (Or.inl ⟨by rfl,?_⟩) ?_ ?_
             rotate_left
             ·intro w'
              go_simp
              with_reducible rfl
             rotate_left
             ·simp only [Act.put,List.setIfInBounds_toArray,List.set_cons_zero,List.set_cons_succ,i64_w,i32_w]
              rfl
             refine pure_ (i:=11) (N:=some 50) (v:=?_) (a':=?_) #[true,true,true,true,true,true,true,true,true,true,false,true,false,false,false,false,false] rfl rfl (any_of HT_.out (by kernel_rfl)) (fun _ _ _ h=>h) (Or.inl ⟨by rfl,?_⟩) ?_ ?_
             rotate_left
             ·intro w'
              go_simp
              with_reducible rfl
             rotate_left
             ·simp only [Act.put,List.setIfInBounds_toArray,List.set_cons_zero,List.set_cons_succ,i64_w,i32_w]
              rfl
             refine take_ (i:=10) (N:=some 49) (v:=?_) (a':=?_) #[true,true,true,true,true,true,true,true,true,true,true,true,false,false,false,false,false] rfl rfl (take_ofW HT_.out HW_.out (by kernel_rfl)) (fun _ _ _ h=>h) (Or.inl ⟨by rfl,?_⟩) hHeld ?_ ?_
             rotate_left
             ·rintro w' ⟨s0,s1,s2,s3,s4,s5,s6,s7,s8,s9,s10,s11⟩
              go_simp
              with_reducible rfl
             rotate_left
             ·simp only [Act.put,List.setIfInBounds_toArray,List.set_cons_zero,List.set_cons_succ,i64_w,i32_w]
              rfl
             refine pure_ (i:=12) (N:=some 51) (v:=?_) (a':=?_) #[true,true,true,true,true,true,true,true,true,true,true,true,true,false,false,false,false] rfl rfl (any_of HT_.out (by kernel_rfl)) (fun _ _ _ h=>h) (Or.inl ⟨by rfl,?_⟩) ?_ ?_
             rotate_left
             ·intro w'
              go_simp
              with_reducible rfl
             rotate_left
             ·simp only [Act.put,List.setIfInBounds_toArray,List.set_cons_zero,List.set_cons_succ,i64_w,i32_w]
              rfl
             refine take_ (i:=13) (N:=some 52) (v:=?_) (a':=?_) #[true,true,true,true,true,true,true,true,true,true,true,true,true,true,false,false,false] rfl rfl (take_ofW HT_.out HW_.out (by kernel_rfl)) (fun _ _ _ h=>h) (Or.inl ⟨by rfl,?_⟩) hHeld ?_ ?_
             rotate_left
             ·rintro w' ⟨s0,s1,s2,s3,s4,s5,s6,s7,s8,s9,s10,s11⟩
              go_simp
              with_reducible rfl
             rotate_left
             ·simp only [Act.put,List.setIfInBounds_toArray,List.set_cons_zero,List.set_cons_succ,i64_w,i32_w]
              rfl
             refine pure_ (i:=14) (N:=some 53) (v:=?_) (a':=?_) #[true,true,true,true,true,true,true,true,true,true,true,true,true,true,true,false,false] rfl rfl (any_of HT_.out (by kernel_rfl)) (fun _ _ _ h=>h) (Or.inl ⟨by rfl,?_⟩) ?_ ?_
             rotate_left
             ·intro w'
              go_simp
              with_reducible rfl
             rotate_left
             ·simp only [Act.put,List.setIfInBounds_toArray,List.set_cons_zero,List.set_cons_succ,i64_w,i32_w]
              rfl
             refine pure_ (i:=15) (N:=some 54) (v:=?_) (a':=?_) #[true,true,true,true,true,true,true,true,true,true,true,true,true,true,true,true,false] rfl rfl (any_of HT_.out (by kernel_rfl)) (fun _ _ _ h=>h) (Or.inl ⟨by rfl,?_⟩) ?_ ?_
             rotate_left
             ·intro w'
              go_simp
              with_reducible rfl
             rotate_left
             ·simp only [Act.put,List.setIfInBounds_toArray,List.set_cons_zero,List.set_cons_succ,i64_w,i32_w]
              rfl
             refine last_ (i:=16) (N:=none) #[true,true,true,true,true,true,true,true,true,true,true,true,true,true,true,true,true] rfl rfl (one_of HT_.out (by kernel_rfl)) (by decide) (fun K hK=>?_)
             refine skip_ (w1:=?_) (by rfl) rfl ?_ ?_
             rotate_left
             ·go_simp
              rfl
             refine hK.out _ _ ?_
             clear hK K
             refine done_ (done_of HT_.out (by kernel_rfl)) ?_
             try go_wp2
             have n0_:Aside0 (Kd.R Kd.bool 4 (w53.setCell ⟨go42,((ji19):Int).toNat,none⟩ (.bool (rdOf false l1_4 x5_1))) w0.heap.size (fun k_=>((P0_0_ k_∨P0_1_ k_)∨w.heap.size≤k_)) (.slice (some ⟨go42,0,none⟩) x638000_1.length co51) y646):=⟨by (with_reducible repeat (first|apply zrA|apply zrN|apply zrD));exact HQ54.out⟩
             have n1_:Aside0 (Kd.R (Kd.int .i64) 2 (w53.setCell ⟨go42,((ji19):Int).toNat,none⟩ (.bool (rdOf false l1_4 x5_1))) w0.heap.size (fun k_=>((P0_0_ k_∨P0_1_ k_)∨w.heap.size≤k_)) (.slice Ao52 x638001_1.length co52) x638001_1):=⟨by (with_reducible repeat (first|apply zrA|apply zrN|apply zrD));exact Kd.R_mono (Kd.R_far (p:=⟨go42,((ji19):Int).toNat,none⟩) (Kd.R_types HO_638001.out GG42.out (by decide)) (fun _ hk=>hk.2) (.bool (rdOf false l1_4 x5_1))) (fun _ hk=>hk.1)⟩
             have n2_:Aside0 ((w53.setCell ⟨go42,((ji19):Int).toNat,none⟩ (.bool (rdOf false l1_4 x5_1))).heap[gb637]?=some (.cells #[.slice (some ⟨go42,0,none⟩) x638000_1.length co51,.slice Ao52 x638001_1.length co52,.int .i64 a0_2] 25 (0,0))):=⟨by (with_reducible repeat (first|refine zbN ?_ _|refine zbD ?_|refine zbA ?_ _));refine blk_far ?_ (by have h_:=Kd.R_ne HO_638000.out BK637.out (by decide);intro e_;exact h_ (by rw [e_];rfl)) _;(with_reducible repeat (first|refine zbN ?_ _|refine zbD ?_|refine zbA ?_ _));exact BK637.out⟩
             have n3_:Aside0 ((w53.setCell ⟨go42,((ji19):Int).toNat,none⟩ (.bool (rdOf false l1_4 x5_1))).heap[gb638]?=some (.cells #[.int .i64 a1_0,.int .i64 a1_1,.int .i64 a1_2,.int .i64 a1_3,.slice (some ad645) l1_4.length c1_4,.slice A1_5 l1_5.length c1_5,.slice A1_6 l1_6.length c1_6] 42 (0,0))):=⟨by (with_reducible repeat (first|refine zbN ?_ _|refine zbD ?_|refine zbA ?_ _));refine blk_far ?_ (by have h_:=Kd.R_ne HO_638000.out BK638.out (by decide);intro e_;exact h_ (by rw [e_];rfl)) _;(with_reducible repeat (first|refine zbN ?_ _|refine zbD ?_|refine zbA ?_ _));exact BK638.out⟩
             have n4_:Aside0 ((w53.setCell ⟨go42,((ji19):Int).toNat,none⟩ (.bool (rdOf false l1_4 x5_1))).heap[gb639]?=some (.cells #[.slice none 0 0,.slice none 0 0,.int .i64 0] 25 (0,0))):=⟨by (with_reducible repeat (first|refine zbN ?_ _|refine zbD ?_|refine zbA ?_ _));refine blk_far ?_ (by have h_:=Kd.R_ne HO_638000.out BK639.out (by decide);intro e_;exact h_ (by rw [e_];rfl)) _;(with_reducible repeat (first|refine zbN ?_ _|refine zbD ?_|refine zbA ?_ _));exact BK639.out⟩
             have n5_:Aside0 (Kept w (w53.setCell ⟨go42,((ji19):Int).toNat,none⟩ (.bool (rdOf false l1_4 x5_1))) (fun k_=>P0_0_ k_∨P0_1_ k_)):=⟨by repeat (first|(with_reducible first|exact HK.out|apply Kept.alloc|apply Kept.drewN|apply Kept.drew|refine Kept.setCell ?_ HMgo42.out _|refine Kept.setCell ?_ (.inr GW637.out) _|refine Kept.setCell ?_ (.inr GW638.out) _|refine Kept.setCell ?_ (.inr GW639.out) _)|exact HK.out)⟩
             have n6_:Aside0 (Below w0.heap.size w0 (w53.setCell ⟨go42,((ji19):Int).toNat,none⟩ (.bool (rdOf false l1_4 x5_1)))):=⟨by repeat (first|(with_reducible first|exact HB.out|apply zlA|apply zlN|apply zlD|refine zlS ?_ GB42.out|refine zlS ?_ GE637.out|refine zlS ?_ GE638.out|refine zlS ?_ GE639.out)|exact HB.out)⟩
             (try clear HO_638000)
             (try clear HO_638001)
             (try clear BK637)
             (try clear BK638)
             (try clear BK639)
             (try clear HK)
             (try clear HB)
             generalize (w53.setCell ⟨go42,((ji19):Int).toNat,none⟩ (.bool (rdOf false l1_4 x5_1)))=w55 at n0_ n1_ n2_ n3_ n4_ n5_ n6_ ⊢
             have HO_638000:=n0_
             have HO_638001:=n1_
             have BK637:=n2_
             have BK638:=n3_
             have BK639:=n4_
             have HK:=n5_
             have HB:=n6_
             clear n0_ n1_ n2_ n3_ n4_ n5_ n6_
             have n0_:=zm (zrD HO_638000.out)
             have n1_:=zm (zrD HO_638001.out)
             have n2_:=zm (zbD BK637.out)
             have n3_:=zm (zbD BK638.out)
             have n4_:=zm (zbD BK639.out)
             have n5_:=zm (Kept.drew HK.out)
             have n6_:=zm (zlD HB.out)
             clear HO_638000 HO_638001 BK637 BK638 BK639 HK HB
             have HO_638000:=n0_
             have HO_638001:=n1_
             have BK637:=n2_
             have BK638:=n3_
             have BK639:=n4_
             have HK:=n5_
             have HB:=n6_
             clear n0_ n1_ n2_ n3_ n4_ n5_ n6_
             have p647:0≤((ji19):Int):=of_decide_eq_true (by first|(with_reducible assumption)|assumption)
             have q647:(ji19) < (x638001_1.length:Int):=of_decide_eq_true (by first|(with_reducible assumption)|assumption)
             obtain ⟨ad647,e647,hx647_0⟩:=Kd.at_int (Kd.R_reads' HO_638001.out).2.2 (ji19) p647 q647
             cases e647
             replace p647:=eq_true p647
             replace q647:=eq_true q647
             have p648:0≤(x5_1:Int):=of_decide_eq_true (by first|(with_reducible assumption)|assumption)
             have q648:x5_1 < (l1_5.length:Int):=of_decide_eq_true (by first|(with_reducible assumption)|assumption)
             obtain ⟨ad648,e648,hx648_0⟩:=Kd.at_int (Kd.C_kept_now HR1_5.out HK.out) x5_1 p648 q648
             have hw648_0:=hx648_0
             cases e648
             replace p648:=eq_true p648
             replace q648:=eq_true q648
             have p45:0≤((ji19):Int):=of_decide_eq_true (by first|(with_reducible assumption)|assumption)
             have q45:((ji19):Int) < ((x638001_1.length:Int):Int):=of_decide_eq_true (by first|(with_reducible assumption)|assumption)
             obtain ⟨go45,co45,eo45,gb45,gl45,cl45,HG45⟩:=Kd.R_form HO_638001.out (by omega)
             (first|cases eo45|(injection eo45 with ea_ en_ ec_;(first|subst ea_|(injection ea_ with ea_;subst ea_));subst ec_;clear en_))
             have GB45:=zm gb45
             have GG45:=zm HG45
             clear gb45 gl45 HG45
             have HMgo45:=zm (show ((P0_0_ go45∨P0_1_ go45)∨w.heap.size≤go45) from (HO_638001.out.1 _ rfl))
             (first|simp only [add_plain] at hx647_0|skip)
             obtain ⟨hx45_0,hf45_0⟩:=Kd.R_celln 0 HO_638001.out ((ji19):Int) p45 q45
             replace p45:=eq_true p45
             replace q45:=eq_true q45
             have HP57:=Kd.R_putn HO_638001.out ((ji19):Int) ji44
             rw [← Ny649.out] at HP57
             have HQ57:=zm HP57
             clear HP57
             refine start_ (n:=16) (S:=fun w'=>w'.cell? ⟨gb637,0,none⟩=some (.slice (some ⟨go42,0,none⟩) x638000_1.length co51)∧w'.cell? ⟨gb637,1,none⟩=some (.slice (some ⟨go45,0,none⟩) x638001_1.length co52)∧w'.cell? ⟨gb637,2,none⟩=some (.int .i64 a0_2)∧w'.cell? ⟨gb638,0,none⟩=some (.int .i64 a1_0)∧w'.cell? ⟨gb638,1,none⟩=some (.int .i64 a1_1)∧w'.cell? ⟨gb638,2,none⟩=some (.int .i64 a1_2)∧w'.cell? ⟨gb638,3,none⟩=some (.int .i64 a1_3)∧w'.cell? ⟨gb638,4,none⟩=some (.slice (some ad645) l1_4.length c1_4)∧w'.cell? ⟨gb638,5,none⟩=some (.slice (some ad648) l1_5.length c1_5)∧w'.cell? ⟨gb638,6,none⟩=some (.slice A1_6 l1_6.length c1_6)∧w'.cell? ⟨go45,((ji19)).toNat,none⟩=some (.int .i64 (rd x638001_1 (ji19)))∧w'.cell? (ad648.add (x5_1).toNat)=some (.int .i64 (rd l1_5 x5_1))) (ds:=[15]) #[false,false,false,false,false,false,false,false,false,false,false,false,false,false,false,false] (by kernel_rfl) rfl rfl ⟨(blk_cell BK637.out 0).trans rfl,(blk_cell BK637.out 1).trans rfl,(blk_cell BK637.out 2).trans rfl,(blk_cell BK638.out 0).trans rfl,(blk_cell BK638.out 1).trans rfl,(blk_cell BK638.out 2).trans rfl,(blk_cell BK638.out 3).trans rfl,(blk_cell BK638.out 4).trans rfl,(blk_cell BK638.out 5).trans rfl,(blk_cell BK638.out 6).trans rfl,hx647_0,(Kd.foot_int (HR1_5.out _ (by repeat (first|exact HK.out|apply Kept.alloc|apply Kept.drewN|apply Kept.drew|refine Kept.setCell ?_ HMgo45.out _))) x5_1 (of_eq_true p648) (of_eq_true q648))⟩ (fun hHeld=>?_);refine with_tabW slipwayref06_know.tab7 slipwayref06_know.bits7 (fun HT_ HW_=>?_)
             generalize w55.drew=w56 at HO_638000 HO_638001 BK637 BK638 BK639 HK HB GG45 HQ54 HQ57 hf45_0 hx45_0 hx647_0 hx648_0 hHeld ⊢
             refine pure_ (i:=0) (N:=some 55) (v:=?_) (a':=?_) #[true,false,false,false,false,false,false,false,false,false,false,false,false,false,false,false] rfl rfl (any_of HT_.out (by kernel_rfl)) (fun _ _ _ h=>h) (Or.inl ⟨by rfl,?_⟩) ?_ ?_
             rotate_left
             ·intro w'
              go_simp
              with_reducible rfl
             rotate_left
             ·simp only [Act.put,List.setIfInBounds_toArray,List.set_cons_zero,List.set_cons_succ,i64_w,i32_w]
              rfl
             refine pure_ (i:=2) (N:=some 57) (v:=?_) (a':=?_) #[true,false,true,false,false,false,false,false,false,false,false,false,false,false,false,false] rfl rfl (any_of HT_.out (by kernel_rfl)) (fun _ _ _ h=>h) (Or.inl ⟨by rfl,?_⟩) ?_ ?_
             rotate_left
             ·intro w'
              go_simp
              with_reducible rfl
             rotate_left
             ·simp only [Act.put,List.setIfInBounds_toArray,List.set_cons_zero,List.set_cons_succ,i64_w,i32_w]
              rfl
             refine pure_ (i:=3) (N:=some 58) (v:=?_) (a':=?_) #[true,false,true,true,false,false,false,false,false,false,false,false,false,false,false,false] rfl rfl (any_of HT_.out (by kernel_rfl)) (fun _ _ _ h=>h) (Or.inl ⟨by rfl,?_⟩) ?_ ?_
             rotate_left
             ·intro w'
              go_simp
              with_reducible rfl
             rotate_left
             ·simp only [Act.put,List.setIfInBounds_toArray,List.set_cons_zero,List.set_cons_succ,i64_w,i32_w]
              rfl
             refine pure_ (i:=5) (N:=some 60) (v:=?_) (a':=?_) #[true,false,true,true,false,true,false,false,false,false,false,false,false,false,false,false] rfl rfl (any_of HT_.out (by kernel_rfl)) (fun _ _ _ h=>h) (Or.inl ⟨by rfl,?_⟩) ?_ ?_
             rotate_left
             ·intro w'
              go_simp
              with_reducible rfl
             rotate_left
             ·simp only [Act.put,List.setIfInBounds_toArray,List.set_cons_zero,List.set_cons_succ,i64_w,i32_w]
              rfl
             refine pure_ (i:=8) (N:=some 63) (v:=?_) (a':=?_) #[true,false,true,true,false,true,false,false,true,false,false,false,false,false,false,false] rfl rfl (any_of HT_.out (by kernel_rfl)) (fun _ _ _ h=>h) (Or.inl ⟨by rfl,?_⟩) ?_ ?_
             rotate_left
             ·intro w'
              go_simp
              with_reducible rfl
             rotate_left
             ·simp only [Act.put,List.setIfInBounds_toArray,List.set_cons_zero,List.set_cons_succ,i64_w,i32_w]
              rfl
             refine pure_ (i:=10) (N:=some 65) (v:=?_) (a':=?_) #[true,false,true,true,false,true,false,false,true,false,true,false,false,false,false,false] rfl rfl (any_of HT_.out (by kernel_rfl)) (fun _ _ _ h=>h) (Or.inl ⟨by rfl,?_⟩) ?_ ?_
             rotate_left
             ·intro w'
              go_simp
              with_reducible rfl
             rotate_left
             ·simp only [Act.put,List.setIfInBounds_toArray,List.set_cons_zero,List.set_cons_succ,i64_w,i32_w]
              rfl
             refine take_ (i:=1) (N:=some 56) (v:=?_) (a':=?_) #[true,true,true,true,false,true,false,false,true,false,true,false,false,false,false,false] rfl rfl (take_ofW HT_.out HW_.out (by kernel_rfl)) (fun _ _ _ h=>h) (Or.inl ⟨by rfl,?_⟩) hHeld ?_ ?_
             rotate_left
             ·rintro w' ⟨s0,s1,s2,s3,s4,s5,s6,s7,s8,s9,s10,s11⟩
              go_simp
              with_reducible rfl
             rotate_left
             ·simp only [Act.put,List.setIfInBounds_toArray,List.set_cons_zero,List.set_cons_succ,i64_w,i32_w]
              rfl
             refine take_ (i:=4) (N:=some 59) (v:=?_) (a':=?_) #[true,true,true,true,true,true,false,false,true,false,true,false,false,false,false,false] rfl rfl (take_ofW HT_.out HW_.out (by kernel_rfl)) (fun _ _ _ h=>h) (Or.inl ⟨by rfl,?_⟩) hHeld ?_ ?_
             rotate_left
             ·rintro w' ⟨s0,s1,s2,s3,s4,s5,s6,s7,s8,s9,s10,s11⟩
              go_simp
              with_reducible rfl
             rotate_left
             ·simp only [Act.put,List.setIfInBounds_toArray,List.set_cons_zero,List.set_cons_succ,i64_w,i32_w]
              rfl
             refine pure_ (i:=6) (N:=some 61) (v:=?_) (a':=?_) #[true,true,true,true,true,true,true,false,true,false,true,false,false,false,false,false] rfl rfl (any_of HT_.out (by kernel_rfl)) (fun _ _ _ h=>h) (Or.inl ⟨by rfl,?_⟩) ?_ ?_
             rotate_left
             ·intro w'
              go_simp
              with_reducible rfl
             rotate_left
             ·simp only [Act.put,List.setIfInBounds_toArray,List.set_cons_zero,List.set_cons_succ,i64_w,i32_w]
              rfl
             refine take_ (i:=7) (N:=some 62) (v:=?_) (a':=?_) #[true,true,true,true,true,true,true,true,true,false,true,false,false,false,false,false] rfl rfl (take_ofW HT_.out HW_.out (by kernel_rfl)) (fun _ _ _ h=>h) (Or.inl ⟨by rfl,?_⟩) hHeld ?_ ?_
             rotate_left
             ·rintro w' ⟨s0,s1,s2,s3,s4,s5,s6,s7,s8,s9,s10,s11⟩
              go_simp
              with_reducible rfl
             rotate_left
             ·simp only [Act.put,List.setIfInBounds_toArray,List.set_cons_zero,List.set_cons_succ,i64_w,i32_w]
              rfl
             refine take_ (i:=9) (N:=some 64) (v:=?_) (a':=?_) #[true,true,true,true,true,true,true,true,true,true,true,false,false,false,false,false] rfl rfl (take_ofW HT_.out HW_.out (by kernel_rfl)) (fun _ _ _ h=>h) (Or.inl ⟨by rfl,?_⟩) hHeld ?_ ?_
             rotate_left
             ·rintro w' ⟨s0,s1,s2,s3,s4,s5,s6,s7,s8,s9,s10,s11⟩
              go_simp
              with_reducible rfl
             rotate_left
             ·simp only [Act.put,List.setIfInBounds_toArray,List.set_cons_zero,List.set_cons_succ,i64_w,i32_w]
              rfl
             refine pure_ (i:=11) (N:=some 66) (v:=?_) (a':=?_) #[true,true,true,true,true,true,true,true,true,true,true,true,false,false,false,false] rfl rfl (any_of HT_.out (by kernel_rfl)) (fun _ _ _ h=>h) (Or.inl ⟨by rfl,?_⟩) ?_ ?_
             rotate_left
             ·intro w'
              go_simp
              with_reducible rfl
             rotate_left
             ·simp only [Act.put,List.setIfInBounds_toArray,List.set_cons_zero,List.set_cons_succ,i64_w,i32_w]
              rfl
             refine take_ (i:=12) (N:=some 67) (v:=?_) (a':=?_) #[true,true,true,true,true,true,true,true,true,true,true,true,true,false,false,false] rfl rfl (take_ofW HT_.out HW_.out (by kernel_rfl)) (fun _ _ _ h=>h) (Or.inl ⟨by rfl,?_⟩) hHeld ?_ ?_
             rotate_left
             ·rintro w' ⟨s0,s1,s2,s3,s4,s5,s6,s7,s8,s9,s10,s11⟩
              go_simp
              with_reducible rfl
             rotate_left
             ·simp only [Act.put,List.setIfInBounds_toArray,List.set_cons_zero,List.set_cons_succ,i64_w,i32_w]
              rfl
             refine pure_ (i:=13) (N:=some 68) (v:=?_) (a':=?_) #[true,true,true,true,true,true,true,true,true,true,true,true,true,true,false,false] rfl rfl (any_of HT_.out (by kernel_rfl)) (fun _ _ _ h=>h) (Or.inl ⟨by rfl,?_⟩) ?_ ?_
             rotate_left
             ·intro w'
              go_simp
              with_reducible rfl
             rotate_left
             ·simp only [Act.put,List.setIfInBounds_toArray,List.set_cons_zero,List.set_cons_succ,i64_w,i32_w]
              rfl
             refine pure_ (i:=14) (N:=some 69) (v:=?_) (a':=?_) #[true,true,true,true,true,true,true,true,true,true,true,true,true,true,true,false] rfl rfl (any_of HT_.out (by kernel_rfl)) (fun _ _ _ h=>h) (Or.inl ⟨by rfl,?_⟩) ?_ ?_
             rotate_left
             ·intro w'
              go_simp
              with_reducible rfl
             rotate_left
             ·simp only [Act.put,List.setIfInBounds_toArray,List.set_cons_zero,List.set_cons_succ,i64_w,i32_w]
              rfl
             refine last_ (i:=15) (N:=none) #[true,true,true,true,true,true,true,true,true,true,true,true,true,true,true,true] rfl rfl (one_of HT_.out (by kernel_rfl)) (by decide) (fun K hK=>?_)
             refine skip_ (w1:=?_) (by rfl) rfl ?_ ?_
             rotate_left
             ·go_simp
              rfl
             refine hK.out _ _ ?_
             clear hK K
             refine done_ (done_of HT_.out (by kernel_rfl)) ?_
             try go_wp2
             go_roundg kj7
             case measure=>have:=HK1.out;have:=HJ7.out;omega
             case rel=>exact ⟨(wrap64 (x5_1 + 1)),(y646),(y649),(.slice (some ⟨go42,0,none⟩) x638000_1.length co51),(.slice (some ⟨go45,0,none⟩) x638001_1.length co52),(by first|rfl|(simp;done)|(simp [*];done)),H',⟨by have:=HK1.out;have:=HJ7.out;omega⟩,⟨by (with_reducible repeat (first|apply zrA|apply zrN|apply zrD));exact Kd.R_mono (Kd.R_far (p:=⟨go45,((ji19):Int).toNat,none⟩) (Kd.R_types HO_638000.out GG45.out (by decide)) (fun _ hk=>hk.2) (.int .i64 ji44)) (fun _ hk=>hk.1)⟩,⟨by (with_reducible repeat (first|apply zrA|apply zrN|apply zrD));exact HQ57.out⟩,⟨by (with_reducible repeat (first|refine zbN ?_ _|refine zbD ?_|refine zbA ?_ _));refine blk_far ?_ (by have h_:=Kd.R_ne HO_638001.out BK637.out (by decide);intro e_;exact h_ (by rw [e_];rfl)) _;(with_reducible repeat (first|refine zbN ?_ _|refine zbD ?_|refine zbA ?_ _));exact BK637.out⟩,⟨by (with_reducible repeat (first|refine zbN ?_ _|refine zbD ?_|refine zbA ?_ _));refine blk_far ?_ (by have h_:=Kd.R_ne HO_638001.out BK638.out (by decide);intro e_;exact h_ (by rw [e_];rfl)) _;(with_reducible repeat (first|refine zbN ?_ _|refine zbD ?_|refine zbA ?_ _));exact BK638.out⟩,⟨by (with_reducible repeat (first|refine zbN ?_ _|refine zbD ?_|refine zbA ?_ _));refine blk_far ?_ (by have h_:=Kd.R_ne HO_638001.out BK639.out (by decide);intro e_;exact h_ (by rw [e_];rfl)) _;(with_reducible repeat (first|refine zbN ?_ _|refine zbD ?_|refine zbA ?_ _));exact BK639.out⟩,⟨by repeat (first|(with_reducible first|exact HK.out|apply Kept.alloc|apply Kept.drewN|apply Kept.drew|refine Kept.setCell ?_ HMgo45.out _|refine Kept.setCell ?_ (.inr GW637.out) _|refine Kept.setCell ?_ (.inr GW638.out) _|refine Kept.setCell ?_ (.inr GW639.out) _)|exact HK.out)⟩,⟨by repeat (first|(with_reducible first|exact HB.out|apply zlA|apply zlN|apply zlD|refine zlS ?_ GB45.out|refine zlS ?_ GE637.out|refine zlS ?_ GE638.out|refine zlS ?_ GE639.out)|exact HB.out)⟩⟩
            ·rw [if_neg c43] at H
             exact absurd H (by simp)
           ·rw [if_neg c41] at H
            exact absurd H (by simp)
          ·rw [if_neg c40] at H
           exact absurd H (by simp)
        ·rw [if_neg c20] at H
         exact absurd H (by simp)
       ·rw [if_neg c18] at H
        have c18b0:decide ((wrap64 ((wrap64 (a1_2 * 64)) + x5_1)) < (x638001_1.length:Int))=false:=decide_eq_false c18
        clear c18
        have H':=zm H
        clear H
        have hnb58:=NB638_637.out
        have hnc58:=NB637_638.out
        have hnb59:=NB638_639.out
        have hnc59:=NB639_638.out
        have hcz60_0:wc.cell? ⟨gb638,0,none⟩=some (.int .i64 a1_0):=(blk_cell BK638.out 0).trans rfl
        have hcz60_1:wc.cell? ⟨gb638,1,none⟩=some (.int .i64 a1_1):=(blk_cell BK638.out 1).trans rfl
        have hcz60_2:wc.cell? ⟨gb638,2,none⟩=some (.int .i64 a1_2):=(blk_cell BK638.out 2).trans rfl
        have hcz60_3:wc.cell? ⟨gb638,3,none⟩=some (.int .i64 a1_3):=(blk_cell BK638.out 3).trans rfl
        have hcz60_4:wc.cell? ⟨gb638,4,none⟩=some (.slice A1_4 l1_4.length c1_4):=(blk_cell BK638.out 4).trans rfl
        have hcz60_5:wc.cell? ⟨gb638,5,none⟩=some (.slice A1_5 l1_5.length c1_5):=(blk_cell BK638.out 5).trans rfl
        have hcz60_6:wc.cell? ⟨gb638,6,none⟩=some (.slice A1_6 l1_6.length c1_6):=(blk_cell BK638.out 6).trans rfl
        have hfz60_0:=blk_frozen BK638.out 0
        have hfz60_1:=blk_frozen BK638.out 1
        have hfz60_2:=blk_frozen BK638.out 2
        have hfz60_3:=blk_frozen BK638.out 3
        have hfz60_4:=blk_frozen BK638.out 4
        have hfz60_5:=blk_frozen BK638.out 5
        have hfz60_6:=blk_frozen BK638.out 6
        have hnb61:=NB637_639.out
        have hnc61:=NB639_637.out
        have hcz62_0:wc.cell? ⟨gb637,0,none⟩=some (u638000):=(blk_cell BK637.out 0).trans rfl
        have hcz62_1:wc.cell? ⟨gb637,1,none⟩=some (u638001):=(blk_cell BK637.out 1).trans rfl
        have hcz62_2:wc.cell? ⟨gb637,2,none⟩=some (.int .i64 a0_2):=(blk_cell BK637.out 2).trans rfl
        have hfz62_0:=blk_frozen BK637.out 0
        have hfz62_1:=blk_frozen BK637.out 1
        have hfz62_2:=blk_frozen BK637.out 2
        obtain ⟨Ao63,co63,eo63⟩:=Kd.R_slice HO_638000.out
        subst eo63
        obtain ⟨Ao64,co64,eo64⟩:=Kd.R_slice HO_638001.out
        subst eo64
        go_wp2
        go_roundg kj7
        case measure=>have:=HK1.out;have:=HJ7.out;omega
        case rel=>exact ⟨(wrap64 (x5_1 + 1)),(x638000_1),(x638001_1),(.slice Ao63 x638000_1.length co63),(.slice Ao64 x638001_1.length co64),(by first|rfl|(simp;done)|(simp [*];done)),H',⟨by have:=HK1.out;have:=HJ7.out;omega⟩,⟨by (with_reducible repeat (first|apply zrA|apply zrN|apply zrD));exact HO_638000.out⟩,⟨by (with_reducible repeat (first|apply zrA|apply zrN|apply zrD));exact HO_638001.out⟩,⟨by (with_reducible repeat (first|refine zbN ?_ _|refine zbD ?_|refine zbA ?_ _));exact BK637.out⟩,⟨by (with_reducible repeat (first|refine zbN ?_ _|refine zbD ?_|refine zbA ?_ _));exact BK638.out⟩,⟨by (with_reducible repeat (first|refine zbN ?_ _|refine zbD ?_|refine zbA ?_ _));exact BK639.out⟩,⟨by repeat (first|(with_reducible first|exact HK.out|apply Kept.alloc|apply Kept.drewN|apply Kept.drew|refine Kept.setCell ?_ (.inr GW637.out) _|refine Kept.setCell ?_ (.inr GW638.out) _|refine Kept.setCell ?_ (.inr GW639.out) _)|exact HK.out)⟩,⟨by repeat (first|(with_reducible first|exact HB.out|apply zlA|apply zlN|apply zlD|refine zlS ?_ GE637.out|refine zlS ?_ GE638.out|refine zlS ?_ GE639.out)|exact HB.out)⟩⟩
      ·rw [if_neg c17] at H
       have c17b0:decide ((wrap64 ((wrap64 (a1_2 * 64)) + x5_1)) < (x638000_1.length:Int))=false:=decide_eq_false c17
       clear c17
       have H':=zm H
       clear H
       have hnb65:=NB638_637.out
       have hnc65:=NB637_638.out
       have hnb66:=NB638_639.out
       have hnc66:=NB639_638.out
       have hcz67_0:wc.cell? ⟨gb638,0,none⟩=some (.int .i64 a1_0):=(blk_cell BK638.out 0).trans rfl
       have hcz67_1:wc.cell? ⟨gb638,1,none⟩=some (.int .i64 a1_1):=(blk_cell BK638.out 1).trans rfl
       have hcz67_2:wc.cell? ⟨gb638,2,none⟩=some (.int .i64 a1_2):=(blk_cell BK638.out 2).trans rfl
       have hcz67_3:wc.cell? ⟨gb638,3,none⟩=some (.int .i64 a1_3):=(blk_cell BK638.out 3).trans rfl
       have hcz67_4:wc.cell? ⟨gb638,4,none⟩=some (.slice A1_4 l1_4.length c1_4):=(blk_cell BK638.out 4).trans rfl
       have hcz67_5:wc.cell? ⟨gb638,5,none⟩=some (.slice A1_5 l1_5.length c1_5):=(blk_cell BK638.out 5).trans rfl
       have hcz67_6:wc.cell? ⟨gb638,6,none⟩=some (.slice A1_6 l1_6.length c1_6):=(blk_cell BK638.out 6).trans rfl
       have hfz67_0:=blk_frozen BK638.out 0
       have hfz67_1:=blk_frozen BK638.out 1
       have hfz67_2:=blk_frozen BK638.out 2
       have hfz67_3:=blk_frozen BK638.out 3
       have hfz67_4:=blk_frozen BK638.out 4
       have hfz67_5:=blk_frozen BK638.out 5
       have hfz67_6:=blk_frozen BK638.out 6
       have hnb68:=NB637_639.out
       have hnc68:=NB639_637.out
       have hcz69_0:wc.cell? ⟨gb637,0,none⟩=some (u638000):=(blk_cell BK637.out 0).trans rfl
       have hcz69_1:wc.cell? ⟨gb637,1,none⟩=some (u638001):=(blk_cell BK637.out 1).trans rfl
       have hcz69_2:wc.cell? ⟨gb637,2,none⟩=some (.int .i64 a0_2):=(blk_cell BK637.out 2).trans rfl
       have hfz69_0:=blk_frozen BK637.out 0
       have hfz69_1:=blk_frozen BK637.out 1
       have hfz69_2:=blk_frozen BK637.out 2
       obtain ⟨Ao70,co70,eo70⟩:=Kd.R_slice HO_638000.out
       subst eo70
       go_wp2
       go_roundg kj7
       case measure=>have:=HK1.out;have:=HJ7.out;omega
       case rel=>exact ⟨(wrap64 (x5_1 + 1)),(x638000_1),(x638001_1),(.slice Ao70 x638000_1.length co70),(u638001),(by first|rfl|(simp;done)|(simp [*];done)),H',⟨by have:=HK1.out;have:=HJ7.out;omega⟩,⟨by (with_reducible repeat (first|apply zrA|apply zrN|apply zrD));exact HO_638000.out⟩,⟨by (with_reducible repeat (first|apply zrA|apply zrN|apply zrD));exact HO_638001.out⟩,⟨by (with_reducible repeat (first|refine zbN ?_ _|refine zbD ?_|refine zbA ?_ _));exact BK637.out⟩,⟨by (with_reducible repeat (first|refine zbN ?_ _|refine zbD ?_|refine zbA ?_ _));exact BK638.out⟩,⟨by (with_reducible repeat (first|refine zbN ?_ _|refine zbD ?_|refine zbA ?_ _));exact BK639.out⟩,⟨by repeat (first|(with_reducible first|exact HK.out|apply Kept.alloc|apply Kept.drewN|apply Kept.drew|refine Kept.setCell ?_ (.inr GW637.out) _|refine Kept.setCell ?_ (.inr GW638.out) _|refine Kept.setCell ?_ (.inr GW639.out) _)|exact HK.out)⟩,⟨by repeat (first|(with_reducible first|exact HB.out|apply zlA|apply zlN|apply zlD|refine zlS ?_ GE637.out|refine zlS ?_ GE638.out|refine zlS ?_ GE639.out)|exact HB.out)⟩⟩
     ·replace c16:=Bool.eq_false_iff.mpr c16
      subst c16
      have H1:(slipwayref06_know.l1 kj7 0 x638000_1 x638001_1 (mx a0_2 a1_3) a1_0 a1_1 a1_2 a1_3 l1_4 l1_5 l1_6)=some (r1,r2,r3):=by rw [if_neg (show ¬ (false=true) by decide)] at H;exact H
      clear H
      have H:=H1
      clear H1
      obtain ⟨ji71,hji71⟩:∃ j_:Int,(mx a0_2 a1_3)=j_:=⟨_,rfl⟩
      replace H:(slipwayref06_know.l1 kj7 0 x638000_1 x638001_1 ji71 a1_0 a1_1 a1_2 a1_3 l1_4 l1_5 l1_6)=some (r1,r2,r3):=by first|(rw [hji71] at H;exact H)|(simp only [hji71] at H ⊢;exact H)
      have hji71_:(if a0_2 < a1_3 then a1_3 else a0_2)=ji71:=hji71
      have H':=zm H
      clear H
      have hnb72:=NB637_638.out
      have hnc72:=NB638_637.out
      have hnb73:=NB637_639.out
      have hnc73:=NB639_637.out
      have hcz74_0:wc.cell? ⟨gb637,0,none⟩=some (u638000):=(blk_cell BK637.out 0).trans rfl
      have hcz74_1:wc.cell? ⟨gb637,1,none⟩=some (u638001):=(blk_cell BK637.out 1).trans rfl
      have hcz74_2:wc.cell? ⟨gb637,2,none⟩=some (.int .i64 a0_2):=(blk_cell BK637.out 2).trans rfl
      have hfz74_0:=blk_frozen BK637.out 0
      have hfz74_1:=blk_frozen BK637.out 1
      have hfz74_2:=blk_frozen BK637.out 2
      have hnb75:=NB638_639.out
      have hnc75:=NB639_638.out
      have hcz76_0:wc.cell? ⟨gb638,0,none⟩=some (.int .i64 a1_0):=(blk_cell BK638.out 0).trans rfl
      have hcz76_1:wc.cell? ⟨gb638,1,none⟩=some (.int .i64 a1_1):=(blk_cell BK638.out 1).trans rfl
      have hcz76_2:wc.cell? ⟨gb638,2,none⟩=some (.int .i64 a1_2):=(blk_cell BK638.out 2).trans rfl
      have hcz76_3:wc.cell? ⟨gb638,3,none⟩=some (.int .i64 a1_3):=(blk_cell BK638.out 3).trans rfl
      have hcz76_4:wc.cell? ⟨gb638,4,none⟩=some (.slice A1_4 l1_4.length c1_4):=(blk_cell BK638.out 4).trans rfl
      have hcz76_5:wc.cell? ⟨gb638,5,none⟩=some (.slice A1_5 l1_5.length c1_5):=(blk_cell BK638.out 5).trans rfl
      have hcz76_6:wc.cell? ⟨gb638,6,none⟩=some (.slice A1_6 l1_6.length c1_6):=(blk_cell BK638.out 6).trans rfl
      have hfz76_0:=blk_frozen BK638.out 0
      have hfz76_1:=blk_frozen BK638.out 1
      have hfz76_2:=blk_frozen BK638.out 2
      have hfz76_3:=blk_frozen BK638.out 3
      have hfz76_4:=blk_frozen BK638.out 4
      have hfz76_5:=blk_frozen BK638.out 5
      have hfz76_6:=blk_frozen BK638.out 6
      go_wp2
      go_loopg [7] kj7 (fun kq v7 w'=>∃ (x7_3:Int) (x638000_3:List Bool) (x638001_3:List Int) (x638002_3:Int) (u638000:Value) (u638001:Value),v7=.int .i64 x7_3∧Aside0 (slipwayref06_know.l1 kq x7_3 x638000_3 x638001_3 x638002_3 a1_0 a1_1 a1_2 a1_3 l1_4 l1_5 l1_6=some (r1,r2,r3))∧Aside0 (kq≤kj7)∧Aside0 (Kd.R Kd.bool 4 w' w0.heap.size (fun k_=>((P0_0_ k_∨P0_1_ k_)∨w.heap.size≤k_)) u638000 x638000_3)∧Aside0 (Kd.R (Kd.int .i64) 2 w' w0.heap.size (fun k_=>((P0_0_ k_∨P0_1_ k_)∨w.heap.size≤k_)) u638001 x638001_3)∧Aside0 (w'.heap[gb637]?=some (.cells #[u638000,u638001,.int .i64 x638002_3] 25 (0,0)))∧Aside0 (w'.heap[gb638]?=some (.cells #[.int .i64 a1_0,.int .i64 a1_1,.int .i64 a1_2,.int .i64 a1_3,(.slice A1_4 l1_4.length c1_4),(.slice A1_5 l1_5.length c1_5),(.slice A1_6 l1_6.length c1_6)] 42 (0,0)))∧Aside0 (w'.heap[gb639]?=some (.cells #[(.slice none 0 0),(.slice none 0 0),.int .i64 0] 25 (0,0)))∧Aside0 (Kept w w' (fun k_=>P0_0_ k_∨P0_1_ k_))∧Aside0 (Below w0.heap.size w0 w'))
      case atStart=>exact ⟨(0),(x638000_1),(x638001_1),(ji71),(u638000),(u638001),(by first|rfl|(simp;done)|(simp [*];done)),H',⟨Nat.le_refl _⟩,⟨by (with_reducible repeat (first|apply zrA|apply zrN|apply zrD));exact Kd.R_mono (Kd.R_far (p:=⟨gb637,2,none⟩) (Kd.R_types HO_638000.out BK637.out (by decide)) (fun _ hk=>hk.2) (.int .i64 ji71)) (fun _ hk=>hk.1)⟩,⟨by (with_reducible repeat (first|apply zrA|apply zrN|apply zrD));exact Kd.R_mono (Kd.R_far (p:=⟨gb637,2,none⟩) (Kd.R_types HO_638001.out BK637.out (by decide)) (fun _ hk=>hk.2) (.int .i64 ji71)) (fun _ hk=>hk.1)⟩,⟨by (with_reducible repeat (first|refine zbN ?_ _|refine zbD ?_|refine zbA ?_ _));refine blk_put (cs:=#[u638000,u638001,.int .i64 a0_2]) ?_ 2 _ rfl;(with_reducible repeat (first|refine zbN ?_ _|refine zbD ?_|refine zbA ?_ _));exact BK637.out⟩,⟨by (with_reducible repeat (first|refine zbN ?_ _|refine zbD ?_|refine zbA ?_ _));refine blk_far ?_ NB638_637.out _;(with_reducible repeat (first|refine zbN ?_ _|refine zbD ?_|refine zbA ?_ _));exact BK638.out⟩,⟨by (with_reducible repeat (first|refine zbN ?_ _|refine zbD ?_|refine zbA ?_ _));refine blk_far ?_ NB639_637.out _;(with_reducible repeat (first|refine zbN ?_ _|refine zbD ?_|refine zbA ?_ _));exact BK639.out⟩,⟨by repeat (first|(with_reducible first|exact HK.out|apply Kept.alloc|apply Kept.drewN|apply Kept.drew|refine Kept.setCell ?_ (.inr GW637.out) _|refine Kept.setCell ?_ (.inr GW638.out) _|refine Kept.setCell ?_ (.inr GW639.out) _)|exact HK.out)⟩,⟨by repeat (first|(with_reducible first|exact HB.out|apply zlA|apply zlN|apply zlD|refine zlS ?_ GE637.out|refine zlS ?_ GE638.out|refine zlS ?_ GE639.out)|exact HB.out)⟩⟩
      case round =>
       clear H'
       try clear c1
       try clear c2
       try clear p2
       try clear q2
       try clear c4
       try clear p4
       try clear q4
       try clear hx4
       try clear hf4
       try clear c5
       try clear c6
       try clear p6
       try clear q6
       try clear hx6
       try clear c7
       try clear c16
       try clear c17
       try clear c17b0
       try clear c18
       try clear c18b0
       try clear c20
       try clear q21
       try clear c22
       try clear c24
       try clear c25
       try clear c40
       try clear c40b0
       try clear c41
       try clear c41b0
       try clear p42
       try clear q42
       try clear hx42
       try clear hf42
       try clear c43
       try clear c43b0
       try clear p45
       try clear q45
       try clear hx45
       try clear hf45
       try clear c46
       try clear c47
       try clear c49
       try clear c58
       try clear c59
       try clear c61
       try clear p64
       try clear q64
       try clear hx64
       try clear c65
       try clear c66
       try clear c68
       try clear c72
       try clear c73
       try clear c75
       try clear hcz48_0
       try clear hcz48_1
       try clear hcz48_2
       try clear hcz48_3
       try clear hcz48_4
       try clear hcz48_5
       try clear hcz48_6
       try clear hcz50_0
       try clear hcz50_1
       try clear hcz50_2
       try clear hcz60_0
       try clear hcz60_1
       try clear hcz60_2
       try clear hcz60_3
       try clear hcz60_4
       try clear hcz60_5
       try clear hcz60_6
       try clear hcz62_0
       try clear hcz62_1
       try clear hcz62_2
       try clear hcz67_0
       try clear hcz67_1
       try clear hcz67_2
       try clear hcz67_3
       try clear hcz67_4
       try clear hcz67_5
       try clear hcz67_6
       try clear hcz69_0
       try clear hcz69_1
       try clear hcz69_2
       try clear hcz74_0
       try clear hcz74_1
       try clear hcz74_2
       try clear hcz76_0
       try clear hcz76_1
       try clear hcz76_2
       try clear hcz76_3
       try clear hcz76_4
       try clear hcz76_5
       try clear hcz76_6
       try clear hfz48_0
       try clear hfz48_1
       try clear hfz48_2
       try clear hfz48_3
       try clear hfz48_4
       try clear hfz48_5
       try clear hfz48_6
       try clear hfz50_0
       try clear hfz50_1
       try clear hfz50_2
       try clear hfz60_0
       try clear hfz60_1
       try clear hfz60_2
       try clear hfz60_3
       try clear hfz60_4
       try clear hfz60_5
       try clear hfz60_6
       try clear hfz62_0
       try clear hfz62_1
       try clear hfz62_2
       try clear hfz67_0
       try clear hfz67_1
       try clear hfz67_2
       try clear hfz67_3
       try clear hfz67_4
       try clear hfz67_5
       try clear hfz67_6
       try clear hfz69_0
       try clear hfz69_1
       try clear hfz69_2
       try clear hfz74_0
       try clear hfz74_1
       try clear hfz74_2
       try clear hfz76_0
       try clear hfz76_1
       try clear hfz76_2
       try clear hfz76_3
       try clear hfz76_4
       try clear hfz76_5
       try clear hfz76_6
       try clear hx42_0
       try clear hx45_0
       try clear hx640_0
       try clear hx645_0
       try clear hx647_0
       try clear hx648_0
       try clear p42
       try clear p45
       try clear p640
       try clear p645
       try clear p647
       try clear p648
       try clear q42
       try clear q45
       try clear q640
       try clear q645
       try clear q647
       try clear q648
       obtain ⟨x7_3,x638000_3,x638001_3,x638002_3,u638000,u638001,rfl,HA,HK3,HO_638000,HO_638001,BK637,BK638,BK639,HK,HB⟩:=hrel
       cases gk with
       | zero=>exact absurd HA.out (by simp [slipwayref06_know.l1])
       | succ k3 =>
        have H:=HA.out
        clear HA
        simp only [slipwayref06_know.l1] at H
        by_cases c77:x7_3 < (l1_6.length:Int)
        ·rw [if_pos c77] at H
         have c77b0:decide (x7_3 < (l1_6.length:Int))=true:=decide_eq_true c77
         clear c77
         by_cases c78:0≤x7_3
         ·rw [if_pos c78] at H
          have c78b0:decide (0≤x7_3)=true:=decide_eq_true c78
          clear c78
          by_cases c79:((rd_T55 l1_6 x7_3).f1) < (x638000_3.length:Int)
          ·rw [if_pos c79] at H
           have c79b0:decide (((rd_T55 l1_6 x7_3).f1) < (x638000_3.length:Int))=true:=decide_eq_true c79
           clear c79
           replace H:=Option.bind_eq_some_iff.mp H
           obtain ⟨⟨t652,t655,t658⟩,A800,H⟩:=H
           replace H:(slipwayref06_know.l1 k3 (wrap64 (x7_3 + 1)) t652 t655 t658 a1_0 a1_1 a1_2 a1_3 l1_4 l1_5 l1_6)=some (r1,r2,r3):=H
           have A80:=zm A800
           clear A800
           have H':=zm H
           clear H
           have hnb81:=NB638_637.out
           have hnc81:=NB637_638.out
           have hnb82:=NB638_639.out
           have hnc82:=NB639_638.out
           have hcz83_0:wr.cell? ⟨gb638,0,none⟩=some (.int .i64 a1_0):=(blk_cell BK638.out 0).trans rfl
           have hcz83_1:wr.cell? ⟨gb638,1,none⟩=some (.int .i64 a1_1):=(blk_cell BK638.out 1).trans rfl
           have hcz83_2:wr.cell? ⟨gb638,2,none⟩=some (.int .i64 a1_2):=(blk_cell BK638.out 2).trans rfl
           have hcz83_3:wr.cell? ⟨gb638,3,none⟩=some (.int .i64 a1_3):=(blk_cell BK638.out 3).trans rfl
           have hcz83_4:wr.cell? ⟨gb638,4,none⟩=some (.slice A1_4 l1_4.length c1_4):=(blk_cell BK638.out 4).trans rfl
           have hcz83_5:wr.cell? ⟨gb638,5,none⟩=some (.slice A1_5 l1_5.length c1_5):=(blk_cell BK638.out 5).trans rfl
           have hcz83_6:wr.cell? ⟨gb638,6,none⟩=some (.slice A1_6 l1_6.length c1_6):=(blk_cell BK638.out 6).trans rfl
           have hfz83_0:=blk_frozen BK638.out 0
           have hfz83_1:=blk_frozen BK638.out 1
           have hfz83_2:=blk_frozen BK638.out 2
           have hfz83_3:=blk_frozen BK638.out 3
           have hfz83_4:=blk_frozen BK638.out 4
           have hfz83_5:=blk_frozen BK638.out 5
           have hfz83_6:=blk_frozen BK638.out 6
           try go_wp2
           have n0_:=zm (zrD HO_638000.out)
           have n1_:=zm (zrD HO_638001.out)
           have n2_:=zm (zbD BK637.out)
           have n3_:=zm (zbD BK638.out)
           have n4_:=zm (zbD BK639.out)
           have n5_:=zm (Kept.drew HK.out)
           have n6_:=zm (zlD HB.out)
           clear HO_638000 HO_638001 BK637 BK638 BK639 HK HB
           have HO_638000:=n0_
           have HO_638001:=n1_
           have BK637:=n2_
           have BK638:=n3_
           have BK639:=n4_
           have HK:=n5_
           have HB:=n6_
           clear n0_ n1_ n2_ n3_ n4_ n5_ n6_
           have p650:0≤(x7_3:Int):=of_decide_eq_true (by first|(with_reducible assumption)|assumption)
           have q650:x7_3 < (l1_6.length:Int):=of_decide_eq_true (by first|(with_reducible assumption)|assumption)
           obtain ⟨ad650,e650,hx650_0,hx650_1,hx650_2⟩:=at_T55 (Kd.C_kept_now HR1_6.out HK.out) x7_3 p650 q650
           have hw650_2:=hx650_2
           have hw650_1:=hx650_1
           have hw650_0:=hx650_0
           cases e650
           replace p650:=eq_true p650
           replace q650:=eq_true q650
           obtain ⟨Ao85,co85,eo85⟩:=Kd.R_slice HO_638000.out
           (first|subst eo85|(injection eo85 with f1_ f2_ f3_;have f4_:=f1_.symm;have f5_:=f3_.symm;clear f1_ f2_ f3_;subst f4_;subst f5_))
           refine start_ (n:=10) (S:=fun w'=>w'.cell? ⟨gb638,0,none⟩=some (.int .i64 a1_0)∧w'.cell? ⟨gb638,1,none⟩=some (.int .i64 a1_1)∧w'.cell? ⟨gb638,2,none⟩=some (.int .i64 a1_2)∧w'.cell? ⟨gb638,3,none⟩=some (.int .i64 a1_3)∧w'.cell? ⟨gb638,4,none⟩=some (.slice A1_4 l1_4.length c1_4)∧w'.cell? ⟨gb638,5,none⟩=some (.slice A1_5 l1_5.length c1_5)∧w'.cell? ⟨gb638,6,none⟩=some (.slice (some ad650) l1_6.length c1_6)∧w'.cell? ⟨gb637,0,none⟩=some (.slice Ao85 x638000_3.length co85)∧w'.cell? ⟨gb637,1,none⟩=some (u638001)∧w'.cell? ⟨gb637,2,none⟩=some (.int .i64 x638002_3)∧w'.cell? (ad650.add ((x7_3).toNat * 3))=some (.int .i64 ((rd_T55 l1_6 x7_3).f0))∧w'.cell? ⟨(ad650.add ((x7_3).toNat * 3)).block,(ad650.add ((x7_3).toNat * 3)).off + 1,none⟩=some (.int .i64 ((rd_T55 l1_6 x7_3).f1))∧w'.cell? ⟨(ad650.add ((x7_3).toNat * 3)).block,(ad650.add ((x7_3).toNat * 3)).off + 2,none⟩=some (.int .i64 ((rd_T55 l1_6 x7_3).f2))) (ds:=[]) #[false,false,false,false,false,false,false,false,false,false] (by kernel_rfl) rfl rfl ⟨(blk_cell BK638.out 0).trans rfl,(blk_cell BK638.out 1).trans rfl,(blk_cell BK638.out 2).trans rfl,(blk_cell BK638.out 3).trans rfl,(blk_cell BK638.out 4).trans rfl,(blk_cell BK638.out 5).trans rfl,(blk_cell BK638.out 6).trans rfl,(blk_cell BK637.out 0).trans rfl,(blk_cell BK637.out 1).trans rfl,(blk_cell BK637.out 2).trans rfl,hx650_0,hx650_1,hx650_2⟩ (fun hHeld=>?_);refine with_tabW slipwayref06_know.tab12 slipwayref06_know.bits12 (fun HT_ HW_=>?_)
           generalize wr.drew=w84 at HO_638000 HO_638001 BK637 BK638 BK639 HK HB hx650_0 hx650_1 hx650_2 hHeld ⊢
           refine pure_ (i:=0) (N:=some 83) (v:=?_) (a':=?_) #[true,false,false,false,false,false,false,false,false,false] rfl rfl (any_of HT_.out (by kernel_rfl)) (fun _ _ _ h=>h) (Or.inl ⟨by rfl,?_⟩) ?_ ?_
           rotate_left
           ·intro w'
            go_simp
            with_reducible rfl
           rotate_left
           ·simp only [Act.put,List.setIfInBounds_toArray,List.set_cons_zero,List.set_cons_succ,i64_w,i32_w]
            rfl
           refine pure_ (i:=2) (N:=some 85) (v:=?_) (a':=?_) #[true,false,true,false,false,false,false,false,false,false] rfl rfl (any_of HT_.out (by kernel_rfl)) (fun _ _ _ h=>h) (Or.inl ⟨by rfl,?_⟩) ?_ ?_
           rotate_left
           ·intro w'
            go_simp
            with_reducible rfl
           rotate_left
           ·simp only [Act.put,List.setIfInBounds_toArray,List.set_cons_zero,List.set_cons_succ,i64_w,i32_w]
            rfl
           refine pure_ (i:=6) (N:=some 89) (v:=?_) (a':=?_) #[true,false,true,false,false,false,true,false,false,false] rfl rfl (any_of HT_.out (by kernel_rfl)) (fun _ _ _ h=>h) (Or.inl ⟨by rfl,?_⟩) ?_ ?_
           rotate_left
           ·intro w'
            go_simp
            with_reducible rfl
           rotate_left
           ·simp only [Act.put,List.setIfInBounds_toArray,List.set_cons_zero,List.set_cons_succ,i64_w,i32_w]
            rfl
           refine take_ (i:=1) (N:=some 84) (v:=?_) (a':=?_) #[true,true,true,false,false,false,true,false,false,false] rfl rfl (take_ofW HT_.out HW_.out (by kernel_rfl)) (fun _ _ _ h=>h) (Or.inl ⟨by rfl,?_⟩) hHeld ?_ ?_
           rotate_left
           ·rintro w' ⟨s0,s1,s2,s3,s4,s5,s6,s7,s8,s9,s10,s11,s12⟩
            go_simp
            with_reducible rfl
           rotate_left
           ·simp only [Act.put,List.setIfInBounds_toArray,List.set_cons_zero,List.set_cons_succ,i64_w,i32_w]
            rfl
           refine pure_ (i:=3) (N:=some 86) (v:=?_) (a':=?_) #[true,true,true,true,false,false,true,false,false,false] rfl rfl (any_of HT_.out (by kernel_rfl)) (fun _ _ _ h=>h) (Or.inl ⟨by rfl,?_⟩) ?_ ?_
           rotate_left
           ·intro w'
            go_simp
            with_reducible rfl
           rotate_left
           ·simp only [Act.put,List.setIfInBounds_toArray,List.set_cons_zero,List.set_cons_succ,i64_w,i32_w]
            rfl
           refine pure_ (i:=4) (N:=some 87) (v:=?_) (a':=?_) #[true,true,true,true,true,false,true,false,false,false] rfl rfl (any_of HT_.out (by kernel_rfl)) (fun _ _ _ h=>h) (Or.inl ⟨by rfl,?_⟩) ?_ ?_
           rotate_left
           ·intro w'
            go_simp
            with_reducible rfl
           rotate_left
           ·simp only [Act.put,List.setIfInBounds_toArray,List.set_cons_zero,List.set_cons_succ,i64_w,i32_w]
            rfl
           refine take_ (i:=5) (N:=some 88) (v:=?_) (a':=?_) #[true,true,true,true,true,true,true,false,false,false] rfl rfl (take_ofW HT_.out HW_.out (by kernel_rfl)) (fun _ _ _ h=>h) (Or.inl ⟨by rfl,?_⟩) hHeld ?_ ?_
           rotate_left
           ·rintro w' ⟨s0,s1,s2,s3,s4,s5,s6,s7,s8,s9,s10,s11,s12⟩
            go_simp
            with_reducible rfl
           rotate_left
           ·simp only [Act.put,List.setIfInBounds_toArray,List.set_cons_zero,List.set_cons_succ,i64_w,i32_w]
            rfl
           refine take_ (i:=7) (N:=some 90) (v:=?_) (a':=?_) #[true,true,true,true,true,true,true,true,false,false] rfl rfl (take_ofW HT_.out HW_.out (by kernel_rfl)) (fun _ _ _ h=>h) (Or.inl ⟨by rfl,?_⟩) hHeld ?_ ?_
           rotate_left
           ·rintro w' ⟨s0,s1,s2,s3,s4,s5,s6,s7,s8,s9,s10,s11,s12⟩
            go_simp
            with_reducible rfl
           rotate_left
           ·simp only [Act.put,List.setIfInBounds_toArray,List.set_cons_zero,List.set_cons_succ,i64_w,i32_w]
            rfl
           refine pure_ (i:=8) (N:=some 91) (v:=?_) (a':=?_) #[true,true,true,true,true,true,true,true,true,false] rfl rfl (any_of HT_.out (by kernel_rfl)) (fun _ _ _ h=>h) (Or.inl ⟨by rfl,?_⟩) ?_ ?_
           rotate_left
           ·intro w'
            go_simp
            with_reducible rfl
           rotate_left
           ·simp only [Act.put,List.setIfInBounds_toArray,List.set_cons_zero,List.set_cons_succ,i64_w,i32_w]
            rfl
           refine pure_ (i:=9) (N:=some 92) (v:=?_) (a':=?_) #[true,true,true,true,true,true,true,true,true,true] rfl rfl (any_of HT_.out (by kernel_rfl)) (fun _ _ _ h=>h) (Or.inl ⟨by rfl,?_⟩) ?_ ?_
           rotate_left
           ·intro w'
            go_simp
            with_reducible rfl
           rotate_left
           ·simp only [Act.put,List.setIfInBounds_toArray,List.set_cons_zero,List.set_cons_succ,i64_w,i32_w]
            rfl
           refine done_ (done_of HT_.out (by kernel_rfl)) ?_
           try go_wp2
           have n0_:=zm (zrD HO_638000.out)
           have n1_:=zm (zrD HO_638001.out)
           have n2_:=zm (zbD BK637.out)
           have n3_:=zm (zbD BK638.out)
           have n4_:=zm (zbD BK639.out)
           have n5_:=zm (Kept.drew HK.out)
           have n6_:=zm (zlD HB.out)
           clear HO_638000 HO_638001 BK637 BK638 BK639 HK HB
           have HO_638000:=n0_
           have HO_638001:=n1_
           have BK637:=n2_
           have BK638:=n3_
           have BK639:=n4_
           have HK:=n5_
           have HB:=n6_
           clear n0_ n1_ n2_ n3_ n4_ n5_ n6_
           have p651:0≤(x7_3:Int):=of_decide_eq_true (by first|(with_reducible assumption)|assumption)
           have q651:x7_3 < (l1_6.length:Int):=of_decide_eq_true (by first|(with_reducible assumption)|assumption)
           obtain ⟨ad651,e651,hx651_0,hx651_1,hx651_2⟩:=at_T55 (Kd.C_kept_now HR1_6.out HK.out) x7_3 p651 q651
           have hw651_2:=hx651_2
           have hw651_1:=hx651_1
           have hw651_0:=hx651_0
           obtain rfl:ad650=ad651:=(by injection e651)
           replace p651:=eq_true p651
           replace q651:=eq_true q651
           obtain ⟨Ao87,co87,eo87⟩:=Kd.R_slice HO_638001.out
           (first|subst eo87|(injection eo87 with f1_ f2_ f3_;have f4_:=f1_.symm;have f5_:=f3_.symm;clear f1_ f2_ f3_;subst f4_;subst f5_))
           refine start_ (n:=8) (S:=fun w'=>w'.cell? ⟨gb637,0,none⟩=some (.slice Ao85 x638000_3.length co85)∧w'.cell? ⟨gb637,1,none⟩=some (.slice Ao87 x638001_3.length co87)∧w'.cell? ⟨gb637,2,none⟩=some (.int .i64 x638002_3)∧w'.cell? ⟨gb638,0,none⟩=some (.int .i64 a1_0)∧w'.cell? ⟨gb638,1,none⟩=some (.int .i64 a1_1)∧w'.cell? ⟨gb638,2,none⟩=some (.int .i64 a1_2)∧w'.cell? ⟨gb638,3,none⟩=some (.int .i64 a1_3)∧w'.cell? ⟨gb638,4,none⟩=some (.slice A1_4 l1_4.length c1_4)∧w'.cell? ⟨gb638,5,none⟩=some (.slice A1_5 l1_5.length c1_5)∧w'.cell? ⟨gb638,6,none⟩=some (.slice (some ad650) l1_6.length c1_6)∧w'.cell? (ad650.add ((x7_3).toNat * 3))=some (.int .i64 ((rd_T55 l1_6 x7_3).f0))∧w'.cell? ⟨(ad650.add ((x7_3).toNat * 3)).block,(ad650.add ((x7_3).toNat * 3)).off + 1,none⟩=some (.int .i64 ((rd_T55 l1_6 x7_3).f1))∧w'.cell? ⟨(ad650.add ((x7_3).toNat * 3)).block,(ad650.add ((x7_3).toNat * 3)).off + 2,none⟩=some (.int .i64 ((rd_T55 l1_6 x7_3).f2))) (ds:=[6,7]) #[false,false,false,false,false,false,false,false] (by kernel_rfl) rfl rfl ⟨(blk_cell BK637.out 0).trans rfl,(blk_cell BK637.out 1).trans rfl,(blk_cell BK637.out 2).trans rfl,(blk_cell BK638.out 0).trans rfl,(blk_cell BK638.out 1).trans rfl,(blk_cell BK638.out 2).trans rfl,(blk_cell BK638.out 3).trans rfl,(blk_cell BK638.out 4).trans rfl,(blk_cell BK638.out 5).trans rfl,(blk_cell BK638.out 6).trans rfl,hx651_0,hx651_1,hx651_2⟩ (fun hHeld=>?_);refine with_tabW slipwayref06_know.tab13 slipwayref06_know.bits13 (fun HT_ HW_=>?_)
           generalize w84.drew=w86 at HO_638000 HO_638001 BK637 BK638 BK639 HK HB hx651_0 hx651_1 hx651_2 hHeld ⊢
           refine pure_ (i:=1) (N:=some 94) (v:=?_) (a':=?_) #[false,true,false,false,false,false,false,false] rfl rfl (any_of HT_.out (by kernel_rfl)) (fun _ _ _ h=>h) (Or.inl ⟨by rfl,?_⟩) ?_ ?_
           rotate_left
           ·intro w'
            go_simp
            with_reducible rfl
           rotate_left
           ·simp only [Act.put,List.setIfInBounds_toArray,List.set_cons_zero,List.set_cons_succ,i64_w,i32_w]
            rfl
           refine pure_ (i:=3) (N:=some 96) (v:=?_) (a':=?_) #[false,true,false,true,false,false,false,false] rfl rfl (any_of HT_.out (by kernel_rfl)) (fun _ _ _ h=>h) (Or.inl ⟨by rfl,?_⟩) ?_ ?_
           rotate_left
           ·intro w'
            go_simp
            with_reducible rfl
           rotate_left
           ·simp only [Act.put,List.setIfInBounds_toArray,List.set_cons_zero,List.set_cons_succ,i64_w,i32_w]
            rfl
           refine take_ (i:=0) (N:=some 93) (v:=?_) (a':=?_) #[true,true,false,true,false,false,false,false] rfl rfl (take_ofW HT_.out HW_.out (by kernel_rfl)) (fun _ _ _ h=>h) (Or.inl ⟨by rfl,?_⟩) hHeld ?_ ?_
           rotate_left
           ·rintro w' ⟨s0,s1,s2,s3,s4,s5,s6,s7,s8,s9,s10,s11,s12⟩
            go_simp
            with_reducible rfl
           rotate_left
           ·simp only [Act.put,List.setIfInBounds_toArray,List.set_cons_zero,List.set_cons_succ,i64_w,i32_w]
            rfl
           refine take_ (i:=2) (N:=some 95) (v:=?_) (a':=?_) #[true,true,true,true,false,false,false,false] rfl rfl (take_ofW HT_.out HW_.out (by kernel_rfl)) (fun _ _ _ h=>h) (Or.inl ⟨by rfl,?_⟩) hHeld ?_ ?_
           rotate_left
           ·rintro w' ⟨s0,s1,s2,s3,s4,s5,s6,s7,s8,s9,s10,s11,s12⟩
            go_simp
            with_reducible rfl
           rotate_left
           ·simp only [Act.put,List.setIfInBounds_toArray,List.set_cons_zero,List.set_cons_succ,i64_w,i32_w]
            rfl
           refine pure_ (i:=4) (N:=some 97) (v:=?_) (a':=?_) #[true,true,true,true,true,false,false,false] rfl rfl (any_of HT_.out (by kernel_rfl)) (fun _ _ _ h=>h) (Or.inl ⟨by rfl,?_⟩) ?_ ?_
           rotate_left
           ·intro w'
            go_simp
            with_reducible rfl
           rotate_left
           ·simp only [Act.put,List.setIfInBounds_toArray,List.set_cons_zero,List.set_cons_succ,i64_w,i32_w]
            rfl
           refine take_ (i:=5) (N:=some 98) (v:=?_) (a':=?_) #[true,true,true,true,true,true,false,false] rfl rfl (take_ofW HT_.out HW_.out (by kernel_rfl)) (fun _ _ _ h=>h) (Or.inl ⟨by rfl,?_⟩) hHeld ?_ ?_
           rotate_left
           ·rintro w' ⟨s0,s1,s2,s3,s4,s5,s6,s7,s8,s9,s10,s11,s12⟩
            go_simp
            with_reducible rfl
           rotate_left
           ·simp only [Act.put,List.setIfInBounds_toArray,List.set_cons_zero,List.set_cons_succ,i64_w,i32_w]
            rfl
           refine last_ (i:=6) (N:=some 99) #[true,true,true,true,true,true,true,false] rfl rfl (one_of HT_.out (by kernel_rfl)) (by decide) (fun K hK=>?_)
           refine goes_ Try.func64 (by kernel_rfl) rfl #[.agg #[.slice Ao85 x638000_3.length co85,.slice Ao87 x638001_3.length co87,.int .i64 x638002_3],.agg #[.int .i64 ((rd_T55 l1_6 x7_3).f0),.int .i64 ((rd_T55 l1_6 x7_3).f1),.int .i64 ((rd_T55 l1_6 x7_3).f2)]] (by rfl) rfl rfl (by (try simp only [List.map_toArray,List.map_cons,List.map_nil]);first|done|rfl|(simp only [List.length_drop,List.length_take];rfl)) ?_
           with_reducible refine (slipwayref06_one.calls (fun k_=>some k_=(.slice Ao85 x638000_3.length co85:Value).ownBlock) (.slice Ao85 x638000_3.length co85) x638000_3 (fun k_=>some k_=(.slice Ao87 x638001_3.length co87:Value).ownBlock) (.slice Ao87 x638001_3.length co87) x638001_3 x638002_3 ((rd_T55 l1_6 x7_3).f0) ((rd_T55 l1_6 x7_3).f1) ((rd_T55 l1_6 x7_3).f2) t652 t655 t658 w0 _ ?side1 ?side2 ?side3 A80.out).mono ?_
           (case side1=>repeat (first|(with_reducible first|exact HB.out|apply zlA|apply zlN|apply zlD|refine zlS ?_ GE637.out|refine zlS ?_ GE638.out|refine zlS ?_ GE639.out)|exact HB.out))
           (case side2=>exact Kd.R_tight rfl HO_638000.out)
           (case side3=>exact Kd.R_tight rfl HO_638001.out)
           rintro e w88 ⟨v653,v656,rfl,ho0,ho1,hb,hkp⟩
           refine ⟨_,rfl,?_⟩
           have n0_:=zm (blk_kept (by (with_reducible repeat (first|refine zbN ?_ _|refine zbD ?_|refine zbA ?_ _));exact BK637.out) hkp (fun hs_=>Or.elim hs_ (fun e_=>(fun e_=>(Kd.R_ne HO_638000.out BK637.out (by decide)) e_) e_) (fun e_=>(fun e_=>(Kd.R_ne HO_638001.out BK637.out (by decide)) e_) e_)))
           have n1_:=zm (blk_kept (by (with_reducible repeat (first|refine zbN ?_ _|refine zbD ?_|refine zbA ?_ _));exact BK638.out) hkp (fun hs_=>Or.elim hs_ (fun e_=>(fun e_=>(Kd.R_ne HO_638000.out BK638.out (by decide)) e_) e_) (fun e_=>(fun e_=>(Kd.R_ne HO_638001.out BK638.out (by decide)) e_) e_)))
           have n2_:=zm (blk_kept (by (with_reducible repeat (first|refine zbN ?_ _|refine zbD ?_|refine zbA ?_ _));exact BK639.out) hkp (fun hs_=>Or.elim hs_ (fun e_=>(fun e_=>(Kd.R_ne HO_638000.out BK639.out (by decide)) e_) e_) (fun e_=>(fun e_=>(Kd.R_ne HO_638001.out BK639.out (by decide)) e_) e_)))
           have n3_:=zm (Kd.R_mono (ok':=fun k_=>((P0_0_ k_∨P0_1_ k_)∨w.heap.size≤k_)) ho0 (fun k_ hk_=>Or.elim hk_ (fun hs_=>Or.elim hs_ (fun hs_=>(HO_638000.out.1 k_ (hs_).symm)) (fun hs_=>(HO_638001.out.1 k_ (hs_).symm))) (fun hn_=>(.inr (Nat.le_trans (by first|exact HK.out.1|exact (show Kept w _ (fun k_=>P0_0_ k_∨P0_1_ k_) from by repeat (first|(with_reducible first|exact HK.out|apply Kept.alloc|apply Kept.drewN|apply Kept.drew|refine Kept.setCell ?_ (.inr GW637.out) _|refine Kept.setCell ?_ (.inr GW638.out) _|refine Kept.setCell ?_ (.inr GW639.out) _)|exact HK.out)).1) hn_)))))
           have n4_:=zm (Kd.R_mono (ok':=fun k_=>((P0_0_ k_∨P0_1_ k_)∨w.heap.size≤k_)) ho1 (fun k_ hk_=>Or.elim hk_ (fun hs_=>Or.elim hs_ (fun hs_=>(HO_638000.out.1 k_ (hs_).symm)) (fun hs_=>(HO_638001.out.1 k_ (hs_).symm))) (fun hn_=>(.inr (Nat.le_trans (by first|exact HK.out.1|exact (show Kept w _ (fun k_=>P0_0_ k_∨P0_1_ k_) from by repeat (first|(with_reducible first|exact HK.out|apply Kept.alloc|apply Kept.drewN|apply Kept.drew|refine Kept.setCell ?_ (.inr GW637.out) _|refine Kept.setCell ?_ (.inr GW638.out) _|refine Kept.setCell ?_ (.inr GW639.out) _)|exact HK.out)).1) hn_)))))
           have n5_:=zm (Kept.then_ (S:=(fun k_=>P0_0_ k_∨P0_1_ k_)) (by repeat (first|(with_reducible first|exact HK.out|apply Kept.alloc|apply Kept.drewN|apply Kept.drew|refine Kept.setCell ?_ (.inr GW637.out) _|refine Kept.setCell ?_ (.inr GW638.out) _|refine Kept.setCell ?_ (.inr GW639.out) _)|exact HK.out)) hkp (fun k_ hs_=>Or.elim hs_ (fun e_=>(fun e_=>(HO_638000.out.1 k_ e_.symm)) e_) (fun e_=>(fun e_=>(HO_638001.out.1 k_ e_.symm)) e_)))
           have n6_:=zm (hb)
           clear BK637 BK638 BK639 HK HB HO_638000 HO_638001
           have BK637:=n0_
           have BK638:=n1_
           have BK639:=n2_
           have HO654:=n3_
           have HO657:=n4_
           have HK:=n5_
           have HB:=n6_
           clear n0_ n1_ n2_ n3_ n4_ n5_ n6_
           (try clear hb)
           (try clear hkp)
           (try clear ho0)
           (try clear ho1)
           obtain ⟨Ao89,co89,eo89⟩:=Kd.R_slice HO654.out
           (first|subst eo89|(injection eo89 with f1_ f2_ f3_;have f4_:=f1_.symm;have f5_:=f3_.symm;clear f1_ f2_ f3_;subst f4_;subst f5_))
           obtain ⟨Ao91,co91,eo91⟩:=Kd.R_slice HO657.out
           (first|subst eo91|(injection eo91 with f1_ f2_ f3_;have f4_:=f1_.symm;have f5_:=f3_.symm;clear f1_ f2_ f3_;subst f4_;subst f5_))
           refine hK.out _ _ ?_
           clear hK K
           refine norm_ (a':=?_) ?_ ?_
           rotate_left
           ·show Act.put _ (some 99) _=_
            simp only [Act.put,List.setIfInBounds_toArray,List.set_cons_zero,List.set_cons_succ,i64_w,i32_w]
            rfl
           refine last_ (i:=7) (N:=none) #[true,true,true,true,true,true,true,true] rfl rfl (one_of HT_.out (by kernel_rfl)) (by decide) (fun K hK=>?_)
           have hs90:w88.cell? ⟨gb637,0,none⟩=some (.slice Ao85 x638000_3.length co85):=(blk_cell BK637.out 0).trans rfl
           have hfs90:=blk_frozen BK637.out 0
           have hns90_1:=NB638_637.out
           have hns90_2:=NB639_637.out
           have hms90_1:=NB637_638.out
           have hms90_2:=NB637_639.out
           have hs92:w88.cell? ⟨gb637,1,none⟩=some (.slice Ao87 x638001_3.length co87):=(blk_cell BK637.out 1).trans rfl
           have hfs92:=blk_frozen BK637.out 1
           have hns92_1:=NB638_637.out
           have hns92_2:=NB639_637.out
           have hms92_1:=NB637_638.out
           have hms92_2:=NB637_639.out
           have hs93:w88.cell? ⟨gb637,2,none⟩=some (.int .i64 x638002_3):=(blk_cell BK637.out 2).trans rfl
           have hfs93:=blk_frozen BK637.out 2
           have hns93_1:=NB638_637.out
           have hns93_2:=NB639_637.out
           have hms93_1:=NB637_638.out
           have hms93_2:=NB637_639.out
           refine skip_ (w1:=?_) (by rfl) rfl ?_ ?_
           rotate_left
           ·go_simp
            rfl
           refine hK.out _ _ ?_
           clear hK K
           refine done_ (done_of HT_.out (by kernel_rfl)) ?_
           try go_wp2
           go_roundg k3
           case measure=>have:=HK1.out;have:=HJ7.out;have:=HK3.out;omega
           case rel=>exact ⟨(wrap64 (x7_3 + 1)),(t652),(t655),(t658),(.slice Ao89 t652.length co89),(.slice Ao91 t655.length co91),(by first|rfl|(simp;done)|(simp [*];done)),H',⟨by have:=HK1.out;have:=HJ7.out;have:=HK3.out;omega⟩,⟨by (with_reducible repeat (first|apply zrA|apply zrN|apply zrD));exact Kd.R_mono (Kd.R_far (p:=⟨gb637,2,none⟩) (Kd.R_far (p:=⟨gb637,1,none⟩) (Kd.R_far (p:=⟨gb637,0,none⟩) (Kd.R_types HO654.out BK637.out (by decide)) (fun _ hk=>hk.2) (.slice Ao89 t652.length co89)) (fun _ hk=>hk.2) (.slice Ao91 t655.length co91)) (fun _ hk=>hk.2) (.int .i64 t658)) (fun _ hk=>hk.1)⟩,⟨by (with_reducible repeat (first|apply zrA|apply zrN|apply zrD));exact Kd.R_mono (Kd.R_far (p:=⟨gb637,2,none⟩) (Kd.R_far (p:=⟨gb637,1,none⟩) (Kd.R_far (p:=⟨gb637,0,none⟩) (Kd.R_types HO657.out BK637.out (by decide)) (fun _ hk=>hk.2) (.slice Ao89 t652.length co89)) (fun _ hk=>hk.2) (.slice Ao91 t655.length co91)) (fun _ hk=>hk.2) (.int .i64 t658)) (fun _ hk=>hk.1)⟩,⟨by (with_reducible repeat (first|refine zbN ?_ _|refine zbD ?_|refine zbA ?_ _));refine blk_put (cs:=#[.slice Ao89 t652.length co89,.slice Ao91 t655.length co91,.int .i64 x638002_3]) ?_ 2 _ rfl;(with_reducible repeat (first|refine zbN ?_ _|refine zbD ?_|refine zbA ?_ _));refine blk_put (cs:=#[.slice Ao89 t652.length co89,.slice Ao87 x638001_3.length co87,.int .i64 x638002_3]) ?_ 1 _ rfl;(with_reducible repeat (first|refine zbN ?_ _|refine zbD ?_|refine zbA ?_ _));refine blk_put (cs:=#[.slice Ao85 x638000_3.length co85,.slice Ao87 x638001_3.length co87,.int .i64 x638002_3]) ?_ 0 _ rfl;(with_reducible repeat (first|refine zbN ?_ _|refine zbD ?_|refine zbA ?_ _));exact BK637.out⟩,⟨by (with_reducible repeat (first|refine zbN ?_ _|refine zbD ?_|refine zbA ?_ _));refine blk_far ?_ NB638_637.out _;(with_reducible repeat (first|refine zbN ?_ _|refine zbD ?_|refine zbA ?_ _));refine blk_far ?_ NB638_637.out _;(with_reducible repeat (first|refine zbN ?_ _|refine zbD ?_|refine zbA ?_ _));refine blk_far ?_ NB638_637.out _;(with_reducible repeat (first|refine zbN ?_ _|refine zbD ?_|refine zbA ?_ _));exact BK638.out⟩,⟨by (with_reducible repeat (first|refine zbN ?_ _|refine zbD ?_|refine zbA ?_ _));refine blk_far ?_ NB639_637.out _;(with_reducible repeat (first|refine zbN ?_ _|refine zbD ?_|refine zbA ?_ _));refine blk_far ?_ NB639_637.out _;(with_reducible repeat (first|refine zbN ?_ _|refine zbD ?_|refine zbA ?_ _));refine blk_far ?_ NB639_637.out _;(with_reducible repeat (first|refine zbN ?_ _|refine zbD ?_|refine zbA ?_ _));exact BK639.out⟩,⟨by repeat (first|(with_reducible first|exact HK.out|apply Kept.alloc|apply Kept.drewN|apply Kept.drew|refine Kept.setCell ?_ (.inr GW637.out) _|refine Kept.setCell ?_ (.inr GW638.out) _|refine Kept.setCell ?_ (.inr GW639.out) _)|exact HK.out)⟩,⟨by repeat (first|(with_reducible first|exact HB.out|apply zlA|apply zlN|apply zlD|refine zlS ?_ GE637.out|refine zlS ?_ GE638.out|refine zlS ?_ GE639.out)|exact HB.out)⟩⟩
          ·rw [if_neg c79] at H
           have c79b0:decide (((rd_T55 l1_6 x7_3).f1) < (x638000_3.length:Int))=false:=decide_eq_false c79
           clear c79
           have H':=zm H
           clear H
           have hnb94:=NB638_637.out
           have hnc94:=NB637_638.out
           have hnb95:=NB638_639.out
           have hnc95:=NB639_638.out
           have hcz96_0:wr.cell? ⟨gb638,0,none⟩=some (.int .i64 a1_0):=(blk_cell BK638.out 0).trans rfl
           have hcz96_1:wr.cell? ⟨gb638,1,none⟩=some (.int .i64 a1_1):=(blk_cell BK638.out 1).trans rfl
           have hcz96_2:wr.cell? ⟨gb638,2,none⟩=some (.int .i64 a1_2):=(blk_cell BK638.out 2).trans rfl
           have hcz96_3:wr.cell? ⟨gb638,3,none⟩=some (.int .i64 a1_3):=(blk_cell BK638.out 3).trans rfl
           have hcz96_4:wr.cell? ⟨gb638,4,none⟩=some (.slice A1_4 l1_4.length c1_4):=(blk_cell BK638.out 4).trans rfl
           have hcz96_5:wr.cell? ⟨gb638,5,none⟩=some (.slice A1_5 l1_5.length c1_5):=(blk_cell BK638.out 5).trans rfl
           have hcz96_6:wr.cell? ⟨gb638,6,none⟩=some (.slice A1_6 l1_6.length c1_6):=(blk_cell BK638.out 6).trans rfl
           have hfz96_0:=blk_frozen BK638.out 0
           have hfz96_1:=blk_frozen BK638.out 1
           have hfz96_2:=blk_frozen BK638.out 2
           have hfz96_3:=blk_frozen BK638.out 3
           have hfz96_4:=blk_frozen BK638.out 4
           have hfz96_5:=blk_frozen BK638.out 5
           have hfz96_6:=blk_frozen BK638.out 6
           try go_wp2
           have n0_:=zm (zrD HO_638000.out)
           have n1_:=zm (zrD HO_638001.out)
           have n2_:=zm (zbD BK637.out)
           have n3_:=zm (zbD BK638.out)
           have n4_:=zm (zbD BK639.out)
           have n5_:=zm (Kept.drew HK.out)
           have n6_:=zm (zlD HB.out)
           clear HO_638000 HO_638001 BK637 BK638 BK639 HK HB
           have HO_638000:=n0_
           have HO_638001:=n1_
           have BK637:=n2_
           have BK638:=n3_
           have BK639:=n4_
           have HK:=n5_
           have HB:=n6_
           clear n0_ n1_ n2_ n3_ n4_ n5_ n6_
           have p650:0≤(x7_3:Int):=of_decide_eq_true (by first|(with_reducible assumption)|assumption)
           have q650:x7_3 < (l1_6.length:Int):=of_decide_eq_true (by first|(with_reducible assumption)|assumption)
           obtain ⟨ad650,e650,hx650_0,hx650_1,hx650_2⟩:=at_T55 (Kd.C_kept_now HR1_6.out HK.out) x7_3 p650 q650
           have hw650_2:=hx650_2
           have hw650_1:=hx650_1
           have hw650_0:=hx650_0
           cases e650
           replace p650:=eq_true p650
           replace q650:=eq_true q650
           obtain ⟨Ao98,co98,eo98⟩:=Kd.R_slice HO_638000.out
           (first|subst eo98|(injection eo98 with f1_ f2_ f3_;have f4_:=f1_.symm;have f5_:=f3_.symm;clear f1_ f2_ f3_;subst f4_;subst f5_))
           refine start_ (n:=10) (S:=fun w'=>w'.cell? ⟨gb638,0,none⟩=some (.int .i64 a1_0)∧w'.cell? ⟨gb638,1,none⟩=some (.int .i64 a1_1)∧w'.cell? ⟨gb638,2,none⟩=some (.int .i64 a1_2)∧w'.cell? ⟨gb638,3,none⟩=some (.int .i64 a1_3)∧w'.cell? ⟨gb638,4,none⟩=some (.slice A1_4 l1_4.length c1_4)∧w'.cell? ⟨gb638,5,none⟩=some (.slice A1_5 l1_5.length c1_5)∧w'.cell? ⟨gb638,6,none⟩=some (.slice (some ad650) l1_6.length c1_6)∧w'.cell? ⟨gb637,0,none⟩=some (.slice Ao98 x638000_3.length co98)∧w'.cell? ⟨gb637,1,none⟩=some (u638001)∧w'.cell? ⟨gb637,2,none⟩=some (.int .i64 x638002_3)∧w'.cell? (ad650.add ((x7_3).toNat * 3))=some (.int .i64 ((rd_T55 l1_6 x7_3).f0))∧w'.cell? ⟨(ad650.add ((x7_3).toNat * 3)).block,(ad650.add ((x7_3).toNat * 3)).off + 1,none⟩=some (.int .i64 ((rd_T55 l1_6 x7_3).f1))∧w'.cell? ⟨(ad650.add ((x7_3).toNat * 3)).block,(ad650.add ((x7_3).toNat * 3)).off + 2,none⟩=some (.int .i64 ((rd_T55 l1_6 x7_3).f2))) (ds:=[]) #[false,false,false,false,false,false,false,false,false,false] (by kernel_rfl) rfl rfl ⟨(blk_cell BK638.out 0).trans rfl,(blk_cell BK638.out 1).trans rfl,(blk_cell BK638.out 2).trans rfl,(blk_cell BK638.out 3).trans rfl,(blk_cell BK638.out 4).trans rfl,(blk_cell BK638.out 5).trans rfl,(blk_cell BK638.out 6).trans rfl,(blk_cell BK637.out 0).trans rfl,(blk_cell BK637.out 1).trans rfl,(blk_cell BK637.out 2).trans rfl,hx650_0,hx650_1,hx650_2⟩ (fun hHeld=>?_);refine with_tabW slipwayref06_know.tab12 slipwayref06_know.bits12 (fun HT_ HW_=>?_)
           generalize wr.drew=w97 at HO_638000 HO_638001 BK637 BK638 BK639 HK HB hx650_0 hx650_1 hx650_2 hHeld ⊢
           refine pure_ (i:=0) (N:=some 83) (v:=?_) (a':=?_) #[true,false,false,false,false,false,false,false,false,false] rfl rfl (any_of HT_.out (by kernel_rfl)) (fun _ _ _ h=>h) (Or.inl ⟨by rfl,?_⟩) ?_ ?_
           rotate_left
           ·intro w'
            go_simp
            with_reducible rfl
           rotate_left
           ·simp only [Act.put,List.setIfInBounds_toArray,List.set_cons_zero,List.set_cons_succ,i64_w,i32_w]
            rfl
           refine pure_ (i:=2) (N:=some 85) (v:=?_) (a':=?_) #[true,false,true,false,false,false,false,false,false,false] rfl rfl (any_of HT_.out (by kernel_rfl)) (fun _ _ _ h=>h) (Or.inl ⟨by rfl,?_⟩) ?_ ?_
           rotate_left
           ·intro w'
            go_simp
            with_reducible rfl
           rotate_left
           ·simp only [Act.put,List.setIfInBounds_toArray,List.set_cons_zero,List.set_cons_succ,i64_w,i32_w]
            rfl
           refine pure_ (i:=6) (N:=some 89) (v:=?_) (a':=?_) #[true,false,true,false,false,false,true,false,false,false] rfl rfl (any_of HT_.out (by kernel_rfl)) (fun _ _ _ h=>h) (Or.inl ⟨by rfl,?_⟩) ?_ ?_
           rotate_left
           ·intro w'
            go_simp
            with_reducible rfl
           rotate_left
           ·simp only [Act.put,List.setIfInBounds_toArray,List.set_cons_zero,List.set_cons_succ,i64_w,i32_w]
            rfl
           refine take_ (i:=1) (N:=some 84) (v:=?_) (a':=?_) #[true,true,true,false,false,false,true,false,false,false] rfl rfl (take_ofW HT_.out HW_.out (by kernel_rfl)) (fun _ _ _ h=>h) (Or.inl ⟨by rfl,?_⟩) hHeld ?_ ?_
           rotate_left
           ·rintro w' ⟨s0,s1,s2,s3,s4,s5,s6,s7,s8,s9,s10,s11,s12⟩
            go_simp
            with_reducible rfl
           rotate_left
           ·simp only [Act.put,List.setIfInBounds_toArray,List.set_cons_zero,List.set_cons_succ,i64_w,i32_w]
            rfl
           refine pure_ (i:=3) (N:=some 86) (v:=?_) (a':=?_) #[true,true,true,true,false,false,true,false,false,false] rfl rfl (any_of HT_.out (by kernel_rfl)) (fun _ _ _ h=>h) (Or.inl ⟨by rfl,?_⟩) ?_ ?_
           rotate_left
           ·intro w'
            go_simp
            with_reducible rfl
           rotate_left
           ·simp only [Act.put,List.setIfInBounds_toArray,List.set_cons_zero,List.set_cons_succ,i64_w,i32_w]
            rfl
           refine pure_ (i:=4) (N:=some 87) (v:=?_) (a':=?_) #[true,true,true,true,true,false,true,false,false,false] rfl rfl (any_of HT_.out (by kernel_rfl)) (fun _ _ _ h=>h) (Or.inl ⟨by rfl,?_⟩) ?_ ?_
           rotate_left
           ·intro w'
            go_simp
            with_reducible rfl
           rotate_left
           ·simp only [Act.put,List.setIfInBounds_toArray,List.set_cons_zero,List.set_cons_succ,i64_w,i32_w]
            rfl
           refine take_ (i:=5) (N:=some 88) (v:=?_) (a':=?_) #[true,true,true,true,true,true,true,false,false,false] rfl rfl (take_ofW HT_.out HW_.out (by kernel_rfl)) (fun _ _ _ h=>h) (Or.inl ⟨by rfl,?_⟩) hHeld ?_ ?_
           rotate_left
           ·rintro w' ⟨s0,s1,s2,s3,s4,s5,s6,s7,s8,s9,s10,s11,s12⟩
            go_simp
            with_reducible rfl
           rotate_left
           ·simp only [Act.put,List.setIfInBounds_toArray,List.set_cons_zero,List.set_cons_succ,i64_w,i32_w]
            rfl
           refine take_ (i:=7) (N:=some 90) (v:=?_) (a':=?_) #[true,true,true,true,true,true,true,true,false,false] rfl rfl (take_ofW HT_.out HW_.out (by kernel_rfl)) (fun _ _ _ h=>h) (Or.inl ⟨by rfl,?_⟩) hHeld ?_ ?_
           rotate_left
           ·rintro w' ⟨s0,s1,s2,s3,s4,s5,s6,s7,s8,s9,s10,s11,s12⟩
            go_simp
            with_reducible rfl
           rotate_left
           ·simp only [Act.put,List.setIfInBounds_toArray,List.set_cons_zero,List.set_cons_succ,i64_w,i32_w]
            rfl
           refine pure_ (i:=8) (N:=some 91) (v:=?_) (a':=?_) #[true,true,true,true,true,true,true,true,true,false] rfl rfl (any_of HT_.out (by kernel_rfl)) (fun _ _ _ h=>h) (Or.inl ⟨by rfl,?_⟩) ?_ ?_
           rotate_left
           ·intro w'
            go_simp
            with_reducible rfl
           rotate_left
           ·simp only [Act.put,List.setIfInBounds_toArray,List.set_cons_zero,List.set_cons_succ,i64_w,i32_w]
            rfl
           refine pure_ (i:=9) (N:=some 92) (v:=?_) (a':=?_) #[true,true,true,true,true,true,true,true,true,true] rfl rfl (any_of HT_.out (by kernel_rfl)) (fun _ _ _ h=>h) (Or.inl ⟨by rfl,?_⟩) ?_ ?_
           rotate_left
           ·intro w'
            go_simp
            with_reducible rfl
           rotate_left
           ·simp only [Act.put,List.setIfInBounds_toArray,List.set_cons_zero,List.set_cons_succ,i64_w,i32_w]
            rfl
           refine done_ (done_of HT_.out (by kernel_rfl)) ?_
           try go_wp2
           go_roundg k3
           case measure=>have:=HK1.out;have:=HJ7.out;have:=HK3.out;omega
           case rel=>exact ⟨(wrap64 (x7_3 + 1)),(x638000_3),(x638001_3),(x638002_3),(.slice Ao98 x638000_3.length co98),(u638001),(by first|rfl|(simp;done)|(simp [*];done)),H',⟨by have:=HK1.out;have:=HJ7.out;have:=HK3.out;omega⟩,⟨by (with_reducible repeat (first|apply zrA|apply zrN|apply zrD));exact HO_638000.out⟩,⟨by (with_reducible repeat (first|apply zrA|apply zrN|apply zrD));exact HO_638001.out⟩,⟨by (with_reducible repeat (first|refine zbN ?_ _|refine zbD ?_|refine zbA ?_ _));exact BK637.out⟩,⟨by (with_reducible repeat (first|refine zbN ?_ _|refine zbD ?_|refine zbA ?_ _));exact BK638.out⟩,⟨by (with_reducible repeat (first|refine zbN ?_ _|refine zbD ?_|refine zbA ?_ _));exact BK639.out⟩,⟨by repeat (first|(with_reducible first|exact HK.out|apply Kept.alloc|apply Kept.drewN|apply Kept.drew|refine Kept.setCell ?_ (.inr GW637.out) _|refine Kept.setCell ?_ (.inr GW638.out) _|refine Kept.setCell ?_ (.inr GW639.out) _)|exact HK.out)⟩,⟨by repeat (first|(with_reducible first|exact HB.out|apply zlA|apply zlN|apply zlD|refine zlS ?_ GE637.out|refine zlS ?_ GE638.out|refine zlS ?_ GE639.out)|exact HB.out)⟩⟩
         ·rw [if_neg c78] at H
          exact absurd H (by simp)
        ·rw [if_neg c77] at H
         have c77b0:decide (x7_3 < (l1_6.length:Int))=false:=decide_eq_false c77
         clear c77
         simp only [Option.some.injEq,Prod.mk.injEq] at H
         obtain ⟨rfl,rfl,rfl⟩:=H
         have hnb99:=NB638_637.out
         have hnc99:=NB637_638.out
         have hnb100:=NB638_639.out
         have hnc100:=NB639_638.out
         have hcz101_0:wr.cell? ⟨gb638,0,none⟩=some (.int .i64 a1_0):=(blk_cell BK638.out 0).trans rfl
         have hcz101_1:wr.cell? ⟨gb638,1,none⟩=some (.int .i64 a1_1):=(blk_cell BK638.out 1).trans rfl
         have hcz101_2:wr.cell? ⟨gb638,2,none⟩=some (.int .i64 a1_2):=(blk_cell BK638.out 2).trans rfl
         have hcz101_3:wr.cell? ⟨gb638,3,none⟩=some (.int .i64 a1_3):=(blk_cell BK638.out 3).trans rfl
         have hcz101_4:wr.cell? ⟨gb638,4,none⟩=some (.slice A1_4 l1_4.length c1_4):=(blk_cell BK638.out 4).trans rfl
         have hcz101_5:wr.cell? ⟨gb638,5,none⟩=some (.slice A1_5 l1_5.length c1_5):=(blk_cell BK638.out 5).trans rfl
         have hcz101_6:wr.cell? ⟨gb638,6,none⟩=some (.slice A1_6 l1_6.length c1_6):=(blk_cell BK638.out 6).trans rfl
         have hfz101_0:=blk_frozen BK638.out 0
         have hfz101_1:=blk_frozen BK638.out 1
         have hfz101_2:=blk_frozen BK638.out 2
         have hfz101_3:=blk_frozen BK638.out 3
         have hfz101_4:=blk_frozen BK638.out 4
         have hfz101_5:=blk_frozen BK638.out 5
         have hfz101_6:=blk_frozen BK638.out 6
         have hnb102:=NB637_639.out
         have hnc102:=NB639_637.out
         have hcz103_0:wr.cell? ⟨gb637,0,none⟩=some (u638000):=(blk_cell BK637.out 0).trans rfl
         have hcz103_1:wr.cell? ⟨gb637,1,none⟩=some (u638001):=(blk_cell BK637.out 1).trans rfl
         have hcz103_2:wr.cell? ⟨gb637,2,none⟩=some (.int .i64 x638002_3):=(blk_cell BK637.out 2).trans rfl
         have hfz103_0:=blk_frozen BK637.out 0
         have hfz103_1:=blk_frozen BK637.out 1
         have hfz103_2:=blk_frozen BK637.out 2
         obtain ⟨Ao104,co104,eo104⟩:=Kd.R_slice HO_638000.out
         subst eo104
         have hcz105_0:wr.cell? ⟨gb639,0,none⟩=some (.slice none 0 0):=(blk_cell BK639.out 0).trans rfl
         have hcz105_1:wr.cell? ⟨gb639,1,none⟩=some (.slice none 0 0):=(blk_cell BK639.out 1).trans rfl
         have hcz105_2:wr.cell? ⟨gb639,2,none⟩=some (.int .i64 0):=(blk_cell BK639.out 2).trans rfl
         have hfz105_0:=blk_frozen BK639.out 0
         have hfz105_1:=blk_frozen BK639.out 1
         have hfz105_2:=blk_frozen BK639.out 2
         obtain ⟨Ao106,co106,eo106⟩:=Kd.R_slice HO_638001.out
         subst eo106
         go_wp2
         refine bodyPost_ret (results_cell_row rfl _ _ gb639 25 #[.slice Ao104 x638000_3.length co104,.slice Ao106 x638001_3.length co106,.int .i64 x638002_3] (0,0) _ rfl (by (with_reducible repeat (first|refine zbN ?_ _|refine zbD ?_|refine zbA ?_ _));refine blk_put (cs:=#[.slice Ao104 x638000_3.length co104,.slice Ao106 x638001_3.length co106,.int .i64 0]) ?_ 2 _ rfl;(with_reducible repeat (first|refine zbN ?_ _|refine zbD ?_|refine zbA ?_ _));refine blk_put (cs:=#[.slice Ao104 x638000_3.length co104,.slice none 0 0,.int .i64 0]) ?_ 1 _ rfl;(with_reducible repeat (first|refine zbN ?_ _|refine zbD ?_|refine zbA ?_ _));refine blk_put (cs:=#[.slice none 0 0,.slice none 0 0,.int .i64 0]) ?_ 0 _ rfl;(with_reducible repeat (first|refine zbN ?_ _|refine zbD ?_|refine zbA ?_ _));exact BK639.out) Try.underlying25 rfl (by kernel_rfl)) rfl ?_
         exact ⟨_,_,by first|rfl|(simp [errW_none,errW_some] <;> rfl)|(simp only [← hji71];first|rfl|(simp [errW_none,errW_some] <;> rfl))|(simp [*,errW_none,errW_some] <;> rfl),by (with_reducible repeat (first|apply zrA|apply zrN|apply zrD));exact Kd.R_mono (Kd.R_far (p:=⟨gb639,2,none⟩) (Kd.R_far (p:=⟨gb639,1,none⟩) (Kd.R_far (p:=⟨gb639,0,none⟩) (Kd.R_types HO_638000.out BK639.out (by decide)) (fun _ hk=>hk.2) (.slice Ao104 x638000_3.length co104)) (fun _ hk=>hk.2) (.slice Ao106 x638001_3.length co106)) (fun _ hk=>hk.2) (.int .i64 x638002_3)) (fun _ hk=>hk.1),by (with_reducible repeat (first|apply zrA|apply zrN|apply zrD));exact Kd.R_mono (Kd.R_far (p:=⟨gb639,2,none⟩) (Kd.R_far (p:=⟨gb639,1,none⟩) (Kd.R_far (p:=⟨gb639,0,none⟩) (Kd.R_types HO_638001.out BK639.out (by decide)) (fun _ hk=>hk.2) (.slice Ao104 x638000_3.length co104)) (fun _ hk=>hk.2) (.slice Ao106 x638001_3.length co106)) (fun _ hk=>hk.2) (.int .i64 x638002_3)) (fun _ hk=>hk.1),by repeat (first|(with_reducible first|exact HB.out|apply zlA|apply zlN|apply zlD|refine zlS ?_ GE637.out|refine zlS ?_ GE638.out|refine zlS ?_ GE639.out)|exact HB.out),by repeat (first|(with_reducible first|exact HK.out|apply Kept.alloc|apply Kept.drewN|apply Kept.drew|refine Kept.setCell ?_ (.inr GW637.out) _|refine Kept.setCell ?_ (.inr GW638.out) _|refine Kept.setCell ?_ (.inr GW639.out) _)|exact HK.out)⟩
end Go.Proofs.Ytkhbmgclklmimaa.Print
end
