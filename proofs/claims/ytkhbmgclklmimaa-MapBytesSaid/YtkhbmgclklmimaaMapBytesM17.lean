/- Texts of the proof of MapBytes, part 17. -/
import Derived.Test.YtkhbmgclklmimaaMapBytesMA
import Derived.Test.YtkhbmgclklmimaaMapBytesM15
import Derived.Test.YtkhbmgclklmimaaMapBytesM16
section
namespace Go.Proofs.Ytkhbmgclklmimaa.Print
open Go.RowKit Go.Proofs.YtkhbmgclklmimaaW.PrintWords Go.Proofs.YtkhbmgclklmimaaW.PrintLast Go.Proofs.YtkhbmgclklmimaaW.PrintMore
attribute [local go_sem] max2_int min2_int max_two min_two max_three min_three max_four min_four   -- for this text's walks alone
attribute [local go_sem ↓] Go.Proofs.Ytkhbmgclklmimaa.Sem.isSome_setCell
attribute [local go_sem] Go.Instr.field Go.asAgg
set_option linter.unusedVariables false
set_option linter.unusedSimpArgs false
def slipwayref06_SamePage.f (k:Nat) (a0_0:Int) (a0_1:Int) (a0_2:Int) (a0_3:Int) (l0_4:List Bool) (l0_5:List Int) (l0_6:List (S55)) (a1_0:Int) (a1_1:Int) (a1_2:Int) (a1_3:Int) (l1_4:List Bool) (l1_5:List Int) (l1_6:List (S55)):Option (Bool):=if a0_0=a1_0 then (if a0_1=a1_1 then (if a0_2=a1_2 then (if a0_3=a1_3 then ((slipwayref06_bools.f k l0_4 l1_4).bind fun t510=>(if t510=true then ((slipwayref06_nums.f k l0_5 l1_5).bind fun t511=>(if t511=true then ((slipwayref06_SameRecords.f k l0_6 l1_6).bind fun t512=>(some t512)) else (some false))) else (some false))) else (some false)) else (some false)) else (some false)) else (some false)
set_option maxHeartbeats 8000000 in
set_option maxRecDepth 100000 in
theorem slipwayref06_SamePage.calls (k:Nat) (a0_0:Int) (a0_1:Int) (a0_2:Int) (a0_3:Int) (A0_4:Option Addr) (c0_4:Nat) (l0_4:List Bool) (A0_5:Option Addr) (c0_5:Nat) (l0_5:List Int) (A0_6:Option Addr) (c0_6:Nat) (l0_6:List (S55)) (a1_0:Int) (a1_1:Int) (a1_2:Int) (a1_3:Int) (A1_4:Option Addr) (c1_4:Nat) (l1_4:List Bool) (A1_5:Option Addr) (c1_5:Nat) (l1_5:List Int) (A1_6:Option Addr) (c1_6:Nat) (l1_6:List (S55)) (r:Bool) (w:World) (hr0_4:Kd.C Kd.bool w A0_4 l0_4.length l0_4) (hc0_4:l0_4.length≤c0_4) (hr0_5:Kd.C (Kd.int .i64) w A0_5 l0_5.length l0_5) (hc0_5:l0_5.length≤c0_5) (hr0_6:Kd.C k55 w A0_6 l0_6.length l0_6) (hc0_6:l0_6.length≤c0_6) (hr1_4:Kd.C Kd.bool w A1_4 l1_4.length l1_4) (hc1_4:l1_4.length≤c1_4) (hr1_5:Kd.C (Kd.int .i64) w A1_5 l1_5.length l1_5) (hc1_5:l1_5.length≤c1_5) (hr1_6:Kd.C k55 w A1_6 l1_6.length l1_6) (hc1_6:l1_6.length≤c1_6) (h:slipwayref06_SamePage.f k a0_0 a0_1 a0_2 a0_3 l0_4 l0_5 l0_6 a1_0 a1_1 a1_2 a1_3 l1_4 l1_5 l1_6=some r) :
  Calls Try.prog 32 #[.agg #[.int .i64 a0_0,.int .i64 a0_1,.int .i64 a0_2,.int .i64 a0_3,.slice A0_4 l0_4.length c0_4,.slice A0_5 l0_5.length c0_5,.slice A0_6 l0_6.length c0_6],.agg #[.int .i64 a1_0,.int .i64 a1_1,.int .i64 a1_2,.int .i64 a1_3,.slice A1_4 l1_4.length c1_4,.slice A1_5 l1_5.length c1_5,.slice A1_6 l1_6.length c1_6]] w fun e w'=>e=.returned (.bool r)∧Below w.heap.size w w':=by
 have hu42:=Try.underlying42
 have HR0_4:=zm hr0_4
 have HC0_4:=zm hc0_4
 clear hr0_4 hc0_4
 have HR0_5:=zm hr0_5
 have HC0_5:=zm hc0_5
 clear hr0_5 hc0_5
 have HR0_6:=zm hr0_6
 have HC0_6:=zm hc0_6
 clear hr0_6 hc0_6
 have HR1_4:=zm hr1_4
 have HC1_4:=zm hc1_4
 clear hr1_4 hc1_4
 have HR1_5:=zm hr1_5
 have HC1_5:=zm hc1_5
 clear hr1_5 hc1_5
 have HR1_6:=zm hr1_6
 have HC1_6:=zm hc1_6
 clear hr1_6 hc1_6
 have HB:=zm (Below.refl w.heap.size w)
 have H:(if a0_0=a1_0 then (if a0_1=a1_1 then (if a0_2=a1_2 then (if a0_3=a1_3 then ((slipwayref06_bools.f k l0_4 l1_4).bind fun t510=>(if t510=true then ((slipwayref06_nums.f k l0_5 l1_5).bind fun t511=>(if t511=true then ((slipwayref06_SameRecords.f k l0_6 l1_6).bind fun t512=>(some t512)) else (some false))) else (some false))) else (some false)) else (some false)) else (some false)) else (some false))=some r:=h
 clear h
 by_cases c3:a0_0=a1_0
 ·rw [if_pos c3] at H
  have c3b0:(a0_0 == a1_0)=true:=beq_iff_eq.mpr c3
  have c3b1:(a0_0 != a1_0)=false:=bne_eq_false_iff_eq.mpr c3
  clear c3
  by_cases c4:a0_1=a1_1
  ·rw [if_pos c4] at H
   have c4b0:(a0_1 == a1_1)=true:=beq_iff_eq.mpr c4
   have c4b1:(a0_1 != a1_1)=false:=bne_eq_false_iff_eq.mpr c4
   clear c4
   by_cases c5:a0_2=a1_2
   ·rw [if_pos c5] at H
    have c5b0:(a0_2 == a1_2)=true:=beq_iff_eq.mpr c5
    have c5b1:(a0_2 != a1_2)=false:=bne_eq_false_iff_eq.mpr c5
    clear c5
    by_cases c6:a0_3=a1_3
    ·rw [if_pos c6] at H
     have c6b0:(a0_3 == a1_3)=true:=beq_iff_eq.mpr c6
     have c6b1:(a0_3 != a1_3)=false:=bne_eq_false_iff_eq.mpr c6
     clear c6
     replace H:=Option.bind_eq_some_iff.mp H
     obtain ⟨t510,A70,H⟩:=H
     replace H:(if t510=true then ((slipwayref06_nums.f k l0_5 l1_5).bind fun t511=>(if t511=true then ((slipwayref06_SameRecords.f k l0_6 l1_6).bind fun t512=>(some t512)) else (some false))) else (some false))=some r:=H
     have A7:=zm A70
     clear A70
     by_cases c8:t510=true
     ·subst c8
      have H1:((slipwayref06_nums.f k l0_5 l1_5).bind fun t511=>(if t511=true then ((slipwayref06_SameRecords.f k l0_6 l1_6).bind fun t512=>(some t512)) else (some false)))=some r:=by rw [if_pos rfl] at H;exact H
      clear H
      have H:=H1
      clear H1
      replace H:=Option.bind_eq_some_iff.mp H
      obtain ⟨t511,A90,H⟩:=H
      replace H:(if t511=true then ((slipwayref06_SameRecords.f k l0_6 l1_6).bind fun t512=>(some t512)) else (some false))=some r:=H
      have A9:=zm A90
      clear A90
      by_cases c10:t511=true
      ·subst c10
       have H1:((slipwayref06_SameRecords.f k l0_6 l1_6).bind fun t512=>(some t512))=some r:=by rw [if_pos rfl] at H;exact H
       clear H
       have H:=H1
       clear H1
       replace H:=Option.bind_eq_some_iff.mp H
       obtain ⟨t512,A110,H⟩:=H
       replace H:(some t512)=some r:=H
       have A11:=zm A110
       clear A110
       obtain rfl:=Option.some.inj H
       go_enter Try.func32,Try.ntmps32
       go_wp2_with (first|((with_reducible refine gate_dst (N:=2) rfl ?_);refine box_event ?hg (N:=2) ?hd (cs:=#[.int .i64 a0_0,.int .i64 a0_1,.int .i64 a0_2,.int .i64 a0_3,.slice A0_4 l0_4.length c0_4,.slice A0_5 l0_5.length c0_5,.slice A0_6 l0_6.length c0_6]) (t:=42) ?hr ?_;(case hd=>rfl);(case hg=>rfl);(case hr=>first|(go_simp;done)|(go_simp;rfl));intro gb508 hg w12 hbox hb;have n0_:=zm (below_step (by repeat (first|(with_reducible first|exact HB.out|apply zlA|apply zlN|apply zlD)|exact HB.out)) hb);have n1_:=zm (hbox);have n2_:=zm ((by rw [hg];exact (below_size (by repeat (first|(with_reducible first|exact HB.out|apply zlA|apply zlN|apply zlD)|exact HB.out))):w.heap.size≤gb508));have n3_:=zm ((by rw [hg];exact (below_size (by repeat (first|(with_reducible first|exact HB.out|apply zlA|apply zlN|apply zlD)|exact HB.out))):w.heap.size≤gb508));clear HB;have HB:=n0_;have BK508:=n1_;have GW508:=n2_;have GE508:=n3_;clear n0_ n1_ n2_ n3_;clear hb hbox hg)|((with_reducible refine gate_dst (N:=3) rfl ?_);refine box_event ?hg (N:=3) ?hd (cs:=#[.int .i64 a1_0,.int .i64 a1_1,.int .i64 a1_2,.int .i64 a1_3,.slice A1_4 l1_4.length c1_4,.slice A1_5 l1_5.length c1_5,.slice A1_6 l1_6.length c1_6]) (t:=42) ?hr ?_;(case hd=>rfl);(case hg=>rfl);(case hr=>first|(go_simp;done)|(go_simp;rfl));intro gb509 hg w13 hbox hb;have n0_:=zm (zbB (g:=gb508) (o:=.cells #[.int .i64 a0_0,.int .i64 a0_1,.int .i64 a0_2,.int .i64 a0_3,.slice A0_4 l0_4.length c0_4,.slice A0_5 l0_5.length c0_5,.slice A0_6 l0_6.length c0_6] 42 (0,0)) (by (with_reducible repeat (first|refine zbN ?_ _|refine zbD ?_|refine zbA ?_ _));exact BK508.out) hb);have n1_:=zm (below_step (by repeat (first|(with_reducible first|exact HB.out|apply zlA|apply zlN|apply zlD|refine zlS ?_ GE508.out)|exact HB.out)) hb);have n2_:=zm (hbox);have n3_:=zm ((by rw [hg];exact (below_size (by repeat (first|(with_reducible first|exact HB.out|apply zlA|apply zlN|apply zlD|refine zlS ?_ GE508.out)|exact HB.out))):w.heap.size≤gb509));have n4_:=zm ((by rw [hg];exact (below_size (by repeat (first|(with_reducible first|exact HB.out|apply zlA|apply zlN|apply zlD|refine zlS ?_ GE508.out)|exact HB.out))):w.heap.size≤gb509));have n5_:=zm ((by rw [hg];exact Nat.ne_of_lt (blk_lt (g:=gb508) (o:=.cells #[.int .i64 a0_0,.int .i64 a0_1,.int .i64 a0_2,.int .i64 a0_3,.slice A0_4 l0_4.length c0_4,.slice A0_5 l0_5.length c0_5,.slice A0_6 l0_6.length c0_6] 42 (0,0)) (by (with_reducible repeat (first|refine zbN ?_ _|refine zbD ?_|refine zbA ?_ _));exact BK508.out)):gb508≠gb509));have n6_:=zm ((by rw [hg];exact Nat.ne_of_gt (blk_lt (g:=gb508) (o:=.cells #[.int .i64 a0_0,.int .i64 a0_1,.int .i64 a0_2,.int .i64 a0_3,.slice A0_4 l0_4.length c0_4,.slice A0_5 l0_5.length c0_5,.slice A0_6 l0_6.length c0_6] 42 (0,0)) (by (with_reducible repeat (first|refine zbN ?_ _|refine zbD ?_|refine zbA ?_ _));exact BK508.out)):gb509≠gb508));clear BK508 HB;have BK508:=n0_;have HB:=n1_;have BK509:=n2_;have GW509:=n3_;have GE509:=n4_;have NB508_509:=n5_;have NB509_508:=n6_;clear n0_ n1_ n2_ n3_ n4_ n5_ n6_;clear hb hbox hg;have hnb14:=NB508_509.out;have hnc14:=NB509_508.out;have hcz15_0:w13.cell? ⟨gb508,0,none⟩=some (.int .i64 a0_0):=(blk_cell BK508.out 0).trans rfl;have hcz15_1:w13.cell? ⟨gb508,1,none⟩=some (.int .i64 a0_1):=(blk_cell BK508.out 1).trans rfl;have hcz15_2:w13.cell? ⟨gb508,2,none⟩=some (.int .i64 a0_2):=(blk_cell BK508.out 2).trans rfl;have hcz15_3:w13.cell? ⟨gb508,3,none⟩=some (.int .i64 a0_3):=(blk_cell BK508.out 3).trans rfl;have hcz15_4:w13.cell? ⟨gb508,4,none⟩=some (.slice A0_4 l0_4.length c0_4):=(blk_cell BK508.out 4).trans rfl;have hcz15_5:w13.cell? ⟨gb508,5,none⟩=some (.slice A0_5 l0_5.length c0_5):=(blk_cell BK508.out 5).trans rfl;have hcz15_6:w13.cell? ⟨gb508,6,none⟩=some (.slice A0_6 l0_6.length c0_6):=(blk_cell BK508.out 6).trans rfl;have hfz15_0:=blk_frozen BK508.out 0;have hfz15_1:=blk_frozen BK508.out 1;have hfz15_2:=blk_frozen BK508.out 2;have hfz15_3:=blk_frozen BK508.out 3;have hfz15_4:=blk_frozen BK508.out 4;have hfz15_5:=blk_frozen BK508.out 5;have hfz15_6:=blk_frozen BK508.out 6;have hcz16_0:w13.cell? ⟨gb509,0,none⟩=some (.int .i64 a1_0):=(blk_cell BK509.out 0).trans rfl;have hcz16_1:w13.cell? ⟨gb509,1,none⟩=some (.int .i64 a1_1):=(blk_cell BK509.out 1).trans rfl;have hcz16_2:w13.cell? ⟨gb509,2,none⟩=some (.int .i64 a1_2):=(blk_cell BK509.out 2).trans rfl;have hcz16_3:w13.cell? ⟨gb509,3,none⟩=some (.int .i64 a1_3):=(blk_cell BK509.out 3).trans rfl;have hcz16_4:w13.cell? ⟨gb509,4,none⟩=some (.slice A1_4 l1_4.length c1_4):=(blk_cell BK509.out 4).trans rfl;have hcz16_5:w13.cell? ⟨gb509,5,none⟩=some (.slice A1_5 l1_5.length c1_5):=(blk_cell BK509.out 5).trans rfl;have hcz16_6:w13.cell? ⟨gb509,6,none⟩=some (.slice A1_6 l1_6.length c1_6):=(blk_cell BK509.out 6).trans rfl;have hfz16_0:=blk_frozen BK509.out 0;have hfz16_1:=blk_frozen BK509.out 1;have hfz16_2:=blk_frozen BK509.out 2;have hfz16_3:=blk_frozen BK509.out 3;have hfz16_4:=blk_frozen BK509.out 4;have hfz16_5:=blk_frozen BK509.out 5;have hfz16_6:=blk_frozen BK509.out 6)|(go_at_call 53;(with_reducible refine (slipwayref06_bools.calls k _ _ l0_4 _ _ l1_4 true _ ?side1 ?side2 ?side3 ?side4 A7.out).mono ?_);(case side1=>repeat (first|exact (Kd.C_below HR0_4.out HB.out)|(with_reducible refine Kd.C_alloc ?_ _)|(with_reducible refine Kd.C_drewN ?_ _)|(with_reducible refine Kd.C_drew ?_)));(case side2=>exact HC0_4.out);(case side3=>repeat (first|exact (Kd.C_below HR1_4.out HB.out)|(with_reducible refine Kd.C_alloc ?_ _)|(with_reducible refine Kd.C_drewN ?_ _)|(with_reducible refine Kd.C_drew ?_)));(case side4=>exact HC1_4.out);rintro e w' ⟨rfl,⟨nd,rfl⟩⟩)|(go_at_call 54;(with_reducible refine (slipwayref06_nums.calls k _ _ l0_5 _ _ l1_5 true _ ?side1 ?side2 ?side3 ?side4 A9.out).mono ?_);(case side1=>repeat (first|exact (Kd.C_below HR0_5.out (by repeat (first|(with_reducible first|exact HB.out|apply zlA|apply zlN|apply zlD|refine zlS ?_ GE508.out|refine zlS ?_ GE509.out)|exact HB.out)))|(with_reducible refine Kd.C_alloc ?_ _)|(with_reducible refine Kd.C_drewN ?_ _)|(with_reducible refine Kd.C_drew ?_)));(case side2=>exact HC0_5.out);(case side3=>repeat (first|exact (Kd.C_below HR1_5.out (by repeat (first|(with_reducible first|exact HB.out|apply zlA|apply zlN|apply zlD|refine zlS ?_ GE508.out|refine zlS ?_ GE509.out)|exact HB.out)))|(with_reducible refine Kd.C_alloc ?_ _)|(with_reducible refine Kd.C_drewN ?_ _)|(with_reducible refine Kd.C_drew ?_)));(case side4=>exact HC1_5.out);rintro e w' ⟨rfl,⟨nd,rfl⟩⟩)|(go_at_call 26;(with_reducible refine (slipwayref06_SameRecords.calls k _ _ l0_6 _ _ l1_6 t512 _ ?side1 ?side2 ?side3 ?side4 A11.out).mono ?_);(case side1=>repeat (first|exact (Kd.C_below HR0_6.out (by repeat (first|(with_reducible first|exact HB.out|apply zlA|apply zlN|apply zlD|refine zlS ?_ GE508.out|refine zlS ?_ GE509.out)|exact HB.out)))|(with_reducible refine Kd.C_alloc ?_ _)|(with_reducible refine Kd.C_drewN ?_ _)|(with_reducible refine Kd.C_drew ?_)));(case side2=>exact HC0_6.out);(case side3=>repeat (first|exact (Kd.C_below HR1_6.out (by repeat (first|(with_reducible first|exact HB.out|apply zlA|apply zlN|apply zlD|refine zlS ?_ GE508.out|refine zlS ?_ GE509.out)|exact HB.out)))|(with_reducible refine Kd.C_alloc ?_ _)|(with_reducible refine Kd.C_drewN ?_ _)|(with_reducible refine Kd.C_drew ?_)));(case side4=>exact HC1_6.out);rintro e w' ⟨rfl,⟨nd,rfl⟩⟩))
       go_ret
       exact ⟨by first|rfl|(simp [errW_none,errW_some] <;> rfl)|(simp [*,errW_none,errW_some] <;> rfl),by repeat (first|(with_reducible first|exact HB.out|apply zlA|apply zlN|apply zlD|refine zlS ?_ GE508.out|refine zlS ?_ GE509.out)|exact HB.out)⟩
      ·replace c10:=Bool.eq_false_iff.mpr c10
       subst c10
       have H1:(some false)=some r:=by rw [if_neg (show ¬ (false=true) by decide)] at H;exact H
       clear H
       have H:=H1
       clear H1
       obtain rfl:=Option.some.inj H
       go_enter Try.func32,Try.ntmps32
       go_wp2_with (first|((with_reducible refine gate_dst (N:=2) rfl ?_);refine box_event ?hg (N:=2) ?hd (cs:=#[.int .i64 a0_0,.int .i64 a0_1,.int .i64 a0_2,.int .i64 a0_3,.slice A0_4 l0_4.length c0_4,.slice A0_5 l0_5.length c0_5,.slice A0_6 l0_6.length c0_6]) (t:=42) ?hr ?_;(case hd=>rfl);(case hg=>rfl);(case hr=>first|(go_simp;done)|(go_simp;rfl));intro gb508 hg w17 hbox hb;have n0_:=zm (below_step (by repeat (first|(with_reducible first|exact HB.out|apply zlA|apply zlN|apply zlD)|exact HB.out)) hb);have n1_:=zm (hbox);have n2_:=zm ((by rw [hg];exact (below_size (by repeat (first|(with_reducible first|exact HB.out|apply zlA|apply zlN|apply zlD)|exact HB.out))):w.heap.size≤gb508));have n3_:=zm ((by rw [hg];exact (below_size (by repeat (first|(with_reducible first|exact HB.out|apply zlA|apply zlN|apply zlD)|exact HB.out))):w.heap.size≤gb508));clear HB;have HB:=n0_;have BK508:=n1_;have GW508:=n2_;have GE508:=n3_;clear n0_ n1_ n2_ n3_;clear hb hbox hg)|((with_reducible refine gate_dst (N:=3) rfl ?_);refine box_event ?hg (N:=3) ?hd (cs:=#[.int .i64 a1_0,.int .i64 a1_1,.int .i64 a1_2,.int .i64 a1_3,.slice A1_4 l1_4.length c1_4,.slice A1_5 l1_5.length c1_5,.slice A1_6 l1_6.length c1_6]) (t:=42) ?hr ?_;(case hd=>rfl);(case hg=>rfl);(case hr=>first|(go_simp;done)|(go_simp;rfl));intro gb509 hg w18 hbox hb;have n0_:=zm (zbB (g:=gb508) (o:=.cells #[.int .i64 a0_0,.int .i64 a0_1,.int .i64 a0_2,.int .i64 a0_3,.slice A0_4 l0_4.length c0_4,.slice A0_5 l0_5.length c0_5,.slice A0_6 l0_6.length c0_6] 42 (0,0)) (by (with_reducible repeat (first|refine zbN ?_ _|refine zbD ?_|refine zbA ?_ _));exact BK508.out) hb);have n1_:=zm (below_step (by repeat (first|(with_reducible first|exact HB.out|apply zlA|apply zlN|apply zlD|refine zlS ?_ GE508.out)|exact HB.out)) hb);have n2_:=zm (hbox);have n3_:=zm ((by rw [hg];exact (below_size (by repeat (first|(with_reducible first|exact HB.out|apply zlA|apply zlN|apply zlD|refine zlS ?_ GE508.out)|exact HB.out))):w.heap.size≤gb509));have n4_:=zm ((by rw [hg];exact (below_size (by repeat (first|(with_reducible first|exact HB.out|apply zlA|apply zlN|apply zlD|refine zlS ?_ GE508.out)|exact HB.out))):w.heap.size≤gb509));have n5_:=zm ((by rw [hg];exact Nat.ne_of_lt (blk_lt (g:=gb508) (o:=.cells #[.int .i64 a0_0,.int .i64 a0_1,.int .i64 a0_2,.int .i64 a0_3,.slice A0_4 l0_4.length c0_4,.slice A0_5 l0_5.length c0_5,.slice A0_6 l0_6.length c0_6] 42 (0,0)) (by (with_reducible repeat (first|refine zbN ?_ _|refine zbD ?_|refine zbA ?_ _));exact BK508.out)):gb508≠gb509));have n6_:=zm ((by rw [hg];exact Nat.ne_of_gt (blk_lt (g:=gb508) (o:=.cells #[.int .i64 a0_0,.int .i64 a0_1,.int .i64 a0_2,.int .i64 a0_3,.slice A0_4 l0_4.length c0_4,.slice A0_5 l0_5.length c0_5,.slice A0_6 l0_6.length c0_6] 42 (0,0)) (by (with_reducible repeat (first|refine zbN ?_ _|refine zbD ?_|refine zbA ?_ _));exact BK508.out)):gb509≠gb508));clear BK508 HB;have BK508:=n0_;have HB:=n1_;have BK509:=n2_;have GW509:=n3_;have GE509:=n4_;have NB508_509:=n5_;have NB509_508:=n6_;clear n0_ n1_ n2_ n3_ n4_ n5_ n6_;clear hb hbox hg;have hnb19:=NB508_509.out;have hnc19:=NB509_508.out;have hcz20_0:w18.cell? ⟨gb508,0,none⟩=some (.int .i64 a0_0):=(blk_cell BK508.out 0).trans rfl;have hcz20_1:w18.cell? ⟨gb508,1,none⟩=some (.int .i64 a0_1):=(blk_cell BK508.out 1).trans rfl;have hcz20_2:w18.cell? ⟨gb508,2,none⟩=some (.int .i64 a0_2):=(blk_cell BK508.out 2).trans rfl;have hcz20_3:w18.cell? ⟨gb508,3,none⟩=some (.int .i64 a0_3):=(blk_cell BK508.out 3).trans rfl;have hcz20_4:w18.cell? ⟨gb508,4,none⟩=some (.slice A0_4 l0_4.length c0_4):=(blk_cell BK508.out 4).trans rfl;have hcz20_5:w18.cell? ⟨gb508,5,none⟩=some (.slice A0_5 l0_5.length c0_5):=(blk_cell BK508.out 5).trans rfl;have hcz20_6:w18.cell? ⟨gb508,6,none⟩=some (.slice A0_6 l0_6.length c0_6):=(blk_cell BK508.out 6).trans rfl;have hfz20_0:=blk_frozen BK508.out 0;have hfz20_1:=blk_frozen BK508.out 1;have hfz20_2:=blk_frozen BK508.out 2;have hfz20_3:=blk_frozen BK508.out 3;have hfz20_4:=blk_frozen BK508.out 4;have hfz20_5:=blk_frozen BK508.out 5;have hfz20_6:=blk_frozen BK508.out 6;have hcz21_0:w18.cell? ⟨gb509,0,none⟩=some (.int .i64 a1_0):=(blk_cell BK509.out 0).trans rfl;have hcz21_1:w18.cell? ⟨gb509,1,none⟩=some (.int .i64 a1_1):=(blk_cell BK509.out 1).trans rfl;have hcz21_2:w18.cell? ⟨gb509,2,none⟩=some (.int .i64 a1_2):=(blk_cell BK509.out 2).trans rfl;have hcz21_3:w18.cell? ⟨gb509,3,none⟩=some (.int .i64 a1_3):=(blk_cell BK509.out 3).trans rfl;have hcz21_4:w18.cell? ⟨gb509,4,none⟩=some (.slice A1_4 l1_4.length c1_4):=(blk_cell BK509.out 4).trans rfl;have hcz21_5:w18.cell? ⟨gb509,5,none⟩=some (.slice A1_5 l1_5.length c1_5):=(blk_cell BK509.out 5).trans rfl;have hcz21_6:w18.cell? ⟨gb509,6,none⟩=some (.slice A1_6 l1_6.length c1_6):=(blk_cell BK509.out 6).trans rfl;have hfz21_0:=blk_frozen BK509.out 0;have hfz21_1:=blk_frozen BK509.out 1;have hfz21_2:=blk_frozen BK509.out 2;have hfz21_3:=blk_frozen BK509.out 3;have hfz21_4:=blk_frozen BK509.out 4;have hfz21_5:=blk_frozen BK509.out 5;have hfz21_6:=blk_frozen BK509.out 6)|(go_at_call 53;(with_reducible refine (slipwayref06_bools.calls k _ _ l0_4 _ _ l1_4 true _ ?side1 ?side2 ?side3 ?side4 A7.out).mono ?_);(case side1=>repeat (first|exact (Kd.C_below HR0_4.out HB.out)|(with_reducible refine Kd.C_alloc ?_ _)|(with_reducible refine Kd.C_drewN ?_ _)|(with_reducible refine Kd.C_drew ?_)));(case side2=>exact HC0_4.out);(case side3=>repeat (first|exact (Kd.C_below HR1_4.out HB.out)|(with_reducible refine Kd.C_alloc ?_ _)|(with_reducible refine Kd.C_drewN ?_ _)|(with_reducible refine Kd.C_drew ?_)));(case side4=>exact HC1_4.out);rintro e w' ⟨rfl,⟨nd,rfl⟩⟩)|(go_at_call 54;(with_reducible refine (slipwayref06_nums.calls k _ _ l0_5 _ _ l1_5 false _ ?side1 ?side2 ?side3 ?side4 A9.out).mono ?_);(case side1=>repeat (first|exact (Kd.C_below HR0_5.out (by repeat (first|(with_reducible first|exact HB.out|apply zlA|apply zlN|apply zlD|refine zlS ?_ GE508.out|refine zlS ?_ GE509.out)|exact HB.out)))|(with_reducible refine Kd.C_alloc ?_ _)|(with_reducible refine Kd.C_drewN ?_ _)|(with_reducible refine Kd.C_drew ?_)));(case side2=>exact HC0_5.out);(case side3=>repeat (first|exact (Kd.C_below HR1_5.out (by repeat (first|(with_reducible first|exact HB.out|apply zlA|apply zlN|apply zlD|refine zlS ?_ GE508.out|refine zlS ?_ GE509.out)|exact HB.out)))|(with_reducible refine Kd.C_alloc ?_ _)|(with_reducible refine Kd.C_drewN ?_ _)|(with_reducible refine Kd.C_drew ?_)));(case side4=>exact HC1_5.out);rintro e w' ⟨rfl,⟨nd,rfl⟩⟩))
       go_ret
       exact ⟨by first|rfl|(simp [errW_none,errW_some] <;> rfl)|(simp [*,errW_none,errW_some] <;> rfl),by repeat (first|(with_reducible first|exact HB.out|apply zlA|apply zlN|apply zlD|refine zlS ?_ GE508.out|refine zlS ?_ GE509.out)|exact HB.out)⟩
     ·replace c8:=Bool.eq_false_iff.mpr c8
      subst c8
      have H1:(some false)=some r:=by rw [if_neg (show ¬ (false=true) by decide)] at H;exact H
      clear H
      have H:=H1
      clear H1
      obtain rfl:=Option.some.inj H
      go_enter Try.func32,Try.ntmps32
      go_wp2_with (first|((with_reducible refine gate_dst (N:=2) rfl ?_);refine box_event ?hg (N:=2) ?hd (cs:=#[.int .i64 a0_0,.int .i64 a0_1,.int .i64 a0_2,.int .i64 a0_3,.slice A0_4 l0_4.length c0_4,.slice A0_5 l0_5.length c0_5,.slice A0_6 l0_6.length c0_6]) (t:=42) ?hr ?_;(case hd=>rfl);(case hg=>rfl);(case hr=>first|(go_simp;done)|(go_simp;rfl));intro gb508 hg w22 hbox hb;have n0_:=zm (below_step (by repeat (first|(with_reducible first|exact HB.out|apply zlA|apply zlN|apply zlD)|exact HB.out)) hb);have n1_:=zm (hbox);have n2_:=zm ((by rw [hg];exact (below_size (by repeat (first|(with_reducible first|exact HB.out|apply zlA|apply zlN|apply zlD)|exact HB.out))):w.heap.size≤gb508));have n3_:=zm ((by rw [hg];exact (below_size (by repeat (first|(with_reducible first|exact HB.out|apply zlA|apply zlN|apply zlD)|exact HB.out))):w.heap.size≤gb508));clear HB;have HB:=n0_;have BK508:=n1_;have GW508:=n2_;have GE508:=n3_;clear n0_ n1_ n2_ n3_;clear hb hbox hg)|((with_reducible refine gate_dst (N:=3) rfl ?_);refine box_event ?hg (N:=3) ?hd (cs:=#[.int .i64 a1_0,.int .i64 a1_1,.int .i64 a1_2,.int .i64 a1_3,.slice A1_4 l1_4.length c1_4,.slice A1_5 l1_5.length c1_5,.slice A1_6 l1_6.length c1_6]) (t:=42) ?hr ?_;(case hd=>rfl);(case hg=>rfl);(case hr=>first|(go_simp;done)|(go_simp;rfl));intro gb509 hg w23 hbox hb;have n0_:=zm (zbB (g:=gb508) (o:=.cells #[.int .i64 a0_0,.int .i64 a0_1,.int .i64 a0_2,.int .i64 a0_3,.slice A0_4 l0_4.length c0_4,.slice A0_5 l0_5.length c0_5,.slice A0_6 l0_6.length c0_6] 42 (0,0)) (by (with_reducible repeat (first|refine zbN ?_ _|refine zbD ?_|refine zbA ?_ _));exact BK508.out) hb);have n1_:=zm (below_step (by repeat (first|(with_reducible first|exact HB.out|apply zlA|apply zlN|apply zlD|refine zlS ?_ GE508.out)|exact HB.out)) hb);have n2_:=zm (hbox);have n3_:=zm ((by rw [hg];exact (below_size (by repeat (first|(with_reducible first|exact HB.out|apply zlA|apply zlN|apply zlD|refine zlS ?_ GE508.out)|exact HB.out))):w.heap.size≤gb509));have n4_:=zm ((by rw [hg];exact (below_size (by repeat (first|(with_reducible first|exact HB.out|apply zlA|apply zlN|apply zlD|refine zlS ?_ GE508.out)|exact HB.out))):w.heap.size≤gb509));have n5_:=zm ((by rw [hg];exact Nat.ne_of_lt (blk_lt (g:=gb508) (o:=.cells #[.int .i64 a0_0,.int .i64 a0_1,.int .i64 a0_2,.int .i64 a0_3,.slice A0_4 l0_4.length c0_4,.slice A0_5 l0_5.length c0_5,.slice A0_6 l0_6.length c0_6] 42 (0,0)) (by (with_reducible repeat (first|refine zbN ?_ _|refine zbD ?_|refine zbA ?_ _));exact BK508.out)):gb508≠gb509));have n6_:=zm ((by rw [hg];exact Nat.ne_of_gt (blk_lt (g:=gb508) (o:=.cells #[.int .i64 a0_0,.int .i64 a0_1,.int .i64 a0_2,.int .i64 a0_3,.slice A0_4 l0_4.length c0_4,.slice A0_5 l0_5.length c0_5,.slice A0_6 l0_6.length c0_6] 42 (0,0)) (by (with_reducible repeat (first|refine zbN ?_ _|refine zbD ?_|refine zbA ?_ _));exact BK508.out)):gb509≠gb508));clear BK508 HB;have BK508:=n0_;have HB:=n1_;have BK509:=n2_;have GW509:=n3_;have GE509:=n4_;have NB508_509:=n5_;have NB509_508:=n6_;clear n0_ n1_ n2_ n3_ n4_ n5_ n6_;clear hb hbox hg;have hnb24:=NB508_509.out;have hnc24:=NB509_508.out;have hcz25_0:w23.cell? ⟨gb508,0,none⟩=some (.int .i64 a0_0):=(blk_cell BK508.out 0).trans rfl;have hcz25_1:w23.cell? ⟨gb508,1,none⟩=some (.int .i64 a0_1):=(blk_cell BK508.out 1).trans rfl;have hcz25_2:w23.cell? ⟨gb508,2,none⟩=some (.int .i64 a0_2):=(blk_cell BK508.out 2).trans rfl;have hcz25_3:w23.cell? ⟨gb508,3,none⟩=some (.int .i64 a0_3):=(blk_cell BK508.out 3).trans rfl;have hcz25_4:w23.cell? ⟨gb508,4,none⟩=some (.slice A0_4 l0_4.length c0_4):=(blk_cell BK508.out 4).trans rfl;have hcz25_5:w23.cell? ⟨gb508,5,none⟩=some (.slice A0_5 l0_5.length c0_5):=(blk_cell BK508.out 5).trans rfl;have hcz25_6:w23.cell? ⟨gb508,6,none⟩=some (.slice A0_6 l0_6.length c0_6):=(blk_cell BK508.out 6).trans rfl;have hfz25_0:=blk_frozen BK508.out 0;have hfz25_1:=blk_frozen BK508.out 1;have hfz25_2:=blk_frozen BK508.out 2;have hfz25_3:=blk_frozen BK508.out 3;have hfz25_4:=blk_frozen BK508.out 4;have hfz25_5:=blk_frozen BK508.out 5;have hfz25_6:=blk_frozen BK508.out 6;have hcz26_0:w23.cell? ⟨gb509,0,none⟩=some (.int .i64 a1_0):=(blk_cell BK509.out 0).trans rfl;have hcz26_1:w23.cell? ⟨gb509,1,none⟩=some (.int .i64 a1_1):=(blk_cell BK509.out 1).trans rfl;have hcz26_2:w23.cell? ⟨gb509,2,none⟩=some (.int .i64 a1_2):=(blk_cell BK509.out 2).trans rfl;have hcz26_3:w23.cell? ⟨gb509,3,none⟩=some (.int .i64 a1_3):=(blk_cell BK509.out 3).trans rfl;have hcz26_4:w23.cell? ⟨gb509,4,none⟩=some (.slice A1_4 l1_4.length c1_4):=(blk_cell BK509.out 4).trans rfl;have hcz26_5:w23.cell? ⟨gb509,5,none⟩=some (.slice A1_5 l1_5.length c1_5):=(blk_cell BK509.out 5).trans rfl;have hcz26_6:w23.cell? ⟨gb509,6,none⟩=some (.slice A1_6 l1_6.length c1_6):=(blk_cell BK509.out 6).trans rfl;have hfz26_0:=blk_frozen BK509.out 0;have hfz26_1:=blk_frozen BK509.out 1;have hfz26_2:=blk_frozen BK509.out 2;have hfz26_3:=blk_frozen BK509.out 3;have hfz26_4:=blk_frozen BK509.out 4;have hfz26_5:=blk_frozen BK509.out 5;have hfz26_6:=blk_frozen BK509.out 6)|(go_at_call 53;(with_reducible refine (slipwayref06_bools.calls k _ _ l0_4 _ _ l1_4 false _ ?side1 ?side2 ?side3 ?side4 A7.out).mono ?_);(case side1=>repeat (first|exact (Kd.C_below HR0_4.out HB.out)|(with_reducible refine Kd.C_alloc ?_ _)|(with_reducible refine Kd.C_drewN ?_ _)|(with_reducible refine Kd.C_drew ?_)));(case side2=>exact HC0_4.out);(case side3=>repeat (first|exact (Kd.C_below HR1_4.out HB.out)|(with_reducible refine Kd.C_alloc ?_ _)|(with_reducible refine Kd.C_drewN ?_ _)|(with_reducible refine Kd.C_drew ?_)));(case side4=>exact HC1_4.out);rintro e w' ⟨rfl,⟨nd,rfl⟩⟩))
      go_ret
      exact ⟨by first|rfl|(simp [errW_none,errW_some] <;> rfl)|(simp [*,errW_none,errW_some] <;> rfl),by repeat (first|(with_reducible first|exact HB.out|apply zlA|apply zlN|apply zlD|refine zlS ?_ GE508.out|refine zlS ?_ GE509.out)|exact HB.out)⟩
    ·rw [if_neg c6] at H
     have c6b0:(a0_3 == a1_3)=false:=beq_eq_false_iff_ne.mpr c6
     have c6b1:(a0_3 != a1_3)=true:=bne_iff_ne.mpr c6
     obtain rfl:=Option.some.inj H
     go_enter Try.func32,Try.ntmps32
     go_wp2_with (first|((with_reducible refine gate_dst (N:=2) rfl ?_);refine box_event ?hg (N:=2) ?hd (cs:=#[.int .i64 a0_0,.int .i64 a0_1,.int .i64 a0_2,.int .i64 a0_3,.slice A0_4 l0_4.length c0_4,.slice A0_5 l0_5.length c0_5,.slice A0_6 l0_6.length c0_6]) (t:=42) ?hr ?_;(case hd=>rfl);(case hg=>rfl);(case hr=>first|(go_simp;done)|(go_simp;rfl));intro gb508 hg w27 hbox hb;have n0_:=zm (below_step (by repeat (first|(with_reducible first|exact HB.out|apply zlA|apply zlN|apply zlD)|exact HB.out)) hb);have n1_:=zm (hbox);have n2_:=zm ((by rw [hg];exact (below_size (by repeat (first|(with_reducible first|exact HB.out|apply zlA|apply zlN|apply zlD)|exact HB.out))):w.heap.size≤gb508));have n3_:=zm ((by rw [hg];exact (below_size (by repeat (first|(with_reducible first|exact HB.out|apply zlA|apply zlN|apply zlD)|exact HB.out))):w.heap.size≤gb508));clear HB;have HB:=n0_;have BK508:=n1_;have GW508:=n2_;have GE508:=n3_;clear n0_ n1_ n2_ n3_;clear hb hbox hg)|((with_reducible refine gate_dst (N:=3) rfl ?_);refine box_event ?hg (N:=3) ?hd (cs:=#[.int .i64 a1_0,.int .i64 a1_1,.int .i64 a1_2,.int .i64 a1_3,.slice A1_4 l1_4.length c1_4,.slice A1_5 l1_5.length c1_5,.slice A1_6 l1_6.length c1_6]) (t:=42) ?hr ?_;(case hd=>rfl);(case hg=>rfl);(case hr=>first|(go_simp;done)|(go_simp;rfl));intro gb509 hg w28 hbox hb;have n0_:=zm (zbB (g:=gb508) (o:=.cells #[.int .i64 a0_0,.int .i64 a0_1,.int .i64 a0_2,.int .i64 a0_3,.slice A0_4 l0_4.length c0_4,.slice A0_5 l0_5.length c0_5,.slice A0_6 l0_6.length c0_6] 42 (0,0)) (by (with_reducible repeat (first|refine zbN ?_ _|refine zbD ?_|refine zbA ?_ _));exact BK508.out) hb);have n1_:=zm (below_step (by repeat (first|(with_reducible first|exact HB.out|apply zlA|apply zlN|apply zlD|refine zlS ?_ GE508.out)|exact HB.out)) hb);have n2_:=zm (hbox);have n3_:=zm ((by rw [hg];exact (below_size (by repeat (first|(with_reducible first|exact HB.out|apply zlA|apply zlN|apply zlD|refine zlS ?_ GE508.out)|exact HB.out))):w.heap.size≤gb509));have n4_:=zm ((by rw [hg];exact (below_size (by repeat (first|(with_reducible first|exact HB.out|apply zlA|apply zlN|apply zlD|refine zlS ?_ GE508.out)|exact HB.out))):w.heap.size≤gb509));have n5_:=zm ((by rw [hg];exact Nat.ne_of_lt (blk_lt (g:=gb508) (o:=.cells #[.int .i64 a0_0,.int .i64 a0_1,.int .i64 a0_2,.int .i64 a0_3,.slice A0_4 l0_4.length c0_4,.slice A0_5 l0_5.length c0_5,.slice A0_6 l0_6.length c0_6] 42 (0,0)) (by (with_reducible repeat (first|refine zbN ?_ _|refine zbD ?_|refine zbA ?_ _));exact BK508.out)):gb508≠gb509));have n6_:=zm ((by rw [hg];exact Nat.ne_of_gt (blk_lt (g:=gb508) (o:=.cells #[.int .i64 a0_0,.int .i64 a0_1,.int .i64 a0_2,.int .i64 a0_3,.slice A0_4 l0_4.length c0_4,.slice A0_5 l0_5.length c0_5,.slice A0_6 l0_6.length c0_6] 42 (0,0)) (by (with_reducible repeat (first|refine zbN ?_ _|refine zbD ?_|refine zbA ?_ _));exact BK508.out)):gb509≠gb508));clear BK508 HB;have BK508:=n0_;have HB:=n1_;have BK509:=n2_;have GW509:=n3_;have GE509:=n4_;have NB508_509:=n5_;have NB509_508:=n6_;clear n0_ n1_ n2_ n3_ n4_ n5_ n6_;clear hb hbox hg;have hnb29:=NB508_509.out;have hnc29:=NB509_508.out;have hcz30_0:w28.cell? ⟨gb508,0,none⟩=some (.int .i64 a0_0):=(blk_cell BK508.out 0).trans rfl;have hcz30_1:w28.cell? ⟨gb508,1,none⟩=some (.int .i64 a0_1):=(blk_cell BK508.out 1).trans rfl;have hcz30_2:w28.cell? ⟨gb508,2,none⟩=some (.int .i64 a0_2):=(blk_cell BK508.out 2).trans rfl;have hcz30_3:w28.cell? ⟨gb508,3,none⟩=some (.int .i64 a0_3):=(blk_cell BK508.out 3).trans rfl;have hcz30_4:w28.cell? ⟨gb508,4,none⟩=some (.slice A0_4 l0_4.length c0_4):=(blk_cell BK508.out 4).trans rfl;have hcz30_5:w28.cell? ⟨gb508,5,none⟩=some (.slice A0_5 l0_5.length c0_5):=(blk_cell BK508.out 5).trans rfl;have hcz30_6:w28.cell? ⟨gb508,6,none⟩=some (.slice A0_6 l0_6.length c0_6):=(blk_cell BK508.out 6).trans rfl;have hfz30_0:=blk_frozen BK508.out 0;have hfz30_1:=blk_frozen BK508.out 1;have hfz30_2:=blk_frozen BK508.out 2;have hfz30_3:=blk_frozen BK508.out 3;have hfz30_4:=blk_frozen BK508.out 4;have hfz30_5:=blk_frozen BK508.out 5;have hfz30_6:=blk_frozen BK508.out 6;have hcz31_0:w28.cell? ⟨gb509,0,none⟩=some (.int .i64 a1_0):=(blk_cell BK509.out 0).trans rfl;have hcz31_1:w28.cell? ⟨gb509,1,none⟩=some (.int .i64 a1_1):=(blk_cell BK509.out 1).trans rfl;have hcz31_2:w28.cell? ⟨gb509,2,none⟩=some (.int .i64 a1_2):=(blk_cell BK509.out 2).trans rfl;have hcz31_3:w28.cell? ⟨gb509,3,none⟩=some (.int .i64 a1_3):=(blk_cell BK509.out 3).trans rfl;have hcz31_4:w28.cell? ⟨gb509,4,none⟩=some (.slice A1_4 l1_4.length c1_4):=(blk_cell BK509.out 4).trans rfl;have hcz31_5:w28.cell? ⟨gb509,5,none⟩=some (.slice A1_5 l1_5.length c1_5):=(blk_cell BK509.out 5).trans rfl;have hcz31_6:w28.cell? ⟨gb509,6,none⟩=some (.slice A1_6 l1_6.length c1_6):=(blk_cell BK509.out 6).trans rfl;have hfz31_0:=blk_frozen BK509.out 0;have hfz31_1:=blk_frozen BK509.out 1;have hfz31_2:=blk_frozen BK509.out 2;have hfz31_3:=blk_frozen BK509.out 3;have hfz31_4:=blk_frozen BK509.out 4;have hfz31_5:=blk_frozen BK509.out 5;have hfz31_6:=blk_frozen BK509.out 6))
     go_ret
     exact ⟨by first|rfl|(simp [errW_none,errW_some] <;> rfl)|(simp [*,errW_none,errW_some] <;> rfl),by repeat (first|(with_reducible first|exact HB.out|apply zlA|apply zlN|apply zlD|refine zlS ?_ GE508.out|refine zlS ?_ GE509.out)|exact HB.out)⟩
   ·rw [if_neg c5] at H
    have c5b0:(a0_2 == a1_2)=false:=beq_eq_false_iff_ne.mpr c5
    have c5b1:(a0_2 != a1_2)=true:=bne_iff_ne.mpr c5
    obtain rfl:=Option.some.inj H
    go_enter Try.func32,Try.ntmps32
    go_wp2_with (first|((with_reducible refine gate_dst (N:=2) rfl ?_);refine box_event ?hg (N:=2) ?hd (cs:=#[.int .i64 a0_0,.int .i64 a0_1,.int .i64 a0_2,.int .i64 a0_3,.slice A0_4 l0_4.length c0_4,.slice A0_5 l0_5.length c0_5,.slice A0_6 l0_6.length c0_6]) (t:=42) ?hr ?_;(case hd=>rfl);(case hg=>rfl);(case hr=>first|(go_simp;done)|(go_simp;rfl));intro gb508 hg w32 hbox hb;have n0_:=zm (below_step (by repeat (first|(with_reducible first|exact HB.out|apply zlA|apply zlN|apply zlD)|exact HB.out)) hb);have n1_:=zm (hbox);have n2_:=zm ((by rw [hg];exact (below_size (by repeat (first|(with_reducible first|exact HB.out|apply zlA|apply zlN|apply zlD)|exact HB.out))):w.heap.size≤gb508));have n3_:=zm ((by rw [hg];exact (below_size (by repeat (first|(with_reducible first|exact HB.out|apply zlA|apply zlN|apply zlD)|exact HB.out))):w.heap.size≤gb508));clear HB;have HB:=n0_;have BK508:=n1_;have GW508:=n2_;have GE508:=n3_;clear n0_ n1_ n2_ n3_;clear hb hbox hg)|((with_reducible refine gate_dst (N:=3) rfl ?_);refine box_event ?hg (N:=3) ?hd (cs:=#[.int .i64 a1_0,.int .i64 a1_1,.int .i64 a1_2,.int .i64 a1_3,.slice A1_4 l1_4.length c1_4,.slice A1_5 l1_5.length c1_5,.slice A1_6 l1_6.length c1_6]) (t:=42) ?hr ?_;(case hd=>rfl);(case hg=>rfl);(case hr=>first|(go_simp;done)|(go_simp;rfl));intro gb509 hg w33 hbox hb;have n0_:=zm (zbB (g:=gb508) (o:=.cells #[.int .i64 a0_0,.int .i64 a0_1,.int .i64 a0_2,.int .i64 a0_3,.slice A0_4 l0_4.length c0_4,.slice A0_5 l0_5.length c0_5,.slice A0_6 l0_6.length c0_6] 42 (0,0)) (by (with_reducible repeat (first|refine zbN ?_ _|refine zbD ?_|refine zbA ?_ _));exact BK508.out) hb);have n1_:=zm (below_step (by repeat (first|(with_reducible first|exact HB.out|apply zlA|apply zlN|apply zlD|refine zlS ?_ GE508.out)|exact HB.out)) hb);have n2_:=zm (hbox);have n3_:=zm ((by rw [hg];exact (below_size (by repeat (first|(with_reducible first|exact HB.out|apply zlA|apply zlN|apply zlD|refine zlS ?_ GE508.out)|exact HB.out))):w.heap.size≤gb509));have n4_:=zm ((by rw [hg];exact (below_size (by repeat (first|(with_reducible first|exact HB.out|apply zlA|apply zlN|apply zlD|refine zlS ?_ GE508.out)|exact HB.out))):w.heap.size≤gb509));have n5_:=zm ((by rw [hg];exact Nat.ne_of_lt (blk_lt (g:=gb508) (o:=.cells #[.int .i64 a0_0,.int .i64 a0_1,.int .i64 a0_2,.int .i64 a0_3,.slice A0_4 l0_4.length c0_4,.slice A0_5 l0_5.length c0_5,.slice A0_6 l0_6.length c0_6] 42 (0,0)) (by (with_reducible repeat (first|refine zbN ?_ _|refine zbD ?_|refine zbA ?_ _));exact BK508.out)):gb508≠gb509));have n6_:=zm ((by rw [hg];exact Nat.ne_of_gt (blk_lt (g:=gb508) (o:=.cells #[.int .i64 a0_0,.int .i64 a0_1,.int .i64 a0_2,.int .i64 a0_3,.slice A0_4 l0_4.length c0_4,.slice A0_5 l0_5.length c0_5,.slice A0_6 l0_6.length c0_6] 42 (0,0)) (by (with_reducible repeat (first|refine zbN ?_ _|refine zbD ?_|refine zbA ?_ _));exact BK508.out)):gb509≠gb508));clear BK508 HB;have BK508:=n0_;have HB:=n1_;have BK509:=n2_;have GW509:=n3_;have GE509:=n4_;have NB508_509:=n5_;have NB509_508:=n6_;clear n0_ n1_ n2_ n3_ n4_ n5_ n6_;clear hb hbox hg;have hnb34:=NB508_509.out;have hnc34:=NB509_508.out;have hcz35_0:w33.cell? ⟨gb508,0,none⟩=some (.int .i64 a0_0):=(blk_cell BK508.out 0).trans rfl;have hcz35_1:w33.cell? ⟨gb508,1,none⟩=some (.int .i64 a0_1):=(blk_cell BK508.out 1).trans rfl;have hcz35_2:w33.cell? ⟨gb508,2,none⟩=some (.int .i64 a0_2):=(blk_cell BK508.out 2).trans rfl;have hcz35_3:w33.cell? ⟨gb508,3,none⟩=some (.int .i64 a0_3):=(blk_cell BK508.out 3).trans rfl;have hcz35_4:w33.cell? ⟨gb508,4,none⟩=some (.slice A0_4 l0_4.length c0_4):=(blk_cell BK508.out 4).trans rfl;have hcz35_5:w33.cell? ⟨gb508,5,none⟩=some (.slice A0_5 l0_5.length c0_5):=(blk_cell BK508.out 5).trans rfl;have hcz35_6:w33.cell? ⟨gb508,6,none⟩=some (.slice A0_6 l0_6.length c0_6):=(blk_cell BK508.out 6).trans rfl;have hfz35_0:=blk_frozen BK508.out 0;have hfz35_1:=blk_frozen BK508.out 1;have hfz35_2:=blk_frozen BK508.out 2;have hfz35_3:=blk_frozen BK508.out 3;have hfz35_4:=blk_frozen BK508.out 4;have hfz35_5:=blk_frozen BK508.out 5;have hfz35_6:=blk_frozen BK508.out 6;have hcz36_0:w33.cell? ⟨gb509,0,none⟩=some (.int .i64 a1_0):=(blk_cell BK509.out 0).trans rfl;have hcz36_1:w33.cell? ⟨gb509,1,none⟩=some (.int .i64 a1_1):=(blk_cell BK509.out 1).trans rfl;have hcz36_2:w33.cell? ⟨gb509,2,none⟩=some (.int .i64 a1_2):=(blk_cell BK509.out 2).trans rfl;have hcz36_3:w33.cell? ⟨gb509,3,none⟩=some (.int .i64 a1_3):=(blk_cell BK509.out 3).trans rfl;have hcz36_4:w33.cell? ⟨gb509,4,none⟩=some (.slice A1_4 l1_4.length c1_4):=(blk_cell BK509.out 4).trans rfl;have hcz36_5:w33.cell? ⟨gb509,5,none⟩=some (.slice A1_5 l1_5.length c1_5):=(blk_cell BK509.out 5).trans rfl;have hcz36_6:w33.cell? ⟨gb509,6,none⟩=some (.slice A1_6 l1_6.length c1_6):=(blk_cell BK509.out 6).trans rfl;have hfz36_0:=blk_frozen BK509.out 0;have hfz36_1:=blk_frozen BK509.out 1;have hfz36_2:=blk_frozen BK509.out 2;have hfz36_3:=blk_frozen BK509.out 3;have hfz36_4:=blk_frozen BK509.out 4;have hfz36_5:=blk_frozen BK509.out 5;have hfz36_6:=blk_frozen BK509.out 6))
    go_ret
    exact ⟨by first|rfl|(simp [errW_none,errW_some] <;> rfl)|(simp [*,errW_none,errW_some] <;> rfl),by repeat (first|(with_reducible first|exact HB.out|apply zlA|apply zlN|apply zlD|refine zlS ?_ GE508.out|refine zlS ?_ GE509.out)|exact HB.out)⟩
  ·rw [if_neg c4] at H
   have c4b0:(a0_1 == a1_1)=false:=beq_eq_false_iff_ne.mpr c4
   have c4b1:(a0_1 != a1_1)=true:=bne_iff_ne.mpr c4
   obtain rfl:=Option.some.inj H
   go_enter Try.func32,Try.ntmps32
   go_wp2_with (first|((with_reducible refine gate_dst (N:=2) rfl ?_);refine box_event ?hg (N:=2) ?hd (cs:=#[.int .i64 a0_0,.int .i64 a0_1,.int .i64 a0_2,.int .i64 a0_3,.slice A0_4 l0_4.length c0_4,.slice A0_5 l0_5.length c0_5,.slice A0_6 l0_6.length c0_6]) (t:=42) ?hr ?_;(case hd=>rfl);(case hg=>rfl);(case hr=>first|(go_simp;done)|(go_simp;rfl));intro gb508 hg w37 hbox hb;have n0_:=zm (below_step (by repeat (first|(with_reducible first|exact HB.out|apply zlA|apply zlN|apply zlD)|exact HB.out)) hb);have n1_:=zm (hbox);have n2_:=zm ((by rw [hg];exact (below_size (by repeat (first|(with_reducible first|exact HB.out|apply zlA|apply zlN|apply zlD)|exact HB.out))):w.heap.size≤gb508));have n3_:=zm ((by rw [hg];exact (below_size (by repeat (first|(with_reducible first|exact HB.out|apply zlA|apply zlN|apply zlD)|exact HB.out))):w.heap.size≤gb508));clear HB;have HB:=n0_;have BK508:=n1_;have GW508:=n2_;have GE508:=n3_;clear n0_ n1_ n2_ n3_;clear hb hbox hg)|((with_reducible refine gate_dst (N:=3) rfl ?_);refine box_event ?hg (N:=3) ?hd (cs:=#[.int .i64 a1_0,.int .i64 a1_1,.int .i64 a1_2,.int .i64 a1_3,.slice A1_4 l1_4.length c1_4,.slice A1_5 l1_5.length c1_5,.slice A1_6 l1_6.length c1_6]) (t:=42) ?hr ?_;(case hd=>rfl);(case hg=>rfl);(case hr=>first|(go_simp;done)|(go_simp;rfl));intro gb509 hg w38 hbox hb;have n0_:=zm (zbB (g:=gb508) (o:=.cells #[.int .i64 a0_0,.int .i64 a0_1,.int .i64 a0_2,.int .i64 a0_3,.slice A0_4 l0_4.length c0_4,.slice A0_5 l0_5.length c0_5,.slice A0_6 l0_6.length c0_6] 42 (0,0)) (by (with_reducible repeat (first|refine zbN ?_ _|refine zbD ?_|refine zbA ?_ _));exact BK508.out) hb);have n1_:=zm (below_step (by repeat (first|(with_reducible first|exact HB.out|apply zlA|apply zlN|apply zlD|refine zlS ?_ GE508.out)|exact HB.out)) hb);have n2_:=zm (hbox);have n3_:=zm ((by rw [hg];exact (below_size (by repeat (first|(with_reducible first|exact HB.out|apply zlA|apply zlN|apply zlD|refine zlS ?_ GE508.out)|exact HB.out))):w.heap.size≤gb509));have n4_:=zm ((by rw [hg];exact (below_size (by repeat (first|(with_reducible first|exact HB.out|apply zlA|apply zlN|apply zlD|refine zlS ?_ GE508.out)|exact HB.out))):w.heap.size≤gb509));have n5_:=zm ((by rw [hg];exact Nat.ne_of_lt (blk_lt (g:=gb508) (o:=.cells #[.int .i64 a0_0,.int .i64 a0_1,.int .i64 a0_2,.int .i64 a0_3,.slice A0_4 l0_4.length c0_4,.slice A0_5 l0_5.length c0_5,.slice A0_6 l0_6.length c0_6] 42 (0,0)) (by (with_reducible repeat (first|refine zbN ?_ _|refine zbD ?_|refine zbA ?_ _));exact BK508.out)):gb508≠gb509));have n6_:=zm ((by rw [hg];exact Nat.ne_of_gt (blk_lt (g:=gb508) (o:=.cells #[.int .i64 a0_0,.int .i64 a0_1,.int .i64 a0_2,.int .i64 a0_3,.slice A0_4 l0_4.length c0_4,.slice A0_5 l0_5.length c0_5,.slice A0_6 l0_6.length c0_6] 42 (0,0)) (by (with_reducible repeat (first|refine zbN ?_ _|refine zbD ?_|refine zbA ?_ _));exact BK508.out)):gb509≠gb508));clear BK508 HB;have BK508:=n0_;have HB:=n1_;have BK509:=n2_;have GW509:=n3_;have GE509:=n4_;have NB508_509:=n5_;have NB509_508:=n6_;clear n0_ n1_ n2_ n3_ n4_ n5_ n6_;clear hb hbox hg;have hnb39:=NB508_509.out;have hnc39:=NB509_508.out;have hcz40_0:w38.cell? ⟨gb508,0,none⟩=some (.int .i64 a0_0):=(blk_cell BK508.out 0).trans rfl;have hcz40_1:w38.cell? ⟨gb508,1,none⟩=some (.int .i64 a0_1):=(blk_cell BK508.out 1).trans rfl;have hcz40_2:w38.cell? ⟨gb508,2,none⟩=some (.int .i64 a0_2):=(blk_cell BK508.out 2).trans rfl;have hcz40_3:w38.cell? ⟨gb508,3,none⟩=some (.int .i64 a0_3):=(blk_cell BK508.out 3).trans rfl;have hcz40_4:w38.cell? ⟨gb508,4,none⟩=some (.slice A0_4 l0_4.length c0_4):=(blk_cell BK508.out 4).trans rfl;have hcz40_5:w38.cell? ⟨gb508,5,none⟩=some (.slice A0_5 l0_5.length c0_5):=(blk_cell BK508.out 5).trans rfl;have hcz40_6:w38.cell? ⟨gb508,6,none⟩=some (.slice A0_6 l0_6.length c0_6):=(blk_cell BK508.out 6).trans rfl;have hfz40_0:=blk_frozen BK508.out 0;have hfz40_1:=blk_frozen BK508.out 1;have hfz40_2:=blk_frozen BK508.out 2;have hfz40_3:=blk_frozen BK508.out 3;have hfz40_4:=blk_frozen BK508.out 4;have hfz40_5:=blk_frozen BK508.out 5;have hfz40_6:=blk_frozen BK508.out 6;have hcz41_0:w38.cell? ⟨gb509,0,none⟩=some (.int .i64 a1_0):=(blk_cell BK509.out 0).trans rfl;have hcz41_1:w38.cell? ⟨gb509,1,none⟩=some (.int .i64 a1_1):=(blk_cell BK509.out 1).trans rfl;have hcz41_2:w38.cell? ⟨gb509,2,none⟩=some (.int .i64 a1_2):=(blk_cell BK509.out 2).trans rfl;have hcz41_3:w38.cell? ⟨gb509,3,none⟩=some (.int .i64 a1_3):=(blk_cell BK509.out 3).trans rfl;have hcz41_4:w38.cell? ⟨gb509,4,none⟩=some (.slice A1_4 l1_4.length c1_4):=(blk_cell BK509.out 4).trans rfl;have hcz41_5:w38.cell? ⟨gb509,5,none⟩=some (.slice A1_5 l1_5.length c1_5):=(blk_cell BK509.out 5).trans rfl;have hcz41_6:w38.cell? ⟨gb509,6,none⟩=some (.slice A1_6 l1_6.length c1_6):=(blk_cell BK509.out 6).trans rfl;have hfz41_0:=blk_frozen BK509.out 0;have hfz41_1:=blk_frozen BK509.out 1;have hfz41_2:=blk_frozen BK509.out 2;have hfz41_3:=blk_frozen BK509.out 3;have hfz41_4:=blk_frozen BK509.out 4;have hfz41_5:=blk_frozen BK509.out 5;have hfz41_6:=blk_frozen BK509.out 6))
   go_ret
   exact ⟨by first|rfl|(simp [errW_none,errW_some] <;> rfl)|(simp [*,errW_none,errW_some] <;> rfl),by repeat (first|(with_reducible first|exact HB.out|apply zlA|apply zlN|apply zlD|refine zlS ?_ GE508.out|refine zlS ?_ GE509.out)|exact HB.out)⟩
 ·rw [if_neg c3] at H
  have c3b0:(a0_0 == a1_0)=false:=beq_eq_false_iff_ne.mpr c3
  have c3b1:(a0_0 != a1_0)=true:=bne_iff_ne.mpr c3
  obtain rfl:=Option.some.inj H
  go_enter Try.func32,Try.ntmps32
  go_wp2_with (first|((with_reducible refine gate_dst (N:=2) rfl ?_);refine box_event ?hg (N:=2) ?hd (cs:=#[.int .i64 a0_0,.int .i64 a0_1,.int .i64 a0_2,.int .i64 a0_3,.slice A0_4 l0_4.length c0_4,.slice A0_5 l0_5.length c0_5,.slice A0_6 l0_6.length c0_6]) (t:=42) ?hr ?_;(case hd=>rfl);(case hg=>rfl);(case hr=>first|(go_simp;done)|(go_simp;rfl));intro gb508 hg w42 hbox hb;have n0_:=zm (below_step (by repeat (first|(with_reducible first|exact HB.out|apply zlA|apply zlN|apply zlD)|exact HB.out)) hb);have n1_:=zm (hbox);have n2_:=zm ((by rw [hg];exact (below_size (by repeat (first|(with_reducible first|exact HB.out|apply zlA|apply zlN|apply zlD)|exact HB.out))):w.heap.size≤gb508));have n3_:=zm ((by rw [hg];exact (below_size (by repeat (first|(with_reducible first|exact HB.out|apply zlA|apply zlN|apply zlD)|exact HB.out))):w.heap.size≤gb508));clear HB;have HB:=n0_;have BK508:=n1_;have GW508:=n2_;have GE508:=n3_;clear n0_ n1_ n2_ n3_;clear hb hbox hg)|((with_reducible refine gate_dst (N:=3) rfl ?_);refine box_event ?hg (N:=3) ?hd (cs:=#[.int .i64 a1_0,.int .i64 a1_1,.int .i64 a1_2,.int .i64 a1_3,.slice A1_4 l1_4.length c1_4,.slice A1_5 l1_5.length c1_5,.slice A1_6 l1_6.length c1_6]) (t:=42) ?hr ?_;(case hd=>rfl);(case hg=>rfl);(case hr=>first|(go_simp;done)|(go_simp;rfl));intro gb509 hg w43 hbox hb;have n0_:=zm (zbB (g:=gb508) (o:=.cells #[.int .i64 a0_0,.int .i64 a0_1,.int .i64 a0_2,.int .i64 a0_3,.slice A0_4 l0_4.length c0_4,.slice A0_5 l0_5.length c0_5,.slice A0_6 l0_6.length c0_6] 42 (0,0)) (by (with_reducible repeat (first|refine zbN ?_ _|refine zbD ?_|refine zbA ?_ _));exact BK508.out) hb);have n1_:=zm (below_step (by repeat (first|(with_reducible first|exact HB.out|apply zlA|apply zlN|apply zlD|refine zlS ?_ GE508.out)|exact HB.out)) hb);have n2_:=zm (hbox);have n3_:=zm ((by rw [hg];exact (below_size (by repeat (first|(with_reducible first|exact HB.out|apply zlA|apply zlN|apply zlD|refine zlS ?_ GE508.out)|exact HB.out))):w.heap.size≤gb509));have n4_:=zm ((by rw [hg];exact (below_size (by repeat (first|(with_reducible first|exact HB.out|apply zlA|apply zlN|apply zlD|refine zlS ?_ GE508.out)|exact HB.out))):w.heap.size≤gb509));have n5_:=zm ((by rw [hg];exact Nat.ne_of_lt (blk_lt (g:=gb508) (o:=.cells #[.int .i64 a0_0,.int .i64 a0_1,.int .i64 a0_2,.int .i64 a0_3,.slice A0_4 l0_4.length c0_4,.slice A0_5 l0_5.length c0_5,.slice A0_6 l0_6.length c0_6] 42 (0,0)) (by (with_reducible repeat (first|refine zbN ?_ _|refine zbD ?_|refine zbA ?_ _));exact BK508.out)):gb508≠gb509));have n6_:=zm ((by rw [hg];exact Nat.ne_of_gt (blk_lt (g:=gb508) (o:=.cells #[.int .i64 a0_0,.int .i64 a0_1,.int .i64 a0_2,.int .i64 a0_3,.slice A0_4 l0_4.length c0_4,.slice A0_5 l0_5.length c0_5,.slice A0_6 l0_6.length c0_6] 42 (0,0)) (by (with_reducible repeat (first|refine zbN ?_ _|refine zbD ?_|refine zbA ?_ _));exact BK508.out)):gb509≠gb508));clear BK508 HB;have BK508:=n0_;have HB:=n1_;have BK509:=n2_;have GW509:=n3_;have GE509:=n4_;have NB508_509:=n5_;have NB509_508:=n6_;clear n0_ n1_ n2_ n3_ n4_ n5_ n6_;clear hb hbox hg;have hnb44:=NB508_509.out;have hnc44:=NB509_508.out;have hcz45_0:w43.cell? ⟨gb508,0,none⟩=some (.int .i64 a0_0):=(blk_cell BK508.out 0).trans rfl;have hcz45_1:w43.cell? ⟨gb508,1,none⟩=some (.int .i64 a0_1):=(blk_cell BK508.out 1).trans rfl;have hcz45_2:w43.cell? ⟨gb508,2,none⟩=some (.int .i64 a0_2):=(blk_cell BK508.out 2).trans rfl;have hcz45_3:w43.cell? ⟨gb508,3,none⟩=some (.int .i64 a0_3):=(blk_cell BK508.out 3).trans rfl;have hcz45_4:w43.cell? ⟨gb508,4,none⟩=some (.slice A0_4 l0_4.length c0_4):=(blk_cell BK508.out 4).trans rfl;have hcz45_5:w43.cell? ⟨gb508,5,none⟩=some (.slice A0_5 l0_5.length c0_5):=(blk_cell BK508.out 5).trans rfl;have hcz45_6:w43.cell? ⟨gb508,6,none⟩=some (.slice A0_6 l0_6.length c0_6):=(blk_cell BK508.out 6).trans rfl;have hfz45_0:=blk_frozen BK508.out 0;have hfz45_1:=blk_frozen BK508.out 1;have hfz45_2:=blk_frozen BK508.out 2;have hfz45_3:=blk_frozen BK508.out 3;have hfz45_4:=blk_frozen BK508.out 4;have hfz45_5:=blk_frozen BK508.out 5;have hfz45_6:=blk_frozen BK508.out 6;have hcz46_0:w43.cell? ⟨gb509,0,none⟩=some (.int .i64 a1_0):=(blk_cell BK509.out 0).trans rfl;have hcz46_1:w43.cell? ⟨gb509,1,none⟩=some (.int .i64 a1_1):=(blk_cell BK509.out 1).trans rfl;have hcz46_2:w43.cell? ⟨gb509,2,none⟩=some (.int .i64 a1_2):=(blk_cell BK509.out 2).trans rfl;have hcz46_3:w43.cell? ⟨gb509,3,none⟩=some (.int .i64 a1_3):=(blk_cell BK509.out 3).trans rfl;have hcz46_4:w43.cell? ⟨gb509,4,none⟩=some (.slice A1_4 l1_4.length c1_4):=(blk_cell BK509.out 4).trans rfl;have hcz46_5:w43.cell? ⟨gb509,5,none⟩=some (.slice A1_5 l1_5.length c1_5):=(blk_cell BK509.out 5).trans rfl;have hcz46_6:w43.cell? ⟨gb509,6,none⟩=some (.slice A1_6 l1_6.length c1_6):=(blk_cell BK509.out 6).trans rfl;have hfz46_0:=blk_frozen BK509.out 0;have hfz46_1:=blk_frozen BK509.out 1;have hfz46_2:=blk_frozen BK509.out 2;have hfz46_3:=blk_frozen BK509.out 3;have hfz46_4:=blk_frozen BK509.out 4;have hfz46_5:=blk_frozen BK509.out 5;have hfz46_6:=blk_frozen BK509.out 6))
  go_ret
  exact ⟨by first|rfl|(simp [errW_none,errW_some] <;> rfl)|(simp [*,errW_none,errW_some] <;> rfl),by repeat (first|(with_reducible first|exact HB.out|apply zlA|apply zlN|apply zlD|refine zlS ?_ GE508.out|refine zlS ?_ GE509.out)|exact HB.out)⟩
end Go.Proofs.Ytkhbmgclklmimaa.Print
end
section
namespace Go.Proofs.Ytkhbmgclklmimaa.Print
open Go.RowKit Go.Proofs.YtkhbmgclklmimaaW.PrintWords Go.Proofs.YtkhbmgclklmimaaW.PrintLast Go.Proofs.YtkhbmgclklmimaaW.PrintMore
attribute [local go_sem] max2_int min2_int max_two min_two max_three min_three max_four min_four   -- for this text's walks alone
attribute [local go_sem ↓] Go.Proofs.Ytkhbmgclklmimaa.Sem.isSome_setCell
attribute [local go_sem] Go.Instr.field Go.asAgg
set_option linter.unusedVariables false
set_option linter.unusedSimpArgs false
def mapjnl_fits_1.f (a0:Int):Option (Bool):=(mapjnl_worn.f a0).bind fun t597=>(some (!t597))
set_option maxHeartbeats 8000000 in
set_option maxRecDepth 100000 in
theorem mapjnl_fits_1.calls (a0:Int) (r:Bool) (w:World) (h:mapjnl_fits_1.f a0=some r) :
  Calls Try.prog 82 #[.int .i64 a0] w fun e w'=>e=.returned (.bool r)∧Drawn0 w w':=by
 have H:((mapjnl_worn.f a0).bind fun t597=>(some (!t597)))=some r:=h
 clear h
 replace H:=Option.bind_eq_some_iff.mp H
 obtain ⟨t597,A20,H⟩:=H
 replace H:(some (!t597))=some r:=H
 have A2:=zm A20
 clear A20
 obtain rfl:=Option.some.inj H
 go_enter Try.func82,Try.ntmps82
 go_wp2_with (first|((with_reducible refine gate_callee (f:=58) rfl ?_);refine goesL_ (some 4) rfl rfl Try.func58 (by kernel_rfl) rfl #[.int .i64 a0] rfl (by (try simp only [List.map_toArray,List.map_cons,List.map_nil]);first|done|rfl|(simp only [List.length_drop,List.length_take];rfl)) ?_;(with_reducible refine (mapjnl_worn.calls a0 t597 _ A2.out).mono ?_);rintro e w' ⟨rfl,⟨nd,rfl⟩⟩;refine ⟨_,rfl,?_⟩))
 go_ret
 exact ⟨by first|rfl|(simp;done)|(simp [*];done),by repeat (first|exact Drawn0.refl _|apply Drawn0.step)⟩
def slices_IndexFunc_int64_int64_82.l0:Nat → List Int → Int → Int → Option (Int)
 | 0,_,_,_=>none
 | k + 1,x0,x7,x8=>if x8 < x7 then (if 0≤x8 then (if x8 < (x0.length:Int) then ((mapjnl_fits_1.f (rd x0 x8)).bind fun t599=>(if t599=true then (some x8) else (slices_IndexFunc_int64_int64_82.l0 k x0 x7 (wrap64 (x8 + 1))))) else (none)) else (none)) else (some (-1))
def slices_IndexFunc_int64_int64_82.f (k:Nat) (l0:List Int) :Option (Int):=slices_IndexFunc_int64_int64_82.l0 k l0 (l0.length:Int) 0
set_option maxHeartbeats 8000000 in
set_option maxRecDepth 100000 in
theorem slices_IndexFunc_int64_int64_82.calls (k:Nat) (A0:Option Addr) (c0:Nat) (l0:List Int)  (r:Int) (w:World) (hr0:Kd.C (Kd.int .i64) w A0 l0.length l0) (hc0:l0.length≤c0) (h:slices_IndexFunc_int64_int64_82.f k l0=some r) :
  Calls Try.prog 80 #[.slice A0 l0.length c0,.func (.func 82) #[] #[]] w fun e w'=>e=.returned (.int .i64 r)∧Below w.heap.size w w':=by
 have HR0:=zm hr0
 have HC0:=zm hc0
 clear hr0 hc0
 have HB:=zm (Below.refl w.heap.size w)
 have H:(slices_IndexFunc_int64_int64_82.l0 k l0 (l0.length:Int) 0)=some r:=h
 clear h
 have H':=zm H
 clear H
 go_enter Try.func80,Try.ntmps80
 go_wp2
 go_loopg [8] k (fun kq v8 w'=>∃ (x8_1:Int),v8=.int .i64 x8_1∧Aside0 (slices_IndexFunc_int64_int64_82.l0 kq l0 (l0.length:Int) x8_1=some r)∧Aside0 (kq≤k)∧Aside0 (Below w.heap.size w w'))
 case atStart=>exact ⟨(0),(by first|rfl|(simp;done)|(simp [*];done)),H',⟨Nat.le_refl _⟩,⟨by repeat (first|(with_reducible first|exact HB.out|apply zlA|apply zlN|apply zlD)|exact HB.out)⟩⟩
 case round =>
  clear H'
  try clear p2
  obtain ⟨x8_1,rfl,HA,HK1,HB⟩:=hrel
  cases gk with
  | zero=>exact absurd HA.out (by simp [slices_IndexFunc_int64_int64_82.l0])
  | succ k1 =>
   have H:=HA.out
   clear HA
   simp only [slices_IndexFunc_int64_int64_82.l0] at H
   by_cases c3:x8_1 < (l0.length:Int)
   ·rw [if_pos c3] at H
    have c3b0:decide (x8_1 < (l0.length:Int))=true:=decide_eq_true c3
    clear c3
    by_cases c4:0≤x8_1
    ·rw [if_pos c4] at H
     have c4b0:decide (0≤x8_1)=true:=decide_eq_true c4
     clear c4
     by_cases c5:x8_1 < (l0.length:Int)
     ·rw [if_pos c5] at H
      have c5b0:decide (x8_1 < (l0.length:Int))=true:=decide_eq_true c5
      clear c5
      replace H:=Option.bind_eq_some_iff.mp H
      obtain ⟨t599,A60,H⟩:=H
      replace H:(if t599=true then (some x8_1) else (slices_IndexFunc_int64_int64_82.l0 k1 l0 (l0.length:Int) (wrap64 (x8_1 + 1))))=some r:=H
      have A6:=zm A60
      clear A60
      by_cases c7:t599=true
      ·subst c7
       have H1:(some x8_1)=some r:=by rw [if_pos rfl] at H;exact H
       clear H
       have H:=H1
       clear H1
       obtain rfl:=Option.some.inj H
       have p598:0≤(x8_1:Int):=of_decide_eq_true (by first|(with_reducible assumption)|assumption)
       have q598:x8_1 < (l0.length:Int):=of_decide_eq_true (by first|(with_reducible assumption)|assumption)
       obtain ⟨ad598,e598,hx598_0⟩:=Kd.at_int HR0.out x8_1 p598 q598
       cases e598
       replace hx598_0:=(HB.out.cell (World.block_lt_of_cell? w _ hx598_0)).trans hx598_0
       replace p598:=eq_true p598
       replace q598:=eq_true q598
       go_wp2_with (first|(go_at_call 82;(with_reducible refine (mapjnl_fits_1.calls  (rd l0 x8_1) true _ A6.out).mono ?_);rintro e w' ⟨rfl,⟨nd,rfl⟩⟩))
       go_ret
       exact ⟨by first|rfl|(simp [errW_none,errW_some] <;> rfl)|(simp [*,errW_none,errW_some] <;> rfl),by repeat (first|(with_reducible first|exact HB.out|apply zlA|apply zlN|apply zlD)|exact HB.out)⟩
      ·replace c7:=Bool.eq_false_iff.mpr c7
       subst c7
       have H1:(slices_IndexFunc_int64_int64_82.l0 k1 l0 (l0.length:Int) (wrap64 (x8_1 + 1)))=some r:=by rw [if_neg (show ¬ (false=true) by decide)] at H;exact H
       clear H
       have H:=H1
       clear H1
       have H':=zm H
       clear H
       have p598:0≤(x8_1:Int):=of_decide_eq_true (by first|(with_reducible assumption)|assumption)
       have q598:x8_1 < (l0.length:Int):=of_decide_eq_true (by first|(with_reducible assumption)|assumption)
       obtain ⟨ad598,e598,hx598_0⟩:=Kd.at_int HR0.out x8_1 p598 q598
       cases e598
       replace hx598_0:=(HB.out.cell (World.block_lt_of_cell? w _ hx598_0)).trans hx598_0
       replace p598:=eq_true p598
       replace q598:=eq_true q598
       go_wp2_with (first|(go_at_call 82;(with_reducible refine (mapjnl_fits_1.calls  (rd l0 x8_1) false _ A6.out).mono ?_);rintro e w' ⟨rfl,⟨nd,rfl⟩⟩))
       go_roundg k1
       case measure=>have:=HK1.out;omega
       case rel=>exact ⟨(wrap64 (x8_1 + 1)),(by first|rfl|(simp;done)|(simp [*];done)),H',⟨by have:=HK1.out;omega⟩,⟨by repeat (first|(with_reducible first|exact HB.out|apply zlA|apply zlN|apply zlD)|exact HB.out)⟩⟩
     ·rw [if_neg c5] at H
      exact absurd H (by simp)
    ·rw [if_neg c4] at H
     exact absurd H (by simp)
   ·rw [if_neg c3] at H
    have c3b0:decide (x8_1 < (l0.length:Int))=false:=decide_eq_false c3
    clear c3
    obtain rfl:=Option.some.inj H
    go_wp2
    go_ret
    exact ⟨by first|rfl|(simp [errW_none,errW_some] <;> rfl)|(simp [*,errW_none,errW_some] <;> rfl),by repeat (first|(with_reducible first|exact HB.out|apply zlA|apply zlN|apply zlD)|exact HB.out)⟩
def slices_ContainsFunc_int64_int64_82.f (k:Nat) (l0:List Int) :Option (Bool):=(slices_IndexFunc_int64_int64_82.f k l0).bind fun t600=>(some (decide (t600 ≥ 0)))
set_option maxHeartbeats 8000000 in
set_option maxRecDepth 100000 in
theorem slices_ContainsFunc_int64_int64_82.calls (k:Nat) (A0:Option Addr) (c0:Nat) (l0:List Int)  (r:Bool) (w:World) (hr0:Kd.C (Kd.int .i64) w A0 l0.length l0) (hc0:l0.length≤c0) (h:slices_ContainsFunc_int64_int64_82.f k l0=some r) :
  Calls Try.prog 56 #[.slice A0 l0.length c0,.func (.func 82) #[] #[]] w fun e w'=>e=.returned (.bool r)∧Below w.heap.size w w':=by
 have HR0:=zm hr0
 have HC0:=zm hc0
 clear hr0 hc0
 have HB:=zm (Below.refl w.heap.size w)
 have H:((slices_IndexFunc_int64_int64_82.f k l0).bind fun t600=>(some (decide (t600 ≥ 0))))=some r:=h
 clear h
 replace H:=Option.bind_eq_some_iff.mp H
 obtain ⟨t600,A30,H⟩:=H
 replace H:(some (decide (t600 ≥ 0)))=some r:=H
 have A3:=zm A30
 clear A30
 obtain rfl:=Option.some.inj H
 go_enter Try.func56,Try.ntmps56
 go_wp2_with (first|((with_reducible refine gate_callee (f:=80) rfl ?_);refine goesL_ (some 7) rfl rfl Try.func80 (by kernel_rfl) rfl #[.slice A0 l0.length c0,.func (.func 82) #[] #[]] rfl (by (try simp only [List.map_toArray,List.map_cons,List.map_nil]);first|done|rfl|(simp only [List.length_drop,List.length_take];rfl)) ?_;(with_reducible refine (slices_IndexFunc_int64_int64_82.calls k _ _ l0  t600 _ ?side1 ?side2 A3.out).mono ?_);(case side1=>repeat (first|exact HR0.out|(with_reducible refine Kd.C_alloc ?_ _)|(with_reducible refine Kd.C_drewN ?_ _)|(with_reducible refine Kd.C_drew ?_)));(case side2=>exact HC0.out);rintro e w4 ⟨rfl,hb⟩;refine ⟨_,rfl,?_⟩;have n0_:=zm (below_step (by repeat (first|(with_reducible first|exact HB.out|apply zlA|apply zlN|apply zlD)|exact HB.out)) hb);clear HB;have HB:=n0_;clear n0_;(try clear hb);(try clear hb2);(try clear hk);(try clear hi)))
 go_ret
 exact ⟨by first|rfl|(simp [errW_none,errW_some] <;> rfl)|(simp [*,errW_none,errW_some] <;> rfl),by repeat (first|(with_reducible first|exact HB.out|apply zlA|apply zlN|apply zlD)|exact HB.out)⟩
def mapjnl_fits_2.f (k:Nat) (a0_0:Int) (a0_1:Int) (a0_2:Int):Option (Bool):=(mapjnl_record.f k a0_0 a0_1 a0_2).bind fun t602=>(some (!t602))
set_option maxHeartbeats 8000000 in
set_option maxRecDepth 100000 in
theorem mapjnl_fits_2.calls (k:Nat) (a0_0:Int) (a0_1:Int) (a0_2:Int) (r:Bool) (w:World) (h:mapjnl_fits_2.f k a0_0 a0_1 a0_2=some r) :
  Calls Try.prog 83 #[.agg #[.int .i64 a0_0,.int .i64 a0_1,.int .i64 a0_2]] w fun e w'=>e=.returned (.bool r)∧Below w.heap.size w w':=by
 have hu55:=Try.underlying55
 have HB:=zm (Below.refl w.heap.size w)
 have H:((mapjnl_record.f k a0_0 a0_1 a0_2).bind fun t602=>(some (!t602)))=some r:=h
 clear h
 replace H:=Option.bind_eq_some_iff.mp H
 obtain ⟨t602,A20,H⟩:=H
 replace H:(some (!t602))=some r:=H
 have A2:=zm A20
 clear A20
 obtain rfl:=Option.some.inj H
 go_enter Try.func83,Try.ntmps83
 go_wp2_with (first|((with_reducible refine gate_dst (N:=1) rfl ?_);refine box_event ?hg (N:=1) ?hd (cs:=#[.int .i64 a0_0,.int .i64 a0_1,.int .i64 a0_2]) (t:=55) ?hr ?_;(case hd=>rfl);(case hg=>rfl);(case hr=>first|(go_simp;done)|(go_simp;rfl));intro gb601 hg w3 hbox hb;have n0_:=zm (below_step (by repeat (first|(with_reducible first|exact HB.out|apply zlA|apply zlN|apply zlD)|exact HB.out)) hb);have n1_:=zm (hbox);have n2_:=zm ((by rw [hg];exact (below_size (by repeat (first|(with_reducible first|exact HB.out|apply zlA|apply zlN|apply zlD)|exact HB.out))):w.heap.size≤gb601));have n3_:=zm ((by rw [hg];exact (below_size (by repeat (first|(with_reducible first|exact HB.out|apply zlA|apply zlN|apply zlD)|exact HB.out))):w.heap.size≤gb601));clear HB;have HB:=n0_;have BK601:=n1_;have GW601:=n2_;have GE601:=n3_;clear n0_ n1_ n2_ n3_;clear hb hbox hg;have hcz4_0:w3.cell? ⟨gb601,0,none⟩=some (.int .i64 a0_0):=(blk_cell BK601.out 0).trans rfl;have hcz4_1:w3.cell? ⟨gb601,1,none⟩=some (.int .i64 a0_1):=(blk_cell BK601.out 1).trans rfl;have hcz4_2:w3.cell? ⟨gb601,2,none⟩=some (.int .i64 a0_2):=(blk_cell BK601.out 2).trans rfl;have hfz4_0:=blk_frozen BK601.out 0;have hfz4_1:=blk_frozen BK601.out 1;have hfz4_2:=blk_frozen BK601.out 2)|((with_reducible refine gate_callee (f:=61) rfl ?_);refine goesL_ (some 4) rfl rfl Try.func61 (by kernel_rfl) rfl #[.agg #[.int .i64 a0_0,.int .i64 a0_1,.int .i64 a0_2]] rfl (by (try simp only [List.map_toArray,List.map_cons,List.map_nil]);first|done|rfl|(simp only [List.length_drop,List.length_take];rfl)) ?_;(with_reducible refine (mapjnl_record.calls k a0_0 a0_1 a0_2 t602 _ A2.out).mono ?_);rintro e w5 ⟨rfl,hb⟩;refine ⟨_,rfl,?_⟩;have n0_:=zm (zbB (g:=gb601) (o:=.cells #[.int .i64 a0_0,.int .i64 a0_1,.int .i64 a0_2] 55 (0,0)) (by (with_reducible repeat (first|refine zbN ?_ _|refine zbD ?_|refine zbA ?_ _));exact BK601.out) hb);have n1_:=zm (below_step (by repeat (first|(with_reducible first|exact HB.out|apply zlA|apply zlN|apply zlD|refine zlS ?_ GE601.out)|exact HB.out)) hb);clear BK601 HB;have BK601:=n0_;have HB:=n1_;clear n0_ n1_;(try clear hb);(try clear hb2);(try clear hk);(try clear hi)))
 go_ret
 exact ⟨by first|rfl|(simp [errW_none,errW_some] <;> rfl)|(simp [*,errW_none,errW_some] <;> rfl),by repeat (first|(with_reducible first|exact HB.out|apply zlA|apply zlN|apply zlD|refine zlS ?_ GE601.out)|exact HB.out)⟩
def api_MapRecord_81_83.l0:Nat → List (S55) → Int → Int → Option (Int)
 | 0,_,_,_=>none
 | k + 1,x0,x7,x8=>if x8 < x7 then (if 0≤x8 then (if x8 < (x0.length:Int) then ((mapjnl_fits_2.f k ((rd_T55 x0 x8).f0) ((rd_T55 x0 x8).f1) ((rd_T55 x0 x8).f2)).bind fun t604=>(if t604=true then (some x8) else (api_MapRecord_81_83.l0 k x0 x7 (wrap64 (x8 + 1))))) else (none)) else (none)) else (some (-1))
def api_MapRecord_81_83.f (k:Nat) (l0:List (S55)) :Option (Int):=api_MapRecord_81_83.l0 k l0 (l0.length:Int) 0
set_option maxHeartbeats 8000000 in
set_option maxRecDepth 100000 in
theorem api_MapRecord_81_83.calls (k:Nat) (A0:Option Addr) (c0:Nat) (l0:List (S55))  (r:Int) (w:World) (hr0:Kd.C k55 w A0 l0.length l0) (hc0:l0.length≤c0) (h:api_MapRecord_81_83.f k l0=some r) :
  Calls Try.prog 81 #[.slice A0 l0.length c0,.func (.func 83) #[] #[]] w fun e w'=>e=.returned (.int .i64 r)∧Below w.heap.size w w':=by
 have hu55:=Try.underlying55
 have HR0:=zm hr0
 have HC0:=zm hc0
 clear hr0 hc0
 have HB:=zm (Below.refl w.heap.size w)
 have H:(api_MapRecord_81_83.l0 k l0 (l0.length:Int) 0)=some r:=h
 clear h
 have H':=zm H
 clear H
 go_enter Try.func81,Try.ntmps81
 go_wp2
 go_loopg [8] k (fun kq v8 w'=>∃ (x8_1:Int),v8=.int .i64 x8_1∧Aside0 (api_MapRecord_81_83.l0 kq l0 (l0.length:Int) x8_1=some r)∧Aside0 (kq≤k)∧Aside0 (Below w.heap.size w w'))
 case atStart=>exact ⟨(0),(by first|rfl|(simp;done)|(simp [*];done)),H',⟨Nat.le_refl _⟩,⟨by repeat (first|(with_reducible first|exact HB.out|apply zlA|apply zlN|apply zlD)|exact HB.out)⟩⟩
 case round =>
  clear H'
  try clear p2
  obtain ⟨x8_1,rfl,HA,HK1,HB⟩:=hrel
  cases gk with
  | zero=>exact absurd HA.out (by simp [api_MapRecord_81_83.l0])
  | succ k1 =>
   have H:=HA.out
   clear HA
   simp only [api_MapRecord_81_83.l0] at H
   by_cases c3:x8_1 < (l0.length:Int)
   ·rw [if_pos c3] at H
    have c3b0:decide (x8_1 < (l0.length:Int))=true:=decide_eq_true c3
    clear c3
    by_cases c4:0≤x8_1
    ·rw [if_pos c4] at H
     have c4b0:decide (0≤x8_1)=true:=decide_eq_true c4
     clear c4
     by_cases c5:x8_1 < (l0.length:Int)
     ·rw [if_pos c5] at H
      have c5b0:decide (x8_1 < (l0.length:Int))=true:=decide_eq_true c5
      clear c5
      replace H:=Option.bind_eq_some_iff.mp H
      obtain ⟨t604,A60,H⟩:=H
      replace H:(if t604=true then (some x8_1) else (api_MapRecord_81_83.l0 k1 l0 (l0.length:Int) (wrap64 (x8_1 + 1))))=some r:=H
      have A6:=zm A60
      clear A60
      by_cases c7:t604=true
      ·subst c7
       have H1:(some x8_1)=some r:=by rw [if_pos rfl] at H;exact H
       clear H
       have H:=H1
       clear H1
       obtain rfl:=Option.some.inj H
       have p603:0≤(x8_1:Int):=of_decide_eq_true (by first|(with_reducible assumption)|assumption)
       have q603:x8_1 < (l0.length:Int):=of_decide_eq_true (by first|(with_reducible assumption)|assumption)
       obtain ⟨ad603,e603,hx603_0,hx603_1,hx603_2⟩:=at_T55 HR0.out x8_1 p603 q603
       cases e603
       replace hx603_0:=(HB.out.cell (World.block_lt_of_cell? w _ hx603_0)).trans hx603_0
       replace hx603_1:=(HB.out.cell (World.block_lt_of_cell? w _ hx603_1)).trans hx603_1
       replace hx603_2:=(HB.out.cell (World.block_lt_of_cell? w _ hx603_2)).trans hx603_2
       replace p603:=eq_true p603
       replace q603:=eq_true q603
       go_wp2_with (first|(go_at_call 83;(with_reducible refine (mapjnl_fits_2.calls  k1 ((rd_T55 l0 x8_1).f0) ((rd_T55 l0 x8_1).f1) ((rd_T55 l0 x8_1).f2) true _ A6.out).mono ?_);rintro e w8 ⟨rfl,hb⟩;have n0_:=zm (below_step (by repeat (first|(with_reducible first|exact HB.out|apply zlA|apply zlN|apply zlD)|exact HB.out)) hb);clear HB;have HB:=n0_;clear n0_;(try clear hb);(try clear hb2);(try clear hk);(try clear hi)))
       go_ret
       exact ⟨by first|rfl|(simp [errW_none,errW_some] <;> rfl)|(simp [*,errW_none,errW_some] <;> rfl),by repeat (first|(with_reducible first|exact HB.out|apply zlA|apply zlN|apply zlD)|exact HB.out)⟩
      ·replace c7:=Bool.eq_false_iff.mpr c7
       subst c7
       have H1:(api_MapRecord_81_83.l0 k1 l0 (l0.length:Int) (wrap64 (x8_1 + 1)))=some r:=by rw [if_neg (show ¬ (false=true) by decide)] at H;exact H
       clear H
       have H:=H1
       clear H1
       have H':=zm H
       clear H
       have p603:0≤(x8_1:Int):=of_decide_eq_true (by first|(with_reducible assumption)|assumption)
       have q603:x8_1 < (l0.length:Int):=of_decide_eq_true (by first|(with_reducible assumption)|assumption)
       obtain ⟨ad603,e603,hx603_0,hx603_1,hx603_2⟩:=at_T55 HR0.out x8_1 p603 q603
       cases e603
       replace hx603_0:=(HB.out.cell (World.block_lt_of_cell? w _ hx603_0)).trans hx603_0
       replace hx603_1:=(HB.out.cell (World.block_lt_of_cell? w _ hx603_1)).trans hx603_1
       replace hx603_2:=(HB.out.cell (World.block_lt_of_cell? w _ hx603_2)).trans hx603_2
       replace p603:=eq_true p603
       replace q603:=eq_true q603
       go_wp2_with (first|(go_at_call 83;(with_reducible refine (mapjnl_fits_2.calls  k1 ((rd_T55 l0 x8_1).f0) ((rd_T55 l0 x8_1).f1) ((rd_T55 l0 x8_1).f2) false _ A6.out).mono ?_);rintro e w9 ⟨rfl,hb⟩;have n0_:=zm (below_step (by repeat (first|(with_reducible first|exact HB.out|apply zlA|apply zlN|apply zlD)|exact HB.out)) hb);clear HB;have HB:=n0_;clear n0_;(try clear hb);(try clear hb2);(try clear hk);(try clear hi)))
       go_roundg k1
       case measure=>have:=HK1.out;omega
       case rel=>exact ⟨(wrap64 (x8_1 + 1)),(by first|rfl|(simp;done)|(simp [*];done)),H',⟨by have:=HK1.out;omega⟩,⟨by repeat (first|(with_reducible first|exact HB.out|apply zlA|apply zlN|apply zlD)|exact HB.out)⟩⟩
     ·rw [if_neg c5] at H
      exact absurd H (by simp)
    ·rw [if_neg c4] at H
     exact absurd H (by simp)
   ·rw [if_neg c3] at H
    have c3b0:decide (x8_1 < (l0.length:Int))=false:=decide_eq_false c3
    clear c3
    obtain rfl:=Option.some.inj H
    go_wp2
    go_ret
    exact ⟨by first|rfl|(simp [errW_none,errW_some] <;> rfl)|(simp [*,errW_none,errW_some] <;> rfl),by repeat (first|(with_reducible first|exact HB.out|apply zlA|apply zlN|apply zlD)|exact HB.out)⟩
def api_MapRecord_68_83.f (k:Nat) (l0:List (S55)) :Option (Bool):=(api_MapRecord_81_83.f k l0).bind fun t605=>(some (decide (t605 ≥ 0)))
set_option maxHeartbeats 8000000 in
set_option maxRecDepth 100000 in
theorem api_MapRecord_68_83.calls (k:Nat) (A0:Option Addr) (c0:Nat) (l0:List (S55))  (r:Bool) (w:World) (hr0:Kd.C k55 w A0 l0.length l0) (hc0:l0.length≤c0) (h:api_MapRecord_68_83.f k l0=some r) :
  Calls Try.prog 68 #[.slice A0 l0.length c0,.func (.func 83) #[] #[]] w fun e w'=>e=.returned (.bool r)∧Below w.heap.size w w':=by
 have HR0:=zm hr0
 have HC0:=zm hc0
 clear hr0 hc0
 have HB:=zm (Below.refl w.heap.size w)
 have H:((api_MapRecord_81_83.f k l0).bind fun t605=>(some (decide (t605 ≥ 0))))=some r:=h
 clear h
 replace H:=Option.bind_eq_some_iff.mp H
 obtain ⟨t605,A30,H⟩:=H
 replace H:(some (decide (t605 ≥ 0)))=some r:=H
 have A3:=zm A30
 clear A30
 obtain rfl:=Option.some.inj H
 go_enter Try.func68,Try.ntmps68
 go_wp2_with (first|((with_reducible refine gate_callee (f:=81) rfl ?_);refine goesL_ (some 7) rfl rfl Try.func81 (by kernel_rfl) rfl #[.slice A0 l0.length c0,.func (.func 83) #[] #[]] rfl (by (try simp only [List.map_toArray,List.map_cons,List.map_nil]);first|done|rfl|(simp only [List.length_drop,List.length_take];rfl)) ?_;(with_reducible refine (api_MapRecord_81_83.calls k _ _ l0  t605 _ ?side1 ?side2 A3.out).mono ?_);(case side1=>repeat (first|exact HR0.out|(with_reducible refine Kd.C_alloc ?_ _)|(with_reducible refine Kd.C_drewN ?_ _)|(with_reducible refine Kd.C_drew ?_)));(case side2=>exact HC0.out);rintro e w4 ⟨rfl,hb⟩;refine ⟨_,rfl,?_⟩;have n0_:=zm (below_step (by repeat (first|(with_reducible first|exact HB.out|apply zlA|apply zlN|apply zlD)|exact HB.out)) hb);clear HB;have HB:=n0_;clear n0_;(try clear hb);(try clear hb2);(try clear hk);(try clear hi)))
 go_ret
 exact ⟨by first|rfl|(simp [errW_none,errW_some] <;> rfl)|(simp [*,errW_none,errW_some] <;> rfl),by repeat (first|(with_reducible first|exact HB.out|apply zlA|apply zlN|apply zlD)|exact HB.out)⟩
end Go.Proofs.Ytkhbmgclklmimaa.Print
end
section
namespace Go.Proofs.Ytkhbmgclklmimaa.Print
open Go.RowKit Go.Proofs.YtkhbmgclklmimaaW.PrintWords Go.Proofs.YtkhbmgclklmimaaW.PrintLast Go.Proofs.YtkhbmgclklmimaaW.PrintMore
attribute [local go_sem] max2_int min2_int max_two min_two max_three min_three max_four min_four   -- for this text's walks alone
attribute [local go_sem ↓] Go.Proofs.Ytkhbmgclklmimaa.Sem.isSome_setCell
attribute [local go_sem] Go.Instr.field Go.asAgg
set_option linter.unusedVariables false
set_option linter.unusedSimpArgs false
def mapjnl_fits.f (k:Nat) (a0_0:Int) (a0_1:Int) (a0_2:Int) (a0_3:Int) (l0_4:List Bool) (l0_5:List Int) (l0_6:List (S55)):Option (Bool):=if a0_0=1 then ((mapjnl_gen.f a0_1).bind fun t607=>(if t607=true then (if a0_2 ≥ 0 then (if a0_2≤3 then (if (l0_4.length:Int) ≥ 1 then (if (l0_4.length:Int)≤64 then (if (l0_5.length:Int)=(l0_4.length:Int) then ((mapjnl_seq.f a0_3).bind fun t608=>(if t608=true then (if (l0_6.length:Int)=0 then ((slices_ContainsFunc_int64_int64_82.f k l0_5).bind fun t609=>(some (!t609))) else (some false)) else (some false))) else (some false)) else (some false)) else (some false)) else (some false)) else (some false)) else (some false))) else (if a0_0=2 then ((mapjnl_gen.f a0_1).bind fun t610=>(if t610=true then (if a0_2=0 then (if a0_3=0 then (if (l0_4.length:Int)=0 then (if (l0_5.length:Int)=0 then (if (l0_6.length:Int)≤24 then ((api_MapRecord_68_83.f k l0_6).bind fun t611=>(some (!t611))) else (some false)) else (some false)) else (some false)) else (some false)) else (some false)) else (some false))) else (some false))
set_option maxHeartbeats 8000000 in
set_option maxRecDepth 100000 in
theorem mapjnl_fits.calls (k:Nat) (a0_0:Int) (a0_1:Int) (a0_2:Int) (a0_3:Int) (A0_4:Option Addr) (c0_4:Nat) (l0_4:List Bool) (A0_5:Option Addr) (c0_5:Nat) (l0_5:List Int) (A0_6:Option Addr) (c0_6:Nat) (l0_6:List (S55)) (r:Bool) (w:World) (hr0_4:Kd.C Kd.bool w A0_4 l0_4.length l0_4) (hc0_4:l0_4.length≤c0_4) (hr0_5:Kd.C (Kd.int .i64) w A0_5 l0_5.length l0_5) (hc0_5:l0_5.length≤c0_5) (hr0_6:Kd.C k55 w A0_6 l0_6.length l0_6) (hc0_6:l0_6.length≤c0_6) (h:mapjnl_fits.f k a0_0 a0_1 a0_2 a0_3 l0_4 l0_5 l0_6=some r) :
  Calls Try.prog 72 #[.agg #[.int .i64 a0_0,.int .i64 a0_1,.int .i64 a0_2,.int .i64 a0_3,.slice A0_4 l0_4.length c0_4,.slice A0_5 l0_5.length c0_5,.slice A0_6 l0_6.length c0_6]] w fun e w'=>e=.returned (.bool r)∧Below w.heap.size w w':=by
 have hu42:=Try.underlying42
 have HR0_4:=zm hr0_4
 have HC0_4:=zm hc0_4
 clear hr0_4 hc0_4
 have HR0_5:=zm hr0_5
 have HC0_5:=zm hc0_5
 clear hr0_5 hc0_5
 have HR0_6:=zm hr0_6
 have HC0_6:=zm hc0_6
 clear hr0_6 hc0_6
 have HB:=zm (Below.refl w.heap.size w)
 have H:(if a0_0=1 then ((mapjnl_gen.f a0_1).bind fun t607=>(if t607=true then (if a0_2 ≥ 0 then (if a0_2≤3 then (if (l0_4.length:Int) ≥ 1 then (if (l0_4.length:Int)≤64 then (if (l0_5.length:Int)=(l0_4.length:Int) then ((mapjnl_seq.f a0_3).bind fun t608=>(if t608=true then (if (l0_6.length:Int)=0 then ((slices_ContainsFunc_int64_int64_82.f k l0_5).bind fun t609=>(some (!t609))) else (some false)) else (some false))) else (some false)) else (some false)) else (some false)) else (some false)) else (some false)) else (some false))) else (if a0_0=2 then ((mapjnl_gen.f a0_1).bind fun t610=>(if t610=true then (if a0_2=0 then (if a0_3=0 then (if (l0_4.length:Int)=0 then (if (l0_5.length:Int)=0 then (if (l0_6.length:Int)≤24 then ((api_MapRecord_68_83.f k l0_6).bind fun t611=>(some (!t611))) else (some false)) else (some false)) else (some false)) else (some false)) else (some false)) else (some false))) else (some false)))=some r:=h
 clear h
 by_cases c2:a0_0=1
 ·rw [if_pos c2] at H
  have c2b0:(a0_0 == 1)=true:=beq_iff_eq.mpr c2
  have c2b1:(a0_0 != 1)=false:=bne_eq_false_iff_eq.mpr c2
  clear c2
  replace H:=Option.bind_eq_some_iff.mp H
  obtain ⟨t607,A30,H⟩:=H
  replace H:(if t607=true then (if a0_2 ≥ 0 then (if a0_2≤3 then (if (l0_4.length:Int) ≥ 1 then (if (l0_4.length:Int)≤64 then (if (l0_5.length:Int)=(l0_4.length:Int) then ((mapjnl_seq.f a0_3).bind fun t608=>(if t608=true then (if (l0_6.length:Int)=0 then ((slices_ContainsFunc_int64_int64_82.f k l0_5).bind fun t609=>(some (!t609))) else (some false)) else (some false))) else (some false)) else (some false)) else (some false)) else (some false)) else (some false)) else (some false))=some r:=H
  have A3:=zm A30
  clear A30
  by_cases c4:t607=true
  ·subst c4
   have H1:(if a0_2 ≥ 0 then (if a0_2≤3 then (if (l0_4.length:Int) ≥ 1 then (if (l0_4.length:Int)≤64 then (if (l0_5.length:Int)=(l0_4.length:Int) then ((mapjnl_seq.f a0_3).bind fun t608=>(if t608=true then (if (l0_6.length:Int)=0 then ((slices_ContainsFunc_int64_int64_82.f k l0_5).bind fun t609=>(some (!t609))) else (some false)) else (some false))) else (some false)) else (some false)) else (some false)) else (some false)) else (some false))=some r:=by rw [if_pos rfl] at H;exact H
   clear H
   have H:=H1
   clear H1
   by_cases c5:a0_2 ≥ 0
   ·rw [if_pos c5] at H
    have c5b0:decide (0≤a0_2)=true:=decide_eq_true c5
    clear c5
    by_cases c6:a0_2≤3
    ·rw [if_pos c6] at H
     have c6b0:decide (a0_2≤3)=true:=decide_eq_true c6
     clear c6
     by_cases c7:(l0_4.length:Int) ≥ 1
     ·rw [if_pos c7] at H
      have c7b0:decide (1≤(l0_4.length:Int))=true:=decide_eq_true c7
      have c7b1:decide (1≤l0_4.length)=true:=decide_eq_true (by omega)
      clear c7
      by_cases c8:(l0_4.length:Int)≤64
      ·rw [if_pos c8] at H
       have c8b0:decide ((l0_4.length:Int)≤64)=true:=decide_eq_true c8
       have c8b1:decide (l0_4.length≤64)=true:=decide_eq_true (by omega)
       clear c8
       by_cases c9:(l0_5.length:Int)=(l0_4.length:Int)
       ·rw [if_pos c9] at H
        have c9b0:((l0_5.length:Int) == (l0_4.length:Int))=true:=beq_iff_eq.mpr c9
        have c9b1:((l0_5.length:Int) != (l0_4.length:Int))=false:=bne_eq_false_iff_eq.mpr c9
        have c9b2:(l0_5.length == l0_4.length)=true:=by first|simpa using c9|(simp at c9 ⊢;omega)
        clear c9
        replace H:=Option.bind_eq_some_iff.mp H
        obtain ⟨t608,A100,H⟩:=H
        replace H:(if t608=true then (if (l0_6.length:Int)=0 then ((slices_ContainsFunc_int64_int64_82.f k l0_5).bind fun t609=>(some (!t609))) else (some false)) else (some false))=some r:=H
        have A10:=zm A100
        clear A100
        by_cases c11:t608=true
        ·subst c11
         have H1:(if (l0_6.length:Int)=0 then ((slices_ContainsFunc_int64_int64_82.f k l0_5).bind fun t609=>(some (!t609))) else (some false))=some r:=by rw [if_pos rfl] at H;exact H
         clear H
         have H:=H1
         clear H1
         by_cases c12:(l0_6.length:Int)=0
         ·rw [if_pos c12] at H
          have c12b0:((l0_6.length:Int) == 0)=true:=beq_iff_eq.mpr c12
          have c12b1:((l0_6.length:Int) != 0)=false:=bne_eq_false_iff_eq.mpr c12
          clear c12
          replace H:=Option.bind_eq_some_iff.mp H
          obtain ⟨t609,A130,H⟩:=H
          replace H:(some (!t609))=some r:=H
          have A13:=zm A130
          clear A130
          obtain rfl:=Option.some.inj H
          go_enter Try.func72,Try.ntmps72
          go_wp2_with (first|((with_reducible refine gate_dst (N:=1) rfl ?_);(try (refine gate_guard (by rfl) ?_;dsimp only));refine box_event ?hg (N:=1) ?hd (cs:=#[.int .i64 a0_0,.int .i64 a0_1,.int .i64 a0_2,.int .i64 a0_3,.slice A0_4 l0_4.length c0_4,.slice A0_5 l0_5.length c0_5,.slice A0_6 l0_6.length c0_6]) (t:=42) ?hr ?_;(case hd=>rfl);(case hg=>rfl);(case hr=>first|(go_simp;done)|(go_simp;rfl));intro gb606 hg w14 hbox hb;have n0_:=zm (below_step (by repeat (first|(with_reducible first|exact HB.out|apply zlA|apply zlN|apply zlD)|exact HB.out)) hb);have n1_:=zm (hbox);have n2_:=zm ((by rw [hg];exact (below_size (by repeat (first|(with_reducible first|exact HB.out|apply zlA|apply zlN|apply zlD)|exact HB.out))):w.heap.size≤gb606));have n3_:=zm ((by rw [hg];exact (below_size (by repeat (first|(with_reducible first|exact HB.out|apply zlA|apply zlN|apply zlD)|exact HB.out))):w.heap.size≤gb606));clear HB;have HB:=n0_;have BK606:=n1_;have GW606:=n2_;have GE606:=n3_;clear n0_ n1_ n2_ n3_;clear hb hbox hg;have hcz15_0:w14.cell? ⟨gb606,0,none⟩=some (.int .i64 a0_0):=(blk_cell BK606.out 0).trans rfl;have hcz15_1:w14.cell? ⟨gb606,1,none⟩=some (.int .i64 a0_1):=(blk_cell BK606.out 1).trans rfl;have hcz15_2:w14.cell? ⟨gb606,2,none⟩=some (.int .i64 a0_2):=(blk_cell BK606.out 2).trans rfl;have hcz15_3:w14.cell? ⟨gb606,3,none⟩=some (.int .i64 a0_3):=(blk_cell BK606.out 3).trans rfl;have hcz15_4:w14.cell? ⟨gb606,4,none⟩=some (.slice A0_4 l0_4.length c0_4):=(blk_cell BK606.out 4).trans rfl;have hcz15_5:w14.cell? ⟨gb606,5,none⟩=some (.slice A0_5 l0_5.length c0_5):=(blk_cell BK606.out 5).trans rfl;have hcz15_6:w14.cell? ⟨gb606,6,none⟩=some (.slice A0_6 l0_6.length c0_6):=(blk_cell BK606.out 6).trans rfl;have hfz15_0:=blk_frozen BK606.out 0;have hfz15_1:=blk_frozen BK606.out 1;have hfz15_2:=blk_frozen BK606.out 2;have hfz15_3:=blk_frozen BK606.out 3;have hfz15_4:=blk_frozen BK606.out 4;have hfz15_5:=blk_frozen BK606.out 5;have hfz15_6:=blk_frozen BK606.out 6)|((with_reducible refine gate_callee (f:=65) rfl ?_);refine goesL_ (some 9) rfl rfl Try.func65 (by kernel_rfl) rfl #[.int .i64 a0_1] rfl (by (try simp only [List.map_toArray,List.map_cons,List.map_nil]);first|done|rfl|(simp only [List.length_drop,List.length_take];rfl)) ?_;(with_reducible refine (mapjnl_gen.calls a0_1 true _ A3.out).mono ?_);rintro e w' ⟨rfl,⟨nd,rfl⟩⟩;refine ⟨_,rfl,?_⟩)|(go_at_call 55;(with_reducible refine (mapjnl_seq.calls a0_3 true _ A10.out).mono ?_);rintro e w' ⟨rfl,⟨nd,rfl⟩⟩)|(go_at_call 56;(with_reducible refine (slices_ContainsFunc_int64_int64_82.calls k _ _ l0_5  t609 _ ?side1 ?side2 A13.out).mono ?_);(case side1=>repeat (first|exact (Kd.C_below HR0_5.out (by repeat (first|(with_reducible first|exact HB.out|apply zlA|apply zlN|apply zlD|refine zlS ?_ GE606.out)|exact HB.out)))|(with_reducible refine Kd.C_alloc ?_ _)|(with_reducible refine Kd.C_drewN ?_ _)|(with_reducible refine Kd.C_drew ?_)));(case side2=>exact HC0_5.out);rintro e w16 ⟨rfl,hb⟩;have n0_:=zm (zbB (g:=gb606) (o:=.cells #[.int .i64 a0_0,.int .i64 a0_1,.int .i64 a0_2,.int .i64 a0_3,.slice A0_4 l0_4.length c0_4,.slice A0_5 l0_5.length c0_5,.slice A0_6 l0_6.length c0_6] 42 (0,0)) (by (with_reducible repeat (first|refine zbN ?_ _|refine zbD ?_|refine zbA ?_ _));exact BK606.out) hb);have n1_:=zm (below_step (by repeat (first|(with_reducible first|exact HB.out|apply zlA|apply zlN|apply zlD|refine zlS ?_ GE606.out)|exact HB.out)) hb);clear BK606 HB;have BK606:=n0_;have HB:=n1_;clear n0_ n1_;(try clear hb);(try clear hb2);(try clear hk);(try clear hi)))
          go_ret
          exact ⟨by first|rfl|(simp [errW_none,errW_some] <;> rfl)|(simp [*,errW_none,errW_some] <;> rfl),by repeat (first|(with_reducible first|exact HB.out|apply zlA|apply zlN|apply zlD|refine zlS ?_ GE606.out)|exact HB.out)⟩
         ·rw [if_neg c12] at H
          have c12b0:((l0_6.length:Int) == 0)=false:=beq_eq_false_iff_ne.mpr c12
          have c12b1:((l0_6.length:Int) != 0)=true:=bne_iff_ne.mpr c12
          have c12b2:¬ (l0_6=[]):=fun h_=>c12 (by rw [h_];rfl)
          obtain rfl:=Option.some.inj H
          go_enter Try.func72,Try.ntmps72
          go_wp2_with (first|((with_reducible refine gate_dst (N:=1) rfl ?_);(try (refine gate_guard (by rfl) ?_;dsimp only));refine box_event ?hg (N:=1) ?hd (cs:=#[.int .i64 a0_0,.int .i64 a0_1,.int .i64 a0_2,.int .i64 a0_3,.slice A0_4 l0_4.length c0_4,.slice A0_5 l0_5.length c0_5,.slice A0_6 l0_6.length c0_6]) (t:=42) ?hr ?_;(case hd=>rfl);(case hg=>rfl);(case hr=>first|(go_simp;done)|(go_simp;rfl));intro gb606 hg w17 hbox hb;have n0_:=zm (below_step (by repeat (first|(with_reducible first|exact HB.out|apply zlA|apply zlN|apply zlD)|exact HB.out)) hb);have n1_:=zm (hbox);have n2_:=zm ((by rw [hg];exact (below_size (by repeat (first|(with_reducible first|exact HB.out|apply zlA|apply zlN|apply zlD)|exact HB.out))):w.heap.size≤gb606));have n3_:=zm ((by rw [hg];exact (below_size (by repeat (first|(with_reducible first|exact HB.out|apply zlA|apply zlN|apply zlD)|exact HB.out))):w.heap.size≤gb606));clear HB;have HB:=n0_;have BK606:=n1_;have GW606:=n2_;have GE606:=n3_;clear n0_ n1_ n2_ n3_;clear hb hbox hg;have hcz18_0:w17.cell? ⟨gb606,0,none⟩=some (.int .i64 a0_0):=(blk_cell BK606.out 0).trans rfl;have hcz18_1:w17.cell? ⟨gb606,1,none⟩=some (.int .i64 a0_1):=(blk_cell BK606.out 1).trans rfl;have hcz18_2:w17.cell? ⟨gb606,2,none⟩=some (.int .i64 a0_2):=(blk_cell BK606.out 2).trans rfl;have hcz18_3:w17.cell? ⟨gb606,3,none⟩=some (.int .i64 a0_3):=(blk_cell BK606.out 3).trans rfl;have hcz18_4:w17.cell? ⟨gb606,4,none⟩=some (.slice A0_4 l0_4.length c0_4):=(blk_cell BK606.out 4).trans rfl;have hcz18_5:w17.cell? ⟨gb606,5,none⟩=some (.slice A0_5 l0_5.length c0_5):=(blk_cell BK606.out 5).trans rfl;have hcz18_6:w17.cell? ⟨gb606,6,none⟩=some (.slice A0_6 l0_6.length c0_6):=(blk_cell BK606.out 6).trans rfl;have hfz18_0:=blk_frozen BK606.out 0;have hfz18_1:=blk_frozen BK606.out 1;have hfz18_2:=blk_frozen BK606.out 2;have hfz18_3:=blk_frozen BK606.out 3;have hfz18_4:=blk_frozen BK606.out 4;have hfz18_5:=blk_frozen BK606.out 5;have hfz18_6:=blk_frozen BK606.out 6)|((with_reducible refine gate_callee (f:=65) rfl ?_);refine goesL_ (some 9) rfl rfl Try.func65 (by kernel_rfl) rfl #[.int .i64 a0_1] rfl (by (try simp only [List.map_toArray,List.map_cons,List.map_nil]);first|done|rfl|(simp only [List.length_drop,List.length_take];rfl)) ?_;(with_reducible refine (mapjnl_gen.calls a0_1 true _ A3.out).mono ?_);rintro e w' ⟨rfl,⟨nd,rfl⟩⟩;refine ⟨_,rfl,?_⟩)|(go_at_call 55;(with_reducible refine (mapjnl_seq.calls a0_3 true _ A10.out).mono ?_);rintro e w' ⟨rfl,⟨nd,rfl⟩⟩))
          go_ret
          exact ⟨by first|rfl|(simp [errW_none,errW_some] <;> rfl)|(simp [*,errW_none,errW_some] <;> rfl),by repeat (first|(with_reducible first|exact HB.out|apply zlA|apply zlN|apply zlD|refine zlS ?_ GE606.out)|exact HB.out)⟩
        ·replace c11:=Bool.eq_false_iff.mpr c11
         subst c11
         have H1:(some false)=some r:=by rw [if_neg (show ¬ (false=true) by decide)] at H;exact H
         clear H
         have H:=H1
         clear H1
         obtain rfl:=Option.some.inj H
         go_enter Try.func72,Try.ntmps72
         go_wp2_with (first|((with_reducible refine gate_dst (N:=1) rfl ?_);(try (refine gate_guard (by rfl) ?_;dsimp only));refine box_event ?hg (N:=1) ?hd (cs:=#[.int .i64 a0_0,.int .i64 a0_1,.int .i64 a0_2,.int .i64 a0_3,.slice A0_4 l0_4.length c0_4,.slice A0_5 l0_5.length c0_5,.slice A0_6 l0_6.length c0_6]) (t:=42) ?hr ?_;(case hd=>rfl);(case hg=>rfl);(case hr=>first|(go_simp;done)|(go_simp;rfl));intro gb606 hg w19 hbox hb;have n0_:=zm (below_step (by repeat (first|(with_reducible first|exact HB.out|apply zlA|apply zlN|apply zlD)|exact HB.out)) hb);have n1_:=zm (hbox);have n2_:=zm ((by rw [hg];exact (below_size (by repeat (first|(with_reducible first|exact HB.out|apply zlA|apply zlN|apply zlD)|exact HB.out))):w.heap.size≤gb606));have n3_:=zm ((by rw [hg];exact (below_size (by repeat (first|(with_reducible first|exact HB.out|apply zlA|apply zlN|apply zlD)|exact HB.out))):w.heap.size≤gb606));clear HB;have HB:=n0_;have BK606:=n1_;have GW606:=n2_;have GE606:=n3_;clear n0_ n1_ n2_ n3_;clear hb hbox hg;have hcz20_0:w19.cell? ⟨gb606,0,none⟩=some (.int .i64 a0_0):=(blk_cell BK606.out 0).trans rfl;have hcz20_1:w19.cell? ⟨gb606,1,none⟩=some (.int .i64 a0_1):=(blk_cell BK606.out 1).trans rfl;have hcz20_2:w19.cell? ⟨gb606,2,none⟩=some (.int .i64 a0_2):=(blk_cell BK606.out 2).trans rfl;have hcz20_3:w19.cell? ⟨gb606,3,none⟩=some (.int .i64 a0_3):=(blk_cell BK606.out 3).trans rfl;have hcz20_4:w19.cell? ⟨gb606,4,none⟩=some (.slice A0_4 l0_4.length c0_4):=(blk_cell BK606.out 4).trans rfl;have hcz20_5:w19.cell? ⟨gb606,5,none⟩=some (.slice A0_5 l0_5.length c0_5):=(blk_cell BK606.out 5).trans rfl;have hcz20_6:w19.cell? ⟨gb606,6,none⟩=some (.slice A0_6 l0_6.length c0_6):=(blk_cell BK606.out 6).trans rfl;have hfz20_0:=blk_frozen BK606.out 0;have hfz20_1:=blk_frozen BK606.out 1;have hfz20_2:=blk_frozen BK606.out 2;have hfz20_3:=blk_frozen BK606.out 3;have hfz20_4:=blk_frozen BK606.out 4;have hfz20_5:=blk_frozen BK606.out 5;have hfz20_6:=blk_frozen BK606.out 6)|((with_reducible refine gate_callee (f:=65) rfl ?_);refine goesL_ (some 9) rfl rfl Try.func65 (by kernel_rfl) rfl #[.int .i64 a0_1] rfl (by (try simp only [List.map_toArray,List.map_cons,List.map_nil]);first|done|rfl|(simp only [List.length_drop,List.length_take];rfl)) ?_;(with_reducible refine (mapjnl_gen.calls a0_1 true _ A3.out).mono ?_);rintro e w' ⟨rfl,⟨nd,rfl⟩⟩;refine ⟨_,rfl,?_⟩)|(go_at_call 55;(with_reducible refine (mapjnl_seq.calls a0_3 false _ A10.out).mono ?_);rintro e w' ⟨rfl,⟨nd,rfl⟩⟩))
         go_ret
         exact ⟨by first|rfl|(simp [errW_none,errW_some] <;> rfl)|(simp [*,errW_none,errW_some] <;> rfl),by repeat (first|(with_reducible first|exact HB.out|apply zlA|apply zlN|apply zlD|refine zlS ?_ GE606.out)|exact HB.out)⟩
       ·rw [if_neg c9] at H
        have c9b0:((l0_5.length:Int) == (l0_4.length:Int))=false:=beq_eq_false_iff_ne.mpr c9
        have c9b1:((l0_5.length:Int) != (l0_4.length:Int))=true:=bne_iff_ne.mpr c9
        have c9b2:(l0_5.length == l0_4.length)=false:=by first|simpa using c9|(simp at c9 ⊢;omega)
        obtain rfl:=Option.some.inj H
        go_enter Try.func72,Try.ntmps72
        go_wp2_with (first|((with_reducible refine gate_dst (N:=1) rfl ?_);(try (refine gate_guard (by rfl) ?_;dsimp only));refine box_event ?hg (N:=1) ?hd (cs:=#[.int .i64 a0_0,.int .i64 a0_1,.int .i64 a0_2,.int .i64 a0_3,.slice A0_4 l0_4.length c0_4,.slice A0_5 l0_5.length c0_5,.slice A0_6 l0_6.length c0_6]) (t:=42) ?hr ?_;(case hd=>rfl);(case hg=>rfl);(case hr=>first|(go_simp;done)|(go_simp;rfl));intro gb606 hg w21 hbox hb;have n0_:=zm (below_step (by repeat (first|(with_reducible first|exact HB.out|apply zlA|apply zlN|apply zlD)|exact HB.out)) hb);have n1_:=zm (hbox);have n2_:=zm ((by rw [hg];exact (below_size (by repeat (first|(with_reducible first|exact HB.out|apply zlA|apply zlN|apply zlD)|exact HB.out))):w.heap.size≤gb606));have n3_:=zm ((by rw [hg];exact (below_size (by repeat (first|(with_reducible first|exact HB.out|apply zlA|apply zlN|apply zlD)|exact HB.out))):w.heap.size≤gb606));clear HB;have HB:=n0_;have BK606:=n1_;have GW606:=n2_;have GE606:=n3_;clear n0_ n1_ n2_ n3_;clear hb hbox hg;have hcz22_0:w21.cell? ⟨gb606,0,none⟩=some (.int .i64 a0_0):=(blk_cell BK606.out 0).trans rfl;have hcz22_1:w21.cell? ⟨gb606,1,none⟩=some (.int .i64 a0_1):=(blk_cell BK606.out 1).trans rfl;have hcz22_2:w21.cell? ⟨gb606,2,none⟩=some (.int .i64 a0_2):=(blk_cell BK606.out 2).trans rfl;have hcz22_3:w21.cell? ⟨gb606,3,none⟩=some (.int .i64 a0_3):=(blk_cell BK606.out 3).trans rfl;have hcz22_4:w21.cell? ⟨gb606,4,none⟩=some (.slice A0_4 l0_4.length c0_4):=(blk_cell BK606.out 4).trans rfl;have hcz22_5:w21.cell? ⟨gb606,5,none⟩=some (.slice A0_5 l0_5.length c0_5):=(blk_cell BK606.out 5).trans rfl;have hcz22_6:w21.cell? ⟨gb606,6,none⟩=some (.slice A0_6 l0_6.length c0_6):=(blk_cell BK606.out 6).trans rfl;have hfz22_0:=blk_frozen BK606.out 0;have hfz22_1:=blk_frozen BK606.out 1;have hfz22_2:=blk_frozen BK606.out 2;have hfz22_3:=blk_frozen BK606.out 3;have hfz22_4:=blk_frozen BK606.out 4;have hfz22_5:=blk_frozen BK606.out 5;have hfz22_6:=blk_frozen BK606.out 6)|((with_reducible refine gate_callee (f:=65) rfl ?_);refine goesL_ (some 9) rfl rfl Try.func65 (by kernel_rfl) rfl #[.int .i64 a0_1] rfl (by (try simp only [List.map_toArray,List.map_cons,List.map_nil]);first|done|rfl|(simp only [List.length_drop,List.length_take];rfl)) ?_;(with_reducible refine (mapjnl_gen.calls a0_1 true _ A3.out).mono ?_);rintro e w' ⟨rfl,⟨nd,rfl⟩⟩;refine ⟨_,rfl,?_⟩))
        go_ret
        exact ⟨by first|rfl|(simp [errW_none,errW_some] <;> rfl)|(simp [*,errW_none,errW_some] <;> rfl),by repeat (first|(with_reducible first|exact HB.out|apply zlA|apply zlN|apply zlD|refine zlS ?_ GE606.out)|exact HB.out)⟩
      ·rw [if_neg c8] at H
       have c8b0:decide ((l0_4.length:Int)≤64)=false:=decide_eq_false c8
       have c8b1:decide (l0_4.length≤64)=false:=decide_eq_false (by omega)
       clear c8
       obtain rfl:=Option.some.inj H
       go_enter Try.func72,Try.ntmps72
       go_wp2_with (first|((with_reducible refine gate_dst (N:=1) rfl ?_);(try (refine gate_guard (by rfl) ?_;dsimp only));refine box_event ?hg (N:=1) ?hd (cs:=#[.int .i64 a0_0,.int .i64 a0_1,.int .i64 a0_2,.int .i64 a0_3,.slice A0_4 l0_4.length c0_4,.slice A0_5 l0_5.length c0_5,.slice A0_6 l0_6.length c0_6]) (t:=42) ?hr ?_;(case hd=>rfl);(case hg=>rfl);(case hr=>first|(go_simp;done)|(go_simp;rfl));intro gb606 hg w23 hbox hb;have n0_:=zm (below_step (by repeat (first|(with_reducible first|exact HB.out|apply zlA|apply zlN|apply zlD)|exact HB.out)) hb);have n1_:=zm (hbox);have n2_:=zm ((by rw [hg];exact (below_size (by repeat (first|(with_reducible first|exact HB.out|apply zlA|apply zlN|apply zlD)|exact HB.out))):w.heap.size≤gb606));have n3_:=zm ((by rw [hg];exact (below_size (by repeat (first|(with_reducible first|exact HB.out|apply zlA|apply zlN|apply zlD)|exact HB.out))):w.heap.size≤gb606));clear HB;have HB:=n0_;have BK606:=n1_;have GW606:=n2_;have GE606:=n3_;clear n0_ n1_ n2_ n3_;clear hb hbox hg;have hcz24_0:w23.cell? ⟨gb606,0,none⟩=some (.int .i64 a0_0):=(blk_cell BK606.out 0).trans rfl;have hcz24_1:w23.cell? ⟨gb606,1,none⟩=some (.int .i64 a0_1):=(blk_cell BK606.out 1).trans rfl;have hcz24_2:w23.cell? ⟨gb606,2,none⟩=some (.int .i64 a0_2):=(blk_cell BK606.out 2).trans rfl;have hcz24_3:w23.cell? ⟨gb606,3,none⟩=some (.int .i64 a0_3):=(blk_cell BK606.out 3).trans rfl;have hcz24_4:w23.cell? ⟨gb606,4,none⟩=some (.slice A0_4 l0_4.length c0_4):=(blk_cell BK606.out 4).trans rfl;have hcz24_5:w23.cell? ⟨gb606,5,none⟩=some (.slice A0_5 l0_5.length c0_5):=(blk_cell BK606.out 5).trans rfl;have hcz24_6:w23.cell? ⟨gb606,6,none⟩=some (.slice A0_6 l0_6.length c0_6):=(blk_cell BK606.out 6).trans rfl;have hfz24_0:=blk_frozen BK606.out 0;have hfz24_1:=blk_frozen BK606.out 1;have hfz24_2:=blk_frozen BK606.out 2;have hfz24_3:=blk_frozen BK606.out 3;have hfz24_4:=blk_frozen BK606.out 4;have hfz24_5:=blk_frozen BK606.out 5;have hfz24_6:=blk_frozen BK606.out 6)|((with_reducible refine gate_callee (f:=65) rfl ?_);refine goesL_ (some 9) rfl rfl Try.func65 (by kernel_rfl) rfl #[.int .i64 a0_1] rfl (by (try simp only [List.map_toArray,List.map_cons,List.map_nil]);first|done|rfl|(simp only [List.length_drop,List.length_take];rfl)) ?_;(with_reducible refine (mapjnl_gen.calls a0_1 true _ A3.out).mono ?_);rintro e w' ⟨rfl,⟨nd,rfl⟩⟩;refine ⟨_,rfl,?_⟩))
       go_ret
       exact ⟨by first|rfl|(simp [errW_none,errW_some] <;> rfl)|(simp [*,errW_none,errW_some] <;> rfl),by repeat (first|(with_reducible first|exact HB.out|apply zlA|apply zlN|apply zlD|refine zlS ?_ GE606.out)|exact HB.out)⟩
     ·rw [if_neg c7] at H
      have c7b0:decide (1≤(l0_4.length:Int))=false:=decide_eq_false c7
      have c7b1:decide (1≤l0_4.length)=false:=decide_eq_false (by omega)
      clear c7
      obtain rfl:=Option.some.inj H
      go_enter Try.func72,Try.ntmps72
      go_wp2_with (first|((with_reducible refine gate_dst (N:=1) rfl ?_);(try (refine gate_guard (by rfl) ?_;dsimp only));refine box_event ?hg (N:=1) ?hd (cs:=#[.int .i64 a0_0,.int .i64 a0_1,.int .i64 a0_2,.int .i64 a0_3,.slice A0_4 l0_4.length c0_4,.slice A0_5 l0_5.length c0_5,.slice A0_6 l0_6.length c0_6]) (t:=42) ?hr ?_;(case hd=>rfl);(case hg=>rfl);(case hr=>first|(go_simp;done)|(go_simp;rfl));intro gb606 hg w25 hbox hb;have n0_:=zm (below_step (by repeat (first|(with_reducible first|exact HB.out|apply zlA|apply zlN|apply zlD)|exact HB.out)) hb);have n1_:=zm (hbox);have n2_:=zm ((by rw [hg];exact (below_size (by repeat (first|(with_reducible first|exact HB.out|apply zlA|apply zlN|apply zlD)|exact HB.out))):w.heap.size≤gb606));have n3_:=zm ((by rw [hg];exact (below_size (by repeat (first|(with_reducible first|exact HB.out|apply zlA|apply zlN|apply zlD)|exact HB.out))):w.heap.size≤gb606));clear HB;have HB:=n0_;have BK606:=n1_;have GW606:=n2_;have GE606:=n3_;clear n0_ n1_ n2_ n3_;clear hb hbox hg;have hcz26_0:w25.cell? ⟨gb606,0,none⟩=some (.int .i64 a0_0):=(blk_cell BK606.out 0).trans rfl;have hcz26_1:w25.cell? ⟨gb606,1,none⟩=some (.int .i64 a0_1):=(blk_cell BK606.out 1).trans rfl;have hcz26_2:w25.cell? ⟨gb606,2,none⟩=some (.int .i64 a0_2):=(blk_cell BK606.out 2).trans rfl;have hcz26_3:w25.cell? ⟨gb606,3,none⟩=some (.int .i64 a0_3):=(blk_cell BK606.out 3).trans rfl;have hcz26_4:w25.cell? ⟨gb606,4,none⟩=some (.slice A0_4 l0_4.length c0_4):=(blk_cell BK606.out 4).trans rfl;have hcz26_5:w25.cell? ⟨gb606,5,none⟩=some (.slice A0_5 l0_5.length c0_5):=(blk_cell BK606.out 5).trans rfl;have hcz26_6:w25.cell? ⟨gb606,6,none⟩=some (.slice A0_6 l0_6.length c0_6):=(blk_cell BK606.out 6).trans rfl;have hfz26_0:=blk_frozen BK606.out 0;have hfz26_1:=blk_frozen BK606.out 1;have hfz26_2:=blk_frozen BK606.out 2;have hfz26_3:=blk_frozen BK606.out 3;have hfz26_4:=blk_frozen BK606.out 4;have hfz26_5:=blk_frozen BK606.out 5;have hfz26_6:=blk_frozen BK606.out 6)|((with_reducible refine gate_callee (f:=65) rfl ?_);refine goesL_ (some 9) rfl rfl Try.func65 (by kernel_rfl) rfl #[.int .i64 a0_1] rfl (by (try simp only [List.map_toArray,List.map_cons,List.map_nil]);first|done|rfl|(simp only [List.length_drop,List.length_take];rfl)) ?_;(with_reducible refine (mapjnl_gen.calls a0_1 true _ A3.out).mono ?_);rintro e w' ⟨rfl,⟨nd,rfl⟩⟩;refine ⟨_,rfl,?_⟩))
      go_ret
      exact ⟨by first|rfl|(simp [errW_none,errW_some] <;> rfl)|(simp [*,errW_none,errW_some] <;> rfl),by repeat (first|(with_reducible first|exact HB.out|apply zlA|apply zlN|apply zlD|refine zlS ?_ GE606.out)|exact HB.out)⟩
    ·rw [if_neg c6] at H
     have c6b0:decide (a0_2≤3)=false:=decide_eq_false c6
     clear c6
     obtain rfl:=Option.some.inj H
     go_enter Try.func72,Try.ntmps72
     go_wp2_with (first|((with_reducible refine gate_dst (N:=1) rfl ?_);(try (refine gate_guard (by rfl) ?_;dsimp only));refine box_event ?hg (N:=1) ?hd (cs:=#[.int .i64 a0_0,.int .i64 a0_1,.int .i64 a0_2,.int .i64 a0_3,.slice A0_4 l0_4.length c0_4,.slice A0_5 l0_5.length c0_5,.slice A0_6 l0_6.length c0_6]) (t:=42) ?hr ?_;(case hd=>rfl);(case hg=>rfl);(case hr=>first|(go_simp;done)|(go_simp;rfl));intro gb606 hg w27 hbox hb;have n0_:=zm (below_step (by repeat (first|(with_reducible first|exact HB.out|apply zlA|apply zlN|apply zlD)|exact HB.out)) hb);have n1_:=zm (hbox);have n2_:=zm ((by rw [hg];exact (below_size (by repeat (first|(with_reducible first|exact HB.out|apply zlA|apply zlN|apply zlD)|exact HB.out))):w.heap.size≤gb606));have n3_:=zm ((by rw [hg];exact (below_size (by repeat (first|(with_reducible first|exact HB.out|apply zlA|apply zlN|apply zlD)|exact HB.out))):w.heap.size≤gb606));clear HB;have HB:=n0_;have BK606:=n1_;have GW606:=n2_;have GE606:=n3_;clear n0_ n1_ n2_ n3_;clear hb hbox hg;have hcz28_0:w27.cell? ⟨gb606,0,none⟩=some (.int .i64 a0_0):=(blk_cell BK606.out 0).trans rfl;have hcz28_1:w27.cell? ⟨gb606,1,none⟩=some (.int .i64 a0_1):=(blk_cell BK606.out 1).trans rfl;have hcz28_2:w27.cell? ⟨gb606,2,none⟩=some (.int .i64 a0_2):=(blk_cell BK606.out 2).trans rfl;have hcz28_3:w27.cell? ⟨gb606,3,none⟩=some (.int .i64 a0_3):=(blk_cell BK606.out 3).trans rfl;have hcz28_4:w27.cell? ⟨gb606,4,none⟩=some (.slice A0_4 l0_4.length c0_4):=(blk_cell BK606.out 4).trans rfl;have hcz28_5:w27.cell? ⟨gb606,5,none⟩=some (.slice A0_5 l0_5.length c0_5):=(blk_cell BK606.out 5).trans rfl;have hcz28_6:w27.cell? ⟨gb606,6,none⟩=some (.slice A0_6 l0_6.length c0_6):=(blk_cell BK606.out 6).trans rfl;have hfz28_0:=blk_frozen BK606.out 0;have hfz28_1:=blk_frozen BK606.out 1;have hfz28_2:=blk_frozen BK606.out 2;have hfz28_3:=blk_frozen BK606.out 3;have hfz28_4:=blk_frozen BK606.out 4;have hfz28_5:=blk_frozen BK606.out 5;have hfz28_6:=blk_frozen BK606.out 6)|((with_reducible refine gate_callee (f:=65) rfl ?_);refine goesL_ (some 9) rfl rfl Try.func65 (by kernel_rfl) rfl #[.int .i64 a0_1] rfl (by (try simp only [List.map_toArray,List.map_cons,List.map_nil]);first|done|rfl|(simp only [List.length_drop,List.length_take];rfl)) ?_;(with_reducible refine (mapjnl_gen.calls a0_1 true _ A3.out).mono ?_);rintro e w' ⟨rfl,⟨nd,rfl⟩⟩;refine ⟨_,rfl,?_⟩))
     go_ret
     exact ⟨by first|rfl|(simp [errW_none,errW_some] <;> rfl)|(simp [*,errW_none,errW_some] <;> rfl),by repeat (first|(with_reducible first|exact HB.out|apply zlA|apply zlN|apply zlD|refine zlS ?_ GE606.out)|exact HB.out)⟩
   ·rw [if_neg c5] at H
    have c5b0:decide (0≤a0_2)=false:=decide_eq_false c5
    clear c5
    obtain rfl:=Option.some.inj H
    go_enter Try.func72,Try.ntmps72
    go_wp2_with (first|((with_reducible refine gate_dst (N:=1) rfl ?_);(try (refine gate_guard (by rfl) ?_;dsimp only));refine box_event ?hg (N:=1) ?hd (cs:=#[.int .i64 a0_0,.int .i64 a0_1,.int .i64 a0_2,.int .i64 a0_3,.slice A0_4 l0_4.length c0_4,.slice A0_5 l0_5.length c0_5,.slice A0_6 l0_6.length c0_6]) (t:=42) ?hr ?_;(case hd=>rfl);(case hg=>rfl);(case hr=>first|(go_simp;done)|(go_simp;rfl));intro gb606 hg w29 hbox hb;have n0_:=zm (below_step (by repeat (first|(with_reducible first|exact HB.out|apply zlA|apply zlN|apply zlD)|exact HB.out)) hb);have n1_:=zm (hbox);have n2_:=zm ((by rw [hg];exact (below_size (by repeat (first|(with_reducible first|exact HB.out|apply zlA|apply zlN|apply zlD)|exact HB.out))):w.heap.size≤gb606));have n3_:=zm ((by rw [hg];exact (below_size (by repeat (first|(with_reducible first|exact HB.out|apply zlA|apply zlN|apply zlD)|exact HB.out))):w.heap.size≤gb606));clear HB;have HB:=n0_;have BK606:=n1_;have GW606:=n2_;have GE606:=n3_;clear n0_ n1_ n2_ n3_;clear hb hbox hg;have hcz30_0:w29.cell? ⟨gb606,0,none⟩=some (.int .i64 a0_0):=(blk_cell BK606.out 0).trans rfl;have hcz30_1:w29.cell? ⟨gb606,1,none⟩=some (.int .i64 a0_1):=(blk_cell BK606.out 1).trans rfl;have hcz30_2:w29.cell? ⟨gb606,2,none⟩=some (.int .i64 a0_2):=(blk_cell BK606.out 2).trans rfl;have hcz30_3:w29.cell? ⟨gb606,3,none⟩=some (.int .i64 a0_3):=(blk_cell BK606.out 3).trans rfl;have hcz30_4:w29.cell? ⟨gb606,4,none⟩=some (.slice A0_4 l0_4.length c0_4):=(blk_cell BK606.out 4).trans rfl;have hcz30_5:w29.cell? ⟨gb606,5,none⟩=some (.slice A0_5 l0_5.length c0_5):=(blk_cell BK606.out 5).trans rfl;have hcz30_6:w29.cell? ⟨gb606,6,none⟩=some (.slice A0_6 l0_6.length c0_6):=(blk_cell BK606.out 6).trans rfl;have hfz30_0:=blk_frozen BK606.out 0;have hfz30_1:=blk_frozen BK606.out 1;have hfz30_2:=blk_frozen BK606.out 2;have hfz30_3:=blk_frozen BK606.out 3;have hfz30_4:=blk_frozen BK606.out 4;have hfz30_5:=blk_frozen BK606.out 5;have hfz30_6:=blk_frozen BK606.out 6)|((with_reducible refine gate_callee (f:=65) rfl ?_);refine goesL_ (some 9) rfl rfl Try.func65 (by kernel_rfl) rfl #[.int .i64 a0_1] rfl (by (try simp only [List.map_toArray,List.map_cons,List.map_nil]);first|done|rfl|(simp only [List.length_drop,List.length_take];rfl)) ?_;(with_reducible refine (mapjnl_gen.calls a0_1 true _ A3.out).mono ?_);rintro e w' ⟨rfl,⟨nd,rfl⟩⟩;refine ⟨_,rfl,?_⟩))
    go_ret
    exact ⟨by first|rfl|(simp [errW_none,errW_some] <;> rfl)|(simp [*,errW_none,errW_some] <;> rfl),by repeat (first|(with_reducible first|exact HB.out|apply zlA|apply zlN|apply zlD|refine zlS ?_ GE606.out)|exact HB.out)⟩
  ·replace c4:=Bool.eq_false_iff.mpr c4
   subst c4
   have H1:(some false)=some r:=by rw [if_neg (show ¬ (false=true) by decide)] at H;exact H
   clear H
   have H:=H1
   clear H1
   obtain rfl:=Option.some.inj H
   go_enter Try.func72,Try.ntmps72
   go_wp2_with (first|((with_reducible refine gate_dst (N:=1) rfl ?_);(try (refine gate_guard (by rfl) ?_;dsimp only));refine box_event ?hg (N:=1) ?hd (cs:=#[.int .i64 a0_0,.int .i64 a0_1,.int .i64 a0_2,.int .i64 a0_3,.slice A0_4 l0_4.length c0_4,.slice A0_5 l0_5.length c0_5,.slice A0_6 l0_6.length c0_6]) (t:=42) ?hr ?_;(case hd=>rfl);(case hg=>rfl);(case hr=>first|(go_simp;done)|(go_simp;rfl));intro gb606 hg w31 hbox hb;have n0_:=zm (below_step (by repeat (first|(with_reducible first|exact HB.out|apply zlA|apply zlN|apply zlD)|exact HB.out)) hb);have n1_:=zm (hbox);have n2_:=zm ((by rw [hg];exact (below_size (by repeat (first|(with_reducible first|exact HB.out|apply zlA|apply zlN|apply zlD)|exact HB.out))):w.heap.size≤gb606));have n3_:=zm ((by rw [hg];exact (below_size (by repeat (first|(with_reducible first|exact HB.out|apply zlA|apply zlN|apply zlD)|exact HB.out))):w.heap.size≤gb606));clear HB;have HB:=n0_;have BK606:=n1_;have GW606:=n2_;have GE606:=n3_;clear n0_ n1_ n2_ n3_;clear hb hbox hg;have hcz32_0:w31.cell? ⟨gb606,0,none⟩=some (.int .i64 a0_0):=(blk_cell BK606.out 0).trans rfl;have hcz32_1:w31.cell? ⟨gb606,1,none⟩=some (.int .i64 a0_1):=(blk_cell BK606.out 1).trans rfl;have hcz32_2:w31.cell? ⟨gb606,2,none⟩=some (.int .i64 a0_2):=(blk_cell BK606.out 2).trans rfl;have hcz32_3:w31.cell? ⟨gb606,3,none⟩=some (.int .i64 a0_3):=(blk_cell BK606.out 3).trans rfl;have hcz32_4:w31.cell? ⟨gb606,4,none⟩=some (.slice A0_4 l0_4.length c0_4):=(blk_cell BK606.out 4).trans rfl;have hcz32_5:w31.cell? ⟨gb606,5,none⟩=some (.slice A0_5 l0_5.length c0_5):=(blk_cell BK606.out 5).trans rfl;have hcz32_6:w31.cell? ⟨gb606,6,none⟩=some (.slice A0_6 l0_6.length c0_6):=(blk_cell BK606.out 6).trans rfl;have hfz32_0:=blk_frozen BK606.out 0;have hfz32_1:=blk_frozen BK606.out 1;have hfz32_2:=blk_frozen BK606.out 2;have hfz32_3:=blk_frozen BK606.out 3;have hfz32_4:=blk_frozen BK606.out 4;have hfz32_5:=blk_frozen BK606.out 5;have hfz32_6:=blk_frozen BK606.out 6)|((with_reducible refine gate_callee (f:=65) rfl ?_);refine goesL_ (some 9) rfl rfl Try.func65 (by kernel_rfl) rfl #[.int .i64 a0_1] rfl (by (try simp only [List.map_toArray,List.map_cons,List.map_nil]);first|done|rfl|(simp only [List.length_drop,List.length_take];rfl)) ?_;(with_reducible refine (mapjnl_gen.calls a0_1 false _ A3.out).mono ?_);rintro e w' ⟨rfl,⟨nd,rfl⟩⟩;refine ⟨_,rfl,?_⟩))
   go_ret
   exact ⟨by first|rfl|(simp [errW_none,errW_some] <;> rfl)|(simp [*,errW_none,errW_some] <;> rfl),by repeat (first|(with_reducible first|exact HB.out|apply zlA|apply zlN|apply zlD|refine zlS ?_ GE606.out)|exact HB.out)⟩
 ·rw [if_neg c2] at H
  have c2b0:(a0_0 == 1)=false:=beq_eq_false_iff_ne.mpr c2
  have c2b1:(a0_0 != 1)=true:=bne_iff_ne.mpr c2
  by_cases c33:a0_0=2
  ·rw [if_pos c33] at H
   have c33b0:(a0_0 == 2)=true:=beq_iff_eq.mpr c33
   have c33b1:(a0_0 != 2)=false:=bne_eq_false_iff_eq.mpr c33
   clear c33
   replace H:=Option.bind_eq_some_iff.mp H
   obtain ⟨t610,A340,H⟩:=H
   replace H:(if t610=true then (if a0_2=0 then (if a0_3=0 then (if (l0_4.length:Int)=0 then (if (l0_5.length:Int)=0 then (if (l0_6.length:Int)≤24 then ((api_MapRecord_68_83.f k l0_6).bind fun t611=>(some (!t611))) else (some false)) else (some false)) else (some false)) else (some false)) else (some false)) else (some false))=some r:=H
   have A34:=zm A340
   clear A340
   by_cases c35:t610=true
   ·subst c35
    have H1:(if a0_2=0 then (if a0_3=0 then (if (l0_4.length:Int)=0 then (if (l0_5.length:Int)=0 then (if (l0_6.length:Int)≤24 then ((api_MapRecord_68_83.f k l0_6).bind fun t611=>(some (!t611))) else (some false)) else (some false)) else (some false)) else (some false)) else (some false))=some r:=by rw [if_pos rfl] at H;exact H
    clear H
    have H:=H1
    clear H1
    by_cases c36:a0_2=0
    ·rw [if_pos c36] at H
     have c36b0:(a0_2 == 0)=true:=beq_iff_eq.mpr c36
     have c36b1:(a0_2 != 0)=false:=bne_eq_false_iff_eq.mpr c36
     clear c36
     by_cases c37:a0_3=0
     ·rw [if_pos c37] at H
      have c37b0:(a0_3 == 0)=true:=beq_iff_eq.mpr c37
      have c37b1:(a0_3 != 0)=false:=bne_eq_false_iff_eq.mpr c37
      clear c37
      by_cases c38:(l0_4.length:Int)=0
      ·rw [if_pos c38] at H
       have c38b0:((l0_4.length:Int) == 0)=true:=beq_iff_eq.mpr c38
       have c38b1:((l0_4.length:Int) != 0)=false:=bne_eq_false_iff_eq.mpr c38
       clear c38
       by_cases c39:(l0_5.length:Int)=0
       ·rw [if_pos c39] at H
        have c39b0:((l0_5.length:Int) == 0)=true:=beq_iff_eq.mpr c39
        have c39b1:((l0_5.length:Int) != 0)=false:=bne_eq_false_iff_eq.mpr c39
        clear c39
        by_cases c40:(l0_6.length:Int)≤24
        ·rw [if_pos c40] at H
         have c40b0:decide ((l0_6.length:Int)≤24)=true:=decide_eq_true c40
         have c40b1:decide (l0_6.length≤24)=true:=decide_eq_true (by omega)
         clear c40
         replace H:=Option.bind_eq_some_iff.mp H
         obtain ⟨t611,A410,H⟩:=H
         replace H:(some (!t611))=some r:=H
         have A41:=zm A410
         clear A410
         obtain rfl:=Option.some.inj H
         go_enter Try.func72,Try.ntmps72
         go_wp2_with (first|((with_reducible refine gate_dst (N:=1) rfl ?_);(try (refine gate_guard (by rfl) ?_;dsimp only));refine box_event ?hg (N:=1) ?hd (cs:=#[.int .i64 a0_0,.int .i64 a0_1,.int .i64 a0_2,.int .i64 a0_3,.slice A0_4 l0_4.length c0_4,.slice A0_5 l0_5.length c0_5,.slice A0_6 l0_6.length c0_6]) (t:=42) ?hr ?_;(case hd=>rfl);(case hg=>rfl);(case hr=>first|(go_simp;done)|(go_simp;rfl));intro gb606 hg w42 hbox hb;have n0_:=zm (below_step (by repeat (first|(with_reducible first|exact HB.out|apply zlA|apply zlN|apply zlD)|exact HB.out)) hb);have n1_:=zm (hbox);have n2_:=zm ((by rw [hg];exact (below_size (by repeat (first|(with_reducible first|exact HB.out|apply zlA|apply zlN|apply zlD)|exact HB.out))):w.heap.size≤gb606));have n3_:=zm ((by rw [hg];exact (below_size (by repeat (first|(with_reducible first|exact HB.out|apply zlA|apply zlN|apply zlD)|exact HB.out))):w.heap.size≤gb606));clear HB;have HB:=n0_;have BK606:=n1_;have GW606:=n2_;have GE606:=n3_;clear n0_ n1_ n2_ n3_;clear hb hbox hg;have hcz43_0:w42.cell? ⟨gb606,0,none⟩=some (.int .i64 a0_0):=(blk_cell BK606.out 0).trans rfl;have hcz43_1:w42.cell? ⟨gb606,1,none⟩=some (.int .i64 a0_1):=(blk_cell BK606.out 1).trans rfl;have hcz43_2:w42.cell? ⟨gb606,2,none⟩=some (.int .i64 a0_2):=(blk_cell BK606.out 2).trans rfl;have hcz43_3:w42.cell? ⟨gb606,3,none⟩=some (.int .i64 a0_3):=(blk_cell BK606.out 3).trans rfl;have hcz43_4:w42.cell? ⟨gb606,4,none⟩=some (.slice A0_4 l0_4.length c0_4):=(blk_cell BK606.out 4).trans rfl;have hcz43_5:w42.cell? ⟨gb606,5,none⟩=some (.slice A0_5 l0_5.length c0_5):=(blk_cell BK606.out 5).trans rfl;have hcz43_6:w42.cell? ⟨gb606,6,none⟩=some (.slice A0_6 l0_6.length c0_6):=(blk_cell BK606.out 6).trans rfl;have hfz43_0:=blk_frozen BK606.out 0;have hfz43_1:=blk_frozen BK606.out 1;have hfz43_2:=blk_frozen BK606.out 2;have hfz43_3:=blk_frozen BK606.out 3;have hfz43_4:=blk_frozen BK606.out 4;have hfz43_5:=blk_frozen BK606.out 5;have hfz43_6:=blk_frozen BK606.out 6)|((with_reducible refine gate_callee (f:=65) rfl ?_);refine goesL_ (some 62) rfl rfl Try.func65 (by kernel_rfl) rfl #[.int .i64 a0_1] rfl (by (try simp only [List.map_toArray,List.map_cons,List.map_nil]);first|done|rfl|(simp only [List.length_drop,List.length_take];rfl)) ?_;(with_reducible refine (mapjnl_gen.calls a0_1 true _ A34.out).mono ?_);rintro e w' ⟨rfl,⟨nd,rfl⟩⟩;refine ⟨_,rfl,?_⟩)|(go_at_call 68;(with_reducible refine (api_MapRecord_68_83.calls k _ _ l0_6  t611 _ ?side1 ?side2 A41.out).mono ?_);(case side1=>repeat (first|exact (Kd.C_below HR0_6.out (by repeat (first|(with_reducible first|exact HB.out|apply zlA|apply zlN|apply zlD|refine zlS ?_ GE606.out)|exact HB.out)))|(with_reducible refine Kd.C_alloc ?_ _)|(with_reducible refine Kd.C_drewN ?_ _)|(with_reducible refine Kd.C_drew ?_)));(case side2=>exact HC0_6.out);rintro e w44 ⟨rfl,hb⟩;have n0_:=zm (zbB (g:=gb606) (o:=.cells #[.int .i64 a0_0,.int .i64 a0_1,.int .i64 a0_2,.int .i64 a0_3,.slice A0_4 l0_4.length c0_4,.slice A0_5 l0_5.length c0_5,.slice A0_6 l0_6.length c0_6] 42 (0,0)) (by (with_reducible repeat (first|refine zbN ?_ _|refine zbD ?_|refine zbA ?_ _));exact BK606.out) hb);have n1_:=zm (below_step (by repeat (first|(with_reducible first|exact HB.out|apply zlA|apply zlN|apply zlD|refine zlS ?_ GE606.out)|exact HB.out)) hb);clear BK606 HB;have BK606:=n0_;have HB:=n1_;clear n0_ n1_;(try clear hb);(try clear hb2);(try clear hk);(try clear hi)))
         go_ret
         exact ⟨by first|rfl|(simp [errW_none,errW_some] <;> rfl)|(simp [*,errW_none,errW_some] <;> rfl),by repeat (first|(with_reducible first|exact HB.out|apply zlA|apply zlN|apply zlD|refine zlS ?_ GE606.out)|exact HB.out)⟩
        ·rw [if_neg c40] at H
         have c40b0:decide ((l0_6.length:Int)≤24)=false:=decide_eq_false c40
         have c40b1:decide (l0_6.length≤24)=false:=decide_eq_false (by omega)
         clear c40
         obtain rfl:=Option.some.inj H
         go_enter Try.func72,Try.ntmps72
         go_wp2_with (first|((with_reducible refine gate_dst (N:=1) rfl ?_);(try (refine gate_guard (by rfl) ?_;dsimp only));refine box_event ?hg (N:=1) ?hd (cs:=#[.int .i64 a0_0,.int .i64 a0_1,.int .i64 a0_2,.int .i64 a0_3,.slice A0_4 l0_4.length c0_4,.slice A0_5 l0_5.length c0_5,.slice A0_6 l0_6.length c0_6]) (t:=42) ?hr ?_;(case hd=>rfl);(case hg=>rfl);(case hr=>first|(go_simp;done)|(go_simp;rfl));intro gb606 hg w45 hbox hb;have n0_:=zm (below_step (by repeat (first|(with_reducible first|exact HB.out|apply zlA|apply zlN|apply zlD)|exact HB.out)) hb);have n1_:=zm (hbox);have n2_:=zm ((by rw [hg];exact (below_size (by repeat (first|(with_reducible first|exact HB.out|apply zlA|apply zlN|apply zlD)|exact HB.out))):w.heap.size≤gb606));have n3_:=zm ((by rw [hg];exact (below_size (by repeat (first|(with_reducible first|exact HB.out|apply zlA|apply zlN|apply zlD)|exact HB.out))):w.heap.size≤gb606));clear HB;have HB:=n0_;have BK606:=n1_;have GW606:=n2_;have GE606:=n3_;clear n0_ n1_ n2_ n3_;clear hb hbox hg;have hcz46_0:w45.cell? ⟨gb606,0,none⟩=some (.int .i64 a0_0):=(blk_cell BK606.out 0).trans rfl;have hcz46_1:w45.cell? ⟨gb606,1,none⟩=some (.int .i64 a0_1):=(blk_cell BK606.out 1).trans rfl;have hcz46_2:w45.cell? ⟨gb606,2,none⟩=some (.int .i64 a0_2):=(blk_cell BK606.out 2).trans rfl;have hcz46_3:w45.cell? ⟨gb606,3,none⟩=some (.int .i64 a0_3):=(blk_cell BK606.out 3).trans rfl;have hcz46_4:w45.cell? ⟨gb606,4,none⟩=some (.slice A0_4 l0_4.length c0_4):=(blk_cell BK606.out 4).trans rfl;have hcz46_5:w45.cell? ⟨gb606,5,none⟩=some (.slice A0_5 l0_5.length c0_5):=(blk_cell BK606.out 5).trans rfl;have hcz46_6:w45.cell? ⟨gb606,6,none⟩=some (.slice A0_6 l0_6.length c0_6):=(blk_cell BK606.out 6).trans rfl;have hfz46_0:=blk_frozen BK606.out 0;have hfz46_1:=blk_frozen BK606.out 1;have hfz46_2:=blk_frozen BK606.out 2;have hfz46_3:=blk_frozen BK606.out 3;have hfz46_4:=blk_frozen BK606.out 4;have hfz46_5:=blk_frozen BK606.out 5;have hfz46_6:=blk_frozen BK606.out 6)|((with_reducible refine gate_callee (f:=65) rfl ?_);refine goesL_ (some 62) rfl rfl Try.func65 (by kernel_rfl) rfl #[.int .i64 a0_1] rfl (by (try simp only [List.map_toArray,List.map_cons,List.map_nil]);first|done|rfl|(simp only [List.length_drop,List.length_take];rfl)) ?_;(with_reducible refine (mapjnl_gen.calls a0_1 true _ A34.out).mono ?_);rintro e w' ⟨rfl,⟨nd,rfl⟩⟩;refine ⟨_,rfl,?_⟩))
         go_ret
         exact ⟨by first|rfl|(simp [errW_none,errW_some] <;> rfl)|(simp [*,errW_none,errW_some] <;> rfl),by repeat (first|(with_reducible first|exact HB.out|apply zlA|apply zlN|apply zlD|refine zlS ?_ GE606.out)|exact HB.out)⟩
       ·rw [if_neg c39] at H
        have c39b0:((l0_5.length:Int) == 0)=false:=beq_eq_false_iff_ne.mpr c39
        have c39b1:((l0_5.length:Int) != 0)=true:=bne_iff_ne.mpr c39
        have c39b2:¬ (l0_5=[]):=fun h_=>c39 (by rw [h_];rfl)
        obtain rfl:=Option.some.inj H
        go_enter Try.func72,Try.ntmps72
        go_wp2_with (first|((with_reducible refine gate_dst (N:=1) rfl ?_);(try (refine gate_guard (by rfl) ?_;dsimp only));refine box_event ?hg (N:=1) ?hd (cs:=#[.int .i64 a0_0,.int .i64 a0_1,.int .i64 a0_2,.int .i64 a0_3,.slice A0_4 l0_4.length c0_4,.slice A0_5 l0_5.length c0_5,.slice A0_6 l0_6.length c0_6]) (t:=42) ?hr ?_;(case hd=>rfl);(case hg=>rfl);(case hr=>first|(go_simp;done)|(go_simp;rfl));intro gb606 hg w47 hbox hb;have n0_:=zm (below_step (by repeat (first|(with_reducible first|exact HB.out|apply zlA|apply zlN|apply zlD)|exact HB.out)) hb);have n1_:=zm (hbox);have n2_:=zm ((by rw [hg];exact (below_size (by repeat (first|(with_reducible first|exact HB.out|apply zlA|apply zlN|apply zlD)|exact HB.out))):w.heap.size≤gb606));have n3_:=zm ((by rw [hg];exact (below_size (by repeat (first|(with_reducible first|exact HB.out|apply zlA|apply zlN|apply zlD)|exact HB.out))):w.heap.size≤gb606));clear HB;have HB:=n0_;have BK606:=n1_;have GW606:=n2_;have GE606:=n3_;clear n0_ n1_ n2_ n3_;clear hb hbox hg;have hcz48_0:w47.cell? ⟨gb606,0,none⟩=some (.int .i64 a0_0):=(blk_cell BK606.out 0).trans rfl;have hcz48_1:w47.cell? ⟨gb606,1,none⟩=some (.int .i64 a0_1):=(blk_cell BK606.out 1).trans rfl;have hcz48_2:w47.cell? ⟨gb606,2,none⟩=some (.int .i64 a0_2):=(blk_cell BK606.out 2).trans rfl;have hcz48_3:w47.cell? ⟨gb606,3,none⟩=some (.int .i64 a0_3):=(blk_cell BK606.out 3).trans rfl;have hcz48_4:w47.cell? ⟨gb606,4,none⟩=some (.slice A0_4 l0_4.length c0_4):=(blk_cell BK606.out 4).trans rfl;have hcz48_5:w47.cell? ⟨gb606,5,none⟩=some (.slice A0_5 l0_5.length c0_5):=(blk_cell BK606.out 5).trans rfl;have hcz48_6:w47.cell? ⟨gb606,6,none⟩=some (.slice A0_6 l0_6.length c0_6):=(blk_cell BK606.out 6).trans rfl;have hfz48_0:=blk_frozen BK606.out 0;have hfz48_1:=blk_frozen BK606.out 1;have hfz48_2:=blk_frozen BK606.out 2;have hfz48_3:=blk_frozen BK606.out 3;have hfz48_4:=blk_frozen BK606.out 4;have hfz48_5:=blk_frozen BK606.out 5;have hfz48_6:=blk_frozen BK606.out 6)|((with_reducible refine gate_callee (f:=65) rfl ?_);refine goesL_ (some 62) rfl rfl Try.func65 (by kernel_rfl) rfl #[.int .i64 a0_1] rfl (by (try simp only [List.map_toArray,List.map_cons,List.map_nil]);first|done|rfl|(simp only [List.length_drop,List.length_take];rfl)) ?_;(with_reducible refine (mapjnl_gen.calls a0_1 true _ A34.out).mono ?_);rintro e w' ⟨rfl,⟨nd,rfl⟩⟩;refine ⟨_,rfl,?_⟩))
        go_ret
        exact ⟨by first|rfl|(simp [errW_none,errW_some] <;> rfl)|(simp [*,errW_none,errW_some] <;> rfl),by repeat (first|(with_reducible first|exact HB.out|apply zlA|apply zlN|apply zlD|refine zlS ?_ GE606.out)|exact HB.out)⟩
      ·rw [if_neg c38] at H
       have c38b0:((l0_4.length:Int) == 0)=false:=beq_eq_false_iff_ne.mpr c38
       have c38b1:((l0_4.length:Int) != 0)=true:=bne_iff_ne.mpr c38
       have c38b2:¬ (l0_4=[]):=fun h_=>c38 (by rw [h_];rfl)
       obtain rfl:=Option.some.inj H
       go_enter Try.func72,Try.ntmps72
       go_wp2_with (first|((with_reducible refine gate_dst (N:=1) rfl ?_);(try (refine gate_guard (by rfl) ?_;dsimp only));refine box_event ?hg (N:=1) ?hd (cs:=#[.int .i64 a0_0,.int .i64 a0_1,.int .i64 a0_2,.int .i64 a0_3,.slice A0_4 l0_4.length c0_4,.slice A0_5 l0_5.length c0_5,.slice A0_6 l0_6.length c0_6]) (t:=42) ?hr ?_;(case hd=>rfl);(case hg=>rfl);(case hr=>first|(go_simp;done)|(go_simp;rfl));intro gb606 hg w49 hbox hb;have n0_:=zm (below_step (by repeat (first|(with_reducible first|exact HB.out|apply zlA|apply zlN|apply zlD)|exact HB.out)) hb);have n1_:=zm (hbox);have n2_:=zm ((by rw [hg];exact (below_size (by repeat (first|(with_reducible first|exact HB.out|apply zlA|apply zlN|apply zlD)|exact HB.out))):w.heap.size≤gb606));have n3_:=zm ((by rw [hg];exact (below_size (by repeat (first|(with_reducible first|exact HB.out|apply zlA|apply zlN|apply zlD)|exact HB.out))):w.heap.size≤gb606));clear HB;have HB:=n0_;have BK606:=n1_;have GW606:=n2_;have GE606:=n3_;clear n0_ n1_ n2_ n3_;clear hb hbox hg;have hcz50_0:w49.cell? ⟨gb606,0,none⟩=some (.int .i64 a0_0):=(blk_cell BK606.out 0).trans rfl;have hcz50_1:w49.cell? ⟨gb606,1,none⟩=some (.int .i64 a0_1):=(blk_cell BK606.out 1).trans rfl;have hcz50_2:w49.cell? ⟨gb606,2,none⟩=some (.int .i64 a0_2):=(blk_cell BK606.out 2).trans rfl;have hcz50_3:w49.cell? ⟨gb606,3,none⟩=some (.int .i64 a0_3):=(blk_cell BK606.out 3).trans rfl;have hcz50_4:w49.cell? ⟨gb606,4,none⟩=some (.slice A0_4 l0_4.length c0_4):=(blk_cell BK606.out 4).trans rfl;have hcz50_5:w49.cell? ⟨gb606,5,none⟩=some (.slice A0_5 l0_5.length c0_5):=(blk_cell BK606.out 5).trans rfl;have hcz50_6:w49.cell? ⟨gb606,6,none⟩=some (.slice A0_6 l0_6.length c0_6):=(blk_cell BK606.out 6).trans rfl;have hfz50_0:=blk_frozen BK606.out 0;have hfz50_1:=blk_frozen BK606.out 1;have hfz50_2:=blk_frozen BK606.out 2;have hfz50_3:=blk_frozen BK606.out 3;have hfz50_4:=blk_frozen BK606.out 4;have hfz50_5:=blk_frozen BK606.out 5;have hfz50_6:=blk_frozen BK606.out 6)|((with_reducible refine gate_callee (f:=65) rfl ?_);refine goesL_ (some 62) rfl rfl Try.func65 (by kernel_rfl) rfl #[.int .i64 a0_1] rfl (by (try simp only [List.map_toArray,List.map_cons,List.map_nil]);first|done|rfl|(simp only [List.length_drop,List.length_take];rfl)) ?_;(with_reducible refine (mapjnl_gen.calls a0_1 true _ A34.out).mono ?_);rintro e w' ⟨rfl,⟨nd,rfl⟩⟩;refine ⟨_,rfl,?_⟩))
       go_ret
       exact ⟨by first|rfl|(simp [errW_none,errW_some] <;> rfl)|(simp [*,errW_none,errW_some] <;> rfl),by repeat (first|(with_reducible first|exact HB.out|apply zlA|apply zlN|apply zlD|refine zlS ?_ GE606.out)|exact HB.out)⟩
     ·rw [if_neg c37] at H
      have c37b0:(a0_3 == 0)=false:=beq_eq_false_iff_ne.mpr c37
      have c37b1:(a0_3 != 0)=true:=bne_iff_ne.mpr c37
      obtain rfl:=Option.some.inj H
      go_enter Try.func72,Try.ntmps72
      go_wp2_with (first|((with_reducible refine gate_dst (N:=1) rfl ?_);(try (refine gate_guard (by rfl) ?_;dsimp only));refine box_event ?hg (N:=1) ?hd (cs:=#[.int .i64 a0_0,.int .i64 a0_1,.int .i64 a0_2,.int .i64 a0_3,.slice A0_4 l0_4.length c0_4,.slice A0_5 l0_5.length c0_5,.slice A0_6 l0_6.length c0_6]) (t:=42) ?hr ?_;(case hd=>rfl);(case hg=>rfl);(case hr=>first|(go_simp;done)|(go_simp;rfl));intro gb606 hg w51 hbox hb;have n0_:=zm (below_step (by repeat (first|(with_reducible first|exact HB.out|apply zlA|apply zlN|apply zlD)|exact HB.out)) hb);have n1_:=zm (hbox);have n2_:=zm ((by rw [hg];exact (below_size (by repeat (first|(with_reducible first|exact HB.out|apply zlA|apply zlN|apply zlD)|exact HB.out))):w.heap.size≤gb606));have n3_:=zm ((by rw [hg];exact (below_size (by repeat (first|(with_reducible first|exact HB.out|apply zlA|apply zlN|apply zlD)|exact HB.out))):w.heap.size≤gb606));clear HB;have HB:=n0_;have BK606:=n1_;have GW606:=n2_;have GE606:=n3_;clear n0_ n1_ n2_ n3_;clear hb hbox hg;have hcz52_0:w51.cell? ⟨gb606,0,none⟩=some (.int .i64 a0_0):=(blk_cell BK606.out 0).trans rfl;have hcz52_1:w51.cell? ⟨gb606,1,none⟩=some (.int .i64 a0_1):=(blk_cell BK606.out 1).trans rfl;have hcz52_2:w51.cell? ⟨gb606,2,none⟩=some (.int .i64 a0_2):=(blk_cell BK606.out 2).trans rfl;have hcz52_3:w51.cell? ⟨gb606,3,none⟩=some (.int .i64 a0_3):=(blk_cell BK606.out 3).trans rfl;have hcz52_4:w51.cell? ⟨gb606,4,none⟩=some (.slice A0_4 l0_4.length c0_4):=(blk_cell BK606.out 4).trans rfl;have hcz52_5:w51.cell? ⟨gb606,5,none⟩=some (.slice A0_5 l0_5.length c0_5):=(blk_cell BK606.out 5).trans rfl;have hcz52_6:w51.cell? ⟨gb606,6,none⟩=some (.slice A0_6 l0_6.length c0_6):=(blk_cell BK606.out 6).trans rfl;have hfz52_0:=blk_frozen BK606.out 0;have hfz52_1:=blk_frozen BK606.out 1;have hfz52_2:=blk_frozen BK606.out 2;have hfz52_3:=blk_frozen BK606.out 3;have hfz52_4:=blk_frozen BK606.out 4;have hfz52_5:=blk_frozen BK606.out 5;have hfz52_6:=blk_frozen BK606.out 6)|((with_reducible refine gate_callee (f:=65) rfl ?_);refine goesL_ (some 62) rfl rfl Try.func65 (by kernel_rfl) rfl #[.int .i64 a0_1] rfl (by (try simp only [List.map_toArray,List.map_cons,List.map_nil]);first|done|rfl|(simp only [List.length_drop,List.length_take];rfl)) ?_;(with_reducible refine (mapjnl_gen.calls a0_1 true _ A34.out).mono ?_);rintro e w' ⟨rfl,⟨nd,rfl⟩⟩;refine ⟨_,rfl,?_⟩))
      go_ret
      exact ⟨by first|rfl|(simp [errW_none,errW_some] <;> rfl)|(simp [*,errW_none,errW_some] <;> rfl),by repeat (first|(with_reducible first|exact HB.out|apply zlA|apply zlN|apply zlD|refine zlS ?_ GE606.out)|exact HB.out)⟩
    ·rw [if_neg c36] at H
     have c36b0:(a0_2 == 0)=false:=beq_eq_false_iff_ne.mpr c36
     have c36b1:(a0_2 != 0)=true:=bne_iff_ne.mpr c36
     obtain rfl:=Option.some.inj H
     go_enter Try.func72,Try.ntmps72
     go_wp2_with (first|((with_reducible refine gate_dst (N:=1) rfl ?_);(try (refine gate_guard (by rfl) ?_;dsimp only));refine box_event ?hg (N:=1) ?hd (cs:=#[.int .i64 a0_0,.int .i64 a0_1,.int .i64 a0_2,.int .i64 a0_3,.slice A0_4 l0_4.length c0_4,.slice A0_5 l0_5.length c0_5,.slice A0_6 l0_6.length c0_6]) (t:=42) ?hr ?_;(case hd=>rfl);(case hg=>rfl);(case hr=>first|(go_simp;done)|(go_simp;rfl));intro gb606 hg w53 hbox hb;have n0_:=zm (below_step (by repeat (first|(with_reducible first|exact HB.out|apply zlA|apply zlN|apply zlD)|exact HB.out)) hb);have n1_:=zm (hbox);have n2_:=zm ((by rw [hg];exact (below_size (by repeat (first|(with_reducible first|exact HB.out|apply zlA|apply zlN|apply zlD)|exact HB.out))):w.heap.size≤gb606));have n3_:=zm ((by rw [hg];exact (below_size (by repeat (first|(with_reducible first|exact HB.out|apply zlA|apply zlN|apply zlD)|exact HB.out))):w.heap.size≤gb606));clear HB;have HB:=n0_;have BK606:=n1_;have GW606:=n2_;have GE606:=n3_;clear n0_ n1_ n2_ n3_;clear hb hbox hg;have hcz54_0:w53.cell? ⟨gb606,0,none⟩=some (.int .i64 a0_0):=(blk_cell BK606.out 0).trans rfl;have hcz54_1:w53.cell? ⟨gb606,1,none⟩=some (.int .i64 a0_1):=(blk_cell BK606.out 1).trans rfl;have hcz54_2:w53.cell? ⟨gb606,2,none⟩=some (.int .i64 a0_2):=(blk_cell BK606.out 2).trans rfl;have hcz54_3:w53.cell? ⟨gb606,3,none⟩=some (.int .i64 a0_3):=(blk_cell BK606.out 3).trans rfl;have hcz54_4:w53.cell? ⟨gb606,4,none⟩=some (.slice A0_4 l0_4.length c0_4):=(blk_cell BK606.out 4).trans rfl;have hcz54_5:w53.cell? ⟨gb606,5,none⟩=some (.slice A0_5 l0_5.length c0_5):=(blk_cell BK606.out 5).trans rfl;have hcz54_6:w53.cell? ⟨gb606,6,none⟩=some (.slice A0_6 l0_6.length c0_6):=(blk_cell BK606.out 6).trans rfl;have hfz54_0:=blk_frozen BK606.out 0;have hfz54_1:=blk_frozen BK606.out 1;have hfz54_2:=blk_frozen BK606.out 2;have hfz54_3:=blk_frozen BK606.out 3;have hfz54_4:=blk_frozen BK606.out 4;have hfz54_5:=blk_frozen BK606.out 5;have hfz54_6:=blk_frozen BK606.out 6)|((with_reducible refine gate_callee (f:=65) rfl ?_);refine goesL_ (some 62) rfl rfl Try.func65 (by kernel_rfl) rfl #[.int .i64 a0_1] rfl (by (try simp only [List.map_toArray,List.map_cons,List.map_nil]);first|done|rfl|(simp only [List.length_drop,List.length_take];rfl)) ?_;(with_reducible refine (mapjnl_gen.calls a0_1 true _ A34.out).mono ?_);rintro e w' ⟨rfl,⟨nd,rfl⟩⟩;refine ⟨_,rfl,?_⟩))
     go_ret
     exact ⟨by first|rfl|(simp [errW_none,errW_some] <;> rfl)|(simp [*,errW_none,errW_some] <;> rfl),by repeat (first|(with_reducible first|exact HB.out|apply zlA|apply zlN|apply zlD|refine zlS ?_ GE606.out)|exact HB.out)⟩
   ·replace c35:=Bool.eq_false_iff.mpr c35
    subst c35
    have H1:(some false)=some r:=by rw [if_neg (show ¬ (false=true) by decide)] at H;exact H
    clear H
    have H:=H1
    clear H1
    obtain rfl:=Option.some.inj H
    go_enter Try.func72,Try.ntmps72
    go_wp2_with (first|((with_reducible refine gate_dst (N:=1) rfl ?_);(try (refine gate_guard (by rfl) ?_;dsimp only));refine box_event ?hg (N:=1) ?hd (cs:=#[.int .i64 a0_0,.int .i64 a0_1,.int .i64 a0_2,.int .i64 a0_3,.slice A0_4 l0_4.length c0_4,.slice A0_5 l0_5.length c0_5,.slice A0_6 l0_6.length c0_6]) (t:=42) ?hr ?_;(case hd=>rfl);(case hg=>rfl);(case hr=>first|(go_simp;done)|(go_simp;rfl));intro gb606 hg w55 hbox hb;have n0_:=zm (below_step (by repeat (first|(with_reducible first|exact HB.out|apply zlA|apply zlN|apply zlD)|exact HB.out)) hb);have n1_:=zm (hbox);have n2_:=zm ((by rw [hg];exact (below_size (by repeat (first|(with_reducible first|exact HB.out|apply zlA|apply zlN|apply zlD)|exact HB.out))):w.heap.size≤gb606));have n3_:=zm ((by rw [hg];exact (below_size (by repeat (first|(with_reducible first|exact HB.out|apply zlA|apply zlN|apply zlD)|exact HB.out))):w.heap.size≤gb606));clear HB;have HB:=n0_;have BK606:=n1_;have GW606:=n2_;have GE606:=n3_;clear n0_ n1_ n2_ n3_;clear hb hbox hg;have hcz56_0:w55.cell? ⟨gb606,0,none⟩=some (.int .i64 a0_0):=(blk_cell BK606.out 0).trans rfl;have hcz56_1:w55.cell? ⟨gb606,1,none⟩=some (.int .i64 a0_1):=(blk_cell BK606.out 1).trans rfl;have hcz56_2:w55.cell? ⟨gb606,2,none⟩=some (.int .i64 a0_2):=(blk_cell BK606.out 2).trans rfl;have hcz56_3:w55.cell? ⟨gb606,3,none⟩=some (.int .i64 a0_3):=(blk_cell BK606.out 3).trans rfl;have hcz56_4:w55.cell? ⟨gb606,4,none⟩=some (.slice A0_4 l0_4.length c0_4):=(blk_cell BK606.out 4).trans rfl;have hcz56_5:w55.cell? ⟨gb606,5,none⟩=some (.slice A0_5 l0_5.length c0_5):=(blk_cell BK606.out 5).trans rfl;have hcz56_6:w55.cell? ⟨gb606,6,none⟩=some (.slice A0_6 l0_6.length c0_6):=(blk_cell BK606.out 6).trans rfl;have hfz56_0:=blk_frozen BK606.out 0;have hfz56_1:=blk_frozen BK606.out 1;have hfz56_2:=blk_frozen BK606.out 2;have hfz56_3:=blk_frozen BK606.out 3;have hfz56_4:=blk_frozen BK606.out 4;have hfz56_5:=blk_frozen BK606.out 5;have hfz56_6:=blk_frozen BK606.out 6)|((with_reducible refine gate_callee (f:=65) rfl ?_);refine goesL_ (some 62) rfl rfl Try.func65 (by kernel_rfl) rfl #[.int .i64 a0_1] rfl (by (try simp only [List.map_toArray,List.map_cons,List.map_nil]);first|done|rfl|(simp only [List.length_drop,List.length_take];rfl)) ?_;(with_reducible refine (mapjnl_gen.calls a0_1 false _ A34.out).mono ?_);rintro e w' ⟨rfl,⟨nd,rfl⟩⟩;refine ⟨_,rfl,?_⟩))
    go_ret
    exact ⟨by first|rfl|(simp [errW_none,errW_some] <;> rfl)|(simp [*,errW_none,errW_some] <;> rfl),by repeat (first|(with_reducible first|exact HB.out|apply zlA|apply zlN|apply zlD|refine zlS ?_ GE606.out)|exact HB.out)⟩
  ·rw [if_neg c33] at H
   have c33b0:(a0_0 == 2)=false:=beq_eq_false_iff_ne.mpr c33
   have c33b1:(a0_0 != 2)=true:=bne_iff_ne.mpr c33
   obtain rfl:=Option.some.inj H
   go_enter Try.func72,Try.ntmps72
   go_wp2_with (first|((with_reducible refine gate_dst (N:=1) rfl ?_);(try (refine gate_guard (by rfl) ?_;dsimp only));refine box_event ?hg (N:=1) ?hd (cs:=#[.int .i64 a0_0,.int .i64 a0_1,.int .i64 a0_2,.int .i64 a0_3,.slice A0_4 l0_4.length c0_4,.slice A0_5 l0_5.length c0_5,.slice A0_6 l0_6.length c0_6]) (t:=42) ?hr ?_;(case hd=>rfl);(case hg=>rfl);(case hr=>first|(go_simp;done)|(go_simp;rfl));intro gb606 hg w57 hbox hb;have n0_:=zm (below_step (by repeat (first|(with_reducible first|exact HB.out|apply zlA|apply zlN|apply zlD)|exact HB.out)) hb);have n1_:=zm (hbox);have n2_:=zm ((by rw [hg];exact (below_size (by repeat (first|(with_reducible first|exact HB.out|apply zlA|apply zlN|apply zlD)|exact HB.out))):w.heap.size≤gb606));have n3_:=zm ((by rw [hg];exact (below_size (by repeat (first|(with_reducible first|exact HB.out|apply zlA|apply zlN|apply zlD)|exact HB.out))):w.heap.size≤gb606));clear HB;have HB:=n0_;have BK606:=n1_;have GW606:=n2_;have GE606:=n3_;clear n0_ n1_ n2_ n3_;clear hb hbox hg;have hcz58_0:w57.cell? ⟨gb606,0,none⟩=some (.int .i64 a0_0):=(blk_cell BK606.out 0).trans rfl;have hcz58_1:w57.cell? ⟨gb606,1,none⟩=some (.int .i64 a0_1):=(blk_cell BK606.out 1).trans rfl;have hcz58_2:w57.cell? ⟨gb606,2,none⟩=some (.int .i64 a0_2):=(blk_cell BK606.out 2).trans rfl;have hcz58_3:w57.cell? ⟨gb606,3,none⟩=some (.int .i64 a0_3):=(blk_cell BK606.out 3).trans rfl;have hcz58_4:w57.cell? ⟨gb606,4,none⟩=some (.slice A0_4 l0_4.length c0_4):=(blk_cell BK606.out 4).trans rfl;have hcz58_5:w57.cell? ⟨gb606,5,none⟩=some (.slice A0_5 l0_5.length c0_5):=(blk_cell BK606.out 5).trans rfl;have hcz58_6:w57.cell? ⟨gb606,6,none⟩=some (.slice A0_6 l0_6.length c0_6):=(blk_cell BK606.out 6).trans rfl;have hfz58_0:=blk_frozen BK606.out 0;have hfz58_1:=blk_frozen BK606.out 1;have hfz58_2:=blk_frozen BK606.out 2;have hfz58_3:=blk_frozen BK606.out 3;have hfz58_4:=blk_frozen BK606.out 4;have hfz58_5:=blk_frozen BK606.out 5;have hfz58_6:=blk_frozen BK606.out 6))
   go_ret
   exact ⟨by first|rfl|(simp [errW_none,errW_some] <;> rfl)|(simp [*,errW_none,errW_some] <;> rfl),by repeat (first|(with_reducible first|exact HB.out|apply zlA|apply zlN|apply zlD|refine zlS ?_ GE606.out)|exact HB.out)⟩
end Go.Proofs.Ytkhbmgclklmimaa.Print
end
section
namespace Go.Proofs.Ytkhbmgclklmimaa.Print
open Go.RowKit Go.Proofs.YtkhbmgclklmimaaW.PrintWords Go.Proofs.YtkhbmgclklmimaaW.PrintLast Go.Proofs.YtkhbmgclklmimaaW.PrintMore
attribute [local go_sem] max2_int min2_int max_two min_two max_three min_three max_four min_four   -- for this text's walks alone
attribute [local go_sem ↓] Go.Proofs.Ytkhbmgclklmimaa.Sem.isSome_setCell
attribute [local go_sem] Go.Instr.field Go.asAgg
set_option linter.unusedVariables false
set_option linter.unusedSimpArgs false
def mapjnl_num.l0:Nat → List Int → Int → Int → Option (List Int)
 | 0,_,_,_=>none
 | k + 1,x0,x1,x7=>if x7 ≥ 0 then (if 0≤(wrap64 (8 * x7)) then (if x0.length < 140737488355328 then (mapjnl_num.l0 k (x0 ++ [(shr .i64 x1 (wrap64 (8 * x7))) % 256]) x1 (wrap64 (x7 - 1))) else (none)) else (none)) else (some x0)
def mapjnl_num.f (k:Nat) (l0:List Int) (a1:Int) (a2:Int):Option (List Int):=mapjnl_num.l0 k l0 a1 (wrap64 (a2 - 1))
set_option maxHeartbeats 8000000 in
set_option maxRecDepth 100000 in
theorem mapjnl_num.calls (k:Nat) (P0_:Nat → Prop) (u9000_:Value) (l0:List Int) (a1:Int) (a2:Int) (r:List Int) (w0 w:World) (hB:Below w0.heap.size w0 w) (ho0:Kd.R (Kd.int .u8) 5 w w0.heap.size P0_ u9000_ l0) (h:mapjnl_num.f k l0 a1 a2=some r) :
  Calls Try.prog 76 #[u9000_,.int .i64 a1,.int .i64 a2] w fun e w'=>∃ v0_:Value,e=.returned (v0_)∧Kd.R (Kd.int .u8) 5 w' w0.heap.size (fun k_=>(P0_ k_∨w.heap.size≤k_)) v0_ r∧Below w0.heap.size w0 w'∧Kept w w' (fun k_=>P0_ k_):=by
 have HO0:=zm (show Kd.R (Kd.int .u8) 5 w w0.heap.size (fun k_=>(P0_ k_∨w.heap.size≤k_)) u9000_ l0 from Kd.R_mono ho0 (fun k_ hk=>(.inl hk)))
 have HK:=zm (Kept.refl w (fun k_=>P0_ k_))
 have HW0:=zm hB.size
 have HB:=zm hB
 clear hB
 have H:(mapjnl_num.l0 k l0 a1 (wrap64 (a2 - 1)))=some r:=h
 clear h
 have H':=zm H
 clear H
 go_enter Try.func76,Try.ntmps76
 go_wp2
 go_loopg [0,7] k (fun kq v0 v7 w'=>∃ (x0_1:List Int) (x7_1:Int),v7=.int .i64 x7_1∧Aside0 (mapjnl_num.l0 kq x0_1 a1 x7_1=some r)∧Aside0 (kq≤k)∧Aside0 (Kd.R (Kd.int .u8) 5 w' w0.heap.size (fun k_=>(P0_ k_∨w.heap.size≤k_)) v0 x0_1)∧Aside0 (Kept w w' (fun k_=>P0_ k_))∧Aside0 (Below w0.heap.size w0 w'))
 case atStart=>exact ⟨(l0),(wrap64 (a2 - 1)),(by first|rfl|(simp;done)|(simp [*];done)),H',⟨Nat.le_refl _⟩,⟨by (with_reducible repeat (first|apply zrA|apply zrN|apply zrD));exact HO0.out⟩,⟨by repeat (first|(with_reducible first|exact HK.out|apply Kept.alloc|apply Kept.drewN|apply Kept.drew)|exact HK.out)⟩,⟨by repeat (first|(with_reducible first|exact HB.out|apply zlA|apply zlN|apply zlD)|exact HB.out)⟩⟩
 case round =>
  clear H'
  try clear p2
  obtain ⟨x0_1,x7_1,rfl,HA,HK1,HO_0,HK,HB⟩:=hrel
  cases gk with
  | zero=>exact absurd HA.out (by simp [mapjnl_num.l0])
  | succ k1 =>
   have H:=HA.out
   clear HA
   simp only [mapjnl_num.l0] at H
   by_cases c4:x7_1 ≥ 0
   ·rw [if_pos c4] at H
    have c4b0:decide (0≤x7_1)=true:=decide_eq_true c4
    clear c4
    obtain ⟨ji5,hji5⟩:∃ j_:Int,(wrap64 (8 * x7_1))=j_:=⟨_,rfl⟩
    replace H:(if 0≤(ji5) then (if x0_1.length < 140737488355328 then (mapjnl_num.l0 k1 (x0_1 ++ [(shr .i64 a1 (ji5)) % 256]) a1 (wrap64 (x7_1 - 1))) else (none)) else (none))=some r:=by first|(rw [hji5] at H;exact H)|(simp only [hji5] at H ⊢;exact H)
    have hji5w:(IntKind.i64.wrap (8 * x7_1))=ji5:=(i64_w _).trans hji5
    by_cases c6:0≤(ji5)
    ·rw [if_pos c6] at H
     have c6b0:=eq_true c6
     have c6b1:decide (0≤(ji5))=true:=decide_eq_true c6
     clear c6
     obtain ⟨ji7,hji7⟩:∃ j_:Int,(shr .i64 a1 (ji5))=j_:=⟨_,rfl⟩
     replace H:(if x0_1.length < 140737488355328 then (mapjnl_num.l0 k1 (x0_1 ++ [(ji7) % 256]) a1 (wrap64 (x7_1 - 1))) else (none))=some r:=by first|(rw [hji7] at H;exact H)|(simp only [hji7] at H ⊢;exact H)
     have hji7_:(a1 / 2 ^ min (ji5).toNat 64)=ji7:=hji7
     have hji7z:(ji5)≤64 → (a1 / 2 ^ (ji5).toNat)=ji7:=shr_small hji7
     by_cases c8:x0_1.length < 140737488355328
     ·rw [if_pos c8] at H
      have LMc8:=zm c8
      clear c8
      obtain ⟨y759,hy759⟩:∃ y_:List Int,y_=(x0_1 ++ [(ji7) % 256]):=⟨_,rfl⟩
      replace H:(mapjnl_num.l0 k1 y759 a1 (wrap64 (x7_1 - 1)))=some r:=by first|(rw [hy759];with_reducible exact H)|(have H2_:=(Option.bind_some _ _).symm.trans H;rw [hy759];with_reducible exact H2_)|(have H2_:=(Option.bind_some _ _).symm.trans H;with_reducible exact H2_)|with_reducible exact H|(rw [hy759];exact H)|exact H
      have Ny759:=zm hy759
      clear hy759
      have H':=zm H
      clear H
      go_wp2_with (first|((with_reducible refine gate_builtin (b:=.append) (xs:=#[.tmp 14,.tmp 20]) rfl ?_);at_builtin;refine Kd.R_append (Kd.int .u8) (w0:=w0) w0.heap.size rfl (.tmp 14) (.tmp 20) 67 5 (.int .u8 0) 1 rfl Try.underlying67 info5 rfl (by decide) (by omega) u0 x0_1 ((ji7) % 256) [.int .u8 ((ji7) % 256)] (fun k_=>(P0_ k_∨w.heap.size≤k_)) (fun _=>False) rfl rfl ?aP (fun _ hk=>hk.elim) ?aF ?aO ?aB ?aS ?aL ?_;(case aP=>exact rfl);(case aB=>exact (by repeat (first|(with_reducible first|exact HB.out|apply zlA|apply zlN|apply zlD)|exact HB.out)));(case aF=>exact (fun k_ hk=>(.inr (Nat.le_trans (by first|exact HK.out.1|exact (show Kept w _ (fun k_=>P0_ k_) from by repeat (first|(with_reducible first|exact HK.out|apply Kept.alloc|apply Kept.drewN|apply Kept.drew)|exact HK.out)).1) hk))));(case aO=>exact (by (with_reducible repeat (first|apply zrA|apply zrN|apply zrD));exact HO_0.out));(case aS=>exact (below_size (by repeat (first|(with_reducible first|exact HB.out|apply zlA|apply zlN|apply zlD)|exact HB.out))));(case aL=>have:=LMc8.out;omega);intro v760 w9 ho hb hg hat;rw [← Ny759.out] at ho;have n0_:=zm (hb);have n1_:=zm (Kept.of_grown (S:=(fun k_=>P0_ k_)) hg (by repeat (first|(with_reducible first|exact HK.out|apply Kept.alloc|apply Kept.drewN|apply Kept.drew)|exact HK.out)) (fun k_ e_=>(HO_0.out.1 k_ e_)));have n2_:=zm (ho);clear HB HK HO_0;have HB:=n0_;have HK:=n1_;have HO761:=n2_;clear n0_ n1_ n2_;clear ho hb hg hat))
      go_roundg k1
      case measure=>have:=HK1.out;omega
      case rel=>exact ⟨(y759),(wrap64 (x7_1 - 1)),(by first|rfl|(simp;done)|(simp [*];done)),H',⟨by have:=HK1.out;omega⟩,⟨by (with_reducible repeat (first|apply zrA|apply zrN|apply zrD));exact HO761.out⟩,⟨by repeat (first|(with_reducible first|exact HK.out|apply Kept.alloc|apply Kept.drewN|apply Kept.drew)|exact HK.out)⟩,⟨by repeat (first|(with_reducible first|exact HB.out|apply zlA|apply zlN|apply zlD)|exact HB.out)⟩⟩
     ·rw [if_neg c8] at H
      exact absurd H (by simp)
    ·rw [if_neg c6] at H
     exact absurd H (by simp)
   ·rw [if_neg c4] at H
    have c4b0:decide (0≤x7_1)=false:=decide_eq_false c4
    clear c4
    obtain rfl:=Option.some.inj H
    go_wp2
    go_ret
    exact ⟨_,by first|rfl|(simp [errW_none,errW_some] <;> rfl)|(simp [*,errW_none,errW_some] <;> rfl),by (with_reducible repeat (first|apply zrA|apply zrN|apply zrD));exact HO_0.out,by repeat (first|(with_reducible first|exact HB.out|apply zlA|apply zlN|apply zlD)|exact HB.out),by repeat (first|(with_reducible first|exact HK.out|apply Kept.alloc|apply Kept.drewN|apply Kept.drew)|exact HK.out)⟩
end Go.Proofs.Ytkhbmgclklmimaa.Print
end
section
namespace Go.Proofs.Ytkhbmgclklmimaa.Print
open Go.RowKit Go.Proofs.YtkhbmgclklmimaaW.PrintWords Go.Proofs.YtkhbmgclklmimaaW.PrintLast Go.Proofs.YtkhbmgclklmimaaW.PrintMore
attribute [local go_sem] max2_int min2_int max_two min_two max_three min_three max_four min_four   -- for this text's walks alone
attribute [local go_sem ↓] Go.Proofs.Ytkhbmgclklmimaa.Sem.isSome_setCell
attribute [local go_sem] Go.Instr.field Go.asAgg
set_option linter.unusedVariables false
set_option linter.unusedSimpArgs false
def slipwayref06_num.l0:Nat → Int → List Int → Int → Option (List Int)
 | 0,_,_,_=>none
 | k + 1,x0,x5,x6=>if x6 ≥ 0 then (if 0≤x6 then (if x6 < (x5.length:Int) then (slipwayref06_num.l0 k (x0 / 256) (x5.set (x6:Int).toNat ((x0) % 256)) (wrap64 (x6 - 1))) else (none)) else (none)) else (some x5)
def slipwayref06_num.f (k:Nat) (a0:Int) (a1:Int):Option (List Int):=if 0≤a1 then (if (a1:Int).toNat≤281474976710656 then (slipwayref06_num.l0 k a0 (List.replicate (a1:Int).toNat 0) (wrap64 (a1 - 1))) else (none)) else (none)
set_option maxHeartbeats 8000000 in
set_option maxRecDepth 100000 in
theorem slipwayref06_num.calls (k:Nat) (a0:Int) (a1:Int) (r:List Int) (w:World) (h:slipwayref06_num.f k a0 a1=some r) :
  Calls Try.prog 77 #[.int .i64 a0,.int .i64 a1] w fun e w'=>∃ v0_:Value,e=.returned (v0_)∧Kd.R (Kd.int .u8) 5 w' w.heap.size (fun _=>True) v0_ r∧Below w.heap.size w w':=by
 have HB:=zm (Below.refl w.heap.size w)
 have H:(if 0≤a1 then (if (a1:Int).toNat≤281474976710656 then (slipwayref06_num.l0 k a0 (List.replicate (a1:Int).toNat 0) (wrap64 (a1 - 1))) else (none)) else (none))=some r:=h
 clear h
 by_cases c3:0≤a1
 ·rw [if_pos c3] at H
  have c3b0:=eq_true c3
  have c3b1:decide (0≤a1)=true:=decide_eq_true c3
  clear c3
  by_cases c4:(a1:Int).toNat≤281474976710656
  ·rw [if_pos c4] at H
   have c4b0:=eq_true c4
   have c4b1:decide ((a1:Int).toNat≤281474976710656)=true:=decide_eq_true c4
   clear c4
   obtain ⟨y762,hy762⟩:∃ y_:List Int,y_=(List.replicate (a1:Int).toNat 0):=⟨_,rfl⟩
   replace H:(slipwayref06_num.l0 k a0 y762 (wrap64 (a1 - 1)))=some r:=by first|(rw [hy762];with_reducible exact H)|(have H2_:=(Option.bind_some _ _).symm.trans H;rw [hy762];with_reducible exact H2_)|(have H2_:=(Option.bind_some _ _).symm.trans H;with_reducible exact H2_)|with_reducible exact H|(rw [hy762];exact H)|exact H
   have Ny762:=zm hy762
   clear hy762
   have H':=zm H
   clear H
   go_enter Try.func77,Try.ntmps77
   go_wp2_with (first|((with_reducible refine gate_dst (N:=8) rfl ?_);refine Kd.R_make (Kd.int .u8) _ 5 rfl (N:=8) rfl 67 _ _ rfl a1 rfl rfl Try.underlying67 (.int .u8 0) 1 info5 rfl (by decide) (by omega) 0 (ok:=fun _=>True) (okp:=fun _=>True) rfl (fun _ hk=>hk) trivial (of_decide_eq_true (by first|(with_reducible assumption)|assumption)) (Nat.le_trans (Nat.mul_le_mul_right _ (of_decide_eq_true (by first|(with_reducible assumption)|assumption):a1.toNat≤281474976710656)) (by omega)) (Below.refl _ _) (Nat.le_refl _) ?_;intro v763 w5 ho6 hb hg_ hnew_;clear hg_ hnew_;(first|rw [← Ny762.out] at ho6|(simp only [Int.reduceToNat] at ho6;rw [← Ny762.out] at ho6));have n0_:=zm (Kd.R_lower ho6 (below_size (by repeat (first|(with_reducible first|exact HB.out|apply zlA|apply zlN|apply zlD)|exact HB.out))));have n1_:=zm (below_step (by repeat (first|(with_reducible first|exact HB.out|apply zlA|apply zlN|apply zlD)|exact HB.out)) hb);clear HB;have HO764:=n0_;have HB:=n1_;clear n0_ n1_;clear hb ho6))
   go_loopg [0,6] k (fun kq v0 v6 w'=>∃ (x0_1:Int) (x5_1:List Int) (x6_1:Int),v0=.int .i64 x0_1∧v6=.int .i64 x6_1∧Aside0 (slipwayref06_num.l0 kq x0_1 x5_1 x6_1=some r)∧Aside0 (kq≤k)∧Aside0 (Kd.R (Kd.int .u8) 5 w' w.heap.size (fun _=>True) v763 x5_1)∧Aside0 (Below w.heap.size w w'))
   case atStart=>exact ⟨(a0),(y762),(wrap64 (a1 - 1)),(by first|rfl|(simp;done)|(simp [*];done)),(by first|rfl|(simp;done)|(simp [*];done)),H',⟨Nat.le_refl _⟩,⟨by (with_reducible repeat (first|apply zrA|apply zrN|apply zrD));exact HO764.out⟩,⟨by repeat (first|(with_reducible first|exact HB.out|apply zlA|apply zlN|apply zlD)|exact HB.out)⟩⟩
   case round =>
    clear H'
    try clear p2
    try clear c3
    try clear c3b0
    try clear c3b1
    try clear c4
    try clear c4b0
    try clear c4b1
    try clear p6
    obtain ⟨x0_1,x5_1,x6_1,rfl,rfl,HA,HK1,HO_5,HB⟩:=hrel
    cases gk with
    | zero=>exact absurd HA.out (by simp [slipwayref06_num.l0])
    | succ k1 =>
     have H:=HA.out
     clear HA
     simp only [slipwayref06_num.l0] at H
     by_cases c7:x6_1 ≥ 0
     ·rw [if_pos c7] at H
      have c7b0:decide (0≤x6_1)=true:=decide_eq_true c7
      clear c7
      by_cases c8:0≤x6_1
      ·rw [if_pos c8] at H
       have c8b0:decide (0≤x6_1)=true:=decide_eq_true c8
       clear c8
       by_cases c9:x6_1 < (x5_1.length:Int)
       ·rw [if_pos c9] at H
        have c9b0:decide (x6_1 < (x5_1.length:Int))=true:=decide_eq_true c9
        clear c9
        obtain ⟨y765,hy765⟩:∃ y_:List Int,y_=(x5_1.set (x6_1:Int).toNat ((x0_1) % 256)):=⟨_,rfl⟩
        replace H:(slipwayref06_num.l0 k1 (x0_1 / 256) y765 (wrap64 (x6_1 - 1)))=some r:=by first|(rw [hy765];with_reducible exact H)|(have H2_:=(Option.bind_some _ _).symm.trans H;rw [hy765];with_reducible exact H2_)|(have H2_:=(Option.bind_some _ _).symm.trans H;with_reducible exact H2_)|with_reducible exact H|(rw [hy765];exact H)|exact H
        have Ny765:=zm hy765
        clear hy765
        have H':=zm H
        clear H
        have p10:0≤(x6_1:Int):=of_decide_eq_true (by first|(with_reducible assumption)|assumption)
        have q10:(x6_1:Int) < ((x5_1.length:Int):Int):=of_decide_eq_true (by first|(with_reducible assumption)|assumption)
        obtain ⟨go10,co10,eo10,gb10,gl10,cl10,HG10⟩:=Kd.R_form HO_5.out (by omega)
        (first|cases eo10|(injection eo10 with ea_ en_ ec_;(first|subst ea_|(injection ea_ with ea_;subst ea_));subst ec_;clear en_))
        have GB10:=zm gb10
        have GG10:=zm HG10
        clear gb10 gl10 HG10
        obtain ⟨hx10_0,hf10_0⟩:=Kd.R_celln 0 HO_5.out (x6_1:Int) p10 q10
        replace p10:=eq_true p10
        replace q10:=eq_true q10
        have HP11:=Kd.R_putg HO_5.out (x6_1:Int) ((x0_1) % 256)
        go_wp2_with (first|((with_reducible refine gate_store (t:=5) (p:=19) rfl ?_);refine store_event (t:=5) (p:=19) (v:=?vo_w12) (w1:=(wr.setCell ⟨go10,(x6_1:Int).toNat,none⟩ (.int .u8 ((x0_1) % 256)))) ?hg ?ho ?hn ?hr ?_;(case ho=>rfl);(case hg=>rfl);(case hn=>rfl);(case hr=>first|(go_simp;done)|(go_simp;rfl));intro w12 hw;have hg:wr.grownBy w12 (some go10):=(by rw [hw];exact HP11.2);have hp_:Kd.R (Kd.int .u8) 5 w12 w.heap.size (fun _=>True) (.slice (some ⟨go10,0,none⟩) x5_1.length co10) y765:=(by rw [hw,Ny765.out];exact HP11.1);clear HP11;have n0_:=zm (hp_);have n1_:=zm ((by rw [hw];exact zlS (HB.out) GB10.out:Below w.heap.size w w12));clear HO_5 HB;have HO_5:=n0_;have HB:=n1_;clear n0_ n1_;clear hg hw hp_))
        go_roundg k1
        case measure=>have:=HK1.out;omega
        case rel=>exact ⟨(x0_1 / 256),(y765),(wrap64 (x6_1 - 1)),(by first|rfl|(simp;done)|(simp [*];done)),(by first|rfl|(simp;done)|(simp [*];done)),H',⟨by have:=HK1.out;omega⟩,⟨by (with_reducible repeat (first|apply zrA|apply zrN|apply zrD));exact HO_5.out⟩,⟨by repeat (first|(with_reducible first|exact HB.out|apply zlA|apply zlN|apply zlD)|exact HB.out)⟩⟩
       ·rw [if_neg c9] at H
        exact absurd H (by simp)
      ·rw [if_neg c8] at H
       exact absurd H (by simp)
     ·rw [if_neg c7] at H
      have c7b0:decide (0≤x6_1)=false:=decide_eq_false c7
      clear c7
      obtain rfl:=Option.some.inj H
      go_wp2
      go_ret
      exact ⟨_,by first|rfl|(simp [errW_none,errW_some] <;> rfl)|(simp [*,errW_none,errW_some] <;> rfl),by (with_reducible repeat (first|apply zrA|apply zrN|apply zrD));exact HO_5.out,by repeat (first|(with_reducible first|exact HB.out|apply zlA|apply zlN|apply zlD)|exact HB.out)⟩
  ·rw [if_neg c4] at H
   exact absurd H (by simp)
 ·rw [if_neg c3] at H
  exact absurd H (by simp)
end Go.Proofs.Ytkhbmgclklmimaa.Print
end
