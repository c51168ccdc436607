/- Texts of the proof of MapPages, part 17. -/
import Derived.Test.YtkhbmgclklmimaaMapPagesMA
import Derived.Test.YtkhbmgclklmimaaMapPagesM14
import Derived.Test.YtkhbmgclklmimaaMapPagesM15
import Derived.Test.YtkhbmgclklmimaaMapPagesM16
section
namespace Go.Proofs.Ytkhbmgclklmimaa.Print
open Go.RowKit Go.Proofs.YtkhbmgclklmimaaW.PrintWords Go.Proofs.YtkhbmgclklmimaaW.PrintLast Go.Proofs.YtkhbmgclklmimaaW.PrintMore
attribute [local go_sem] max2_int min2_int max_two min_two max_three min_three max_four min_four   -- for this text's walks alone
attribute [local go_sem ↓] Go.Proofs.Ytkhbmgclklmimaa.Sem.isSome_setCell
attribute [local go_sem] Go.Instr.field Go.asAgg
set_option linter.unusedVariables false
set_option linter.unusedSimpArgs false
attribute [local go_sem high] eqA55
def api_MapRecord_70.l0:Nat → List (S55) → List (S55) → Int → Int → Option (Bool)
 | 0,_,_,_,_=>none
 | k + 1,x0,x1,x12,x13=>if x13 < x12 then (if 0≤x13 then (if x13 < (x0.length:Int) then (if x13 < (x1.length:Int) then (if (!(((rd_T55 x0 x13).f0) == ((rd_T55 x1 x13).f0)) || (!(((rd_T55 x0 x13).f1) == ((rd_T55 x1 x13).f1)) || (!(((rd_T55 x0 x13).f2) == ((rd_T55 x1 x13).f2)))))=true then (some false) else (api_MapRecord_70.l0 k x0 x1 x12 (wrap64 (x13 + 1)))) else (none)) else (none)) else (none)) else (some true)
def api_MapRecord_70.f (k:Nat) (l0:List (S55)) (l1:List (S55)):Option (Bool):=if (l0.length:Int)=(l1.length:Int) then (api_MapRecord_70.l0 k l0 l1 (l0.length:Int) 0) else (some false)
set_option maxHeartbeats 8000000 in
set_option maxRecDepth 100000 in
theorem api_MapRecord_70.calls (k:Nat) (A0:Option Addr) (c0:Nat) (l0:List (S55)) (A1:Option Addr) (c1:Nat) (l1:List (S55)) (r:Bool) (w:World) (hr0:Kd.C k55 w A0 l0.length l0) (hc0:l0.length≤c0) (hr1:Kd.C k55 w A1 l1.length l1) (hc1:l1.length≤c1) (h:api_MapRecord_70.f k l0 l1=some r) :
  Calls Try.prog 70 #[.slice A0 l0.length c0,.slice A1 l1.length c1] w fun e w'=>e=.returned (.bool r)∧Drawn0 w w':=by
 have hu55:=Try.underlying55
 have HR0:=zm hr0
 have HC0:=zm hc0
 clear hr0 hc0
 have HR1:=zm hr1
 have HC1:=zm hc1
 clear hr1 hc1
 have H:(if (l0.length:Int)=(l1.length:Int) then (api_MapRecord_70.l0 k l0 l1 (l0.length:Int) 0) else (some false))=some r:=h
 clear h
 by_cases c3:(l0.length:Int)=(l1.length:Int)
 ·rw [if_pos c3] at H
  have c3b0:((l0.length:Int) == (l1.length:Int))=true:=beq_iff_eq.mpr c3
  have c3b1:((l0.length:Int) != (l1.length:Int))=false:=bne_eq_false_iff_eq.mpr c3
  have c3b2:(l0.length == l1.length)=true:=by first|simpa using c3|(simp at c3 ⊢;omega)
  clear c3
  have H':=zm H
  clear H
  go_enter Try.func70,Try.ntmps70
  go_wp2
  repeat (go_quiet (fail);try go_wp2)
  go_loopg [13] k (fun kq v13 w'=>∃ (x13_1:Int),v13=.int .i64 x13_1∧Aside0 (api_MapRecord_70.l0 kq l0 l1 (l0.length:Int) x13_1=some r)∧Aside0 (kq≤k)∧Drawn0 w w')
  case atStart=>exact ⟨(0),(by first|rfl|(simp;done)|(simp [*];done)),H',⟨Nat.le_refl _⟩,by repeat (first|exact Drawn0.refl _|apply Drawn0.step)⟩
  case round =>
   clear H'
   try clear c1
   try clear p2
   try clear c3
   try clear c3b0
   try clear c3b1
   try clear c3b2
   obtain ⟨x13_1,rfl,HA,HK1,⟨m1,rfl⟩⟩:=hrel
   cases gk with
   | zero=>exact absurd HA.out (by simp [api_MapRecord_70.l0])
   | succ k1 =>
    have H:=HA.out
    clear HA
    simp only [api_MapRecord_70.l0] at H
    by_cases c4:x13_1 < (l0.length:Int)
    ·rw [if_pos c4] at H
     have c4b0:decide (x13_1 < (l0.length:Int))=true:=decide_eq_true c4
     clear c4
     by_cases c5:0≤x13_1
     ·rw [if_pos c5] at H
      have c5b0:decide (0≤x13_1)=true:=decide_eq_true c5
      clear c5
      by_cases c6:x13_1 < (l0.length:Int)
      ·rw [if_pos c6] at H
       have c6b0:decide (x13_1 < (l0.length:Int))=true:=decide_eq_true c6
       clear c6
       by_cases c7:x13_1 < (l1.length:Int)
       ·rw [if_pos c7] at H
        have c7b0:decide (x13_1 < (l1.length:Int))=true:=decide_eq_true c7
        clear c7
        by_cases c8:(!(((rd_T55 l0 x13_1).f0) == ((rd_T55 l1 x13_1).f0)) || (!(((rd_T55 l0 x13_1).f1) == ((rd_T55 l1 x13_1).f1)) || (!(((rd_T55 l0 x13_1).f2) == ((rd_T55 l1 x13_1).f2)))))=true
        ·rw [if_pos c8] at H
         have c8b0:(!(((rd_T55 l0 x13_1).f0) == ((rd_T55 l1 x13_1).f0)) || (!(((rd_T55 l0 x13_1).f1) == ((rd_T55 l1 x13_1).f1)) || (!(((rd_T55 l0 x13_1).f2) == ((rd_T55 l1 x13_1).f2)))))=true:=c8
         clear c8
         obtain rfl:=Option.some.inj H
         have p516:0≤(x13_1:Int):=of_decide_eq_true (by first|(with_reducible assumption)|assumption)
         have q516:x13_1 < (l0.length:Int):=of_decide_eq_true (by first|(with_reducible assumption)|assumption)
         obtain ⟨ad516,e516,hx516_0,hx516_1,hx516_2⟩:=at_T55 HR0.out x13_1 p516 q516
         cases e516
         replace p516:=eq_true p516
         replace q516:=eq_true q516
         have p517:0≤(x13_1:Int):=of_decide_eq_true (by first|(with_reducible assumption)|assumption)
         have q517:x13_1 < (l1.length:Int):=of_decide_eq_true (by first|(with_reducible assumption)|assumption)
         obtain ⟨ad517,e517,hx517_0,hx517_1,hx517_2⟩:=at_T55 HR1.out x13_1 p517 q517
         cases e517
         replace p517:=eq_true p517
         replace q517:=eq_true q517
         go_wp2
         repeat (go_quiet (fail);try go_wp2)
         go_ret
         exact ⟨by first|rfl|(simp;done)|(simp [*];done),by repeat (first|exact Drawn0.refl _|apply Drawn0.step)⟩
        ·rw [if_neg c8] at H
         have c8b0:(!(((rd_T55 l0 x13_1).f0) == ((rd_T55 l1 x13_1).f0)) || (!(((rd_T55 l0 x13_1).f1) == ((rd_T55 l1 x13_1).f1)) || (!(((rd_T55 l0 x13_1).f2) == ((rd_T55 l1 x13_1).f2)))))=false:=by simpa using c8
         clear c8
         have H':=zm H
         clear H
         have p516:0≤(x13_1:Int):=of_decide_eq_true (by first|(with_reducible assumption)|assumption)
         have q516:x13_1 < (l0.length:Int):=of_decide_eq_true (by first|(with_reducible assumption)|assumption)
         obtain ⟨ad516,e516,hx516_0,hx516_1,hx516_2⟩:=at_T55 HR0.out x13_1 p516 q516
         cases e516
         replace p516:=eq_true p516
         replace q516:=eq_true q516
         have p517:0≤(x13_1:Int):=of_decide_eq_true (by first|(with_reducible assumption)|assumption)
         have q517:x13_1 < (l1.length:Int):=of_decide_eq_true (by first|(with_reducible assumption)|assumption)
         obtain ⟨ad517,e517,hx517_0,hx517_1,hx517_2⟩:=at_T55 HR1.out x13_1 p517 q517
         cases e517
         replace p517:=eq_true p517
         replace q517:=eq_true q517
         go_wp2
         repeat (go_quiet (fail);try go_wp2)
         go_roundg k1
         case measure=>have:=HK1.out;omega
         case rel=>exact ⟨(wrap64 (x13_1 + 1)),(by first|rfl|(simp;done)|(simp [*];done)),H',⟨by have:=HK1.out;omega⟩,by repeat (first|exact Drawn0.refl _|apply Drawn0.step)⟩
       ·rw [if_neg c7] at H
        exact absurd H (by simp)
      ·rw [if_neg c6] at H
       exact absurd H (by simp)
     ·rw [if_neg c5] at H
      exact absurd H (by simp)
    ·rw [if_neg c4] at H
     have c4b0:decide (x13_1 < (l0.length:Int))=false:=decide_eq_false c4
     clear c4
     obtain rfl:=Option.some.inj H
     go_wp2
     repeat (go_quiet (fail);try go_wp2)
     go_ret
     exact ⟨by first|rfl|(simp;done)|(simp [*];done),by repeat (first|exact Drawn0.refl _|apply Drawn0.step)⟩
 ·rw [if_neg c3] at H
  have c3b0:((l0.length:Int) == (l1.length:Int))=false:=beq_eq_false_iff_ne.mpr c3
  have c3b1:((l0.length:Int) != (l1.length:Int))=true:=bne_iff_ne.mpr c3
  have c3b2:(l0.length == l1.length)=false:=by first|simpa using c3|(simp at c3 ⊢;omega)
  obtain rfl:=Option.some.inj H
  go_enter Try.func70,Try.ntmps70
  go_wp2
  repeat (go_quiet (fail);try go_wp2)
  go_ret
  exact ⟨by first|rfl|(simp;done)|(simp [*];done),by repeat (first|exact Drawn0.refl _|apply Drawn0.step)⟩
def mapjnl_SamePage.f (k:Nat) (a0_0:Int) (a0_1:Int) (a0_2:Int) (a0_3:Int) (l0_4:List Bool) (l0_5:List Int) (l0_6:List (S55)) (a1_0:Int) (a1_1:Int) (a1_2:Int) (a1_3:Int) (l1_4:List Bool) (l1_5:List Int) (l1_6:List (S55)):Option (Bool):=if a0_0=a1_0 then (if a0_1=a1_1 then (if a0_2=a1_2 then (if a0_3=a1_3 then ((slices_Equal_bool_bool.f k l0_4 l1_4).bind fun t520=>(if t520=true then ((slices_Equal_int64_int64.f k l0_5 l1_5).bind fun t521=>(if t521=true then ((api_MapRecord_70.f k l0_6 l1_6).bind fun t522=>(some t522)) else (some false))) else (some false))) else (some false)) else (some false)) else (some false)) else (some false)
set_option maxHeartbeats 8000000 in
set_option maxRecDepth 100000 in
theorem mapjnl_SamePage.calls (k:Nat) (a0_0:Int) (a0_1:Int) (a0_2:Int) (a0_3:Int) (A0_4:Option Addr) (c0_4:Nat) (l0_4:List Bool) (A0_5:Option Addr) (c0_5:Nat) (l0_5:List Int) (A0_6:Option Addr) (c0_6:Nat) (l0_6:List (S55)) (a1_0:Int) (a1_1:Int) (a1_2:Int) (a1_3:Int) (A1_4:Option Addr) (c1_4:Nat) (l1_4:List Bool) (A1_5:Option Addr) (c1_5:Nat) (l1_5:List Int) (A1_6:Option Addr) (c1_6:Nat) (l1_6:List (S55)) (r:Bool) (w:World) (hr0_4:Kd.C Kd.bool w A0_4 l0_4.length l0_4) (hc0_4:l0_4.length≤c0_4) (hr0_5:Kd.C (Kd.int .i64) w A0_5 l0_5.length l0_5) (hc0_5:l0_5.length≤c0_5) (hr0_6:Kd.C k55 w A0_6 l0_6.length l0_6) (hc0_6:l0_6.length≤c0_6) (hr1_4:Kd.C Kd.bool w A1_4 l1_4.length l1_4) (hc1_4:l1_4.length≤c1_4) (hr1_5:Kd.C (Kd.int .i64) w A1_5 l1_5.length l1_5) (hc1_5:l1_5.length≤c1_5) (hr1_6:Kd.C k55 w A1_6 l1_6.length l1_6) (hc1_6:l1_6.length≤c1_6) (h:mapjnl_SamePage.f k a0_0 a0_1 a0_2 a0_3 l0_4 l0_5 l0_6 a1_0 a1_1 a1_2 a1_3 l1_4 l1_5 l1_6=some r) :
  Calls Try.prog 35 #[.agg #[.int .i64 a0_0,.int .i64 a0_1,.int .i64 a0_2,.int .i64 a0_3,.slice A0_4 l0_4.length c0_4,.slice A0_5 l0_5.length c0_5,.slice A0_6 l0_6.length c0_6],.agg #[.int .i64 a1_0,.int .i64 a1_1,.int .i64 a1_2,.int .i64 a1_3,.slice A1_4 l1_4.length c1_4,.slice A1_5 l1_5.length c1_5,.slice A1_6 l1_6.length c1_6]] w fun e w'=>e=.returned (.bool r)∧Below w.heap.size w w':=by
 have hu42:=Try.underlying42
 have HR0_4:=zm hr0_4
 have HC0_4:=zm hc0_4
 clear hr0_4 hc0_4
 have HR0_5:=zm hr0_5
 have HC0_5:=zm hc0_5
 clear hr0_5 hc0_5
 have HR0_6:=zm hr0_6
 have HC0_6:=zm hc0_6
 clear hr0_6 hc0_6
 have HR1_4:=zm hr1_4
 have HC1_4:=zm hc1_4
 clear hr1_4 hc1_4
 have HR1_5:=zm hr1_5
 have HC1_5:=zm hc1_5
 clear hr1_5 hc1_5
 have HR1_6:=zm hr1_6
 have HC1_6:=zm hc1_6
 clear hr1_6 hc1_6
 have HB:=zm (Below.refl w.heap.size w)
 have H:(if a0_0=a1_0 then (if a0_1=a1_1 then (if a0_2=a1_2 then (if a0_3=a1_3 then ((slices_Equal_bool_bool.f k l0_4 l1_4).bind fun t520=>(if t520=true then ((slices_Equal_int64_int64.f k l0_5 l1_5).bind fun t521=>(if t521=true then ((api_MapRecord_70.f k l0_6 l1_6).bind fun t522=>(some t522)) else (some false))) else (some false))) else (some false)) else (some false)) else (some false)) else (some false))=some r:=h
 clear h
 by_cases c3:a0_0=a1_0
 ·rw [if_pos c3] at H
  have c3b0:(a0_0 == a1_0)=true:=beq_iff_eq.mpr c3
  have c3b1:(a0_0 != a1_0)=false:=bne_eq_false_iff_eq.mpr c3
  clear c3
  by_cases c4:a0_1=a1_1
  ·rw [if_pos c4] at H
   have c4b0:(a0_1 == a1_1)=true:=beq_iff_eq.mpr c4
   have c4b1:(a0_1 != a1_1)=false:=bne_eq_false_iff_eq.mpr c4
   clear c4
   by_cases c5:a0_2=a1_2
   ·rw [if_pos c5] at H
    have c5b0:(a0_2 == a1_2)=true:=beq_iff_eq.mpr c5
    have c5b1:(a0_2 != a1_2)=false:=bne_eq_false_iff_eq.mpr c5
    clear c5
    by_cases c6:a0_3=a1_3
    ·rw [if_pos c6] at H
     have c6b0:(a0_3 == a1_3)=true:=beq_iff_eq.mpr c6
     have c6b1:(a0_3 != a1_3)=false:=bne_eq_false_iff_eq.mpr c6
     clear c6
     replace H:=Option.bind_eq_some_iff.mp H
     obtain ⟨t520,A70,H⟩:=H
     replace H:(if t520=true then ((slices_Equal_int64_int64.f k l0_5 l1_5).bind fun t521=>(if t521=true then ((api_MapRecord_70.f k l0_6 l1_6).bind fun t522=>(some t522)) else (some false))) else (some false))=some r:=H
     have A7:=zm A70
     clear A70
     by_cases c8:t520=true
     ·subst c8
      have H1:((slices_Equal_int64_int64.f k l0_5 l1_5).bind fun t521=>(if t521=true then ((api_MapRecord_70.f k l0_6 l1_6).bind fun t522=>(some t522)) else (some false)))=some r:=by rw [if_pos rfl] at H;exact H
      clear H
      have H:=H1
      clear H1
      replace H:=Option.bind_eq_some_iff.mp H
      obtain ⟨t521,A90,H⟩:=H
      replace H:(if t521=true then ((api_MapRecord_70.f k l0_6 l1_6).bind fun t522=>(some t522)) else (some false))=some r:=H
      have A9:=zm A90
      clear A90
      by_cases c10:t521=true
      ·subst c10
       have H1:((api_MapRecord_70.f k l0_6 l1_6).bind fun t522=>(some t522))=some r:=by rw [if_pos rfl] at H;exact H
       clear H
       have H:=H1
       clear H1
       replace H:=Option.bind_eq_some_iff.mp H
       obtain ⟨t522,A110,H⟩:=H
       replace H:(some t522)=some r:=H
       have A11:=zm A110
       clear A110
       obtain rfl:=Option.some.inj H
       go_enter Try.func35,Try.ntmps35
       go_wp2_with (first|((with_reducible refine gate_dst (N:=2) rfl ?_);refine box_event ?hg (N:=2) ?hd (cs:=#[.int .i64 a0_0,.int .i64 a0_1,.int .i64 a0_2,.int .i64 a0_3,.slice A0_4 l0_4.length c0_4,.slice A0_5 l0_5.length c0_5,.slice A0_6 l0_6.length c0_6]) (t:=42) ?hr ?_;(case hd=>rfl);(case hg=>rfl);(case hr=>first|(go_simp;done)|(go_simp;rfl));intro gb518 hg w12 hbox hb;have n0_:=zm (below_step (by repeat (first|(with_reducible first|exact HB.out|apply zlA|apply zlN|apply zlD)|exact HB.out)) hb);have n1_:=zm (hbox);have n2_:=zm ((by rw [hg];exact (below_size (by repeat (first|(with_reducible first|exact HB.out|apply zlA|apply zlN|apply zlD)|exact HB.out))):w.heap.size≤gb518));have n3_:=zm ((by rw [hg];exact (below_size (by repeat (first|(with_reducible first|exact HB.out|apply zlA|apply zlN|apply zlD)|exact HB.out))):w.heap.size≤gb518));clear HB;have HB:=n0_;have BK518:=n1_;have GW518:=n2_;have GE518:=n3_;clear n0_ n1_ n2_ n3_;clear hb hbox hg)|((with_reducible refine gate_dst (N:=3) rfl ?_);refine box_event ?hg (N:=3) ?hd (cs:=#[.int .i64 a1_0,.int .i64 a1_1,.int .i64 a1_2,.int .i64 a1_3,.slice A1_4 l1_4.length c1_4,.slice A1_5 l1_5.length c1_5,.slice A1_6 l1_6.length c1_6]) (t:=42) ?hr ?_;(case hd=>rfl);(case hg=>rfl);(case hr=>first|(go_simp;done)|(go_simp;rfl));intro gb519 hg w13 hbox hb;have n0_:=zm (zbB (g:=gb518) (o:=.cells #[.int .i64 a0_0,.int .i64 a0_1,.int .i64 a0_2,.int .i64 a0_3,.slice A0_4 l0_4.length c0_4,.slice A0_5 l0_5.length c0_5,.slice A0_6 l0_6.length c0_6] 42 (0,0)) (by (with_reducible repeat (first|refine zbN ?_ _|refine zbD ?_|refine zbA ?_ _));exact BK518.out) hb);have n1_:=zm (below_step (by repeat (first|(with_reducible first|exact HB.out|apply zlA|apply zlN|apply zlD|refine zlS ?_ GE518.out)|exact HB.out)) hb);have n2_:=zm (hbox);have n3_:=zm ((by rw [hg];exact (below_size (by repeat (first|(with_reducible first|exact HB.out|apply zlA|apply zlN|apply zlD|refine zlS ?_ GE518.out)|exact HB.out))):w.heap.size≤gb519));have n4_:=zm ((by rw [hg];exact (below_size (by repeat (first|(with_reducible first|exact HB.out|apply zlA|apply zlN|apply zlD|refine zlS ?_ GE518.out)|exact HB.out))):w.heap.size≤gb519));have n5_:=zm ((by rw [hg];exact Nat.ne_of_lt (blk_lt (g:=gb518) (o:=.cells #[.int .i64 a0_0,.int .i64 a0_1,.int .i64 a0_2,.int .i64 a0_3,.slice A0_4 l0_4.length c0_4,.slice A0_5 l0_5.length c0_5,.slice A0_6 l0_6.length c0_6] 42 (0,0)) (by (with_reducible repeat (first|refine zbN ?_ _|refine zbD ?_|refine zbA ?_ _));exact BK518.out)):gb518≠gb519));have n6_:=zm ((by rw [hg];exact Nat.ne_of_gt (blk_lt (g:=gb518) (o:=.cells #[.int .i64 a0_0,.int .i64 a0_1,.int .i64 a0_2,.int .i64 a0_3,.slice A0_4 l0_4.length c0_4,.slice A0_5 l0_5.length c0_5,.slice A0_6 l0_6.length c0_6] 42 (0,0)) (by (with_reducible repeat (first|refine zbN ?_ _|refine zbD ?_|refine zbA ?_ _));exact BK518.out)):gb519≠gb518));clear BK518 HB;have BK518:=n0_;have HB:=n1_;have BK519:=n2_;have GW519:=n3_;have GE519:=n4_;have NB518_519:=n5_;have NB519_518:=n6_;clear n0_ n1_ n2_ n3_ n4_ n5_ n6_;clear hb hbox hg;have hnb14:=NB518_519.out;have hnc14:=NB519_518.out;have hcz15_0:w13.cell? ⟨gb518,0,none⟩=some (.int .i64 a0_0):=(blk_cell BK518.out 0).trans rfl;have hcz15_1:w13.cell? ⟨gb518,1,none⟩=some (.int .i64 a0_1):=(blk_cell BK518.out 1).trans rfl;have hcz15_2:w13.cell? ⟨gb518,2,none⟩=some (.int .i64 a0_2):=(blk_cell BK518.out 2).trans rfl;have hcz15_3:w13.cell? ⟨gb518,3,none⟩=some (.int .i64 a0_3):=(blk_cell BK518.out 3).trans rfl;have hcz15_4:w13.cell? ⟨gb518,4,none⟩=some (.slice A0_4 l0_4.length c0_4):=(blk_cell BK518.out 4).trans rfl;have hcz15_5:w13.cell? ⟨gb518,5,none⟩=some (.slice A0_5 l0_5.length c0_5):=(blk_cell BK518.out 5).trans rfl;have hcz15_6:w13.cell? ⟨gb518,6,none⟩=some (.slice A0_6 l0_6.length c0_6):=(blk_cell BK518.out 6).trans rfl;have hfz15_0:=blk_frozen BK518.out 0;have hfz15_1:=blk_frozen BK518.out 1;have hfz15_2:=blk_frozen BK518.out 2;have hfz15_3:=blk_frozen BK518.out 3;have hfz15_4:=blk_frozen BK518.out 4;have hfz15_5:=blk_frozen BK518.out 5;have hfz15_6:=blk_frozen BK518.out 6;have hcz16_0:w13.cell? ⟨gb519,0,none⟩=some (.int .i64 a1_0):=(blk_cell BK519.out 0).trans rfl;have hcz16_1:w13.cell? ⟨gb519,1,none⟩=some (.int .i64 a1_1):=(blk_cell BK519.out 1).trans rfl;have hcz16_2:w13.cell? ⟨gb519,2,none⟩=some (.int .i64 a1_2):=(blk_cell BK519.out 2).trans rfl;have hcz16_3:w13.cell? ⟨gb519,3,none⟩=some (.int .i64 a1_3):=(blk_cell BK519.out 3).trans rfl;have hcz16_4:w13.cell? ⟨gb519,4,none⟩=some (.slice A1_4 l1_4.length c1_4):=(blk_cell BK519.out 4).trans rfl;have hcz16_5:w13.cell? ⟨gb519,5,none⟩=some (.slice A1_5 l1_5.length c1_5):=(blk_cell BK519.out 5).trans rfl;have hcz16_6:w13.cell? ⟨gb519,6,none⟩=some (.slice A1_6 l1_6.length c1_6):=(blk_cell BK519.out 6).trans rfl;have hfz16_0:=blk_frozen BK519.out 0;have hfz16_1:=blk_frozen BK519.out 1;have hfz16_2:=blk_frozen BK519.out 2;have hfz16_3:=blk_frozen BK519.out 3;have hfz16_4:=blk_frozen BK519.out 4;have hfz16_5:=blk_frozen BK519.out 5;have hfz16_6:=blk_frozen BK519.out 6)|(go_at_call 59;(with_reducible refine (slices_Equal_bool_bool.calls k _ _ l0_4 _ _ l1_4 true _ ?side1 ?side2 ?side3 ?side4 A7.out).mono ?_);(case side1=>repeat (first|exact (Kd.C_below HR0_4.out HB.out)|(with_reducible refine Kd.C_alloc ?_ _)|(with_reducible refine Kd.C_drewN ?_ _)|(with_reducible refine Kd.C_drew ?_)));(case side2=>exact HC0_4.out);(case side3=>repeat (first|exact (Kd.C_below HR1_4.out HB.out)|(with_reducible refine Kd.C_alloc ?_ _)|(with_reducible refine Kd.C_drewN ?_ _)|(with_reducible refine Kd.C_drew ?_)));(case side4=>exact HC1_4.out);rintro e w' ⟨rfl,⟨nd,rfl⟩⟩)|(go_at_call 60;(with_reducible refine (slices_Equal_int64_int64.calls k _ _ l0_5 _ _ l1_5 true _ ?side1 ?side2 ?side3 ?side4 A9.out).mono ?_);(case side1=>repeat (first|exact (Kd.C_below HR0_5.out (by repeat (first|(with_reducible first|exact HB.out|apply zlA|apply zlN|apply zlD|refine zlS ?_ GE518.out|refine zlS ?_ GE519.out)|exact HB.out)))|(with_reducible refine Kd.C_alloc ?_ _)|(with_reducible refine Kd.C_drewN ?_ _)|(with_reducible refine Kd.C_drew ?_)));(case side2=>exact HC0_5.out);(case side3=>repeat (first|exact (Kd.C_below HR1_5.out (by repeat (first|(with_reducible first|exact HB.out|apply zlA|apply zlN|apply zlD|refine zlS ?_ GE518.out|refine zlS ?_ GE519.out)|exact HB.out)))|(with_reducible refine Kd.C_alloc ?_ _)|(with_reducible refine Kd.C_drewN ?_ _)|(with_reducible refine Kd.C_drew ?_)));(case side4=>exact HC1_5.out);rintro e w' ⟨rfl,⟨nd,rfl⟩⟩)|(go_at_call 70;(with_reducible refine (api_MapRecord_70.calls k _ _ l0_6 _ _ l1_6 t522 _ ?side1 ?side2 ?side3 ?side4 A11.out).mono ?_);(case side1=>repeat (first|exact (Kd.C_below HR0_6.out (by repeat (first|(with_reducible first|exact HB.out|apply zlA|apply zlN|apply zlD|refine zlS ?_ GE518.out|refine zlS ?_ GE519.out)|exact HB.out)))|(with_reducible refine Kd.C_alloc ?_ _)|(with_reducible refine Kd.C_drewN ?_ _)|(with_reducible refine Kd.C_drew ?_)));(case side2=>exact HC0_6.out);(case side3=>repeat (first|exact (Kd.C_below HR1_6.out (by repeat (first|(with_reducible first|exact HB.out|apply zlA|apply zlN|apply zlD|refine zlS ?_ GE518.out|refine zlS ?_ GE519.out)|exact HB.out)))|(with_reducible refine Kd.C_alloc ?_ _)|(with_reducible refine Kd.C_drewN ?_ _)|(with_reducible refine Kd.C_drew ?_)));(case side4=>exact HC1_6.out);rintro e w' ⟨rfl,⟨nd,rfl⟩⟩))
       go_ret
       exact ⟨by first|rfl|(simp [errW_none,errW_some] <;> rfl)|(simp [*,errW_none,errW_some] <;> rfl),by repeat (first|(with_reducible first|exact HB.out|apply zlA|apply zlN|apply zlD|refine zlS ?_ GE518.out|refine zlS ?_ GE519.out)|exact HB.out)⟩
      ·replace c10:=Bool.eq_false_iff.mpr c10
       subst c10
       have H1:(some false)=some r:=by rw [if_neg (show ¬ (false=true) by decide)] at H;exact H
       clear H
       have H:=H1
       clear H1
       obtain rfl:=Option.some.inj H
       go_enter Try.func35,Try.ntmps35
       go_wp2_with (first|((with_reducible refine gate_dst (N:=2) rfl ?_);refine box_event ?hg (N:=2) ?hd (cs:=#[.int .i64 a0_0,.int .i64 a0_1,.int .i64 a0_2,.int .i64 a0_3,.slice A0_4 l0_4.length c0_4,.slice A0_5 l0_5.length c0_5,.slice A0_6 l0_6.length c0_6]) (t:=42) ?hr ?_;(case hd=>rfl);(case hg=>rfl);(case hr=>first|(go_simp;done)|(go_simp;rfl));intro gb518 hg w17 hbox hb;have n0_:=zm (below_step (by repeat (first|(with_reducible first|exact HB.out|apply zlA|apply zlN|apply zlD)|exact HB.out)) hb);have n1_:=zm (hbox);have n2_:=zm ((by rw [hg];exact (below_size (by repeat (first|(with_reducible first|exact HB.out|apply zlA|apply zlN|apply zlD)|exact HB.out))):w.heap.size≤gb518));have n3_:=zm ((by rw [hg];exact (below_size (by repeat (first|(with_reducible first|exact HB.out|apply zlA|apply zlN|apply zlD)|exact HB.out))):w.heap.size≤gb518));clear HB;have HB:=n0_;have BK518:=n1_;have GW518:=n2_;have GE518:=n3_;clear n0_ n1_ n2_ n3_;clear hb hbox hg)|((with_reducible refine gate_dst (N:=3) rfl ?_);refine box_event ?hg (N:=3) ?hd (cs:=#[.int .i64 a1_0,.int .i64 a1_1,.int .i64 a1_2,.int .i64 a1_3,.slice A1_4 l1_4.length c1_4,.slice A1_5 l1_5.length c1_5,.slice A1_6 l1_6.length c1_6]) (t:=42) ?hr ?_;(case hd=>rfl);(case hg=>rfl);(case hr=>first|(go_simp;done)|(go_simp;rfl));intro gb519 hg w18 hbox hb;have n0_:=zm (zbB (g:=gb518) (o:=.cells #[.int .i64 a0_0,.int .i64 a0_1,.int .i64 a0_2,.int .i64 a0_3,.slice A0_4 l0_4.length c0_4,.slice A0_5 l0_5.length c0_5,.slice A0_6 l0_6.length c0_6] 42 (0,0)) (by (with_reducible repeat (first|refine zbN ?_ _|refine zbD ?_|refine zbA ?_ _));exact BK518.out) hb);have n1_:=zm (below_step (by repeat (first|(with_reducible first|exact HB.out|apply zlA|apply zlN|apply zlD|refine zlS ?_ GE518.out)|exact HB.out)) hb);have n2_:=zm (hbox);have n3_:=zm ((by rw [hg];exact (below_size (by repeat (first|(with_reducible first|exact HB.out|apply zlA|apply zlN|apply zlD|refine zlS ?_ GE518.out)|exact HB.out))):w.heap.size≤gb519));have n4_:=zm ((by rw [hg];exact (below_size (by repeat (first|(with_reducible first|exact HB.out|apply zlA|apply zlN|apply zlD|refine zlS ?_ GE518.out)|exact HB.out))):w.heap.size≤gb519));have n5_:=zm ((by rw [hg];exact Nat.ne_of_lt (blk_lt (g:=gb518) (o:=.cells #[.int .i64 a0_0,.int .i64 a0_1,.int .i64 a0_2,.int .i64 a0_3,.slice A0_4 l0_4.length c0_4,.slice A0_5 l0_5.length c0_5,.slice A0_6 l0_6.length c0_6] 42 (0,0)) (by (with_reducible repeat (first|refine zbN ?_ _|refine zbD ?_|refine zbA ?_ _));exact BK518.out)):gb518≠gb519));have n6_:=zm ((by rw [hg];exact Nat.ne_of_gt (blk_lt (g:=gb518) (o:=.cells #[.int .i64 a0_0,.int .i64 a0_1,.int .i64 a0_2,.int .i64 a0_3,.slice A0_4 l0_4.length c0_4,.slice A0_5 l0_5.length c0_5,.slice A0_6 l0_6.length c0_6] 42 (0,0)) (by (with_reducible repeat (first|refine zbN ?_ _|refine zbD ?_|refine zbA ?_ _));exact BK518.out)):gb519≠gb518));clear BK518 HB;have BK518:=n0_;have HB:=n1_;have BK519:=n2_;have GW519:=n3_;have GE519:=n4_;have NB518_519:=n5_;have NB519_518:=n6_;clear n0_ n1_ n2_ n3_ n4_ n5_ n6_;clear hb hbox hg;have hnb19:=NB518_519.out;have hnc19:=NB519_518.out;have hcz20_0:w18.cell? ⟨gb518,0,none⟩=some (.int .i64 a0_0):=(blk_cell BK518.out 0).trans rfl;have hcz20_1:w18.cell? ⟨gb518,1,none⟩=some (.int .i64 a0_1):=(blk_cell BK518.out 1).trans rfl;have hcz20_2:w18.cell? ⟨gb518,2,none⟩=some (.int .i64 a0_2):=(blk_cell BK518.out 2).trans rfl;have hcz20_3:w18.cell? ⟨gb518,3,none⟩=some (.int .i64 a0_3):=(blk_cell BK518.out 3).trans rfl;have hcz20_4:w18.cell? ⟨gb518,4,none⟩=some (.slice A0_4 l0_4.length c0_4):=(blk_cell BK518.out 4).trans rfl;have hcz20_5:w18.cell? ⟨gb518,5,none⟩=some (.slice A0_5 l0_5.length c0_5):=(blk_cell BK518.out 5).trans rfl;have hcz20_6:w18.cell? ⟨gb518,6,none⟩=some (.slice A0_6 l0_6.length c0_6):=(blk_cell BK518.out 6).trans rfl;have hfz20_0:=blk_frozen BK518.out 0;have hfz20_1:=blk_frozen BK518.out 1;have hfz20_2:=blk_frozen BK518.out 2;have hfz20_3:=blk_frozen BK518.out 3;have hfz20_4:=blk_frozen BK518.out 4;have hfz20_5:=blk_frozen BK518.out 5;have hfz20_6:=blk_frozen BK518.out 6;have hcz21_0:w18.cell? ⟨gb519,0,none⟩=some (.int .i64 a1_0):=(blk_cell BK519.out 0).trans rfl;have hcz21_1:w18.cell? ⟨gb519,1,none⟩=some (.int .i64 a1_1):=(blk_cell BK519.out 1).trans rfl;have hcz21_2:w18.cell? ⟨gb519,2,none⟩=some (.int .i64 a1_2):=(blk_cell BK519.out 2).trans rfl;have hcz21_3:w18.cell? ⟨gb519,3,none⟩=some (.int .i64 a1_3):=(blk_cell BK519.out 3).trans rfl;have hcz21_4:w18.cell? ⟨gb519,4,none⟩=some (.slice A1_4 l1_4.length c1_4):=(blk_cell BK519.out 4).trans rfl;have hcz21_5:w18.cell? ⟨gb519,5,none⟩=some (.slice A1_5 l1_5.length c1_5):=(blk_cell BK519.out 5).trans rfl;have hcz21_6:w18.cell? ⟨gb519,6,none⟩=some (.slice A1_6 l1_6.length c1_6):=(blk_cell BK519.out 6).trans rfl;have hfz21_0:=blk_frozen BK519.out 0;have hfz21_1:=blk_frozen BK519.out 1;have hfz21_2:=blk_frozen BK519.out 2;have hfz21_3:=blk_frozen BK519.out 3;have hfz21_4:=blk_frozen BK519.out 4;have hfz21_5:=blk_frozen BK519.out 5;have hfz21_6:=blk_frozen BK519.out 6)|(go_at_call 59;(with_reducible refine (slices_Equal_bool_bool.calls k _ _ l0_4 _ _ l1_4 true _ ?side1 ?side2 ?side3 ?side4 A7.out).mono ?_);(case side1=>repeat (first|exact (Kd.C_below HR0_4.out HB.out)|(with_reducible refine Kd.C_alloc ?_ _)|(with_reducible refine Kd.C_drewN ?_ _)|(with_reducible refine Kd.C_drew ?_)));(case side2=>exact HC0_4.out);(case side3=>repeat (first|exact (Kd.C_below HR1_4.out HB.out)|(with_reducible refine Kd.C_alloc ?_ _)|(with_reducible refine Kd.C_drewN ?_ _)|(with_reducible refine Kd.C_drew ?_)));(case side4=>exact HC1_4.out);rintro e w' ⟨rfl,⟨nd,rfl⟩⟩)|(go_at_call 60;(with_reducible refine (slices_Equal_int64_int64.calls k _ _ l0_5 _ _ l1_5 false _ ?side1 ?side2 ?side3 ?side4 A9.out).mono ?_);(case side1=>repeat (first|exact (Kd.C_below HR0_5.out (by repeat (first|(with_reducible first|exact HB.out|apply zlA|apply zlN|apply zlD|refine zlS ?_ GE518.out|refine zlS ?_ GE519.out)|exact HB.out)))|(with_reducible refine Kd.C_alloc ?_ _)|(with_reducible refine Kd.C_drewN ?_ _)|(with_reducible refine Kd.C_drew ?_)));(case side2=>exact HC0_5.out);(case side3=>repeat (first|exact (Kd.C_below HR1_5.out (by repeat (first|(with_reducible first|exact HB.out|apply zlA|apply zlN|apply zlD|refine zlS ?_ GE518.out|refine zlS ?_ GE519.out)|exact HB.out)))|(with_reducible refine Kd.C_alloc ?_ _)|(with_reducible refine Kd.C_drewN ?_ _)|(with_reducible refine Kd.C_drew ?_)));(case side4=>exact HC1_5.out);rintro e w' ⟨rfl,⟨nd,rfl⟩⟩))
       go_ret
       exact ⟨by first|rfl|(simp [errW_none,errW_some] <;> rfl)|(simp [*,errW_none,errW_some] <;> rfl),by repeat (first|(with_reducible first|exact HB.out|apply zlA|apply zlN|apply zlD|refine zlS ?_ GE518.out|refine zlS ?_ GE519.out)|exact HB.out)⟩
     ·replace c8:=Bool.eq_false_iff.mpr c8
      subst c8
      have H1:(some false)=some r:=by rw [if_neg (show ¬ (false=true) by decide)] at H;exact H
      clear H
      have H:=H1
      clear H1
      obtain rfl:=Option.some.inj H
      go_enter Try.func35,Try.ntmps35
      go_wp2_with (first|((with_reducible refine gate_dst (N:=2) rfl ?_);refine box_event ?hg (N:=2) ?hd (cs:=#[.int .i64 a0_0,.int .i64 a0_1,.int .i64 a0_2,.int .i64 a0_3,.slice A0_4 l0_4.length c0_4,.slice A0_5 l0_5.length c0_5,.slice A0_6 l0_6.length c0_6]) (t:=42) ?hr ?_;(case hd=>rfl);(case hg=>rfl);(case hr=>first|(go_simp;done)|(go_simp;rfl));intro gb518 hg w22 hbox hb;have n0_:=zm (below_step (by repeat (first|(with_reducible first|exact HB.out|apply zlA|apply zlN|apply zlD)|exact HB.out)) hb);have n1_:=zm (hbox);have n2_:=zm ((by rw [hg];exact (below_size (by repeat (first|(with_reducible first|exact HB.out|apply zlA|apply zlN|apply zlD)|exact HB.out))):w.heap.size≤gb518));have n3_:=zm ((by rw [hg];exact (below_size (by repeat (first|(with_reducible first|exact HB.out|apply zlA|apply zlN|apply zlD)|exact HB.out))):w.heap.size≤gb518));clear HB;have HB:=n0_;have BK518:=n1_;have GW518:=n2_;have GE518:=n3_;clear n0_ n1_ n2_ n3_;clear hb hbox hg)|((with_reducible refine gate_dst (N:=3) rfl ?_);refine box_event ?hg (N:=3) ?hd (cs:=#[.int .i64 a1_0,.int .i64 a1_1,.int .i64 a1_2,.int .i64 a1_3,.slice A1_4 l1_4.length c1_4,.slice A1_5 l1_5.length c1_5,.slice A1_6 l1_6.length c1_6]) (t:=42) ?hr ?_;(case hd=>rfl);(case hg=>rfl);(case hr=>first|(go_simp;done)|(go_simp;rfl));intro gb519 hg w23 hbox hb;have n0_:=zm (zbB (g:=gb518) (o:=.cells #[.int .i64 a0_0,.int .i64 a0_1,.int .i64 a0_2,.int .i64 a0_3,.slice A0_4 l0_4.length c0_4,.slice A0_5 l0_5.length c0_5,.slice A0_6 l0_6.length c0_6] 42 (0,0)) (by (with_reducible repeat (first|refine zbN ?_ _|refine zbD ?_|refine zbA ?_ _));exact BK518.out) hb);have n1_:=zm (below_step (by repeat (first|(with_reducible first|exact HB.out|apply zlA|apply zlN|apply zlD|refine zlS ?_ GE518.out)|exact HB.out)) hb);have n2_:=zm (hbox);have n3_:=zm ((by rw [hg];exact (below_size (by repeat (first|(with_reducible first|exact HB.out|apply zlA|apply zlN|apply zlD|refine zlS ?_ GE518.out)|exact HB.out))):w.heap.size≤gb519));have n4_:=zm ((by rw [hg];exact (below_size (by repeat (first|(with_reducible first|exact HB.out|apply zlA|apply zlN|apply zlD|refine zlS ?_ GE518.out)|exact HB.out))):w.heap.size≤gb519));have n5_:=zm ((by rw [hg];exact Nat.ne_of_lt (blk_lt (g:=gb518) (o:=.cells #[.int .i64 a0_0,.int .i64 a0_1,.int .i64 a0_2,.int .i64 a0_3,.slice A0_4 l0_4.length c0_4,.slice A0_5 l0_5.length c0_5,.slice A0_6 l0_6.length c0_6] 42 (0,0)) (by (with_reducible repeat (first|refine zbN ?_ _|refine zbD ?_|refine zbA ?_ _));exact BK518.out)):gb518≠gb519));have n6_:=zm ((by rw [hg];exact Nat.ne_of_gt (blk_lt (g:=gb518) (o:=.cells #[.int .i64 a0_0,.int .i64 a0_1,.int .i64 a0_2,.int .i64 a0_3,.slice A0_4 l0_4.length c0_4,.slice A0_5 l0_5.length c0_5,.slice A0_6 l0_6.length c0_6] 42 (0,0)) (by (with_reducible repeat (first|refine zbN ?_ _|refine zbD ?_|refine zbA ?_ _));exact BK518.out)):gb519≠gb518));clear BK518 HB;have BK518:=n0_;have HB:=n1_;have BK519:=n2_;have GW519:=n3_;have GE519:=n4_;have NB518_519:=n5_;have NB519_518:=n6_;clear n0_ n1_ n2_ n3_ n4_ n5_ n6_;clear hb hbox hg;have hnb24:=NB518_519.out;have hnc24:=NB519_518.out;have hcz25_0:w23.cell? ⟨gb518,0,none⟩=some (.int .i64 a0_0):=(blk_cell BK518.out 0).trans rfl;have hcz25_1:w23.cell? ⟨gb518,1,none⟩=some (.int .i64 a0_1):=(blk_cell BK518.out 1).trans rfl;have hcz25_2:w23.cell? ⟨gb518,2,none⟩=some (.int .i64 a0_2):=(blk_cell BK518.out 2).trans rfl;have hcz25_3:w23.cell? ⟨gb518,3,none⟩=some (.int .i64 a0_3):=(blk_cell BK518.out 3).trans rfl;have hcz25_4:w23.cell? ⟨gb518,4,none⟩=some (.slice A0_4 l0_4.length c0_4):=(blk_cell BK518.out 4).trans rfl;have hcz25_5:w23.cell? ⟨gb518,5,none⟩=some (.slice A0_5 l0_5.length c0_5):=(blk_cell BK518.out 5).trans rfl;have hcz25_6:w23.cell? ⟨gb518,6,none⟩=some (.slice A0_6 l0_6.length c0_6):=(blk_cell BK518.out 6).trans rfl;have hfz25_0:=blk_frozen BK518.out 0;have hfz25_1:=blk_frozen BK518.out 1;have hfz25_2:=blk_frozen BK518.out 2;have hfz25_3:=blk_frozen BK518.out 3;have hfz25_4:=blk_frozen BK518.out 4;have hfz25_5:=blk_frozen BK518.out 5;have hfz25_6:=blk_frozen BK518.out 6;have hcz26_0:w23.cell? ⟨gb519,0,none⟩=some (.int .i64 a1_0):=(blk_cell BK519.out 0).trans rfl;have hcz26_1:w23.cell? ⟨gb519,1,none⟩=some (.int .i64 a1_1):=(blk_cell BK519.out 1).trans rfl;have hcz26_2:w23.cell? ⟨gb519,2,none⟩=some (.int .i64 a1_2):=(blk_cell BK519.out 2).trans rfl;have hcz26_3:w23.cell? ⟨gb519,3,none⟩=some (.int .i64 a1_3):=(blk_cell BK519.out 3).trans rfl;have hcz26_4:w23.cell? ⟨gb519,4,none⟩=some (.slice A1_4 l1_4.length c1_4):=(blk_cell BK519.out 4).trans rfl;have hcz26_5:w23.cell? ⟨gb519,5,none⟩=some (.slice A1_5 l1_5.length c1_5):=(blk_cell BK519.out 5).trans rfl;have hcz26_6:w23.cell? ⟨gb519,6,none⟩=some (.slice A1_6 l1_6.length c1_6):=(blk_cell BK519.out 6).trans rfl;have hfz26_0:=blk_frozen BK519.out 0;have hfz26_1:=blk_frozen BK519.out 1;have hfz26_2:=blk_frozen BK519.out 2;have hfz26_3:=blk_frozen BK519.out 3;have hfz26_4:=blk_frozen BK519.out 4;have hfz26_5:=blk_frozen BK519.out 5;have hfz26_6:=blk_frozen BK519.out 6)|(go_at_call 59;(with_reducible refine (slices_Equal_bool_bool.calls k _ _ l0_4 _ _ l1_4 false _ ?side1 ?side2 ?side3 ?side4 A7.out).mono ?_);(case side1=>repeat (first|exact (Kd.C_below HR0_4.out HB.out)|(with_reducible refine Kd.C_alloc ?_ _)|(with_reducible refine Kd.C_drewN ?_ _)|(with_reducible refine Kd.C_drew ?_)));(case side2=>exact HC0_4.out);(case side3=>repeat (first|exact (Kd.C_below HR1_4.out HB.out)|(with_reducible refine Kd.C_alloc ?_ _)|(with_reducible refine Kd.C_drewN ?_ _)|(with_reducible refine Kd.C_drew ?_)));(case side4=>exact HC1_4.out);rintro e w' ⟨rfl,⟨nd,rfl⟩⟩))
      go_ret
      exact ⟨by first|rfl|(simp [errW_none,errW_some] <;> rfl)|(simp [*,errW_none,errW_some] <;> rfl),by repeat (first|(with_reducible first|exact HB.out|apply zlA|apply zlN|apply zlD|refine zlS ?_ GE518.out|refine zlS ?_ GE519.out)|exact HB.out)⟩
    ·rw [if_neg c6] at H
     have c6b0:(a0_3 == a1_3)=false:=beq_eq_false_iff_ne.mpr c6
     have c6b1:(a0_3 != a1_3)=true:=bne_iff_ne.mpr c6
     obtain rfl:=Option.some.inj H
     go_enter Try.func35,Try.ntmps35
     go_wp2_with (first|((with_reducible refine gate_dst (N:=2) rfl ?_);refine box_event ?hg (N:=2) ?hd (cs:=#[.int .i64 a0_0,.int .i64 a0_1,.int .i64 a0_2,.int .i64 a0_3,.slice A0_4 l0_4.length c0_4,.slice A0_5 l0_5.length c0_5,.slice A0_6 l0_6.length c0_6]) (t:=42) ?hr ?_;(case hd=>rfl);(case hg=>rfl);(case hr=>first|(go_simp;done)|(go_simp;rfl));intro gb518 hg w27 hbox hb;have n0_:=zm (below_step (by repeat (first|(with_reducible first|exact HB.out|apply zlA|apply zlN|apply zlD)|exact HB.out)) hb);have n1_:=zm (hbox);have n2_:=zm ((by rw [hg];exact (below_size (by repeat (first|(with_reducible first|exact HB.out|apply zlA|apply zlN|apply zlD)|exact HB.out))):w.heap.size≤gb518));have n3_:=zm ((by rw [hg];exact (below_size (by repeat (first|(with_reducible first|exact HB.out|apply zlA|apply zlN|apply zlD)|exact HB.out))):w.heap.size≤gb518));clear HB;have HB:=n0_;have BK518:=n1_;have GW518:=n2_;have GE518:=n3_;clear n0_ n1_ n2_ n3_;clear hb hbox hg)|((with_reducible refine gate_dst (N:=3) rfl ?_);refine box_event ?hg (N:=3) ?hd (cs:=#[.int .i64 a1_0,.int .i64 a1_1,.int .i64 a1_2,.int .i64 a1_3,.slice A1_4 l1_4.length c1_4,.slice A1_5 l1_5.length c1_5,.slice A1_6 l1_6.length c1_6]) (t:=42) ?hr ?_;(case hd=>rfl);(case hg=>rfl);(case hr=>first|(go_simp;done)|(go_simp;rfl));intro gb519 hg w28 hbox hb;have n0_:=zm (zbB (g:=gb518) (o:=.cells #[.int .i64 a0_0,.int .i64 a0_1,.int .i64 a0_2,.int .i64 a0_3,.slice A0_4 l0_4.length c0_4,.slice A0_5 l0_5.length c0_5,.slice A0_6 l0_6.length c0_6] 42 (0,0)) (by (with_reducible repeat (first|refine zbN ?_ _|refine zbD ?_|refine zbA ?_ _));exact BK518.out) hb);have n1_:=zm (below_step (by repeat (first|(with_reducible first|exact HB.out|apply zlA|apply zlN|apply zlD|refine zlS ?_ GE518.out)|exact HB.out)) hb);have n2_:=zm (hbox);have n3_:=zm ((by rw [hg];exact (below_size (by repeat (first|(with_reducible first|exact HB.out|apply zlA|apply zlN|apply zlD|refine zlS ?_ GE518.out)|exact HB.out))):w.heap.size≤gb519));have n4_:=zm ((by rw [hg];exact (below_size (by repeat (first|(with_reducible first|exact HB.out|apply zlA|apply zlN|apply zlD|refine zlS ?_ GE518.out)|exact HB.out))):w.heap.size≤gb519));have n5_:=zm ((by rw [hg];exact Nat.ne_of_lt (blk_lt (g:=gb518) (o:=.cells #[.int .i64 a0_0,.int .i64 a0_1,.int .i64 a0_2,.int .i64 a0_3,.slice A0_4 l0_4.length c0_4,.slice A0_5 l0_5.length c0_5,.slice A0_6 l0_6.length c0_6] 42 (0,0)) (by (with_reducible repeat (first|refine zbN ?_ _|refine zbD ?_|refine zbA ?_ _));exact BK518.out)):gb518≠gb519));have n6_:=zm ((by rw [hg];exact Nat.ne_of_gt (blk_lt (g:=gb518) (o:=.cells #[.int .i64 a0_0,.int .i64 a0_1,.int .i64 a0_2,.int .i64 a0_3,.slice A0_4 l0_4.length c0_4,.slice A0_5 l0_5.length c0_5,.slice A0_6 l0_6.length c0_6] 42 (0,0)) (by (with_reducible repeat (first|refine zbN ?_ _|refine zbD ?_|refine zbA ?_ _));exact BK518.out)):gb519≠gb518));clear BK518 HB;have BK518:=n0_;have HB:=n1_;have BK519:=n2_;have GW519:=n3_;have GE519:=n4_;have NB518_519:=n5_;have NB519_518:=n6_;clear n0_ n1_ n2_ n3_ n4_ n5_ n6_;clear hb hbox hg;have hnb29:=NB518_519.out;have hnc29:=NB519_518.out;have hcz30_0:w28.cell? ⟨gb518,0,none⟩=some (.int .i64 a0_0):=(blk_cell BK518.out 0).trans rfl;have hcz30_1:w28.cell? ⟨gb518,1,none⟩=some (.int .i64 a0_1):=(blk_cell BK518.out 1).trans rfl;have hcz30_2:w28.cell? ⟨gb518,2,none⟩=some (.int .i64 a0_2):=(blk_cell BK518.out 2).trans rfl;have hcz30_3:w28.cell? ⟨gb518,3,none⟩=some (.int .i64 a0_3):=(blk_cell BK518.out 3).trans rfl;have hcz30_4:w28.cell? ⟨gb518,4,none⟩=some (.slice A0_4 l0_4.length c0_4):=(blk_cell BK518.out 4).trans rfl;have hcz30_5:w28.cell? ⟨gb518,5,none⟩=some (.slice A0_5 l0_5.length c0_5):=(blk_cell BK518.out 5).trans rfl;have hcz30_6:w28.cell? ⟨gb518,6,none⟩=some (.slice A0_6 l0_6.length c0_6):=(blk_cell BK518.out 6).trans rfl;have hfz30_0:=blk_frozen BK518.out 0;have hfz30_1:=blk_frozen BK518.out 1;have hfz30_2:=blk_frozen BK518.out 2;have hfz30_3:=blk_frozen BK518.out 3;have hfz30_4:=blk_frozen BK518.out 4;have hfz30_5:=blk_frozen BK518.out 5;have hfz30_6:=blk_frozen BK518.out 6;have hcz31_0:w28.cell? ⟨gb519,0,none⟩=some (.int .i64 a1_0):=(blk_cell BK519.out 0).trans rfl;have hcz31_1:w28.cell? ⟨gb519,1,none⟩=some (.int .i64 a1_1):=(blk_cell BK519.out 1).trans rfl;have hcz31_2:w28.cell? ⟨gb519,2,none⟩=some (.int .i64 a1_2):=(blk_cell BK519.out 2).trans rfl;have hcz31_3:w28.cell? ⟨gb519,3,none⟩=some (.int .i64 a1_3):=(blk_cell BK519.out 3).trans rfl;have hcz31_4:w28.cell? ⟨gb519,4,none⟩=some (.slice A1_4 l1_4.length c1_4):=(blk_cell BK519.out 4).trans rfl;have hcz31_5:w28.cell? ⟨gb519,5,none⟩=some (.slice A1_5 l1_5.length c1_5):=(blk_cell BK519.out 5).trans rfl;have hcz31_6:w28.cell? ⟨gb519,6,none⟩=some (.slice A1_6 l1_6.length c1_6):=(blk_cell BK519.out 6).trans rfl;have hfz31_0:=blk_frozen BK519.out 0;have hfz31_1:=blk_frozen BK519.out 1;have hfz31_2:=blk_frozen BK519.out 2;have hfz31_3:=blk_frozen BK519.out 3;have hfz31_4:=blk_frozen BK519.out 4;have hfz31_5:=blk_frozen BK519.out 5;have hfz31_6:=blk_frozen BK519.out 6))
     go_ret
     exact ⟨by first|rfl|(simp [errW_none,errW_some] <;> rfl)|(simp [*,errW_none,errW_some] <;> rfl),by repeat (first|(with_reducible first|exact HB.out|apply zlA|apply zlN|apply zlD|refine zlS ?_ GE518.out|refine zlS ?_ GE519.out)|exact HB.out)⟩
   ·rw [if_neg c5] at H
    have c5b0:(a0_2 == a1_2)=false:=beq_eq_false_iff_ne.mpr c5
    have c5b1:(a0_2 != a1_2)=true:=bne_iff_ne.mpr c5
    obtain rfl:=Option.some.inj H
    go_enter Try.func35,Try.ntmps35
    go_wp2_with (first|((with_reducible refine gate_dst (N:=2) rfl ?_);refine box_event ?hg (N:=2) ?hd (cs:=#[.int .i64 a0_0,.int .i64 a0_1,.int .i64 a0_2,.int .i64 a0_3,.slice A0_4 l0_4.length c0_4,.slice A0_5 l0_5.length c0_5,.slice A0_6 l0_6.length c0_6]) (t:=42) ?hr ?_;(case hd=>rfl);(case hg=>rfl);(case hr=>first|(go_simp;done)|(go_simp;rfl));intro gb518 hg w32 hbox hb;have n0_:=zm (below_step (by repeat (first|(with_reducible first|exact HB.out|apply zlA|apply zlN|apply zlD)|exact HB.out)) hb);have n1_:=zm (hbox);have n2_:=zm ((by rw [hg];exact (below_size (by repeat (first|(with_reducible first|exact HB.out|apply zlA|apply zlN|apply zlD)|exact HB.out))):w.heap.size≤gb518));have n3_:=zm ((by rw [hg];exact (below_size (by repeat (first|(with_reducible first|exact HB.out|apply zlA|apply zlN|apply zlD)|exact HB.out))):w.heap.size≤gb518));clear HB;have HB:=n0_;have BK518:=n1_;have GW518:=n2_;have GE518:=n3_;clear n0_ n1_ n2_ n3_;clear hb hbox hg)|((with_reducible refine gate_dst (N:=3) rfl ?_);refine box_event ?hg (N:=3) ?hd (cs:=#[.int .i64 a1_0,.int .i64 a1_1,.int .i64 a1_2,.int .i64 a1_3,.slice A1_4 l1_4.length c1_4,.slice A1_5 l1_5.length c1_5,.slice A1_6 l1_6.length c1_6]) (t:=42) ?hr ?_;(case hd=>rfl);(case hg=>rfl);(case hr=>first|(go_simp;done)|(go_simp;rfl));intro gb519 hg w33 hbox hb;have n0_:=zm (zbB (g:=gb518) (o:=.cells #[.int .i64 a0_0,.int .i64 a0_1,.int .i64 a0_2,.int .i64 a0_3,.slice A0_4 l0_4.length c0_4,.slice A0_5 l0_5.length c0_5,.slice A0_6 l0_6.length c0_6] 42 (0,0)) (by (with_reducible repeat (first|refine zbN ?_ _|refine zbD ?_|refine zbA ?_ _));exact BK518.out) hb);have n1_:=zm (below_step (by repeat (first|(with_reducible first|exact HB.out|apply zlA|apply zlN|apply zlD|refine zlS ?_ GE518.out)|exact HB.out)) hb);have n2_:=zm (hbox);have n3_:=zm ((by rw [hg];exact (below_size (by repeat (first|(with_reducible first|exact HB.out|apply zlA|apply zlN|apply zlD|refine zlS ?_ GE518.out)|exact HB.out))):w.heap.size≤gb519));have n4_:=zm ((by rw [hg];exact (below_size (by repeat (first|(with_reducible first|exact HB.out|apply zlA|apply zlN|apply zlD|refine zlS ?_ GE518.out)|exact HB.out))):w.heap.size≤gb519));have n5_:=zm ((by rw [hg];exact Nat.ne_of_lt (blk_lt (g:=gb518) (o:=.cells #[.int .i64 a0_0,.int .i64 a0_1,.int .i64 a0_2,.int .i64 a0_3,.slice A0_4 l0_4.length c0_4,.slice A0_5 l0_5.length c0_5,.slice A0_6 l0_6.length c0_6] 42 (0,0)) (by (with_reducible repeat (first|refine zbN ?_ _|refine zbD ?_|refine zbA ?_ _));exact BK518.out)):gb518≠gb519));have n6_:=zm ((by rw [hg];exact Nat.ne_of_gt (blk_lt (g:=gb518) (o:=.cells #[.int .i64 a0_0,.int .i64 a0_1,.int .i64 a0_2,.int .i64 a0_3,.slice A0_4 l0_4.length c0_4,.slice A0_5 l0_5.length c0_5,.slice A0_6 l0_6.length c0_6] 42 (0,0)) (by (with_reducible repeat (first|refine zbN ?_ _|refine zbD ?_|refine zbA ?_ _));exact BK518.out)):gb519≠gb518));clear BK518 HB;have BK518:=n0_;have HB:=n1_;have BK519:=n2_;have GW519:=n3_;have GE519:=n4_;have NB518_519:=n5_;have NB519_518:=n6_;clear n0_ n1_ n2_ n3_ n4_ n5_ n6_;clear hb hbox hg;have hnb34:=NB518_519.out;have hnc34:=NB519_518.out;have hcz35_0:w33.cell? ⟨gb518,0,none⟩=some (.int .i64 a0_0):=(blk_cell BK518.out 0).trans rfl;have hcz35_1:w33.cell? ⟨gb518,1,none⟩=some (.int .i64 a0_1):=(blk_cell BK518.out 1).trans rfl;have hcz35_2:w33.cell? ⟨gb518,2,none⟩=some (.int .i64 a0_2):=(blk_cell BK518.out 2).trans rfl;have hcz35_3:w33.cell? ⟨gb518,3,none⟩=some (.int .i64 a0_3):=(blk_cell BK518.out 3).trans rfl;have hcz35_4:w33.cell? ⟨gb518,4,none⟩=some (.slice A0_4 l0_4.length c0_4):=(blk_cell BK518.out 4).trans rfl;have hcz35_5:w33.cell? ⟨gb518,5,none⟩=some (.slice A0_5 l0_5.length c0_5):=(blk_cell BK518.out 5).trans rfl;have hcz35_6:w33.cell? ⟨gb518,6,none⟩=some (.slice A0_6 l0_6.length c0_6):=(blk_cell BK518.out 6).trans rfl;have hfz35_0:=blk_frozen BK518.out 0;have hfz35_1:=blk_frozen BK518.out 1;have hfz35_2:=blk_frozen BK518.out 2;have hfz35_3:=blk_frozen BK518.out 3;have hfz35_4:=blk_frozen BK518.out 4;have hfz35_5:=blk_frozen BK518.out 5;have hfz35_6:=blk_frozen BK518.out 6;have hcz36_0:w33.cell? ⟨gb519,0,none⟩=some (.int .i64 a1_0):=(blk_cell BK519.out 0).trans rfl;have hcz36_1:w33.cell? ⟨gb519,1,none⟩=some (.int .i64 a1_1):=(blk_cell BK519.out 1).trans rfl;have hcz36_2:w33.cell? ⟨gb519,2,none⟩=some (.int .i64 a1_2):=(blk_cell BK519.out 2).trans rfl;have hcz36_3:w33.cell? ⟨gb519,3,none⟩=some (.int .i64 a1_3):=(blk_cell BK519.out 3).trans rfl;have hcz36_4:w33.cell? ⟨gb519,4,none⟩=some (.slice A1_4 l1_4.length c1_4):=(blk_cell BK519.out 4).trans rfl;have hcz36_5:w33.cell? ⟨gb519,5,none⟩=some (.slice A1_5 l1_5.length c1_5):=(blk_cell BK519.out 5).trans rfl;have hcz36_6:w33.cell? ⟨gb519,6,none⟩=some (.slice A1_6 l1_6.length c1_6):=(blk_cell BK519.out 6).trans rfl;have hfz36_0:=blk_frozen BK519.out 0;have hfz36_1:=blk_frozen BK519.out 1;have hfz36_2:=blk_frozen BK519.out 2;have hfz36_3:=blk_frozen BK519.out 3;have hfz36_4:=blk_frozen BK519.out 4;have hfz36_5:=blk_frozen BK519.out 5;have hfz36_6:=blk_frozen BK519.out 6))
    go_ret
    exact ⟨by first|rfl|(simp [errW_none,errW_some] <;> rfl)|(simp [*,errW_none,errW_some] <;> rfl),by repeat (first|(with_reducible first|exact HB.out|apply zlA|apply zlN|apply zlD|refine zlS ?_ GE518.out|refine zlS ?_ GE519.out)|exact HB.out)⟩
  ·rw [if_neg c4] at H
   have c4b0:(a0_1 == a1_1)=false:=beq_eq_false_iff_ne.mpr c4
   have c4b1:(a0_1 != a1_1)=true:=bne_iff_ne.mpr c4
   obtain rfl:=Option.some.inj H
   go_enter Try.func35,Try.ntmps35
   go_wp2_with (first|((with_reducible refine gate_dst (N:=2) rfl ?_);refine box_event ?hg (N:=2) ?hd (cs:=#[.int .i64 a0_0,.int .i64 a0_1,.int .i64 a0_2,.int .i64 a0_3,.slice A0_4 l0_4.length c0_4,.slice A0_5 l0_5.length c0_5,.slice A0_6 l0_6.length c0_6]) (t:=42) ?hr ?_;(case hd=>rfl);(case hg=>rfl);(case hr=>first|(go_simp;done)|(go_simp;rfl));intro gb518 hg w37 hbox hb;have n0_:=zm (below_step (by repeat (first|(with_reducible first|exact HB.out|apply zlA|apply zlN|apply zlD)|exact HB.out)) hb);have n1_:=zm (hbox);have n2_:=zm ((by rw [hg];exact (below_size (by repeat (first|(with_reducible first|exact HB.out|apply zlA|apply zlN|apply zlD)|exact HB.out))):w.heap.size≤gb518));have n3_:=zm ((by rw [hg];exact (below_size (by repeat (first|(with_reducible first|exact HB.out|apply zlA|apply zlN|apply zlD)|exact HB.out))):w.heap.size≤gb518));clear HB;have HB:=n0_;have BK518:=n1_;have GW518:=n2_;have GE518:=n3_;clear n0_ n1_ n2_ n3_;clear hb hbox hg)|((with_reducible refine gate_dst (N:=3) rfl ?_);refine box_event ?hg (N:=3) ?hd (cs:=#[.int .i64 a1_0,.int .i64 a1_1,.int .i64 a1_2,.int .i64 a1_3,.slice A1_4 l1_4.length c1_4,.slice A1_5 l1_5.length c1_5,.slice A1_6 l1_6.length c1_6]) (t:=42) ?hr ?_;(case hd=>rfl);(case hg=>rfl);(case hr=>first|(go_simp;done)|(go_simp;rfl));intro gb519 hg w38 hbox hb;have n0_:=zm (zbB (g:=gb518) (o:=.cells #[.int .i64 a0_0,.int .i64 a0_1,.int .i64 a0_2,.int .i64 a0_3,.slice A0_4 l0_4.length c0_4,.slice A0_5 l0_5.length c0_5,.slice A0_6 l0_6.length c0_6] 42 (0,0)) (by (with_reducible repeat (first|refine zbN ?_ _|refine zbD ?_|refine zbA ?_ _));exact BK518.out) hb);have n1_:=zm (below_step (by repeat (first|(with_reducible first|exact HB.out|apply zlA|apply zlN|apply zlD|refine zlS ?_ GE518.out)|exact HB.out)) hb);have n2_:=zm (hbox);have n3_:=zm ((by rw [hg];exact (below_size (by repeat (first|(with_reducible first|exact HB.out|apply zlA|apply zlN|apply zlD|refine zlS ?_ GE518.out)|exact HB.out))):w.heap.size≤gb519));have n4_:=zm ((by rw [hg];exact (below_size (by repeat (first|(with_reducible first|exact HB.out|apply zlA|apply zlN|apply zlD|refine zlS ?_ GE518.out)|exact HB.out))):w.heap.size≤gb519));have n5_:=zm ((by rw [hg];exact Nat.ne_of_lt (blk_lt (g:=gb518) (o:=.cells #[.int .i64 a0_0,.int .i64 a0_1,.int .i64 a0_2,.int .i64 a0_3,.slice A0_4 l0_4.length c0_4,.slice A0_5 l0_5.length c0_5,.slice A0_6 l0_6.length c0_6] 42 (0,0)) (by (with_reducible repeat (first|refine zbN ?_ _|refine zbD ?_|refine zbA ?_ _));exact BK518.out)):gb518≠gb519));have n6_:=zm ((by rw [hg];exact Nat.ne_of_gt (blk_lt (g:=gb518) (o:=.cells #[.int .i64 a0_0,.int .i64 a0_1,.int .i64 a0_2,.int .i64 a0_3,.slice A0_4 l0_4.length c0_4,.slice A0_5 l0_5.length c0_5,.slice A0_6 l0_6.length c0_6] 42 (0,0)) (by (with_reducible repeat (first|refine zbN ?_ _|refine zbD ?_|refine zbA ?_ _));exact BK518.out)):gb519≠gb518));clear BK518 HB;have BK518:=n0_;have HB:=n1_;have BK519:=n2_;have GW519:=n3_;have GE519:=n4_;have NB518_519:=n5_;have NB519_518:=n6_;clear n0_ n1_ n2_ n3_ n4_ n5_ n6_;clear hb hbox hg;have hnb39:=NB518_519.out;have hnc39:=NB519_518.out;have hcz40_0:w38.cell? ⟨gb518,0,none⟩=some (.int .i64 a0_0):=(blk_cell BK518.out 0).trans rfl;have hcz40_1:w38.cell? ⟨gb518,1,none⟩=some (.int .i64 a0_1):=(blk_cell BK518.out 1).trans rfl;have hcz40_2:w38.cell? ⟨gb518,2,none⟩=some (.int .i64 a0_2):=(blk_cell BK518.out 2).trans rfl;have hcz40_3:w38.cell? ⟨gb518,3,none⟩=some (.int .i64 a0_3):=(blk_cell BK518.out 3).trans rfl;have hcz40_4:w38.cell? ⟨gb518,4,none⟩=some (.slice A0_4 l0_4.length c0_4):=(blk_cell BK518.out 4).trans rfl;have hcz40_5:w38.cell? ⟨gb518,5,none⟩=some (.slice A0_5 l0_5.length c0_5):=(blk_cell BK518.out 5).trans rfl;have hcz40_6:w38.cell? ⟨gb518,6,none⟩=some (.slice A0_6 l0_6.length c0_6):=(blk_cell BK518.out 6).trans rfl;have hfz40_0:=blk_frozen BK518.out 0;have hfz40_1:=blk_frozen BK518.out 1;have hfz40_2:=blk_frozen BK518.out 2;have hfz40_3:=blk_frozen BK518.out 3;have hfz40_4:=blk_frozen BK518.out 4;have hfz40_5:=blk_frozen BK518.out 5;have hfz40_6:=blk_frozen BK518.out 6;have hcz41_0:w38.cell? ⟨gb519,0,none⟩=some (.int .i64 a1_0):=(blk_cell BK519.out 0).trans rfl;have hcz41_1:w38.cell? ⟨gb519,1,none⟩=some (.int .i64 a1_1):=(blk_cell BK519.out 1).trans rfl;have hcz41_2:w38.cell? ⟨gb519,2,none⟩=some (.int .i64 a1_2):=(blk_cell BK519.out 2).trans rfl;have hcz41_3:w38.cell? ⟨gb519,3,none⟩=some (.int .i64 a1_3):=(blk_cell BK519.out 3).trans rfl;have hcz41_4:w38.cell? ⟨gb519,4,none⟩=some (.slice A1_4 l1_4.length c1_4):=(blk_cell BK519.out 4).trans rfl;have hcz41_5:w38.cell? ⟨gb519,5,none⟩=some (.slice A1_5 l1_5.length c1_5):=(blk_cell BK519.out 5).trans rfl;have hcz41_6:w38.cell? ⟨gb519,6,none⟩=some (.slice A1_6 l1_6.length c1_6):=(blk_cell BK519.out 6).trans rfl;have hfz41_0:=blk_frozen BK519.out 0;have hfz41_1:=blk_frozen BK519.out 1;have hfz41_2:=blk_frozen BK519.out 2;have hfz41_3:=blk_frozen BK519.out 3;have hfz41_4:=blk_frozen BK519.out 4;have hfz41_5:=blk_frozen BK519.out 5;have hfz41_6:=blk_frozen BK519.out 6))
   go_ret
   exact ⟨by first|rfl|(simp [errW_none,errW_some] <;> rfl)|(simp [*,errW_none,errW_some] <;> rfl),by repeat (first|(with_reducible first|exact HB.out|apply zlA|apply zlN|apply zlD|refine zlS ?_ GE518.out|refine zlS ?_ GE519.out)|exact HB.out)⟩
 ·rw [if_neg c3] at H
  have c3b0:(a0_0 == a1_0)=false:=beq_eq_false_iff_ne.mpr c3
  have c3b1:(a0_0 != a1_0)=true:=bne_iff_ne.mpr c3
  obtain rfl:=Option.some.inj H
  go_enter Try.func35,Try.ntmps35
  go_wp2_with (first|((with_reducible refine gate_dst (N:=2) rfl ?_);refine box_event ?hg (N:=2) ?hd (cs:=#[.int .i64 a0_0,.int .i64 a0_1,.int .i64 a0_2,.int .i64 a0_3,.slice A0_4 l0_4.length c0_4,.slice A0_5 l0_5.length c0_5,.slice A0_6 l0_6.length c0_6]) (t:=42) ?hr ?_;(case hd=>rfl);(case hg=>rfl);(case hr=>first|(go_simp;done)|(go_simp;rfl));intro gb518 hg w42 hbox hb;have n0_:=zm (below_step (by repeat (first|(with_reducible first|exact HB.out|apply zlA|apply zlN|apply zlD)|exact HB.out)) hb);have n1_:=zm (hbox);have n2_:=zm ((by rw [hg];exact (below_size (by repeat (first|(with_reducible first|exact HB.out|apply zlA|apply zlN|apply zlD)|exact HB.out))):w.heap.size≤gb518));have n3_:=zm ((by rw [hg];exact (below_size (by repeat (first|(with_reducible first|exact HB.out|apply zlA|apply zlN|apply zlD)|exact HB.out))):w.heap.size≤gb518));clear HB;have HB:=n0_;have BK518:=n1_;have GW518:=n2_;have GE518:=n3_;clear n0_ n1_ n2_ n3_;clear hb hbox hg)|((with_reducible refine gate_dst (N:=3) rfl ?_);refine box_event ?hg (N:=3) ?hd (cs:=#[.int .i64 a1_0,.int .i64 a1_1,.int .i64 a1_2,.int .i64 a1_3,.slice A1_4 l1_4.length c1_4,.slice A1_5 l1_5.length c1_5,.slice A1_6 l1_6.length c1_6]) (t:=42) ?hr ?_;(case hd=>rfl);(case hg=>rfl);(case hr=>first|(go_simp;done)|(go_simp;rfl));intro gb519 hg w43 hbox hb;have n0_:=zm (zbB (g:=gb518) (o:=.cells #[.int .i64 a0_0,.int .i64 a0_1,.int .i64 a0_2,.int .i64 a0_3,.slice A0_4 l0_4.length c0_4,.slice A0_5 l0_5.length c0_5,.slice A0_6 l0_6.length c0_6] 42 (0,0)) (by (with_reducible repeat (first|refine zbN ?_ _|refine zbD ?_|refine zbA ?_ _));exact BK518.out) hb);have n1_:=zm (below_step (by repeat (first|(with_reducible first|exact HB.out|apply zlA|apply zlN|apply zlD|refine zlS ?_ GE518.out)|exact HB.out)) hb);have n2_:=zm (hbox);have n3_:=zm ((by rw [hg];exact (below_size (by repeat (first|(with_reducible first|exact HB.out|apply zlA|apply zlN|apply zlD|refine zlS ?_ GE518.out)|exact HB.out))):w.heap.size≤gb519));have n4_:=zm ((by rw [hg];exact (below_size (by repeat (first|(with_reducible first|exact HB.out|apply zlA|apply zlN|apply zlD|refine zlS ?_ GE518.out)|exact HB.out))):w.heap.size≤gb519));have n5_:=zm ((by rw [hg];exact Nat.ne_of_lt (blk_lt (g:=gb518) (o:=.cells #[.int .i64 a0_0,.int .i64 a0_1,.int .i64 a0_2,.int .i64 a0_3,.slice A0_4 l0_4.length c0_4,.slice A0_5 l0_5.length c0_5,.slice A0_6 l0_6.length c0_6] 42 (0,0)) (by (with_reducible repeat (first|refine zbN ?_ _|refine zbD ?_|refine zbA ?_ _));exact BK518.out)):gb518≠gb519));have n6_:=zm ((by rw [hg];exact Nat.ne_of_gt (blk_lt (g:=gb518) (o:=.cells #[.int .i64 a0_0,.int .i64 a0_1,.int .i64 a0_2,.int .i64 a0_3,.slice A0_4 l0_4.length c0_4,.slice A0_5 l0_5.length c0_5,.slice A0_6 l0_6.length c0_6] 42 (0,0)) (by (with_reducible repeat (first|refine zbN ?_ _|refine zbD ?_|refine zbA ?_ _));exact BK518.out)):gb519≠gb518));clear BK518 HB;have BK518:=n0_;have HB:=n1_;have BK519:=n2_;have GW519:=n3_;have GE519:=n4_;have NB518_519:=n5_;have NB519_518:=n6_;clear n0_ n1_ n2_ n3_ n4_ n5_ n6_;clear hb hbox hg;have hnb44:=NB518_519.out;have hnc44:=NB519_518.out;have hcz45_0:w43.cell? ⟨gb518,0,none⟩=some (.int .i64 a0_0):=(blk_cell BK518.out 0).trans rfl;have hcz45_1:w43.cell? ⟨gb518,1,none⟩=some (.int .i64 a0_1):=(blk_cell BK518.out 1).trans rfl;have hcz45_2:w43.cell? ⟨gb518,2,none⟩=some (.int .i64 a0_2):=(blk_cell BK518.out 2).trans rfl;have hcz45_3:w43.cell? ⟨gb518,3,none⟩=some (.int .i64 a0_3):=(blk_cell BK518.out 3).trans rfl;have hcz45_4:w43.cell? ⟨gb518,4,none⟩=some (.slice A0_4 l0_4.length c0_4):=(blk_cell BK518.out 4).trans rfl;have hcz45_5:w43.cell? ⟨gb518,5,none⟩=some (.slice A0_5 l0_5.length c0_5):=(blk_cell BK518.out 5).trans rfl;have hcz45_6:w43.cell? ⟨gb518,6,none⟩=some (.slice A0_6 l0_6.length c0_6):=(blk_cell BK518.out 6).trans rfl;have hfz45_0:=blk_frozen BK518.out 0;have hfz45_1:=blk_frozen BK518.out 1;have hfz45_2:=blk_frozen BK518.out 2;have hfz45_3:=blk_frozen BK518.out 3;have hfz45_4:=blk_frozen BK518.out 4;have hfz45_5:=blk_frozen BK518.out 5;have hfz45_6:=blk_frozen BK518.out 6;have hcz46_0:w43.cell? ⟨gb519,0,none⟩=some (.int .i64 a1_0):=(blk_cell BK519.out 0).trans rfl;have hcz46_1:w43.cell? ⟨gb519,1,none⟩=some (.int .i64 a1_1):=(blk_cell BK519.out 1).trans rfl;have hcz46_2:w43.cell? ⟨gb519,2,none⟩=some (.int .i64 a1_2):=(blk_cell BK519.out 2).trans rfl;have hcz46_3:w43.cell? ⟨gb519,3,none⟩=some (.int .i64 a1_3):=(blk_cell BK519.out 3).trans rfl;have hcz46_4:w43.cell? ⟨gb519,4,none⟩=some (.slice A1_4 l1_4.length c1_4):=(blk_cell BK519.out 4).trans rfl;have hcz46_5:w43.cell? ⟨gb519,5,none⟩=some (.slice A1_5 l1_5.length c1_5):=(blk_cell BK519.out 5).trans rfl;have hcz46_6:w43.cell? ⟨gb519,6,none⟩=some (.slice A1_6 l1_6.length c1_6):=(blk_cell BK519.out 6).trans rfl;have hfz46_0:=blk_frozen BK519.out 0;have hfz46_1:=blk_frozen BK519.out 1;have hfz46_2:=blk_frozen BK519.out 2;have hfz46_3:=blk_frozen BK519.out 3;have hfz46_4:=blk_frozen BK519.out 4;have hfz46_5:=blk_frozen BK519.out 5;have hfz46_6:=blk_frozen BK519.out 6))
  go_ret
  exact ⟨by first|rfl|(simp [errW_none,errW_some] <;> rfl)|(simp [*,errW_none,errW_some] <;> rfl),by repeat (first|(with_reducible first|exact HB.out|apply zlA|apply zlN|apply zlD|refine zlS ?_ GE518.out|refine zlS ?_ GE519.out)|exact HB.out)⟩
end Go.Proofs.Ytkhbmgclklmimaa.Print
end
section
namespace Go.Proofs.Ytkhbmgclklmimaa.Print
open Go.RowKit Go.Proofs.YtkhbmgclklmimaaW.PrintWords Go.Proofs.YtkhbmgclklmimaaW.PrintLast Go.Proofs.YtkhbmgclklmimaaW.PrintMore
attribute [local go_sem] max2_int min2_int max_two min_two max_three min_three max_four min_four   -- for this text's walks alone
attribute [local go_sem ↓] Go.Proofs.Ytkhbmgclklmimaa.Sem.isSome_setCell
attribute [local go_sem] Go.Instr.field Go.asAgg
set_option linter.unusedVariables false
set_option linter.unusedSimpArgs false
def slipwaylaw06_MapPages.f (k:Nat) (l0_0:List Bool) (l0_1:List Int) (a0_2:Int) (a1:Int) (l2:List (S55)) (a3:Int) (a4_0:Int) (a4_1:Int) (a4_2:Int) (a4_3:Int) (l4_4:List Bool) (l4_5:List Int) (l4_6:List (S55)) (a5_0:Int) (a5_1:Int) (a5_2:Int) (a5_3:Int) (l5_4:List Bool) (l5_5:List Int) (l5_6:List (S55)):Option (Bool):=(mapjnl_Checkpoint.f k l0_0 l0_1 a0_2 a1).bind fun bt526=>((slipwayref06_Checkpoint.f k l0_0 l0_1 a0_2 a1).bind fun bt530=>((mapjnl_Records.f k a1 l2).bind fun bt534=>((slipwayref06_Records.f k a1 l2).bind fun bt549=>((slipwaylaw06_begun.f k).bind fun t564=>(if t564=true then ((slipwayref06_SamePages.f k bt526.1 bt530.1).bind fun t565=>(if t565=true then (if bt526.2=bt530.2 then ((slipwayref06_SamePage.f k bt534.1 bt534.2.1 bt534.2.2.1 bt534.2.2.2.1 bt534.2.2.2.2.1 bt534.2.2.2.2.2.1 bt534.2.2.2.2.2.2.1 bt549.1 bt549.2.1 bt549.2.2.1 bt549.2.2.2.1 bt549.2.2.2.2.1 bt549.2.2.2.2.2.1 bt549.2.2.2.2.2.2.1).bind fun t566=>(if t566=true then (if bt534.2.2.2.2.2.2.2=bt549.2.2.2.2.2.2.2 then ((mapjnl_Parts.f a3).bind fun t567=>((slipwayref06_Parts.f a3).bind fun t568=>(if t567=t568 then ((mapjnl_SamePage.f k a4_0 a4_1 a4_2 a4_3 l4_4 l4_5 l4_6 a5_0 a5_1 a5_2 a5_3 l5_4 l5_5 l5_6).bind fun t569=>((slipwayref06_SamePage.f k a4_0 a4_1 a4_2 a4_3 l4_4 l4_5 l4_6 a5_0 a5_1 a5_2 a5_3 l5_4 l5_5 l5_6).bind fun t570=>(if (t569 == t570)=true then ((mapjnl_SamePage.f k a4_0 a4_1 a4_2 a4_3 l4_4 l4_5 l4_6 a4_0 a4_1 a4_2 a4_3 l4_4 l4_5 l4_6).bind fun t571=>(some t571)) else (none)))) else (none)))) else (none)) else (none))) else (none)) else (none))) else (none))))))
def slipwaylaw06_MapPages.T5:Bool × List (List Nat × List Nat):=(true,[([],[]),([0,0],[0]),([1],[1]),([1],[1]),([2,3,1,1],[1,2,3]),([1,4],[1,4]),([5,4],[5]),([6],[6]),([6],[6]),([7,8,6],[6,7,8]),([6,9],[6,9]),([10,6],[10]),([11],[11]),([11],[11]),([12,13,11,11],[11,12,13]),([11,14],[11,14]),([15,14],[15]),([16],[16]),([16],[16]),([17,18,16],[16,17,18]),([16,19],[16,19]),([20,16],[20]),([21],[21]),([22,21,21],[21,22]),([21],[21]),([24,23,21],[21,24]),([23,25,21],[21,23,25]),([21,26],[21,26]),([27,25],[27]),([28],[28]),([28],[28]),([29,30,28,28],[28,29,30]),([28],[28]),([28],[28]),([32,33,31,28],[28,32,33]),([31,34,28],[28,31,34]),([28,35],[28,35]),([36,34],[36]),([37],[37]),([37],[37]),([38,39,37,37],[37,38,39]),([37,40],[37,40]),([41,40,0,1,2,3,4,5,6,7,8,9,10,11,12,13,14,15,16,17,18,19,20,21,22,23,24,25,26,27,28,29,30,31,32,33,34,35,36,37,38,39,40,41],[41])])
def slipwaylaw06_MapPages.B5:List Nat:=[0,1,3,3,15,31,63,127,127,511,1023,2047,4095,4095,16383,32767,65535,131071,131071,524287,1048575,2097151,4194303,8388607,4194303,33554431,67108863,134217727,268435455,536870911,536870911,2147483647,536870911,536870911,17179869183,34359738367,68719476735,137438953471,274877906943,274877906943,1099511627775,2199023255551,4398046511103]
theorem slipwaylaw06_MapPages.tab5:rtab .any (opsOf Try.f5 5)=slipwaylaw06_MapPages.T5:=by kernel_rfl
theorem slipwaylaw06_MapPages.bits5:waitsOk slipwaylaw06_MapPages.T5.2 slipwaylaw06_MapPages.B5=true:=by kernel_rfl
set_option maxHeartbeats 8000000 in
set_option maxRecDepth 100000 in
theorem slipwaylaw06_MapPages.calls (k:Nat) (A0_0:Option Addr) (c0_0:Nat) (l0_0:List Bool) (A0_1:Option Addr) (c0_1:Nat) (l0_1:List Int) (a0_2:Int) (a1:Int) (A2:Option Addr) (c2:Nat) (l2:List (S55)) (a3:Int) (a4_0:Int) (a4_1:Int) (a4_2:Int) (a4_3:Int) (A4_4:Option Addr) (c4_4:Nat) (l4_4:List Bool) (A4_5:Option Addr) (c4_5:Nat) (l4_5:List Int) (A4_6:Option Addr) (c4_6:Nat) (l4_6:List (S55)) (a5_0:Int) (a5_1:Int) (a5_2:Int) (a5_3:Int) (A5_4:Option Addr) (c5_4:Nat) (l5_4:List Bool) (A5_5:Option Addr) (c5_5:Nat) (l5_5:List Int) (A5_6:Option Addr) (c5_6:Nat) (l5_6:List (S55)) (r:Bool) (w:World) (hr0_0:Kd.C Kd.bool w A0_0 l0_0.length l0_0) (hc0_0:l0_0.length≤c0_0) (hr0_1:Kd.C (Kd.int .i64) w A0_1 l0_1.length l0_1) (hc0_1:l0_1.length≤c0_1) (hr2:Kd.C k55 w A2 l2.length l2) (hc2:l2.length≤c2) (hr4_4:Kd.C Kd.bool w A4_4 l4_4.length l4_4) (hc4_4:l4_4.length≤c4_4) (hr4_5:Kd.C (Kd.int .i64) w A4_5 l4_5.length l4_5) (hc4_5:l4_5.length≤c4_5) (hr4_6:Kd.C k55 w A4_6 l4_6.length l4_6) (hc4_6:l4_6.length≤c4_6) (hr5_4:Kd.C Kd.bool w A5_4 l5_4.length l5_4) (hc5_4:l5_4.length≤c5_4) (hr5_5:Kd.C (Kd.int .i64) w A5_5 l5_5.length l5_5) (hc5_5:l5_5.length≤c5_5) (hr5_6:Kd.C k55 w A5_6 l5_6.length l5_6) (hc5_6:l5_6.length≤c5_6) (h:slipwaylaw06_MapPages.f k l0_0 l0_1 a0_2 a1 l2 a3 a4_0 a4_1 a4_2 a4_3 l4_4 l4_5 l4_6 a5_0 a5_1 a5_2 a5_3 l5_4 l5_5 l5_6=some r) :
  Calls Try.prog 5 #[.agg #[.slice A0_0 l0_0.length c0_0,.slice A0_1 l0_1.length c0_1,.int .i64 a0_2],.int .i64 a1,.slice A2 l2.length c2,.int .i64 a3,.agg #[.int .i64 a4_0,.int .i64 a4_1,.int .i64 a4_2,.int .i64 a4_3,.slice A4_4 l4_4.length c4_4,.slice A4_5 l4_5.length c4_5,.slice A4_6 l4_6.length c4_6],.agg #[.int .i64 a5_0,.int .i64 a5_1,.int .i64 a5_2,.int .i64 a5_3,.slice A5_4 l5_4.length c5_4,.slice A5_5 l5_5.length c5_5,.slice A5_6 l5_6.length c5_6]] w fun e w'=>e=.returned (.bool r)∧Below w.heap.size w w':=by
 have hu25:=Try.underlying25
 have hu42:=Try.underlying42
 have HR0_0:=zm hr0_0
 have HC0_0:=zm hc0_0
 clear hr0_0 hc0_0
 have HR0_1:=zm hr0_1
 have HC0_1:=zm hc0_1
 clear hr0_1 hc0_1
 have HR2:=zm hr2
 have HC2:=zm hc2
 clear hr2 hc2
 have HR4_4:=zm hr4_4
 have HC4_4:=zm hc4_4
 clear hr4_4 hc4_4
 have HR4_5:=zm hr4_5
 have HC4_5:=zm hc4_5
 clear hr4_5 hc4_5
 have HR4_6:=zm hr4_6
 have HC4_6:=zm hc4_6
 clear hr4_6 hc4_6
 have HR5_4:=zm hr5_4
 have HC5_4:=zm hc5_4
 clear hr5_4 hc5_4
 have HR5_5:=zm hr5_5
 have HC5_5:=zm hc5_5
 clear hr5_5 hc5_5
 have HR5_6:=zm hr5_6
 have HC5_6:=zm hc5_6
 clear hr5_6 hc5_6
 have HB:=zm (Below.refl w.heap.size w)
 have H:((mapjnl_Checkpoint.f k l0_0 l0_1 a0_2 a1).bind fun bt526=>((slipwayref06_Checkpoint.f k l0_0 l0_1 a0_2 a1).bind fun bt530=>((mapjnl_Records.f k a1 l2).bind fun bt534=>((slipwayref06_Records.f k a1 l2).bind fun bt549=>((slipwaylaw06_begun.f k).bind fun t564=>(if t564=true then ((slipwayref06_SamePages.f k bt526.1 bt530.1).bind fun t565=>(if t565=true then (if bt526.2=bt530.2 then ((slipwayref06_SamePage.f k bt534.1 bt534.2.1 bt534.2.2.1 bt534.2.2.2.1 bt534.2.2.2.2.1 bt534.2.2.2.2.2.1 bt534.2.2.2.2.2.2.1 bt549.1 bt549.2.1 bt549.2.2.1 bt549.2.2.2.1 bt549.2.2.2.2.1 bt549.2.2.2.2.2.1 bt549.2.2.2.2.2.2.1).bind fun t566=>(if t566=true then (if bt534.2.2.2.2.2.2.2=bt549.2.2.2.2.2.2.2 then ((mapjnl_Parts.f a3).bind fun t567=>((slipwayref06_Parts.f a3).bind fun t568=>(if t567=t568 then ((mapjnl_SamePage.f k a4_0 a4_1 a4_2 a4_3 l4_4 l4_5 l4_6 a5_0 a5_1 a5_2 a5_3 l5_4 l5_5 l5_6).bind fun t569=>((slipwayref06_SamePage.f k a4_0 a4_1 a4_2 a4_3 l4_4 l4_5 l4_6 a5_0 a5_1 a5_2 a5_3 l5_4 l5_5 l5_6).bind fun t570=>(if (t569 == t570)=true then ((mapjnl_SamePage.f k a4_0 a4_1 a4_2 a4_3 l4_4 l4_5 l4_6 a4_0 a4_1 a4_2 a4_3 l4_4 l4_5 l4_6).bind fun t571=>(some t571)) else (none)))) else (none)))) else (none)) else (none))) else (none)) else (none))) else (none)))))))=some r:=h
 clear h
 replace H:=Option.bind_eq_some_iff.mp H
 obtain ⟨⟨t526,t529⟩,A70,H⟩:=H
 replace H:((slipwayref06_Checkpoint.f k l0_0 l0_1 a0_2 a1).bind fun bt530=>((mapjnl_Records.f k a1 l2).bind fun bt534=>((slipwayref06_Records.f k a1 l2).bind fun bt549=>((slipwaylaw06_begun.f k).bind fun t564=>(if t564=true then ((slipwayref06_SamePages.f k t526 bt530.1).bind fun t565=>(if t565=true then (if t529=bt530.2 then ((slipwayref06_SamePage.f k bt534.1 bt534.2.1 bt534.2.2.1 bt534.2.2.2.1 bt534.2.2.2.2.1 bt534.2.2.2.2.2.1 bt534.2.2.2.2.2.2.1 bt549.1 bt549.2.1 bt549.2.2.1 bt549.2.2.2.1 bt549.2.2.2.2.1 bt549.2.2.2.2.2.1 bt549.2.2.2.2.2.2.1).bind fun t566=>(if t566=true then (if bt534.2.2.2.2.2.2.2=bt549.2.2.2.2.2.2.2 then ((mapjnl_Parts.f a3).bind fun t567=>((slipwayref06_Parts.f a3).bind fun t568=>(if t567=t568 then ((mapjnl_SamePage.f k a4_0 a4_1 a4_2 a4_3 l4_4 l4_5 l4_6 a5_0 a5_1 a5_2 a5_3 l5_4 l5_5 l5_6).bind fun t569=>((slipwayref06_SamePage.f k a4_0 a4_1 a4_2 a4_3 l4_4 l4_5 l4_6 a5_0 a5_1 a5_2 a5_3 l5_4 l5_5 l5_6).bind fun t570=>(if (t569 == t570)=true then ((mapjnl_SamePage.f k a4_0 a4_1 a4_2 a4_3 l4_4 l4_5 l4_6 a4_0 a4_1 a4_2 a4_3 l4_4 l4_5 l4_6).bind fun t571=>(some t571)) else (none)))) else (none)))) else (none)) else (none))) else (none)) else (none))) else (none))))))=some r:=H
 have A7:=zm A70
 clear A70
 replace H:=Option.bind_eq_some_iff.mp H
 obtain ⟨⟨t530,t533⟩,A80,H⟩:=H
 replace H:((mapjnl_Records.f k a1 l2).bind fun bt534=>((slipwayref06_Records.f k a1 l2).bind fun bt549=>((slipwaylaw06_begun.f k).bind fun t564=>(if t564=true then ((slipwayref06_SamePages.f k t526 t530).bind fun t565=>(if t565=true then (if t529=t533 then ((slipwayref06_SamePage.f k bt534.1 bt534.2.1 bt534.2.2.1 bt534.2.2.2.1 bt534.2.2.2.2.1 bt534.2.2.2.2.2.1 bt534.2.2.2.2.2.2.1 bt549.1 bt549.2.1 bt549.2.2.1 bt549.2.2.2.1 bt549.2.2.2.2.1 bt549.2.2.2.2.2.1 bt549.2.2.2.2.2.2.1).bind fun t566=>(if t566=true then (if bt534.2.2.2.2.2.2.2=bt549.2.2.2.2.2.2.2 then ((mapjnl_Parts.f a3).bind fun t567=>((slipwayref06_Parts.f a3).bind fun t568=>(if t567=t568 then ((mapjnl_SamePage.f k a4_0 a4_1 a4_2 a4_3 l4_4 l4_5 l4_6 a5_0 a5_1 a5_2 a5_3 l5_4 l5_5 l5_6).bind fun t569=>((slipwayref06_SamePage.f k a4_0 a4_1 a4_2 a4_3 l4_4 l4_5 l4_6 a5_0 a5_1 a5_2 a5_3 l5_4 l5_5 l5_6).bind fun t570=>(if (t569 == t570)=true then ((mapjnl_SamePage.f k a4_0 a4_1 a4_2 a4_3 l4_4 l4_5 l4_6 a4_0 a4_1 a4_2 a4_3 l4_4 l4_5 l4_6).bind fun t571=>(some t571)) else (none)))) else (none)))) else (none)) else (none))) else (none)) else (none))) else (none)))))=some r:=H
 have A8:=zm A80
 clear A80
 replace H:=Option.bind_eq_some_iff.mp H
 obtain ⟨⟨t534,t535,t536,t537,t538,t541,t544,t547⟩,A90,H⟩:=H
 replace H:((slipwayref06_Records.f k a1 l2).bind fun bt549=>((slipwaylaw06_begun.f k).bind fun t564=>(if t564=true then ((slipwayref06_SamePages.f k t526 t530).bind fun t565=>(if t565=true then (if t529=t533 then ((slipwayref06_SamePage.f k t534 t535 t536 t537 t538 t541 t544 bt549.1 bt549.2.1 bt549.2.2.1 bt549.2.2.2.1 bt549.2.2.2.2.1 bt549.2.2.2.2.2.1 bt549.2.2.2.2.2.2.1).bind fun t566=>(if t566=true then (if t547=bt549.2.2.2.2.2.2.2 then ((mapjnl_Parts.f a3).bind fun t567=>((slipwayref06_Parts.f a3).bind fun t568=>(if t567=t568 then ((mapjnl_SamePage.f k a4_0 a4_1 a4_2 a4_3 l4_4 l4_5 l4_6 a5_0 a5_1 a5_2 a5_3 l5_4 l5_5 l5_6).bind fun t569=>((slipwayref06_SamePage.f k a4_0 a4_1 a4_2 a4_3 l4_4 l4_5 l4_6 a5_0 a5_1 a5_2 a5_3 l5_4 l5_5 l5_6).bind fun t570=>(if (t569 == t570)=true then ((mapjnl_SamePage.f k a4_0 a4_1 a4_2 a4_3 l4_4 l4_5 l4_6 a4_0 a4_1 a4_2 a4_3 l4_4 l4_5 l4_6).bind fun t571=>(some t571)) else (none)))) else (none)))) else (none)) else (none))) else (none)) else (none))) else (none))))=some r:=H
 have A9:=zm A90
 clear A90
 replace H:=Option.bind_eq_some_iff.mp H
 obtain ⟨⟨t549,t550,t551,t552,t553,t556,t559,t562⟩,A100,H⟩:=H
 replace H:((slipwaylaw06_begun.f k).bind fun t564=>(if t564=true then ((slipwayref06_SamePages.f k t526 t530).bind fun t565=>(if t565=true then (if t529=t533 then ((slipwayref06_SamePage.f k t534 t535 t536 t537 t538 t541 t544 t549 t550 t551 t552 t553 t556 t559).bind fun t566=>(if t566=true then (if t547=t562 then ((mapjnl_Parts.f a3).bind fun t567=>((slipwayref06_Parts.f a3).bind fun t568=>(if t567=t568 then ((mapjnl_SamePage.f k a4_0 a4_1 a4_2 a4_3 l4_4 l4_5 l4_6 a5_0 a5_1 a5_2 a5_3 l5_4 l5_5 l5_6).bind fun t569=>((slipwayref06_SamePage.f k a4_0 a4_1 a4_2 a4_3 l4_4 l4_5 l4_6 a5_0 a5_1 a5_2 a5_3 l5_4 l5_5 l5_6).bind fun t570=>(if (t569 == t570)=true then ((mapjnl_SamePage.f k a4_0 a4_1 a4_2 a4_3 l4_4 l4_5 l4_6 a4_0 a4_1 a4_2 a4_3 l4_4 l4_5 l4_6).bind fun t571=>(some t571)) else (none)))) else (none)))) else (none)) else (none))) else (none)) else (none))) else (none)))=some r:=H
 have A10:=zm A100
 clear A100
 replace H:=Option.bind_eq_some_iff.mp H
 obtain ⟨t564,A110,H⟩:=H
 replace H:(if t564=true then ((slipwayref06_SamePages.f k t526 t530).bind fun t565=>(if t565=true then (if t529=t533 then ((slipwayref06_SamePage.f k t534 t535 t536 t537 t538 t541 t544 t549 t550 t551 t552 t553 t556 t559).bind fun t566=>(if t566=true then (if t547=t562 then ((mapjnl_Parts.f a3).bind fun t567=>((slipwayref06_Parts.f a3).bind fun t568=>(if t567=t568 then ((mapjnl_SamePage.f k a4_0 a4_1 a4_2 a4_3 l4_4 l4_5 l4_6 a5_0 a5_1 a5_2 a5_3 l5_4 l5_5 l5_6).bind fun t569=>((slipwayref06_SamePage.f k a4_0 a4_1 a4_2 a4_3 l4_4 l4_5 l4_6 a5_0 a5_1 a5_2 a5_3 l5_4 l5_5 l5_6).bind fun t570=>(if (t569 == t570)=true then ((mapjnl_SamePage.f k a4_0 a4_1 a4_2 a4_3 l4_4 l4_5 l4_6 a4_0 a4_1 a4_2 a4_3 l4_4 l4_5 l4_6).bind fun t571=>(some t571)) else (none)))) else (none)))) else (none)) else (none))) else (none)) else (none))) else (none))=some r:=H
 have A11:=zm A110
 clear A110
 by_cases c12:t564=true
 ·subst c12
  have H1:((slipwayref06_SamePages.f k t526 t530).bind fun t565=>(if t565=true then (if t529=t533 then ((slipwayref06_SamePage.f k t534 t535 t536 t537 t538 t541 t544 t549 t550 t551 t552 t553 t556 t559).bind fun t566=>(if t566=true then (if t547=t562 then ((mapjnl_Parts.f a3).bind fun t567=>((slipwayref06_Parts.f a3).bind fun t568=>(if t567=t568 then ((mapjnl_SamePage.f k a4_0 a4_1 a4_2 a4_3 l4_4 l4_5 l4_6 a5_0 a5_1 a5_2 a5_3 l5_4 l5_5 l5_6).bind fun t569=>((slipwayref06_SamePage.f k a4_0 a4_1 a4_2 a4_3 l4_4 l4_5 l4_6 a5_0 a5_1 a5_2 a5_3 l5_4 l5_5 l5_6).bind fun t570=>(if (t569 == t570)=true then ((mapjnl_SamePage.f k a4_0 a4_1 a4_2 a4_3 l4_4 l4_5 l4_6 a4_0 a4_1 a4_2 a4_3 l4_4 l4_5 l4_6).bind fun t571=>(some t571)) else (none)))) else (none)))) else (none)) else (none))) else (none)) else (none)))=some r:=by rw [if_pos rfl] at H;exact H
  clear H
  have H:=H1
  clear H1
  replace H:=Option.bind_eq_some_iff.mp H
  obtain ⟨t565,A130,H⟩:=H
  replace H:(if t565=true then (if t529=t533 then ((slipwayref06_SamePage.f k t534 t535 t536 t537 t538 t541 t544 t549 t550 t551 t552 t553 t556 t559).bind fun t566=>(if t566=true then (if t547=t562 then ((mapjnl_Parts.f a3).bind fun t567=>((slipwayref06_Parts.f a3).bind fun t568=>(if t567=t568 then ((mapjnl_SamePage.f k a4_0 a4_1 a4_2 a4_3 l4_4 l4_5 l4_6 a5_0 a5_1 a5_2 a5_3 l5_4 l5_5 l5_6).bind fun t569=>((slipwayref06_SamePage.f k a4_0 a4_1 a4_2 a4_3 l4_4 l4_5 l4_6 a5_0 a5_1 a5_2 a5_3 l5_4 l5_5 l5_6).bind fun t570=>(if (t569 == t570)=true then ((mapjnl_SamePage.f k a4_0 a4_1 a4_2 a4_3 l4_4 l4_5 l4_6 a4_0 a4_1 a4_2 a4_3 l4_4 l4_5 l4_6).bind fun t571=>(some t571)) else (none)))) else (none)))) else (none)) else (none))) else (none)) else (none))=some r:=H
  have A13:=zm A130
  clear A130
  by_cases c14:t565=true
  ·subst c14
   have H1:(if t529=t533 then ((slipwayref06_SamePage.f k t534 t535 t536 t537 t538 t541 t544 t549 t550 t551 t552 t553 t556 t559).bind fun t566=>(if t566=true then (if t547=t562 then ((mapjnl_Parts.f a3).bind fun t567=>((slipwayref06_Parts.f a3).bind fun t568=>(if t567=t568 then ((mapjnl_SamePage.f k a4_0 a4_1 a4_2 a4_3 l4_4 l4_5 l4_6 a5_0 a5_1 a5_2 a5_3 l5_4 l5_5 l5_6).bind fun t569=>((slipwayref06_SamePage.f k a4_0 a4_1 a4_2 a4_3 l4_4 l4_5 l4_6 a5_0 a5_1 a5_2 a5_3 l5_4 l5_5 l5_6).bind fun t570=>(if (t569 == t570)=true then ((mapjnl_SamePage.f k a4_0 a4_1 a4_2 a4_3 l4_4 l4_5 l4_6 a4_0 a4_1 a4_2 a4_3 l4_4 l4_5 l4_6).bind fun t571=>(some t571)) else (none)))) else (none)))) else (none)) else (none))) else (none))=some r:=by rw [if_pos rfl] at H;exact H
   clear H
   have H:=H1
   clear H1
   by_cases c15:t529=t533
   ·rw [if_pos c15] at H
    have c15b0:(t529 == t533)=true:=beq_iff_eq.mpr c15
    have c15b1:(t529 != t533)=false:=bne_eq_false_iff_eq.mpr c15
    clear c15
    replace H:=Option.bind_eq_some_iff.mp H
    obtain ⟨t566,A160,H⟩:=H
    replace H:(if t566=true then (if t547=t562 then ((mapjnl_Parts.f a3).bind fun t567=>((slipwayref06_Parts.f a3).bind fun t568=>(if t567=t568 then ((mapjnl_SamePage.f k a4_0 a4_1 a4_2 a4_3 l4_4 l4_5 l4_6 a5_0 a5_1 a5_2 a5_3 l5_4 l5_5 l5_6).bind fun t569=>((slipwayref06_SamePage.f k a4_0 a4_1 a4_2 a4_3 l4_4 l4_5 l4_6 a5_0 a5_1 a5_2 a5_3 l5_4 l5_5 l5_6).bind fun t570=>(if (t569 == t570)=true then ((mapjnl_SamePage.f k a4_0 a4_1 a4_2 a4_3 l4_4 l4_5 l4_6 a4_0 a4_1 a4_2 a4_3 l4_4 l4_5 l4_6).bind fun t571=>(some t571)) else (none)))) else (none)))) else (none)) else (none))=some r:=H
    have A16:=zm A160
    clear A160
    by_cases c17:t566=true
    ·subst c17
     have H1:(if t547=t562 then ((mapjnl_Parts.f a3).bind fun t567=>((slipwayref06_Parts.f a3).bind fun t568=>(if t567=t568 then ((mapjnl_SamePage.f k a4_0 a4_1 a4_2 a4_3 l4_4 l4_5 l4_6 a5_0 a5_1 a5_2 a5_3 l5_4 l5_5 l5_6).bind fun t569=>((slipwayref06_SamePage.f k a4_0 a4_1 a4_2 a4_3 l4_4 l4_5 l4_6 a5_0 a5_1 a5_2 a5_3 l5_4 l5_5 l5_6).bind fun t570=>(if (t569 == t570)=true then ((mapjnl_SamePage.f k a4_0 a4_1 a4_2 a4_3 l4_4 l4_5 l4_6 a4_0 a4_1 a4_2 a4_3 l4_4 l4_5 l4_6).bind fun t571=>(some t571)) else (none)))) else (none)))) else (none))=some r:=by rw [if_pos rfl] at H;exact H
     clear H
     have H:=H1
     clear H1
     by_cases c18:t547=t562
     ·rw [if_pos c18] at H
      have c18b0:(t547 == t562)=true:=beq_iff_eq.mpr c18
      have c18b1:(t547 != t562)=false:=bne_eq_false_iff_eq.mpr c18
      clear c18
      replace H:=Option.bind_eq_some_iff.mp H
      obtain ⟨t567,A190,H⟩:=H
      replace H:((slipwayref06_Parts.f a3).bind fun t568=>(if t567=t568 then ((mapjnl_SamePage.f k a4_0 a4_1 a4_2 a4_3 l4_4 l4_5 l4_6 a5_0 a5_1 a5_2 a5_3 l5_4 l5_5 l5_6).bind fun t569=>((slipwayref06_SamePage.f k a4_0 a4_1 a4_2 a4_3 l4_4 l4_5 l4_6 a5_0 a5_1 a5_2 a5_3 l5_4 l5_5 l5_6).bind fun t570=>(if (t569 == t570)=true then ((mapjnl_SamePage.f k a4_0 a4_1 a4_2 a4_3 l4_4 l4_5 l4_6 a4_0 a4_1 a4_2 a4_3 l4_4 l4_5 l4_6).bind fun t571=>(some t571)) else (none)))) else (none)))=some r:=H
      have A19:=zm A190
      clear A190
      replace H:=Option.bind_eq_some_iff.mp H
      obtain ⟨t568,A200,H⟩:=H
      replace H:(if t567=t568 then ((mapjnl_SamePage.f k a4_0 a4_1 a4_2 a4_3 l4_4 l4_5 l4_6 a5_0 a5_1 a5_2 a5_3 l5_4 l5_5 l5_6).bind fun t569=>((slipwayref06_SamePage.f k a4_0 a4_1 a4_2 a4_3 l4_4 l4_5 l4_6 a5_0 a5_1 a5_2 a5_3 l5_4 l5_5 l5_6).bind fun t570=>(if (t569 == t570)=true then ((mapjnl_SamePage.f k a4_0 a4_1 a4_2 a4_3 l4_4 l4_5 l4_6 a4_0 a4_1 a4_2 a4_3 l4_4 l4_5 l4_6).bind fun t571=>(some t571)) else (none)))) else (none))=some r:=H
      have A20:=zm A200
      clear A200
      by_cases c21:t567=t568
      ·rw [if_pos c21] at H
       have c21b0:(t567 == t568)=true:=beq_iff_eq.mpr c21
       have c21b1:(t567 != t568)=false:=bne_eq_false_iff_eq.mpr c21
       clear c21
       replace H:=Option.bind_eq_some_iff.mp H
       obtain ⟨t569,A220,H⟩:=H
       replace H:((slipwayref06_SamePage.f k a4_0 a4_1 a4_2 a4_3 l4_4 l4_5 l4_6 a5_0 a5_1 a5_2 a5_3 l5_4 l5_5 l5_6).bind fun t570=>(if (t569 == t570)=true then ((mapjnl_SamePage.f k a4_0 a4_1 a4_2 a4_3 l4_4 l4_5 l4_6 a4_0 a4_1 a4_2 a4_3 l4_4 l4_5 l4_6).bind fun t571=>(some t571)) else (none)))=some r:=H
       have A22:=zm A220
       clear A220
       replace H:=Option.bind_eq_some_iff.mp H
       obtain ⟨t570,A230,H⟩:=H
       replace H:(if (t569 == t570)=true then ((mapjnl_SamePage.f k a4_0 a4_1 a4_2 a4_3 l4_4 l4_5 l4_6 a4_0 a4_1 a4_2 a4_3 l4_4 l4_5 l4_6).bind fun t571=>(some t571)) else (none))=some r:=H
       have A23:=zm A230
       clear A230
       by_cases c24:(t569 == t570)=true
       ·rw [if_pos c24] at H
        have c24b0:(t569 == t570)=true:=c24
        (try (have c24b1:decide (t569=t570)=true:=by simpa using c24))
        (try (have c24b2:(t569 == t570)=true:=by simpa using c24))
        clear c24
        replace H:=Option.bind_eq_some_iff.mp H
        obtain ⟨t571,A250,H⟩:=H
        replace H:(some t571)=some r:=H
        have A25:=zm A250
        clear A250
        obtain rfl:=Option.some.inj H
        go_enter Try.func5,Try.ntmps5
        try go_wp2_with (first|((with_reducible refine gate_dst (N:=6) rfl ?_);refine box_event ?hg (N:=6) ?hd (cs:=#[.slice A0_0 l0_0.length c0_0,.slice A0_1 l0_1.length c0_1,.int .i64 a0_2]) (t:=25) ?hr ?_;(case hd=>rfl);(case hg=>rfl);(case hr=>first|(go_simp;done)|(go_simp;rfl));intro gb523 hg w26 hbox hb;have n0_:=zm (below_step (by repeat (first|(with_reducible first|exact HB.out|apply zlA|apply zlN|apply zlD)|exact HB.out)) hb);have n1_:=zm (hbox);have n2_:=zm ((by rw [hg];exact (below_size (by repeat (first|(with_reducible first|exact HB.out|apply zlA|apply zlN|apply zlD)|exact HB.out))):w.heap.size≤gb523));have n3_:=zm ((by rw [hg];exact (below_size (by repeat (first|(with_reducible first|exact HB.out|apply zlA|apply zlN|apply zlD)|exact HB.out))):w.heap.size≤gb523));clear HB;have HB:=n0_;have BK523:=n1_;have GW523:=n2_;have GE523:=n3_;clear n0_ n1_ n2_ n3_;clear hb hbox hg)|((with_reducible refine gate_dst (N:=10) rfl ?_);refine box_event ?hg (N:=10) ?hd (cs:=#[.int .i64 a4_0,.int .i64 a4_1,.int .i64 a4_2,.int .i64 a4_3,.slice A4_4 l4_4.length c4_4,.slice A4_5 l4_5.length c4_5,.slice A4_6 l4_6.length c4_6]) (t:=42) ?hr ?_;(case hd=>rfl);(case hg=>rfl);(case hr=>first|(go_simp;done)|(go_simp;rfl));intro gb524 hg w27 hbox hb;have n0_:=zm (zbB (g:=gb523) (o:=.cells #[.slice A0_0 l0_0.length c0_0,.slice A0_1 l0_1.length c0_1,.int .i64 a0_2] 25 (0,0)) (by (with_reducible repeat (first|refine zbN ?_ _|refine zbD ?_|refine zbA ?_ _));exact BK523.out) hb);have n1_:=zm (below_step (by repeat (first|(with_reducible first|exact HB.out|apply zlA|apply zlN|apply zlD|refine zlS ?_ GE523.out)|exact HB.out)) hb);have n2_:=zm (hbox);have n3_:=zm ((by rw [hg];exact (below_size (by repeat (first|(with_reducible first|exact HB.out|apply zlA|apply zlN|apply zlD|refine zlS ?_ GE523.out)|exact HB.out))):w.heap.size≤gb524));have n4_:=zm ((by rw [hg];exact (below_size (by repeat (first|(with_reducible first|exact HB.out|apply zlA|apply zlN|apply zlD|refine zlS ?_ GE523.out)|exact HB.out))):w.heap.size≤gb524));have n5_:=zm ((by rw [hg];exact Nat.ne_of_lt (blk_lt (g:=gb523) (o:=.cells #[.slice A0_0 l0_0.length c0_0,.slice A0_1 l0_1.length c0_1,.int .i64 a0_2] 25 (0,0)) (by (with_reducible repeat (first|refine zbN ?_ _|refine zbD ?_|refine zbA ?_ _));exact BK523.out)):gb523≠gb524));have n6_:=zm ((by rw [hg];exact Nat.ne_of_gt (blk_lt (g:=gb523) (o:=.cells #[.slice A0_0 l0_0.length c0_0,.slice A0_1 l0_1.length c0_1,.int .i64 a0_2] 25 (0,0)) (by (with_reducible repeat (first|refine zbN ?_ _|refine zbD ?_|refine zbA ?_ _));exact BK523.out)):gb524≠gb523));clear BK523 HB;have BK523:=n0_;have HB:=n1_;have BK524:=n2_;have GW524:=n3_;have GE524:=n4_;have NB523_524:=n5_;have NB524_523:=n6_;clear n0_ n1_ n2_ n3_ n4_ n5_ n6_;clear hb hbox hg)|((with_reducible refine gate_dst (N:=11) rfl ?_);refine box_event ?hg (N:=11) ?hd (cs:=#[.int .i64 a5_0,.int .i64 a5_1,.int .i64 a5_2,.int .i64 a5_3,.slice A5_4 l5_4.length c5_4,.slice A5_5 l5_5.length c5_5,.slice A5_6 l5_6.length c5_6]) (t:=42) ?hr ?_;(case hd=>rfl);(case hg=>rfl);(case hr=>first|(go_simp;done)|(go_simp;rfl));intro gb525 hg w28 hbox hb;have n0_:=zm (zbB (g:=gb523) (o:=.cells #[.slice A0_0 l0_0.length c0_0,.slice A0_1 l0_1.length c0_1,.int .i64 a0_2] 25 (0,0)) (by (with_reducible repeat (first|refine zbN ?_ _|refine zbD ?_|refine zbA ?_ _));exact BK523.out) hb);have n1_:=zm (zbB (g:=gb524) (o:=.cells #[.int .i64 a4_0,.int .i64 a4_1,.int .i64 a4_2,.int .i64 a4_3,.slice A4_4 l4_4.length c4_4,.slice A4_5 l4_5.length c4_5,.slice A4_6 l4_6.length c4_6] 42 (0,0)) (by (with_reducible repeat (first|refine zbN ?_ _|refine zbD ?_|refine zbA ?_ _));exact BK524.out) hb);have n2_:=zm (below_step (by repeat (first|(with_reducible first|exact HB.out|apply zlA|apply zlN|apply zlD|refine zlS ?_ GE523.out|refine zlS ?_ GE524.out)|exact HB.out)) hb);have n3_:=zm (hbox);have n4_:=zm ((by rw [hg];exact (below_size (by repeat (first|(with_reducible first|exact HB.out|apply zlA|apply zlN|apply zlD|refine zlS ?_ GE523.out|refine zlS ?_ GE524.out)|exact HB.out))):w.heap.size≤gb525));have n5_:=zm ((by rw [hg];exact (below_size (by repeat (first|(with_reducible first|exact HB.out|apply zlA|apply zlN|apply zlD|refine zlS ?_ GE523.out|refine zlS ?_ GE524.out)|exact HB.out))):w.heap.size≤gb525));have n6_:=zm ((by rw [hg];exact Nat.ne_of_lt (blk_lt (g:=gb523) (o:=.cells #[.slice A0_0 l0_0.length c0_0,.slice A0_1 l0_1.length c0_1,.int .i64 a0_2] 25 (0,0)) (by (with_reducible repeat (first|refine zbN ?_ _|refine zbD ?_|refine zbA ?_ _));exact BK523.out)):gb523≠gb525));have n7_:=zm ((by rw [hg];exact Nat.ne_of_gt (blk_lt (g:=gb523) (o:=.cells #[.slice A0_0 l0_0.length c0_0,.slice A0_1 l0_1.length c0_1,.int .i64 a0_2] 25 (0,0)) (by (with_reducible repeat (first|refine zbN ?_ _|refine zbD ?_|refine zbA ?_ _));exact BK523.out)):gb525≠gb523));have n8_:=zm ((by rw [hg];exact Nat.ne_of_lt (blk_lt (g:=gb524) (o:=.cells #[.int .i64 a4_0,.int .i64 a4_1,.int .i64 a4_2,.int .i64 a4_3,.slice A4_4 l4_4.length c4_4,.slice A4_5 l4_5.length c4_5,.slice A4_6 l4_6.length c4_6] 42 (0,0)) (by (with_reducible repeat (first|refine zbN ?_ _|refine zbD ?_|refine zbA ?_ _));exact BK524.out)):gb524≠gb525));have n9_:=zm ((by rw [hg];exact Nat.ne_of_gt (blk_lt (g:=gb524) (o:=.cells #[.int .i64 a4_0,.int .i64 a4_1,.int .i64 a4_2,.int .i64 a4_3,.slice A4_4 l4_4.length c4_4,.slice A4_5 l4_5.length c4_5,.slice A4_6 l4_6.length c4_6] 42 (0,0)) (by (with_reducible repeat (first|refine zbN ?_ _|refine zbD ?_|refine zbA ?_ _));exact BK524.out)):gb525≠gb524));clear BK523 BK524 HB;have BK523:=n0_;have BK524:=n1_;have HB:=n2_;have BK525:=n3_;have GW525:=n4_;have GE525:=n5_;have NB523_525:=n6_;have NB525_523:=n7_;have NB524_525:=n8_;have NB525_524:=n9_;clear n0_ n1_ n2_ n3_ n4_ n5_ n6_ n7_ n8_ n9_;clear hb hbox hg;have hnb29:=NB523_524.out;have hnc29:=NB524_523.out;have hnb30:=NB523_525.out;have hnc30:=NB525_523.out;have hcz31_0:w28.cell? ⟨gb523,0,none⟩=some (.slice A0_0 l0_0.length c0_0):=(blk_cell BK523.out 0).trans rfl;have hcz31_1:w28.cell? ⟨gb523,1,none⟩=some (.slice A0_1 l0_1.length c0_1):=(blk_cell BK523.out 1).trans rfl;have hcz31_2:w28.cell? ⟨gb523,2,none⟩=some (.int .i64 a0_2):=(blk_cell BK523.out 2).trans rfl;have hfz31_0:=blk_frozen BK523.out 0;have hfz31_1:=blk_frozen BK523.out 1;have hfz31_2:=blk_frozen BK523.out 2)|((with_reducible refine gate_callee (f:=27) rfl ?_);refine goesL_ (some 24) rfl rfl Try.func27 (by kernel_rfl) rfl #[.agg #[.slice A0_0 l0_0.length c0_0,.slice A0_1 l0_1.length c0_1,.int .i64 a0_2],.int .i64 a1] rfl (by (try simp only [List.map_toArray,List.map_cons,List.map_nil]);first|done|rfl|(simp only [List.length_drop,List.length_take];rfl)) ?_;(with_reducible refine (mapjnl_Checkpoint.calls k _ _ l0_0 _ _ l0_1 a0_2 a1 t526 t529 _ ?side1 ?side2 ?side3 ?side4 A7.out).mono ?_);(case side1=>repeat (first|exact (Kd.C_below HR0_0.out HB.out)|(with_reducible refine Kd.C_alloc ?_ _)|(with_reducible refine Kd.C_drewN ?_ _)|(with_reducible refine Kd.C_drew ?_)));(case side2=>exact HC0_0.out);(case side3=>repeat (first|exact (Kd.C_below HR0_1.out HB.out)|(with_reducible refine Kd.C_alloc ?_ _)|(with_reducible refine Kd.C_drewN ?_ _)|(with_reducible refine Kd.C_drew ?_)));(case side4=>exact HC0_1.out);rintro e w32 ⟨v527,rfl,ho0,hb⟩;refine ⟨_,rfl,?_⟩;have n0_:=zm (Kd.S_lower (Kd.S_newB (Kd.S_newB ho0 (g:=gb524) (o:=.cells #[.int .i64 a4_0,.int .i64 a4_1,.int .i64 a4_2,.int .i64 a4_3,.slice A4_4 l4_4.length c4_4,.slice A4_5 l4_5.length c4_5,.slice A4_6 l4_6.length c4_6] 42 (0,0)) (by (with_reducible repeat (first|refine zbN ?_ _|refine zbD ?_|refine zbA ?_ _));exact BK524.out)) (g:=gb525) (o:=.cells #[.int .i64 a5_0,.int .i64 a5_1,.int .i64 a5_2,.int .i64 a5_3,.slice A5_4 l5_4.length c5_4,.slice A5_5 l5_5.length c5_5,.slice A5_6 l5_6.length c5_6] 42 (0,0)) (by (with_reducible repeat (first|refine zbN ?_ _|refine zbD ?_|refine zbA ?_ _));exact BK525.out)) (below_size (by repeat (first|(with_reducible first|exact HB.out|apply zlA|apply zlN|apply zlD|refine zlS ?_ GE523.out|refine zlS ?_ GE524.out|refine zlS ?_ GE525.out)|exact HB.out))));have n1_:=zm (zbB (g:=gb523) (o:=.cells #[.slice A0_0 l0_0.length c0_0,.slice A0_1 l0_1.length c0_1,.int .i64 a0_2] 25 (0,0)) (by (with_reducible repeat (first|refine zbN ?_ _|refine zbD ?_|refine zbA ?_ _));exact BK523.out) hb);have n2_:=zm (zbB (g:=gb524) (o:=.cells #[.int .i64 a4_0,.int .i64 a4_1,.int .i64 a4_2,.int .i64 a4_3,.slice A4_4 l4_4.length c4_4,.slice A4_5 l4_5.length c4_5,.slice A4_6 l4_6.length c4_6] 42 (0,0)) (by (with_reducible repeat (first|refine zbN ?_ _|refine zbD ?_|refine zbA ?_ _));exact BK524.out) hb);have n3_:=zm (zbB (g:=gb525) (o:=.cells #[.int .i64 a5_0,.int .i64 a5_1,.int .i64 a5_2,.int .i64 a5_3,.slice A5_4 l5_4.length c5_4,.slice A5_5 l5_5.length c5_5,.slice A5_6 l5_6.length c5_6] 42 (0,0)) (by (with_reducible repeat (first|refine zbN ?_ _|refine zbD ?_|refine zbA ?_ _));exact BK525.out) hb);have n4_:=zm (below_step (by repeat (first|(with_reducible first|exact HB.out|apply zlA|apply zlN|apply zlD|refine zlS ?_ GE523.out|refine zlS ?_ GE524.out|refine zlS ?_ GE525.out)|exact HB.out)) hb);clear BK523 BK524 BK525 HB;have HO528:=n0_;have BK523:=n1_;have BK524:=n2_;have BK525:=n3_;have HB:=n4_;clear n0_ n1_ n2_ n3_ n4_;(try clear hb);(try clear hb2);(try clear hk);(try clear hi);(try clear ho0);have hcz33_0:w32.cell? ⟨gb523,0,none⟩=some (.slice A0_0 l0_0.length c0_0):=(blk_cell BK523.out 0).trans rfl;have hcz33_1:w32.cell? ⟨gb523,1,none⟩=some (.slice A0_1 l0_1.length c0_1):=(blk_cell BK523.out 1).trans rfl;have hcz33_2:w32.cell? ⟨gb523,2,none⟩=some (.int .i64 a0_2):=(blk_cell BK523.out 2).trans rfl;have hfz33_0:=blk_frozen BK523.out 0;have hfz33_1:=blk_frozen BK523.out 1;have hfz33_2:=blk_frozen BK523.out 2)|((with_reducible refine gate_callee (f:=28) rfl ?_);refine goesL_ (some 30) rfl rfl Try.func28 (by kernel_rfl) rfl #[.agg #[.slice A0_0 l0_0.length c0_0,.slice A0_1 l0_1.length c0_1,.int .i64 a0_2],.int .i64 a1] rfl (by (try simp only [List.map_toArray,List.map_cons,List.map_nil]);first|done|rfl|(simp only [List.length_drop,List.length_take];rfl)) ?_;(with_reducible refine (slipwayref06_Checkpoint.calls k _ _ l0_0 _ _ l0_1 a0_2 a1 t530 t533 _ ?side1 ?side2 ?side3 ?side4 A8.out).mono ?_);(case side1=>repeat (first|exact (Kd.C_below HR0_0.out HB.out)|(with_reducible refine Kd.C_alloc ?_ _)|(with_reducible refine Kd.C_drewN ?_ _)|(with_reducible refine Kd.C_drew ?_)));(case side2=>exact HC0_0.out);(case side3=>repeat (first|exact (Kd.C_below HR0_1.out HB.out)|(with_reducible refine Kd.C_alloc ?_ _)|(with_reducible refine Kd.C_drewN ?_ _)|(with_reducible refine Kd.C_drew ?_)));(case side4=>exact HC0_1.out);rintro e w34 ⟨v531,rfl,ho0,hb⟩;refine ⟨_,rfl,?_⟩;have n0_:=zm (Kd.S_elder' (by (with_reducible repeat (first|apply Kd.S_alloc|apply Kd.S_drewN|apply Kd.S_drew));exact HO528.out) (Kd.S_base ho0) hb);have n1_:=zm (Kd.S_lower (Kd.S_newB (Kd.S_newB (Kd.S_new' ho0 (Kd.S_lt (by (with_reducible repeat (first|apply Kd.S_alloc|apply Kd.S_drewN|apply Kd.S_drew));exact HO528.out))) (g:=gb524) (o:=.cells #[.int .i64 a4_0,.int .i64 a4_1,.int .i64 a4_2,.int .i64 a4_3,.slice A4_4 l4_4.length c4_4,.slice A4_5 l4_5.length c4_5,.slice A4_6 l4_6.length c4_6] 42 (0,0)) (by (with_reducible repeat (first|refine zbN ?_ _|refine zbD ?_|refine zbA ?_ _));exact BK524.out)) (g:=gb525) (o:=.cells #[.int .i64 a5_0,.int .i64 a5_1,.int .i64 a5_2,.int .i64 a5_3,.slice A5_4 l5_4.length c5_4,.slice A5_5 l5_5.length c5_5,.slice A5_6 l5_6.length c5_6] 42 (0,0)) (by (with_reducible repeat (first|refine zbN ?_ _|refine zbD ?_|refine zbA ?_ _));exact BK525.out)) (below_size (by repeat (first|(with_reducible first|exact HB.out|apply zlA|apply zlN|apply zlD|refine zlS ?_ GE523.out|refine zlS ?_ GE524.out|refine zlS ?_ GE525.out)|exact HB.out))));have n2_:=zm (zbB (g:=gb523) (o:=.cells #[.slice A0_0 l0_0.length c0_0,.slice A0_1 l0_1.length c0_1,.int .i64 a0_2] 25 (0,0)) (by (with_reducible repeat (first|refine zbN ?_ _|refine zbD ?_|refine zbA ?_ _));exact BK523.out) hb);have n3_:=zm (zbB (g:=gb524) (o:=.cells #[.int .i64 a4_0,.int .i64 a4_1,.int .i64 a4_2,.int .i64 a4_3,.slice A4_4 l4_4.length c4_4,.slice A4_5 l4_5.length c4_5,.slice A4_6 l4_6.length c4_6] 42 (0,0)) (by (with_reducible repeat (first|refine zbN ?_ _|refine zbD ?_|refine zbA ?_ _));exact BK524.out) hb);have n4_:=zm (zbB (g:=gb525) (o:=.cells #[.int .i64 a5_0,.int .i64 a5_1,.int .i64 a5_2,.int .i64 a5_3,.slice A5_4 l5_4.length c5_4,.slice A5_5 l5_5.length c5_5,.slice A5_6 l5_6.length c5_6] 42 (0,0)) (by (with_reducible repeat (first|refine zbN ?_ _|refine zbD ?_|refine zbA ?_ _));exact BK525.out) hb);have n5_:=zm (below_step (by repeat (first|(with_reducible first|exact HB.out|apply zlA|apply zlN|apply zlD|refine zlS ?_ GE523.out|refine zlS ?_ GE524.out|refine zlS ?_ GE525.out)|exact HB.out)) hb);clear HO528 BK523 BK524 BK525 HB;have HO528:=n0_;have HO532:=n1_;have BK523:=n2_;have BK524:=n3_;have BK525:=n4_;have HB:=n5_;clear n0_ n1_ n2_ n3_ n4_ n5_;(try clear hb);(try clear hb2);(try clear hk);(try clear hi);(try clear ho0))|((with_reducible refine gate_callee (f:=29) rfl ?_);refine goesL_ (some 36) rfl rfl Try.func29 (by kernel_rfl) rfl #[.int .i64 a1,.slice A2 l2.length c2] rfl (by (try simp only [List.map_toArray,List.map_cons,List.map_nil]);first|done|rfl|(simp only [List.length_drop,List.length_take];rfl)) ?_;(with_reducible refine (mapjnl_Records.calls k a1 _ _ l2 t534 t535 t536 t537 t538 t541 t544 t547 _ ?side1 ?side2 A9.out).mono ?_);(case side1=>repeat (first|exact (Kd.C_below HR2.out HB.out)|(with_reducible refine Kd.C_alloc ?_ _)|(with_reducible refine Kd.C_drewN ?_ _)|(with_reducible refine Kd.C_drew ?_)));(case side2=>exact HC2.out);rintro e w35 ⟨v539,v542,v545,rfl,ho0,ho1,ho2,hb⟩;refine ⟨_,rfl,?_⟩;have n0_:=zm (Kd.S_mono (Kd.S_told (Kd.S_told (Kd.S_told (Kd.S_old (by (with_reducible repeat (first|apply Kd.S_alloc|apply Kd.S_drewN|apply Kd.S_drew));exact HO528.out) hb) (Kd.R_base ho0)) (Kd.R_base ho1)) (Kd.R_base ho2)) (fun _ h_=>h_.1));have n1_:=zm (Kd.S_mono (Kd.S_told (Kd.S_told (Kd.S_told (Kd.S_old (by (with_reducible repeat (first|apply Kd.S_alloc|apply Kd.S_drewN|apply Kd.S_drew));exact HO532.out) hb) (Kd.R_base ho0)) (Kd.R_base ho1)) (Kd.R_base ho2)) (fun _ h_=>h_.1));have n2_:=zm (Kd.R_lower ho0 (below_size (by repeat (first|(with_reducible first|exact HB.out|apply zlA|apply zlN|apply zlD|refine zlS ?_ GE523.out|refine zlS ?_ GE524.out|refine zlS ?_ GE525.out)|exact HB.out))));have n3_:=zm (Kd.R_lower ho1 (below_size (by repeat (first|(with_reducible first|exact HB.out|apply zlA|apply zlN|apply zlD|refine zlS ?_ GE523.out|refine zlS ?_ GE524.out|refine zlS ?_ GE525.out)|exact HB.out))));have n4_:=zm (Kd.R_lower ho2 (below_size (by repeat (first|(with_reducible first|exact HB.out|apply zlA|apply zlN|apply zlD|refine zlS ?_ GE523.out|refine zlS ?_ GE524.out|refine zlS ?_ GE525.out)|exact HB.out))));have n5_:=zm (zbB (g:=gb523) (o:=.cells #[.slice A0_0 l0_0.length c0_0,.slice A0_1 l0_1.length c0_1,.int .i64 a0_2] 25 (0,0)) (by (with_reducible repeat (first|refine zbN ?_ _|refine zbD ?_|refine zbA ?_ _));exact BK523.out) hb);have n6_:=zm (zbB (g:=gb524) (o:=.cells #[.int .i64 a4_0,.int .i64 a4_1,.int .i64 a4_2,.int .i64 a4_3,.slice A4_4 l4_4.length c4_4,.slice A4_5 l4_5.length c4_5,.slice A4_6 l4_6.length c4_6] 42 (0,0)) (by (with_reducible repeat (first|refine zbN ?_ _|refine zbD ?_|refine zbA ?_ _));exact BK524.out) hb);have n7_:=zm (zbB (g:=gb525) (o:=.cells #[.int .i64 a5_0,.int .i64 a5_1,.int .i64 a5_2,.int .i64 a5_3,.slice A5_4 l5_4.length c5_4,.slice A5_5 l5_5.length c5_5,.slice A5_6 l5_6.length c5_6] 42 (0,0)) (by (with_reducible repeat (first|refine zbN ?_ _|refine zbD ?_|refine zbA ?_ _));exact BK525.out) hb);have n8_:=zm (below_step (by repeat (first|(with_reducible first|exact HB.out|apply zlA|apply zlN|apply zlD|refine zlS ?_ GE523.out|refine zlS ?_ GE524.out|refine zlS ?_ GE525.out)|exact HB.out)) hb);clear HO528 HO532 BK523 BK524 BK525 HB;have HO528:=n0_;have HO532:=n1_;have HO540:=n2_;have HO543:=n3_;have HO546:=n4_;have BK523:=n5_;have BK524:=n6_;have BK525:=n7_;have HB:=n8_;clear n0_ n1_ n2_ n3_ n4_ n5_ n6_ n7_ n8_;(try clear hb);(try clear hb2);(try clear hk);(try clear hi);(try clear ho0);(try clear ho1);(try clear ho2))|((with_reducible refine gate_dst (N:=17) rfl ?_);refine box_event ?hg (N:=17) ?hd (cs:=#[.int .i64 0,.int .i64 0,.int .i64 0,.int .i64 0,.slice none 0 0,.slice none 0 0,.slice none 0 0]) (t:=42) ?hr ?_;(case hd=>rfl);(case hg=>rfl);(case hr=>first|(go_simp;done)|(go_simp;rfl));intro gb548 hg w36 hbox hb;have n0_:=zm (Kd.S_below (Kd.S_elderB (by (with_reducible repeat (first|apply Kd.S_alloc|apply Kd.S_drewN|apply Kd.S_drew));exact HO528.out) gb548 (Nat.le_of_eq hg.symm)) hb);have n1_:=zm (Kd.S_below (Kd.S_elderB (by (with_reducible repeat (first|apply Kd.S_alloc|apply Kd.S_drewN|apply Kd.S_drew));exact HO532.out) gb548 (Nat.le_of_eq hg.symm)) hb);have n2_:=zm (Kd.R_below (by (with_reducible repeat (first|apply zrA|apply zrN|apply zrD));exact HO540.out) hb);have n3_:=zm (Kd.R_below (by (with_reducible repeat (first|apply zrA|apply zrN|apply zrD));exact HO543.out) hb);have n4_:=zm (Kd.R_below (by (with_reducible repeat (first|apply zrA|apply zrN|apply zrD));exact HO546.out) hb);have n5_:=zm (zbB (g:=gb523) (o:=.cells #[.slice A0_0 l0_0.length c0_0,.slice A0_1 l0_1.length c0_1,.int .i64 a0_2] 25 (0,0)) (by (with_reducible repeat (first|refine zbN ?_ _|refine zbD ?_|refine zbA ?_ _));exact BK523.out) hb);have n6_:=zm (zbB (g:=gb524) (o:=.cells #[.int .i64 a4_0,.int .i64 a4_1,.int .i64 a4_2,.int .i64 a4_3,.slice A4_4 l4_4.length c4_4,.slice A4_5 l4_5.length c4_5,.slice A4_6 l4_6.length c4_6] 42 (0,0)) (by (with_reducible repeat (first|refine zbN ?_ _|refine zbD ?_|refine zbA ?_ _));exact BK524.out) hb);have n7_:=zm (zbB (g:=gb525) (o:=.cells #[.int .i64 a5_0,.int .i64 a5_1,.int .i64 a5_2,.int .i64 a5_3,.slice A5_4 l5_4.length c5_4,.slice A5_5 l5_5.length c5_5,.slice A5_6 l5_6.length c5_6] 42 (0,0)) (by (with_reducible repeat (first|refine zbN ?_ _|refine zbD ?_|refine zbA ?_ _));exact BK525.out) hb);have n8_:=zm (below_step (by repeat (first|(with_reducible first|exact HB.out|apply zlA|apply zlN|apply zlD|refine zlS ?_ GE523.out|refine zlS ?_ GE524.out|refine zlS ?_ GE525.out)|exact HB.out)) hb);have n9_:=zm (hbox);have n10_:=zm ((by rw [hg];exact (below_size (by repeat (first|(with_reducible first|exact HB.out|apply zlA|apply zlN|apply zlD|refine zlS ?_ GE523.out|refine zlS ?_ GE524.out|refine zlS ?_ GE525.out)|exact HB.out))):w.heap.size≤gb548));have n11_:=zm ((by rw [hg];exact (below_size (by repeat (first|(with_reducible first|exact HB.out|apply zlA|apply zlN|apply zlD|refine zlS ?_ GE523.out|refine zlS ?_ GE524.out|refine zlS ?_ GE525.out)|exact HB.out))):w.heap.size≤gb548));have n12_:=zm ((by rw [hg];exact Nat.ne_of_lt (blk_lt (g:=gb523) (o:=.cells #[.slice A0_0 l0_0.length c0_0,.slice A0_1 l0_1.length c0_1,.int .i64 a0_2] 25 (0,0)) (by (with_reducible repeat (first|refine zbN ?_ _|refine zbD ?_|refine zbA ?_ _));exact BK523.out)):gb523≠gb548));have n13_:=zm ((by rw [hg];exact Nat.ne_of_gt (blk_lt (g:=gb523) (o:=.cells #[.slice A0_0 l0_0.length c0_0,.slice A0_1 l0_1.length c0_1,.int .i64 a0_2] 25 (0,0)) (by (with_reducible repeat (first|refine zbN ?_ _|refine zbD ?_|refine zbA ?_ _));exact BK523.out)):gb548≠gb523));have n14_:=zm ((by rw [hg];exact Nat.ne_of_lt (blk_lt (g:=gb524) (o:=.cells #[.int .i64 a4_0,.int .i64 a4_1,.int .i64 a4_2,.int .i64 a4_3,.slice A4_4 l4_4.length c4_4,.slice A4_5 l4_5.length c4_5,.slice A4_6 l4_6.length c4_6] 42 (0,0)) (by (with_reducible repeat (first|refine zbN ?_ _|refine zbD ?_|refine zbA ?_ _));exact BK524.out)):gb524≠gb548));have n15_:=zm ((by rw [hg];exact Nat.ne_of_gt (blk_lt (g:=gb524) (o:=.cells #[.int .i64 a4_0,.int .i64 a4_1,.int .i64 a4_2,.int .i64 a4_3,.slice A4_4 l4_4.length c4_4,.slice A4_5 l4_5.length c4_5,.slice A4_6 l4_6.length c4_6] 42 (0,0)) (by (with_reducible repeat (first|refine zbN ?_ _|refine zbD ?_|refine zbA ?_ _));exact BK524.out)):gb548≠gb524));have n16_:=zm ((by rw [hg];exact Nat.ne_of_lt (blk_lt (g:=gb525) (o:=.cells #[.int .i64 a5_0,.int .i64 a5_1,.int .i64 a5_2,.int .i64 a5_3,.slice A5_4 l5_4.length c5_4,.slice A5_5 l5_5.length c5_5,.slice A5_6 l5_6.length c5_6] 42 (0,0)) (by (with_reducible repeat (first|refine zbN ?_ _|refine zbD ?_|refine zbA ?_ _));exact BK525.out)):gb525≠gb548));have n17_:=zm ((by rw [hg];exact Nat.ne_of_gt (blk_lt (g:=gb525) (o:=.cells #[.int .i64 a5_0,.int .i64 a5_1,.int .i64 a5_2,.int .i64 a5_3,.slice A5_4 l5_4.length c5_4,.slice A5_5 l5_5.length c5_5,.slice A5_6 l5_6.length c5_6] 42 (0,0)) (by (with_reducible repeat (first|refine zbN ?_ _|refine zbD ?_|refine zbA ?_ _));exact BK525.out)):gb548≠gb525));clear HO528 HO532 HO540 HO543 HO546 BK523 BK524 BK525 HB;have HO528:=n0_;have HO532:=n1_;have HO540:=n2_;have HO543:=n3_;have HO546:=n4_;have BK523:=n5_;have BK524:=n6_;have BK525:=n7_;have HB:=n8_;have BK548:=n9_;have GW548:=n10_;have GE548:=n11_;have NB523_548:=n12_;have NB548_523:=n13_;have NB524_548:=n14_;have NB548_524:=n15_;have NB525_548:=n16_;have NB548_525:=n17_;clear n0_ n1_ n2_ n3_ n4_ n5_ n6_ n7_ n8_ n9_ n10_ n11_ n12_ n13_ n14_ n15_ n16_ n17_;clear hb hbox hg;have hnb37:=NB548_523.out;have hnc37:=NB523_548.out;have hnb38:=NB548_524.out;have hnc38:=NB524_548.out;have hnb39:=NB548_525.out;have hnc39:=NB525_548.out;have hcz40_0:w36.cell? ⟨gb548,0,none⟩=some (.int .i64 0):=(blk_cell BK548.out 0).trans rfl;have hcz40_1:w36.cell? ⟨gb548,1,none⟩=some (.int .i64 0):=(blk_cell BK548.out 1).trans rfl;have hcz40_2:w36.cell? ⟨gb548,2,none⟩=some (.int .i64 0):=(blk_cell BK548.out 2).trans rfl;have hcz40_3:w36.cell? ⟨gb548,3,none⟩=some (.int .i64 0):=(blk_cell BK548.out 3).trans rfl;have hcz40_4:w36.cell? ⟨gb548,4,none⟩=some (.slice none 0 0):=(blk_cell BK548.out 4).trans rfl;have hcz40_5:w36.cell? ⟨gb548,5,none⟩=some (.slice none 0 0):=(blk_cell BK548.out 5).trans rfl;have hcz40_6:w36.cell? ⟨gb548,6,none⟩=some (.slice none 0 0):=(blk_cell BK548.out 6).trans rfl;have hfz40_0:=blk_frozen BK548.out 0;have hfz40_1:=blk_frozen BK548.out 1;have hfz40_2:=blk_frozen BK548.out 2;have hfz40_3:=blk_frozen BK548.out 3;have hfz40_4:=blk_frozen BK548.out 4;have hfz40_5:=blk_frozen BK548.out 5;have hfz40_6:=blk_frozen BK548.out 6;obtain ⟨Ao41,co41,eo41⟩:=Kd.R_slice HO540.out;subst eo41;obtain ⟨Ao42,co42,eo42⟩:=Kd.R_slice HO543.out;subst eo42;obtain ⟨Ao43,co43,eo43⟩:=Kd.R_slice HO546.out;subst eo43)|((with_reducible refine gate_callee (f:=30) rfl ?_);refine goesL_ (some 42) rfl rfl Try.func30 (by kernel_rfl) rfl #[.int .i64 a1,.slice A2 l2.length c2] rfl (by (try simp only [List.map_toArray,List.map_cons,List.map_nil]);first|done|rfl|(simp only [List.length_drop,List.length_take];rfl)) ?_;(with_reducible refine (slipwayref06_Records.calls k a1 _ _ l2 t549 t550 t551 t552 t553 t556 t559 t562 _ ?side1 ?side2 A10.out).mono ?_);(case side1=>exact Kd.C_below HR2.out (by repeat (first|(with_reducible first|exact HB.out|apply zlA|apply zlN|apply zlD|refine zlS ?_ GE523.out|refine zlS ?_ GE524.out|refine zlS ?_ GE525.out|refine zlS ?_ GE548.out)|exact HB.out)));(case side2=>exact HC2.out);rintro e w44 ⟨v554,v557,v560,rfl,ho0,ho1,ho2,hb⟩;refine ⟨_,rfl,?_⟩;have n0_:=zm (Kd.S_mono (Kd.S_told (Kd.S_told (Kd.S_told (Kd.S_old (by (with_reducible repeat (first|apply Kd.S_alloc|apply Kd.S_drewN|apply Kd.S_drew));exact (Kd.S_mono (Kd.S_far (p:=⟨gb548,6,none⟩) (Kd.S_far (p:=⟨gb548,5,none⟩) (Kd.S_far (p:=⟨gb548,4,none⟩) (Kd.S_far (p:=⟨gb548,3,none⟩) (Kd.S_far (p:=⟨gb548,2,none⟩) (Kd.S_far (p:=⟨gb548,1,none⟩) (Kd.S_far (p:=⟨gb548,0,none⟩) (Kd.S_mono HO528.out (fun k_ hk=>(⟨hk,hk.2⟩:_∧k_≠gb548))) (fun _ hk=>hk.2) (.int .i64 t534)) (fun _ hk=>hk.2) (.int .i64 t535)) (fun _ hk=>hk.2) (.int .i64 t536)) (fun _ hk=>hk.2) (.int .i64 t537)) (fun _ hk=>hk.2) (.slice Ao41 t538.length co41)) (fun _ hk=>hk.2) (.slice Ao42 t541.length co42)) (fun _ hk=>hk.2) (.slice Ao43 t544.length co43)) (fun _ h_=>h_.1))) hb) (Kd.R_base ho0)) (Kd.R_base ho1)) (Kd.R_base ho2)) (fun _ h_=>h_.1));have n1_:=zm (Kd.S_mono (Kd.S_told (Kd.S_told (Kd.S_told (Kd.S_old (by (with_reducible repeat (first|apply Kd.S_alloc|apply Kd.S_drewN|apply Kd.S_drew));exact (Kd.S_mono (Kd.S_far (p:=⟨gb548,6,none⟩) (Kd.S_far (p:=⟨gb548,5,none⟩) (Kd.S_far (p:=⟨gb548,4,none⟩) (Kd.S_far (p:=⟨gb548,3,none⟩) (Kd.S_far (p:=⟨gb548,2,none⟩) (Kd.S_far (p:=⟨gb548,1,none⟩) (Kd.S_far (p:=⟨gb548,0,none⟩) (Kd.S_mono HO532.out (fun k_ hk=>(⟨hk,hk.2⟩:_∧k_≠gb548))) (fun _ hk=>hk.2) (.int .i64 t534)) (fun _ hk=>hk.2) (.int .i64 t535)) (fun _ hk=>hk.2) (.int .i64 t536)) (fun _ hk=>hk.2) (.int .i64 t537)) (fun _ hk=>hk.2) (.slice Ao41 t538.length co41)) (fun _ hk=>hk.2) (.slice Ao42 t541.length co42)) (fun _ hk=>hk.2) (.slice Ao43 t544.length co43)) (fun _ h_=>h_.1))) hb) (Kd.R_base ho0)) (Kd.R_base ho1)) (Kd.R_base ho2)) (fun _ h_=>h_.1));have n2_:=zm (Kd.R_elder' (by (with_reducible repeat (first|apply zrA|apply zrN|apply zrD));exact (Kd.R_mono (Kd.R_far (p:=⟨gb548,6,none⟩) (Kd.R_far (p:=⟨gb548,5,none⟩) (Kd.R_far (p:=⟨gb548,4,none⟩) (Kd.R_far (p:=⟨gb548,3,none⟩) (Kd.R_far (p:=⟨gb548,2,none⟩) (Kd.R_far (p:=⟨gb548,1,none⟩) (Kd.R_far (p:=⟨gb548,0,none⟩) (Kd.R_types HO540.out BK548.out (by decide)) (fun _ hk=>hk.2) (.int .i64 t534)) (fun _ hk=>hk.2) (.int .i64 t535)) (fun _ hk=>hk.2) (.int .i64 t536)) (fun _ hk=>hk.2) (.int .i64 t537)) (fun _ hk=>hk.2) (.slice Ao41 t538.length co41)) (fun _ hk=>hk.2) (.slice Ao42 t541.length co42)) (fun _ hk=>hk.2) (.slice Ao43 t544.length co43)) (fun _ h_=>h_.1))) (Kd.R_base ho0) hb);have n3_:=zm (Kd.R_elder' (by (with_reducible repeat (first|apply zrA|apply zrN|apply zrD));exact (Kd.R_mono (Kd.R_far (p:=⟨gb548,6,none⟩) (Kd.R_far (p:=⟨gb548,5,none⟩) (Kd.R_far (p:=⟨gb548,4,none⟩) (Kd.R_far (p:=⟨gb548,3,none⟩) (Kd.R_far (p:=⟨gb548,2,none⟩) (Kd.R_far (p:=⟨gb548,1,none⟩) (Kd.R_far (p:=⟨gb548,0,none⟩) (Kd.R_types HO543.out BK548.out (by decide)) (fun _ hk=>hk.2) (.int .i64 t534)) (fun _ hk=>hk.2) (.int .i64 t535)) (fun _ hk=>hk.2) (.int .i64 t536)) (fun _ hk=>hk.2) (.int .i64 t537)) (fun _ hk=>hk.2) (.slice Ao41 t538.length co41)) (fun _ hk=>hk.2) (.slice Ao42 t541.length co42)) (fun _ hk=>hk.2) (.slice Ao43 t544.length co43)) (fun _ h_=>h_.1))) (Kd.R_base ho1) hb);have n4_:=zm (Kd.R_elder' (by (with_reducible repeat (first|apply zrA|apply zrN|apply zrD));exact (Kd.R_mono (Kd.R_far (p:=⟨gb548,6,none⟩) (Kd.R_far (p:=⟨gb548,5,none⟩) (Kd.R_far (p:=⟨gb548,4,none⟩) (Kd.R_far (p:=⟨gb548,3,none⟩) (Kd.R_far (p:=⟨gb548,2,none⟩) (Kd.R_far (p:=⟨gb548,1,none⟩) (Kd.R_far (p:=⟨gb548,0,none⟩) (Kd.R_types HO546.out BK548.out (by decide)) (fun _ hk=>hk.2) (.int .i64 t534)) (fun _ hk=>hk.2) (.int .i64 t535)) (fun _ hk=>hk.2) (.int .i64 t536)) (fun _ hk=>hk.2) (.int .i64 t537)) (fun _ hk=>hk.2) (.slice Ao41 t538.length co41)) (fun _ hk=>hk.2) (.slice Ao42 t541.length co42)) (fun _ hk=>hk.2) (.slice Ao43 t544.length co43)) (fun _ h_=>h_.1))) (Kd.R_base ho2) hb);have n5_:=zm (Kd.R_lower (Kd.R_new' ho0 (Kd.R_lt (by (with_reducible repeat (first|apply zrA|apply zrN|apply zrD));exact (Kd.R_mono (Kd.R_far (p:=⟨gb548,6,none⟩) (Kd.R_far (p:=⟨gb548,5,none⟩) (Kd.R_far (p:=⟨gb548,4,none⟩) (Kd.R_far (p:=⟨gb548,3,none⟩) (Kd.R_far (p:=⟨gb548,2,none⟩) (Kd.R_far (p:=⟨gb548,1,none⟩) (Kd.R_far (p:=⟨gb548,0,none⟩) (Kd.R_types HO540.out BK548.out (by decide)) (fun _ hk=>hk.2) (.int .i64 t534)) (fun _ hk=>hk.2) (.int .i64 t535)) (fun _ hk=>hk.2) (.int .i64 t536)) (fun _ hk=>hk.2) (.int .i64 t537)) (fun _ hk=>hk.2) (.slice Ao41 t538.length co41)) (fun _ hk=>hk.2) (.slice Ao42 t541.length co42)) (fun _ hk=>hk.2) (.slice Ao43 t544.length co43)) (fun _ h_=>h_.1))))) (below_size (by repeat (first|(with_reducible first|exact HB.out|apply zlA|apply zlN|apply zlD|refine zlS ?_ GE523.out|refine zlS ?_ GE524.out|refine zlS ?_ GE525.out|refine zlS ?_ GE548.out)|exact HB.out))));have n6_:=zm (Kd.R_lower (Kd.R_new' ho1 (Kd.R_lt (by (with_reducible repeat (first|apply zrA|apply zrN|apply zrD));exact (Kd.R_mono (Kd.R_far (p:=⟨gb548,6,none⟩) (Kd.R_far (p:=⟨gb548,5,none⟩) (Kd.R_far (p:=⟨gb548,4,none⟩) (Kd.R_far (p:=⟨gb548,3,none⟩) (Kd.R_far (p:=⟨gb548,2,none⟩) (Kd.R_far (p:=⟨gb548,1,none⟩) (Kd.R_far (p:=⟨gb548,0,none⟩) (Kd.R_types HO543.out BK548.out (by decide)) (fun _ hk=>hk.2) (.int .i64 t534)) (fun _ hk=>hk.2) (.int .i64 t535)) (fun _ hk=>hk.2) (.int .i64 t536)) (fun _ hk=>hk.2) (.int .i64 t537)) (fun _ hk=>hk.2) (.slice Ao41 t538.length co41)) (fun _ hk=>hk.2) (.slice Ao42 t541.length co42)) (fun _ hk=>hk.2) (.slice Ao43 t544.length co43)) (fun _ h_=>h_.1))))) (below_size (by repeat (first|(with_reducible first|exact HB.out|apply zlA|apply zlN|apply zlD|refine zlS ?_ GE523.out|refine zlS ?_ GE524.out|refine zlS ?_ GE525.out|refine zlS ?_ GE548.out)|exact HB.out))));have n7_:=zm (Kd.R_lower (Kd.R_new' ho2 (Kd.R_lt (by (with_reducible repeat (first|apply zrA|apply zrN|apply zrD));exact (Kd.R_mono (Kd.R_far (p:=⟨gb548,6,none⟩) (Kd.R_far (p:=⟨gb548,5,none⟩) (Kd.R_far (p:=⟨gb548,4,none⟩) (Kd.R_far (p:=⟨gb548,3,none⟩) (Kd.R_far (p:=⟨gb548,2,none⟩) (Kd.R_far (p:=⟨gb548,1,none⟩) (Kd.R_far (p:=⟨gb548,0,none⟩) (Kd.R_types HO546.out BK548.out (by decide)) (fun _ hk=>hk.2) (.int .i64 t534)) (fun _ hk=>hk.2) (.int .i64 t535)) (fun _ hk=>hk.2) (.int .i64 t536)) (fun _ hk=>hk.2) (.int .i64 t537)) (fun _ hk=>hk.2) (.slice Ao41 t538.length co41)) (fun _ hk=>hk.2) (.slice Ao42 t541.length co42)) (fun _ hk=>hk.2) (.slice Ao43 t544.length co43)) (fun _ h_=>h_.1))))) (below_size (by repeat (first|(with_reducible first|exact HB.out|apply zlA|apply zlN|apply zlD|refine zlS ?_ GE523.out|refine zlS ?_ GE524.out|refine zlS ?_ GE525.out|refine zlS ?_ GE548.out)|exact HB.out))));have n8_:=zm (zbB (g:=gb523) (o:=.cells #[.slice A0_0 l0_0.length c0_0,.slice A0_1 l0_1.length c0_1,.int .i64 a0_2] 25 (0,0)) (by (with_reducible repeat (first|refine zbN ?_ _|refine zbD ?_|refine zbA ?_ _));refine blk_far ?_ NB523_548.out _;(with_reducible repeat (first|refine zbN ?_ _|refine zbD ?_|refine zbA ?_ _));refine blk_far ?_ NB523_548.out _;(with_reducible repeat (first|refine zbN ?_ _|refine zbD ?_|refine zbA ?_ _));refine blk_far ?_ NB523_548.out _;(with_reducible repeat (first|refine zbN ?_ _|refine zbD ?_|refine zbA ?_ _));refine blk_far ?_ NB523_548.out _;(with_reducible repeat (first|refine zbN ?_ _|refine zbD ?_|refine zbA ?_ _));refine blk_far ?_ NB523_548.out _;(with_reducible repeat (first|refine zbN ?_ _|refine zbD ?_|refine zbA ?_ _));refine blk_far ?_ NB523_548.out _;(with_reducible repeat (first|refine zbN ?_ _|refine zbD ?_|refine zbA ?_ _));refine blk_far ?_ NB523_548.out _;(with_reducible repeat (first|refine zbN ?_ _|refine zbD ?_|refine zbA ?_ _));exact BK523.out) hb);have n9_:=zm (zbB (g:=gb524) (o:=.cells #[.int .i64 a4_0,.int .i64 a4_1,.int .i64 a4_2,.int .i64 a4_3,.slice A4_4 l4_4.length c4_4,.slice A4_5 l4_5.length c4_5,.slice A4_6 l4_6.length c4_6] 42 (0,0)) (by (with_reducible repeat (first|refine zbN ?_ _|refine zbD ?_|refine zbA ?_ _));refine blk_far ?_ NB524_548.out _;(with_reducible repeat (first|refine zbN ?_ _|refine zbD ?_|refine zbA ?_ _));refine blk_far ?_ NB524_548.out _;(with_reducible repeat (first|refine zbN ?_ _|refine zbD ?_|refine zbA ?_ _));refine blk_far ?_ NB524_548.out _;(with_reducible repeat (first|refine zbN ?_ _|refine zbD ?_|refine zbA ?_ _));refine blk_far ?_ NB524_548.out _;(with_reducible repeat (first|refine zbN ?_ _|refine zbD ?_|refine zbA ?_ _));refine blk_far ?_ NB524_548.out _;(with_reducible repeat (first|refine zbN ?_ _|refine zbD ?_|refine zbA ?_ _));refine blk_far ?_ NB524_548.out _;(with_reducible repeat (first|refine zbN ?_ _|refine zbD ?_|refine zbA ?_ _));refine blk_far ?_ NB524_548.out _;(with_reducible repeat (first|refine zbN ?_ _|refine zbD ?_|refine zbA ?_ _));exact BK524.out) hb);have n10_:=zm (zbB (g:=gb525) (o:=.cells #[.int .i64 a5_0,.int .i64 a5_1,.int .i64 a5_2,.int .i64 a5_3,.slice A5_4 l5_4.length c5_4,.slice A5_5 l5_5.length c5_5,.slice A5_6 l5_6.length c5_6] 42 (0,0)) (by (with_reducible repeat (first|refine zbN ?_ _|refine zbD ?_|refine zbA ?_ _));refine blk_far ?_ NB525_548.out _;(with_reducible repeat (first|refine zbN ?_ _|refine zbD ?_|refine zbA ?_ _));refine blk_far ?_ NB525_548.out _;(with_reducible repeat (first|refine zbN ?_ _|refine zbD ?_|refine zbA ?_ _));refine blk_far ?_ NB525_548.out _;(with_reducible repeat (first|refine zbN ?_ _|refine zbD ?_|refine zbA ?_ _));refine blk_far ?_ NB525_548.out _;(with_reducible repeat (first|refine zbN ?_ _|refine zbD ?_|refine zbA ?_ _));refine blk_far ?_ NB525_548.out _;(with_reducible repeat (first|refine zbN ?_ _|refine zbD ?_|refine zbA ?_ _));refine blk_far ?_ NB525_548.out _;(with_reducible repeat (first|refine zbN ?_ _|refine zbD ?_|refine zbA ?_ _));refine blk_far ?_ NB525_548.out _;(with_reducible repeat (first|refine zbN ?_ _|refine zbD ?_|refine zbA ?_ _));exact BK525.out) hb);have n11_:=zm (zbB (g:=gb548) (o:=.cells #[.int .i64 t534,.int .i64 t535,.int .i64 t536,.int .i64 t537,.slice Ao41 t538.length co41,.slice Ao42 t541.length co42,.slice Ao43 t544.length co43] 42 (0,0)) (by (with_reducible repeat (first|refine zbN ?_ _|refine zbD ?_|refine zbA ?_ _));refine blk_put (cs:=#[.int .i64 t534,.int .i64 t535,.int .i64 t536,.int .i64 t537,.slice Ao41 t538.length co41,.slice Ao42 t541.length co42,.slice none 0 0]) ?_ 6 _ rfl;(with_reducible repeat (first|refine zbN ?_ _|refine zbD ?_|refine zbA ?_ _));refine blk_put (cs:=#[.int .i64 t534,.int .i64 t535,.int .i64 t536,.int .i64 t537,.slice Ao41 t538.length co41,.slice none 0 0,.slice none 0 0]) ?_ 5 _ rfl;(with_reducible repeat (first|refine zbN ?_ _|refine zbD ?_|refine zbA ?_ _));refine blk_put (cs:=#[.int .i64 t534,.int .i64 t535,.int .i64 t536,.int .i64 t537,.slice none 0 0,.slice none 0 0,.slice none 0 0]) ?_ 4 _ rfl;(with_reducible repeat (first|refine zbN ?_ _|refine zbD ?_|refine zbA ?_ _));refine blk_put (cs:=#[.int .i64 t534,.int .i64 t535,.int .i64 t536,.int .i64 0,.slice none 0 0,.slice none 0 0,.slice none 0 0]) ?_ 3 _ rfl;(with_reducible repeat (first|refine zbN ?_ _|refine zbD ?_|refine zbA ?_ _));refine blk_put (cs:=#[.int .i64 t534,.int .i64 t535,.int .i64 0,.int .i64 0,.slice none 0 0,.slice none 0 0,.slice none 0 0]) ?_ 2 _ rfl;(with_reducible repeat (first|refine zbN ?_ _|refine zbD ?_|refine zbA ?_ _));refine blk_put (cs:=#[.int .i64 t534,.int .i64 0,.int .i64 0,.int .i64 0,.slice none 0 0,.slice none 0 0,.slice none 0 0]) ?_ 1 _ rfl;(with_reducible repeat (first|refine zbN ?_ _|refine zbD ?_|refine zbA ?_ _));refine blk_put (cs:=#[.int .i64 0,.int .i64 0,.int .i64 0,.int .i64 0,.slice none 0 0,.slice none 0 0,.slice none 0 0]) ?_ 0 _ rfl;(with_reducible repeat (first|refine zbN ?_ _|refine zbD ?_|refine zbA ?_ _));exact BK548.out) hb);have n12_:=zm (below_step (by repeat (first|(with_reducible first|exact HB.out|apply zlA|apply zlN|apply zlD|refine zlS ?_ GE523.out|refine zlS ?_ GE524.out|refine zlS ?_ GE525.out|refine zlS ?_ GE548.out)|exact HB.out)) hb);clear HO528 HO532 HO540 HO543 HO546 BK523 BK524 BK525 BK548 HB;have HO528:=n0_;have HO532:=n1_;have HO540:=n2_;have HO543:=n3_;have HO546:=n4_;have HO555:=n5_;have HO558:=n6_;have HO561:=n7_;have BK523:=n8_;have BK524:=n9_;have BK525:=n10_;have BK548:=n11_;have HB:=n12_;clear n0_ n1_ n2_ n3_ n4_ n5_ n6_ n7_ n8_ n9_ n10_ n11_ n12_;(try clear hb);(try clear hb2);(try clear hk);(try clear hi);(try clear ho0);(try clear ho1);(try clear ho2))|((with_reducible refine gate_dst (N:=19) rfl ?_);refine box_event ?hg (N:=19) ?hd (cs:=#[.int .i64 0,.int .i64 0,.int .i64 0,.int .i64 0,.slice none 0 0,.slice none 0 0,.slice none 0 0]) (t:=42) ?hr ?_;(case hd=>rfl);(case hg=>rfl);(case hr=>first|(go_simp;done)|(go_simp;rfl));intro gb563 hg w45 hbox hb;have n0_:=zm (Kd.S_below (Kd.S_elderB (by (with_reducible repeat (first|apply Kd.S_alloc|apply Kd.S_drewN|apply Kd.S_drew));exact HO528.out) gb563 (Nat.le_of_eq hg.symm)) hb);have n1_:=zm (Kd.S_below (Kd.S_elderB (by (with_reducible repeat (first|apply Kd.S_alloc|apply Kd.S_drewN|apply Kd.S_drew));exact HO532.out) gb563 (Nat.le_of_eq hg.symm)) hb);have n2_:=zm (Kd.R_below (by (with_reducible repeat (first|apply zrA|apply zrN|apply zrD));exact HO540.out) hb);have n3_:=zm (Kd.R_below (by (with_reducible repeat (first|apply zrA|apply zrN|apply zrD));exact HO543.out) hb);have n4_:=zm (Kd.R_below (by (with_reducible repeat (first|apply zrA|apply zrN|apply zrD));exact HO546.out) hb);have n5_:=zm (Kd.R_below (by (with_reducible repeat (first|apply zrA|apply zrN|apply zrD));exact HO555.out) hb);have n6_:=zm (Kd.R_below (by (with_reducible repeat (first|apply zrA|apply zrN|apply zrD));exact HO558.out) hb);have n7_:=zm (Kd.R_below (by (with_reducible repeat (first|apply zrA|apply zrN|apply zrD));exact HO561.out) hb);have n8_:=zm (zbB (g:=gb523) (o:=.cells #[.slice A0_0 l0_0.length c0_0,.slice A0_1 l0_1.length c0_1,.int .i64 a0_2] 25 (0,0)) (by (with_reducible repeat (first|refine zbN ?_ _|refine zbD ?_|refine zbA ?_ _));exact BK523.out) hb);have n9_:=zm (zbB (g:=gb524) (o:=.cells #[.int .i64 a4_0,.int .i64 a4_1,.int .i64 a4_2,.int .i64 a4_3,.slice A4_4 l4_4.length c4_4,.slice A4_5 l4_5.length c4_5,.slice A4_6 l4_6.length c4_6] 42 (0,0)) (by (with_reducible repeat (first|refine zbN ?_ _|refine zbD ?_|refine zbA ?_ _));exact BK524.out) hb);have n10_:=zm (zbB (g:=gb525) (o:=.cells #[.int .i64 a5_0,.int .i64 a5_1,.int .i64 a5_2,.int .i64 a5_3,.slice A5_4 l5_4.length c5_4,.slice A5_5 l5_5.length c5_5,.slice A5_6 l5_6.length c5_6] 42 (0,0)) (by (with_reducible repeat (first|refine zbN ?_ _|refine zbD ?_|refine zbA ?_ _));exact BK525.out) hb);have n11_:=zm (zbB (g:=gb548) (o:=.cells #[.int .i64 t534,.int .i64 t535,.int .i64 t536,.int .i64 t537,.slice Ao41 t538.length co41,.slice Ao42 t541.length co42,.slice Ao43 t544.length co43] 42 (0,0)) (by (with_reducible repeat (first|refine zbN ?_ _|refine zbD ?_|refine zbA ?_ _));exact BK548.out) hb);have n12_:=zm (below_step (by repeat (first|(with_reducible first|exact HB.out|apply zlA|apply zlN|apply zlD|refine zlS ?_ GE523.out|refine zlS ?_ GE524.out|refine zlS ?_ GE525.out|refine zlS ?_ GE548.out)|exact HB.out)) hb);have n13_:=zm (hbox);have n14_:=zm ((by rw [hg];exact (below_size (by repeat (first|(with_reducible first|exact HB.out|apply zlA|apply zlN|apply zlD|refine zlS ?_ GE523.out|refine zlS ?_ GE524.out|refine zlS ?_ GE525.out|refine zlS ?_ GE548.out)|exact HB.out))):w.heap.size≤gb563));have n15_:=zm ((by rw [hg];exact (below_size (by repeat (first|(with_reducible first|exact HB.out|apply zlA|apply zlN|apply zlD|refine zlS ?_ GE523.out|refine zlS ?_ GE524.out|refine zlS ?_ GE525.out|refine zlS ?_ GE548.out)|exact HB.out))):w.heap.size≤gb563));have n16_:=zm ((by rw [hg];exact Nat.ne_of_lt (blk_lt (g:=gb523) (o:=.cells #[.slice A0_0 l0_0.length c0_0,.slice A0_1 l0_1.length c0_1,.int .i64 a0_2] 25 (0,0)) (by (with_reducible repeat (first|refine zbN ?_ _|refine zbD ?_|refine zbA ?_ _));exact BK523.out)):gb523≠gb563));have n17_:=zm ((by rw [hg];exact Nat.ne_of_gt (blk_lt (g:=gb523) (o:=.cells #[.slice A0_0 l0_0.length c0_0,.slice A0_1 l0_1.length c0_1,.int .i64 a0_2] 25 (0,0)) (by (with_reducible repeat (first|refine zbN ?_ _|refine zbD ?_|refine zbA ?_ _));exact BK523.out)):gb563≠gb523));have n18_:=zm ((by rw [hg];exact Nat.ne_of_lt (blk_lt (g:=gb524) (o:=.cells #[.int .i64 a4_0,.int .i64 a4_1,.int .i64 a4_2,.int .i64 a4_3,.slice A4_4 l4_4.length c4_4,.slice A4_5 l4_5.length c4_5,.slice A4_6 l4_6.length c4_6] 42 (0,0)) (by (with_reducible repeat (first|refine zbN ?_ _|refine zbD ?_|refine zbA ?_ _));exact BK524.out)):gb524≠gb563));have n19_:=zm ((by rw [hg];exact Nat.ne_of_gt (blk_lt (g:=gb524) (o:=.cells #[.int .i64 a4_0,.int .i64 a4_1,.int .i64 a4_2,.int .i64 a4_3,.slice A4_4 l4_4.length c4_4,.slice A4_5 l4_5.length c4_5,.slice A4_6 l4_6.length c4_6] 42 (0,0)) (by (with_reducible repeat (first|refine zbN ?_ _|refine zbD ?_|refine zbA ?_ _));exact BK524.out)):gb563≠gb524));have n20_:=zm ((by rw [hg];exact Nat.ne_of_lt (blk_lt (g:=gb525) (o:=.cells #[.int .i64 a5_0,.int .i64 a5_1,.int .i64 a5_2,.int .i64 a5_3,.slice A5_4 l5_4.length c5_4,.slice A5_5 l5_5.length c5_5,.slice A5_6 l5_6.length c5_6] 42 (0,0)) (by (with_reducible repeat (first|refine zbN ?_ _|refine zbD ?_|refine zbA ?_ _));exact BK525.out)):gb525≠gb563));have n21_:=zm ((by rw [hg];exact Nat.ne_of_gt (blk_lt (g:=gb525) (o:=.cells #[.int .i64 a5_0,.int .i64 a5_1,.int .i64 a5_2,.int .i64 a5_3,.slice A5_4 l5_4.length c5_4,.slice A5_5 l5_5.length c5_5,.slice A5_6 l5_6.length c5_6] 42 (0,0)) (by (with_reducible repeat (first|refine zbN ?_ _|refine zbD ?_|refine zbA ?_ _));exact BK525.out)):gb563≠gb525));have n22_:=zm ((by rw [hg];exact Nat.ne_of_lt (blk_lt (g:=gb548) (o:=.cells #[.int .i64 t534,.int .i64 t535,.int .i64 t536,.int .i64 t537,.slice Ao41 t538.length co41,.slice Ao42 t541.length co42,.slice Ao43 t544.length co43] 42 (0,0)) (by (with_reducible repeat (first|refine zbN ?_ _|refine zbD ?_|refine zbA ?_ _));exact BK548.out)):gb548≠gb563));have n23_:=zm ((by rw [hg];exact Nat.ne_of_gt (blk_lt (g:=gb548) (o:=.cells #[.int .i64 t534,.int .i64 t535,.int .i64 t536,.int .i64 t537,.slice Ao41 t538.length co41,.slice Ao42 t541.length co42,.slice Ao43 t544.length co43] 42 (0,0)) (by (with_reducible repeat (first|refine zbN ?_ _|refine zbD ?_|refine zbA ?_ _));exact BK548.out)):gb563≠gb548));clear HO528 HO532 HO540 HO543 HO546 HO555 HO558 HO561 BK523 BK524 BK525 BK548 HB;have HO528:=n0_;have HO532:=n1_;have HO540:=n2_;have HO543:=n3_;have HO546:=n4_;have HO555:=n5_;have HO558:=n6_;have HO561:=n7_;have BK523:=n8_;have BK524:=n9_;have BK525:=n10_;have BK548:=n11_;have HB:=n12_;have BK563:=n13_;have GW563:=n14_;have GE563:=n15_;have NB523_563:=n16_;have NB563_523:=n17_;have NB524_563:=n18_;have NB563_524:=n19_;have NB525_563:=n20_;have NB563_525:=n21_;have NB548_563:=n22_;have NB563_548:=n23_;clear n0_ n1_ n2_ n3_ n4_ n5_ n6_ n7_ n8_ n9_ n10_ n11_ n12_ n13_ n14_ n15_ n16_ n17_ n18_ n19_ n20_ n21_ n22_ n23_;clear hb hbox hg;have hnb46:=NB563_523.out;have hnc46:=NB523_563.out;have hnb47:=NB563_524.out;have hnc47:=NB524_563.out;have hnb48:=NB563_525.out;have hnc48:=NB525_563.out;have hnb49:=NB563_548.out;have hnc49:=NB548_563.out;have hcz50_0:w45.cell? ⟨gb563,0,none⟩=some (.int .i64 0):=(blk_cell BK563.out 0).trans rfl;have hcz50_1:w45.cell? ⟨gb563,1,none⟩=some (.int .i64 0):=(blk_cell BK563.out 1).trans rfl;have hcz50_2:w45.cell? ⟨gb563,2,none⟩=some (.int .i64 0):=(blk_cell BK563.out 2).trans rfl;have hcz50_3:w45.cell? ⟨gb563,3,none⟩=some (.int .i64 0):=(blk_cell BK563.out 3).trans rfl;have hcz50_4:w45.cell? ⟨gb563,4,none⟩=some (.slice none 0 0):=(blk_cell BK563.out 4).trans rfl;have hcz50_5:w45.cell? ⟨gb563,5,none⟩=some (.slice none 0 0):=(blk_cell BK563.out 5).trans rfl;have hcz50_6:w45.cell? ⟨gb563,6,none⟩=some (.slice none 0 0):=(blk_cell BK563.out 6).trans rfl;have hfz50_0:=blk_frozen BK563.out 0;have hfz50_1:=blk_frozen BK563.out 1;have hfz50_2:=blk_frozen BK563.out 2;have hfz50_3:=blk_frozen BK563.out 3;have hfz50_4:=blk_frozen BK563.out 4;have hfz50_5:=blk_frozen BK563.out 5;have hfz50_6:=blk_frozen BK563.out 6;obtain ⟨Ao51,co51,eo51⟩:=Kd.R_slice HO555.out;subst eo51;obtain ⟨Ao52,co52,eo52⟩:=Kd.R_slice HO558.out;subst eo52;obtain ⟨Ao53,co53,eo53⟩:=Kd.R_slice HO561.out;subst eo53))
        have n0_:Aside0 (Kd.S k42 42 (((((((w45.setCell ⟨gb563,0,none⟩ (.int .i64 t549)).setCell ⟨gb563,1,none⟩ (.int .i64 t550)).setCell ⟨gb563,2,none⟩ (.int .i64 t551)).setCell ⟨gb563,3,none⟩ (.int .i64 t552)).setCell ⟨gb563,4,none⟩ (.slice Ao51 t553.length co51)).setCell ⟨gb563,5,none⟩ (.slice Ao52 t556.length co52)).setCell ⟨gb563,6,none⟩ (.slice Ao53 t559.length co53)) w.heap.size (fun k_=>some k_≠(v531:Value).ownBlock∧some k_≠(.slice Ao41 t538.length co41:Value).ownBlock∧some k_≠(.slice Ao42 t541.length co42:Value).ownBlock∧some k_≠(.slice Ao43 t544.length co43:Value).ownBlock∧some k_≠(.slice Ao51 t553.length co51:Value).ownBlock∧some k_≠(.slice Ao52 t556.length co52:Value).ownBlock∧some k_≠(.slice Ao53 t559.length co53:Value).ownBlock∧k_≠gb524∧k_≠gb525∧k_≠gb548∧k_≠gb563) v527 t526):=⟨by (with_reducible repeat (first|apply Kd.S_alloc|apply Kd.S_drewN|apply Kd.S_drew));exact Kd.S_mono (Kd.S_far (p:=⟨gb563,6,none⟩) (Kd.S_far (p:=⟨gb563,5,none⟩) (Kd.S_far (p:=⟨gb563,4,none⟩) (Kd.S_far (p:=⟨gb563,3,none⟩) (Kd.S_far (p:=⟨gb563,2,none⟩) (Kd.S_far (p:=⟨gb563,1,none⟩) (Kd.S_far (p:=⟨gb563,0,none⟩) (Kd.S_mono HO528.out (fun k_ hk=>(⟨hk,hk.2⟩:_∧k_≠gb563))) (fun _ hk=>hk.2) (.int .i64 t549)) (fun _ hk=>hk.2) (.int .i64 t550)) (fun _ hk=>hk.2) (.int .i64 t551)) (fun _ hk=>hk.2) (.int .i64 t552)) (fun _ hk=>hk.2) (.slice Ao51 t553.length co51)) (fun _ hk=>hk.2) (.slice Ao52 t556.length co52)) (fun _ hk=>hk.2) (.slice Ao53 t559.length co53)) (fun _ hk=>⟨hk.1.1.1.1.1.1.1.1.1.2,⟨hk.1.1.1.1.1.1.1.1.2,⟨hk.1.1.1.1.1.1.1.2,⟨hk.1.1.1.1.1.1.2,⟨hk.1.1.1.1.2,⟨hk.1.1.1.2,⟨hk.1.1.2,⟨hk.1.1.1.1.1.1.1.1.1.1.1.2,⟨hk.1.1.1.1.1.1.1.1.1.1.2,⟨hk.1.1.1.1.1.2,hk.1.2⟩⟩⟩⟩⟩⟩⟩⟩⟩⟩)⟩
        have n1_:Aside0 (Kd.S k42 42 (((((((w45.setCell ⟨gb563,0,none⟩ (.int .i64 t549)).setCell ⟨gb563,1,none⟩ (.int .i64 t550)).setCell ⟨gb563,2,none⟩ (.int .i64 t551)).setCell ⟨gb563,3,none⟩ (.int .i64 t552)).setCell ⟨gb563,4,none⟩ (.slice Ao51 t553.length co51)).setCell ⟨gb563,5,none⟩ (.slice Ao52 t556.length co52)).setCell ⟨gb563,6,none⟩ (.slice Ao53 t559.length co53)) w.heap.size (fun k_=>some k_≠(v527:Value).ownBlock∧some k_≠(.slice Ao41 t538.length co41:Value).ownBlock∧some k_≠(.slice Ao42 t541.length co42:Value).ownBlock∧some k_≠(.slice Ao43 t544.length co43:Value).ownBlock∧some k_≠(.slice Ao51 t553.length co51:Value).ownBlock∧some k_≠(.slice Ao52 t556.length co52:Value).ownBlock∧some k_≠(.slice Ao53 t559.length co53:Value).ownBlock∧k_≠gb524∧k_≠gb525∧k_≠gb548∧k_≠gb563) v531 t530):=⟨by (with_reducible repeat (first|apply Kd.S_alloc|apply Kd.S_drewN|apply Kd.S_drew));exact Kd.S_mono (Kd.S_far (p:=⟨gb563,6,none⟩) (Kd.S_far (p:=⟨gb563,5,none⟩) (Kd.S_far (p:=⟨gb563,4,none⟩) (Kd.S_far (p:=⟨gb563,3,none⟩) (Kd.S_far (p:=⟨gb563,2,none⟩) (Kd.S_far (p:=⟨gb563,1,none⟩) (Kd.S_far (p:=⟨gb563,0,none⟩) (Kd.S_mono HO532.out (fun k_ hk=>(⟨hk,hk.2⟩:_∧k_≠gb563))) (fun _ hk=>hk.2) (.int .i64 t549)) (fun _ hk=>hk.2) (.int .i64 t550)) (fun _ hk=>hk.2) (.int .i64 t551)) (fun _ hk=>hk.2) (.int .i64 t552)) (fun _ hk=>hk.2) (.slice Ao51 t553.length co51)) (fun _ hk=>hk.2) (.slice Ao52 t556.length co52)) (fun _ hk=>hk.2) (.slice Ao53 t559.length co53)) (fun _ hk=>⟨hk.1.1.1.1.1.1.1.1.1.1.1.2,⟨hk.1.1.1.1.1.1.1.1.2,⟨hk.1.1.1.1.1.1.1.2,⟨hk.1.1.1.1.1.1.2,⟨hk.1.1.1.1.2,⟨hk.1.1.1.2,⟨hk.1.1.2,⟨hk.1.1.1.1.1.1.1.1.1.1.2,⟨hk.1.1.1.1.1.1.1.1.1.2,⟨hk.1.1.1.1.1.2,hk.1.2⟩⟩⟩⟩⟩⟩⟩⟩⟩⟩)⟩
        have n2_:Aside0 (Kd.R Kd.bool 4 (((((((w45.setCell ⟨gb563,0,none⟩ (.int .i64 t549)).setCell ⟨gb563,1,none⟩ (.int .i64 t550)).setCell ⟨gb563,2,none⟩ (.int .i64 t551)).setCell ⟨gb563,3,none⟩ (.int .i64 t552)).setCell ⟨gb563,4,none⟩ (.slice Ao51 t553.length co51)).setCell ⟨gb563,5,none⟩ (.slice Ao52 t556.length co52)).setCell ⟨gb563,6,none⟩ (.slice Ao53 t559.length co53)) w.heap.size (fun k_=>some k_≠(.slice Ao51 t553.length co51:Value).ownBlock) (.slice Ao41 t538.length co41) t538):=⟨by (with_reducible repeat (first|apply zrA|apply zrN|apply zrD));exact Kd.R_mono (Kd.R_far (p:=⟨gb563,6,none⟩) (Kd.R_far (p:=⟨gb563,5,none⟩) (Kd.R_far (p:=⟨gb563,4,none⟩) (Kd.R_far (p:=⟨gb563,3,none⟩) (Kd.R_far (p:=⟨gb563,2,none⟩) (Kd.R_far (p:=⟨gb563,1,none⟩) (Kd.R_far (p:=⟨gb563,0,none⟩) (Kd.R_types HO540.out BK563.out (by decide)) (fun _ hk=>hk.2) (.int .i64 t549)) (fun _ hk=>hk.2) (.int .i64 t550)) (fun _ hk=>hk.2) (.int .i64 t551)) (fun _ hk=>hk.2) (.int .i64 t552)) (fun _ hk=>hk.2) (.slice Ao51 t553.length co51)) (fun _ hk=>hk.2) (.slice Ao52 t556.length co52)) (fun _ hk=>hk.2) (.slice Ao53 t559.length co53)) (fun _ hk=>hk.1.2)⟩
        have n3_:Aside0 (Kd.R (Kd.int .i64) 2 (((((((w45.setCell ⟨gb563,0,none⟩ (.int .i64 t549)).setCell ⟨gb563,1,none⟩ (.int .i64 t550)).setCell ⟨gb563,2,none⟩ (.int .i64 t551)).setCell ⟨gb563,3,none⟩ (.int .i64 t552)).setCell ⟨gb563,4,none⟩ (.slice Ao51 t553.length co51)).setCell ⟨gb563,5,none⟩ (.slice Ao52 t556.length co52)).setCell ⟨gb563,6,none⟩ (.slice Ao53 t559.length co53)) w.heap.size (fun k_=>some k_≠(.slice Ao52 t556.length co52:Value).ownBlock) (.slice Ao42 t541.length co42) t541):=⟨by (with_reducible repeat (first|apply zrA|apply zrN|apply zrD));exact Kd.R_mono (Kd.R_far (p:=⟨gb563,6,none⟩) (Kd.R_far (p:=⟨gb563,5,none⟩) (Kd.R_far (p:=⟨gb563,4,none⟩) (Kd.R_far (p:=⟨gb563,3,none⟩) (Kd.R_far (p:=⟨gb563,2,none⟩) (Kd.R_far (p:=⟨gb563,1,none⟩) (Kd.R_far (p:=⟨gb563,0,none⟩) (Kd.R_types HO543.out BK563.out (by decide)) (fun _ hk=>hk.2) (.int .i64 t549)) (fun _ hk=>hk.2) (.int .i64 t550)) (fun _ hk=>hk.2) (.int .i64 t551)) (fun _ hk=>hk.2) (.int .i64 t552)) (fun _ hk=>hk.2) (.slice Ao51 t553.length co51)) (fun _ hk=>hk.2) (.slice Ao52 t556.length co52)) (fun _ hk=>hk.2) (.slice Ao53 t559.length co53)) (fun _ hk=>hk.1.2)⟩
        have n4_:Aside0 (Kd.R k55 55 (((((((w45.setCell ⟨gb563,0,none⟩ (.int .i64 t549)).setCell ⟨gb563,1,none⟩ (.int .i64 t550)).setCell ⟨gb563,2,none⟩ (.int .i64 t551)).setCell ⟨gb563,3,none⟩ (.int .i64 t552)).setCell ⟨gb563,4,none⟩ (.slice Ao51 t553.length co51)).setCell ⟨gb563,5,none⟩ (.slice Ao52 t556.length co52)).setCell ⟨gb563,6,none⟩ (.slice Ao53 t559.length co53)) w.heap.size (fun k_=>some k_≠(.slice Ao53 t559.length co53:Value).ownBlock) (.slice Ao43 t544.length co43) t544):=⟨by (with_reducible repeat (first|apply zrA|apply zrN|apply zrD));exact Kd.R_mono (Kd.R_far (p:=⟨gb563,6,none⟩) (Kd.R_far (p:=⟨gb563,5,none⟩) (Kd.R_far (p:=⟨gb563,4,none⟩) (Kd.R_far (p:=⟨gb563,3,none⟩) (Kd.R_far (p:=⟨gb563,2,none⟩) (Kd.R_far (p:=⟨gb563,1,none⟩) (Kd.R_far (p:=⟨gb563,0,none⟩) (Kd.R_types HO546.out BK563.out (by decide)) (fun _ hk=>hk.2) (.int .i64 t549)) (fun _ hk=>hk.2) (.int .i64 t550)) (fun _ hk=>hk.2) (.int .i64 t551)) (fun _ hk=>hk.2) (.int .i64 t552)) (fun _ hk=>hk.2) (.slice Ao51 t553.length co51)) (fun _ hk=>hk.2) (.slice Ao52 t556.length co52)) (fun _ hk=>hk.2) (.slice Ao53 t559.length co53)) (fun _ hk=>hk.1.2)⟩
        have n5_:Aside0 (Kd.R Kd.bool 4 (((((((w45.setCell ⟨gb563,0,none⟩ (.int .i64 t549)).setCell ⟨gb563,1,none⟩ (.int .i64 t550)).setCell ⟨gb563,2,none⟩ (.int .i64 t551)).setCell ⟨gb563,3,none⟩ (.int .i64 t552)).setCell ⟨gb563,4,none⟩ (.slice Ao51 t553.length co51)).setCell ⟨gb563,5,none⟩ (.slice Ao52 t556.length co52)).setCell ⟨gb563,6,none⟩ (.slice Ao53 t559.length co53)) w.heap.size (fun k_=>some k_≠(.slice Ao41 t538.length co41:Value).ownBlock) (.slice Ao51 t553.length co51) t553):=⟨by (with_reducible repeat (first|apply zrA|apply zrN|apply zrD));exact Kd.R_mono (Kd.R_far (p:=⟨gb563,6,none⟩) (Kd.R_far (p:=⟨gb563,5,none⟩) (Kd.R_far (p:=⟨gb563,4,none⟩) (Kd.R_far (p:=⟨gb563,3,none⟩) (Kd.R_far (p:=⟨gb563,2,none⟩) (Kd.R_far (p:=⟨gb563,1,none⟩) (Kd.R_far (p:=⟨gb563,0,none⟩) (Kd.R_types HO555.out BK563.out (by decide)) (fun _ hk=>hk.2) (.int .i64 t549)) (fun _ hk=>hk.2) (.int .i64 t550)) (fun _ hk=>hk.2) (.int .i64 t551)) (fun _ hk=>hk.2) (.int .i64 t552)) (fun _ hk=>hk.2) (.slice Ao51 t553.length co51)) (fun _ hk=>hk.2) (.slice Ao52 t556.length co52)) (fun _ hk=>hk.2) (.slice Ao53 t559.length co53)) (fun _ hk=>hk.1.2)⟩
        have n6_:Aside0 (Kd.R (Kd.int .i64) 2 (((((((w45.setCell ⟨gb563,0,none⟩ (.int .i64 t549)).setCell ⟨gb563,1,none⟩ (.int .i64 t550)).setCell ⟨gb563,2,none⟩ (.int .i64 t551)).setCell ⟨gb563,3,none⟩ (.int .i64 t552)).setCell ⟨gb563,4,none⟩ (.slice Ao51 t553.length co51)).setCell ⟨gb563,5,none⟩ (.slice Ao52 t556.length co52)).setCell ⟨gb563,6,none⟩ (.slice Ao53 t559.length co53)) w.heap.size (fun k_=>some k_≠(.slice Ao42 t541.length co42:Value).ownBlock) (.slice Ao52 t556.length co52) t556):=⟨by (with_reducible repeat (first|apply zrA|apply zrN|apply zrD));exact Kd.R_mono (Kd.R_far (p:=⟨gb563,6,none⟩) (Kd.R_far (p:=⟨gb563,5,none⟩) (Kd.R_far (p:=⟨gb563,4,none⟩) (Kd.R_far (p:=⟨gb563,3,none⟩) (Kd.R_far (p:=⟨gb563,2,none⟩) (Kd.R_far (p:=⟨gb563,1,none⟩) (Kd.R_far (p:=⟨gb563,0,none⟩) (Kd.R_types HO558.out BK563.out (by decide)) (fun _ hk=>hk.2) (.int .i64 t549)) (fun _ hk=>hk.2) (.int .i64 t550)) (fun _ hk=>hk.2) (.int .i64 t551)) (fun _ hk=>hk.2) (.int .i64 t552)) (fun _ hk=>hk.2) (.slice Ao51 t553.length co51)) (fun _ hk=>hk.2) (.slice Ao52 t556.length co52)) (fun _ hk=>hk.2) (.slice Ao53 t559.length co53)) (fun _ hk=>hk.1.2)⟩
        have n7_:Aside0 (Kd.R k55 55 (((((((w45.setCell ⟨gb563,0,none⟩ (.int .i64 t549)).setCell ⟨gb563,1,none⟩ (.int .i64 t550)).setCell ⟨gb563,2,none⟩ (.int .i64 t551)).setCell ⟨gb563,3,none⟩ (.int .i64 t552)).setCell ⟨gb563,4,none⟩ (.slice Ao51 t553.length co51)).setCell ⟨gb563,5,none⟩ (.slice Ao52 t556.length co52)).setCell ⟨gb563,6,none⟩ (.slice Ao53 t559.length co53)) w.heap.size (fun k_=>some k_≠(.slice Ao43 t544.length co43:Value).ownBlock) (.slice Ao53 t559.length co53) t559):=⟨by (with_reducible repeat (first|apply zrA|apply zrN|apply zrD));exact Kd.R_mono (Kd.R_far (p:=⟨gb563,6,none⟩) (Kd.R_far (p:=⟨gb563,5,none⟩) (Kd.R_far (p:=⟨gb563,4,none⟩) (Kd.R_far (p:=⟨gb563,3,none⟩) (Kd.R_far (p:=⟨gb563,2,none⟩) (Kd.R_far (p:=⟨gb563,1,none⟩) (Kd.R_far (p:=⟨gb563,0,none⟩) (Kd.R_types HO561.out BK563.out (by decide)) (fun _ hk=>hk.2) (.int .i64 t549)) (fun _ hk=>hk.2) (.int .i64 t550)) (fun _ hk=>hk.2) (.int .i64 t551)) (fun _ hk=>hk.2) (.int .i64 t552)) (fun _ hk=>hk.2) (.slice Ao51 t553.length co51)) (fun _ hk=>hk.2) (.slice Ao52 t556.length co52)) (fun _ hk=>hk.2) (.slice Ao53 t559.length co53)) (fun _ hk=>hk.1.2)⟩
        have n8_:Aside0 ((((((((w45.setCell ⟨gb563,0,none⟩ (.int .i64 t549)).setCell ⟨gb563,1,none⟩ (.int .i64 t550)).setCell ⟨gb563,2,none⟩ (.int .i64 t551)).setCell ⟨gb563,3,none⟩ (.int .i64 t552)).setCell ⟨gb563,4,none⟩ (.slice Ao51 t553.length co51)).setCell ⟨gb563,5,none⟩ (.slice Ao52 t556.length co52)).setCell ⟨gb563,6,none⟩ (.slice Ao53 t559.length co53)).heap[gb523]?=some (.cells #[.slice A0_0 l0_0.length c0_0,.slice A0_1 l0_1.length c0_1,.int .i64 a0_2] 25 (0,0))):=⟨by (with_reducible repeat (first|refine zbN ?_ _|refine zbD ?_|refine zbA ?_ _));refine blk_far ?_ NB523_563.out _;(with_reducible repeat (first|refine zbN ?_ _|refine zbD ?_|refine zbA ?_ _));refine blk_far ?_ NB523_563.out _;(with_reducible repeat (first|refine zbN ?_ _|refine zbD ?_|refine zbA ?_ _));refine blk_far ?_ NB523_563.out _;(with_reducible repeat (first|refine zbN ?_ _|refine zbD ?_|refine zbA ?_ _));refine blk_far ?_ NB523_563.out _;(with_reducible repeat (first|refine zbN ?_ _|refine zbD ?_|refine zbA ?_ _));refine blk_far ?_ NB523_563.out _;(with_reducible repeat (first|refine zbN ?_ _|refine zbD ?_|refine zbA ?_ _));refine blk_far ?_ NB523_563.out _;(with_reducible repeat (first|refine zbN ?_ _|refine zbD ?_|refine zbA ?_ _));refine blk_far ?_ NB523_563.out _;(with_reducible repeat (first|refine zbN ?_ _|refine zbD ?_|refine zbA ?_ _));exact BK523.out⟩
        have n9_:Aside0 ((((((((w45.setCell ⟨gb563,0,none⟩ (.int .i64 t549)).setCell ⟨gb563,1,none⟩ (.int .i64 t550)).setCell ⟨gb563,2,none⟩ (.int .i64 t551)).setCell ⟨gb563,3,none⟩ (.int .i64 t552)).setCell ⟨gb563,4,none⟩ (.slice Ao51 t553.length co51)).setCell ⟨gb563,5,none⟩ (.slice Ao52 t556.length co52)).setCell ⟨gb563,6,none⟩ (.slice Ao53 t559.length co53)).heap[gb524]?=some (.cells #[.int .i64 a4_0,.int .i64 a4_1,.int .i64 a4_2,.int .i64 a4_3,.slice A4_4 l4_4.length c4_4,.slice A4_5 l4_5.length c4_5,.slice A4_6 l4_6.length c4_6] 42 (0,0))):=⟨by (with_reducible repeat (first|refine zbN ?_ _|refine zbD ?_|refine zbA ?_ _));refine blk_far ?_ NB524_563.out _;(with_reducible repeat (first|refine zbN ?_ _|refine zbD ?_|refine zbA ?_ _));refine blk_far ?_ NB524_563.out _;(with_reducible repeat (first|refine zbN ?_ _|refine zbD ?_|refine zbA ?_ _));refine blk_far ?_ NB524_563.out _;(with_reducible repeat (first|refine zbN ?_ _|refine zbD ?_|refine zbA ?_ _));refine blk_far ?_ NB524_563.out _;(with_reducible repeat (first|refine zbN ?_ _|refine zbD ?_|refine zbA ?_ _));refine blk_far ?_ NB524_563.out _;(with_reducible repeat (first|refine zbN ?_ _|refine zbD ?_|refine zbA ?_ _));refine blk_far ?_ NB524_563.out _;(with_reducible repeat (first|refine zbN ?_ _|refine zbD ?_|refine zbA ?_ _));refine blk_far ?_ NB524_563.out _;(with_reducible repeat (first|refine zbN ?_ _|refine zbD ?_|refine zbA ?_ _));exact BK524.out⟩
        have n10_:Aside0 ((((((((w45.setCell ⟨gb563,0,none⟩ (.int .i64 t549)).setCell ⟨gb563,1,none⟩ (.int .i64 t550)).setCell ⟨gb563,2,none⟩ (.int .i64 t551)).setCell ⟨gb563,3,none⟩ (.int .i64 t552)).setCell ⟨gb563,4,none⟩ (.slice Ao51 t553.length co51)).setCell ⟨gb563,5,none⟩ (.slice Ao52 t556.length co52)).setCell ⟨gb563,6,none⟩ (.slice Ao53 t559.length co53)).heap[gb525]?=some (.cells #[.int .i64 a5_0,.int .i64 a5_1,.int .i64 a5_2,.int .i64 a5_3,.slice A5_4 l5_4.length c5_4,.slice A5_5 l5_5.length c5_5,.slice A5_6 l5_6.length c5_6] 42 (0,0))):=⟨by (with_reducible repeat (first|refine zbN ?_ _|refine zbD ?_|refine zbA ?_ _));refine blk_far ?_ NB525_563.out _;(with_reducible repeat (first|refine zbN ?_ _|refine zbD ?_|refine zbA ?_ _));refine blk_far ?_ NB525_563.out _;(with_reducible repeat (first|refine zbN ?_ _|refine zbD ?_|refine zbA ?_ _));refine blk_far ?_ NB525_563.out _;(with_reducible repeat (first|refine zbN ?_ _|refine zbD ?_|refine zbA ?_ _));refine blk_far ?_ NB525_563.out _;(with_reducible repeat (first|refine zbN ?_ _|refine zbD ?_|refine zbA ?_ _));refine blk_far ?_ NB525_563.out _;(with_reducible repeat (first|refine zbN ?_ _|refine zbD ?_|refine zbA ?_ _));refine blk_far ?_ NB525_563.out _;(with_reducible repeat (first|refine zbN ?_ _|refine zbD ?_|refine zbA ?_ _));refine blk_far ?_ NB525_563.out _;(with_reducible repeat (first|refine zbN ?_ _|refine zbD ?_|refine zbA ?_ _));exact BK525.out⟩
        have n11_:Aside0 ((((((((w45.setCell ⟨gb563,0,none⟩ (.int .i64 t549)).setCell ⟨gb563,1,none⟩ (.int .i64 t550)).setCell ⟨gb563,2,none⟩ (.int .i64 t551)).setCell ⟨gb563,3,none⟩ (.int .i64 t552)).setCell ⟨gb563,4,none⟩ (.slice Ao51 t553.length co51)).setCell ⟨gb563,5,none⟩ (.slice Ao52 t556.length co52)).setCell ⟨gb563,6,none⟩ (.slice Ao53 t559.length co53)).heap[gb548]?=some (.cells #[.int .i64 t534,.int .i64 t535,.int .i64 t536,.int .i64 t537,.slice Ao41 t538.length co41,.slice Ao42 t541.length co42,.slice Ao43 t544.length co43] 42 (0,0))):=⟨by (with_reducible repeat (first|refine zbN ?_ _|refine zbD ?_|refine zbA ?_ _));refine blk_far ?_ NB548_563.out _;(with_reducible repeat (first|refine zbN ?_ _|refine zbD ?_|refine zbA ?_ _));refine blk_far ?_ NB548_563.out _;(with_reducible repeat (first|refine zbN ?_ _|refine zbD ?_|refine zbA ?_ _));refine blk_far ?_ NB548_563.out _;(with_reducible repeat (first|refine zbN ?_ _|refine zbD ?_|refine zbA ?_ _));refine blk_far ?_ NB548_563.out _;(with_reducible repeat (first|refine zbN ?_ _|refine zbD ?_|refine zbA ?_ _));refine blk_far ?_ NB548_563.out _;(with_reducible repeat (first|refine zbN ?_ _|refine zbD ?_|refine zbA ?_ _));refine blk_far ?_ NB548_563.out _;(with_reducible repeat (first|refine zbN ?_ _|refine zbD ?_|refine zbA ?_ _));refine blk_far ?_ NB548_563.out _;(with_reducible repeat (first|refine zbN ?_ _|refine zbD ?_|refine zbA ?_ _));exact BK548.out⟩
        have n12_:Aside0 ((((((((w45.setCell ⟨gb563,0,none⟩ (.int .i64 t549)).setCell ⟨gb563,1,none⟩ (.int .i64 t550)).setCell ⟨gb563,2,none⟩ (.int .i64 t551)).setCell ⟨gb563,3,none⟩ (.int .i64 t552)).setCell ⟨gb563,4,none⟩ (.slice Ao51 t553.length co51)).setCell ⟨gb563,5,none⟩ (.slice Ao52 t556.length co52)).setCell ⟨gb563,6,none⟩ (.slice Ao53 t559.length co53)).heap[gb563]?=some (.cells #[.int .i64 t549,.int .i64 t550,.int .i64 t551,.int .i64 t552,.slice Ao51 t553.length co51,.slice Ao52 t556.length co52,.slice Ao53 t559.length co53] 42 (0,0))):=⟨by (with_reducible repeat (first|refine zbN ?_ _|refine zbD ?_|refine zbA ?_ _));refine blk_put (cs:=#[.int .i64 t549,.int .i64 t550,.int .i64 t551,.int .i64 t552,.slice Ao51 t553.length co51,.slice Ao52 t556.length co52,.slice none 0 0]) ?_ 6 _ rfl;(with_reducible repeat (first|refine zbN ?_ _|refine zbD ?_|refine zbA ?_ _));refine blk_put (cs:=#[.int .i64 t549,.int .i64 t550,.int .i64 t551,.int .i64 t552,.slice Ao51 t553.length co51,.slice none 0 0,.slice none 0 0]) ?_ 5 _ rfl;(with_reducible repeat (first|refine zbN ?_ _|refine zbD ?_|refine zbA ?_ _));refine blk_put (cs:=#[.int .i64 t549,.int .i64 t550,.int .i64 t551,.int .i64 t552,.slice none 0 0,.slice none 0 0,.slice none 0 0]) ?_ 4 _ rfl;(with_reducible repeat (first|refine zbN ?_ _|refine zbD ?_|refine zbA ?_ _));refine blk_put (cs:=#[.int .i64 t549,.int .i64 t550,.int .i64 t551,.int .i64 0,.slice none 0 0,.slice none 0 0,.slice none 0 0]) ?_ 3 _ rfl;(with_reducible repeat (first|refine zbN ?_ _|refine zbD ?_|refine zbA ?_ _));refine blk_put (cs:=#[.int .i64 t549,.int .i64 t550,.int .i64 0,.int .i64 0,.slice none 0 0,.slice none 0 0,.slice none 0 0]) ?_ 2 _ rfl;(with_reducible repeat (first|refine zbN ?_ _|refine zbD ?_|refine zbA ?_ _));refine blk_put (cs:=#[.int .i64 t549,.int .i64 0,.int .i64 0,.int .i64 0,.slice none 0 0,.slice none 0 0,.slice none 0 0]) ?_ 1 _ rfl;(with_reducible repeat (first|refine zbN ?_ _|refine zbD ?_|refine zbA ?_ _));refine blk_put (cs:=#[.int .i64 0,.int .i64 0,.int .i64 0,.int .i64 0,.slice none 0 0,.slice none 0 0,.slice none 0 0]) ?_ 0 _ rfl;(with_reducible repeat (first|refine zbN ?_ _|refine zbD ?_|refine zbA ?_ _));exact BK563.out⟩
        have n13_:Aside0 (Below w.heap.size w (((((((w45.setCell ⟨gb563,0,none⟩ (.int .i64 t549)).setCell ⟨gb563,1,none⟩ (.int .i64 t550)).setCell ⟨gb563,2,none⟩ (.int .i64 t551)).setCell ⟨gb563,3,none⟩ (.int .i64 t552)).setCell ⟨gb563,4,none⟩ (.slice Ao51 t553.length co51)).setCell ⟨gb563,5,none⟩ (.slice Ao52 t556.length co52)).setCell ⟨gb563,6,none⟩ (.slice Ao53 t559.length co53))):=⟨by repeat (first|(with_reducible first|exact HB.out|apply zlA|apply zlN|apply zlD|refine zlS ?_ GE523.out|refine zlS ?_ GE524.out|refine zlS ?_ GE525.out|refine zlS ?_ GE548.out|refine zlS ?_ GE563.out)|exact HB.out)⟩
        (try clear HO528)
        (try clear HO532)
        (try clear HO540)
        (try clear HO543)
        (try clear HO546)
        (try clear HO555)
        (try clear HO558)
        (try clear HO561)
        (try clear BK523)
        (try clear BK524)
        (try clear BK525)
        (try clear BK548)
        (try clear BK563)
        (try clear HB)
        generalize (((((((w45.setCell ⟨gb563,0,none⟩ (.int .i64 t549)).setCell ⟨gb563,1,none⟩ (.int .i64 t550)).setCell ⟨gb563,2,none⟩ (.int .i64 t551)).setCell ⟨gb563,3,none⟩ (.int .i64 t552)).setCell ⟨gb563,4,none⟩ (.slice Ao51 t553.length co51)).setCell ⟨gb563,5,none⟩ (.slice Ao52 t556.length co52)).setCell ⟨gb563,6,none⟩ (.slice Ao53 t559.length co53))=w54 at n0_ n1_ n2_ n3_ n4_ n5_ n6_ n7_ n8_ n9_ n10_ n11_ n12_ n13_ ⊢
        have HO528:=n0_
        have HO532:=n1_
        have HO540:=n2_
        have HO543:=n3_
        have HO546:=n4_
        have HO555:=n5_
        have HO558:=n6_
        have HO561:=n7_
        have BK523:=n8_
        have BK524:=n9_
        have BK525:=n10_
        have BK548:=n11_
        have BK563:=n12_
        have HB:=n13_
        clear n0_ n1_ n2_ n3_ n4_ n5_ n6_ n7_ n8_ n9_ n10_ n11_ n12_ n13_
        have n0_:=zm (Kd.S_drew HO528.out)
        have n1_:=zm (Kd.S_drew HO532.out)
        have n2_:=zm (zrD HO540.out)
        have n3_:=zm (zrD HO543.out)
        have n4_:=zm (zrD HO546.out)
        have n5_:=zm (zrD HO555.out)
        have n6_:=zm (zrD HO558.out)
        have n7_:=zm (zrD HO561.out)
        have n8_:=zm (zbD BK523.out)
        have n9_:=zm (zbD BK524.out)
        have n10_:=zm (zbD BK525.out)
        have n11_:=zm (zbD BK548.out)
        have n12_:=zm (zbD BK563.out)
        have n13_:=zm (zlD HB.out)
        clear HO528 HO532 HO540 HO543 HO546 HO555 HO558 HO561 BK523 BK524 BK525 BK548 BK563 HB
        have HO528:=n0_
        have HO532:=n1_
        have HO540:=n2_
        have HO543:=n3_
        have HO546:=n4_
        have HO555:=n5_
        have HO558:=n6_
        have HO561:=n7_
        have BK523:=n8_
        have BK524:=n9_
        have BK525:=n10_
        have BK548:=n11_
        have BK563:=n12_
        have HB:=n13_
        clear n0_ n1_ n2_ n3_ n4_ n5_ n6_ n7_ n8_ n9_ n10_ n11_ n12_ n13_
        refine start_ (n:=43) (S:=fun w'=>w'.cell? ⟨gb548,0,none⟩=some (.int .i64 t534)∧w'.cell? ⟨gb548,1,none⟩=some (.int .i64 t535)∧w'.cell? ⟨gb548,2,none⟩=some (.int .i64 t536)∧w'.cell? ⟨gb548,3,none⟩=some (.int .i64 t537)∧w'.cell? ⟨gb548,4,none⟩=some (.slice Ao41 t538.length co41)∧w'.cell? ⟨gb548,5,none⟩=some (.slice Ao42 t541.length co42)∧w'.cell? ⟨gb548,6,none⟩=some (.slice Ao43 t544.length co43)∧w'.cell? ⟨gb563,0,none⟩=some (.int .i64 t549)∧w'.cell? ⟨gb563,1,none⟩=some (.int .i64 t550)∧w'.cell? ⟨gb563,2,none⟩=some (.int .i64 t551)∧w'.cell? ⟨gb563,3,none⟩=some (.int .i64 t552)∧w'.cell? ⟨gb563,4,none⟩=some (.slice Ao51 t553.length co51)∧w'.cell? ⟨gb563,5,none⟩=some (.slice Ao52 t556.length co52)∧w'.cell? ⟨gb563,6,none⟩=some (.slice Ao53 t559.length co53)∧w'.cell? ⟨gb524,0,none⟩=some (.int .i64 a4_0)∧w'.cell? ⟨gb524,1,none⟩=some (.int .i64 a4_1)∧w'.cell? ⟨gb524,2,none⟩=some (.int .i64 a4_2)∧w'.cell? ⟨gb524,3,none⟩=some (.int .i64 a4_3)∧w'.cell? ⟨gb524,4,none⟩=some (.slice A4_4 l4_4.length c4_4)∧w'.cell? ⟨gb524,5,none⟩=some (.slice A4_5 l4_5.length c4_5)∧w'.cell? ⟨gb524,6,none⟩=some (.slice A4_6 l4_6.length c4_6)∧w'.cell? ⟨gb525,0,none⟩=some (.int .i64 a5_0)∧w'.cell? ⟨gb525,1,none⟩=some (.int .i64 a5_1)∧w'.cell? ⟨gb525,2,none⟩=some (.int .i64 a5_2)∧w'.cell? ⟨gb525,3,none⟩=some (.int .i64 a5_3)∧w'.cell? ⟨gb525,4,none⟩=some (.slice A5_4 l5_4.length c5_4)∧w'.cell? ⟨gb525,5,none⟩=some (.slice A5_5 l5_5.length c5_5)∧w'.cell? ⟨gb525,6,none⟩=some (.slice A5_6 l5_6.length c5_6)) (ds:=[]) #[false,false,false,false,false,false,false,false,false,false,false,false,false,false,false,false,false,false,false,false,false,false,false,false,false,false,false,false,false,false,false,false,false,false,false,false,false,false,false,false,false,false,false] (by kernel_rfl) rfl rfl ⟨(blk_cell BK548.out 0).trans rfl,(blk_cell BK548.out 1).trans rfl,(blk_cell BK548.out 2).trans rfl,(blk_cell BK548.out 3).trans rfl,(blk_cell BK548.out 4).trans rfl,(blk_cell BK548.out 5).trans rfl,(blk_cell BK548.out 6).trans rfl,(blk_cell BK563.out 0).trans rfl,(blk_cell BK563.out 1).trans rfl,(blk_cell BK563.out 2).trans rfl,(blk_cell BK563.out 3).trans rfl,(blk_cell BK563.out 4).trans rfl,(blk_cell BK563.out 5).trans rfl,(blk_cell BK563.out 6).trans rfl,(blk_cell BK524.out 0).trans rfl,(blk_cell BK524.out 1).trans rfl,(blk_cell BK524.out 2).trans rfl,(blk_cell BK524.out 3).trans rfl,(blk_cell BK524.out 4).trans rfl,(blk_cell BK524.out 5).trans rfl,(blk_cell BK524.out 6).trans rfl,(blk_cell BK525.out 0).trans rfl,(blk_cell BK525.out 1).trans rfl,(blk_cell BK525.out 2).trans rfl,(blk_cell BK525.out 3).trans rfl,(blk_cell BK525.out 4).trans rfl,(blk_cell BK525.out 5).trans rfl,(blk_cell BK525.out 6).trans rfl⟩ (fun hHeld=>?_);refine with_tabW slipwaylaw06_MapPages.tab5 slipwaylaw06_MapPages.bits5 (fun HT_ HW_=>?_)
        generalize w54.drew=w55 at HO528 HO532 HO540 HO543 HO546 HO555 HO558 HO561 BK523 BK524 BK525 BK548 BK563 HB hHeld ⊢
        refine one_ (i:=0) (N:=some 45) #[true,false,false,false,false,false,false,false,false,false,false,false,false,false,false,false,false,false,false,false,false,false,false,false,false,false,false,false,false,false,false,false,false,false,false,false,false,false,false,false,false,false,false] rfl rfl (one_of HT_.out (by kernel_rfl)) (by decide) (fun K hK=>?_)
        refine goes_ Try.func15 (by kernel_rfl) rfl #[] (by rfl) rfl rfl (by (try simp only [List.map_toArray,List.map_cons,List.map_nil]);first|done|rfl|(simp only [List.length_drop,List.length_take];rfl)) ?_
        with_reducible refine (slipwaylaw06_begun.calls k  true _ A11.out).mono ?_
        rintro e w56 ⟨rfl,hb⟩
        refine ⟨_,rfl,?_⟩
        have n0_:=zm (Kd.S_below (by (with_reducible repeat (first|apply Kd.S_alloc|apply Kd.S_drewN|apply Kd.S_drew));exact HO528.out) hb)
        have n1_:=zm (Kd.S_below (by (with_reducible repeat (first|apply Kd.S_alloc|apply Kd.S_drewN|apply Kd.S_drew));exact HO532.out) hb)
        have n2_:=zm (Kd.R_below (by (with_reducible repeat (first|apply zrA|apply zrN|apply zrD));exact HO540.out) hb)
        have n3_:=zm (Kd.R_below (by (with_reducible repeat (first|apply zrA|apply zrN|apply zrD));exact HO543.out) hb)
        have n4_:=zm (Kd.R_below (by (with_reducible repeat (first|apply zrA|apply zrN|apply zrD));exact HO546.out) hb)
        have n5_:=zm (Kd.R_below (by (with_reducible repeat (first|apply zrA|apply zrN|apply zrD));exact HO555.out) hb)
        have n6_:=zm (Kd.R_below (by (with_reducible repeat (first|apply zrA|apply zrN|apply zrD));exact HO558.out) hb)
        have n7_:=zm (Kd.R_below (by (with_reducible repeat (first|apply zrA|apply zrN|apply zrD));exact HO561.out) hb)
        have n8_:=zm (zbB (g:=gb523) (o:=.cells #[.slice A0_0 l0_0.length c0_0,.slice A0_1 l0_1.length c0_1,.int .i64 a0_2] 25 (0,0)) (by (with_reducible repeat (first|refine zbN ?_ _|refine zbD ?_|refine zbA ?_ _));exact BK523.out) hb)
        have n9_:=zm (zbB (g:=gb524) (o:=.cells #[.int .i64 a4_0,.int .i64 a4_1,.int .i64 a4_2,.int .i64 a4_3,.slice A4_4 l4_4.length c4_4,.slice A4_5 l4_5.length c4_5,.slice A4_6 l4_6.length c4_6] 42 (0,0)) (by (with_reducible repeat (first|refine zbN ?_ _|refine zbD ?_|refine zbA ?_ _));exact BK524.out) hb)
        have n10_:=zm (zbB (g:=gb525) (o:=.cells #[.int .i64 a5_0,.int .i64 a5_1,.int .i64 a5_2,.int .i64 a5_3,.slice A5_4 l5_4.length c5_4,.slice A5_5 l5_5.length c5_5,.slice A5_6 l5_6.length c5_6] 42 (0,0)) (by (with_reducible repeat (first|refine zbN ?_ _|refine zbD ?_|refine zbA ?_ _));exact BK525.out) hb)
        have n11_:=zm (zbB (g:=gb548) (o:=.cells #[.int .i64 t534,.int .i64 t535,.int .i64 t536,.int .i64 t537,.slice Ao41 t538.length co41,.slice Ao42 t541.length co42,.slice Ao43 t544.length co43] 42 (0,0)) (by (with_reducible repeat (first|refine zbN ?_ _|refine zbD ?_|refine zbA ?_ _));exact BK548.out) hb)
        have n12_:=zm (zbB (g:=gb563) (o:=.cells #[.int .i64 t549,.int .i64 t550,.int .i64 t551,.int .i64 t552,.slice Ao51 t553.length co51,.slice Ao52 t556.length co52,.slice Ao53 t559.length co53] 42 (0,0)) (by (with_reducible repeat (first|refine zbN ?_ _|refine zbD ?_|refine zbA ?_ _));exact BK563.out) hb)
        have n13_:=zm (below_step (by repeat (first|(with_reducible first|exact HB.out|apply zlA|apply zlN|apply zlD|refine zlS ?_ GE523.out|refine zlS ?_ GE524.out|refine zlS ?_ GE525.out|refine zlS ?_ GE548.out|refine zlS ?_ GE563.out)|exact HB.out)) hb)
        clear HO528 HO532 HO540 HO543 HO546 HO555 HO558 HO561 BK523 BK524 BK525 BK548 BK563 HB
        have HO528:=n0_
        have HO532:=n1_
        have HO540:=n2_
        have HO543:=n3_
        have HO546:=n4_
        have HO555:=n5_
        have HO558:=n6_
        have HO561:=n7_
        have BK523:=n8_
        have BK524:=n9_
        have BK525:=n10_
        have BK548:=n11_
        have BK563:=n12_
        have HB:=n13_
        clear n0_ n1_ n2_ n3_ n4_ n5_ n6_ n7_ n8_ n9_ n10_ n11_ n12_ n13_
        (try clear hb)
        (try clear hb2)
        (try clear hk)
        (try clear hi)
        obtain ⟨Ao57,co57,eo57⟩:=Kd.S_slice HO528.out
        (first|subst eo57|(injection eo57 with f1_ f2_ f3_;have f4_:=f1_.symm;have f5_:=f3_.symm;clear f1_ f2_ f3_;subst f4_;subst f5_))
        obtain ⟨Ao58,co58,eo58⟩:=Kd.S_slice HO532.out
        (first|subst eo58|(injection eo58 with f1_ f2_ f3_;have f4_:=f1_.symm;have f5_:=f3_.symm;clear f1_ f2_ f3_;subst f4_;subst f5_))
        refine hK.out _ _ ⟨(blk_cell BK548.out 0).trans rfl,(blk_cell BK548.out 1).trans rfl,(blk_cell BK548.out 2).trans rfl,(blk_cell BK548.out 3).trans rfl,(blk_cell BK548.out 4).trans rfl,(blk_cell BK548.out 5).trans rfl,(blk_cell BK548.out 6).trans rfl,(blk_cell BK563.out 0).trans rfl,(blk_cell BK563.out 1).trans rfl,(blk_cell BK563.out 2).trans rfl,(blk_cell BK563.out 3).trans rfl,(blk_cell BK563.out 4).trans rfl,(blk_cell BK563.out 5).trans rfl,(blk_cell BK563.out 6).trans rfl,(blk_cell BK524.out 0).trans rfl,(blk_cell BK524.out 1).trans rfl,(blk_cell BK524.out 2).trans rfl,(blk_cell BK524.out 3).trans rfl,(blk_cell BK524.out 4).trans rfl,(blk_cell BK524.out 5).trans rfl,(blk_cell BK524.out 6).trans rfl,(blk_cell BK525.out 0).trans rfl,(blk_cell BK525.out 1).trans rfl,(blk_cell BK525.out 2).trans rfl,(blk_cell BK525.out 3).trans rfl,(blk_cell BK525.out 4).trans rfl,(blk_cell BK525.out 5).trans rfl,(blk_cell BK525.out 6).trans rfl⟩ (fun hHeld=>?_)
        clear hK K
        refine norm_ (a':=?_) ?_ ?_
        rotate_left
        ·show Act.put _ (some 45) _=_
         simp only [Act.put,List.setIfInBounds_toArray,List.set_cons_zero,List.set_cons_succ,i64_w,i32_w]
         rfl
        refine pure_ (i:=1) (N:=some 46) (v:=?_) (a':=?_) #[true,true,false,false,false,false,false,false,false,false,false,false,false,false,false,false,false,false,false,false,false,false,false,false,false,false,false,false,false,false,false,false,false,false,false,false,false,false,false,false,false,false,false] rfl rfl (any_of HT_.out (by kernel_rfl)) (fun _ _ _ h=>h) (Or.inl ⟨by rfl,?_⟩) ?_ ?_
        rotate_left
        ·intro w'
         go_simp
         with_reducible rfl
        rotate_left
        ·simp only [Act.put,List.setIfInBounds_toArray,List.set_cons_zero,List.set_cons_succ,i64_w,i32_w]
         rfl
        refine pure_ (i:=2) (N:=some 47) (v:=?_) (a':=?_) #[true,true,true,false,false,false,false,false,false,false,false,false,false,false,false,false,false,false,false,false,false,false,false,false,false,false,false,false,false,false,false,false,false,false,false,false,false,false,false,false,false,false,false] rfl rfl (any_of HT_.out (by kernel_rfl)) (fun _ _ _ h=>h) (Or.inl ⟨by rfl,?_⟩) ?_ ?_
        rotate_left
        ·intro w'
         go_simp
         with_reducible rfl
        rotate_left
        ·simp only [Act.put,List.setIfInBounds_toArray,List.set_cons_zero,List.set_cons_succ,i64_w,i32_w]
         rfl
        refine pure_ (i:=3) (N:=some 48) (v:=?_) (a':=?_) #[true,true,true,true,false,false,false,false,false,false,false,false,false,false,false,false,false,false,false,false,false,false,false,false,false,false,false,false,false,false,false,false,false,false,false,false,false,false,false,false,false,false,false] rfl rfl (any_of HT_.out (by kernel_rfl)) (fun _ _ _ h=>h) (Or.inl ⟨by rfl,?_⟩) ?_ ?_
        rotate_left
        ·intro w'
         go_simp
         with_reducible rfl
        rotate_left
        ·simp only [Act.put,List.setIfInBounds_toArray,List.set_cons_zero,List.set_cons_succ,i64_w,i32_w]
         rfl
        refine one_ (i:=4) (N:=some 49) #[true,true,true,true,true,false,false,false,false,false,false,false,false,false,false,false,false,false,false,false,false,false,false,false,false,false,false,false,false,false,false,false,false,false,false,false,false,false,false,false,false,false,false] rfl rfl (one_of HT_.out (by kernel_rfl)) (by decide) (fun K hK=>?_)
        refine goes_ Try.func31 (by kernel_rfl) rfl #[.slice Ao57 t526.length co57,.slice Ao58 t530.length co58] (by rfl) rfl rfl (by (try simp only [List.map_toArray,List.map_cons,List.map_nil]);first|done|rfl|(simp only [List.length_drop,List.length_take];rfl)) ?_
        with_reducible refine (slipwayref06_SamePages.calls k _ _ t526 _ _ t530 true _ ?side1 ?side2 ?side3 ?side4 A13.out).mono ?_
        (case side1=>repeat (first|exact (Kd.S_reads' HO528.out).2.2|(with_reducible refine Kd.C_alloc ?_ _)|(with_reducible refine Kd.C_drewN ?_ _)|(with_reducible refine Kd.C_drew ?_)))
        (case side2=>exact (Kd.S_reads' HO528.out).2.1)
        (case side3=>repeat (first|exact (Kd.S_reads' HO532.out).2.2|(with_reducible refine Kd.C_alloc ?_ _)|(with_reducible refine Kd.C_drewN ?_ _)|(with_reducible refine Kd.C_drew ?_)))
        (case side4=>exact (Kd.S_reads' HO532.out).2.1)
        rintro e w59 ⟨rfl,hb⟩
        refine ⟨_,rfl,?_⟩
        have n0_:=zm (Kd.S_below (by (with_reducible repeat (first|apply Kd.S_alloc|apply Kd.S_drewN|apply Kd.S_drew));exact HO528.out) hb)
        have n1_:=zm (Kd.S_below (by (with_reducible repeat (first|apply Kd.S_alloc|apply Kd.S_drewN|apply Kd.S_drew));exact HO532.out) hb)
        have n2_:=zm (Kd.R_below (by (with_reducible repeat (first|apply zrA|apply zrN|apply zrD));exact HO540.out) hb)
        have n3_:=zm (Kd.R_below (by (with_reducible repeat (first|apply zrA|apply zrN|apply zrD));exact HO543.out) hb)
        have n4_:=zm (Kd.R_below (by (with_reducible repeat (first|apply zrA|apply zrN|apply zrD));exact HO546.out) hb)
        have n5_:=zm (Kd.R_below (by (with_reducible repeat (first|apply zrA|apply zrN|apply zrD));exact HO555.out) hb)
        have n6_:=zm (Kd.R_below (by (with_reducible repeat (first|apply zrA|apply zrN|apply zrD));exact HO558.out) hb)
        have n7_:=zm (Kd.R_below (by (with_reducible repeat (first|apply zrA|apply zrN|apply zrD));exact HO561.out) hb)
        have n8_:=zm (zbB (g:=gb523) (o:=.cells #[.slice A0_0 l0_0.length c0_0,.slice A0_1 l0_1.length c0_1,.int .i64 a0_2] 25 (0,0)) (by (with_reducible repeat (first|refine zbN ?_ _|refine zbD ?_|refine zbA ?_ _));exact BK523.out) hb)
        have n9_:=zm (zbB (g:=gb524) (o:=.cells #[.int .i64 a4_0,.int .i64 a4_1,.int .i64 a4_2,.int .i64 a4_3,.slice A4_4 l4_4.length c4_4,.slice A4_5 l4_5.length c4_5,.slice A4_6 l4_6.length c4_6] 42 (0,0)) (by (with_reducible repeat (first|refine zbN ?_ _|refine zbD ?_|refine zbA ?_ _));exact BK524.out) hb)
        have n10_:=zm (zbB (g:=gb525) (o:=.cells #[.int .i64 a5_0,.int .i64 a5_1,.int .i64 a5_2,.int .i64 a5_3,.slice A5_4 l5_4.length c5_4,.slice A5_5 l5_5.length c5_5,.slice A5_6 l5_6.length c5_6] 42 (0,0)) (by (with_reducible repeat (first|refine zbN ?_ _|refine zbD ?_|refine zbA ?_ _));exact BK525.out) hb)
        have n11_:=zm (zbB (g:=gb548) (o:=.cells #[.int .i64 t534,.int .i64 t535,.int .i64 t536,.int .i64 t537,.slice Ao41 t538.length co41,.slice Ao42 t541.length co42,.slice Ao43 t544.length co43] 42 (0,0)) (by (with_reducible repeat (first|refine zbN ?_ _|refine zbD ?_|refine zbA ?_ _));exact BK548.out) hb)
        have n12_:=zm (zbB (g:=gb563) (o:=.cells #[.int .i64 t549,.int .i64 t550,.int .i64 t551,.int .i64 t552,.slice Ao51 t553.length co51,.slice Ao52 t556.length co52,.slice Ao53 t559.length co53] 42 (0,0)) (by (with_reducible repeat (first|refine zbN ?_ _|refine zbD ?_|refine zbA ?_ _));exact BK563.out) hb)
        have n13_:=zm (below_step (by repeat (first|(with_reducible first|exact HB.out|apply zlA|apply zlN|apply zlD|refine zlS ?_ GE523.out|refine zlS ?_ GE524.out|refine zlS ?_ GE525.out|refine zlS ?_ GE548.out|refine zlS ?_ GE563.out)|exact HB.out)) hb)
        clear HO528 HO532 HO540 HO543 HO546 HO555 HO558 HO561 BK523 BK524 BK525 BK548 BK563 HB
        have HO528:=n0_
        have HO532:=n1_
        have HO540:=n2_
        have HO543:=n3_
        have HO546:=n4_
        have HO555:=n5_
        have HO558:=n6_
        have HO561:=n7_
        have BK523:=n8_
        have BK524:=n9_
        have BK525:=n10_
        have BK548:=n11_
        have BK563:=n12_
        have HB:=n13_
        clear n0_ n1_ n2_ n3_ n4_ n5_ n6_ n7_ n8_ n9_ n10_ n11_ n12_ n13_
        (try clear hb)
        (try clear hb2)
        (try clear hk)
        (try clear hi)
        refine hK.out _ _ ⟨(blk_cell BK548.out 0).trans rfl,(blk_cell BK548.out 1).trans rfl,(blk_cell BK548.out 2).trans rfl,(blk_cell BK548.out 3).trans rfl,(blk_cell BK548.out 4).trans rfl,(blk_cell BK548.out 5).trans rfl,(blk_cell BK548.out 6).trans rfl,(blk_cell BK563.out 0).trans rfl,(blk_cell BK563.out 1).trans rfl,(blk_cell BK563.out 2).trans rfl,(blk_cell BK563.out 3).trans rfl,(blk_cell BK563.out 4).trans rfl,(blk_cell BK563.out 5).trans rfl,(blk_cell BK563.out 6).trans rfl,(blk_cell BK524.out 0).trans rfl,(blk_cell BK524.out 1).trans rfl,(blk_cell BK524.out 2).trans rfl,(blk_cell BK524.out 3).trans rfl,(blk_cell BK524.out 4).trans rfl,(blk_cell BK524.out 5).trans rfl,(blk_cell BK524.out 6).trans rfl,(blk_cell BK525.out 0).trans rfl,(blk_cell BK525.out 1).trans rfl,(blk_cell BK525.out 2).trans rfl,(blk_cell BK525.out 3).trans rfl,(blk_cell BK525.out 4).trans rfl,(blk_cell BK525.out 5).trans rfl,(blk_cell BK525.out 6).trans rfl⟩ (fun hHeld=>?_)
        clear hK K
        refine norm_ (a':=?_) ?_ ?_
        rotate_left
        ·show Act.put _ (some 49) _=_
         simp only [Act.put,List.setIfInBounds_toArray,List.set_cons_zero,List.set_cons_succ,i64_w,i32_w]
         rfl
        refine pure_ (i:=5) (N:=some 50) (v:=?_) (a':=?_) #[true,true,true,true,true,true,false,false,false,false,false,false,false,false,false,false,false,false,false,false,false,false,false,false,false,false,false,false,false,false,false,false,false,false,false,false,false,false,false,false,false,false,false] rfl rfl (any_of HT_.out (by kernel_rfl)) (fun _ _ _ h=>h) (Or.inl ⟨by rfl,?_⟩) ?_ ?_
        rotate_left
        ·intro w'
         go_simp
         with_reducible rfl
        rotate_left
        ·simp only [Act.put,List.setIfInBounds_toArray,List.set_cons_zero,List.set_cons_succ,i64_w,i32_w]
         rfl
        refine pure_ (i:=6) (N:=some 51) (v:=?_) (a':=?_) #[true,true,true,true,true,true,true,false,false,false,false,false,false,false,false,false,false,false,false,false,false,false,false,false,false,false,false,false,false,false,false,false,false,false,false,false,false,false,false,false,false,false,false] rfl rfl (any_of HT_.out (by kernel_rfl)) (fun _ _ _ h=>h) (Or.inl ⟨by rfl,?_⟩) ?_ ?_
        rotate_left
        ·intro w'
         go_simp
         with_reducible rfl
        rotate_left
        ·simp only [Act.put,List.setIfInBounds_toArray,List.set_cons_zero,List.set_cons_succ,i64_w,i32_w]
         rfl
        refine pure_ (i:=7) (N:=some 52) (v:=?_) (a':=?_) #[true,true,true,true,true,true,true,true,false,false,false,false,false,false,false,false,false,false,false,false,false,false,false,false,false,false,false,false,false,false,false,false,false,false,false,false,false,false,false,false,false,false,false] rfl rfl (any_of HT_.out (by kernel_rfl)) (fun _ _ _ h=>h) (Or.inl ⟨by rfl,?_⟩) ?_ ?_
        rotate_left
        ·intro w'
         go_simp
         with_reducible rfl
        rotate_left
        ·simp only [Act.put,List.setIfInBounds_toArray,List.set_cons_zero,List.set_cons_succ,i64_w,i32_w]
         rfl
        refine pure_ (i:=8) (N:=some 53) (v:=?_) (a':=?_) #[true,true,true,true,true,true,true,true,true,false,false,false,false,false,false,false,false,false,false,false,false,false,false,false,false,false,false,false,false,false,false,false,false,false,false,false,false,false,false,false,false,false,false] rfl rfl (any_of HT_.out (by kernel_rfl)) (fun _ _ _ h=>h) (Or.inl ⟨by rfl,?_⟩) ?_ ?_
        rotate_left
        ·intro w'
         go_simp
         with_reducible rfl
        rotate_left
        ·simp only [Act.put,List.setIfInBounds_toArray,List.set_cons_zero,List.set_cons_succ,i64_w,i32_w]
         rfl
        refine pure_ (i:=9) (N:=some 54) (v:=?_) (a':=?_) #[true,true,true,true,true,true,true,true,true,true,false,false,false,false,false,false,false,false,false,false,false,false,false,false,false,false,false,false,false,false,false,false,false,false,false,false,false,false,false,false,false,false,false] rfl rfl (any_of HT_.out (by kernel_rfl)) (fun _ _ _ h=>h) (Or.inl ⟨by rfl,?_⟩) ?_ ?_
        rotate_left
        ·intro w'
         go_simp
         with_reducible rfl
        rotate_left
        ·simp only [Act.put,List.setIfInBounds_toArray,List.set_cons_zero,List.set_cons_succ,i64_w,i32_w]
         rfl
        refine pure_ (i:=10) (N:=some 55) (v:=?_) (a':=?_) #[true,true,true,true,true,true,true,true,true,true,true,false,false,false,false,false,false,false,false,false,false,false,false,false,false,false,false,false,false,false,false,false,false,false,false,false,false,false,false,false,false,false,false] rfl rfl (any_of HT_.out (by kernel_rfl)) (fun _ _ _ h=>h) (Or.inl ⟨by rfl,?_⟩) ?_ ?_
        rotate_left
        ·intro w'
         go_simp
         with_reducible rfl
        rotate_left
        ·simp only [Act.put,List.setIfInBounds_toArray,List.set_cons_zero,List.set_cons_succ,i64_w,i32_w]
         rfl
        refine pure_ (i:=11) (N:=some 56) (v:=?_) (a':=?_) #[true,true,true,true,true,true,true,true,true,true,true,true,false,false,false,false,false,false,false,false,false,false,false,false,false,false,false,false,false,false,false,false,false,false,false,false,false,false,false,false,false,false,false] rfl rfl (any_of HT_.out (by kernel_rfl)) (fun _ _ _ h=>h) (Or.inl ⟨by rfl,?_⟩) ?_ ?_
        rotate_left
        ·intro w'
         go_simp
         with_reducible rfl
        rotate_left
        ·simp only [Act.put,List.setIfInBounds_toArray,List.set_cons_zero,List.set_cons_succ,i64_w,i32_w]
         rfl
        refine take_ (i:=12) (N:=some 57) (v:=?_) (a':=?_) #[true,true,true,true,true,true,true,true,true,true,true,true,true,false,false,false,false,false,false,false,false,false,false,false,false,false,false,false,false,false,false,false,false,false,false,false,false,false,false,false,false,false,false] rfl rfl (take_ofW HT_.out HW_.out (by kernel_rfl)) (fun _ _ _ h=>h) (Or.inl ⟨by rfl,?_⟩) hHeld ?_ ?_
        rotate_left
        ·rintro w' ⟨s0,s1,s2,s3,s4,s5,s6,s7,s8,s9,s10,s11,s12,s13,s14,s15,s16,s17,s18,s19,s20,s21,s22,s23,s24,s25,s26,s27⟩
         go_simp
         with_reducible rfl
        rotate_left
        ·simp only [Act.put,List.setIfInBounds_toArray,List.set_cons_zero,List.set_cons_succ,i64_w,i32_w]
         rfl
        refine take_ (i:=13) (N:=some 58) (v:=?_) (a':=?_) #[true,true,true,true,true,true,true,true,true,true,true,true,true,true,false,false,false,false,false,false,false,false,false,false,false,false,false,false,false,false,false,false,false,false,false,false,false,false,false,false,false,false,false] rfl rfl (take_ofW HT_.out HW_.out (by kernel_rfl)) (fun _ _ _ h=>h) (Or.inl ⟨by rfl,?_⟩) hHeld ?_ ?_
        rotate_left
        ·rintro w' ⟨s0,s1,s2,s3,s4,s5,s6,s7,s8,s9,s10,s11,s12,s13,s14,s15,s16,s17,s18,s19,s20,s21,s22,s23,s24,s25,s26,s27⟩
         go_simp
         with_reducible rfl
        rotate_left
        ·simp only [Act.put,List.setIfInBounds_toArray,List.set_cons_zero,List.set_cons_succ,i64_w,i32_w]
         rfl
        refine one_ (i:=14) (N:=some 59) #[true,true,true,true,true,true,true,true,true,true,true,true,true,true,true,false,false,false,false,false,false,false,false,false,false,false,false,false,false,false,false,false,false,false,false,false,false,false,false,false,false,false,false] rfl rfl (one_of HT_.out (by kernel_rfl)) (by decide) (fun K hK=>?_)
        refine goes_ Try.func32 (by kernel_rfl) rfl #[.agg #[.int .i64 t534,.int .i64 t535,.int .i64 t536,.int .i64 t537,.slice Ao41 t538.length co41,.slice Ao42 t541.length co42,.slice Ao43 t544.length co43],.agg #[.int .i64 t549,.int .i64 t550,.int .i64 t551,.int .i64 t552,.slice Ao51 t553.length co51,.slice Ao52 t556.length co52,.slice Ao53 t559.length co53]] (by rfl) rfl rfl (by (try simp only [List.map_toArray,List.map_cons,List.map_nil]);first|done|rfl|(simp only [List.length_drop,List.length_take];rfl)) ?_
        with_reducible refine (slipwayref06_SamePage.calls k t534 t535 t536 t537 _ _ t538 _ _ t541 _ _ t544 t549 t550 t551 t552 _ _ t553 _ _ t556 _ _ t559 true _ ?side1 ?side2 ?side3 ?side4 ?side5 ?side6 ?side7 ?side8 ?side9 ?side10 ?side11 ?side12 A16.out).mono ?_
        (case side1=>repeat (first|exact (Kd.R_reads' HO540.out).2.2|(with_reducible refine Kd.C_alloc ?_ _)|(with_reducible refine Kd.C_drewN ?_ _)|(with_reducible refine Kd.C_drew ?_)))
        (case side2=>exact (Kd.R_reads' HO540.out).2.1)
        (case side3=>repeat (first|exact (Kd.R_reads' HO543.out).2.2|(with_reducible refine Kd.C_alloc ?_ _)|(with_reducible refine Kd.C_drewN ?_ _)|(with_reducible refine Kd.C_drew ?_)))
        (case side4=>exact (Kd.R_reads' HO543.out).2.1)
        (case side5=>repeat (first|exact (Kd.R_reads' HO546.out).2.2|(with_reducible refine Kd.C_alloc ?_ _)|(with_reducible refine Kd.C_drewN ?_ _)|(with_reducible refine Kd.C_drew ?_)))
        (case side6=>exact (Kd.R_reads' HO546.out).2.1)
        (case side7=>repeat (first|exact (Kd.R_reads' HO555.out).2.2|(with_reducible refine Kd.C_alloc ?_ _)|(with_reducible refine Kd.C_drewN ?_ _)|(with_reducible refine Kd.C_drew ?_)))
        (case side8=>exact (Kd.R_reads' HO555.out).2.1)
        (case side9=>repeat (first|exact (Kd.R_reads' HO558.out).2.2|(with_reducible refine Kd.C_alloc ?_ _)|(with_reducible refine Kd.C_drewN ?_ _)|(with_reducible refine Kd.C_drew ?_)))
        (case side10=>exact (Kd.R_reads' HO558.out).2.1)
        (case side11=>repeat (first|exact (Kd.R_reads' HO561.out).2.2|(with_reducible refine Kd.C_alloc ?_ _)|(with_reducible refine Kd.C_drewN ?_ _)|(with_reducible refine Kd.C_drew ?_)))
        (case side12=>exact (Kd.R_reads' HO561.out).2.1)
        rintro e w60 ⟨rfl,hb⟩
        refine ⟨_,rfl,?_⟩
        have n0_:=zm (Kd.S_below (by (with_reducible repeat (first|apply Kd.S_alloc|apply Kd.S_drewN|apply Kd.S_drew));exact HO528.out) hb)
        have n1_:=zm (Kd.S_below (by (with_reducible repeat (first|apply Kd.S_alloc|apply Kd.S_drewN|apply Kd.S_drew));exact HO532.out) hb)
        have n2_:=zm (Kd.R_below (by (with_reducible repeat (first|apply zrA|apply zrN|apply zrD));exact HO540.out) hb)
        have n3_:=zm (Kd.R_below (by (with_reducible repeat (first|apply zrA|apply zrN|apply zrD));exact HO543.out) hb)
        have n4_:=zm (Kd.R_below (by (with_reducible repeat (first|apply zrA|apply zrN|apply zrD));exact HO546.out) hb)
        have n5_:=zm (Kd.R_below (by (with_reducible repeat (first|apply zrA|apply zrN|apply zrD));exact HO555.out) hb)
        have n6_:=zm (Kd.R_below (by (with_reducible repeat (first|apply zrA|apply zrN|apply zrD));exact HO558.out) hb)
        have n7_:=zm (Kd.R_below (by (with_reducible repeat (first|apply zrA|apply zrN|apply zrD));exact HO561.out) hb)
        have n8_:=zm (zbB (g:=gb523) (o:=.cells #[.slice A0_0 l0_0.length c0_0,.slice A0_1 l0_1.length c0_1,.int .i64 a0_2] 25 (0,0)) (by (with_reducible repeat (first|refine zbN ?_ _|refine zbD ?_|refine zbA ?_ _));exact BK523.out) hb)
        have n9_:=zm (zbB (g:=gb524) (o:=.cells #[.int .i64 a4_0,.int .i64 a4_1,.int .i64 a4_2,.int .i64 a4_3,.slice A4_4 l4_4.length c4_4,.slice A4_5 l4_5.length c4_5,.slice A4_6 l4_6.length c4_6] 42 (0,0)) (by (with_reducible repeat (first|refine zbN ?_ _|refine zbD ?_|refine zbA ?_ _));exact BK524.out) hb)
        have n10_:=zm (zbB (g:=gb525) (o:=.cells #[.int .i64 a5_0,.int .i64 a5_1,.int .i64 a5_2,.int .i64 a5_3,.slice A5_4 l5_4.length c5_4,.slice A5_5 l5_5.length c5_5,.slice A5_6 l5_6.length c5_6] 42 (0,0)) (by (with_reducible repeat (first|refine zbN ?_ _|refine zbD ?_|refine zbA ?_ _));exact BK525.out) hb)
        have n11_:=zm (zbB (g:=gb548) (o:=.cells #[.int .i64 t534,.int .i64 t535,.int .i64 t536,.int .i64 t537,.slice Ao41 t538.length co41,.slice Ao42 t541.length co42,.slice Ao43 t544.length co43] 42 (0,0)) (by (with_reducible repeat (first|refine zbN ?_ _|refine zbD ?_|refine zbA ?_ _));exact BK548.out) hb)
        have n12_:=zm (zbB (g:=gb563) (o:=.cells #[.int .i64 t549,.int .i64 t550,.int .i64 t551,.int .i64 t552,.slice Ao51 t553.length co51,.slice Ao52 t556.length co52,.slice Ao53 t559.length co53] 42 (0,0)) (by (with_reducible repeat (first|refine zbN ?_ _|refine zbD ?_|refine zbA ?_ _));exact BK563.out) hb)
        have n13_:=zm (below_step (by repeat (first|(with_reducible first|exact HB.out|apply zlA|apply zlN|apply zlD|refine zlS ?_ GE523.out|refine zlS ?_ GE524.out|refine zlS ?_ GE525.out|refine zlS ?_ GE548.out|refine zlS ?_ GE563.out)|exact HB.out)) hb)
        clear HO528 HO532 HO540 HO543 HO546 HO555 HO558 HO561 BK523 BK524 BK525 BK548 BK563 HB
        have HO528:=n0_
        have HO532:=n1_
        have HO540:=n2_
        have HO543:=n3_
        have HO546:=n4_
        have HO555:=n5_
        have HO558:=n6_
        have HO561:=n7_
        have BK523:=n8_
        have BK524:=n9_
        have BK525:=n10_
        have BK548:=n11_
        have BK563:=n12_
        have HB:=n13_
        clear n0_ n1_ n2_ n3_ n4_ n5_ n6_ n7_ n8_ n9_ n10_ n11_ n12_ n13_
        (try clear hb)
        (try clear hb2)
        (try clear hk)
        (try clear hi)
        refine hK.out _ _ ⟨(blk_cell BK548.out 0).trans rfl,(blk_cell BK548.out 1).trans rfl,(blk_cell BK548.out 2).trans rfl,(blk_cell BK548.out 3).trans rfl,(blk_cell BK548.out 4).trans rfl,(blk_cell BK548.out 5).trans rfl,(blk_cell BK548.out 6).trans rfl,(blk_cell BK563.out 0).trans rfl,(blk_cell BK563.out 1).trans rfl,(blk_cell BK563.out 2).trans rfl,(blk_cell BK563.out 3).trans rfl,(blk_cell BK563.out 4).trans rfl,(blk_cell BK563.out 5).trans rfl,(blk_cell BK563.out 6).trans rfl,(blk_cell BK524.out 0).trans rfl,(blk_cell BK524.out 1).trans rfl,(blk_cell BK524.out 2).trans rfl,(blk_cell BK524.out 3).trans rfl,(blk_cell BK524.out 4).trans rfl,(blk_cell BK524.out 5).trans rfl,(blk_cell BK524.out 6).trans rfl,(blk_cell BK525.out 0).trans rfl,(blk_cell BK525.out 1).trans rfl,(blk_cell BK525.out 2).trans rfl,(blk_cell BK525.out 3).trans rfl,(blk_cell BK525.out 4).trans rfl,(blk_cell BK525.out 5).trans rfl,(blk_cell BK525.out 6).trans rfl⟩ (fun hHeld=>?_)
        clear hK K
        refine norm_ (a':=?_) ?_ ?_
        rotate_left
        ·show Act.put _ (some 59) _=_
         simp only [Act.put,List.setIfInBounds_toArray,List.set_cons_zero,List.set_cons_succ,i64_w,i32_w]
         rfl
        refine pure_ (i:=15) (N:=some 60) (v:=?_) (a':=?_) #[true,true,true,true,true,true,true,true,true,true,true,true,true,true,true,true,false,false,false,false,false,false,false,false,false,false,false,false,false,false,false,false,false,false,false,false,false,false,false,false,false,false,false] rfl rfl (any_of HT_.out (by kernel_rfl)) (fun _ _ _ h=>h) (Or.inl ⟨by rfl,?_⟩) ?_ ?_
        rotate_left
        ·intro w'
         go_simp
         with_reducible rfl
        rotate_left
        ·simp only [Act.put,List.setIfInBounds_toArray,List.set_cons_zero,List.set_cons_succ,i64_w,i32_w]
         rfl
        refine pure_ (i:=16) (N:=some 61) (v:=?_) (a':=?_) #[true,true,true,true,true,true,true,true,true,true,true,true,true,true,true,true,true,false,false,false,false,false,false,false,false,false,false,false,false,false,false,false,false,false,false,false,false,false,false,false,false,false,false] rfl rfl (any_of HT_.out (by kernel_rfl)) (fun _ _ _ h=>h) (Or.inl ⟨by rfl,?_⟩) ?_ ?_
        rotate_left
        ·intro w'
         go_simp
         with_reducible rfl
        rotate_left
        ·simp only [Act.put,List.setIfInBounds_toArray,List.set_cons_zero,List.set_cons_succ,i64_w,i32_w]
         rfl
        refine pure_ (i:=17) (N:=some 62) (v:=?_) (a':=?_) #[true,true,true,true,true,true,true,true,true,true,true,true,true,true,true,true,true,true,false,false,false,false,false,false,false,false,false,false,false,false,false,false,false,false,false,false,false,false,false,false,false,false,false] rfl rfl (any_of HT_.out (by kernel_rfl)) (fun _ _ _ h=>h) (Or.inl ⟨by rfl,?_⟩) ?_ ?_
        rotate_left
        ·intro w'
         go_simp
         with_reducible rfl
        rotate_left
        ·simp only [Act.put,List.setIfInBounds_toArray,List.set_cons_zero,List.set_cons_succ,i64_w,i32_w]
         rfl
        refine pure_ (i:=18) (N:=some 63) (v:=?_) (a':=?_) #[true,true,true,true,true,true,true,true,true,true,true,true,true,true,true,true,true,true,true,false,false,false,false,false,false,false,false,false,false,false,false,false,false,false,false,false,false,false,false,false,false,false,false] rfl rfl (any_of HT_.out (by kernel_rfl)) (fun _ _ _ h=>h) (Or.inl ⟨by rfl,?_⟩) ?_ ?_
        rotate_left
        ·intro w'
         go_simp
         with_reducible rfl
        rotate_left
        ·simp only [Act.put,List.setIfInBounds_toArray,List.set_cons_zero,List.set_cons_succ,i64_w,i32_w]
         rfl
        refine pure_ (i:=19) (N:=some 64) (v:=?_) (a':=?_) #[true,true,true,true,true,true,true,true,true,true,true,true,true,true,true,true,true,true,true,true,false,false,false,false,false,false,false,false,false,false,false,false,false,false,false,false,false,false,false,false,false,false,false] rfl rfl (any_of HT_.out (by kernel_rfl)) (fun _ _ _ h=>h) (Or.inl ⟨by rfl,?_⟩) ?_ ?_
        rotate_left
        ·intro w'
         go_simp
         with_reducible rfl
        rotate_left
        ·simp only [Act.put,List.setIfInBounds_toArray,List.set_cons_zero,List.set_cons_succ,i64_w,i32_w]
         rfl
        refine pure_ (i:=20) (N:=some 65) (v:=?_) (a':=?_) #[true,true,true,true,true,true,true,true,true,true,true,true,true,true,true,true,true,true,true,true,true,false,false,false,false,false,false,false,false,false,false,false,false,false,false,false,false,false,false,false,false,false,false] rfl rfl (any_of HT_.out (by kernel_rfl)) (fun _ _ _ h=>h) (Or.inl ⟨by rfl,?_⟩) ?_ ?_
        rotate_left
        ·intro w'
         go_simp
         with_reducible rfl
        rotate_left
        ·simp only [Act.put,List.setIfInBounds_toArray,List.set_cons_zero,List.set_cons_succ,i64_w,i32_w]
         rfl
        refine pure_ (i:=21) (N:=some 66) (v:=?_) (a':=?_) #[true,true,true,true,true,true,true,true,true,true,true,true,true,true,true,true,true,true,true,true,true,true,false,false,false,false,false,false,false,false,false,false,false,false,false,false,false,false,false,false,false,false,false] rfl rfl (any_of HT_.out (by kernel_rfl)) (fun _ _ _ h=>h) (Or.inl ⟨by rfl,?_⟩) ?_ ?_
        rotate_left
        ·intro w'
         go_simp
         with_reducible rfl
        rotate_left
        ·simp only [Act.put,List.setIfInBounds_toArray,List.set_cons_zero,List.set_cons_succ,i64_w,i32_w]
         rfl
        refine pure_ (i:=22) (N:=some 67) (v:=?_) (a':=?_) #[true,true,true,true,true,true,true,true,true,true,true,true,true,true,true,true,true,true,true,true,true,true,true,false,false,false,false,false,false,false,false,false,false,false,false,false,false,false,false,false,false,false,false] rfl rfl (any_of HT_.out (by kernel_rfl)) (fun _ _ _ h=>h) (Or.inl ⟨by rfl,?_⟩) ?_ ?_
        rotate_left
        ·intro w'
         go_simp
         with_reducible rfl
        rotate_left
        ·simp only [Act.put,List.setIfInBounds_toArray,List.set_cons_zero,List.set_cons_succ,i64_w,i32_w]
         rfl
        refine pure_ (i:=24) (N:=some 69) (v:=?_) (a':=?_) #[true,true,true,true,true,true,true,true,true,true,true,true,true,true,true,true,true,true,true,true,true,true,true,false,true,false,false,false,false,false,false,false,false,false,false,false,false,false,false,false,false,false,false] rfl rfl (any_of HT_.out (by kernel_rfl)) (fun _ _ _ h=>h) (Or.inl ⟨by rfl,?_⟩) ?_ ?_
        rotate_left
        ·intro w'
         go_simp
         with_reducible rfl
        rotate_left
        ·simp only [Act.put,List.setIfInBounds_toArray,List.set_cons_zero,List.set_cons_succ,i64_w,i32_w]
         rfl
        refine one_ (i:=23) (N:=some 68) #[true,true,true,true,true,true,true,true,true,true,true,true,true,true,true,true,true,true,true,true,true,true,true,true,true,false,false,false,false,false,false,false,false,false,false,false,false,false,false,false,false,false,false] rfl rfl (one_of HT_.out (by kernel_rfl)) (by decide) (fun K hK=>?_)
        refine goes_ Try.func33 (by kernel_rfl) rfl #[.int .i64 a3] (by rfl) rfl rfl (by (try simp only [List.map_toArray,List.map_cons,List.map_nil]);first|done|rfl|(simp only [List.length_drop,List.length_take];rfl)) ?_
        with_reducible refine (mapjnl_Parts.calls a3 t567 _ A19.out).mono ?_
        rintro e w' ⟨rfl,⟨nd,rfl⟩⟩
        refine ⟨_,rfl,?_⟩
        refine hK.out _ _ ⟨(blk_cell BK548.out 0).trans rfl,(blk_cell BK548.out 1).trans rfl,(blk_cell BK548.out 2).trans rfl,(blk_cell BK548.out 3).trans rfl,(blk_cell BK548.out 4).trans rfl,(blk_cell BK548.out 5).trans rfl,(blk_cell BK548.out 6).trans rfl,(blk_cell BK563.out 0).trans rfl,(blk_cell BK563.out 1).trans rfl,(blk_cell BK563.out 2).trans rfl,(blk_cell BK563.out 3).trans rfl,(blk_cell BK563.out 4).trans rfl,(blk_cell BK563.out 5).trans rfl,(blk_cell BK563.out 6).trans rfl,(blk_cell BK524.out 0).trans rfl,(blk_cell BK524.out 1).trans rfl,(blk_cell BK524.out 2).trans rfl,(blk_cell BK524.out 3).trans rfl,(blk_cell BK524.out 4).trans rfl,(blk_cell BK524.out 5).trans rfl,(blk_cell BK524.out 6).trans rfl,(blk_cell BK525.out 0).trans rfl,(blk_cell BK525.out 1).trans rfl,(blk_cell BK525.out 2).trans rfl,(blk_cell BK525.out 3).trans rfl,(blk_cell BK525.out 4).trans rfl,(blk_cell BK525.out 5).trans rfl,(blk_cell BK525.out 6).trans rfl⟩ (fun hHeld=>?_)
        clear hK K
        refine norm_ (a':=?_) ?_ ?_
        rotate_left
        ·show Act.put _ (some 68) _=_
         simp only [Act.put,List.setIfInBounds_toArray,List.set_cons_zero,List.set_cons_succ,i64_w,i32_w]
         rfl
        refine one_ (i:=25) (N:=some 70) #[true,true,true,true,true,true,true,true,true,true,true,true,true,true,true,true,true,true,true,true,true,true,true,true,true,true,false,false,false,false,false,false,false,false,false,false,false,false,false,false,false,false,false] rfl rfl (one_of HT_.out (by kernel_rfl)) (by decide) (fun K hK=>?_)
        refine goes_ Try.func34 (by kernel_rfl) rfl #[.int .i64 a3] (by rfl) rfl rfl (by (try simp only [List.map_toArray,List.map_cons,List.map_nil]);first|done|rfl|(simp only [List.length_drop,List.length_take];rfl)) ?_
        with_reducible refine (slipwayref06_Parts.calls a3 t568 _ A20.out).mono ?_
        rintro e w' ⟨rfl,⟨nd,rfl⟩⟩
        refine ⟨_,rfl,?_⟩
        refine hK.out _ _ ⟨(blk_cell BK548.out 0).trans rfl,(blk_cell BK548.out 1).trans rfl,(blk_cell BK548.out 2).trans rfl,(blk_cell BK548.out 3).trans rfl,(blk_cell BK548.out 4).trans rfl,(blk_cell BK548.out 5).trans rfl,(blk_cell BK548.out 6).trans rfl,(blk_cell BK563.out 0).trans rfl,(blk_cell BK563.out 1).trans rfl,(blk_cell BK563.out 2).trans rfl,(blk_cell BK563.out 3).trans rfl,(blk_cell BK563.out 4).trans rfl,(blk_cell BK563.out 5).trans rfl,(blk_cell BK563.out 6).trans rfl,(blk_cell BK524.out 0).trans rfl,(blk_cell BK524.out 1).trans rfl,(blk_cell BK524.out 2).trans rfl,(blk_cell BK524.out 3).trans rfl,(blk_cell BK524.out 4).trans rfl,(blk_cell BK524.out 5).trans rfl,(blk_cell BK524.out 6).trans rfl,(blk_cell BK525.out 0).trans rfl,(blk_cell BK525.out 1).trans rfl,(blk_cell BK525.out 2).trans rfl,(blk_cell BK525.out 3).trans rfl,(blk_cell BK525.out 4).trans rfl,(blk_cell BK525.out 5).trans rfl,(blk_cell BK525.out 6).trans rfl⟩ (fun hHeld=>?_)
        clear hK K
        refine norm_ (a':=?_) ?_ ?_
        rotate_left
        ·show Act.put _ (some 70) _=_
         simp only [Act.put,List.setIfInBounds_toArray,List.set_cons_zero,List.set_cons_succ,i64_w,i32_w]
         rfl
        refine pure_ (i:=26) (N:=some 71) (v:=?_) (a':=?_) #[true,true,true,true,true,true,true,true,true,true,true,true,true,true,true,true,true,true,true,true,true,true,true,true,true,true,true,false,false,false,false,false,false,false,false,false,false,false,false,false,false,false,false] rfl rfl (any_of HT_.out (by kernel_rfl)) (fun _ _ _ h=>h) (Or.inl ⟨by rfl,?_⟩) ?_ ?_
        rotate_left
        ·intro w'
         go_simp
         with_reducible rfl
        rotate_left
        ·simp only [Act.put,List.setIfInBounds_toArray,List.set_cons_zero,List.set_cons_succ,i64_w,i32_w]
         rfl
        refine pure_ (i:=27) (N:=some 72) (v:=?_) (a':=?_) #[true,true,true,true,true,true,true,true,true,true,true,true,true,true,true,true,true,true,true,true,true,true,true,true,true,true,true,true,false,false,false,false,false,false,false,false,false,false,false,false,false,false,false] rfl rfl (any_of HT_.out (by kernel_rfl)) (fun _ _ _ h=>h) (Or.inl ⟨by rfl,?_⟩) ?_ ?_
        rotate_left
        ·intro w'
         go_simp
         with_reducible rfl
        rotate_left
        ·simp only [Act.put,List.setIfInBounds_toArray,List.set_cons_zero,List.set_cons_succ,i64_w,i32_w]
         rfl
        refine pure_ (i:=28) (N:=some 73) (v:=?_) (a':=?_) #[true,true,true,true,true,true,true,true,true,true,true,true,true,true,true,true,true,true,true,true,true,true,true,true,true,true,true,true,true,false,false,false,false,false,false,false,false,false,false,false,false,false,false] rfl rfl (any_of HT_.out (by kernel_rfl)) (fun _ _ _ h=>h) (Or.inl ⟨by rfl,?_⟩) ?_ ?_
        rotate_left
        ·intro w'
         go_simp
         with_reducible rfl
        rotate_left
        ·simp only [Act.put,List.setIfInBounds_toArray,List.set_cons_zero,List.set_cons_succ,i64_w,i32_w]
         rfl
        refine take_ (i:=29) (N:=some 74) (v:=?_) (a':=?_) #[true,true,true,true,true,true,true,true,true,true,true,true,true,true,true,true,true,true,true,true,true,true,true,true,true,true,true,true,true,true,false,false,false,false,false,false,false,false,false,false,false,false,false] rfl rfl (take_ofW HT_.out HW_.out (by kernel_rfl)) (fun _ _ _ h=>h) (Or.inl ⟨by rfl,?_⟩) hHeld ?_ ?_
        rotate_left
        ·rintro w' ⟨s0,s1,s2,s3,s4,s5,s6,s7,s8,s9,s10,s11,s12,s13,s14,s15,s16,s17,s18,s19,s20,s21,s22,s23,s24,s25,s26,s27⟩
         go_simp
         with_reducible rfl
        rotate_left
        ·simp only [Act.put,List.setIfInBounds_toArray,List.set_cons_zero,List.set_cons_succ,i64_w,i32_w]
         rfl
        refine take_ (i:=30) (N:=some 75) (v:=?_) (a':=?_) #[true,true,true,true,true,true,true,true,true,true,true,true,true,true,true,true,true,true,true,true,true,true,true,true,true,true,true,true,true,true,true,false,false,false,false,false,false,false,false,false,false,false,false] rfl rfl (take_ofW HT_.out HW_.out (by kernel_rfl)) (fun _ _ _ h=>h) (Or.inl ⟨by rfl,?_⟩) hHeld ?_ ?_
        rotate_left
        ·rintro w' ⟨s0,s1,s2,s3,s4,s5,s6,s7,s8,s9,s10,s11,s12,s13,s14,s15,s16,s17,s18,s19,s20,s21,s22,s23,s24,s25,s26,s27⟩
         go_simp
         with_reducible rfl
        rotate_left
        ·simp only [Act.put,List.setIfInBounds_toArray,List.set_cons_zero,List.set_cons_succ,i64_w,i32_w]
         rfl
        refine take_ (i:=32) (N:=some 77) (v:=?_) (a':=?_) #[true,true,true,true,true,true,true,true,true,true,true,true,true,true,true,true,true,true,true,true,true,true,true,true,true,true,true,true,true,true,true,false,true,false,false,false,false,false,false,false,false,false,false] rfl rfl (take_ofW HT_.out HW_.out (by kernel_rfl)) (fun _ _ _ h=>h) (Or.inl ⟨by rfl,?_⟩) hHeld ?_ ?_
        rotate_left
        ·rintro w' ⟨s0,s1,s2,s3,s4,s5,s6,s7,s8,s9,s10,s11,s12,s13,s14,s15,s16,s17,s18,s19,s20,s21,s22,s23,s24,s25,s26,s27⟩
         go_simp
         with_reducible rfl
        rotate_left
        ·simp only [Act.put,List.setIfInBounds_toArray,List.set_cons_zero,List.set_cons_succ,i64_w,i32_w]
         rfl
        refine take_ (i:=33) (N:=some 78) (v:=?_) (a':=?_) #[true,true,true,true,true,true,true,true,true,true,true,true,true,true,true,true,true,true,true,true,true,true,true,true,true,true,true,true,true,true,true,false,true,true,false,false,false,false,false,false,false,false,false] rfl rfl (take_ofW HT_.out HW_.out (by kernel_rfl)) (fun _ _ _ h=>h) (Or.inl ⟨by rfl,?_⟩) hHeld ?_ ?_
        rotate_left
        ·rintro w' ⟨s0,s1,s2,s3,s4,s5,s6,s7,s8,s9,s10,s11,s12,s13,s14,s15,s16,s17,s18,s19,s20,s21,s22,s23,s24,s25,s26,s27⟩
         go_simp
         with_reducible rfl
        rotate_left
        ·simp only [Act.put,List.setIfInBounds_toArray,List.set_cons_zero,List.set_cons_succ,i64_w,i32_w]
         rfl
        refine one_ (i:=31) (N:=some 76) #[true,true,true,true,true,true,true,true,true,true,true,true,true,true,true,true,true,true,true,true,true,true,true,true,true,true,true,true,true,true,true,true,true,true,false,false,false,false,false,false,false,false,false] rfl rfl (one_of HT_.out (by kernel_rfl)) (by decide) (fun K hK=>?_)
        refine goes_ Try.func35 (by kernel_rfl) rfl #[.agg #[.int .i64 a4_0,.int .i64 a4_1,.int .i64 a4_2,.int .i64 a4_3,.slice A4_4 l4_4.length c4_4,.slice A4_5 l4_5.length c4_5,.slice A4_6 l4_6.length c4_6],.agg #[.int .i64 a5_0,.int .i64 a5_1,.int .i64 a5_2,.int .i64 a5_3,.slice A5_4 l5_4.length c5_4,.slice A5_5 l5_5.length c5_5,.slice A5_6 l5_6.length c5_6]] (by rfl) rfl rfl (by (try simp only [List.map_toArray,List.map_cons,List.map_nil]);first|done|rfl|(simp only [List.length_drop,List.length_take];rfl)) ?_
        with_reducible refine (mapjnl_SamePage.calls k a4_0 a4_1 a4_2 a4_3 _ _ l4_4 _ _ l4_5 _ _ l4_6 a5_0 a5_1 a5_2 a5_3 _ _ l5_4 _ _ l5_5 _ _ l5_6 t569 _ ?side1 ?side2 ?side3 ?side4 ?side5 ?side6 ?side7 ?side8 ?side9 ?side10 ?side11 ?side12 A22.out).mono ?_
        (case side1=>repeat (first|exact (Kd.C_below HR4_4.out (by repeat (first|(with_reducible first|exact HB.out|apply zlA|apply zlN|apply zlD|refine zlS ?_ GE523.out|refine zlS ?_ GE524.out|refine zlS ?_ GE525.out|refine zlS ?_ GE548.out|refine zlS ?_ GE563.out)|exact HB.out)))|(with_reducible refine Kd.C_alloc ?_ _)|(with_reducible refine Kd.C_drewN ?_ _)|(with_reducible refine Kd.C_drew ?_)))
        (case side2=>exact HC4_4.out)
        (case side3=>repeat (first|exact (Kd.C_below HR4_5.out (by repeat (first|(with_reducible first|exact HB.out|apply zlA|apply zlN|apply zlD|refine zlS ?_ GE523.out|refine zlS ?_ GE524.out|refine zlS ?_ GE525.out|refine zlS ?_ GE548.out|refine zlS ?_ GE563.out)|exact HB.out)))|(with_reducible refine Kd.C_alloc ?_ _)|(with_reducible refine Kd.C_drewN ?_ _)|(with_reducible refine Kd.C_drew ?_)))
        (case side4=>exact HC4_5.out)
        (case side5=>repeat (first|exact (Kd.C_below HR4_6.out (by repeat (first|(with_reducible first|exact HB.out|apply zlA|apply zlN|apply zlD|refine zlS ?_ GE523.out|refine zlS ?_ GE524.out|refine zlS ?_ GE525.out|refine zlS ?_ GE548.out|refine zlS ?_ GE563.out)|exact HB.out)))|(with_reducible refine Kd.C_alloc ?_ _)|(with_reducible refine Kd.C_drewN ?_ _)|(with_reducible refine Kd.C_drew ?_)))
        (case side6=>exact HC4_6.out)
        (case side7=>repeat (first|exact (Kd.C_below HR5_4.out (by repeat (first|(with_reducible first|exact HB.out|apply zlA|apply zlN|apply zlD|refine zlS ?_ GE523.out|refine zlS ?_ GE524.out|refine zlS ?_ GE525.out|refine zlS ?_ GE548.out|refine zlS ?_ GE563.out)|exact HB.out)))|(with_reducible refine Kd.C_alloc ?_ _)|(with_reducible refine Kd.C_drewN ?_ _)|(with_reducible refine Kd.C_drew ?_)))
        (case side8=>exact HC5_4.out)
        (case side9=>repeat (first|exact (Kd.C_below HR5_5.out (by repeat (first|(with_reducible first|exact HB.out|apply zlA|apply zlN|apply zlD|refine zlS ?_ GE523.out|refine zlS ?_ GE524.out|refine zlS ?_ GE525.out|refine zlS ?_ GE548.out|refine zlS ?_ GE563.out)|exact HB.out)))|(with_reducible refine Kd.C_alloc ?_ _)|(with_reducible refine Kd.C_drewN ?_ _)|(with_reducible refine Kd.C_drew ?_)))
        (case side10=>exact HC5_5.out)
        (case side11=>repeat (first|exact (Kd.C_below HR5_6.out (by repeat (first|(with_reducible first|exact HB.out|apply zlA|apply zlN|apply zlD|refine zlS ?_ GE523.out|refine zlS ?_ GE524.out|refine zlS ?_ GE525.out|refine zlS ?_ GE548.out|refine zlS ?_ GE563.out)|exact HB.out)))|(with_reducible refine Kd.C_alloc ?_ _)|(with_reducible refine Kd.C_drewN ?_ _)|(with_reducible refine Kd.C_drew ?_)))
        (case side12=>exact HC5_6.out)
        rintro e w61 ⟨rfl,hb⟩
        refine ⟨_,rfl,?_⟩
        have n0_:=zm (Kd.S_below (by (with_reducible repeat (first|apply Kd.S_alloc|apply Kd.S_drewN|apply Kd.S_drew));exact HO528.out) hb)
        have n1_:=zm (Kd.S_below (by (with_reducible repeat (first|apply Kd.S_alloc|apply Kd.S_drewN|apply Kd.S_drew));exact HO532.out) hb)
        have n2_:=zm (Kd.R_below (by (with_reducible repeat (first|apply zrA|apply zrN|apply zrD));exact HO540.out) hb)
        have n3_:=zm (Kd.R_below (by (with_reducible repeat (first|apply zrA|apply zrN|apply zrD));exact HO543.out) hb)
        have n4_:=zm (Kd.R_below (by (with_reducible repeat (first|apply zrA|apply zrN|apply zrD));exact HO546.out) hb)
        have n5_:=zm (Kd.R_below (by (with_reducible repeat (first|apply zrA|apply zrN|apply zrD));exact HO555.out) hb)
        have n6_:=zm (Kd.R_below (by (with_reducible repeat (first|apply zrA|apply zrN|apply zrD));exact HO558.out) hb)
        have n7_:=zm (Kd.R_below (by (with_reducible repeat (first|apply zrA|apply zrN|apply zrD));exact HO561.out) hb)
        have n8_:=zm (zbB (g:=gb523) (o:=.cells #[.slice A0_0 l0_0.length c0_0,.slice A0_1 l0_1.length c0_1,.int .i64 a0_2] 25 (0,0)) (by (with_reducible repeat (first|refine zbN ?_ _|refine zbD ?_|refine zbA ?_ _));exact BK523.out) hb)
        have n9_:=zm (zbB (g:=gb524) (o:=.cells #[.int .i64 a4_0,.int .i64 a4_1,.int .i64 a4_2,.int .i64 a4_3,.slice A4_4 l4_4.length c4_4,.slice A4_5 l4_5.length c4_5,.slice A4_6 l4_6.length c4_6] 42 (0,0)) (by (with_reducible repeat (first|refine zbN ?_ _|refine zbD ?_|refine zbA ?_ _));exact BK524.out) hb)
        have n10_:=zm (zbB (g:=gb525) (o:=.cells #[.int .i64 a5_0,.int .i64 a5_1,.int .i64 a5_2,.int .i64 a5_3,.slice A5_4 l5_4.length c5_4,.slice A5_5 l5_5.length c5_5,.slice A5_6 l5_6.length c5_6] 42 (0,0)) (by (with_reducible repeat (first|refine zbN ?_ _|refine zbD ?_|refine zbA ?_ _));exact BK525.out) hb)
        have n11_:=zm (zbB (g:=gb548) (o:=.cells #[.int .i64 t534,.int .i64 t535,.int .i64 t536,.int .i64 t537,.slice Ao41 t538.length co41,.slice Ao42 t541.length co42,.slice Ao43 t544.length co43] 42 (0,0)) (by (with_reducible repeat (first|refine zbN ?_ _|refine zbD ?_|refine zbA ?_ _));exact BK548.out) hb)
        have n12_:=zm (zbB (g:=gb563) (o:=.cells #[.int .i64 t549,.int .i64 t550,.int .i64 t551,.int .i64 t552,.slice Ao51 t553.length co51,.slice Ao52 t556.length co52,.slice Ao53 t559.length co53] 42 (0,0)) (by (with_reducible repeat (first|refine zbN ?_ _|refine zbD ?_|refine zbA ?_ _));exact BK563.out) hb)
        have n13_:=zm (below_step (by repeat (first|(with_reducible first|exact HB.out|apply zlA|apply zlN|apply zlD|refine zlS ?_ GE523.out|refine zlS ?_ GE524.out|refine zlS ?_ GE525.out|refine zlS ?_ GE548.out|refine zlS ?_ GE563.out)|exact HB.out)) hb)
        clear HO528 HO532 HO540 HO543 HO546 HO555 HO558 HO561 BK523 BK524 BK525 BK548 BK563 HB
        have HO528:=n0_
        have HO532:=n1_
        have HO540:=n2_
        have HO543:=n3_
        have HO546:=n4_
        have HO555:=n5_
        have HO558:=n6_
        have HO561:=n7_
        have BK523:=n8_
        have BK524:=n9_
        have BK525:=n10_
        have BK548:=n11_
        have BK563:=n12_
        have HB:=n13_
        clear n0_ n1_ n2_ n3_ n4_ n5_ n6_ n7_ n8_ n9_ n10_ n11_ n12_ n13_
        (try clear hb)
        (try clear hb2)
        (try clear hk)
        (try clear hi)
        refine hK.out _ _ ⟨(blk_cell BK548.out 0).trans rfl,(blk_cell BK548.out 1).trans rfl,(blk_cell BK548.out 2).trans rfl,(blk_cell BK548.out 3).trans rfl,(blk_cell BK548.out 4).trans rfl,(blk_cell BK548.out 5).trans rfl,(blk_cell BK548.out 6).trans rfl,(blk_cell BK563.out 0).trans rfl,(blk_cell BK563.out 1).trans rfl,(blk_cell BK563.out 2).trans rfl,(blk_cell BK563.out 3).trans rfl,(blk_cell BK563.out 4).trans rfl,(blk_cell BK563.out 5).trans rfl,(blk_cell BK563.out 6).trans rfl,(blk_cell BK524.out 0).trans rfl,(blk_cell BK524.out 1).trans rfl,(blk_cell BK524.out 2).trans rfl,(blk_cell BK524.out 3).trans rfl,(blk_cell BK524.out 4).trans rfl,(blk_cell BK524.out 5).trans rfl,(blk_cell BK524.out 6).trans rfl,(blk_cell BK525.out 0).trans rfl,(blk_cell BK525.out 1).trans rfl,(blk_cell BK525.out 2).trans rfl,(blk_cell BK525.out 3).trans rfl,(blk_cell BK525.out 4).trans rfl,(blk_cell BK525.out 5).trans rfl,(blk_cell BK525.out 6).trans rfl⟩ (fun hHeld=>?_)
        clear hK K
        refine norm_ (a':=?_) ?_ ?_
        rotate_left
        ·show Act.put _ (some 76) _=_
         simp only [Act.put,List.setIfInBounds_toArray,List.set_cons_zero,List.set_cons_succ,i64_w,i32_w]
         rfl
        refine one_ (i:=34) (N:=some 79) #[true,true,true,true,true,true,true,true,true,true,true,true,true,true,true,true,true,true,true,true,true,true,true,true,true,true,true,true,true,true,true,true,true,true,true,false,false,false,false,false,false,false,false] rfl rfl (one_of HT_.out (by kernel_rfl)) (by decide) (fun K hK=>?_)
        refine goes_ Try.func32 (by kernel_rfl) rfl #[.agg #[.int .i64 a4_0,.int .i64 a4_1,.int .i64 a4_2,.int .i64 a4_3,.slice A4_4 l4_4.length c4_4,.slice A4_5 l4_5.length c4_5,.slice A4_6 l4_6.length c4_6],.agg #[.int .i64 a5_0,.int .i64 a5_1,.int .i64 a5_2,.int .i64 a5_3,.slice A5_4 l5_4.length c5_4,.slice A5_5 l5_5.length c5_5,.slice A5_6 l5_6.length c5_6]] (by rfl) rfl rfl (by (try simp only [List.map_toArray,List.map_cons,List.map_nil]);first|done|rfl|(simp only [List.length_drop,List.length_take];rfl)) ?_
        with_reducible refine (slipwayref06_SamePage.calls k a4_0 a4_1 a4_2 a4_3 _ _ l4_4 _ _ l4_5 _ _ l4_6 a5_0 a5_1 a5_2 a5_3 _ _ l5_4 _ _ l5_5 _ _ l5_6 t570 _ ?side1 ?side2 ?side3 ?side4 ?side5 ?side6 ?side7 ?side8 ?side9 ?side10 ?side11 ?side12 A23.out).mono ?_
        (case side1=>repeat (first|exact (Kd.C_below HR4_4.out HB.out)|(with_reducible refine Kd.C_alloc ?_ _)|(with_reducible refine Kd.C_drewN ?_ _)|(with_reducible refine Kd.C_drew ?_)))
        (case side2=>exact HC4_4.out)
        (case side3=>repeat (first|exact (Kd.C_below HR4_5.out HB.out)|(with_reducible refine Kd.C_alloc ?_ _)|(with_reducible refine Kd.C_drewN ?_ _)|(with_reducible refine Kd.C_drew ?_)))
        (case side4=>exact HC4_5.out)
        (case side5=>repeat (first|exact (Kd.C_below HR4_6.out HB.out)|(with_reducible refine Kd.C_alloc ?_ _)|(with_reducible refine Kd.C_drewN ?_ _)|(with_reducible refine Kd.C_drew ?_)))
        (case side6=>exact HC4_6.out)
        (case side7=>repeat (first|exact (Kd.C_below HR5_4.out HB.out)|(with_reducible refine Kd.C_alloc ?_ _)|(with_reducible refine Kd.C_drewN ?_ _)|(with_reducible refine Kd.C_drew ?_)))
        (case side8=>exact HC5_4.out)
        (case side9=>repeat (first|exact (Kd.C_below HR5_5.out HB.out)|(with_reducible refine Kd.C_alloc ?_ _)|(with_reducible refine Kd.C_drewN ?_ _)|(with_reducible refine Kd.C_drew ?_)))
        (case side10=>exact HC5_5.out)
        (case side11=>repeat (first|exact (Kd.C_below HR5_6.out HB.out)|(with_reducible refine Kd.C_alloc ?_ _)|(with_reducible refine Kd.C_drewN ?_ _)|(with_reducible refine Kd.C_drew ?_)))
        (case side12=>exact HC5_6.out)
        rintro e w62 ⟨rfl,hb⟩
        refine ⟨_,rfl,?_⟩
        have n0_:=zm (Kd.S_below (by (with_reducible repeat (first|apply Kd.S_alloc|apply Kd.S_drewN|apply Kd.S_drew));exact HO528.out) hb)
        have n1_:=zm (Kd.S_below (by (with_reducible repeat (first|apply Kd.S_alloc|apply Kd.S_drewN|apply Kd.S_drew));exact HO532.out) hb)
        have n2_:=zm (Kd.R_below (by (with_reducible repeat (first|apply zrA|apply zrN|apply zrD));exact HO540.out) hb)
        have n3_:=zm (Kd.R_below (by (with_reducible repeat (first|apply zrA|apply zrN|apply zrD));exact HO543.out) hb)
        have n4_:=zm (Kd.R_below (by (with_reducible repeat (first|apply zrA|apply zrN|apply zrD));exact HO546.out) hb)
        have n5_:=zm (Kd.R_below (by (with_reducible repeat (first|apply zrA|apply zrN|apply zrD));exact HO555.out) hb)
        have n6_:=zm (Kd.R_below (by (with_reducible repeat (first|apply zrA|apply zrN|apply zrD));exact HO558.out) hb)
        have n7_:=zm (Kd.R_below (by (with_reducible repeat (first|apply zrA|apply zrN|apply zrD));exact HO561.out) hb)
        have n8_:=zm (zbB (g:=gb523) (o:=.cells #[.slice A0_0 l0_0.length c0_0,.slice A0_1 l0_1.length c0_1,.int .i64 a0_2] 25 (0,0)) (by (with_reducible repeat (first|refine zbN ?_ _|refine zbD ?_|refine zbA ?_ _));exact BK523.out) hb)
        have n9_:=zm (zbB (g:=gb524) (o:=.cells #[.int .i64 a4_0,.int .i64 a4_1,.int .i64 a4_2,.int .i64 a4_3,.slice A4_4 l4_4.length c4_4,.slice A4_5 l4_5.length c4_5,.slice A4_6 l4_6.length c4_6] 42 (0,0)) (by (with_reducible repeat (first|refine zbN ?_ _|refine zbD ?_|refine zbA ?_ _));exact BK524.out) hb)
        have n10_:=zm (zbB (g:=gb525) (o:=.cells #[.int .i64 a5_0,.int .i64 a5_1,.int .i64 a5_2,.int .i64 a5_3,.slice A5_4 l5_4.length c5_4,.slice A5_5 l5_5.length c5_5,.slice A5_6 l5_6.length c5_6] 42 (0,0)) (by (with_reducible repeat (first|refine zbN ?_ _|refine zbD ?_|refine zbA ?_ _));exact BK525.out) hb)
        have n11_:=zm (zbB (g:=gb548) (o:=.cells #[.int .i64 t534,.int .i64 t535,.int .i64 t536,.int .i64 t537,.slice Ao41 t538.length co41,.slice Ao42 t541.length co42,.slice Ao43 t544.length co43] 42 (0,0)) (by (with_reducible repeat (first|refine zbN ?_ _|refine zbD ?_|refine zbA ?_ _));exact BK548.out) hb)
        have n12_:=zm (zbB (g:=gb563) (o:=.cells #[.int .i64 t549,.int .i64 t550,.int .i64 t551,.int .i64 t552,.slice Ao51 t553.length co51,.slice Ao52 t556.length co52,.slice Ao53 t559.length co53] 42 (0,0)) (by (with_reducible repeat (first|refine zbN ?_ _|refine zbD ?_|refine zbA ?_ _));exact BK563.out) hb)
        have n13_:=zm (below_step (by repeat (first|(with_reducible first|exact HB.out|apply zlA|apply zlN|apply zlD|refine zlS ?_ GE523.out|refine zlS ?_ GE524.out|refine zlS ?_ GE525.out|refine zlS ?_ GE548.out|refine zlS ?_ GE563.out)|exact HB.out)) hb)
        clear HO528 HO532 HO540 HO543 HO546 HO555 HO558 HO561 BK523 BK524 BK525 BK548 BK563 HB
        have HO528:=n0_
        have HO532:=n1_
        have HO540:=n2_
        have HO543:=n3_
        have HO546:=n4_
        have HO555:=n5_
        have HO558:=n6_
        have HO561:=n7_
        have BK523:=n8_
        have BK524:=n9_
        have BK525:=n10_
        have BK548:=n11_
        have BK563:=n12_
        have HB:=n13_
        clear n0_ n1_ n2_ n3_ n4_ n5_ n6_ n7_ n8_ n9_ n10_ n11_ n12_ n13_
        (try clear hb)
        (try clear hb2)
        (try clear hk)
        (try clear hi)
        refine hK.out _ _ ⟨(blk_cell BK548.out 0).trans rfl,(blk_cell BK548.out 1).trans rfl,(blk_cell BK548.out 2).trans rfl,(blk_cell BK548.out 3).trans rfl,(blk_cell BK548.out 4).trans rfl,(blk_cell BK548.out 5).trans rfl,(blk_cell BK548.out 6).trans rfl,(blk_cell BK563.out 0).trans rfl,(blk_cell BK563.out 1).trans rfl,(blk_cell BK563.out 2).trans rfl,(blk_cell BK563.out 3).trans rfl,(blk_cell BK563.out 4).trans rfl,(blk_cell BK563.out 5).trans rfl,(blk_cell BK563.out 6).trans rfl,(blk_cell BK524.out 0).trans rfl,(blk_cell BK524.out 1).trans rfl,(blk_cell BK524.out 2).trans rfl,(blk_cell BK524.out 3).trans rfl,(blk_cell BK524.out 4).trans rfl,(blk_cell BK524.out 5).trans rfl,(blk_cell BK524.out 6).trans rfl,(blk_cell BK525.out 0).trans rfl,(blk_cell BK525.out 1).trans rfl,(blk_cell BK525.out 2).trans rfl,(blk_cell BK525.out 3).trans rfl,(blk_cell BK525.out 4).trans rfl,(blk_cell BK525.out 5).trans rfl,(blk_cell BK525.out 6).trans rfl⟩ (fun hHeld=>?_)
        clear hK K
        refine norm_ (a':=?_) ?_ ?_
        rotate_left
        ·show Act.put _ (some 79) _=_
         simp only [Act.put,List.setIfInBounds_toArray,List.set_cons_zero,List.set_cons_succ,i64_w,i32_w]
         rfl
        refine pure_ (i:=35) (N:=some 80) (v:=?_) (a':=?_) #[true,true,true,true,true,true,true,true,true,true,true,true,true,true,true,true,true,true,true,true,true,true,true,true,true,true,true,true,true,true,true,true,true,true,true,true,false,false,false,false,false,false,false] rfl rfl (any_of HT_.out (by kernel_rfl)) (fun _ _ _ h=>h) (Or.inl ⟨by rfl,?_⟩) ?_ ?_
        rotate_left
        ·intro w'
         go_simp
         with_reducible rfl
        rotate_left
        ·simp only [Act.put,List.setIfInBounds_toArray,List.set_cons_zero,List.set_cons_succ,i64_w,i32_w]
         rfl
        refine pure_ (i:=36) (N:=some 81) (v:=?_) (a':=?_) #[true,true,true,true,true,true,true,true,true,true,true,true,true,true,true,true,true,true,true,true,true,true,true,true,true,true,true,true,true,true,true,true,true,true,true,true,true,false,false,false,false,false,false] rfl rfl (any_of HT_.out (by kernel_rfl)) (fun _ _ _ h=>h) (Or.inl ⟨by rfl,?_⟩) ?_ ?_
        rotate_left
        ·intro w'
         go_simp
         with_reducible rfl
        rotate_left
        ·simp only [Act.put,List.setIfInBounds_toArray,List.set_cons_zero,List.set_cons_succ,i64_w,i32_w]
         rfl
        refine pure_ (i:=37) (N:=some 82) (v:=?_) (a':=?_) #[true,true,true,true,true,true,true,true,true,true,true,true,true,true,true,true,true,true,true,true,true,true,true,true,true,true,true,true,true,true,true,true,true,true,true,true,true,true,false,false,false,false,false] rfl rfl (any_of HT_.out (by kernel_rfl)) (fun _ _ _ h=>h) (Or.inl ⟨by rfl,?_⟩) ?_ ?_
        rotate_left
        ·intro w'
         go_simp
         with_reducible rfl
        rotate_left
        ·simp only [Act.put,List.setIfInBounds_toArray,List.set_cons_zero,List.set_cons_succ,i64_w,i32_w]
         rfl
        refine take_ (i:=38) (N:=some 83) (v:=?_) (a':=?_) #[true,true,true,true,true,true,true,true,true,true,true,true,true,true,true,true,true,true,true,true,true,true,true,true,true,true,true,true,true,true,true,true,true,true,true,true,true,true,true,false,false,false,false] rfl rfl (take_ofW HT_.out HW_.out (by kernel_rfl)) (fun _ _ _ h=>h) (Or.inl ⟨by rfl,?_⟩) hHeld ?_ ?_
        rotate_left
        ·rintro w' ⟨s0,s1,s2,s3,s4,s5,s6,s7,s8,s9,s10,s11,s12,s13,s14,s15,s16,s17,s18,s19,s20,s21,s22,s23,s24,s25,s26,s27⟩
         go_simp
         with_reducible rfl
        rotate_left
        ·simp only [Act.put,List.setIfInBounds_toArray,List.set_cons_zero,List.set_cons_succ,i64_w,i32_w]
         rfl
        refine take_ (i:=39) (N:=some 84) (v:=?_) (a':=?_) #[true,true,true,true,true,true,true,true,true,true,true,true,true,true,true,true,true,true,true,true,true,true,true,true,true,true,true,true,true,true,true,true,true,true,true,true,true,true,true,true,false,false,false] rfl rfl (take_ofW HT_.out HW_.out (by kernel_rfl)) (fun _ _ _ h=>h) (Or.inl ⟨by rfl,?_⟩) hHeld ?_ ?_
        rotate_left
        ·rintro w' ⟨s0,s1,s2,s3,s4,s5,s6,s7,s8,s9,s10,s11,s12,s13,s14,s15,s16,s17,s18,s19,s20,s21,s22,s23,s24,s25,s26,s27⟩
         go_simp
         with_reducible rfl
        rotate_left
        ·simp only [Act.put,List.setIfInBounds_toArray,List.set_cons_zero,List.set_cons_succ,i64_w,i32_w]
         rfl
        refine one_ (i:=40) (N:=some 85) #[true,true,true,true,true,true,true,true,true,true,true,true,true,true,true,true,true,true,true,true,true,true,true,true,true,true,true,true,true,true,true,true,true,true,true,true,true,true,true,true,true,false,false] rfl rfl (one_of HT_.out (by kernel_rfl)) (by decide) (fun K hK=>?_)
        refine goes_ Try.func35 (by kernel_rfl) rfl #[.agg #[.int .i64 a4_0,.int .i64 a4_1,.int .i64 a4_2,.int .i64 a4_3,.slice A4_4 l4_4.length c4_4,.slice A4_5 l4_5.length c4_5,.slice A4_6 l4_6.length c4_6],.agg #[.int .i64 a4_0,.int .i64 a4_1,.int .i64 a4_2,.int .i64 a4_3,.slice A4_4 l4_4.length c4_4,.slice A4_5 l4_5.length c4_5,.slice A4_6 l4_6.length c4_6]] (by rfl) rfl rfl (by (try simp only [List.map_toArray,List.map_cons,List.map_nil]);first|done|rfl|(simp only [List.length_drop,List.length_take];rfl)) ?_
        with_reducible refine (mapjnl_SamePage.calls k a4_0 a4_1 a4_2 a4_3 _ _ l4_4 _ _ l4_5 _ _ l4_6 a4_0 a4_1 a4_2 a4_3 _ _ l4_4 _ _ l4_5 _ _ l4_6 t571 _ ?side1 ?side2 ?side3 ?side4 ?side5 ?side6 ?side7 ?side8 ?side9 ?side10 ?side11 ?side12 A25.out).mono ?_
        (case side1=>repeat (first|exact (Kd.C_below HR4_4.out HB.out)|(with_reducible refine Kd.C_alloc ?_ _)|(with_reducible refine Kd.C_drewN ?_ _)|(with_reducible refine Kd.C_drew ?_)))
        (case side2=>exact HC4_4.out)
        (case side3=>repeat (first|exact (Kd.C_below HR4_5.out HB.out)|(with_reducible refine Kd.C_alloc ?_ _)|(with_reducible refine Kd.C_drewN ?_ _)|(with_reducible refine Kd.C_drew ?_)))
        (case side4=>exact HC4_5.out)
        (case side5=>repeat (first|exact (Kd.C_below HR4_6.out HB.out)|(with_reducible refine Kd.C_alloc ?_ _)|(with_reducible refine Kd.C_drewN ?_ _)|(with_reducible refine Kd.C_drew ?_)))
        (case side6=>exact HC4_6.out)
        (case side7=>repeat (first|exact (Kd.C_below HR4_4.out HB.out)|(with_reducible refine Kd.C_alloc ?_ _)|(with_reducible refine Kd.C_drewN ?_ _)|(with_reducible refine Kd.C_drew ?_)))
        (case side8=>exact HC4_4.out)
        (case side9=>repeat (first|exact (Kd.C_below HR4_5.out HB.out)|(with_reducible refine Kd.C_alloc ?_ _)|(with_reducible refine Kd.C_drewN ?_ _)|(with_reducible refine Kd.C_drew ?_)))
        (case side10=>exact HC4_5.out)
        (case side11=>repeat (first|exact (Kd.C_below HR4_6.out HB.out)|(with_reducible refine Kd.C_alloc ?_ _)|(with_reducible refine Kd.C_drewN ?_ _)|(with_reducible refine Kd.C_drew ?_)))
        (case side12=>exact HC4_6.out)
        rintro e w63 ⟨rfl,hb⟩
        refine ⟨_,rfl,?_⟩
        have n0_:=zm (Kd.S_below (by (with_reducible repeat (first|apply Kd.S_alloc|apply Kd.S_drewN|apply Kd.S_drew));exact HO528.out) hb)
        have n1_:=zm (Kd.S_below (by (with_reducible repeat (first|apply Kd.S_alloc|apply Kd.S_drewN|apply Kd.S_drew));exact HO532.out) hb)
        have n2_:=zm (Kd.R_below (by (with_reducible repeat (first|apply zrA|apply zrN|apply zrD));exact HO540.out) hb)
        have n3_:=zm (Kd.R_below (by (with_reducible repeat (first|apply zrA|apply zrN|apply zrD));exact HO543.out) hb)
        have n4_:=zm (Kd.R_below (by (with_reducible repeat (first|apply zrA|apply zrN|apply zrD));exact HO546.out) hb)
        have n5_:=zm (Kd.R_below (by (with_reducible repeat (first|apply zrA|apply zrN|apply zrD));exact HO555.out) hb)
        have n6_:=zm (Kd.R_below (by (with_reducible repeat (first|apply zrA|apply zrN|apply zrD));exact HO558.out) hb)
        have n7_:=zm (Kd.R_below (by (with_reducible repeat (first|apply zrA|apply zrN|apply zrD));exact HO561.out) hb)
        have n8_:=zm (zbB (g:=gb523) (o:=.cells #[.slice A0_0 l0_0.length c0_0,.slice A0_1 l0_1.length c0_1,.int .i64 a0_2] 25 (0,0)) (by (with_reducible repeat (first|refine zbN ?_ _|refine zbD ?_|refine zbA ?_ _));exact BK523.out) hb)
        have n9_:=zm (zbB (g:=gb524) (o:=.cells #[.int .i64 a4_0,.int .i64 a4_1,.int .i64 a4_2,.int .i64 a4_3,.slice A4_4 l4_4.length c4_4,.slice A4_5 l4_5.length c4_5,.slice A4_6 l4_6.length c4_6] 42 (0,0)) (by (with_reducible repeat (first|refine zbN ?_ _|refine zbD ?_|refine zbA ?_ _));exact BK524.out) hb)
        have n10_:=zm (zbB (g:=gb525) (o:=.cells #[.int .i64 a5_0,.int .i64 a5_1,.int .i64 a5_2,.int .i64 a5_3,.slice A5_4 l5_4.length c5_4,.slice A5_5 l5_5.length c5_5,.slice A5_6 l5_6.length c5_6] 42 (0,0)) (by (with_reducible repeat (first|refine zbN ?_ _|refine zbD ?_|refine zbA ?_ _));exact BK525.out) hb)
        have n11_:=zm (zbB (g:=gb548) (o:=.cells #[.int .i64 t534,.int .i64 t535,.int .i64 t536,.int .i64 t537,.slice Ao41 t538.length co41,.slice Ao42 t541.length co42,.slice Ao43 t544.length co43] 42 (0,0)) (by (with_reducible repeat (first|refine zbN ?_ _|refine zbD ?_|refine zbA ?_ _));exact BK548.out) hb)
        have n12_:=zm (zbB (g:=gb563) (o:=.cells #[.int .i64 t549,.int .i64 t550,.int .i64 t551,.int .i64 t552,.slice Ao51 t553.length co51,.slice Ao52 t556.length co52,.slice Ao53 t559.length co53] 42 (0,0)) (by (with_reducible repeat (first|refine zbN ?_ _|refine zbD ?_|refine zbA ?_ _));exact BK563.out) hb)
        have n13_:=zm (below_step (by repeat (first|(with_reducible first|exact HB.out|apply zlA|apply zlN|apply zlD|refine zlS ?_ GE523.out|refine zlS ?_ GE524.out|refine zlS ?_ GE525.out|refine zlS ?_ GE548.out|refine zlS ?_ GE563.out)|exact HB.out)) hb)
        clear HO528 HO532 HO540 HO543 HO546 HO555 HO558 HO561 BK523 BK524 BK525 BK548 BK563 HB
        have HO528:=n0_
        have HO532:=n1_
        have HO540:=n2_
        have HO543:=n3_
        have HO546:=n4_
        have HO555:=n5_
        have HO558:=n6_
        have HO561:=n7_
        have BK523:=n8_
        have BK524:=n9_
        have BK525:=n10_
        have BK548:=n11_
        have BK563:=n12_
        have HB:=n13_
        clear n0_ n1_ n2_ n3_ n4_ n5_ n6_ n7_ n8_ n9_ n10_ n11_ n12_ n13_
        (try clear hb)
        (try clear hb2)
        (try clear hk)
        (try clear hi)
        refine hK.out _ _ ⟨(blk_cell BK548.out 0).trans rfl,(blk_cell BK548.out 1).trans rfl,(blk_cell BK548.out 2).trans rfl,(blk_cell BK548.out 3).trans rfl,(blk_cell BK548.out 4).trans rfl,(blk_cell BK548.out 5).trans rfl,(blk_cell BK548.out 6).trans rfl,(blk_cell BK563.out 0).trans rfl,(blk_cell BK563.out 1).trans rfl,(blk_cell BK563.out 2).trans rfl,(blk_cell BK563.out 3).trans rfl,(blk_cell BK563.out 4).trans rfl,(blk_cell BK563.out 5).trans rfl,(blk_cell BK563.out 6).trans rfl,(blk_cell BK524.out 0).trans rfl,(blk_cell BK524.out 1).trans rfl,(blk_cell BK524.out 2).trans rfl,(blk_cell BK524.out 3).trans rfl,(blk_cell BK524.out 4).trans rfl,(blk_cell BK524.out 5).trans rfl,(blk_cell BK524.out 6).trans rfl,(blk_cell BK525.out 0).trans rfl,(blk_cell BK525.out 1).trans rfl,(blk_cell BK525.out 2).trans rfl,(blk_cell BK525.out 3).trans rfl,(blk_cell BK525.out 4).trans rfl,(blk_cell BK525.out 5).trans rfl,(blk_cell BK525.out 6).trans rfl⟩ (fun hHeld=>?_)
        clear hK K
        refine norm_ (a':=?_) ?_ ?_
        rotate_left
        ·show Act.put _ (some 85) _=_
         simp only [Act.put,List.setIfInBounds_toArray,List.set_cons_zero,List.set_cons_succ,i64_w,i32_w]
         rfl
        refine pure_ (i:=41) (N:=some 86) (v:=?_) (a':=?_) #[true,true,true,true,true,true,true,true,true,true,true,true,true,true,true,true,true,true,true,true,true,true,true,true,true,true,true,true,true,true,true,true,true,true,true,true,true,true,true,true,true,true,false] rfl rfl (any_of HT_.out (by kernel_rfl)) (fun _ _ _ h=>h) (Or.inl ⟨by rfl,?_⟩) ?_ ?_
        rotate_left
        ·intro w'
         go_simp
         with_reducible rfl
        rotate_left
        ·simp only [Act.put,List.setIfInBounds_toArray,List.set_cons_zero,List.set_cons_succ,i64_w,i32_w]
         rfl
        refine pure_ (i:=42) (N:=some 12) (v:=?_) (a':=?_) #[true,true,true,true,true,true,true,true,true,true,true,true,true,true,true,true,true,true,true,true,true,true,true,true,true,true,true,true,true,true,true,true,true,true,true,true,true,true,true,true,true,true,true] rfl rfl (any_of HT_.out (by kernel_rfl)) (fun _ _ _ h=>h) (Or.inl ⟨by rfl,?_⟩) ?_ ?_
        rotate_left
        ·intro w'
         go_simp
         with_reducible rfl
        rotate_left
        ·simp only [Act.put,List.setIfInBounds_toArray,List.set_cons_zero,List.set_cons_succ,i64_w,i32_w]
         rfl
        refine done_ (done_of HT_.out (by kernel_rfl)) ?_
        try go_wp2
        go_ret
        exact ⟨by first|rfl|(simp [errW_none,errW_some] <;> rfl)|(simp [*,errW_none,errW_some] <;> rfl),by repeat (first|(with_reducible first|exact HB.out|apply zlA|apply zlN|apply zlD|refine zlS ?_ GE523.out|refine zlS ?_ GE524.out|refine zlS ?_ GE525.out|refine zlS ?_ GE548.out|refine zlS ?_ GE563.out)|exact HB.out)⟩
       ·rw [if_neg c24] at H
        have c24b0:(t569 == t570)=false:=by simpa using c24
        (try (have c24b1:decide (t569=t570)=false:=by simpa using c24))
        (try (have c24b2:(t569 == t570)=false:=by simpa using c24))
        (try (have c24b3:¬ (t569=t570):=by simpa using c24))
        clear c24
        exact absurd H (by simp)
      ·rw [if_neg c21] at H
       have c21b0:(t567 == t568)=false:=beq_eq_false_iff_ne.mpr c21
       have c21b1:(t567 != t568)=true:=bne_iff_ne.mpr c21
       exact absurd H (by simp)
     ·rw [if_neg c18] at H
      have c18b0:(t547 == t562)=false:=beq_eq_false_iff_ne.mpr c18
      have c18b1:(t547 != t562)=true:=bne_iff_ne.mpr c18
      exact absurd H (by simp)
    ·replace c17:=Bool.eq_false_iff.mpr c17
     subst c17
     have H1:(none)=some r:=by rw [if_neg (show ¬ (false=true) by decide)] at H;exact H
     clear H
     have H:=H1
     clear H1
     exact absurd H (by simp)
   ·rw [if_neg c15] at H
    have c15b0:(t529 == t533)=false:=beq_eq_false_iff_ne.mpr c15
    have c15b1:(t529 != t533)=true:=bne_iff_ne.mpr c15
    exact absurd H (by simp)
  ·replace c14:=Bool.eq_false_iff.mpr c14
   subst c14
   have H1:(none)=some r:=by rw [if_neg (show ¬ (false=true) by decide)] at H;exact H
   clear H
   have H:=H1
   clear H1
   exact absurd H (by simp)
 ·replace c12:=Bool.eq_false_iff.mpr c12
  subst c12
  have H1:(none)=some r:=by rw [if_neg (show ¬ (false=true) by decide)] at H;exact H
  clear H
  have H:=H1
  clear H1
  exact absurd H (by simp)
def slipwaylaw06_MapPages.Pure:Prop:=∀ (l0_0:List Bool) (l0_1:List Int) (a0_2:Int) (a1:Int) (l2:List (S55)) (a3:Int) (a4_0:Int) (a4_1:Int) (a4_2:Int) (a4_3:Int) (l4_4:List Bool) (l4_5:List Int) (l4_6:List (S55)) (a5_0:Int) (a5_1:Int) (a5_2:Int) (a5_3:Int) (l5_4:List Bool) (l5_5:List Int) (l5_6:List (S55)),(l0_0.length≤maxLen∧l0_0.length * 1≤140737488351232∧∀ x ∈ l0_0,True) → (l0_1.length≤maxLen∧l0_1.length * 8≤140737488351232∧∀ x ∈ l0_1,(Lit.int .i64 x).wf=true) → (Lit.int .i64 a0_2).wf=true → (Lit.int .i64 a1).wf=true → (l2.length≤maxLen∧l2.length * 24≤140737488351232∧∀ x ∈ l2,((Lit.int .i64 x.f0).wf=true∧((Lit.int .i64 x.f1).wf=true∧(Lit.int .i64 x.f2).wf=true))) → (Lit.int .i64 a3).wf=true → (Lit.int .i64 a4_0).wf=true → (Lit.int .i64 a4_1).wf=true → (Lit.int .i64 a4_2).wf=true → (Lit.int .i64 a4_3).wf=true → (l4_4.length≤maxLen∧l4_4.length * 1≤140737488351232∧∀ x ∈ l4_4,True) → (l4_5.length≤maxLen∧l4_5.length * 8≤140737488351232∧∀ x ∈ l4_5,(Lit.int .i64 x).wf=true) → (l4_6.length≤maxLen∧l4_6.length * 24≤140737488351232∧∀ x ∈ l4_6,((Lit.int .i64 x.f0).wf=true∧((Lit.int .i64 x.f1).wf=true∧(Lit.int .i64 x.f2).wf=true))) → (Lit.int .i64 a5_0).wf=true → (Lit.int .i64 a5_1).wf=true → (Lit.int .i64 a5_2).wf=true → (Lit.int .i64 a5_3).wf=true → (l5_4.length≤maxLen∧l5_4.length * 1≤140737488351232∧∀ x ∈ l5_4,True) → (l5_5.length≤maxLen∧l5_5.length * 8≤140737488351232∧∀ x ∈ l5_5,(Lit.int .i64 x).wf=true) → (l5_6.length≤maxLen∧l5_6.length * 24≤140737488351232∧∀ x ∈ l5_6,((Lit.int .i64 x.f0).wf=true∧((Lit.int .i64 x.f1).wf=true∧(Lit.int .i64 x.f2).wf=true))) → ∃ k,slipwaylaw06_MapPages.f k l0_0 l0_1 a0_2 a1 l2 a3 a4_0 a4_1 a4_2 a4_3 l4_4 l4_5 l4_6 a5_0 a5_1 a5_2 a5_3 l5_4 l5_5 l5_6=some true
theorem slipwaylaw06_MapPages.walk (P:slipwaylaw06_MapPages.Pure) (A0_0:Option Addr) (c0_0:Nat) (l0_0:List Bool) (A0_1:Option Addr) (c0_1:Nat) (l0_1:List Int) (a0_2:Int) (a1:Int) (A2:Option Addr) (c2:Nat) (l2:List (S55)) (a3:Int) (a4_0:Int) (a4_1:Int) (a4_2:Int) (a4_3:Int) (A4_4:Option Addr) (c4_4:Nat) (l4_4:List Bool) (A4_5:Option Addr) (c4_5:Nat) (l4_5:List Int) (A4_6:Option Addr) (c4_6:Nat) (l4_6:List (S55)) (a5_0:Int) (a5_1:Int) (a5_2:Int) (a5_3:Int) (A5_4:Option Addr) (c5_4:Nat) (l5_4:List Bool) (A5_5:Option Addr) (c5_5:Nat) (l5_5:List Int) (A5_6:Option Addr) (c5_6:Nat) (l5_6:List (S55)) (w:World) (hr0_0:Kd.C Kd.bool w A0_0 l0_0.length l0_0) (hc0_0:l0_0.length≤c0_0) (hr0_1:Kd.C (Kd.int .i64) w A0_1 l0_1.length l0_1) (hc0_1:l0_1.length≤c0_1) (hr2:Kd.C k55 w A2 l2.length l2) (hc2:l2.length≤c2) (hr4_4:Kd.C Kd.bool w A4_4 l4_4.length l4_4) (hc4_4:l4_4.length≤c4_4) (hr4_5:Kd.C (Kd.int .i64) w A4_5 l4_5.length l4_5) (hc4_5:l4_5.length≤c4_5) (hr4_6:Kd.C k55 w A4_6 l4_6.length l4_6) (hc4_6:l4_6.length≤c4_6) (hr5_4:Kd.C Kd.bool w A5_4 l5_4.length l5_4) (hc5_4:l5_4.length≤c5_4) (hr5_5:Kd.C (Kd.int .i64) w A5_5 l5_5.length l5_5) (hc5_5:l5_5.length≤c5_5) (hr5_6:Kd.C k55 w A5_6 l5_6.length l5_6) (hc5_6:l5_6.length≤c5_6) (w0_0:(l0_0.length≤maxLen∧l0_0.length * 1≤140737488351232∧∀ x ∈ l0_0,True)) (w0_1:(l0_1.length≤maxLen∧l0_1.length * 8≤140737488351232∧∀ x ∈ l0_1,(Lit.int .i64 x).wf=true)) (w0_2:(Lit.int .i64 a0_2).wf=true) (w1:(Lit.int .i64 a1).wf=true) (w2:(l2.length≤maxLen∧l2.length * 24≤140737488351232∧∀ x ∈ l2,((Lit.int .i64 x.f0).wf=true∧((Lit.int .i64 x.f1).wf=true∧(Lit.int .i64 x.f2).wf=true)))) (w3:(Lit.int .i64 a3).wf=true) (w4_0:(Lit.int .i64 a4_0).wf=true) (w4_1:(Lit.int .i64 a4_1).wf=true) (w4_2:(Lit.int .i64 a4_2).wf=true) (w4_3:(Lit.int .i64 a4_3).wf=true) (w4_4:(l4_4.length≤maxLen∧l4_4.length * 1≤140737488351232∧∀ x ∈ l4_4,True)) (w4_5:(l4_5.length≤maxLen∧l4_5.length * 8≤140737488351232∧∀ x ∈ l4_5,(Lit.int .i64 x).wf=true)) (w4_6:(l4_6.length≤maxLen∧l4_6.length * 24≤140737488351232∧∀ x ∈ l4_6,((Lit.int .i64 x.f0).wf=true∧((Lit.int .i64 x.f1).wf=true∧(Lit.int .i64 x.f2).wf=true)))) (w5_0:(Lit.int .i64 a5_0).wf=true) (w5_1:(Lit.int .i64 a5_1).wf=true) (w5_2:(Lit.int .i64 a5_2).wf=true) (w5_3:(Lit.int .i64 a5_3).wf=true) (w5_4:(l5_4.length≤maxLen∧l5_4.length * 1≤140737488351232∧∀ x ∈ l5_4,True)) (w5_5:(l5_5.length≤maxLen∧l5_5.length * 8≤140737488351232∧∀ x ∈ l5_5,(Lit.int .i64 x).wf=true)) (w5_6:(l5_6.length≤maxLen∧l5_6.length * 24≤140737488351232∧∀ x ∈ l5_6,((Lit.int .i64 x.f0).wf=true∧((Lit.int .i64 x.f1).wf=true∧(Lit.int .i64 x.f2).wf=true)))) :
  Calls Try.prog 5 #[.agg #[.slice A0_0 l0_0.length c0_0,.slice A0_1 l0_1.length c0_1,.int .i64 a0_2],.int .i64 a1,.slice A2 l2.length c2,.int .i64 a3,.agg #[.int .i64 a4_0,.int .i64 a4_1,.int .i64 a4_2,.int .i64 a4_3,.slice A4_4 l4_4.length c4_4,.slice A4_5 l4_5.length c4_5,.slice A4_6 l4_6.length c4_6],.agg #[.int .i64 a5_0,.int .i64 a5_1,.int .i64 a5_2,.int .i64 a5_3,.slice A5_4 l5_4.length c5_4,.slice A5_5 l5_5.length c5_5,.slice A5_6 l5_6.length c5_6]] w fun e w'=>e=.returned (.bool true)∧Below w.heap.size w w':=by
 obtain ⟨k,h⟩:=P l0_0 l0_1 a0_2 a1 l2 a3 a4_0 a4_1 a4_2 a4_3 l4_4 l4_5 l4_6 a5_0 a5_1 a5_2 a5_3 l5_4 l5_5 l5_6 w0_0 w0_1 w0_2 w1 w2 w3 w4_0 w4_1 w4_2 w4_3 w4_4 w4_5 w4_6 w5_0 w5_1 w5_2 w5_3 w5_4 w5_5 w5_6
 refine (slipwaylaw06_MapPages.calls k A0_0 c0_0 l0_0 A0_1 c0_1 l0_1 a0_2 a1 A2 c2 l2 a3 a4_0 a4_1 a4_2 a4_3 A4_4 c4_4 l4_4 A4_5 c4_5 l4_5 A4_6 c4_6 l4_6 a5_0 a5_1 a5_2 a5_3 A5_4 c5_4 l5_4 A5_5 c5_5 l5_5 A5_6 c5_6 l5_6 true w hr0_0 hc0_0 hr0_1 hc0_1 hr2 hc2 hr4_4 hc4_4 hr4_5 hc4_5 hr4_6 hc4_6 hr5_4 hc5_4 hr5_5 hc5_5 hr5_6 hc5_6 h).mono ?_
 rintro e w' ⟨rfl,hd⟩
 exact ⟨rfl,hd⟩
end Go.Proofs.Ytkhbmgclklmimaa.Print
end
