/- Texts of the proof of InodeMakes, part 22. -/
import Derived.Test.YtjoojmodghpimaaInodeMakesM14
import Derived.Test.YtjoojmodghpimaaInodeMakesMA
import Derived.Test.YtjoojmodghpimaaInodeMakesM19
import Derived.Test.YtjoojmodghpimaaInodeMakesM20
import Derived.Test.YtjoojmodghpimaaInodeMakesM21
section
namespace Go.Proofs.Ytjoojmodghpimaa.Print
open Go.RowKit Go.Proofs.YtjoojmodghpimaaW.PrintWords Go.Proofs.YtjoojmodghpimaaW.PrintLast Go.Proofs.YtjoojmodghpimaaW.PrintMore
attribute [local go_sem] max2_int min2_int max_two min_two max_three min_three max_four min_four   -- for this text's walks alone
attribute [local go_sem ↓] Go.Proofs.Ytjoojmodghpimaa.Sem.isSome_setCell
attribute [local go_sem] Go.Instr.field Go.asAgg
set_option linter.unusedVariables false
set_option linter.unusedSimpArgs false
attribute [local go_sem high] eqA51
def extent_Same.l0:Nat → List (S51) → List (S51) → Int → Int → Option (Bool)
 | 0,_,_,_,_=>none
 | k + 1,x0,x1,x12,x13=>if x13 < x12 then (if 0≤x13 then (if x13 < (x0.length:Int) then (if x13 < (x1.length:Int) then (if (!(((rd_T51 x0 x13).f0) == ((rd_T51 x1 x13).f0)) || (!(((rd_T51 x0 x13).f1) == ((rd_T51 x1 x13).f1)) || (!(((rd_T51 x0 x13).f2) == ((rd_T51 x1 x13).f2)))))=true then (some false) else (extent_Same.l0 k x0 x1 x12 (wrap64 (x13 + 1)))) else (none)) else (none)) else (none)) else (some true)
def extent_Same.f (k:Nat) (l0:List (S51)) (l1:List (S51)):Option (Bool):=if (l0.length:Int)=(l1.length:Int) then (extent_Same.l0 k l0 l1 (l0.length:Int) 0) else (some false)
set_option maxHeartbeats 8000000 in
set_option maxRecDepth 100000 in
theorem extent_Same.calls (k:Nat) (A0:Option Addr) (c0:Nat) (l0:List (S51)) (A1:Option Addr) (c1:Nat) (l1:List (S51)) (r:Bool) (w:World) (hr0:Kd.C k51 w A0 l0.length l0) (hc0:l0.length≤c0) (hr1:Kd.C k51 w A1 l1.length l1) (hc1:l1.length≤c1) (h:extent_Same.f k l0 l1=some r) :
  Calls Try.prog 42 #[.slice A0 l0.length c0,.slice A1 l1.length c1] w fun e w'=>e=.returned (.bool r)∧Drawn0 w w':=by
 have hu51:=Try.underlying51
 have HR0:=zm hr0
 have HC0:=zm hc0
 clear hr0 hc0
 have HR1:=zm hr1
 have HC1:=zm hc1
 clear hr1 hc1
 have H:(if (l0.length:Int)=(l1.length:Int) then (extent_Same.l0 k l0 l1 (l0.length:Int) 0) else (some false))=some r:=h
 clear h
 by_cases c3:(l0.length:Int)=(l1.length:Int)
 ·rw [if_pos c3] at H
  have c3b0:((l0.length:Int) == (l1.length:Int))=true:=beq_iff_eq.mpr c3
  have c3b1:((l0.length:Int) != (l1.length:Int))=false:=bne_eq_false_iff_eq.mpr c3
  have c3b2:(l0.length == l1.length)=true:=by first|simpa using c3|(simp at c3 ⊢;omega)
  clear c3
  have H':=zm H
  clear H
  go_enter Try.func42,Try.ntmps42
  go_wp2
  repeat (go_quiet (fail);try go_wp2)
  go_loopg [13] k (fun kq v13 w'=>∃ (x13_1:Int),v13=.int .i64 x13_1∧Aside0 (extent_Same.l0 kq l0 l1 (l0.length:Int) x13_1=some r)∧Aside0 (kq≤k)∧Drawn0 w w')
  case atStart=>exact ⟨(0),zs_,H',⟨Nat.le_refl _⟩,by repeat (first|exact Drawn0.refl _|apply Drawn0.step)⟩
  case round =>
   clear H'
   try clear c1
   try clear p2
   try clear c3
   try clear c3b0
   try clear c3b1
   try clear c3b2
   obtain ⟨x13_1,rfl,HA,HK1,⟨m1,rfl⟩⟩:=hrel
   cases gk with
   | zero=>exact absurd HA.out (by simp [extent_Same.l0])
   | succ k1 =>
    have H:=HA.out
    clear HA
    simp only [extent_Same.l0] at H
    by_cases c4:x13_1 < (l0.length:Int)
    ·rw [if_pos c4] at H
     have c4b0:decide (x13_1 < (l0.length:Int))=true:=decide_eq_true c4
     clear c4
     by_cases c5:0≤x13_1
     ·rw [if_pos c5] at H
      have c5b0:decide (0≤x13_1)=true:=decide_eq_true c5
      clear c5
      by_cases c6:x13_1 < (l0.length:Int)
      ·rw [if_pos c6] at H
       have c6b0:decide (x13_1 < (l0.length:Int))=true:=decide_eq_true c6
       clear c6
       by_cases c7:x13_1 < (l1.length:Int)
       ·rw [if_pos c7] at H
        have c7b0:decide (x13_1 < (l1.length:Int))=true:=decide_eq_true c7
        clear c7
        by_cases c8:(!(((rd_T51 l0 x13_1).f0) == ((rd_T51 l1 x13_1).f0)) || (!(((rd_T51 l0 x13_1).f1) == ((rd_T51 l1 x13_1).f1)) || (!(((rd_T51 l0 x13_1).f2) == ((rd_T51 l1 x13_1).f2)))))=true
        ·rw [if_pos c8] at H
         have c8b0:(!(((rd_T51 l0 x13_1).f0) == ((rd_T51 l1 x13_1).f0)) || (!(((rd_T51 l0 x13_1).f1) == ((rd_T51 l1 x13_1).f1)) || (!(((rd_T51 l0 x13_1).f2) == ((rd_T51 l1 x13_1).f2)))))=true:=c8
         clear c8
         obtain rfl:=Option.some.inj H
         have p343:0≤(x13_1:Int):=za_
         have q343:x13_1 < (l0.length:Int):=za_
         obtain ⟨ad343,e343,hx343_0,hx343_1,hx343_2⟩:=at_T51 HR0.out x13_1 p343 q343
         cases e343
         replace p343:=eq_true p343
         replace q343:=eq_true q343
         have p344:0≤(x13_1:Int):=za_
         have q344:x13_1 < (l1.length:Int):=za_
         obtain ⟨ad344,e344,hx344_0,hx344_1,hx344_2⟩:=at_T51 HR1.out x13_1 p344 q344
         cases e344
         replace p344:=eq_true p344
         replace q344:=eq_true q344
         go_wp2
         repeat (go_quiet (fail);try go_wp2)
         go_ret
         exact ⟨by first|rfl|(simp;done)|(simp [*];done),by repeat (first|exact Drawn0.refl _|apply Drawn0.step)⟩
        ·rw [if_neg c8] at H
         have c8b0:(!(((rd_T51 l0 x13_1).f0) == ((rd_T51 l1 x13_1).f0)) || (!(((rd_T51 l0 x13_1).f1) == ((rd_T51 l1 x13_1).f1)) || (!(((rd_T51 l0 x13_1).f2) == ((rd_T51 l1 x13_1).f2)))))=false:=by simpa using c8
         clear c8
         have H':=zm H
         clear H
         have p343:0≤(x13_1:Int):=za_
         have q343:x13_1 < (l0.length:Int):=za_
         obtain ⟨ad343,e343,hx343_0,hx343_1,hx343_2⟩:=at_T51 HR0.out x13_1 p343 q343
         cases e343
         replace p343:=eq_true p343
         replace q343:=eq_true q343
         have p344:0≤(x13_1:Int):=za_
         have q344:x13_1 < (l1.length:Int):=za_
         obtain ⟨ad344,e344,hx344_0,hx344_1,hx344_2⟩:=at_T51 HR1.out x13_1 p344 q344
         cases e344
         replace p344:=eq_true p344
         replace q344:=eq_true q344
         go_wp2
         repeat (go_quiet (fail);try go_wp2)
         go_roundg k1
         case measure=>have:=HK1.out;omega
         case rel=>exact ⟨(wrap64 (x13_1 + 1)),zs_,H',⟨by have:=HK1.out;omega⟩,by repeat (first|exact Drawn0.refl _|apply Drawn0.step)⟩
       ·rw [if_neg c7] at H
        exact absurd H (by simp)
      ·rw [if_neg c6] at H
       exact absurd H (by simp)
     ·rw [if_neg c5] at H
      exact absurd H (by simp)
    ·rw [if_neg c4] at H
     have c4b0:decide (x13_1 < (l0.length:Int))=false:=decide_eq_false c4
     clear c4
     obtain rfl:=Option.some.inj H
     go_wp2
     repeat (go_quiet (fail);try go_wp2)
     go_ret
     exact ⟨by first|rfl|(simp;done)|(simp [*];done),by repeat (first|exact Drawn0.refl _|apply Drawn0.step)⟩
 ·rw [if_neg c3] at H
  have c3b0:((l0.length:Int) == (l1.length:Int))=false:=beq_eq_false_iff_ne.mpr c3
  have c3b1:((l0.length:Int) != (l1.length:Int))=true:=bne_iff_ne.mpr c3
  have c3b2:(l0.length == l1.length)=false:=by first|simpa using c3|(simp at c3 ⊢;omega)
  obtain rfl:=Option.some.inj H
  go_enter Try.func42,Try.ntmps42
  go_wp2
  repeat (go_quiet (fail);try go_wp2)
  go_ret
  exact ⟨by first|rfl|(simp;done)|(simp [*];done),by repeat (first|exact Drawn0.refl _|apply Drawn0.step)⟩
def inode_Same.f (k:Nat) (a0_0:Int) (a0_1:Int) (a0_2:Int) (a0_3:Int) (a0_4:Int) (a0_5:Int) (l0_6:List (S51)) (a1_0:Int) (a1_1:Int) (a1_2:Int) (a1_3:Int) (a1_4:Int) (a1_5:Int) (l1_6:List (S51)):Option (Bool):=if a0_0=a1_0 then (if a0_1=a1_1 then (if a0_2=a1_2 then (if a0_3=a1_3 then (if a0_4=a1_4 then (if a0_5=a1_5 then ((extent_Same.f k l0_6 l1_6).bind fun t347=>(some t347)) else (some false)) else (some false)) else (some false)) else (some false)) else (some false)) else (some false)
set_option maxHeartbeats 8000000 in
set_option maxRecDepth 100000 in
theorem inode_Same.calls (k:Nat) (a0_0:Int) (a0_1:Int) (a0_2:Int) (a0_3:Int) (a0_4:Int) (a0_5:Int) (A0_6:Option Addr) (c0_6:Nat) (l0_6:List (S51)) (a1_0:Int) (a1_1:Int) (a1_2:Int) (a1_3:Int) (a1_4:Int) (a1_5:Int) (A1_6:Option Addr) (c1_6:Nat) (l1_6:List (S51)) (r:Bool) (w:World) (hr0_6:Kd.C k51 w A0_6 l0_6.length l0_6) (hc0_6:l0_6.length≤c0_6) (hr1_6:Kd.C k51 w A1_6 l1_6.length l1_6) (hc1_6:l1_6.length≤c1_6) (h:inode_Same.f k a0_0 a0_1 a0_2 a0_3 a0_4 a0_5 l0_6 a1_0 a1_1 a1_2 a1_3 a1_4 a1_5 l1_6=some r) :
  Calls Try.prog 16 #[.agg #[.int .i64 a0_0,.int .i64 a0_1,.int .i64 a0_2,.int .i64 a0_3,.int .i64 a0_4,.int .i64 a0_5,.slice A0_6 l0_6.length c0_6],.agg #[.int .i64 a1_0,.int .i64 a1_1,.int .i64 a1_2,.int .i64 a1_3,.int .i64 a1_4,.int .i64 a1_5,.slice A1_6 l1_6.length c1_6]] w fun e w'=>e=.returned (.bool r)∧Below w.heap.size w w':=by
 have hu24:=Try.underlying24
 have HR0_6:=zm hr0_6
 have HC0_6:=zm hc0_6
 clear hr0_6 hc0_6
 have HR1_6:=zm hr1_6
 have HC1_6:=zm hc1_6
 clear hr1_6 hc1_6
 have HB:=zm (Below.refl w.heap.size w)
 have H:(if a0_0=a1_0 then (if a0_1=a1_1 then (if a0_2=a1_2 then (if a0_3=a1_3 then (if a0_4=a1_4 then (if a0_5=a1_5 then ((extent_Same.f k l0_6 l1_6).bind fun t347=>(some t347)) else (some false)) else (some false)) else (some false)) else (some false)) else (some false)) else (some false))=some r:=h
 clear h
 by_cases c3:a0_0=a1_0
 ·rw [if_pos c3] at H
  have c3b0:(a0_0 == a1_0)=true:=beq_iff_eq.mpr c3
  have c3b1:(a0_0 != a1_0)=false:=bne_eq_false_iff_eq.mpr c3
  clear c3
  by_cases c4:a0_1=a1_1
  ·rw [if_pos c4] at H
   have c4b0:(a0_1 == a1_1)=true:=beq_iff_eq.mpr c4
   have c4b1:(a0_1 != a1_1)=false:=bne_eq_false_iff_eq.mpr c4
   clear c4
   by_cases c5:a0_2=a1_2
   ·rw [if_pos c5] at H
    have c5b0:(a0_2 == a1_2)=true:=beq_iff_eq.mpr c5
    have c5b1:(a0_2 != a1_2)=false:=bne_eq_false_iff_eq.mpr c5
    clear c5
    by_cases c6:a0_3=a1_3
    ·rw [if_pos c6] at H
     have c6b0:(a0_3 == a1_3)=true:=beq_iff_eq.mpr c6
     have c6b1:(a0_3 != a1_3)=false:=bne_eq_false_iff_eq.mpr c6
     clear c6
     by_cases c7:a0_4=a1_4
     ·rw [if_pos c7] at H
      have c7b0:(a0_4 == a1_4)=true:=beq_iff_eq.mpr c7
      have c7b1:(a0_4 != a1_4)=false:=bne_eq_false_iff_eq.mpr c7
      clear c7
      by_cases c8:a0_5=a1_5
      ·rw [if_pos c8] at H
       have c8b0:(a0_5 == a1_5)=true:=beq_iff_eq.mpr c8
       have c8b1:(a0_5 != a1_5)=false:=bne_eq_false_iff_eq.mpr c8
       clear c8
       replace H:=Option.bind_eq_some_iff.mp H
       obtain ⟨t347,A90,H⟩:=H
       replace H:(some t347)=some r:=H
       have A9:=zm A90
       clear A90
       obtain rfl:=Option.some.inj H
       go_enter Try.func16,Try.ntmps16
       go_wp2_with (first|((with_reducible refine gate_dst (N:=2) rfl ?_);refine zbx 2 #[.int .i64 a0_0,.int .i64 a0_1,.int .i64 a0_2,.int .i64 a0_3,.int .i64 a0_4,.int .i64 a0_5,.slice A0_6 l0_6.length c0_6] 24 ?_;intro gb345 hg w10 hbox hb;have n0_:=zkH HB hb;have n1_:=zm (hbox);have n2_:=zkG HB hg;have n3_:=zkG HB hg;clear HB;have HB:=n0_;have BK345:=n1_;have GW345:=n2_;have GE345:=n3_;clear n0_ n1_ n2_ n3_;clear hb hbox hg)|((with_reducible refine gate_dst (N:=3) rfl ?_);refine zbx 3 #[.int .i64 a1_0,.int .i64 a1_1,.int .i64 a1_2,.int .i64 a1_3,.int .i64 a1_4,.int .i64 a1_5,.slice A1_6 l1_6.length c1_6] 24 ?_;intro gb346 hg w11 hbox hb;have n0_:=zkB BK345 hb;have n1_:=zkH HB hb;have n2_:=zm (hbox);have n3_:=zkG HB hg;have n4_:=zkG HB hg;have n5_:=zkN BK345 hg;have n6_:=zkM BK345 hg;clear BK345 HB;have BK345:=n0_;have HB:=n1_;have BK346:=n2_;have GW346:=n3_;have GE346:=n4_;have NB345_346:=n5_;have NB346_345:=n6_;clear n0_ n1_ n2_ n3_ n4_ n5_ n6_;clear hb hbox hg;have hnb12:=NB345_346.out;have hnc12:=NB346_345.out;obtain ⟨hcz13_0,hcz13_1,hcz13_2,hcz13_3,hcz13_4,hcz13_5,hcz13_6,hfz13_0,hfz13_1,hfz13_2,hfz13_3,hfz13_4,hfz13_5,hfz13_6⟩:=zc7 BK345.out;obtain ⟨hcz14_0,hcz14_1,hcz14_2,hcz14_3,hcz14_4,hcz14_5,hcz14_6,hfz14_0,hfz14_1,hfz14_2,hfz14_3,hfz14_4,hfz14_5,hfz14_6⟩:=zc7 BK346.out)|(go_at_call 42;(with_reducible refine (extent_Same.calls k _ _ l0_6 _ _ l1_6 t347 _ ?side1 ?side2 ?side3 ?side4 A9.out).mono ?_);(case side1=>exact zC HR0_6);(case side2=>exact HC0_6.out);(case side3=>exact zC HR1_6);(case side4=>exact HC1_6.out);rintro e w' ⟨rfl,⟨nd,rfl⟩⟩))
       go_ret
       exact ⟨ze_,zb_⟩
      ·rw [if_neg c8] at H
       have c8b0:(a0_5 == a1_5)=false:=beq_eq_false_iff_ne.mpr c8
       have c8b1:(a0_5 != a1_5)=true:=bne_iff_ne.mpr c8
       obtain rfl:=Option.some.inj H
       go_enter Try.func16,Try.ntmps16
       go_wp2_with (first|((with_reducible refine gate_dst (N:=2) rfl ?_);refine zbx 2 #[.int .i64 a0_0,.int .i64 a0_1,.int .i64 a0_2,.int .i64 a0_3,.int .i64 a0_4,.int .i64 a0_5,.slice A0_6 l0_6.length c0_6] 24 ?_;intro gb345 hg w15 hbox hb;have n0_:=zkH HB hb;have n1_:=zm (hbox);have n2_:=zkG HB hg;have n3_:=zkG HB hg;clear HB;have HB:=n0_;have BK345:=n1_;have GW345:=n2_;have GE345:=n3_;clear n0_ n1_ n2_ n3_;clear hb hbox hg)|((with_reducible refine gate_dst (N:=3) rfl ?_);refine zbx 3 #[.int .i64 a1_0,.int .i64 a1_1,.int .i64 a1_2,.int .i64 a1_3,.int .i64 a1_4,.int .i64 a1_5,.slice A1_6 l1_6.length c1_6] 24 ?_;intro gb346 hg w16 hbox hb;have n0_:=zkB BK345 hb;have n1_:=zkH HB hb;have n2_:=zm (hbox);have n3_:=zkG HB hg;have n4_:=zkG HB hg;have n5_:=zkN BK345 hg;have n6_:=zkM BK345 hg;clear BK345 HB;have BK345:=n0_;have HB:=n1_;have BK346:=n2_;have GW346:=n3_;have GE346:=n4_;have NB345_346:=n5_;have NB346_345:=n6_;clear n0_ n1_ n2_ n3_ n4_ n5_ n6_;clear hb hbox hg;have hnb17:=NB345_346.out;have hnc17:=NB346_345.out;obtain ⟨hcz18_0,hcz18_1,hcz18_2,hcz18_3,hcz18_4,hcz18_5,hcz18_6,hfz18_0,hfz18_1,hfz18_2,hfz18_3,hfz18_4,hfz18_5,hfz18_6⟩:=zc7 BK345.out;obtain ⟨hcz19_0,hcz19_1,hcz19_2,hcz19_3,hcz19_4,hcz19_5,hcz19_6,hfz19_0,hfz19_1,hfz19_2,hfz19_3,hfz19_4,hfz19_5,hfz19_6⟩:=zc7 BK346.out))
       go_ret
       exact ⟨ze_,zb_⟩
     ·rw [if_neg c7] at H
      have c7b0:(a0_4 == a1_4)=false:=beq_eq_false_iff_ne.mpr c7
      have c7b1:(a0_4 != a1_4)=true:=bne_iff_ne.mpr c7
      obtain rfl:=Option.some.inj H
      go_enter Try.func16,Try.ntmps16
      go_wp2_with (first|((with_reducible refine gate_dst (N:=2) rfl ?_);refine zbx 2 #[.int .i64 a0_0,.int .i64 a0_1,.int .i64 a0_2,.int .i64 a0_3,.int .i64 a0_4,.int .i64 a0_5,.slice A0_6 l0_6.length c0_6] 24 ?_;intro gb345 hg w20 hbox hb;have n0_:=zkH HB hb;have n1_:=zm (hbox);have n2_:=zkG HB hg;have n3_:=zkG HB hg;clear HB;have HB:=n0_;have BK345:=n1_;have GW345:=n2_;have GE345:=n3_;clear n0_ n1_ n2_ n3_;clear hb hbox hg)|((with_reducible refine gate_dst (N:=3) rfl ?_);refine zbx 3 #[.int .i64 a1_0,.int .i64 a1_1,.int .i64 a1_2,.int .i64 a1_3,.int .i64 a1_4,.int .i64 a1_5,.slice A1_6 l1_6.length c1_6] 24 ?_;intro gb346 hg w21 hbox hb;have n0_:=zkB BK345 hb;have n1_:=zkH HB hb;have n2_:=zm (hbox);have n3_:=zkG HB hg;have n4_:=zkG HB hg;have n5_:=zkN BK345 hg;have n6_:=zkM BK345 hg;clear BK345 HB;have BK345:=n0_;have HB:=n1_;have BK346:=n2_;have GW346:=n3_;have GE346:=n4_;have NB345_346:=n5_;have NB346_345:=n6_;clear n0_ n1_ n2_ n3_ n4_ n5_ n6_;clear hb hbox hg;have hnb22:=NB345_346.out;have hnc22:=NB346_345.out;obtain ⟨hcz23_0,hcz23_1,hcz23_2,hcz23_3,hcz23_4,hcz23_5,hcz23_6,hfz23_0,hfz23_1,hfz23_2,hfz23_3,hfz23_4,hfz23_5,hfz23_6⟩:=zc7 BK345.out;obtain ⟨hcz24_0,hcz24_1,hcz24_2,hcz24_3,hcz24_4,hcz24_5,hcz24_6,hfz24_0,hfz24_1,hfz24_2,hfz24_3,hfz24_4,hfz24_5,hfz24_6⟩:=zc7 BK346.out))
      go_ret
      exact ⟨ze_,zb_⟩
    ·rw [if_neg c6] at H
     have c6b0:(a0_3 == a1_3)=false:=beq_eq_false_iff_ne.mpr c6
     have c6b1:(a0_3 != a1_3)=true:=bne_iff_ne.mpr c6
     obtain rfl:=Option.some.inj H
     go_enter Try.func16,Try.ntmps16
     go_wp2_with (first|((with_reducible refine gate_dst (N:=2) rfl ?_);refine zbx 2 #[.int .i64 a0_0,.int .i64 a0_1,.int .i64 a0_2,.int .i64 a0_3,.int .i64 a0_4,.int .i64 a0_5,.slice A0_6 l0_6.length c0_6] 24 ?_;intro gb345 hg w25 hbox hb;have n0_:=zkH HB hb;have n1_:=zm (hbox);have n2_:=zkG HB hg;have n3_:=zkG HB hg;clear HB;have HB:=n0_;have BK345:=n1_;have GW345:=n2_;have GE345:=n3_;clear n0_ n1_ n2_ n3_;clear hb hbox hg)|((with_reducible refine gate_dst (N:=3) rfl ?_);refine zbx 3 #[.int .i64 a1_0,.int .i64 a1_1,.int .i64 a1_2,.int .i64 a1_3,.int .i64 a1_4,.int .i64 a1_5,.slice A1_6 l1_6.length c1_6] 24 ?_;intro gb346 hg w26 hbox hb;have n0_:=zkB BK345 hb;have n1_:=zkH HB hb;have n2_:=zm (hbox);have n3_:=zkG HB hg;have n4_:=zkG HB hg;have n5_:=zkN BK345 hg;have n6_:=zkM BK345 hg;clear BK345 HB;have BK345:=n0_;have HB:=n1_;have BK346:=n2_;have GW346:=n3_;have GE346:=n4_;have NB345_346:=n5_;have NB346_345:=n6_;clear n0_ n1_ n2_ n3_ n4_ n5_ n6_;clear hb hbox hg;have hnb27:=NB345_346.out;have hnc27:=NB346_345.out;obtain ⟨hcz28_0,hcz28_1,hcz28_2,hcz28_3,hcz28_4,hcz28_5,hcz28_6,hfz28_0,hfz28_1,hfz28_2,hfz28_3,hfz28_4,hfz28_5,hfz28_6⟩:=zc7 BK345.out;obtain ⟨hcz29_0,hcz29_1,hcz29_2,hcz29_3,hcz29_4,hcz29_5,hcz29_6,hfz29_0,hfz29_1,hfz29_2,hfz29_3,hfz29_4,hfz29_5,hfz29_6⟩:=zc7 BK346.out))
     go_ret
     exact ⟨ze_,zb_⟩
   ·rw [if_neg c5] at H
    have c5b0:(a0_2 == a1_2)=false:=beq_eq_false_iff_ne.mpr c5
    have c5b1:(a0_2 != a1_2)=true:=bne_iff_ne.mpr c5
    obtain rfl:=Option.some.inj H
    go_enter Try.func16,Try.ntmps16
    go_wp2_with (first|((with_reducible refine gate_dst (N:=2) rfl ?_);refine zbx 2 #[.int .i64 a0_0,.int .i64 a0_1,.int .i64 a0_2,.int .i64 a0_3,.int .i64 a0_4,.int .i64 a0_5,.slice A0_6 l0_6.length c0_6] 24 ?_;intro gb345 hg w30 hbox hb;have n0_:=zkH HB hb;have n1_:=zm (hbox);have n2_:=zkG HB hg;have n3_:=zkG HB hg;clear HB;have HB:=n0_;have BK345:=n1_;have GW345:=n2_;have GE345:=n3_;clear n0_ n1_ n2_ n3_;clear hb hbox hg)|((with_reducible refine gate_dst (N:=3) rfl ?_);refine zbx 3 #[.int .i64 a1_0,.int .i64 a1_1,.int .i64 a1_2,.int .i64 a1_3,.int .i64 a1_4,.int .i64 a1_5,.slice A1_6 l1_6.length c1_6] 24 ?_;intro gb346 hg w31 hbox hb;have n0_:=zkB BK345 hb;have n1_:=zkH HB hb;have n2_:=zm (hbox);have n3_:=zkG HB hg;have n4_:=zkG HB hg;have n5_:=zkN BK345 hg;have n6_:=zkM BK345 hg;clear BK345 HB;have BK345:=n0_;have HB:=n1_;have BK346:=n2_;have GW346:=n3_;have GE346:=n4_;have NB345_346:=n5_;have NB346_345:=n6_;clear n0_ n1_ n2_ n3_ n4_ n5_ n6_;clear hb hbox hg;have hnb32:=NB345_346.out;have hnc32:=NB346_345.out;obtain ⟨hcz33_0,hcz33_1,hcz33_2,hcz33_3,hcz33_4,hcz33_5,hcz33_6,hfz33_0,hfz33_1,hfz33_2,hfz33_3,hfz33_4,hfz33_5,hfz33_6⟩:=zc7 BK345.out;obtain ⟨hcz34_0,hcz34_1,hcz34_2,hcz34_3,hcz34_4,hcz34_5,hcz34_6,hfz34_0,hfz34_1,hfz34_2,hfz34_3,hfz34_4,hfz34_5,hfz34_6⟩:=zc7 BK346.out))
    go_ret
    exact ⟨ze_,zb_⟩
  ·rw [if_neg c4] at H
   have c4b0:(a0_1 == a1_1)=false:=beq_eq_false_iff_ne.mpr c4
   have c4b1:(a0_1 != a1_1)=true:=bne_iff_ne.mpr c4
   obtain rfl:=Option.some.inj H
   go_enter Try.func16,Try.ntmps16
   go_wp2_with (first|((with_reducible refine gate_dst (N:=2) rfl ?_);refine zbx 2 #[.int .i64 a0_0,.int .i64 a0_1,.int .i64 a0_2,.int .i64 a0_3,.int .i64 a0_4,.int .i64 a0_5,.slice A0_6 l0_6.length c0_6] 24 ?_;intro gb345 hg w35 hbox hb;have n0_:=zkH HB hb;have n1_:=zm (hbox);have n2_:=zkG HB hg;have n3_:=zkG HB hg;clear HB;have HB:=n0_;have BK345:=n1_;have GW345:=n2_;have GE345:=n3_;clear n0_ n1_ n2_ n3_;clear hb hbox hg)|((with_reducible refine gate_dst (N:=3) rfl ?_);refine zbx 3 #[.int .i64 a1_0,.int .i64 a1_1,.int .i64 a1_2,.int .i64 a1_3,.int .i64 a1_4,.int .i64 a1_5,.slice A1_6 l1_6.length c1_6] 24 ?_;intro gb346 hg w36 hbox hb;have n0_:=zkB BK345 hb;have n1_:=zkH HB hb;have n2_:=zm (hbox);have n3_:=zkG HB hg;have n4_:=zkG HB hg;have n5_:=zkN BK345 hg;have n6_:=zkM BK345 hg;clear BK345 HB;have BK345:=n0_;have HB:=n1_;have BK346:=n2_;have GW346:=n3_;have GE346:=n4_;have NB345_346:=n5_;have NB346_345:=n6_;clear n0_ n1_ n2_ n3_ n4_ n5_ n6_;clear hb hbox hg;have hnb37:=NB345_346.out;have hnc37:=NB346_345.out;obtain ⟨hcz38_0,hcz38_1,hcz38_2,hcz38_3,hcz38_4,hcz38_5,hcz38_6,hfz38_0,hfz38_1,hfz38_2,hfz38_3,hfz38_4,hfz38_5,hfz38_6⟩:=zc7 BK345.out;obtain ⟨hcz39_0,hcz39_1,hcz39_2,hcz39_3,hcz39_4,hcz39_5,hcz39_6,hfz39_0,hfz39_1,hfz39_2,hfz39_3,hfz39_4,hfz39_5,hfz39_6⟩:=zc7 BK346.out))
   go_ret
   exact ⟨ze_,zb_⟩
 ·rw [if_neg c3] at H
  have c3b0:(a0_0 == a1_0)=false:=beq_eq_false_iff_ne.mpr c3
  have c3b1:(a0_0 != a1_0)=true:=bne_iff_ne.mpr c3
  obtain rfl:=Option.some.inj H
  go_enter Try.func16,Try.ntmps16
  go_wp2_with (first|((with_reducible refine gate_dst (N:=2) rfl ?_);refine zbx 2 #[.int .i64 a0_0,.int .i64 a0_1,.int .i64 a0_2,.int .i64 a0_3,.int .i64 a0_4,.int .i64 a0_5,.slice A0_6 l0_6.length c0_6] 24 ?_;intro gb345 hg w40 hbox hb;have n0_:=zkH HB hb;have n1_:=zm (hbox);have n2_:=zkG HB hg;have n3_:=zkG HB hg;clear HB;have HB:=n0_;have BK345:=n1_;have GW345:=n2_;have GE345:=n3_;clear n0_ n1_ n2_ n3_;clear hb hbox hg)|((with_reducible refine gate_dst (N:=3) rfl ?_);refine zbx 3 #[.int .i64 a1_0,.int .i64 a1_1,.int .i64 a1_2,.int .i64 a1_3,.int .i64 a1_4,.int .i64 a1_5,.slice A1_6 l1_6.length c1_6] 24 ?_;intro gb346 hg w41 hbox hb;have n0_:=zkB BK345 hb;have n1_:=zkH HB hb;have n2_:=zm (hbox);have n3_:=zkG HB hg;have n4_:=zkG HB hg;have n5_:=zkN BK345 hg;have n6_:=zkM BK345 hg;clear BK345 HB;have BK345:=n0_;have HB:=n1_;have BK346:=n2_;have GW346:=n3_;have GE346:=n4_;have NB345_346:=n5_;have NB346_345:=n6_;clear n0_ n1_ n2_ n3_ n4_ n5_ n6_;clear hb hbox hg;have hnb42:=NB345_346.out;have hnc42:=NB346_345.out;obtain ⟨hcz43_0,hcz43_1,hcz43_2,hcz43_3,hcz43_4,hcz43_5,hcz43_6,hfz43_0,hfz43_1,hfz43_2,hfz43_3,hfz43_4,hfz43_5,hfz43_6⟩:=zc7 BK345.out;obtain ⟨hcz44_0,hcz44_1,hcz44_2,hcz44_3,hcz44_4,hcz44_5,hcz44_6,hfz44_0,hfz44_1,hfz44_2,hfz44_3,hfz44_4,hfz44_5,hfz44_6⟩:=zc7 BK346.out))
  go_ret
  exact ⟨ze_,zb_⟩
def inode_Free.f (a0:Int):Option (Int × Int × Int × Int × Int × Int × (List (S51))):=if a0 < 0 then (some (0,0,0,0,0,0,([]:List (S51)))) else (if a0 > 4294967295 then (some (0,0,0,0,0,0,([]:List (S51)))) else (some (0,0,0,0,a0,0,([]:List (S51)))))
set_option maxHeartbeats 8000000 in
set_option maxRecDepth 100000 in
theorem inode_Free.calls (a0:Int) (r1:Int) (r2:Int) (r3:Int) (r4:Int) (r5:Int) (r6:Int) (r7:List (S51)) (w:World) (h:inode_Free.f a0=some (r1,r2,r3,r4,r5,r6,r7)) :
  Calls Try.prog 17 #[.int .i64 a0] w fun e w'=>∃ v6_:Value,e=.returned (.agg #[.int .i64 r1,.int .i64 r2,.int .i64 r3,.int .i64 r4,.int .i64 r5,.int .i64 r6,v6_])∧Kd.R k51 51 w' w.heap.size (fun _=>True) v6_ r7∧Below w.heap.size w w':=by
 have hu24:=Try.underlying24
 have HB:=zm (Below.refl w.heap.size w)
 have H:(if a0 < 0 then (some (0,0,0,0,0,0,([]:List (S51)))) else (if a0 > 4294967295 then (some (0,0,0,0,0,0,([]:List (S51)))) else (some (0,0,0,0,a0,0,([]:List (S51))))))=some (r1,r2,r3,r4,r5,r6,r7):=h
 clear h
 by_cases c2:a0 < 0
 ·rw [if_pos c2] at H
  have c2b0:decide (a0 < 0)=true:=decide_eq_true c2
  clear c2
  simp only [Option.some.injEq,Prod.mk.injEq] at H
  obtain ⟨rfl,rfl,rfl,rfl,rfl,rfl,rfl⟩:=H
  go_enter Try.func17,Try.ntmps17
  go_wp2_with (first|((with_reducible refine gate_dst (N:=2) rfl ?_);refine zbx 2 #[.int .i64 0,.int .i64 0,.int .i64 0,.int .i64 0,.int .i64 0,.int .i64 0,.slice none 0 0] 24 ?_;intro gb348 hg w3 hbox hb;have n0_:=zkH HB hb;have n1_:=zm (hbox);have n2_:=zkG HB hg;have n3_:=zkG HB hg;clear HB;have HB:=n0_;have BK348:=n1_;have GW348:=n2_;have GE348:=n3_;clear n0_ n1_ n2_ n3_;clear hb hbox hg;obtain ⟨hcz4_0,hcz4_1,hcz4_2,hcz4_3,hcz4_4,hcz4_5,hcz4_6,hfz4_0,hfz4_1,hfz4_2,hfz4_3,hfz4_4,hfz4_5,hfz4_6⟩:=zc7 BK348.out))
  refine bodyPost_ret (results_cell_row rfl _ _ gb348 24 #[.int .i64 0,.int .i64 0,.int .i64 0,.int .i64 0,.int .i64 0,.int .i64 0,.slice none 0 0] (0,0) _ rfl (by (with_reducible repeat (first|refine zbN ?_ _|refine zbD ?_|refine zbA ?_ _));refine blk_put (cs:=#[.int .i64 0,.int .i64 0,.int .i64 0,.int .i64 0,.int .i64 0,.int .i64 0,.slice none 0 0]) ?_ 6 _ rfl;(with_reducible repeat (first|refine zbN ?_ _|refine zbD ?_|refine zbA ?_ _));refine blk_put (cs:=#[.int .i64 0,.int .i64 0,.int .i64 0,.int .i64 0,.int .i64 0,.int .i64 0,.slice none 0 0]) ?_ 5 _ rfl;(with_reducible repeat (first|refine zbN ?_ _|refine zbD ?_|refine zbA ?_ _));refine blk_put (cs:=#[.int .i64 0,.int .i64 0,.int .i64 0,.int .i64 0,.int .i64 0,.int .i64 0,.slice none 0 0]) ?_ 4 _ rfl;(with_reducible repeat (first|refine zbN ?_ _|refine zbD ?_|refine zbA ?_ _));refine blk_put (cs:=#[.int .i64 0,.int .i64 0,.int .i64 0,.int .i64 0,.int .i64 0,.int .i64 0,.slice none 0 0]) ?_ 3 _ rfl;(with_reducible repeat (first|refine zbN ?_ _|refine zbD ?_|refine zbA ?_ _));refine blk_put (cs:=#[.int .i64 0,.int .i64 0,.int .i64 0,.int .i64 0,.int .i64 0,.int .i64 0,.slice none 0 0]) ?_ 2 _ rfl;(with_reducible repeat (first|refine zbN ?_ _|refine zbD ?_|refine zbA ?_ _));refine blk_put (cs:=#[.int .i64 0,.int .i64 0,.int .i64 0,.int .i64 0,.int .i64 0,.int .i64 0,.slice none 0 0]) ?_ 1 _ rfl;(with_reducible repeat (first|refine zbN ?_ _|refine zbD ?_|refine zbA ?_ _));refine blk_put (cs:=#[.int .i64 0,.int .i64 0,.int .i64 0,.int .i64 0,.int .i64 0,.int .i64 0,.slice none 0 0]) ?_ 0 _ rfl;(with_reducible repeat (first|refine zbN ?_ _|refine zbD ?_|refine zbA ?_ _));exact BK348.out) Try.underlying24 rfl (by kernel_rfl)) rfl ?_
  exact ⟨_,ze_,zr_,zb_⟩
 ·rw [if_neg c2] at H
  have c2b0:decide (a0 < 0)=false:=decide_eq_false c2
  clear c2
  by_cases c5:a0 > 4294967295
  ·rw [if_pos c5] at H
   have c5b0:decide (4294967295 < a0)=true:=decide_eq_true c5
   clear c5
   simp only [Option.some.injEq,Prod.mk.injEq] at H
   obtain ⟨rfl,rfl,rfl,rfl,rfl,rfl,rfl⟩:=H
   go_enter Try.func17,Try.ntmps17
   go_wp2_with (first|((with_reducible refine gate_dst (N:=2) rfl ?_);refine zbx 2 #[.int .i64 0,.int .i64 0,.int .i64 0,.int .i64 0,.int .i64 0,.int .i64 0,.slice none 0 0] 24 ?_;intro gb348 hg w6 hbox hb;have n0_:=zkH HB hb;have n1_:=zm (hbox);have n2_:=zkG HB hg;have n3_:=zkG HB hg;clear HB;have HB:=n0_;have BK348:=n1_;have GW348:=n2_;have GE348:=n3_;clear n0_ n1_ n2_ n3_;clear hb hbox hg;obtain ⟨hcz7_0,hcz7_1,hcz7_2,hcz7_3,hcz7_4,hcz7_5,hcz7_6,hfz7_0,hfz7_1,hfz7_2,hfz7_3,hfz7_4,hfz7_5,hfz7_6⟩:=zc7 BK348.out))
   refine bodyPost_ret (results_cell_row rfl _ _ gb348 24 #[.int .i64 0,.int .i64 0,.int .i64 0,.int .i64 0,.int .i64 0,.int .i64 0,.slice none 0 0] (0,0) _ rfl (by (with_reducible repeat (first|refine zbN ?_ _|refine zbD ?_|refine zbA ?_ _));refine blk_put (cs:=#[.int .i64 0,.int .i64 0,.int .i64 0,.int .i64 0,.int .i64 0,.int .i64 0,.slice none 0 0]) ?_ 6 _ rfl;(with_reducible repeat (first|refine zbN ?_ _|refine zbD ?_|refine zbA ?_ _));refine blk_put (cs:=#[.int .i64 0,.int .i64 0,.int .i64 0,.int .i64 0,.int .i64 0,.int .i64 0,.slice none 0 0]) ?_ 5 _ rfl;(with_reducible repeat (first|refine zbN ?_ _|refine zbD ?_|refine zbA ?_ _));refine blk_put (cs:=#[.int .i64 0,.int .i64 0,.int .i64 0,.int .i64 0,.int .i64 0,.int .i64 0,.slice none 0 0]) ?_ 4 _ rfl;(with_reducible repeat (first|refine zbN ?_ _|refine zbD ?_|refine zbA ?_ _));refine blk_put (cs:=#[.int .i64 0,.int .i64 0,.int .i64 0,.int .i64 0,.int .i64 0,.int .i64 0,.slice none 0 0]) ?_ 3 _ rfl;(with_reducible repeat (first|refine zbN ?_ _|refine zbD ?_|refine zbA ?_ _));refine blk_put (cs:=#[.int .i64 0,.int .i64 0,.int .i64 0,.int .i64 0,.int .i64 0,.int .i64 0,.slice none 0 0]) ?_ 2 _ rfl;(with_reducible repeat (first|refine zbN ?_ _|refine zbD ?_|refine zbA ?_ _));refine blk_put (cs:=#[.int .i64 0,.int .i64 0,.int .i64 0,.int .i64 0,.int .i64 0,.int .i64 0,.slice none 0 0]) ?_ 1 _ rfl;(with_reducible repeat (first|refine zbN ?_ _|refine zbD ?_|refine zbA ?_ _));refine blk_put (cs:=#[.int .i64 0,.int .i64 0,.int .i64 0,.int .i64 0,.int .i64 0,.int .i64 0,.slice none 0 0]) ?_ 0 _ rfl;(with_reducible repeat (first|refine zbN ?_ _|refine zbD ?_|refine zbA ?_ _));exact BK348.out) Try.underlying24 rfl (by kernel_rfl)) rfl ?_
   exact ⟨_,ze_,zr_,zb_⟩
  ·rw [if_neg c5] at H
   have c5b0:decide (4294967295 < a0)=false:=decide_eq_false c5
   clear c5
   simp only [Option.some.injEq,Prod.mk.injEq] at H
   obtain ⟨rfl,rfl,rfl,rfl,rfl,rfl,rfl⟩:=H
   go_enter Try.func17,Try.ntmps17
   go_wp2_with (first|((with_reducible refine gate_dst (N:=2) rfl ?_);refine zbx 2 #[.int .i64 0,.int .i64 0,.int .i64 0,.int .i64 0,.int .i64 0,.int .i64 0,.slice none 0 0] 24 ?_;intro gb348 hg w8 hbox hb;have n0_:=zkH HB hb;have n1_:=zm (hbox);have n2_:=zkG HB hg;have n3_:=zkG HB hg;clear HB;have HB:=n0_;have BK348:=n1_;have GW348:=n2_;have GE348:=n3_;clear n0_ n1_ n2_ n3_;clear hb hbox hg;obtain ⟨hcz9_0,hcz9_1,hcz9_2,hcz9_3,hcz9_4,hcz9_5,hcz9_6,hfz9_0,hfz9_1,hfz9_2,hfz9_3,hfz9_4,hfz9_5,hfz9_6⟩:=zc7 BK348.out))
   refine bodyPost_ret (results_cell_row rfl _ _ gb348 24 #[.int .i64 0,.int .i64 0,.int .i64 0,.int .i64 0,.int .i64 a0,.int .i64 0,.slice none 0 0] (0,0) _ rfl (by (with_reducible repeat (first|refine zbN ?_ _|refine zbD ?_|refine zbA ?_ _));refine blk_put (cs:=#[.int .i64 0,.int .i64 0,.int .i64 0,.int .i64 0,.int .i64 a0,.int .i64 0,.slice none 0 0]) ?_ 6 _ rfl;(with_reducible repeat (first|refine zbN ?_ _|refine zbD ?_|refine zbA ?_ _));refine blk_put (cs:=#[.int .i64 0,.int .i64 0,.int .i64 0,.int .i64 0,.int .i64 a0,.int .i64 0,.slice none 0 0]) ?_ 5 _ rfl;(with_reducible repeat (first|refine zbN ?_ _|refine zbD ?_|refine zbA ?_ _));refine blk_put (cs:=#[.int .i64 0,.int .i64 0,.int .i64 0,.int .i64 0,.int .i64 0,.int .i64 0,.slice none 0 0]) ?_ 4 _ rfl;(with_reducible repeat (first|refine zbN ?_ _|refine zbD ?_|refine zbA ?_ _));refine blk_put (cs:=#[.int .i64 0,.int .i64 0,.int .i64 0,.int .i64 0,.int .i64 0,.int .i64 0,.slice none 0 0]) ?_ 3 _ rfl;(with_reducible repeat (first|refine zbN ?_ _|refine zbD ?_|refine zbA ?_ _));refine blk_put (cs:=#[.int .i64 0,.int .i64 0,.int .i64 0,.int .i64 0,.int .i64 0,.int .i64 0,.slice none 0 0]) ?_ 2 _ rfl;(with_reducible repeat (first|refine zbN ?_ _|refine zbD ?_|refine zbA ?_ _));refine blk_put (cs:=#[.int .i64 0,.int .i64 0,.int .i64 0,.int .i64 0,.int .i64 0,.int .i64 0,.slice none 0 0]) ?_ 1 _ rfl;(with_reducible repeat (first|refine zbN ?_ _|refine zbD ?_|refine zbA ?_ _));refine blk_put (cs:=#[.int .i64 0,.int .i64 0,.int .i64 0,.int .i64 0,.int .i64 0,.int .i64 0,.slice none 0 0]) ?_ 0 _ rfl;(with_reducible repeat (first|refine zbN ?_ _|refine zbD ?_|refine zbA ?_ _));exact BK348.out) Try.underlying24 rfl (by kernel_rfl)) rfl ?_
   exact ⟨_,ze_,zr_,zb_⟩
def slipwayref14_Free.f (k:Nat) (a0:Int):Option (Int × Int × Int × Int × Int × Int × (List (S51))):=(slipwayref14_Check.f k 0 0 0 0 a0 0 ([]:List (S51))).bind fun t351=>(if t351=0 then (some (0,0,0,0,a0,0,([]:List (S51)))) else (some (0,0,0,0,0,0,([]:List (S51)))))
set_option maxHeartbeats 8000000 in
set_option maxRecDepth 100000 in
theorem slipwayref14_Free.calls (k:Nat) (a0:Int) (r1:Int) (r2:Int) (r3:Int) (r4:Int) (r5:Int) (r6:Int) (r7:List (S51)) (w:World) (h:slipwayref14_Free.f k a0=some (r1,r2,r3,r4,r5,r6,r7)) :
  Calls Try.prog 18 #[.int .i64 a0] w fun e w'=>∃ v6_:Value,e=.returned (.agg #[.int .i64 r1,.int .i64 r2,.int .i64 r3,.int .i64 r4,.int .i64 r5,.int .i64 r6,v6_])∧Kd.R k51 51 w' w.heap.size (fun _=>True) v6_ r7∧Below w.heap.size w w':=by
 have hu24:=Try.underlying24
 have HB:=zm (Below.refl w.heap.size w)
 have H:((slipwayref14_Check.f k 0 0 0 0 a0 0 ([]:List (S51))).bind fun t351=>(if t351=0 then (some (0,0,0,0,a0,0,([]:List (S51)))) else (some (0,0,0,0,0,0,([]:List (S51))))))=some (r1,r2,r3,r4,r5,r6,r7):=h
 clear h
 replace H:=Option.bind_eq_some_iff.mp H
 obtain ⟨t351,A20,H⟩:=H
 replace H:(if t351=0 then (some (0,0,0,0,a0,0,([]:List (S51)))) else (some (0,0,0,0,0,0,([]:List (S51)))))=some (r1,r2,r3,r4,r5,r6,r7):=H
 have A2:=zm A20
 clear A20
 by_cases c3:t351=0
 ·rw [if_pos c3] at H
  have c3b0:(t351 == 0)=true:=beq_iff_eq.mpr c3
  have c3b1:(t351 != 0)=false:=bne_eq_false_iff_eq.mpr c3
  clear c3
  simp only [Option.some.injEq,Prod.mk.injEq] at H
  obtain ⟨rfl,rfl,rfl,rfl,rfl,rfl,rfl⟩:=H
  go_enter Try.func18,Try.ntmps18
  go_wp2_with (first|((with_reducible refine gate_dst (N:=2) rfl ?_);refine zbx 2 #[.int .i64 0,.int .i64 0,.int .i64 0,.int .i64 0,.int .i64 0,.int .i64 0,.slice none 0 0] 24 ?_;intro gb349 hg w4 hbox hb;have n0_:=zkH HB hb;have n1_:=zm (hbox);have n2_:=zkG HB hg;have n3_:=zkG HB hg;clear HB;have HB:=n0_;have BK349:=n1_;have GW349:=n2_;have GE349:=n3_;clear n0_ n1_ n2_ n3_;clear hb hbox hg)|((with_reducible refine gate_dst (N:=3) rfl ?_);refine zbx 3 #[.int .i64 0,.int .i64 0,.int .i64 0,.int .i64 0,.int .i64 0,.int .i64 0,.slice none 0 0] 24 ?_;intro gb350 hg w5 hbox hb;have n0_:=zkB BK349 hb;have n1_:=zkH HB hb;have n2_:=zm (hbox);have n3_:=zkG HB hg;have n4_:=zkG HB hg;have n5_:=zkN BK349 hg;have n6_:=zkM BK349 hg;clear BK349 HB;have BK349:=n0_;have HB:=n1_;have BK350:=n2_;have GW350:=n3_;have GE350:=n4_;have NB349_350:=n5_;have NB350_349:=n6_;clear n0_ n1_ n2_ n3_ n4_ n5_ n6_;clear hb hbox hg;have hnb6:=NB350_349.out;have hnc6:=NB349_350.out;obtain ⟨hcz7_0,hcz7_1,hcz7_2,hcz7_3,hcz7_4,hcz7_5,hcz7_6,hfz7_0,hfz7_1,hfz7_2,hfz7_3,hfz7_4,hfz7_5,hfz7_6⟩:=zc7 BK350.out)|((with_reducible refine gate_callee (f:=15) rfl ?_);refine goesL_ (some 7) rfl rfl Try.func15 (by kernel_rfl) rfl #[.agg #[.int .i64 0,.int .i64 0,.int .i64 0,.int .i64 0,.int .i64 a0,.int .i64 0,.slice none 0 0]] rfl (by (try simp only [List.map_toArray,List.map_cons,List.map_nil]);first|done|rfl|(simp only [List.length_drop,List.length_take];rfl)) ?_;(refine (slipwayref14_Check.calls k 0 0 0 0 a0 0 _ _ ([]:List (S51)) t351 _ ?side1 ?side2 A2.out).mono ?_);(case side1=>exact Kd.C_nil _ _);(case side2=>exact Nat.le_refl _);rintro e w8 ⟨rfl,hb⟩;refine ⟨_,rfl,?_⟩;have n0_:=zm (zbB (g:=gb349) (o:=.cells #[.int .i64 0,.int .i64 0,.int .i64 0,.int .i64 0,.int .i64 0,.int .i64 0,.slice none 0 0] 24 (0,0)) (by (with_reducible repeat (first|refine zbN ?_ _|refine zbD ?_|refine zbA ?_ _));refine blk_far ?_ NB349_350.out _;(with_reducible repeat (first|refine zbN ?_ _|refine zbD ?_|refine zbA ?_ _));refine blk_far ?_ NB349_350.out _;(with_reducible repeat (first|refine zbN ?_ _|refine zbD ?_|refine zbA ?_ _));refine blk_far ?_ NB349_350.out _;(with_reducible repeat (first|refine zbN ?_ _|refine zbD ?_|refine zbA ?_ _));refine blk_far ?_ NB349_350.out _;(with_reducible repeat (first|refine zbN ?_ _|refine zbD ?_|refine zbA ?_ _));refine blk_far ?_ NB349_350.out _;(with_reducible repeat (first|refine zbN ?_ _|refine zbD ?_|refine zbA ?_ _));refine blk_far ?_ NB349_350.out _;(with_reducible repeat (first|refine zbN ?_ _|refine zbD ?_|refine zbA ?_ _));refine blk_far ?_ NB349_350.out _;(with_reducible repeat (first|refine zbN ?_ _|refine zbD ?_|refine zbA ?_ _));exact BK349.out) hb);have n1_:=zm (zbB (g:=gb350) (o:=.cells #[.int .i64 0,.int .i64 0,.int .i64 0,.int .i64 0,.int .i64 a0,.int .i64 0,.slice none 0 0] 24 (0,0)) (by (with_reducible repeat (first|refine zbN ?_ _|refine zbD ?_|refine zbA ?_ _));refine blk_put (cs:=#[.int .i64 0,.int .i64 0,.int .i64 0,.int .i64 0,.int .i64 a0,.int .i64 0,.slice none 0 0]) ?_ 6 _ rfl;(with_reducible repeat (first|refine zbN ?_ _|refine zbD ?_|refine zbA ?_ _));refine blk_put (cs:=#[.int .i64 0,.int .i64 0,.int .i64 0,.int .i64 0,.int .i64 a0,.int .i64 0,.slice none 0 0]) ?_ 5 _ rfl;(with_reducible repeat (first|refine zbN ?_ _|refine zbD ?_|refine zbA ?_ _));refine blk_put (cs:=#[.int .i64 0,.int .i64 0,.int .i64 0,.int .i64 0,.int .i64 0,.int .i64 0,.slice none 0 0]) ?_ 4 _ rfl;(with_reducible repeat (first|refine zbN ?_ _|refine zbD ?_|refine zbA ?_ _));refine blk_put (cs:=#[.int .i64 0,.int .i64 0,.int .i64 0,.int .i64 0,.int .i64 0,.int .i64 0,.slice none 0 0]) ?_ 3 _ rfl;(with_reducible repeat (first|refine zbN ?_ _|refine zbD ?_|refine zbA ?_ _));refine blk_put (cs:=#[.int .i64 0,.int .i64 0,.int .i64 0,.int .i64 0,.int .i64 0,.int .i64 0,.slice none 0 0]) ?_ 2 _ rfl;(with_reducible repeat (first|refine zbN ?_ _|refine zbD ?_|refine zbA ?_ _));refine blk_put (cs:=#[.int .i64 0,.int .i64 0,.int .i64 0,.int .i64 0,.int .i64 0,.int .i64 0,.slice none 0 0]) ?_ 1 _ rfl;(with_reducible repeat (first|refine zbN ?_ _|refine zbD ?_|refine zbA ?_ _));refine blk_put (cs:=#[.int .i64 0,.int .i64 0,.int .i64 0,.int .i64 0,.int .i64 0,.int .i64 0,.slice none 0 0]) ?_ 0 _ rfl;(with_reducible repeat (first|refine zbN ?_ _|refine zbD ?_|refine zbA ?_ _));exact BK350.out) hb);have n2_:=zkH HB hb;clear BK349 BK350 HB;have BK349:=n0_;have BK350:=n1_;have HB:=n2_;clear n0_ n1_ n2_;(try clear hb);(try clear hb2);(try clear hk);(try clear hi);obtain ⟨hcz9_0,hcz9_1,hcz9_2,hcz9_3,hcz9_4,hcz9_5,hcz9_6,hfz9_0,hfz9_1,hfz9_2,hfz9_3,hfz9_4,hfz9_5,hfz9_6⟩:=zc7 BK350.out;obtain ⟨hcz10_0,hcz10_1,hcz10_2,hcz10_3,hcz10_4,hcz10_5,hcz10_6,hfz10_0,hfz10_1,hfz10_2,hfz10_3,hfz10_4,hfz10_5,hfz10_6⟩:=zc7 BK349.out))
  refine bodyPost_ret (results_cell_row rfl _ _ gb349 24 #[.int .i64 0,.int .i64 0,.int .i64 0,.int .i64 0,.int .i64 a0,.int .i64 0,.slice none 0 0] (0,0) _ rfl (by (with_reducible repeat (first|refine zbN ?_ _|refine zbD ?_|refine zbA ?_ _));refine blk_put (cs:=#[.int .i64 0,.int .i64 0,.int .i64 0,.int .i64 0,.int .i64 a0,.int .i64 0,.slice none 0 0]) ?_ 6 _ rfl;(with_reducible repeat (first|refine zbN ?_ _|refine zbD ?_|refine zbA ?_ _));refine blk_put (cs:=#[.int .i64 0,.int .i64 0,.int .i64 0,.int .i64 0,.int .i64 a0,.int .i64 0,.slice none 0 0]) ?_ 5 _ rfl;(with_reducible repeat (first|refine zbN ?_ _|refine zbD ?_|refine zbA ?_ _));refine blk_put (cs:=#[.int .i64 0,.int .i64 0,.int .i64 0,.int .i64 0,.int .i64 0,.int .i64 0,.slice none 0 0]) ?_ 4 _ rfl;(with_reducible repeat (first|refine zbN ?_ _|refine zbD ?_|refine zbA ?_ _));refine blk_put (cs:=#[.int .i64 0,.int .i64 0,.int .i64 0,.int .i64 0,.int .i64 0,.int .i64 0,.slice none 0 0]) ?_ 3 _ rfl;(with_reducible repeat (first|refine zbN ?_ _|refine zbD ?_|refine zbA ?_ _));refine blk_put (cs:=#[.int .i64 0,.int .i64 0,.int .i64 0,.int .i64 0,.int .i64 0,.int .i64 0,.slice none 0 0]) ?_ 2 _ rfl;(with_reducible repeat (first|refine zbN ?_ _|refine zbD ?_|refine zbA ?_ _));refine blk_put (cs:=#[.int .i64 0,.int .i64 0,.int .i64 0,.int .i64 0,.int .i64 0,.int .i64 0,.slice none 0 0]) ?_ 1 _ rfl;(with_reducible repeat (first|refine zbN ?_ _|refine zbD ?_|refine zbA ?_ _));refine blk_put (cs:=#[.int .i64 0,.int .i64 0,.int .i64 0,.int .i64 0,.int .i64 0,.int .i64 0,.slice none 0 0]) ?_ 0 _ rfl;(with_reducible repeat (first|refine zbN ?_ _|refine zbD ?_|refine zbA ?_ _));exact BK349.out) Try.underlying24 rfl (by kernel_rfl)) rfl ?_
  exact ⟨_,ze_,zr_,zb_⟩
 ·rw [if_neg c3] at H
  have c3b0:(t351 == 0)=false:=beq_eq_false_iff_ne.mpr c3
  have c3b1:(t351 != 0)=true:=bne_iff_ne.mpr c3
  simp only [Option.some.injEq,Prod.mk.injEq] at H
  obtain ⟨rfl,rfl,rfl,rfl,rfl,rfl,rfl⟩:=H
  go_enter Try.func18,Try.ntmps18
  go_wp2_with (first|((with_reducible refine gate_dst (N:=2) rfl ?_);refine zbx 2 #[.int .i64 0,.int .i64 0,.int .i64 0,.int .i64 0,.int .i64 0,.int .i64 0,.slice none 0 0] 24 ?_;intro gb349 hg w11 hbox hb;have n0_:=zkH HB hb;have n1_:=zm (hbox);have n2_:=zkG HB hg;have n3_:=zkG HB hg;clear HB;have HB:=n0_;have BK349:=n1_;have GW349:=n2_;have GE349:=n3_;clear n0_ n1_ n2_ n3_;clear hb hbox hg)|((with_reducible refine gate_dst (N:=3) rfl ?_);refine zbx 3 #[.int .i64 0,.int .i64 0,.int .i64 0,.int .i64 0,.int .i64 0,.int .i64 0,.slice none 0 0] 24 ?_;intro gb350 hg w12 hbox hb;have n0_:=zkB BK349 hb;have n1_:=zkH HB hb;have n2_:=zm (hbox);have n3_:=zkG HB hg;have n4_:=zkG HB hg;have n5_:=zkN BK349 hg;have n6_:=zkM BK349 hg;clear BK349 HB;have BK349:=n0_;have HB:=n1_;have BK350:=n2_;have GW350:=n3_;have GE350:=n4_;have NB349_350:=n5_;have NB350_349:=n6_;clear n0_ n1_ n2_ n3_ n4_ n5_ n6_;clear hb hbox hg;have hnb13:=NB350_349.out;have hnc13:=NB349_350.out;obtain ⟨hcz14_0,hcz14_1,hcz14_2,hcz14_3,hcz14_4,hcz14_5,hcz14_6,hfz14_0,hfz14_1,hfz14_2,hfz14_3,hfz14_4,hfz14_5,hfz14_6⟩:=zc7 BK350.out)|((with_reducible refine gate_callee (f:=15) rfl ?_);refine goesL_ (some 7) rfl rfl Try.func15 (by kernel_rfl) rfl #[.agg #[.int .i64 0,.int .i64 0,.int .i64 0,.int .i64 0,.int .i64 a0,.int .i64 0,.slice none 0 0]] rfl (by (try simp only [List.map_toArray,List.map_cons,List.map_nil]);first|done|rfl|(simp only [List.length_drop,List.length_take];rfl)) ?_;(refine (slipwayref14_Check.calls k 0 0 0 0 a0 0 _ _ ([]:List (S51)) t351 _ ?side1 ?side2 A2.out).mono ?_);(case side1=>exact Kd.C_nil _ _);(case side2=>exact Nat.le_refl _);rintro e w15 ⟨rfl,hb⟩;refine ⟨_,rfl,?_⟩;have n0_:=zm (zbB (g:=gb349) (o:=.cells #[.int .i64 0,.int .i64 0,.int .i64 0,.int .i64 0,.int .i64 0,.int .i64 0,.slice none 0 0] 24 (0,0)) (by (with_reducible repeat (first|refine zbN ?_ _|refine zbD ?_|refine zbA ?_ _));refine blk_far ?_ NB349_350.out _;(with_reducible repeat (first|refine zbN ?_ _|refine zbD ?_|refine zbA ?_ _));refine blk_far ?_ NB349_350.out _;(with_reducible repeat (first|refine zbN ?_ _|refine zbD ?_|refine zbA ?_ _));refine blk_far ?_ NB349_350.out _;(with_reducible repeat (first|refine zbN ?_ _|refine zbD ?_|refine zbA ?_ _));refine blk_far ?_ NB349_350.out _;(with_reducible repeat (first|refine zbN ?_ _|refine zbD ?_|refine zbA ?_ _));refine blk_far ?_ NB349_350.out _;(with_reducible repeat (first|refine zbN ?_ _|refine zbD ?_|refine zbA ?_ _));refine blk_far ?_ NB349_350.out _;(with_reducible repeat (first|refine zbN ?_ _|refine zbD ?_|refine zbA ?_ _));refine blk_far ?_ NB349_350.out _;(with_reducible repeat (first|refine zbN ?_ _|refine zbD ?_|refine zbA ?_ _));exact BK349.out) hb);have n1_:=zm (zbB (g:=gb350) (o:=.cells #[.int .i64 0,.int .i64 0,.int .i64 0,.int .i64 0,.int .i64 a0,.int .i64 0,.slice none 0 0] 24 (0,0)) (by (with_reducible repeat (first|refine zbN ?_ _|refine zbD ?_|refine zbA ?_ _));refine blk_put (cs:=#[.int .i64 0,.int .i64 0,.int .i64 0,.int .i64 0,.int .i64 a0,.int .i64 0,.slice none 0 0]) ?_ 6 _ rfl;(with_reducible repeat (first|refine zbN ?_ _|refine zbD ?_|refine zbA ?_ _));refine blk_put (cs:=#[.int .i64 0,.int .i64 0,.int .i64 0,.int .i64 0,.int .i64 a0,.int .i64 0,.slice none 0 0]) ?_ 5 _ rfl;(with_reducible repeat (first|refine zbN ?_ _|refine zbD ?_|refine zbA ?_ _));refine blk_put (cs:=#[.int .i64 0,.int .i64 0,.int .i64 0,.int .i64 0,.int .i64 0,.int .i64 0,.slice none 0 0]) ?_ 4 _ rfl;(with_reducible repeat (first|refine zbN ?_ _|refine zbD ?_|refine zbA ?_ _));refine blk_put (cs:=#[.int .i64 0,.int .i64 0,.int .i64 0,.int .i64 0,.int .i64 0,.int .i64 0,.slice none 0 0]) ?_ 3 _ rfl;(with_reducible repeat (first|refine zbN ?_ _|refine zbD ?_|refine zbA ?_ _));refine blk_put (cs:=#[.int .i64 0,.int .i64 0,.int .i64 0,.int .i64 0,.int .i64 0,.int .i64 0,.slice none 0 0]) ?_ 2 _ rfl;(with_reducible repeat (first|refine zbN ?_ _|refine zbD ?_|refine zbA ?_ _));refine blk_put (cs:=#[.int .i64 0,.int .i64 0,.int .i64 0,.int .i64 0,.int .i64 0,.int .i64 0,.slice none 0 0]) ?_ 1 _ rfl;(with_reducible repeat (first|refine zbN ?_ _|refine zbD ?_|refine zbA ?_ _));refine blk_put (cs:=#[.int .i64 0,.int .i64 0,.int .i64 0,.int .i64 0,.int .i64 0,.int .i64 0,.slice none 0 0]) ?_ 0 _ rfl;(with_reducible repeat (first|refine zbN ?_ _|refine zbD ?_|refine zbA ?_ _));exact BK350.out) hb);have n2_:=zkH HB hb;clear BK349 BK350 HB;have BK349:=n0_;have BK350:=n1_;have HB:=n2_;clear n0_ n1_ n2_;(try clear hb);(try clear hb2);(try clear hk);(try clear hi);obtain ⟨hcz16_0,hcz16_1,hcz16_2,hcz16_3,hcz16_4,hcz16_5,hcz16_6,hfz16_0,hfz16_1,hfz16_2,hfz16_3,hfz16_4,hfz16_5,hfz16_6⟩:=zc7 BK349.out))
  refine bodyPost_ret (results_cell_row rfl _ _ gb349 24 #[.int .i64 0,.int .i64 0,.int .i64 0,.int .i64 0,.int .i64 0,.int .i64 0,.slice none 0 0] (0,0) _ rfl (by (with_reducible repeat (first|refine zbN ?_ _|refine zbD ?_|refine zbA ?_ _));refine blk_put (cs:=#[.int .i64 0,.int .i64 0,.int .i64 0,.int .i64 0,.int .i64 0,.int .i64 0,.slice none 0 0]) ?_ 6 _ rfl;(with_reducible repeat (first|refine zbN ?_ _|refine zbD ?_|refine zbA ?_ _));refine blk_put (cs:=#[.int .i64 0,.int .i64 0,.int .i64 0,.int .i64 0,.int .i64 0,.int .i64 0,.slice none 0 0]) ?_ 5 _ rfl;(with_reducible repeat (first|refine zbN ?_ _|refine zbD ?_|refine zbA ?_ _));refine blk_put (cs:=#[.int .i64 0,.int .i64 0,.int .i64 0,.int .i64 0,.int .i64 0,.int .i64 0,.slice none 0 0]) ?_ 4 _ rfl;(with_reducible repeat (first|refine zbN ?_ _|refine zbD ?_|refine zbA ?_ _));refine blk_put (cs:=#[.int .i64 0,.int .i64 0,.int .i64 0,.int .i64 0,.int .i64 0,.int .i64 0,.slice none 0 0]) ?_ 3 _ rfl;(with_reducible repeat (first|refine zbN ?_ _|refine zbD ?_|refine zbA ?_ _));refine blk_put (cs:=#[.int .i64 0,.int .i64 0,.int .i64 0,.int .i64 0,.int .i64 0,.int .i64 0,.slice none 0 0]) ?_ 2 _ rfl;(with_reducible repeat (first|refine zbN ?_ _|refine zbD ?_|refine zbA ?_ _));refine blk_put (cs:=#[.int .i64 0,.int .i64 0,.int .i64 0,.int .i64 0,.int .i64 0,.int .i64 0,.slice none 0 0]) ?_ 1 _ rfl;(with_reducible repeat (first|refine zbN ?_ _|refine zbD ?_|refine zbA ?_ _));refine blk_put (cs:=#[.int .i64 0,.int .i64 0,.int .i64 0,.int .i64 0,.int .i64 0,.int .i64 0,.slice none 0 0]) ?_ 0 _ rfl;(with_reducible repeat (first|refine zbN ?_ _|refine zbD ?_|refine zbA ?_ _));exact BK349.out) Try.underlying24 rfl (by kernel_rfl)) rfl ?_
  exact ⟨_,ze_,zr_,zb_⟩
def inode_Blocks.f (a0:Int):Option (Int):=if a0≤0 then (some 0) else (some (wrap64 ((wrap64 (Int.tdiv (wrap64 (a0 - 1)) 256)) + 1)))
set_option maxHeartbeats 8000000 in
set_option maxRecDepth 100000 in
theorem inode_Blocks.calls (a0:Int) (r:Int) (w:World) (h:inode_Blocks.f a0=some r) :
  Calls Try.prog 19 #[.int .i64 a0] w fun e w'=>e=.returned (.int .i64 r)∧Drawn0 w w':=by
 have H:(if a0≤0 then (some 0) else (some (wrap64 ((wrap64 (Int.tdiv (wrap64 (a0 - 1)) 256)) + 1))))=some r:=h
 clear h
 by_cases c2:a0≤0
 ·rw [if_pos c2] at H
  have c2b0:decide (a0≤0)=true:=decide_eq_true c2
  clear c2
  obtain rfl:=Option.some.inj H
  go_enter Try.func19,Try.ntmps19
  go_wp2
  go_ret
  exact ⟨by first|rfl|(simp;done)|(simp [*];done),by repeat (first|exact Drawn0.refl _|apply Drawn0.step)⟩
 ·rw [if_neg c2] at H
  have c2b0:decide (a0≤0)=false:=decide_eq_false c2
  clear c2
  obtain rfl:=Option.some.inj H
  go_enter Try.func19,Try.ntmps19
  go_wp2
  go_ret
  exact ⟨by first|rfl|(simp;done)|(simp [*];done),by repeat (first|exact Drawn0.refl _|apply Drawn0.step)⟩
end Go.Proofs.Ytjoojmodghpimaa.Print
end
section
namespace Go.Proofs.Ytjoojmodghpimaa.Print
open Go.RowKit Go.Proofs.YtjoojmodghpimaaW.PrintWords Go.Proofs.YtjoojmodghpimaaW.PrintLast Go.Proofs.YtjoojmodghpimaaW.PrintMore
attribute [local go_sem] max2_int min2_int max_two min_two max_three min_three max_four min_four   -- for this text's walks alone
attribute [local go_sem ↓] Go.Proofs.Ytjoojmodghpimaa.Sem.isSome_setCell
attribute [local go_sem] Go.Instr.field Go.asAgg
set_option linter.unusedVariables false
set_option linter.unusedSimpArgs false
def slipwayref14_Blocks.f (a0:Int):Option (Int):=if a0≤0 then (some 0) else (some (wrap64 ((wrap64 (Int.tdiv (wrap64 (a0 - 1)) 256)) + 1)))
set_option maxHeartbeats 8000000 in
set_option maxRecDepth 100000 in
theorem slipwayref14_Blocks.calls (a0:Int) (r:Int) (w:World) (h:slipwayref14_Blocks.f a0=some r) :
  Calls Try.prog 20 #[.int .i64 a0] w fun e w'=>e=.returned (.int .i64 r)∧Drawn0 w w':=by
 have H:(if a0≤0 then (some 0) else (some (wrap64 ((wrap64 (Int.tdiv (wrap64 (a0 - 1)) 256)) + 1))))=some r:=h
 clear h
 by_cases c2:a0≤0
 ·rw [if_pos c2] at H
  have c2b0:decide (a0≤0)=true:=decide_eq_true c2
  clear c2
  obtain rfl:=Option.some.inj H
  go_enter Try.func20,Try.ntmps20
  go_wp2
  go_ret
  exact ⟨by first|rfl|(simp;done)|(simp [*];done),by repeat (first|exact Drawn0.refl _|apply Drawn0.step)⟩
 ·rw [if_neg c2] at H
  have c2b0:decide (a0≤0)=false:=decide_eq_false c2
  clear c2
  obtain rfl:=Option.some.inj H
  go_enter Try.func20,Try.ntmps20
  go_wp2
  go_ret
  exact ⟨by first|rfl|(simp;done)|(simp [*];done),by repeat (first|exact Drawn0.refl _|apply Drawn0.step)⟩
end Go.Proofs.Ytjoojmodghpimaa.Print
end
section
namespace Go.Proofs.Ytjoojmodghpimaa.Print
open Go.RowKit Go.Proofs.YtjoojmodghpimaaW.PrintWords Go.Proofs.YtjoojmodghpimaaW.PrintLast Go.Proofs.YtjoojmodghpimaaW.PrintMore
attribute [local go_sem] max2_int min2_int max_two min_two max_three min_three max_four min_four   -- for this text's walks alone
attribute [local go_sem ↓] Go.Proofs.Ytjoojmodghpimaa.Sem.isSome_setCell
attribute [local go_sem] Go.Instr.field Go.asAgg
set_option linter.unusedVariables false
set_option linter.unusedSimpArgs false
def slipwaylaw14_InodeMakes.f (k:Nat) (a0_0:Int) (a0_1:Int) (a0_2:Int) (a0_3:Int) (a0_4:Int) (a0_5:Int) (l0_6:List (S51)) (a1_0:Int) (a1_1:Int) (a1_2:Int) (a1_3:Int) (a1_4:Int) (a1_5:Int) (l1_6:List (S51)) (l2:List Int):Option (Bool):=(slipwaylaw14_live.f k).bind fun t354=>(if t354=true then ((inode_Encode.f k a0_0 a0_1 a0_2 a0_3 a0_4 a0_5 l0_6).bind fun bt355=>((slipwayref14_Encode.f k a0_0 a0_1 a0_2 a0_3 a0_4 a0_5 l0_6).bind fun bt359=>((inode_Decode.f k l2).bind fun bt363=>((slipwayref14_Decode.f k l2).bind fun bt374=>((bytes_Equal.f bt355.1 bt359.1).bind fun t385=>(if t385=true then (if bt355.2=bt359.2 then ((slipwayref14_Same.f k bt363.1 bt363.2.1 bt363.2.2.1 bt363.2.2.2.1 bt363.2.2.2.2.1 bt363.2.2.2.2.2.1 bt363.2.2.2.2.2.2.1 bt374.1 bt374.2.1 bt374.2.2.1 bt374.2.2.2.1 bt374.2.2.2.2.1 bt374.2.2.2.2.2.1 bt374.2.2.2.2.2.2.1).bind fun t386=>(if t386=true then (if bt363.2.2.2.2.2.2.2=bt374.2.2.2.2.2.2.2 then ((inode_Check.f k a0_0 a0_1 a0_2 a0_3 a0_4 a0_5 l0_6).bind fun t387=>((slipwayref14_Check.f k a0_0 a0_1 a0_2 a0_3 a0_4 a0_5 l0_6).bind fun t388=>(if t387=t388 then ((inode_Same.f k a0_0 a0_1 a0_2 a0_3 a0_4 a0_5 l0_6 a1_0 a1_1 a1_2 a1_3 a1_4 a1_5 l1_6).bind fun t389=>((slipwayref14_Same.f k a0_0 a0_1 a0_2 a0_3 a0_4 a0_5 l0_6 a1_0 a1_1 a1_2 a1_3 a1_4 a1_5 l1_6).bind fun t390=>(if (t389 == t390)=true then ((inode_Free.f a0_4).bind fun bt391=>((slipwayref14_Free.f k a0_4).bind fun bt400=>((slipwayref14_Same.f k bt391.1 bt391.2.1 bt391.2.2.1 bt391.2.2.2.1 bt391.2.2.2.2.1 bt391.2.2.2.2.2.1 bt391.2.2.2.2.2.2 bt400.1 bt400.2.1 bt400.2.2.1 bt400.2.2.2.1 bt400.2.2.2.2.1 bt400.2.2.2.2.2.1 bt400.2.2.2.2.2.2).bind fun t409=>(if t409=true then ((inode_Blocks.f a0_2).bind fun t410=>((slipwayref14_Blocks.f a0_2).bind fun t411=>(some (t410 == t411)))) else (none))))) else (none)))) else (none)))) else (none)) else (none))) else (none)) else (none))))))) else (none))
def slipwaylaw14_InodeMakes.T7:Bool × List (List Nat × List Nat):=(true,[([],[]),([],[]),([0,1],[0,1]),([2,2],[2]),([3],[3]),([3],[3]),([4,5,3],[3,4,5]),([3,6],[3,6]),([7,3],[7]),([8],[8]),([8],[8]),([9,10,8,8],[8,9,10]),([8,11],[8,11]),([12,11],[12]),([13],[13]),([13],[13]),([14,15,13],[13,14,15]),([13,16],[13,16]),([17,13],[17]),([18],[18]),([19,18,18],[18,19]),([18],[18]),([21,20,18],[18,21]),([20,22,18],[18,20,22]),([18,23],[18,23]),([24,22],[24]),([25],[25]),([25],[25]),([26,27,25,25],[25,26,27]),([25],[25]),([25],[25]),([29,30,28,25],[25,29,30]),([28,31,25],[25,28,31]),([25,32],[25,32]),([33,31],[33]),([34],[34]),([35,34],[34,35]),([36,34,34],[34,36]),([34],[34]),([38,34],[34,38]),([39,37,34],[34,39]),([37,40,40,34],[34,37,40]),([34,41],[34,41]),([42,41],[42]),([43],[43]),([44,43],[43,44]),([45,43,43],[43,45]),([43],[43]),([47,43],[43,47]),([48,46,43],[43,48]),([46,49,43],[43,46,49]),([43,50],[43,50]),([51,49,0,1,2,3,4,5,6,7,8,9,10,11,12,13,14,15,16,17,18,19,20,21,22,23,24,25,26,27,28,29,30,31,32,33,34,35,36,37,38,39,40,41,42,43,44,45,46,47,48,49,50,51],[51])])
def slipwaylaw14_InodeMakes.B7:List Nat:=[0,0,3,7,15,15,63,127,255,511,511,2047,4095,8191,16383,16383,65535,131071,262143,524287,1048575,524287,4194303,8388607,16777215,33554431,67108863,67108863,268435455,67108863,67108863,2147483647,4294967295,8589934591,17179869183,34359738367,68719476735,137438953471,34359738367,309237645311,1099511627775,2199023255551,4398046511103,8796093022207,17592186044415,35184372088831,70368744177663,17592186044415,158329674399743,562949953421311,1125899906842623,2251799813685247,4503599627370495]
theorem slipwaylaw14_InodeMakes.tab7:rtab .any (opsOf Try.f4 7)=slipwaylaw14_InodeMakes.T7:=by kernel_rfl
theorem slipwaylaw14_InodeMakes.bits7:waitsOk slipwaylaw14_InodeMakes.T7.2 slipwaylaw14_InodeMakes.B7=true:=by kernel_rfl
set_option maxHeartbeats 8000000 in
set_option maxRecDepth 100000 in
theorem slipwaylaw14_InodeMakes.calls (k:Nat) (a0_0:Int) (a0_1:Int) (a0_2:Int) (a0_3:Int) (a0_4:Int) (a0_5:Int) (A0_6:Option Addr) (c0_6:Nat) (l0_6:List (S51)) (a1_0:Int) (a1_1:Int) (a1_2:Int) (a1_3:Int) (a1_4:Int) (a1_5:Int) (A1_6:Option Addr) (c1_6:Nat) (l1_6:List (S51)) (A2:Option Addr) (c2:Nat) (l2:List Int) (r:Bool) (w:World) (hr0_6:Kd.C k51 w A0_6 l0_6.length l0_6) (hc0_6:l0_6.length≤c0_6) (hr1_6:Kd.C k51 w A1_6 l1_6.length l1_6) (hc1_6:l1_6.length≤c1_6) (hr2:Kd.C (Kd.int .u8) w A2 l2.length l2) (hc2:l2.length≤c2) (h:slipwaylaw14_InodeMakes.f k a0_0 a0_1 a0_2 a0_3 a0_4 a0_5 l0_6 a1_0 a1_1 a1_2 a1_3 a1_4 a1_5 l1_6 l2=some r) :
  Calls Try.prog 4 #[.agg #[.int .i64 a0_0,.int .i64 a0_1,.int .i64 a0_2,.int .i64 a0_3,.int .i64 a0_4,.int .i64 a0_5,.slice A0_6 l0_6.length c0_6],.agg #[.int .i64 a1_0,.int .i64 a1_1,.int .i64 a1_2,.int .i64 a1_3,.int .i64 a1_4,.int .i64 a1_5,.slice A1_6 l1_6.length c1_6],.slice A2 l2.length c2] w fun e w'=>e=.returned (.bool r)∧Below w.heap.size w w':=by
 have hu24:=Try.underlying24
 have HR0_6:=zm hr0_6
 have HC0_6:=zm hc0_6
 clear hr0_6 hc0_6
 have HR1_6:=zm hr1_6
 have HC1_6:=zm hc1_6
 clear hr1_6 hc1_6
 have HR2:=zm hr2
 have HC2:=zm hc2
 clear hr2 hc2
 have HB:=zm (Below.refl w.heap.size w)
 have H:((slipwaylaw14_live.f k).bind fun t354=>(if t354=true then ((inode_Encode.f k a0_0 a0_1 a0_2 a0_3 a0_4 a0_5 l0_6).bind fun bt355=>((slipwayref14_Encode.f k a0_0 a0_1 a0_2 a0_3 a0_4 a0_5 l0_6).bind fun bt359=>((inode_Decode.f k l2).bind fun bt363=>((slipwayref14_Decode.f k l2).bind fun bt374=>((bytes_Equal.f bt355.1 bt359.1).bind fun t385=>(if t385=true then (if bt355.2=bt359.2 then ((slipwayref14_Same.f k bt363.1 bt363.2.1 bt363.2.2.1 bt363.2.2.2.1 bt363.2.2.2.2.1 bt363.2.2.2.2.2.1 bt363.2.2.2.2.2.2.1 bt374.1 bt374.2.1 bt374.2.2.1 bt374.2.2.2.1 bt374.2.2.2.2.1 bt374.2.2.2.2.2.1 bt374.2.2.2.2.2.2.1).bind fun t386=>(if t386=true then (if bt363.2.2.2.2.2.2.2=bt374.2.2.2.2.2.2.2 then ((inode_Check.f k a0_0 a0_1 a0_2 a0_3 a0_4 a0_5 l0_6).bind fun t387=>((slipwayref14_Check.f k a0_0 a0_1 a0_2 a0_3 a0_4 a0_5 l0_6).bind fun t388=>(if t387=t388 then ((inode_Same.f k a0_0 a0_1 a0_2 a0_3 a0_4 a0_5 l0_6 a1_0 a1_1 a1_2 a1_3 a1_4 a1_5 l1_6).bind fun t389=>((slipwayref14_Same.f k a0_0 a0_1 a0_2 a0_3 a0_4 a0_5 l0_6 a1_0 a1_1 a1_2 a1_3 a1_4 a1_5 l1_6).bind fun t390=>(if (t389 == t390)=true then ((inode_Free.f a0_4).bind fun bt391=>((slipwayref14_Free.f k a0_4).bind fun bt400=>((slipwayref14_Same.f k bt391.1 bt391.2.1 bt391.2.2.1 bt391.2.2.2.1 bt391.2.2.2.2.1 bt391.2.2.2.2.2.1 bt391.2.2.2.2.2.2 bt400.1 bt400.2.1 bt400.2.2.1 bt400.2.2.2.1 bt400.2.2.2.2.1 bt400.2.2.2.2.2.1 bt400.2.2.2.2.2.2).bind fun t409=>(if t409=true then ((inode_Blocks.f a0_2).bind fun t410=>((slipwayref14_Blocks.f a0_2).bind fun t411=>(some (t410 == t411)))) else (none))))) else (none)))) else (none)))) else (none)) else (none))) else (none)) else (none))))))) else (none)))=some r:=h
 clear h
 replace H:=Option.bind_eq_some_iff.mp H
 obtain ⟨t354,A40,H⟩:=H
 replace H:(if t354=true then ((inode_Encode.f k a0_0 a0_1 a0_2 a0_3 a0_4 a0_5 l0_6).bind fun bt355=>((slipwayref14_Encode.f k a0_0 a0_1 a0_2 a0_3 a0_4 a0_5 l0_6).bind fun bt359=>((inode_Decode.f k l2).bind fun bt363=>((slipwayref14_Decode.f k l2).bind fun bt374=>((bytes_Equal.f bt355.1 bt359.1).bind fun t385=>(if t385=true then (if bt355.2=bt359.2 then ((slipwayref14_Same.f k bt363.1 bt363.2.1 bt363.2.2.1 bt363.2.2.2.1 bt363.2.2.2.2.1 bt363.2.2.2.2.2.1 bt363.2.2.2.2.2.2.1 bt374.1 bt374.2.1 bt374.2.2.1 bt374.2.2.2.1 bt374.2.2.2.2.1 bt374.2.2.2.2.2.1 bt374.2.2.2.2.2.2.1).bind fun t386=>(if t386=true then (if bt363.2.2.2.2.2.2.2=bt374.2.2.2.2.2.2.2 then ((inode_Check.f k a0_0 a0_1 a0_2 a0_3 a0_4 a0_5 l0_6).bind fun t387=>((slipwayref14_Check.f k a0_0 a0_1 a0_2 a0_3 a0_4 a0_5 l0_6).bind fun t388=>(if t387=t388 then ((inode_Same.f k a0_0 a0_1 a0_2 a0_3 a0_4 a0_5 l0_6 a1_0 a1_1 a1_2 a1_3 a1_4 a1_5 l1_6).bind fun t389=>((slipwayref14_Same.f k a0_0 a0_1 a0_2 a0_3 a0_4 a0_5 l0_6 a1_0 a1_1 a1_2 a1_3 a1_4 a1_5 l1_6).bind fun t390=>(if (t389 == t390)=true then ((inode_Free.f a0_4).bind fun bt391=>((slipwayref14_Free.f k a0_4).bind fun bt400=>((slipwayref14_Same.f k bt391.1 bt391.2.1 bt391.2.2.1 bt391.2.2.2.1 bt391.2.2.2.2.1 bt391.2.2.2.2.2.1 bt391.2.2.2.2.2.2 bt400.1 bt400.2.1 bt400.2.2.1 bt400.2.2.2.1 bt400.2.2.2.2.1 bt400.2.2.2.2.2.1 bt400.2.2.2.2.2.2).bind fun t409=>(if t409=true then ((inode_Blocks.f a0_2).bind fun t410=>((slipwayref14_Blocks.f a0_2).bind fun t411=>(some (t410 == t411)))) else (none))))) else (none)))) else (none)))) else (none)) else (none))) else (none)) else (none))))))) else (none))=some r:=H
 have A4:=zm A40
 clear A40
 by_cases c5:t354=true
 ·subst c5
  have H1:((inode_Encode.f k a0_0 a0_1 a0_2 a0_3 a0_4 a0_5 l0_6).bind fun bt355=>((slipwayref14_Encode.f k a0_0 a0_1 a0_2 a0_3 a0_4 a0_5 l0_6).bind fun bt359=>((inode_Decode.f k l2).bind fun bt363=>((slipwayref14_Decode.f k l2).bind fun bt374=>((bytes_Equal.f bt355.1 bt359.1).bind fun t385=>(if t385=true then (if bt355.2=bt359.2 then ((slipwayref14_Same.f k bt363.1 bt363.2.1 bt363.2.2.1 bt363.2.2.2.1 bt363.2.2.2.2.1 bt363.2.2.2.2.2.1 bt363.2.2.2.2.2.2.1 bt374.1 bt374.2.1 bt374.2.2.1 bt374.2.2.2.1 bt374.2.2.2.2.1 bt374.2.2.2.2.2.1 bt374.2.2.2.2.2.2.1).bind fun t386=>(if t386=true then (if bt363.2.2.2.2.2.2.2=bt374.2.2.2.2.2.2.2 then ((inode_Check.f k a0_0 a0_1 a0_2 a0_3 a0_4 a0_5 l0_6).bind fun t387=>((slipwayref14_Check.f k a0_0 a0_1 a0_2 a0_3 a0_4 a0_5 l0_6).bind fun t388=>(if t387=t388 then ((inode_Same.f k a0_0 a0_1 a0_2 a0_3 a0_4 a0_5 l0_6 a1_0 a1_1 a1_2 a1_3 a1_4 a1_5 l1_6).bind fun t389=>((slipwayref14_Same.f k a0_0 a0_1 a0_2 a0_3 a0_4 a0_5 l0_6 a1_0 a1_1 a1_2 a1_3 a1_4 a1_5 l1_6).bind fun t390=>(if (t389 == t390)=true then ((inode_Free.f a0_4).bind fun bt391=>((slipwayref14_Free.f k a0_4).bind fun bt400=>((slipwayref14_Same.f k bt391.1 bt391.2.1 bt391.2.2.1 bt391.2.2.2.1 bt391.2.2.2.2.1 bt391.2.2.2.2.2.1 bt391.2.2.2.2.2.2 bt400.1 bt400.2.1 bt400.2.2.1 bt400.2.2.2.1 bt400.2.2.2.2.1 bt400.2.2.2.2.2.1 bt400.2.2.2.2.2.2).bind fun t409=>(if t409=true then ((inode_Blocks.f a0_2).bind fun t410=>((slipwayref14_Blocks.f a0_2).bind fun t411=>(some (t410 == t411)))) else (none))))) else (none)))) else (none)))) else (none)) else (none))) else (none)) else (none)))))))=some r:=by rw [if_pos rfl] at H;exact H
  clear H
  have H:=H1
  clear H1
  replace H:=Option.bind_eq_some_iff.mp H
  obtain ⟨⟨t355,t358⟩,A60,H⟩:=H
  replace H:((slipwayref14_Encode.f k a0_0 a0_1 a0_2 a0_3 a0_4 a0_5 l0_6).bind fun bt359=>((inode_Decode.f k l2).bind fun bt363=>((slipwayref14_Decode.f k l2).bind fun bt374=>((bytes_Equal.f t355 bt359.1).bind fun t385=>(if t385=true then (if t358=bt359.2 then ((slipwayref14_Same.f k bt363.1 bt363.2.1 bt363.2.2.1 bt363.2.2.2.1 bt363.2.2.2.2.1 bt363.2.2.2.2.2.1 bt363.2.2.2.2.2.2.1 bt374.1 bt374.2.1 bt374.2.2.1 bt374.2.2.2.1 bt374.2.2.2.2.1 bt374.2.2.2.2.2.1 bt374.2.2.2.2.2.2.1).bind fun t386=>(if t386=true then (if bt363.2.2.2.2.2.2.2=bt374.2.2.2.2.2.2.2 then ((inode_Check.f k a0_0 a0_1 a0_2 a0_3 a0_4 a0_5 l0_6).bind fun t387=>((slipwayref14_Check.f k a0_0 a0_1 a0_2 a0_3 a0_4 a0_5 l0_6).bind fun t388=>(if t387=t388 then ((inode_Same.f k a0_0 a0_1 a0_2 a0_3 a0_4 a0_5 l0_6 a1_0 a1_1 a1_2 a1_3 a1_4 a1_5 l1_6).bind fun t389=>((slipwayref14_Same.f k a0_0 a0_1 a0_2 a0_3 a0_4 a0_5 l0_6 a1_0 a1_1 a1_2 a1_3 a1_4 a1_5 l1_6).bind fun t390=>(if (t389 == t390)=true then ((inode_Free.f a0_4).bind fun bt391=>((slipwayref14_Free.f k a0_4).bind fun bt400=>((slipwayref14_Same.f k bt391.1 bt391.2.1 bt391.2.2.1 bt391.2.2.2.1 bt391.2.2.2.2.1 bt391.2.2.2.2.2.1 bt391.2.2.2.2.2.2 bt400.1 bt400.2.1 bt400.2.2.1 bt400.2.2.2.1 bt400.2.2.2.2.1 bt400.2.2.2.2.2.1 bt400.2.2.2.2.2.2).bind fun t409=>(if t409=true then ((inode_Blocks.f a0_2).bind fun t410=>((slipwayref14_Blocks.f a0_2).bind fun t411=>(some (t410 == t411)))) else (none))))) else (none)))) else (none)))) else (none)) else (none))) else (none)) else (none))))))=some r:=H
  have A6:=zm A60
  clear A60
  replace H:=Option.bind_eq_some_iff.mp H
  obtain ⟨⟨t359,t362⟩,A70,H⟩:=H
  replace H:((inode_Decode.f k l2).bind fun bt363=>((slipwayref14_Decode.f k l2).bind fun bt374=>((bytes_Equal.f t355 t359).bind fun t385=>(if t385=true then (if t358=t362 then ((slipwayref14_Same.f k bt363.1 bt363.2.1 bt363.2.2.1 bt363.2.2.2.1 bt363.2.2.2.2.1 bt363.2.2.2.2.2.1 bt363.2.2.2.2.2.2.1 bt374.1 bt374.2.1 bt374.2.2.1 bt374.2.2.2.1 bt374.2.2.2.2.1 bt374.2.2.2.2.2.1 bt374.2.2.2.2.2.2.1).bind fun t386=>(if t386=true then (if bt363.2.2.2.2.2.2.2=bt374.2.2.2.2.2.2.2 then ((inode_Check.f k a0_0 a0_1 a0_2 a0_3 a0_4 a0_5 l0_6).bind fun t387=>((slipwayref14_Check.f k a0_0 a0_1 a0_2 a0_3 a0_4 a0_5 l0_6).bind fun t388=>(if t387=t388 then ((inode_Same.f k a0_0 a0_1 a0_2 a0_3 a0_4 a0_5 l0_6 a1_0 a1_1 a1_2 a1_3 a1_4 a1_5 l1_6).bind fun t389=>((slipwayref14_Same.f k a0_0 a0_1 a0_2 a0_3 a0_4 a0_5 l0_6 a1_0 a1_1 a1_2 a1_3 a1_4 a1_5 l1_6).bind fun t390=>(if (t389 == t390)=true then ((inode_Free.f a0_4).bind fun bt391=>((slipwayref14_Free.f k a0_4).bind fun bt400=>((slipwayref14_Same.f k bt391.1 bt391.2.1 bt391.2.2.1 bt391.2.2.2.1 bt391.2.2.2.2.1 bt391.2.2.2.2.2.1 bt391.2.2.2.2.2.2 bt400.1 bt400.2.1 bt400.2.2.1 bt400.2.2.2.1 bt400.2.2.2.2.1 bt400.2.2.2.2.2.1 bt400.2.2.2.2.2.2).bind fun t409=>(if t409=true then ((inode_Blocks.f a0_2).bind fun t410=>((slipwayref14_Blocks.f a0_2).bind fun t411=>(some (t410 == t411)))) else (none))))) else (none)))) else (none)))) else (none)) else (none))) else (none)) else (none)))))=some r:=H
  have A7:=zm A70
  clear A70
  replace H:=Option.bind_eq_some_iff.mp H
  obtain ⟨⟨t363,t364,t365,t366,t367,t368,t369,t372⟩,A80,H⟩:=H
  replace H:((slipwayref14_Decode.f k l2).bind fun bt374=>((bytes_Equal.f t355 t359).bind fun t385=>(if t385=true then (if t358=t362 then ((slipwayref14_Same.f k t363 t364 t365 t366 t367 t368 t369 bt374.1 bt374.2.1 bt374.2.2.1 bt374.2.2.2.1 bt374.2.2.2.2.1 bt374.2.2.2.2.2.1 bt374.2.2.2.2.2.2.1).bind fun t386=>(if t386=true then (if t372=bt374.2.2.2.2.2.2.2 then ((inode_Check.f k a0_0 a0_1 a0_2 a0_3 a0_4 a0_5 l0_6).bind fun t387=>((slipwayref14_Check.f k a0_0 a0_1 a0_2 a0_3 a0_4 a0_5 l0_6).bind fun t388=>(if t387=t388 then ((inode_Same.f k a0_0 a0_1 a0_2 a0_3 a0_4 a0_5 l0_6 a1_0 a1_1 a1_2 a1_3 a1_4 a1_5 l1_6).bind fun t389=>((slipwayref14_Same.f k a0_0 a0_1 a0_2 a0_3 a0_4 a0_5 l0_6 a1_0 a1_1 a1_2 a1_3 a1_4 a1_5 l1_6).bind fun t390=>(if (t389 == t390)=true then ((inode_Free.f a0_4).bind fun bt391=>((slipwayref14_Free.f k a0_4).bind fun bt400=>((slipwayref14_Same.f k bt391.1 bt391.2.1 bt391.2.2.1 bt391.2.2.2.1 bt391.2.2.2.2.1 bt391.2.2.2.2.2.1 bt391.2.2.2.2.2.2 bt400.1 bt400.2.1 bt400.2.2.1 bt400.2.2.2.1 bt400.2.2.2.2.1 bt400.2.2.2.2.2.1 bt400.2.2.2.2.2.2).bind fun t409=>(if t409=true then ((inode_Blocks.f a0_2).bind fun t410=>((slipwayref14_Blocks.f a0_2).bind fun t411=>(some (t410 == t411)))) else (none))))) else (none)))) else (none)))) else (none)) else (none))) else (none)) else (none))))=some r:=H
  have A8:=zm A80
  clear A80
  replace H:=Option.bind_eq_some_iff.mp H
  obtain ⟨⟨t374,t375,t376,t377,t378,t379,t380,t383⟩,A90,H⟩:=H
  replace H:((bytes_Equal.f t355 t359).bind fun t385=>(if t385=true then (if t358=t362 then ((slipwayref14_Same.f k t363 t364 t365 t366 t367 t368 t369 t374 t375 t376 t377 t378 t379 t380).bind fun t386=>(if t386=true then (if t372=t383 then ((inode_Check.f k a0_0 a0_1 a0_2 a0_3 a0_4 a0_5 l0_6).bind fun t387=>((slipwayref14_Check.f k a0_0 a0_1 a0_2 a0_3 a0_4 a0_5 l0_6).bind fun t388=>(if t387=t388 then ((inode_Same.f k a0_0 a0_1 a0_2 a0_3 a0_4 a0_5 l0_6 a1_0 a1_1 a1_2 a1_3 a1_4 a1_5 l1_6).bind fun t389=>((slipwayref14_Same.f k a0_0 a0_1 a0_2 a0_3 a0_4 a0_5 l0_6 a1_0 a1_1 a1_2 a1_3 a1_4 a1_5 l1_6).bind fun t390=>(if (t389 == t390)=true then ((inode_Free.f a0_4).bind fun bt391=>((slipwayref14_Free.f k a0_4).bind fun bt400=>((slipwayref14_Same.f k bt391.1 bt391.2.1 bt391.2.2.1 bt391.2.2.2.1 bt391.2.2.2.2.1 bt391.2.2.2.2.2.1 bt391.2.2.2.2.2.2 bt400.1 bt400.2.1 bt400.2.2.1 bt400.2.2.2.1 bt400.2.2.2.2.1 bt400.2.2.2.2.2.1 bt400.2.2.2.2.2.2).bind fun t409=>(if t409=true then ((inode_Blocks.f a0_2).bind fun t410=>((slipwayref14_Blocks.f a0_2).bind fun t411=>(some (t410 == t411)))) else (none))))) else (none)))) else (none)))) else (none)) else (none))) else (none)) else (none)))=some r:=H
  have A9:=zm A90
  clear A90
  replace H:=Option.bind_eq_some_iff.mp H
  obtain ⟨t385,A100,H⟩:=H
  replace H:(if t385=true then (if t358=t362 then ((slipwayref14_Same.f k t363 t364 t365 t366 t367 t368 t369 t374 t375 t376 t377 t378 t379 t380).bind fun t386=>(if t386=true then (if t372=t383 then ((inode_Check.f k a0_0 a0_1 a0_2 a0_3 a0_4 a0_5 l0_6).bind fun t387=>((slipwayref14_Check.f k a0_0 a0_1 a0_2 a0_3 a0_4 a0_5 l0_6).bind fun t388=>(if t387=t388 then ((inode_Same.f k a0_0 a0_1 a0_2 a0_3 a0_4 a0_5 l0_6 a1_0 a1_1 a1_2 a1_3 a1_4 a1_5 l1_6).bind fun t389=>((slipwayref14_Same.f k a0_0 a0_1 a0_2 a0_3 a0_4 a0_5 l0_6 a1_0 a1_1 a1_2 a1_3 a1_4 a1_5 l1_6).bind fun t390=>(if (t389 == t390)=true then ((inode_Free.f a0_4).bind fun bt391=>((slipwayref14_Free.f k a0_4).bind fun bt400=>((slipwayref14_Same.f k bt391.1 bt391.2.1 bt391.2.2.1 bt391.2.2.2.1 bt391.2.2.2.2.1 bt391.2.2.2.2.2.1 bt391.2.2.2.2.2.2 bt400.1 bt400.2.1 bt400.2.2.1 bt400.2.2.2.1 bt400.2.2.2.2.1 bt400.2.2.2.2.2.1 bt400.2.2.2.2.2.2).bind fun t409=>(if t409=true then ((inode_Blocks.f a0_2).bind fun t410=>((slipwayref14_Blocks.f a0_2).bind fun t411=>(some (t410 == t411)))) else (none))))) else (none)))) else (none)))) else (none)) else (none))) else (none)) else (none))=some r:=H
  have A10:=zm A100
  clear A100
  by_cases c11:t385=true
  ·subst c11
   have H1:(if t358=t362 then ((slipwayref14_Same.f k t363 t364 t365 t366 t367 t368 t369 t374 t375 t376 t377 t378 t379 t380).bind fun t386=>(if t386=true then (if t372=t383 then ((inode_Check.f k a0_0 a0_1 a0_2 a0_3 a0_4 a0_5 l0_6).bind fun t387=>((slipwayref14_Check.f k a0_0 a0_1 a0_2 a0_3 a0_4 a0_5 l0_6).bind fun t388=>(if t387=t388 then ((inode_Same.f k a0_0 a0_1 a0_2 a0_3 a0_4 a0_5 l0_6 a1_0 a1_1 a1_2 a1_3 a1_4 a1_5 l1_6).bind fun t389=>((slipwayref14_Same.f k a0_0 a0_1 a0_2 a0_3 a0_4 a0_5 l0_6 a1_0 a1_1 a1_2 a1_3 a1_4 a1_5 l1_6).bind fun t390=>(if (t389 == t390)=true then ((inode_Free.f a0_4).bind fun bt391=>((slipwayref14_Free.f k a0_4).bind fun bt400=>((slipwayref14_Same.f k bt391.1 bt391.2.1 bt391.2.2.1 bt391.2.2.2.1 bt391.2.2.2.2.1 bt391.2.2.2.2.2.1 bt391.2.2.2.2.2.2 bt400.1 bt400.2.1 bt400.2.2.1 bt400.2.2.2.1 bt400.2.2.2.2.1 bt400.2.2.2.2.2.1 bt400.2.2.2.2.2.2).bind fun t409=>(if t409=true then ((inode_Blocks.f a0_2).bind fun t410=>((slipwayref14_Blocks.f a0_2).bind fun t411=>(some (t410 == t411)))) else (none))))) else (none)))) else (none)))) else (none)) else (none))) else (none))=some r:=by rw [if_pos rfl] at H;exact H
   clear H
   have H:=H1
   clear H1
   by_cases c12:t358=t362
   ·rw [if_pos c12] at H
    have c12b0:(t358 == t362)=true:=beq_iff_eq.mpr c12
    have c12b1:(t358 != t362)=false:=bne_eq_false_iff_eq.mpr c12
    clear c12
    replace H:=Option.bind_eq_some_iff.mp H
    obtain ⟨t386,A130,H⟩:=H
    replace H:(if t386=true then (if t372=t383 then ((inode_Check.f k a0_0 a0_1 a0_2 a0_3 a0_4 a0_5 l0_6).bind fun t387=>((slipwayref14_Check.f k a0_0 a0_1 a0_2 a0_3 a0_4 a0_5 l0_6).bind fun t388=>(if t387=t388 then ((inode_Same.f k a0_0 a0_1 a0_2 a0_3 a0_4 a0_5 l0_6 a1_0 a1_1 a1_2 a1_3 a1_4 a1_5 l1_6).bind fun t389=>((slipwayref14_Same.f k a0_0 a0_1 a0_2 a0_3 a0_4 a0_5 l0_6 a1_0 a1_1 a1_2 a1_3 a1_4 a1_5 l1_6).bind fun t390=>(if (t389 == t390)=true then ((inode_Free.f a0_4).bind fun bt391=>((slipwayref14_Free.f k a0_4).bind fun bt400=>((slipwayref14_Same.f k bt391.1 bt391.2.1 bt391.2.2.1 bt391.2.2.2.1 bt391.2.2.2.2.1 bt391.2.2.2.2.2.1 bt391.2.2.2.2.2.2 bt400.1 bt400.2.1 bt400.2.2.1 bt400.2.2.2.1 bt400.2.2.2.2.1 bt400.2.2.2.2.2.1 bt400.2.2.2.2.2.2).bind fun t409=>(if t409=true then ((inode_Blocks.f a0_2).bind fun t410=>((slipwayref14_Blocks.f a0_2).bind fun t411=>(some (t410 == t411)))) else (none))))) else (none)))) else (none)))) else (none)) else (none))=some r:=H
    have A13:=zm A130
    clear A130
    by_cases c14:t386=true
    ·subst c14
     have H1:(if t372=t383 then ((inode_Check.f k a0_0 a0_1 a0_2 a0_3 a0_4 a0_5 l0_6).bind fun t387=>((slipwayref14_Check.f k a0_0 a0_1 a0_2 a0_3 a0_4 a0_5 l0_6).bind fun t388=>(if t387=t388 then ((inode_Same.f k a0_0 a0_1 a0_2 a0_3 a0_4 a0_5 l0_6 a1_0 a1_1 a1_2 a1_3 a1_4 a1_5 l1_6).bind fun t389=>((slipwayref14_Same.f k a0_0 a0_1 a0_2 a0_3 a0_4 a0_5 l0_6 a1_0 a1_1 a1_2 a1_3 a1_4 a1_5 l1_6).bind fun t390=>(if (t389 == t390)=true then ((inode_Free.f a0_4).bind fun bt391=>((slipwayref14_Free.f k a0_4).bind fun bt400=>((slipwayref14_Same.f k bt391.1 bt391.2.1 bt391.2.2.1 bt391.2.2.2.1 bt391.2.2.2.2.1 bt391.2.2.2.2.2.1 bt391.2.2.2.2.2.2 bt400.1 bt400.2.1 bt400.2.2.1 bt400.2.2.2.1 bt400.2.2.2.2.1 bt400.2.2.2.2.2.1 bt400.2.2.2.2.2.2).bind fun t409=>(if t409=true then ((inode_Blocks.f a0_2).bind fun t410=>((slipwayref14_Blocks.f a0_2).bind fun t411=>(some (t410 == t411)))) else (none))))) else (none)))) else (none)))) else (none))=some r:=by rw [if_pos rfl] at H;exact H
     clear H
     have H:=H1
     clear H1
     by_cases c15:t372=t383
     ·rw [if_pos c15] at H
      have c15b0:(t372 == t383)=true:=beq_iff_eq.mpr c15
      have c15b1:(t372 != t383)=false:=bne_eq_false_iff_eq.mpr c15
      clear c15
      replace H:=Option.bind_eq_some_iff.mp H
      obtain ⟨t387,A160,H⟩:=H
      replace H:((slipwayref14_Check.f k a0_0 a0_1 a0_2 a0_3 a0_4 a0_5 l0_6).bind fun t388=>(if t387=t388 then ((inode_Same.f k a0_0 a0_1 a0_2 a0_3 a0_4 a0_5 l0_6 a1_0 a1_1 a1_2 a1_3 a1_4 a1_5 l1_6).bind fun t389=>((slipwayref14_Same.f k a0_0 a0_1 a0_2 a0_3 a0_4 a0_5 l0_6 a1_0 a1_1 a1_2 a1_3 a1_4 a1_5 l1_6).bind fun t390=>(if (t389 == t390)=true then ((inode_Free.f a0_4).bind fun bt391=>((slipwayref14_Free.f k a0_4).bind fun bt400=>((slipwayref14_Same.f k bt391.1 bt391.2.1 bt391.2.2.1 bt391.2.2.2.1 bt391.2.2.2.2.1 bt391.2.2.2.2.2.1 bt391.2.2.2.2.2.2 bt400.1 bt400.2.1 bt400.2.2.1 bt400.2.2.2.1 bt400.2.2.2.2.1 bt400.2.2.2.2.2.1 bt400.2.2.2.2.2.2).bind fun t409=>(if t409=true then ((inode_Blocks.f a0_2).bind fun t410=>((slipwayref14_Blocks.f a0_2).bind fun t411=>(some (t410 == t411)))) else (none))))) else (none)))) else (none)))=some r:=H
      have A16:=zm A160
      clear A160
      replace H:=Option.bind_eq_some_iff.mp H
      obtain ⟨t388,A170,H⟩:=H
      replace H:(if t387=t388 then ((inode_Same.f k a0_0 a0_1 a0_2 a0_3 a0_4 a0_5 l0_6 a1_0 a1_1 a1_2 a1_3 a1_4 a1_5 l1_6).bind fun t389=>((slipwayref14_Same.f k a0_0 a0_1 a0_2 a0_3 a0_4 a0_5 l0_6 a1_0 a1_1 a1_2 a1_3 a1_4 a1_5 l1_6).bind fun t390=>(if (t389 == t390)=true then ((inode_Free.f a0_4).bind fun bt391=>((slipwayref14_Free.f k a0_4).bind fun bt400=>((slipwayref14_Same.f k bt391.1 bt391.2.1 bt391.2.2.1 bt391.2.2.2.1 bt391.2.2.2.2.1 bt391.2.2.2.2.2.1 bt391.2.2.2.2.2.2 bt400.1 bt400.2.1 bt400.2.2.1 bt400.2.2.2.1 bt400.2.2.2.2.1 bt400.2.2.2.2.2.1 bt400.2.2.2.2.2.2).bind fun t409=>(if t409=true then ((inode_Blocks.f a0_2).bind fun t410=>((slipwayref14_Blocks.f a0_2).bind fun t411=>(some (t410 == t411)))) else (none))))) else (none)))) else (none))=some r:=H
      have A17:=zm A170
      clear A170
      by_cases c18:t387=t388
      ·rw [if_pos c18] at H
       have c18b0:(t387 == t388)=true:=beq_iff_eq.mpr c18
       have c18b1:(t387 != t388)=false:=bne_eq_false_iff_eq.mpr c18
       clear c18
       replace H:=Option.bind_eq_some_iff.mp H
       obtain ⟨t389,A190,H⟩:=H
       replace H:((slipwayref14_Same.f k a0_0 a0_1 a0_2 a0_3 a0_4 a0_5 l0_6 a1_0 a1_1 a1_2 a1_3 a1_4 a1_5 l1_6).bind fun t390=>(if (t389 == t390)=true then ((inode_Free.f a0_4).bind fun bt391=>((slipwayref14_Free.f k a0_4).bind fun bt400=>((slipwayref14_Same.f k bt391.1 bt391.2.1 bt391.2.2.1 bt391.2.2.2.1 bt391.2.2.2.2.1 bt391.2.2.2.2.2.1 bt391.2.2.2.2.2.2 bt400.1 bt400.2.1 bt400.2.2.1 bt400.2.2.2.1 bt400.2.2.2.2.1 bt400.2.2.2.2.2.1 bt400.2.2.2.2.2.2).bind fun t409=>(if t409=true then ((inode_Blocks.f a0_2).bind fun t410=>((slipwayref14_Blocks.f a0_2).bind fun t411=>(some (t410 == t411)))) else (none))))) else (none)))=some r:=H
       have A19:=zm A190
       clear A190
       replace H:=Option.bind_eq_some_iff.mp H
       obtain ⟨t390,A200,H⟩:=H
       replace H:(if (t389 == t390)=true then ((inode_Free.f a0_4).bind fun bt391=>((slipwayref14_Free.f k a0_4).bind fun bt400=>((slipwayref14_Same.f k bt391.1 bt391.2.1 bt391.2.2.1 bt391.2.2.2.1 bt391.2.2.2.2.1 bt391.2.2.2.2.2.1 bt391.2.2.2.2.2.2 bt400.1 bt400.2.1 bt400.2.2.1 bt400.2.2.2.1 bt400.2.2.2.2.1 bt400.2.2.2.2.2.1 bt400.2.2.2.2.2.2).bind fun t409=>(if t409=true then ((inode_Blocks.f a0_2).bind fun t410=>((slipwayref14_Blocks.f a0_2).bind fun t411=>(some (t410 == t411)))) else (none))))) else (none))=some r:=H
       have A20:=zm A200
       clear A200
       by_cases c21:(t389 == t390)=true
       ·rw [if_pos c21] at H
        have c21b0:(t389 == t390)=true:=c21
        (try (have c21b1:decide (t389=t390)=true:=by simpa using c21))
        (try (have c21b2:(t389 == t390)=true:=by simpa using c21))
        clear c21
        replace H:=Option.bind_eq_some_iff.mp H
        obtain ⟨⟨t391,t392,t393,t394,t395,t396,t397⟩,A220,H⟩:=H
        replace H:((slipwayref14_Free.f k a0_4).bind fun bt400=>((slipwayref14_Same.f k t391 t392 t393 t394 t395 t396 t397 bt400.1 bt400.2.1 bt400.2.2.1 bt400.2.2.2.1 bt400.2.2.2.2.1 bt400.2.2.2.2.2.1 bt400.2.2.2.2.2.2).bind fun t409=>(if t409=true then ((inode_Blocks.f a0_2).bind fun t410=>((slipwayref14_Blocks.f a0_2).bind fun t411=>(some (t410 == t411)))) else (none))))=some r:=H
        have A22:=zm A220
        clear A220
        replace H:=Option.bind_eq_some_iff.mp H
        obtain ⟨⟨t400,t401,t402,t403,t404,t405,t406⟩,A230,H⟩:=H
        replace H:((slipwayref14_Same.f k t391 t392 t393 t394 t395 t396 t397 t400 t401 t402 t403 t404 t405 t406).bind fun t409=>(if t409=true then ((inode_Blocks.f a0_2).bind fun t410=>((slipwayref14_Blocks.f a0_2).bind fun t411=>(some (t410 == t411)))) else (none)))=some r:=H
        have A23:=zm A230
        clear A230
        replace H:=Option.bind_eq_some_iff.mp H
        obtain ⟨t409,A240,H⟩:=H
        replace H:(if t409=true then ((inode_Blocks.f a0_2).bind fun t410=>((slipwayref14_Blocks.f a0_2).bind fun t411=>(some (t410 == t411)))) else (none))=some r:=H
        have A24:=zm A240
        clear A240
        by_cases c25:t409=true
        ·subst c25
         have H1:((inode_Blocks.f a0_2).bind fun t410=>((slipwayref14_Blocks.f a0_2).bind fun t411=>(some (t410 == t411))))=some r:=by rw [if_pos rfl] at H;exact H
         clear H
         have H:=H1
         clear H1
         replace H:=Option.bind_eq_some_iff.mp H
         obtain ⟨t410,A260,H⟩:=H
         replace H:((slipwayref14_Blocks.f a0_2).bind fun t411=>(some (t410 == t411)))=some r:=H
         have A26:=zm A260
         clear A260
         replace H:=Option.bind_eq_some_iff.mp H
         obtain ⟨t411,A270,H⟩:=H
         replace H:(some (t410 == t411))=some r:=H
         have A27:=zm A270
         clear A270
         obtain rfl:=Option.some.inj H
         go_enter Try.func4,Try.ntmps4
         try go_wp2_with (first|((with_reducible refine gate_dst (N:=3) rfl ?_);refine zbx 3 #[.int .i64 a0_0,.int .i64 a0_1,.int .i64 a0_2,.int .i64 a0_3,.int .i64 a0_4,.int .i64 a0_5,.slice A0_6 l0_6.length c0_6] 24 ?_;intro gb352 hg w28 hbox hb;have n0_:=zkH HB hb;have n1_:=zm (hbox);have n2_:=zkG HB hg;have n3_:=zkG HB hg;clear HB;have HB:=n0_;have BK352:=n1_;have GW352:=n2_;have GE352:=n3_;clear n0_ n1_ n2_ n3_;clear hb hbox hg)|((with_reducible refine gate_dst (N:=4) rfl ?_);refine zbx 4 #[.int .i64 a1_0,.int .i64 a1_1,.int .i64 a1_2,.int .i64 a1_3,.int .i64 a1_4,.int .i64 a1_5,.slice A1_6 l1_6.length c1_6] 24 ?_;intro gb353 hg w29 hbox hb;have n0_:=zkB BK352 hb;have n1_:=zkH HB hb;have n2_:=zm (hbox);have n3_:=zkG HB hg;have n4_:=zkG HB hg;have n5_:=zkN BK352 hg;have n6_:=zkM BK352 hg;clear BK352 HB;have BK352:=n0_;have HB:=n1_;have BK353:=n2_;have GW353:=n3_;have GE353:=n4_;have NB352_353:=n5_;have NB353_352:=n6_;clear n0_ n1_ n2_ n3_ n4_ n5_ n6_;clear hb hbox hg)|((with_reducible refine gate_callee (f:=7) rfl ?_);refine goesL_ (some 15) rfl rfl Try.func7 (by kernel_rfl) rfl #[] rfl (by (try simp only [List.map_toArray,List.map_cons,List.map_nil]);first|done|rfl|(simp only [List.length_drop,List.length_take];rfl)) ?_;(with_reducible refine (slipwaylaw14_live.calls k  true _ A4.out).mono ?_);rintro e w30 ⟨rfl,hb⟩;refine ⟨_,rfl,?_⟩;have n0_:=zkB BK352 hb;have n1_:=zkB BK353 hb;have n2_:=zkH HB hb;clear BK352 BK353 HB;have BK352:=n0_;have BK353:=n1_;have HB:=n2_;clear n0_ n1_ n2_;(try clear hb);(try clear hb2);(try clear hk);(try clear hi);have hnb31:=NB352_353.out;have hnc31:=NB353_352.out;obtain ⟨hcz32_0,hcz32_1,hcz32_2,hcz32_3,hcz32_4,hcz32_5,hcz32_6,hfz32_0,hfz32_1,hfz32_2,hfz32_3,hfz32_4,hfz32_5,hfz32_6⟩:=zc7 BK352.out)|((with_reducible refine gate_callee (f:=8) rfl ?_);refine goesL_ (some 19) rfl rfl Try.func8 (by kernel_rfl) rfl #[.agg #[.int .i64 a0_0,.int .i64 a0_1,.int .i64 a0_2,.int .i64 a0_3,.int .i64 a0_4,.int .i64 a0_5,.slice A0_6 l0_6.length c0_6]] rfl (by (try simp only [List.map_toArray,List.map_cons,List.map_nil]);first|done|rfl|(simp only [List.length_drop,List.length_take];rfl)) ?_;(with_reducible refine (inode_Encode.calls k a0_0 a0_1 a0_2 a0_3 a0_4 a0_5 _ _ l0_6 t355 t358 _ ?side1 ?side2 A6.out).mono ?_);(case side1=>exact zC HR0_6);(case side2=>exact HC0_6.out);rintro e w33 ⟨v356,rfl,ho0,hb⟩;refine ⟨_,rfl,?_⟩;have n0_:=zm (Kd.R_lower ho0 (below_size (zb_)));have n1_:=zkB BK352 hb;have n2_:=zkB BK353 hb;have n3_:=zkH HB hb;clear BK352 BK353 HB;have HO357:=n0_;have BK352:=n1_;have BK353:=n2_;have HB:=n3_;clear n0_ n1_ n2_ n3_;(try clear hb);(try clear hb2);(try clear hk);(try clear hi);(try clear ho0);obtain ⟨hcz34_0,hcz34_1,hcz34_2,hcz34_3,hcz34_4,hcz34_5,hcz34_6,hfz34_0,hfz34_1,hfz34_2,hfz34_3,hfz34_4,hfz34_5,hfz34_6⟩:=zc7 BK352.out)|((with_reducible refine gate_callee (f:=12) rfl ?_);refine goesL_ (some 24) rfl rfl Try.func12 (by kernel_rfl) rfl #[.agg #[.int .i64 a0_0,.int .i64 a0_1,.int .i64 a0_2,.int .i64 a0_3,.int .i64 a0_4,.int .i64 a0_5,.slice A0_6 l0_6.length c0_6]] rfl (by (try simp only [List.map_toArray,List.map_cons,List.map_nil]);first|done|rfl|(simp only [List.length_drop,List.length_take];rfl)) ?_;(with_reducible refine (slipwayref14_Encode.calls k a0_0 a0_1 a0_2 a0_3 a0_4 a0_5 _ _ l0_6 t359 t362 _ ?side1 ?side2 A7.out).mono ?_);(case side1=>exact zC HR0_6);(case side2=>exact HC0_6.out);rintro e w35 ⟨v360,rfl,ho0,hb⟩;refine ⟨_,rfl,?_⟩;have n0_:=zm (Kd.R_elder' (by (with_reducible repeat (first|apply zrA|apply zrN|apply zrD));exact HO357.out) (Kd.R_base ho0) hb);have n1_:=zm (Kd.R_lower (Kd.R_new' ho0 (Kd.R_lt (by (with_reducible repeat (first|apply zrA|apply zrN|apply zrD));exact HO357.out))) (below_size (zb_)));have n2_:=zkB BK352 hb;have n3_:=zkB BK353 hb;have n4_:=zkH HB hb;clear HO357 BK352 BK353 HB;have HO357:=n0_;have HO361:=n1_;have BK352:=n2_;have BK353:=n3_;have HB:=n4_;clear n0_ n1_ n2_ n3_ n4_;(try clear hb);(try clear hb2);(try clear hk);(try clear hi);(try clear ho0))|((with_reducible refine gate_callee (f:=9) rfl ?_);refine goesL_ (some 29) rfl rfl Try.func9 (by kernel_rfl) rfl #[.slice A2 l2.length c2] rfl (by (try simp only [List.map_toArray,List.map_cons,List.map_nil]);first|done|rfl|(simp only [List.length_drop,List.length_take];rfl)) ?_;(with_reducible refine (inode_Decode.calls k _ _ l2 t363 t364 t365 t366 t367 t368 t369 t372 _ ?side1 ?side2 A8.out).mono ?_);(case side1=>exact zC HR2);(case side2=>exact HC2.out);rintro e w36 ⟨v370,rfl,ho0,hb⟩;refine ⟨_,rfl,?_⟩;have n0_:=zm (Kd.R_below (by (with_reducible repeat (first|apply zrA|apply zrN|apply zrD));exact HO357.out) hb);have n1_:=zm (Kd.R_below (by (with_reducible repeat (first|apply zrA|apply zrN|apply zrD));exact HO361.out) hb);have n2_:=zm (Kd.R_lower ho0 (below_size (zb_)));have n3_:=zkB BK352 hb;have n4_:=zkB BK353 hb;have n5_:=zkH HB hb;clear HO357 HO361 BK352 BK353 HB;have HO357:=n0_;have HO361:=n1_;have HO371:=n2_;have BK352:=n3_;have BK353:=n4_;have HB:=n5_;clear n0_ n1_ n2_ n3_ n4_ n5_;(try clear hb);(try clear hb2);(try clear hk);(try clear hi);(try clear ho0))|((with_reducible refine gate_dst (N:=11) rfl ?_);refine zbx 11 #[.int .i64 0,.int .i64 0,.int .i64 0,.int .i64 0,.int .i64 0,.int .i64 0,.slice none 0 0] 24 ?_;intro gb373 hg w37 hbox hb;have n0_:=zm (Kd.R_below (by (with_reducible repeat (first|apply zrA|apply zrN|apply zrD));exact HO357.out) hb);have n1_:=zm (Kd.R_below (by (with_reducible repeat (first|apply zrA|apply zrN|apply zrD));exact HO361.out) hb);have n2_:=zm (Kd.R_below (by (with_reducible repeat (first|apply zrA|apply zrN|apply zrD));exact HO371.out) hb);have n3_:=zkB BK352 hb;have n4_:=zkB BK353 hb;have n5_:=zkH HB hb;have n6_:=zm (hbox);have n7_:=zkG HB hg;have n8_:=zkG HB hg;have n9_:=zkN BK352 hg;have n10_:=zkM BK352 hg;have n11_:=zkN BK353 hg;have n12_:=zkM BK353 hg;clear HO357 HO361 HO371 BK352 BK353 HB;have HO357:=n0_;have HO361:=n1_;have HO371:=n2_;have BK352:=n3_;have BK353:=n4_;have HB:=n5_;have BK373:=n6_;have GW373:=n7_;have GE373:=n8_;have NB352_373:=n9_;have NB373_352:=n10_;have NB353_373:=n11_;have NB373_353:=n12_;clear n0_ n1_ n2_ n3_ n4_ n5_ n6_ n7_ n8_ n9_ n10_ n11_ n12_;clear hb hbox hg;have hnb38:=NB373_352.out;have hnc38:=NB352_373.out;have hnb39:=NB373_353.out;have hnc39:=NB353_373.out;obtain ⟨hcz40_0,hcz40_1,hcz40_2,hcz40_3,hcz40_4,hcz40_5,hcz40_6,hfz40_0,hfz40_1,hfz40_2,hfz40_3,hfz40_4,hfz40_5,hfz40_6⟩:=zc7 BK373.out;obtain ⟨Ao41,co41,eo41⟩:=Kd.R_slice HO371.out;subst eo41)|((with_reducible refine gate_callee (f:=13) rfl ?_);refine goesL_ (some 34) rfl rfl Try.func13 (by kernel_rfl) rfl #[.slice A2 l2.length c2] rfl (by (try simp only [List.map_toArray,List.map_cons,List.map_nil]);first|done|rfl|(simp only [List.length_drop,List.length_take];rfl)) ?_;(with_reducible refine (slipwayref14_Decode.calls k _ _ l2 t374 t375 t376 t377 t378 t379 t380 t383 _ ?side1 ?side2 A9.out).mono ?_);(case side1=>exact Kd.C_below HR2.out (zb_));(case side2=>exact HC2.out);rintro e w42 ⟨v381,rfl,ho0,hb⟩;refine ⟨_,rfl,?_⟩;have n0_:=zm (Kd.R_below (by (with_reducible repeat (first|apply zrA|apply zrN|apply zrD));exact (Kd.R_mono (Kd.R_far (p:=⟨gb373,6,none⟩) (Kd.R_far (p:=⟨gb373,5,none⟩) (Kd.R_far (p:=⟨gb373,4,none⟩) (Kd.R_far (p:=⟨gb373,3,none⟩) (Kd.R_far (p:=⟨gb373,2,none⟩) (Kd.R_far (p:=⟨gb373,1,none⟩) (Kd.R_far (p:=⟨gb373,0,none⟩) (Kd.R_types HO357.out BK373.out (by decide)) (fun _ hk=>hk.2) (.int .i64 t363)) (fun _ hk=>hk.2) (.int .i64 t364)) (fun _ hk=>hk.2) (.int .i64 t365)) (fun _ hk=>hk.2) (.int .i64 t366)) (fun _ hk=>hk.2) (.int .i64 t367)) (fun _ hk=>hk.2) (.int .i64 t368)) (fun _ hk=>hk.2) (.slice Ao41 t369.length co41)) (fun _ h_=>h_.1))) hb);have n1_:=zm (Kd.R_below (by (with_reducible repeat (first|apply zrA|apply zrN|apply zrD));exact (Kd.R_mono (Kd.R_far (p:=⟨gb373,6,none⟩) (Kd.R_far (p:=⟨gb373,5,none⟩) (Kd.R_far (p:=⟨gb373,4,none⟩) (Kd.R_far (p:=⟨gb373,3,none⟩) (Kd.R_far (p:=⟨gb373,2,none⟩) (Kd.R_far (p:=⟨gb373,1,none⟩) (Kd.R_far (p:=⟨gb373,0,none⟩) (Kd.R_types HO361.out BK373.out (by decide)) (fun _ hk=>hk.2) (.int .i64 t363)) (fun _ hk=>hk.2) (.int .i64 t364)) (fun _ hk=>hk.2) (.int .i64 t365)) (fun _ hk=>hk.2) (.int .i64 t366)) (fun _ hk=>hk.2) (.int .i64 t367)) (fun _ hk=>hk.2) (.int .i64 t368)) (fun _ hk=>hk.2) (.slice Ao41 t369.length co41)) (fun _ h_=>h_.1))) hb);have n2_:=zm (Kd.R_elder' (by (with_reducible repeat (first|apply zrA|apply zrN|apply zrD));exact (Kd.R_mono (Kd.R_far (p:=⟨gb373,6,none⟩) (Kd.R_far (p:=⟨gb373,5,none⟩) (Kd.R_far (p:=⟨gb373,4,none⟩) (Kd.R_far (p:=⟨gb373,3,none⟩) (Kd.R_far (p:=⟨gb373,2,none⟩) (Kd.R_far (p:=⟨gb373,1,none⟩) (Kd.R_far (p:=⟨gb373,0,none⟩) (Kd.R_types HO371.out BK373.out (by decide)) (fun _ hk=>hk.2) (.int .i64 t363)) (fun _ hk=>hk.2) (.int .i64 t364)) (fun _ hk=>hk.2) (.int .i64 t365)) (fun _ hk=>hk.2) (.int .i64 t366)) (fun _ hk=>hk.2) (.int .i64 t367)) (fun _ hk=>hk.2) (.int .i64 t368)) (fun _ hk=>hk.2) (.slice Ao41 t369.length co41)) (fun _ h_=>h_.1))) (Kd.R_base ho0) hb);have n3_:=zm (Kd.R_lower (Kd.R_new' ho0 (Kd.R_lt (by (with_reducible repeat (first|apply zrA|apply zrN|apply zrD));exact (Kd.R_mono (Kd.R_far (p:=⟨gb373,6,none⟩) (Kd.R_far (p:=⟨gb373,5,none⟩) (Kd.R_far (p:=⟨gb373,4,none⟩) (Kd.R_far (p:=⟨gb373,3,none⟩) (Kd.R_far (p:=⟨gb373,2,none⟩) (Kd.R_far (p:=⟨gb373,1,none⟩) (Kd.R_far (p:=⟨gb373,0,none⟩) (Kd.R_types HO371.out BK373.out (by decide)) (fun _ hk=>hk.2) (.int .i64 t363)) (fun _ hk=>hk.2) (.int .i64 t364)) (fun _ hk=>hk.2) (.int .i64 t365)) (fun _ hk=>hk.2) (.int .i64 t366)) (fun _ hk=>hk.2) (.int .i64 t367)) (fun _ hk=>hk.2) (.int .i64 t368)) (fun _ hk=>hk.2) (.slice Ao41 t369.length co41)) (fun _ h_=>h_.1))))) (below_size (zb_)));have n4_:=zm (zbB (g:=gb352) (o:=.cells #[.int .i64 a0_0,.int .i64 a0_1,.int .i64 a0_2,.int .i64 a0_3,.int .i64 a0_4,.int .i64 a0_5,.slice A0_6 l0_6.length c0_6] 24 (0,0)) (by (with_reducible repeat (first|refine zbN ?_ _|refine zbD ?_|refine zbA ?_ _));refine blk_far ?_ NB352_373.out _;(with_reducible repeat (first|refine zbN ?_ _|refine zbD ?_|refine zbA ?_ _));refine blk_far ?_ NB352_373.out _;(with_reducible repeat (first|refine zbN ?_ _|refine zbD ?_|refine zbA ?_ _));refine blk_far ?_ NB352_373.out _;(with_reducible repeat (first|refine zbN ?_ _|refine zbD ?_|refine zbA ?_ _));refine blk_far ?_ NB352_373.out _;(with_reducible repeat (first|refine zbN ?_ _|refine zbD ?_|refine zbA ?_ _));refine blk_far ?_ NB352_373.out _;(with_reducible repeat (first|refine zbN ?_ _|refine zbD ?_|refine zbA ?_ _));refine blk_far ?_ NB352_373.out _;(with_reducible repeat (first|refine zbN ?_ _|refine zbD ?_|refine zbA ?_ _));refine blk_far ?_ NB352_373.out _;(with_reducible repeat (first|refine zbN ?_ _|refine zbD ?_|refine zbA ?_ _));exact BK352.out) hb);have n5_:=zm (zbB (g:=gb353) (o:=.cells #[.int .i64 a1_0,.int .i64 a1_1,.int .i64 a1_2,.int .i64 a1_3,.int .i64 a1_4,.int .i64 a1_5,.slice A1_6 l1_6.length c1_6] 24 (0,0)) (by (with_reducible repeat (first|refine zbN ?_ _|refine zbD ?_|refine zbA ?_ _));refine blk_far ?_ NB353_373.out _;(with_reducible repeat (first|refine zbN ?_ _|refine zbD ?_|refine zbA ?_ _));refine blk_far ?_ NB353_373.out _;(with_reducible repeat (first|refine zbN ?_ _|refine zbD ?_|refine zbA ?_ _));refine blk_far ?_ NB353_373.out _;(with_reducible repeat (first|refine zbN ?_ _|refine zbD ?_|refine zbA ?_ _));refine blk_far ?_ NB353_373.out _;(with_reducible repeat (first|refine zbN ?_ _|refine zbD ?_|refine zbA ?_ _));refine blk_far ?_ NB353_373.out _;(with_reducible repeat (first|refine zbN ?_ _|refine zbD ?_|refine zbA ?_ _));refine blk_far ?_ NB353_373.out _;(with_reducible repeat (first|refine zbN ?_ _|refine zbD ?_|refine zbA ?_ _));refine blk_far ?_ NB353_373.out _;(with_reducible repeat (first|refine zbN ?_ _|refine zbD ?_|refine zbA ?_ _));exact BK353.out) hb);have n6_:=zm (zbB (g:=gb373) (o:=.cells #[.int .i64 t363,.int .i64 t364,.int .i64 t365,.int .i64 t366,.int .i64 t367,.int .i64 t368,.slice Ao41 t369.length co41] 24 (0,0)) (by (with_reducible repeat (first|refine zbN ?_ _|refine zbD ?_|refine zbA ?_ _));refine blk_put (cs:=#[.int .i64 t363,.int .i64 t364,.int .i64 t365,.int .i64 t366,.int .i64 t367,.int .i64 t368,.slice none 0 0]) ?_ 6 _ rfl;(with_reducible repeat (first|refine zbN ?_ _|refine zbD ?_|refine zbA ?_ _));refine blk_put (cs:=#[.int .i64 t363,.int .i64 t364,.int .i64 t365,.int .i64 t366,.int .i64 t367,.int .i64 0,.slice none 0 0]) ?_ 5 _ rfl;(with_reducible repeat (first|refine zbN ?_ _|refine zbD ?_|refine zbA ?_ _));refine blk_put (cs:=#[.int .i64 t363,.int .i64 t364,.int .i64 t365,.int .i64 t366,.int .i64 0,.int .i64 0,.slice none 0 0]) ?_ 4 _ rfl;(with_reducible repeat (first|refine zbN ?_ _|refine zbD ?_|refine zbA ?_ _));refine blk_put (cs:=#[.int .i64 t363,.int .i64 t364,.int .i64 t365,.int .i64 0,.int .i64 0,.int .i64 0,.slice none 0 0]) ?_ 3 _ rfl;(with_reducible repeat (first|refine zbN ?_ _|refine zbD ?_|refine zbA ?_ _));refine blk_put (cs:=#[.int .i64 t363,.int .i64 t364,.int .i64 0,.int .i64 0,.int .i64 0,.int .i64 0,.slice none 0 0]) ?_ 2 _ rfl;(with_reducible repeat (first|refine zbN ?_ _|refine zbD ?_|refine zbA ?_ _));refine blk_put (cs:=#[.int .i64 t363,.int .i64 0,.int .i64 0,.int .i64 0,.int .i64 0,.int .i64 0,.slice none 0 0]) ?_ 1 _ rfl;(with_reducible repeat (first|refine zbN ?_ _|refine zbD ?_|refine zbA ?_ _));refine blk_put (cs:=#[.int .i64 0,.int .i64 0,.int .i64 0,.int .i64 0,.int .i64 0,.int .i64 0,.slice none 0 0]) ?_ 0 _ rfl;(with_reducible repeat (first|refine zbN ?_ _|refine zbD ?_|refine zbA ?_ _));exact BK373.out) hb);have n7_:=zkH HB hb;clear HO357 HO361 HO371 BK352 BK353 BK373 HB;have HO357:=n0_;have HO361:=n1_;have HO371:=n2_;have HO382:=n3_;have BK352:=n4_;have BK353:=n5_;have BK373:=n6_;have HB:=n7_;clear n0_ n1_ n2_ n3_ n4_ n5_ n6_ n7_;(try clear hb);(try clear hb2);(try clear hk);(try clear hi);(try clear ho0))|((with_reducible refine gate_dst (N:=13) rfl ?_);refine zbx 13 #[.int .i64 0,.int .i64 0,.int .i64 0,.int .i64 0,.int .i64 0,.int .i64 0,.slice none 0 0] 24 ?_;intro gb384 hg w43 hbox hb;have n0_:=zm (Kd.R_below (by (with_reducible repeat (first|apply zrA|apply zrN|apply zrD));exact HO357.out) hb);have n1_:=zm (Kd.R_below (by (with_reducible repeat (first|apply zrA|apply zrN|apply zrD));exact HO361.out) hb);have n2_:=zm (Kd.R_below (by (with_reducible repeat (first|apply zrA|apply zrN|apply zrD));exact HO371.out) hb);have n3_:=zm (Kd.R_below (by (with_reducible repeat (first|apply zrA|apply zrN|apply zrD));exact HO382.out) hb);have n4_:=zkB BK352 hb;have n5_:=zkB BK353 hb;have n6_:=zkB BK373 hb;have n7_:=zkH HB hb;have n8_:=zm (hbox);have n9_:=zkG HB hg;have n10_:=zkG HB hg;have n11_:=zkN BK352 hg;have n12_:=zkM BK352 hg;have n13_:=zkN BK353 hg;have n14_:=zkM BK353 hg;have n15_:=zkN BK373 hg;have n16_:=zkM BK373 hg;clear HO357 HO361 HO371 HO382 BK352 BK353 BK373 HB;have HO357:=n0_;have HO361:=n1_;have HO371:=n2_;have HO382:=n3_;have BK352:=n4_;have BK353:=n5_;have BK373:=n6_;have HB:=n7_;have BK384:=n8_;have GW384:=n9_;have GE384:=n10_;have NB352_384:=n11_;have NB384_352:=n12_;have NB353_384:=n13_;have NB384_353:=n14_;have NB373_384:=n15_;have NB384_373:=n16_;clear n0_ n1_ n2_ n3_ n4_ n5_ n6_ n7_ n8_ n9_ n10_ n11_ n12_ n13_ n14_ n15_ n16_;clear hb hbox hg;have hnb44:=NB384_352.out;have hnc44:=NB352_384.out;have hnb45:=NB384_353.out;have hnc45:=NB353_384.out;have hnb46:=NB384_373.out;have hnc46:=NB373_384.out;obtain ⟨hcz47_0,hcz47_1,hcz47_2,hcz47_3,hcz47_4,hcz47_5,hcz47_6,hfz47_0,hfz47_1,hfz47_2,hfz47_3,hfz47_4,hfz47_5,hfz47_6⟩:=zc7 BK384.out;obtain ⟨Ao48,co48,eo48⟩:=Kd.R_slice HO382.out;subst eo48))
         have n0_:Aside0 (Kd.R (Kd.int .u8) 5 (((((((w43.setCell ⟨gb384,0,none⟩ (.int .i64 t374)).setCell ⟨gb384,1,none⟩ (.int .i64 t375)).setCell ⟨gb384,2,none⟩ (.int .i64 t376)).setCell ⟨gb384,3,none⟩ (.int .i64 t377)).setCell ⟨gb384,4,none⟩ (.int .i64 t378)).setCell ⟨gb384,5,none⟩ (.int .i64 t379)).setCell ⟨gb384,6,none⟩ (.slice Ao48 t380.length co48)) w.heap.size (fun k_=>some k_≠(v360:Value).ownBlock) v356 t355):=⟨by (with_reducible repeat (first|apply zrA|apply zrN|apply zrD));exact Kd.R_mono (Kd.R_far (p:=⟨gb384,6,none⟩) (Kd.R_far (p:=⟨gb384,5,none⟩) (Kd.R_far (p:=⟨gb384,4,none⟩) (Kd.R_far (p:=⟨gb384,3,none⟩) (Kd.R_far (p:=⟨gb384,2,none⟩) (Kd.R_far (p:=⟨gb384,1,none⟩) (Kd.R_far (p:=⟨gb384,0,none⟩) (Kd.R_types HO357.out BK384.out (by decide)) (fun _ hk=>hk.2) (.int .i64 t374)) (fun _ hk=>hk.2) (.int .i64 t375)) (fun _ hk=>hk.2) (.int .i64 t376)) (fun _ hk=>hk.2) (.int .i64 t377)) (fun _ hk=>hk.2) (.int .i64 t378)) (fun _ hk=>hk.2) (.int .i64 t379)) (fun _ hk=>hk.2) (.slice Ao48 t380.length co48)) (fun _ hk=>hk.1.2)⟩
         have n1_:Aside0 (Kd.R (Kd.int .u8) 5 (((((((w43.setCell ⟨gb384,0,none⟩ (.int .i64 t374)).setCell ⟨gb384,1,none⟩ (.int .i64 t375)).setCell ⟨gb384,2,none⟩ (.int .i64 t376)).setCell ⟨gb384,3,none⟩ (.int .i64 t377)).setCell ⟨gb384,4,none⟩ (.int .i64 t378)).setCell ⟨gb384,5,none⟩ (.int .i64 t379)).setCell ⟨gb384,6,none⟩ (.slice Ao48 t380.length co48)) w.heap.size (fun k_=>some k_≠(v356:Value).ownBlock) v360 t359):=⟨by (with_reducible repeat (first|apply zrA|apply zrN|apply zrD));exact Kd.R_mono (Kd.R_far (p:=⟨gb384,6,none⟩) (Kd.R_far (p:=⟨gb384,5,none⟩) (Kd.R_far (p:=⟨gb384,4,none⟩) (Kd.R_far (p:=⟨gb384,3,none⟩) (Kd.R_far (p:=⟨gb384,2,none⟩) (Kd.R_far (p:=⟨gb384,1,none⟩) (Kd.R_far (p:=⟨gb384,0,none⟩) (Kd.R_types HO361.out BK384.out (by decide)) (fun _ hk=>hk.2) (.int .i64 t374)) (fun _ hk=>hk.2) (.int .i64 t375)) (fun _ hk=>hk.2) (.int .i64 t376)) (fun _ hk=>hk.2) (.int .i64 t377)) (fun _ hk=>hk.2) (.int .i64 t378)) (fun _ hk=>hk.2) (.int .i64 t379)) (fun _ hk=>hk.2) (.slice Ao48 t380.length co48)) (fun _ hk=>hk.1.2)⟩
         have n2_:Aside0 (Kd.R k51 51 (((((((w43.setCell ⟨gb384,0,none⟩ (.int .i64 t374)).setCell ⟨gb384,1,none⟩ (.int .i64 t375)).setCell ⟨gb384,2,none⟩ (.int .i64 t376)).setCell ⟨gb384,3,none⟩ (.int .i64 t377)).setCell ⟨gb384,4,none⟩ (.int .i64 t378)).setCell ⟨gb384,5,none⟩ (.int .i64 t379)).setCell ⟨gb384,6,none⟩ (.slice Ao48 t380.length co48)) w.heap.size (fun k_=>some k_≠(.slice Ao48 t380.length co48:Value).ownBlock) (.slice Ao41 t369.length co41) t369):=⟨by (with_reducible repeat (first|apply zrA|apply zrN|apply zrD));exact Kd.R_mono (Kd.R_far (p:=⟨gb384,6,none⟩) (Kd.R_far (p:=⟨gb384,5,none⟩) (Kd.R_far (p:=⟨gb384,4,none⟩) (Kd.R_far (p:=⟨gb384,3,none⟩) (Kd.R_far (p:=⟨gb384,2,none⟩) (Kd.R_far (p:=⟨gb384,1,none⟩) (Kd.R_far (p:=⟨gb384,0,none⟩) (Kd.R_types HO371.out BK384.out (by decide)) (fun _ hk=>hk.2) (.int .i64 t374)) (fun _ hk=>hk.2) (.int .i64 t375)) (fun _ hk=>hk.2) (.int .i64 t376)) (fun _ hk=>hk.2) (.int .i64 t377)) (fun _ hk=>hk.2) (.int .i64 t378)) (fun _ hk=>hk.2) (.int .i64 t379)) (fun _ hk=>hk.2) (.slice Ao48 t380.length co48)) (fun _ hk=>hk.1.2)⟩
         have n3_:Aside0 (Kd.R k51 51 (((((((w43.setCell ⟨gb384,0,none⟩ (.int .i64 t374)).setCell ⟨gb384,1,none⟩ (.int .i64 t375)).setCell ⟨gb384,2,none⟩ (.int .i64 t376)).setCell ⟨gb384,3,none⟩ (.int .i64 t377)).setCell ⟨gb384,4,none⟩ (.int .i64 t378)).setCell ⟨gb384,5,none⟩ (.int .i64 t379)).setCell ⟨gb384,6,none⟩ (.slice Ao48 t380.length co48)) w.heap.size (fun k_=>some k_≠(.slice Ao41 t369.length co41:Value).ownBlock) (.slice Ao48 t380.length co48) t380):=⟨by (with_reducible repeat (first|apply zrA|apply zrN|apply zrD));exact Kd.R_mono (Kd.R_far (p:=⟨gb384,6,none⟩) (Kd.R_far (p:=⟨gb384,5,none⟩) (Kd.R_far (p:=⟨gb384,4,none⟩) (Kd.R_far (p:=⟨gb384,3,none⟩) (Kd.R_far (p:=⟨gb384,2,none⟩) (Kd.R_far (p:=⟨gb384,1,none⟩) (Kd.R_far (p:=⟨gb384,0,none⟩) (Kd.R_types HO382.out BK384.out (by decide)) (fun _ hk=>hk.2) (.int .i64 t374)) (fun _ hk=>hk.2) (.int .i64 t375)) (fun _ hk=>hk.2) (.int .i64 t376)) (fun _ hk=>hk.2) (.int .i64 t377)) (fun _ hk=>hk.2) (.int .i64 t378)) (fun _ hk=>hk.2) (.int .i64 t379)) (fun _ hk=>hk.2) (.slice Ao48 t380.length co48)) (fun _ hk=>hk.1.2)⟩
         have n4_:Aside0 ((((((((w43.setCell ⟨gb384,0,none⟩ (.int .i64 t374)).setCell ⟨gb384,1,none⟩ (.int .i64 t375)).setCell ⟨gb384,2,none⟩ (.int .i64 t376)).setCell ⟨gb384,3,none⟩ (.int .i64 t377)).setCell ⟨gb384,4,none⟩ (.int .i64 t378)).setCell ⟨gb384,5,none⟩ (.int .i64 t379)).setCell ⟨gb384,6,none⟩ (.slice Ao48 t380.length co48)).heap[gb352]?=some (.cells #[.int .i64 a0_0,.int .i64 a0_1,.int .i64 a0_2,.int .i64 a0_3,.int .i64 a0_4,.int .i64 a0_5,.slice A0_6 l0_6.length c0_6] 24 (0,0))):=⟨by (with_reducible repeat (first|refine zbN ?_ _|refine zbD ?_|refine zbA ?_ _));refine blk_far ?_ NB352_384.out _;(with_reducible repeat (first|refine zbN ?_ _|refine zbD ?_|refine zbA ?_ _));refine blk_far ?_ NB352_384.out _;(with_reducible repeat (first|refine zbN ?_ _|refine zbD ?_|refine zbA ?_ _));refine blk_far ?_ NB352_384.out _;(with_reducible repeat (first|refine zbN ?_ _|refine zbD ?_|refine zbA ?_ _));refine blk_far ?_ NB352_384.out _;(with_reducible repeat (first|refine zbN ?_ _|refine zbD ?_|refine zbA ?_ _));refine blk_far ?_ NB352_384.out _;(with_reducible repeat (first|refine zbN ?_ _|refine zbD ?_|refine zbA ?_ _));refine blk_far ?_ NB352_384.out _;(with_reducible repeat (first|refine zbN ?_ _|refine zbD ?_|refine zbA ?_ _));refine blk_far ?_ NB352_384.out _;(with_reducible repeat (first|refine zbN ?_ _|refine zbD ?_|refine zbA ?_ _));exact BK352.out⟩
         have n5_:Aside0 ((((((((w43.setCell ⟨gb384,0,none⟩ (.int .i64 t374)).setCell ⟨gb384,1,none⟩ (.int .i64 t375)).setCell ⟨gb384,2,none⟩ (.int .i64 t376)).setCell ⟨gb384,3,none⟩ (.int .i64 t377)).setCell ⟨gb384,4,none⟩ (.int .i64 t378)).setCell ⟨gb384,5,none⟩ (.int .i64 t379)).setCell ⟨gb384,6,none⟩ (.slice Ao48 t380.length co48)).heap[gb353]?=some (.cells #[.int .i64 a1_0,.int .i64 a1_1,.int .i64 a1_2,.int .i64 a1_3,.int .i64 a1_4,.int .i64 a1_5,.slice A1_6 l1_6.length c1_6] 24 (0,0))):=⟨by (with_reducible repeat (first|refine zbN ?_ _|refine zbD ?_|refine zbA ?_ _));refine blk_far ?_ NB353_384.out _;(with_reducible repeat (first|refine zbN ?_ _|refine zbD ?_|refine zbA ?_ _));refine blk_far ?_ NB353_384.out _;(with_reducible repeat (first|refine zbN ?_ _|refine zbD ?_|refine zbA ?_ _));refine blk_far ?_ NB353_384.out _;(with_reducible repeat (first|refine zbN ?_ _|refine zbD ?_|refine zbA ?_ _));refine blk_far ?_ NB353_384.out _;(with_reducible repeat (first|refine zbN ?_ _|refine zbD ?_|refine zbA ?_ _));refine blk_far ?_ NB353_384.out _;(with_reducible repeat (first|refine zbN ?_ _|refine zbD ?_|refine zbA ?_ _));refine blk_far ?_ NB353_384.out _;(with_reducible repeat (first|refine zbN ?_ _|refine zbD ?_|refine zbA ?_ _));refine blk_far ?_ NB353_384.out _;(with_reducible repeat (first|refine zbN ?_ _|refine zbD ?_|refine zbA ?_ _));exact BK353.out⟩
         have n6_:Aside0 ((((((((w43.setCell ⟨gb384,0,none⟩ (.int .i64 t374)).setCell ⟨gb384,1,none⟩ (.int .i64 t375)).setCell ⟨gb384,2,none⟩ (.int .i64 t376)).setCell ⟨gb384,3,none⟩ (.int .i64 t377)).setCell ⟨gb384,4,none⟩ (.int .i64 t378)).setCell ⟨gb384,5,none⟩ (.int .i64 t379)).setCell ⟨gb384,6,none⟩ (.slice Ao48 t380.length co48)).heap[gb373]?=some (.cells #[.int .i64 t363,.int .i64 t364,.int .i64 t365,.int .i64 t366,.int .i64 t367,.int .i64 t368,.slice Ao41 t369.length co41] 24 (0,0))):=⟨by (with_reducible repeat (first|refine zbN ?_ _|refine zbD ?_|refine zbA ?_ _));refine blk_far ?_ NB373_384.out _;(with_reducible repeat (first|refine zbN ?_ _|refine zbD ?_|refine zbA ?_ _));refine blk_far ?_ NB373_384.out _;(with_reducible repeat (first|refine zbN ?_ _|refine zbD ?_|refine zbA ?_ _));refine blk_far ?_ NB373_384.out _;(with_reducible repeat (first|refine zbN ?_ _|refine zbD ?_|refine zbA ?_ _));refine blk_far ?_ NB373_384.out _;(with_reducible repeat (first|refine zbN ?_ _|refine zbD ?_|refine zbA ?_ _));refine blk_far ?_ NB373_384.out _;(with_reducible repeat (first|refine zbN ?_ _|refine zbD ?_|refine zbA ?_ _));refine blk_far ?_ NB373_384.out _;(with_reducible repeat (first|refine zbN ?_ _|refine zbD ?_|refine zbA ?_ _));refine blk_far ?_ NB373_384.out _;(with_reducible repeat (first|refine zbN ?_ _|refine zbD ?_|refine zbA ?_ _));exact BK373.out⟩
         have n7_:Aside0 ((((((((w43.setCell ⟨gb384,0,none⟩ (.int .i64 t374)).setCell ⟨gb384,1,none⟩ (.int .i64 t375)).setCell ⟨gb384,2,none⟩ (.int .i64 t376)).setCell ⟨gb384,3,none⟩ (.int .i64 t377)).setCell ⟨gb384,4,none⟩ (.int .i64 t378)).setCell ⟨gb384,5,none⟩ (.int .i64 t379)).setCell ⟨gb384,6,none⟩ (.slice Ao48 t380.length co48)).heap[gb384]?=some (.cells #[.int .i64 t374,.int .i64 t375,.int .i64 t376,.int .i64 t377,.int .i64 t378,.int .i64 t379,.slice Ao48 t380.length co48] 24 (0,0))):=⟨by (with_reducible repeat (first|refine zbN ?_ _|refine zbD ?_|refine zbA ?_ _));refine blk_put (cs:=#[.int .i64 t374,.int .i64 t375,.int .i64 t376,.int .i64 t377,.int .i64 t378,.int .i64 t379,.slice none 0 0]) ?_ 6 _ rfl;(with_reducible repeat (first|refine zbN ?_ _|refine zbD ?_|refine zbA ?_ _));refine blk_put (cs:=#[.int .i64 t374,.int .i64 t375,.int .i64 t376,.int .i64 t377,.int .i64 t378,.int .i64 0,.slice none 0 0]) ?_ 5 _ rfl;(with_reducible repeat (first|refine zbN ?_ _|refine zbD ?_|refine zbA ?_ _));refine blk_put (cs:=#[.int .i64 t374,.int .i64 t375,.int .i64 t376,.int .i64 t377,.int .i64 0,.int .i64 0,.slice none 0 0]) ?_ 4 _ rfl;(with_reducible repeat (first|refine zbN ?_ _|refine zbD ?_|refine zbA ?_ _));refine blk_put (cs:=#[.int .i64 t374,.int .i64 t375,.int .i64 t376,.int .i64 0,.int .i64 0,.int .i64 0,.slice none 0 0]) ?_ 3 _ rfl;(with_reducible repeat (first|refine zbN ?_ _|refine zbD ?_|refine zbA ?_ _));refine blk_put (cs:=#[.int .i64 t374,.int .i64 t375,.int .i64 0,.int .i64 0,.int .i64 0,.int .i64 0,.slice none 0 0]) ?_ 2 _ rfl;(with_reducible repeat (first|refine zbN ?_ _|refine zbD ?_|refine zbA ?_ _));refine blk_put (cs:=#[.int .i64 t374,.int .i64 0,.int .i64 0,.int .i64 0,.int .i64 0,.int .i64 0,.slice none 0 0]) ?_ 1 _ rfl;(with_reducible repeat (first|refine zbN ?_ _|refine zbD ?_|refine zbA ?_ _));refine blk_put (cs:=#[.int .i64 0,.int .i64 0,.int .i64 0,.int .i64 0,.int .i64 0,.int .i64 0,.slice none 0 0]) ?_ 0 _ rfl;(with_reducible repeat (first|refine zbN ?_ _|refine zbD ?_|refine zbA ?_ _));exact BK384.out⟩
         have n8_:Aside0 (Below w.heap.size w (((((((w43.setCell ⟨gb384,0,none⟩ (.int .i64 t374)).setCell ⟨gb384,1,none⟩ (.int .i64 t375)).setCell ⟨gb384,2,none⟩ (.int .i64 t376)).setCell ⟨gb384,3,none⟩ (.int .i64 t377)).setCell ⟨gb384,4,none⟩ (.int .i64 t378)).setCell ⟨gb384,5,none⟩ (.int .i64 t379)).setCell ⟨gb384,6,none⟩ (.slice Ao48 t380.length co48))):=⟨zb_⟩
         (try clear HO357)
         (try clear HO361)
         (try clear HO371)
         (try clear HO382)
         (try clear BK352)
         (try clear BK353)
         (try clear BK373)
         (try clear BK384)
         (try clear HB)
         generalize (((((((w43.setCell ⟨gb384,0,none⟩ (.int .i64 t374)).setCell ⟨gb384,1,none⟩ (.int .i64 t375)).setCell ⟨gb384,2,none⟩ (.int .i64 t376)).setCell ⟨gb384,3,none⟩ (.int .i64 t377)).setCell ⟨gb384,4,none⟩ (.int .i64 t378)).setCell ⟨gb384,5,none⟩ (.int .i64 t379)).setCell ⟨gb384,6,none⟩ (.slice Ao48 t380.length co48))=w49 at n0_ n1_ n2_ n3_ n4_ n5_ n6_ n7_ n8_ ⊢
         have HO357:=n0_
         have HO361:=n1_
         have HO371:=n2_
         have HO382:=n3_
         have BK352:=n4_
         have BK353:=n5_
         have BK373:=n6_
         have BK384:=n7_
         have HB:=n8_
         clear n0_ n1_ n2_ n3_ n4_ n5_ n6_ n7_ n8_
         have n0_:=zm (zrD HO357.out)
         have n1_:=zm (zrD HO361.out)
         have n2_:=zm (zrD HO371.out)
         have n3_:=zm (zrD HO382.out)
         have n4_:=zm (zbD BK352.out)
         have n5_:=zm (zbD BK353.out)
         have n6_:=zm (zbD BK373.out)
         have n7_:=zm (zbD BK384.out)
         have n8_:=zm (zlD HB.out)
         clear HO357 HO361 HO371 HO382 BK352 BK353 BK373 BK384 HB
         have HO357:=n0_
         have HO361:=n1_
         have HO371:=n2_
         have HO382:=n3_
         have BK352:=n4_
         have BK353:=n5_
         have BK373:=n6_
         have BK384:=n7_
         have HB:=n8_
         clear n0_ n1_ n2_ n3_ n4_ n5_ n6_ n7_ n8_
         obtain ⟨Ao51,co51,eo51⟩:=Kd.R_slice HO357.out
         (first|subst eo51|(injection eo51 with f1_ f2_ f3_;have f4_:=f1_.symm;have f5_:=f3_.symm;clear f1_ f2_ f3_;subst f4_;subst f5_))
         obtain ⟨Ao52,co52,eo52⟩:=Kd.R_slice HO361.out
         (first|subst eo52|(injection eo52 with f1_ f2_ f3_;have f4_:=f1_.symm;have f5_:=f3_.symm;clear f1_ f2_ f3_;subst f4_;subst f5_))
         refine start_ (n:=53) (S:=fun w'=>w'.cell? ⟨gb373,0,none⟩=some (.int .i64 t363)∧w'.cell? ⟨gb373,1,none⟩=some (.int .i64 t364)∧w'.cell? ⟨gb373,2,none⟩=some (.int .i64 t365)∧w'.cell? ⟨gb373,3,none⟩=some (.int .i64 t366)∧w'.cell? ⟨gb373,4,none⟩=some (.int .i64 t367)∧w'.cell? ⟨gb373,5,none⟩=some (.int .i64 t368)∧w'.cell? ⟨gb373,6,none⟩=some (.slice Ao41 t369.length co41)∧w'.cell? ⟨gb384,0,none⟩=some (.int .i64 t374)∧w'.cell? ⟨gb384,1,none⟩=some (.int .i64 t375)∧w'.cell? ⟨gb384,2,none⟩=some (.int .i64 t376)∧w'.cell? ⟨gb384,3,none⟩=some (.int .i64 t377)∧w'.cell? ⟨gb384,4,none⟩=some (.int .i64 t378)∧w'.cell? ⟨gb384,5,none⟩=some (.int .i64 t379)∧w'.cell? ⟨gb384,6,none⟩=some (.slice Ao48 t380.length co48)∧w'.cell? ⟨gb352,0,none⟩=some (.int .i64 a0_0)∧w'.cell? ⟨gb352,1,none⟩=some (.int .i64 a0_1)∧w'.cell? ⟨gb352,2,none⟩=some (.int .i64 a0_2)∧w'.cell? ⟨gb352,3,none⟩=some (.int .i64 a0_3)∧w'.cell? ⟨gb352,4,none⟩=some (.int .i64 a0_4)∧w'.cell? ⟨gb352,5,none⟩=some (.int .i64 a0_5)∧w'.cell? ⟨gb352,6,none⟩=some (.slice A0_6 l0_6.length c0_6)∧w'.cell? ⟨gb353,0,none⟩=some (.int .i64 a1_0)∧w'.cell? ⟨gb353,1,none⟩=some (.int .i64 a1_1)∧w'.cell? ⟨gb353,2,none⟩=some (.int .i64 a1_2)∧w'.cell? ⟨gb353,3,none⟩=some (.int .i64 a1_3)∧w'.cell? ⟨gb353,4,none⟩=some (.int .i64 a1_4)∧w'.cell? ⟨gb353,5,none⟩=some (.int .i64 a1_5)∧w'.cell? ⟨gb353,6,none⟩=some (.slice A1_6 l1_6.length c1_6)) (ds:=[]) (Array.replicate 53 false) (by kernel_rfl) rfl rfl ⟨(blk_cell BK373.out 0).trans rfl,(blk_cell BK373.out 1).trans rfl,(blk_cell BK373.out 2).trans rfl,(blk_cell BK373.out 3).trans rfl,(blk_cell BK373.out 4).trans rfl,(blk_cell BK373.out 5).trans rfl,(blk_cell BK373.out 6).trans rfl,(blk_cell BK384.out 0).trans rfl,(blk_cell BK384.out 1).trans rfl,(blk_cell BK384.out 2).trans rfl,(blk_cell BK384.out 3).trans rfl,(blk_cell BK384.out 4).trans rfl,(blk_cell BK384.out 5).trans rfl,(blk_cell BK384.out 6).trans rfl,(blk_cell BK352.out 0).trans rfl,(blk_cell BK352.out 1).trans rfl,(blk_cell BK352.out 2).trans rfl,(blk_cell BK352.out 3).trans rfl,(blk_cell BK352.out 4).trans rfl,(blk_cell BK352.out 5).trans rfl,(blk_cell BK352.out 6).trans rfl,(blk_cell BK353.out 0).trans rfl,(blk_cell BK353.out 1).trans rfl,(blk_cell BK353.out 2).trans rfl,(blk_cell BK353.out 3).trans rfl,(blk_cell BK353.out 4).trans rfl,(blk_cell BK353.out 5).trans rfl,(blk_cell BK353.out 6).trans rfl⟩ (fun hHeld=>?_);refine with_tabW slipwaylaw14_InodeMakes.tab7 slipwaylaw14_InodeMakes.bits7 (fun HT_ HW_=>?_)
         generalize w49.drew=w50 at HO357 HO361 HO371 HO382 BK352 BK353 BK373 BK384 HB hHeld ⊢
         refine zpu 0 ?_
         refine zpu 1 ?_
         refine zon 2 (some 39) (fun K hK=>?_)
         refine zgo Try.func11 #[.slice Ao51 t355.length co51,.slice Ao52 t359.length co52] ?_
         with_reducible refine (bytes_Equal.calls _ _ t355 _ _ t359 true _ ?side1 ?side2 ?side3 ?side4 A10.out).mono ?_
         (case side1=>repeat (first|exact (Kd.R_reads' HO357.out).2.2|(with_reducible refine Kd.C_alloc ?_ _)|(with_reducible refine Kd.C_drewN ?_ _)|(with_reducible refine Kd.C_drew ?_)))
         (case side2=>exact (Kd.R_reads' HO357.out).2.1)
         (case side3=>repeat (first|exact (Kd.R_reads' HO361.out).2.2|(with_reducible refine Kd.C_alloc ?_ _)|(with_reducible refine Kd.C_drewN ?_ _)|(with_reducible refine Kd.C_drew ?_)))
         (case side4=>exact (Kd.R_reads' HO361.out).2.1)
         rintro e w' ⟨rfl,⟨nd,rfl⟩⟩
         refine ⟨_,rfl,?_⟩
         refine hK.out _ _ ⟨(blk_cell BK373.out 0).trans rfl,(blk_cell BK373.out 1).trans rfl,(blk_cell BK373.out 2).trans rfl,(blk_cell BK373.out 3).trans rfl,(blk_cell BK373.out 4).trans rfl,(blk_cell BK373.out 5).trans rfl,(blk_cell BK373.out 6).trans rfl,(blk_cell BK384.out 0).trans rfl,(blk_cell BK384.out 1).trans rfl,(blk_cell BK384.out 2).trans rfl,(blk_cell BK384.out 3).trans rfl,(blk_cell BK384.out 4).trans rfl,(blk_cell BK384.out 5).trans rfl,(blk_cell BK384.out 6).trans rfl,(blk_cell BK352.out 0).trans rfl,(blk_cell BK352.out 1).trans rfl,(blk_cell BK352.out 2).trans rfl,(blk_cell BK352.out 3).trans rfl,(blk_cell BK352.out 4).trans rfl,(blk_cell BK352.out 5).trans rfl,(blk_cell BK352.out 6).trans rfl,(blk_cell BK353.out 0).trans rfl,(blk_cell BK353.out 1).trans rfl,(blk_cell BK353.out 2).trans rfl,(blk_cell BK353.out 3).trans rfl,(blk_cell BK353.out 4).trans rfl,(blk_cell BK353.out 5).trans rfl,(blk_cell BK353.out 6).trans rfl⟩ (fun hHeld=>?_)
         clear hK K
         refine znm (some 39) ?_
         refine zpu 3 ?_
         refine zpu 4 ?_
         refine zpu 5 ?_
         refine zpu 6 ?_
         refine zpu 7 ?_
         refine zpu 8 ?_
         refine zta 9 hHeld ?_
         refine zta 10 hHeld ?_
         refine zon 11 (some 48) (fun K hK=>?_)
         refine zgo Try.func10 #[.agg #[.int .i64 t363,.int .i64 t364,.int .i64 t365,.int .i64 t366,.int .i64 t367,.int .i64 t368,.slice Ao41 t369.length co41],.agg #[.int .i64 t374,.int .i64 t375,.int .i64 t376,.int .i64 t377,.int .i64 t378,.int .i64 t379,.slice Ao48 t380.length co48]] ?_
         with_reducible refine (slipwayref14_Same.calls k t363 t364 t365 t366 t367 t368 _ _ t369 t374 t375 t376 t377 t378 t379 _ _ t380 true _ ?side1 ?side2 ?side3 ?side4 A13.out).mono ?_
         (case side1=>repeat (first|exact (Kd.R_reads' HO371.out).2.2|(with_reducible refine Kd.C_alloc ?_ _)|(with_reducible refine Kd.C_drewN ?_ _)|(with_reducible refine Kd.C_drew ?_)))
         (case side2=>exact (Kd.R_reads' HO371.out).2.1)
         (case side3=>repeat (first|exact (Kd.R_reads' HO382.out).2.2|(with_reducible refine Kd.C_alloc ?_ _)|(with_reducible refine Kd.C_drewN ?_ _)|(with_reducible refine Kd.C_drew ?_)))
         (case side4=>exact (Kd.R_reads' HO382.out).2.1)
         rintro e w53 ⟨rfl,hb⟩
         refine ⟨_,rfl,?_⟩
         have n0_:=zm (Kd.R_below (by (with_reducible repeat (first|apply zrA|apply zrN|apply zrD));exact HO357.out) hb)
         have n1_:=zm (Kd.R_below (by (with_reducible repeat (first|apply zrA|apply zrN|apply zrD));exact HO361.out) hb)
         have n2_:=zm (Kd.R_below (by (with_reducible repeat (first|apply zrA|apply zrN|apply zrD));exact HO371.out) hb)
         have n3_:=zm (Kd.R_below (by (with_reducible repeat (first|apply zrA|apply zrN|apply zrD));exact HO382.out) hb)
         have n4_:=zkB BK352 hb
         have n5_:=zkB BK353 hb
         have n6_:=zkB BK373 hb
         have n7_:=zkB BK384 hb
         have n8_:=zkH HB hb
         clear HO357 HO361 HO371 HO382 BK352 BK353 BK373 BK384 HB
         have HO357:=n0_
         have HO361:=n1_
         have HO371:=n2_
         have HO382:=n3_
         have BK352:=n4_
         have BK353:=n5_
         have BK373:=n6_
         have BK384:=n7_
         have HB:=n8_
         clear n0_ n1_ n2_ n3_ n4_ n5_ n6_ n7_ n8_
         (try clear hb)
         (try clear hb2)
         (try clear hk)
         (try clear hi)
         refine hK.out _ _ ⟨(blk_cell BK373.out 0).trans rfl,(blk_cell BK373.out 1).trans rfl,(blk_cell BK373.out 2).trans rfl,(blk_cell BK373.out 3).trans rfl,(blk_cell BK373.out 4).trans rfl,(blk_cell BK373.out 5).trans rfl,(blk_cell BK373.out 6).trans rfl,(blk_cell BK384.out 0).trans rfl,(blk_cell BK384.out 1).trans rfl,(blk_cell BK384.out 2).trans rfl,(blk_cell BK384.out 3).trans rfl,(blk_cell BK384.out 4).trans rfl,(blk_cell BK384.out 5).trans rfl,(blk_cell BK384.out 6).trans rfl,(blk_cell BK352.out 0).trans rfl,(blk_cell BK352.out 1).trans rfl,(blk_cell BK352.out 2).trans rfl,(blk_cell BK352.out 3).trans rfl,(blk_cell BK352.out 4).trans rfl,(blk_cell BK352.out 5).trans rfl,(blk_cell BK352.out 6).trans rfl,(blk_cell BK353.out 0).trans rfl,(blk_cell BK353.out 1).trans rfl,(blk_cell BK353.out 2).trans rfl,(blk_cell BK353.out 3).trans rfl,(blk_cell BK353.out 4).trans rfl,(blk_cell BK353.out 5).trans rfl,(blk_cell BK353.out 6).trans rfl⟩ (fun hHeld=>?_)
         clear hK K
         refine znm (some 48) ?_
         refine zpu 12 ?_
         refine zpu 13 ?_
         refine zpu 14 ?_
         refine zpu 15 ?_
         refine zpu 16 ?_
         refine zpu 17 ?_
         refine zpu 18 ?_
         refine zta 19 hHeld ?_
         refine zta 21 hHeld ?_
         refine zon 20 (some 57) (fun K hK=>?_)
         refine zgo Try.func14 #[.agg #[.int .i64 a0_0,.int .i64 a0_1,.int .i64 a0_2,.int .i64 a0_3,.int .i64 a0_4,.int .i64 a0_5,.slice A0_6 l0_6.length c0_6]] ?_
         with_reducible refine (inode_Check.calls k a0_0 a0_1 a0_2 a0_3 a0_4 a0_5 _ _ l0_6 t387 _ ?side1 ?side2 A16.out).mono ?_
         (case side1=>exact zC HR0_6)
         (case side2=>exact HC0_6.out)
         rintro e w54 ⟨rfl,hb⟩
         refine ⟨_,rfl,?_⟩
         have n0_:=zm (Kd.R_below (by (with_reducible repeat (first|apply zrA|apply zrN|apply zrD));exact HO357.out) hb)
         have n1_:=zm (Kd.R_below (by (with_reducible repeat (first|apply zrA|apply zrN|apply zrD));exact HO361.out) hb)
         have n2_:=zm (Kd.R_below (by (with_reducible repeat (first|apply zrA|apply zrN|apply zrD));exact HO371.out) hb)
         have n3_:=zm (Kd.R_below (by (with_reducible repeat (first|apply zrA|apply zrN|apply zrD));exact HO382.out) hb)
         have n4_:=zkB BK352 hb
         have n5_:=zkB BK353 hb
         have n6_:=zkB BK373 hb
         have n7_:=zkB BK384 hb
         have n8_:=zkH HB hb
         clear HO357 HO361 HO371 HO382 BK352 BK353 BK373 BK384 HB
         have HO357:=n0_
         have HO361:=n1_
         have HO371:=n2_
         have HO382:=n3_
         have BK352:=n4_
         have BK353:=n5_
         have BK373:=n6_
         have BK384:=n7_
         have HB:=n8_
         clear n0_ n1_ n2_ n3_ n4_ n5_ n6_ n7_ n8_
         (try clear hb)
         (try clear hb2)
         (try clear hk)
         (try clear hi)
         refine hK.out _ _ ⟨(blk_cell BK373.out 0).trans rfl,(blk_cell BK373.out 1).trans rfl,(blk_cell BK373.out 2).trans rfl,(blk_cell BK373.out 3).trans rfl,(blk_cell BK373.out 4).trans rfl,(blk_cell BK373.out 5).trans rfl,(blk_cell BK373.out 6).trans rfl,(blk_cell BK384.out 0).trans rfl,(blk_cell BK384.out 1).trans rfl,(blk_cell BK384.out 2).trans rfl,(blk_cell BK384.out 3).trans rfl,(blk_cell BK384.out 4).trans rfl,(blk_cell BK384.out 5).trans rfl,(blk_cell BK384.out 6).trans rfl,(blk_cell BK352.out 0).trans rfl,(blk_cell BK352.out 1).trans rfl,(blk_cell BK352.out 2).trans rfl,(blk_cell BK352.out 3).trans rfl,(blk_cell BK352.out 4).trans rfl,(blk_cell BK352.out 5).trans rfl,(blk_cell BK352.out 6).trans rfl,(blk_cell BK353.out 0).trans rfl,(blk_cell BK353.out 1).trans rfl,(blk_cell BK353.out 2).trans rfl,(blk_cell BK353.out 3).trans rfl,(blk_cell BK353.out 4).trans rfl,(blk_cell BK353.out 5).trans rfl,(blk_cell BK353.out 6).trans rfl⟩ (fun hHeld=>?_)
         clear hK K
         refine znm (some 57) ?_
         refine zon 22 (some 59) (fun K hK=>?_)
         refine zgo Try.func15 #[.agg #[.int .i64 a0_0,.int .i64 a0_1,.int .i64 a0_2,.int .i64 a0_3,.int .i64 a0_4,.int .i64 a0_5,.slice A0_6 l0_6.length c0_6]] ?_
         with_reducible refine (slipwayref14_Check.calls k a0_0 a0_1 a0_2 a0_3 a0_4 a0_5 _ _ l0_6 t388 _ ?side1 ?side2 A17.out).mono ?_
         (case side1=>exact zC HR0_6)
         (case side2=>exact HC0_6.out)
         rintro e w55 ⟨rfl,hb⟩
         refine ⟨_,rfl,?_⟩
         have n0_:=zm (Kd.R_below (by (with_reducible repeat (first|apply zrA|apply zrN|apply zrD));exact HO357.out) hb)
         have n1_:=zm (Kd.R_below (by (with_reducible repeat (first|apply zrA|apply zrN|apply zrD));exact HO361.out) hb)
         have n2_:=zm (Kd.R_below (by (with_reducible repeat (first|apply zrA|apply zrN|apply zrD));exact HO371.out) hb)
         have n3_:=zm (Kd.R_below (by (with_reducible repeat (first|apply zrA|apply zrN|apply zrD));exact HO382.out) hb)
         have n4_:=zkB BK352 hb
         have n5_:=zkB BK353 hb
         have n6_:=zkB BK373 hb
         have n7_:=zkB BK384 hb
         have n8_:=zkH HB hb
         clear HO357 HO361 HO371 HO382 BK352 BK353 BK373 BK384 HB
         have HO357:=n0_
         have HO361:=n1_
         have HO371:=n2_
         have HO382:=n3_
         have BK352:=n4_
         have BK353:=n5_
         have BK373:=n6_
         have BK384:=n7_
         have HB:=n8_
         clear n0_ n1_ n2_ n3_ n4_ n5_ n6_ n7_ n8_
         (try clear hb)
         (try clear hb2)
         (try clear hk)
         (try clear hi)
         refine hK.out _ _ ⟨(blk_cell BK373.out 0).trans rfl,(blk_cell BK373.out 1).trans rfl,(blk_cell BK373.out 2).trans rfl,(blk_cell BK373.out 3).trans rfl,(blk_cell BK373.out 4).trans rfl,(blk_cell BK373.out 5).trans rfl,(blk_cell BK373.out 6).trans rfl,(blk_cell BK384.out 0).trans rfl,(blk_cell BK384.out 1).trans rfl,(blk_cell BK384.out 2).trans rfl,(blk_cell BK384.out 3).trans rfl,(blk_cell BK384.out 4).trans rfl,(blk_cell BK384.out 5).trans rfl,(blk_cell BK384.out 6).trans rfl,(blk_cell BK352.out 0).trans rfl,(blk_cell BK352.out 1).trans rfl,(blk_cell BK352.out 2).trans rfl,(blk_cell BK352.out 3).trans rfl,(blk_cell BK352.out 4).trans rfl,(blk_cell BK352.out 5).trans rfl,(blk_cell BK352.out 6).trans rfl,(blk_cell BK353.out 0).trans rfl,(blk_cell BK353.out 1).trans rfl,(blk_cell BK353.out 2).trans rfl,(blk_cell BK353.out 3).trans rfl,(blk_cell BK353.out 4).trans rfl,(blk_cell BK353.out 5).trans rfl,(blk_cell BK353.out 6).trans rfl⟩ (fun hHeld=>?_)
         clear hK K
         refine znm (some 59) ?_
         refine zpu 23 ?_
         refine zpu 24 ?_
         refine zpu 25 ?_
         refine zta 26 hHeld ?_
         refine zta 27 hHeld ?_
         refine zta 29 hHeld ?_
         refine zta 30 hHeld ?_
         refine zon 28 (some 65) (fun K hK=>?_)
         refine zgo Try.func16 #[.agg #[.int .i64 a0_0,.int .i64 a0_1,.int .i64 a0_2,.int .i64 a0_3,.int .i64 a0_4,.int .i64 a0_5,.slice A0_6 l0_6.length c0_6],.agg #[.int .i64 a1_0,.int .i64 a1_1,.int .i64 a1_2,.int .i64 a1_3,.int .i64 a1_4,.int .i64 a1_5,.slice A1_6 l1_6.length c1_6]] ?_
         with_reducible refine (inode_Same.calls k a0_0 a0_1 a0_2 a0_3 a0_4 a0_5 _ _ l0_6 a1_0 a1_1 a1_2 a1_3 a1_4 a1_5 _ _ l1_6 t389 _ ?side1 ?side2 ?side3 ?side4 A19.out).mono ?_
         (case side1=>exact zC HR0_6)
         (case side2=>exact HC0_6.out)
         (case side3=>exact zC HR1_6)
         (case side4=>exact HC1_6.out)
         rintro e w56 ⟨rfl,hb⟩
         refine ⟨_,rfl,?_⟩
         have n0_:=zm (Kd.R_below (by (with_reducible repeat (first|apply zrA|apply zrN|apply zrD));exact HO357.out) hb)
         have n1_:=zm (Kd.R_below (by (with_reducible repeat (first|apply zrA|apply zrN|apply zrD));exact HO361.out) hb)
         have n2_:=zm (Kd.R_below (by (with_reducible repeat (first|apply zrA|apply zrN|apply zrD));exact HO371.out) hb)
         have n3_:=zm (Kd.R_below (by (with_reducible repeat (first|apply zrA|apply zrN|apply zrD));exact HO382.out) hb)
         have n4_:=zkB BK352 hb
         have n5_:=zkB BK353 hb
         have n6_:=zkB BK373 hb
         have n7_:=zkB BK384 hb
         have n8_:=zkH HB hb
         clear HO357 HO361 HO371 HO382 BK352 BK353 BK373 BK384 HB
         have HO357:=n0_
         have HO361:=n1_
         have HO371:=n2_
         have HO382:=n3_
         have BK352:=n4_
         have BK353:=n5_
         have BK373:=n6_
         have BK384:=n7_
         have HB:=n8_
         clear n0_ n1_ n2_ n3_ n4_ n5_ n6_ n7_ n8_
         (try clear hb)
         (try clear hb2)
         (try clear hk)
         (try clear hi)
         refine hK.out _ _ ⟨(blk_cell BK373.out 0).trans rfl,(blk_cell BK373.out 1).trans rfl,(blk_cell BK373.out 2).trans rfl,(blk_cell BK373.out 3).trans rfl,(blk_cell BK373.out 4).trans rfl,(blk_cell BK373.out 5).trans rfl,(blk_cell BK373.out 6).trans rfl,(blk_cell BK384.out 0).trans rfl,(blk_cell BK384.out 1).trans rfl,(blk_cell BK384.out 2).trans rfl,(blk_cell BK384.out 3).trans rfl,(blk_cell BK384.out 4).trans rfl,(blk_cell BK384.out 5).trans rfl,(blk_cell BK384.out 6).trans rfl,(blk_cell BK352.out 0).trans rfl,(blk_cell BK352.out 1).trans rfl,(blk_cell BK352.out 2).trans rfl,(blk_cell BK352.out 3).trans rfl,(blk_cell BK352.out 4).trans rfl,(blk_cell BK352.out 5).trans rfl,(blk_cell BK352.out 6).trans rfl,(blk_cell BK353.out 0).trans rfl,(blk_cell BK353.out 1).trans rfl,(blk_cell BK353.out 2).trans rfl,(blk_cell BK353.out 3).trans rfl,(blk_cell BK353.out 4).trans rfl,(blk_cell BK353.out 5).trans rfl,(blk_cell BK353.out 6).trans rfl⟩ (fun hHeld=>?_)
         clear hK K
         refine znm (some 65) ?_
         refine zon 31 (some 68) (fun K hK=>?_)
         refine zgo Try.func10 #[.agg #[.int .i64 a0_0,.int .i64 a0_1,.int .i64 a0_2,.int .i64 a0_3,.int .i64 a0_4,.int .i64 a0_5,.slice A0_6 l0_6.length c0_6],.agg #[.int .i64 a1_0,.int .i64 a1_1,.int .i64 a1_2,.int .i64 a1_3,.int .i64 a1_4,.int .i64 a1_5,.slice A1_6 l1_6.length c1_6]] ?_
         with_reducible refine (slipwayref14_Same.calls k a0_0 a0_1 a0_2 a0_3 a0_4 a0_5 _ _ l0_6 a1_0 a1_1 a1_2 a1_3 a1_4 a1_5 _ _ l1_6 t390 _ ?side1 ?side2 ?side3 ?side4 A20.out).mono ?_
         (case side1=>exact zC HR0_6)
         (case side2=>exact HC0_6.out)
         (case side3=>exact zC HR1_6)
         (case side4=>exact HC1_6.out)
         rintro e w57 ⟨rfl,hb⟩
         refine ⟨_,rfl,?_⟩
         have n0_:=zm (Kd.R_below (by (with_reducible repeat (first|apply zrA|apply zrN|apply zrD));exact HO357.out) hb)
         have n1_:=zm (Kd.R_below (by (with_reducible repeat (first|apply zrA|apply zrN|apply zrD));exact HO361.out) hb)
         have n2_:=zm (Kd.R_below (by (with_reducible repeat (first|apply zrA|apply zrN|apply zrD));exact HO371.out) hb)
         have n3_:=zm (Kd.R_below (by (with_reducible repeat (first|apply zrA|apply zrN|apply zrD));exact HO382.out) hb)
         have n4_:=zkB BK352 hb
         have n5_:=zkB BK353 hb
         have n6_:=zkB BK373 hb
         have n7_:=zkB BK384 hb
         have n8_:=zkH HB hb
         clear HO357 HO361 HO371 HO382 BK352 BK353 BK373 BK384 HB
         have HO357:=n0_
         have HO361:=n1_
         have HO371:=n2_
         have HO382:=n3_
         have BK352:=n4_
         have BK353:=n5_
         have BK373:=n6_
         have BK384:=n7_
         have HB:=n8_
         clear n0_ n1_ n2_ n3_ n4_ n5_ n6_ n7_ n8_
         (try clear hb)
         (try clear hb2)
         (try clear hk)
         (try clear hi)
         refine hK.out _ _ ⟨(blk_cell BK373.out 0).trans rfl,(blk_cell BK373.out 1).trans rfl,(blk_cell BK373.out 2).trans rfl,(blk_cell BK373.out 3).trans rfl,(blk_cell BK373.out 4).trans rfl,(blk_cell BK373.out 5).trans rfl,(blk_cell BK373.out 6).trans rfl,(blk_cell BK384.out 0).trans rfl,(blk_cell BK384.out 1).trans rfl,(blk_cell BK384.out 2).trans rfl,(blk_cell BK384.out 3).trans rfl,(blk_cell BK384.out 4).trans rfl,(blk_cell BK384.out 5).trans rfl,(blk_cell BK384.out 6).trans rfl,(blk_cell BK352.out 0).trans rfl,(blk_cell BK352.out 1).trans rfl,(blk_cell BK352.out 2).trans rfl,(blk_cell BK352.out 3).trans rfl,(blk_cell BK352.out 4).trans rfl,(blk_cell BK352.out 5).trans rfl,(blk_cell BK352.out 6).trans rfl,(blk_cell BK353.out 0).trans rfl,(blk_cell BK353.out 1).trans rfl,(blk_cell BK353.out 2).trans rfl,(blk_cell BK353.out 3).trans rfl,(blk_cell BK353.out 4).trans rfl,(blk_cell BK353.out 5).trans rfl,(blk_cell BK353.out 6).trans rfl⟩ (fun hHeld=>?_)
         clear hK K
         refine znm (some 68) ?_
         refine zpu 32 ?_
         refine zpu 33 ?_
         refine zpu 34 ?_
         refine zpu 35 ?_
         refine zpu 38 ?_
         refine zta 36 hHeld ?_
         refine zta 39 hHeld ?_
         refine zon 37 (some 74) (fun K hK=>?_)
         refine zgo Try.func17 #[.int .i64 a0_4] ?_
         with_reducible refine (inode_Free.calls a0_4 t391 t392 t393 t394 t395 t396 t397 _ A22.out).mono ?_
         rintro e w58 ⟨v398,rfl,ho0,hb⟩
         refine ⟨_,rfl,?_⟩
         have n0_:=zm (Kd.R_below (by (with_reducible repeat (first|apply zrA|apply zrN|apply zrD));exact HO357.out) hb)
         have n1_:=zm (Kd.R_below (by (with_reducible repeat (first|apply zrA|apply zrN|apply zrD));exact HO361.out) hb)
         have n2_:=zm (Kd.R_elder' (by (with_reducible repeat (first|apply zrA|apply zrN|apply zrD));exact HO371.out) (Kd.R_base ho0) hb)
         have n3_:=zm (Kd.R_elder' (by (with_reducible repeat (first|apply zrA|apply zrN|apply zrD));exact HO382.out) (Kd.R_base ho0) hb)
         have n4_:=zm (Kd.R_lower (Kd.R_new' (Kd.R_new' ho0 (Kd.R_lt (by (with_reducible repeat (first|apply zrA|apply zrN|apply zrD));exact HO371.out))) (Kd.R_lt (by (with_reducible repeat (first|apply zrA|apply zrN|apply zrD));exact HO382.out))) (below_size (zb_)))
         have n5_:=zkB BK352 hb
         have n6_:=zkB BK353 hb
         have n7_:=zkB BK373 hb
         have n8_:=zkB BK384 hb
         have n9_:=zkH HB hb
         clear HO357 HO361 HO371 HO382 BK352 BK353 BK373 BK384 HB
         have HO357:=n0_
         have HO361:=n1_
         have HO371:=n2_
         have HO382:=n3_
         have HO399:=n4_
         have BK352:=n5_
         have BK353:=n6_
         have BK373:=n7_
         have BK384:=n8_
         have HB:=n9_
         clear n0_ n1_ n2_ n3_ n4_ n5_ n6_ n7_ n8_ n9_
         (try clear hb)
         (try clear hb2)
         (try clear hk)
         (try clear hi)
         (try clear ho0)
         refine hK.out _ _ ⟨(blk_cell BK373.out 0).trans rfl,(blk_cell BK373.out 1).trans rfl,(blk_cell BK373.out 2).trans rfl,(blk_cell BK373.out 3).trans rfl,(blk_cell BK373.out 4).trans rfl,(blk_cell BK373.out 5).trans rfl,(blk_cell BK373.out 6).trans rfl,(blk_cell BK384.out 0).trans rfl,(blk_cell BK384.out 1).trans rfl,(blk_cell BK384.out 2).trans rfl,(blk_cell BK384.out 3).trans rfl,(blk_cell BK384.out 4).trans rfl,(blk_cell BK384.out 5).trans rfl,(blk_cell BK384.out 6).trans rfl,(blk_cell BK352.out 0).trans rfl,(blk_cell BK352.out 1).trans rfl,(blk_cell BK352.out 2).trans rfl,(blk_cell BK352.out 3).trans rfl,(blk_cell BK352.out 4).trans rfl,(blk_cell BK352.out 5).trans rfl,(blk_cell BK352.out 6).trans rfl,(blk_cell BK353.out 0).trans rfl,(blk_cell BK353.out 1).trans rfl,(blk_cell BK353.out 2).trans rfl,(blk_cell BK353.out 3).trans rfl,(blk_cell BK353.out 4).trans rfl,(blk_cell BK353.out 5).trans rfl,(blk_cell BK353.out 6).trans rfl⟩ (fun hHeld=>?_)
         clear hK K
         refine znm (some 74) ?_
         refine zon 40 (some 77) (fun K hK=>?_)
         refine zgo Try.func18 #[.int .i64 a0_4] ?_
         with_reducible refine (slipwayref14_Free.calls k a0_4 t400 t401 t402 t403 t404 t405 t406 _ A23.out).mono ?_
         rintro e w59 ⟨v407,rfl,ho0,hb⟩
         refine ⟨_,rfl,?_⟩
         have n0_:=zm (Kd.R_below (by (with_reducible repeat (first|apply zrA|apply zrN|apply zrD));exact HO357.out) hb)
         have n1_:=zm (Kd.R_below (by (with_reducible repeat (first|apply zrA|apply zrN|apply zrD));exact HO361.out) hb)
         have n2_:=zm (Kd.R_elder' (by (with_reducible repeat (first|apply zrA|apply zrN|apply zrD));exact HO371.out) (Kd.R_base ho0) hb)
         have n3_:=zm (Kd.R_elder' (by (with_reducible repeat (first|apply zrA|apply zrN|apply zrD));exact HO382.out) (Kd.R_base ho0) hb)
         have n4_:=zm (Kd.R_elder' (by (with_reducible repeat (first|apply zrA|apply zrN|apply zrD));exact HO399.out) (Kd.R_base ho0) hb)
         have n5_:=zm (Kd.R_lower (Kd.R_new' (Kd.R_new' (Kd.R_new' ho0 (Kd.R_lt (by (with_reducible repeat (first|apply zrA|apply zrN|apply zrD));exact HO371.out))) (Kd.R_lt (by (with_reducible repeat (first|apply zrA|apply zrN|apply zrD));exact HO382.out))) (Kd.R_lt (by (with_reducible repeat (first|apply zrA|apply zrN|apply zrD));exact HO399.out))) (below_size (zb_)))
         have n6_:=zkB BK352 hb
         have n7_:=zkB BK353 hb
         have n8_:=zkB BK373 hb
         have n9_:=zkB BK384 hb
         have n10_:=zkH HB hb
         clear HO357 HO361 HO371 HO382 HO399 BK352 BK353 BK373 BK384 HB
         have HO357:=n0_
         have HO361:=n1_
         have HO371:=n2_
         have HO382:=n3_
         have HO399:=n4_
         have HO408:=n5_
         have BK352:=n6_
         have BK353:=n7_
         have BK373:=n8_
         have BK384:=n9_
         have HB:=n10_
         clear n0_ n1_ n2_ n3_ n4_ n5_ n6_ n7_ n8_ n9_ n10_
         (try clear hb)
         (try clear hb2)
         (try clear hk)
         (try clear hi)
         (try clear ho0)
         obtain ⟨Ao60,co60,eo60⟩:=Kd.R_slice HO399.out
         (first|subst eo60|(injection eo60 with f1_ f2_ f3_;have f4_:=f1_.symm;have f5_:=f3_.symm;clear f1_ f2_ f3_;subst f4_;subst f5_))
         obtain ⟨Ao61,co61,eo61⟩:=Kd.R_slice HO408.out
         (first|subst eo61|(injection eo61 with f1_ f2_ f3_;have f4_:=f1_.symm;have f5_:=f3_.symm;clear f1_ f2_ f3_;subst f4_;subst f5_))
         refine hK.out _ _ ⟨(blk_cell BK373.out 0).trans rfl,(blk_cell BK373.out 1).trans rfl,(blk_cell BK373.out 2).trans rfl,(blk_cell BK373.out 3).trans rfl,(blk_cell BK373.out 4).trans rfl,(blk_cell BK373.out 5).trans rfl,(blk_cell BK373.out 6).trans rfl,(blk_cell BK384.out 0).trans rfl,(blk_cell BK384.out 1).trans rfl,(blk_cell BK384.out 2).trans rfl,(blk_cell BK384.out 3).trans rfl,(blk_cell BK384.out 4).trans rfl,(blk_cell BK384.out 5).trans rfl,(blk_cell BK384.out 6).trans rfl,(blk_cell BK352.out 0).trans rfl,(blk_cell BK352.out 1).trans rfl,(blk_cell BK352.out 2).trans rfl,(blk_cell BK352.out 3).trans rfl,(blk_cell BK352.out 4).trans rfl,(blk_cell BK352.out 5).trans rfl,(blk_cell BK352.out 6).trans rfl,(blk_cell BK353.out 0).trans rfl,(blk_cell BK353.out 1).trans rfl,(blk_cell BK353.out 2).trans rfl,(blk_cell BK353.out 3).trans rfl,(blk_cell BK353.out 4).trans rfl,(blk_cell BK353.out 5).trans rfl,(blk_cell BK353.out 6).trans rfl⟩ (fun hHeld=>?_)
         clear hK K
         refine znm (some 77) ?_
         refine zon 41 (some 78) (fun K hK=>?_)
         refine zgo Try.func10 #[.agg #[.int .i64 t391,.int .i64 t392,.int .i64 t393,.int .i64 t394,.int .i64 t395,.int .i64 t396,.slice Ao60 t397.length co60],.agg #[.int .i64 t400,.int .i64 t401,.int .i64 t402,.int .i64 t403,.int .i64 t404,.int .i64 t405,.slice Ao61 t406.length co61]] ?_
         with_reducible refine (slipwayref14_Same.calls k t391 t392 t393 t394 t395 t396 _ _ t397 t400 t401 t402 t403 t404 t405 _ _ t406 true _ ?side1 ?side2 ?side3 ?side4 A24.out).mono ?_
         (case side1=>repeat (first|exact (Kd.R_reads' HO399.out).2.2|(with_reducible refine Kd.C_alloc ?_ _)|(with_reducible refine Kd.C_drewN ?_ _)|(with_reducible refine Kd.C_drew ?_)))
         (case side2=>exact (Kd.R_reads' HO399.out).2.1)
         (case side3=>repeat (first|exact (Kd.R_reads' HO408.out).2.2|(with_reducible refine Kd.C_alloc ?_ _)|(with_reducible refine Kd.C_drewN ?_ _)|(with_reducible refine Kd.C_drew ?_)))
         (case side4=>exact (Kd.R_reads' HO408.out).2.1)
         rintro e w62 ⟨rfl,hb⟩
         refine ⟨_,rfl,?_⟩
         have n0_:=zm (Kd.R_below (by (with_reducible repeat (first|apply zrA|apply zrN|apply zrD));exact HO357.out) hb)
         have n1_:=zm (Kd.R_below (by (with_reducible repeat (first|apply zrA|apply zrN|apply zrD));exact HO361.out) hb)
         have n2_:=zm (Kd.R_below (by (with_reducible repeat (first|apply zrA|apply zrN|apply zrD));exact HO371.out) hb)
         have n3_:=zm (Kd.R_below (by (with_reducible repeat (first|apply zrA|apply zrN|apply zrD));exact HO382.out) hb)
         have n4_:=zm (Kd.R_below (by (with_reducible repeat (first|apply zrA|apply zrN|apply zrD));exact HO399.out) hb)
         have n5_:=zm (Kd.R_below (by (with_reducible repeat (first|apply zrA|apply zrN|apply zrD));exact HO408.out) hb)
         have n6_:=zkB BK352 hb
         have n7_:=zkB BK353 hb
         have n8_:=zkB BK373 hb
         have n9_:=zkB BK384 hb
         have n10_:=zkH HB hb
         clear HO357 HO361 HO371 HO382 HO399 HO408 BK352 BK353 BK373 BK384 HB
         have HO357:=n0_
         have HO361:=n1_
         have HO371:=n2_
         have HO382:=n3_
         have HO399:=n4_
         have HO408:=n5_
         have BK352:=n6_
         have BK353:=n7_
         have BK373:=n8_
         have BK384:=n9_
         have HB:=n10_
         clear n0_ n1_ n2_ n3_ n4_ n5_ n6_ n7_ n8_ n9_ n10_
         (try clear hb)
         (try clear hb2)
         (try clear hk)
         (try clear hi)
         refine hK.out _ _ ⟨(blk_cell BK373.out 0).trans rfl,(blk_cell BK373.out 1).trans rfl,(blk_cell BK373.out 2).trans rfl,(blk_cell BK373.out 3).trans rfl,(blk_cell BK373.out 4).trans rfl,(blk_cell BK373.out 5).trans rfl,(blk_cell BK373.out 6).trans rfl,(blk_cell BK384.out 0).trans rfl,(blk_cell BK384.out 1).trans rfl,(blk_cell BK384.out 2).trans rfl,(blk_cell BK384.out 3).trans rfl,(blk_cell BK384.out 4).trans rfl,(blk_cell BK384.out 5).trans rfl,(blk_cell BK384.out 6).trans rfl,(blk_cell BK352.out 0).trans rfl,(blk_cell BK352.out 1).trans rfl,(blk_cell BK352.out 2).trans rfl,(blk_cell BK352.out 3).trans rfl,(blk_cell BK352.out 4).trans rfl,(blk_cell BK352.out 5).trans rfl,(blk_cell BK352.out 6).trans rfl,(blk_cell BK353.out 0).trans rfl,(blk_cell BK353.out 1).trans rfl,(blk_cell BK353.out 2).trans rfl,(blk_cell BK353.out 3).trans rfl,(blk_cell BK353.out 4).trans rfl,(blk_cell BK353.out 5).trans rfl,(blk_cell BK353.out 6).trans rfl⟩ (fun hHeld=>?_)
         clear hK K
         refine znm (some 78) ?_
         refine zpu 42 ?_
         refine zpu 43 ?_
         refine zpu 44 ?_
         refine zpu 47 ?_
         refine zta 45 hHeld ?_
         refine zta 48 hHeld ?_
         refine zon 46 (some 83) (fun K hK=>?_)
         refine zgo Try.func19 #[.int .i64 a0_2] ?_
         with_reducible refine (inode_Blocks.calls a0_2 t410 _ A26.out).mono ?_
         rintro e w' ⟨rfl,⟨nd,rfl⟩⟩
         refine ⟨_,rfl,?_⟩
         refine hK.out _ _ ⟨(blk_cell BK373.out 0).trans rfl,(blk_cell BK373.out 1).trans rfl,(blk_cell BK373.out 2).trans rfl,(blk_cell BK373.out 3).trans rfl,(blk_cell BK373.out 4).trans rfl,(blk_cell BK373.out 5).trans rfl,(blk_cell BK373.out 6).trans rfl,(blk_cell BK384.out 0).trans rfl,(blk_cell BK384.out 1).trans rfl,(blk_cell BK384.out 2).trans rfl,(blk_cell BK384.out 3).trans rfl,(blk_cell BK384.out 4).trans rfl,(blk_cell BK384.out 5).trans rfl,(blk_cell BK384.out 6).trans rfl,(blk_cell BK352.out 0).trans rfl,(blk_cell BK352.out 1).trans rfl,(blk_cell BK352.out 2).trans rfl,(blk_cell BK352.out 3).trans rfl,(blk_cell BK352.out 4).trans rfl,(blk_cell BK352.out 5).trans rfl,(blk_cell BK352.out 6).trans rfl,(blk_cell BK353.out 0).trans rfl,(blk_cell BK353.out 1).trans rfl,(blk_cell BK353.out 2).trans rfl,(blk_cell BK353.out 3).trans rfl,(blk_cell BK353.out 4).trans rfl,(blk_cell BK353.out 5).trans rfl,(blk_cell BK353.out 6).trans rfl⟩ (fun hHeld=>?_)
         clear hK K
         refine znm (some 83) ?_
         refine zon 49 (some 86) (fun K hK=>?_)
         refine zgo Try.func20 #[.int .i64 a0_2] ?_
         with_reducible refine (slipwayref14_Blocks.calls a0_2 t411 _ A27.out).mono ?_
         rintro e w' ⟨rfl,⟨nd,rfl⟩⟩
         refine ⟨_,rfl,?_⟩
         refine hK.out _ _ ⟨(blk_cell BK373.out 0).trans rfl,(blk_cell BK373.out 1).trans rfl,(blk_cell BK373.out 2).trans rfl,(blk_cell BK373.out 3).trans rfl,(blk_cell BK373.out 4).trans rfl,(blk_cell BK373.out 5).trans rfl,(blk_cell BK373.out 6).trans rfl,(blk_cell BK384.out 0).trans rfl,(blk_cell BK384.out 1).trans rfl,(blk_cell BK384.out 2).trans rfl,(blk_cell BK384.out 3).trans rfl,(blk_cell BK384.out 4).trans rfl,(blk_cell BK384.out 5).trans rfl,(blk_cell BK384.out 6).trans rfl,(blk_cell BK352.out 0).trans rfl,(blk_cell BK352.out 1).trans rfl,(blk_cell BK352.out 2).trans rfl,(blk_cell BK352.out 3).trans rfl,(blk_cell BK352.out 4).trans rfl,(blk_cell BK352.out 5).trans rfl,(blk_cell BK352.out 6).trans rfl,(blk_cell BK353.out 0).trans rfl,(blk_cell BK353.out 1).trans rfl,(blk_cell BK353.out 2).trans rfl,(blk_cell BK353.out 3).trans rfl,(blk_cell BK353.out 4).trans rfl,(blk_cell BK353.out 5).trans rfl,(blk_cell BK353.out 6).trans rfl⟩ (fun hHeld=>?_)
         clear hK K
         refine znm (some 86) ?_
         refine zpu 50 ?_
         refine zpu 51 ?_
         refine zpu 52 ?_
         refine zdo ?_
         try go_wp2
         go_ret
         exact ⟨ze_,zb_⟩
        ·replace c25:=Bool.eq_false_iff.mpr c25
         subst c25
         have H1:(none)=some r:=by rw [if_neg (show ¬ (false=true) by decide)] at H;exact H
         clear H
         have H:=H1
         clear H1
         exact absurd H (by simp)
       ·rw [if_neg c21] at H
        have c21b0:(t389 == t390)=false:=by simpa using c21
        (try (have c21b1:decide (t389=t390)=false:=by simpa using c21))
        (try (have c21b2:(t389 == t390)=false:=by simpa using c21))
        (try (have c21b3:¬ (t389=t390):=by simpa using c21))
        clear c21
        exact absurd H (by simp)
      ·rw [if_neg c18] at H
       have c18b0:(t387 == t388)=false:=beq_eq_false_iff_ne.mpr c18
       have c18b1:(t387 != t388)=true:=bne_iff_ne.mpr c18
       exact absurd H (by simp)
     ·rw [if_neg c15] at H
      have c15b0:(t372 == t383)=false:=beq_eq_false_iff_ne.mpr c15
      have c15b1:(t372 != t383)=true:=bne_iff_ne.mpr c15
      exact absurd H (by simp)
    ·replace c14:=Bool.eq_false_iff.mpr c14
     subst c14
     have H1:(none)=some r:=by rw [if_neg (show ¬ (false=true) by decide)] at H;exact H
     clear H
     have H:=H1
     clear H1
     exact absurd H (by simp)
   ·rw [if_neg c12] at H
    have c12b0:(t358 == t362)=false:=beq_eq_false_iff_ne.mpr c12
    have c12b1:(t358 != t362)=true:=bne_iff_ne.mpr c12
    exact absurd H (by simp)
  ·replace c11:=Bool.eq_false_iff.mpr c11
   subst c11
   have H1:(none)=some r:=by rw [if_neg (show ¬ (false=true) by decide)] at H;exact H
   clear H
   have H:=H1
   clear H1
   exact absurd H (by simp)
 ·replace c5:=Bool.eq_false_iff.mpr c5
  subst c5
  have H1:(none)=some r:=by rw [if_neg (show ¬ (false=true) by decide)] at H;exact H
  clear H
  have H:=H1
  clear H1
  exact absurd H (by simp)
def slipwaylaw14_InodeMakes.Pure:Prop:=∀ (a0_0:Int) (a0_1:Int) (a0_2:Int) (a0_3:Int) (a0_4:Int) (a0_5:Int) (l0_6:List (S51)) (a1_0:Int) (a1_1:Int) (a1_2:Int) (a1_3:Int) (a1_4:Int) (a1_5:Int) (l1_6:List (S51)) (l2:List Int),(Lit.int .i64 a0_0).wf=true → (Lit.int .i64 a0_1).wf=true → (Lit.int .i64 a0_2).wf=true → (Lit.int .i64 a0_3).wf=true → (Lit.int .i64 a0_4).wf=true → (Lit.int .i64 a0_5).wf=true → (l0_6.length≤maxLen∧l0_6.length * 24≤140737488351232∧∀ x ∈ l0_6,((Lit.int .i64 x.f0).wf=true∧((Lit.int .i64 x.f1).wf=true∧(Lit.int .i64 x.f2).wf=true))) → (Lit.int .i64 a1_0).wf=true → (Lit.int .i64 a1_1).wf=true → (Lit.int .i64 a1_2).wf=true → (Lit.int .i64 a1_3).wf=true → (Lit.int .i64 a1_4).wf=true → (Lit.int .i64 a1_5).wf=true → (l1_6.length≤maxLen∧l1_6.length * 24≤140737488351232∧∀ x ∈ l1_6,((Lit.int .i64 x.f0).wf=true∧((Lit.int .i64 x.f1).wf=true∧(Lit.int .i64 x.f2).wf=true))) → (l2.length≤maxLen∧l2.length * 1≤140737488351232∧∀ x ∈ l2,(Lit.int .u8 x).wf=true) → ∃ k,slipwaylaw14_InodeMakes.f k a0_0 a0_1 a0_2 a0_3 a0_4 a0_5 l0_6 a1_0 a1_1 a1_2 a1_3 a1_4 a1_5 l1_6 l2=some true
theorem slipwaylaw14_InodeMakes.walk (P:slipwaylaw14_InodeMakes.Pure) (a0_0:Int) (a0_1:Int) (a0_2:Int) (a0_3:Int) (a0_4:Int) (a0_5:Int) (A0_6:Option Addr) (c0_6:Nat) (l0_6:List (S51)) (a1_0:Int) (a1_1:Int) (a1_2:Int) (a1_3:Int) (a1_4:Int) (a1_5:Int) (A1_6:Option Addr) (c1_6:Nat) (l1_6:List (S51)) (A2:Option Addr) (c2:Nat) (l2:List Int) (w:World) (hr0_6:Kd.C k51 w A0_6 l0_6.length l0_6) (hc0_6:l0_6.length≤c0_6) (hr1_6:Kd.C k51 w A1_6 l1_6.length l1_6) (hc1_6:l1_6.length≤c1_6) (hr2:Kd.C (Kd.int .u8) w A2 l2.length l2) (hc2:l2.length≤c2) (w0_0:(Lit.int .i64 a0_0).wf=true) (w0_1:(Lit.int .i64 a0_1).wf=true) (w0_2:(Lit.int .i64 a0_2).wf=true) (w0_3:(Lit.int .i64 a0_3).wf=true) (w0_4:(Lit.int .i64 a0_4).wf=true) (w0_5:(Lit.int .i64 a0_5).wf=true) (w0_6:(l0_6.length≤maxLen∧l0_6.length * 24≤140737488351232∧∀ x ∈ l0_6,((Lit.int .i64 x.f0).wf=true∧((Lit.int .i64 x.f1).wf=true∧(Lit.int .i64 x.f2).wf=true)))) (w1_0:(Lit.int .i64 a1_0).wf=true) (w1_1:(Lit.int .i64 a1_1).wf=true) (w1_2:(Lit.int .i64 a1_2).wf=true) (w1_3:(Lit.int .i64 a1_3).wf=true) (w1_4:(Lit.int .i64 a1_4).wf=true) (w1_5:(Lit.int .i64 a1_5).wf=true) (w1_6:(l1_6.length≤maxLen∧l1_6.length * 24≤140737488351232∧∀ x ∈ l1_6,((Lit.int .i64 x.f0).wf=true∧((Lit.int .i64 x.f1).wf=true∧(Lit.int .i64 x.f2).wf=true)))) (w2:(l2.length≤maxLen∧l2.length * 1≤140737488351232∧∀ x ∈ l2,(Lit.int .u8 x).wf=true)) :
  Calls Try.prog 4 #[.agg #[.int .i64 a0_0,.int .i64 a0_1,.int .i64 a0_2,.int .i64 a0_3,.int .i64 a0_4,.int .i64 a0_5,.slice A0_6 l0_6.length c0_6],.agg #[.int .i64 a1_0,.int .i64 a1_1,.int .i64 a1_2,.int .i64 a1_3,.int .i64 a1_4,.int .i64 a1_5,.slice A1_6 l1_6.length c1_6],.slice A2 l2.length c2] w fun e w'=>e=.returned (.bool true)∧Below w.heap.size w w':=by
 obtain ⟨k,h⟩:=P a0_0 a0_1 a0_2 a0_3 a0_4 a0_5 l0_6 a1_0 a1_1 a1_2 a1_3 a1_4 a1_5 l1_6 l2 w0_0 w0_1 w0_2 w0_3 w0_4 w0_5 w0_6 w1_0 w1_1 w1_2 w1_3 w1_4 w1_5 w1_6 w2
 refine (slipwaylaw14_InodeMakes.calls k a0_0 a0_1 a0_2 a0_3 a0_4 a0_5 A0_6 c0_6 l0_6 a1_0 a1_1 a1_2 a1_3 a1_4 a1_5 A1_6 c1_6 l1_6 A2 c2 l2 true w hr0_6 hc0_6 hr1_6 hc1_6 hr2 hc2 h).mono ?_
 rintro e w' ⟨rfl,hd⟩
 exact ⟨rfl,hd⟩
end Go.Proofs.Ytjoojmodghpimaa.Print
end
