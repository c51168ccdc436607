/- Texts of the proof of BitmapTells, part 17. -/
import Derived.Test.YtllodfjbenmlpaaBitmapTellsMA
import Derived.Test.YtllodfjbenmlpaaBitmapTellsM16
section
namespace Go.Proofs.Ytllodfjbenmlpaa.Print
open Go.RowKit Go.Proofs.YtllodfjbenmlpaaW.PrintWords Go.Proofs.YtllodfjbenmlpaaW.PrintLast Go.Proofs.YtllodfjbenmlpaaW.PrintMore
attribute [local go_sem] max2_int min2_int max_two min_two max_three min_three max_four min_four   -- for this text's walks alone
attribute [local go_sem ↓] Go.Proofs.Ytllodfjbenmlpaa.Sem.isSome_setCell
attribute [local go_sem] Go.Instr.field Go.asAgg
set_option linter.unusedVariables false
set_option linter.unusedSimpArgs false
def slipwayref12_Runs.l0:Nat → List Int → Int → List (S36) → Int → Option ((List (S36)))
 | 0,_,_,_,_=>none
 | k + 1,x0,x1,x5,x6=>if x6 < x1 then ((slipwayref12_bit.f x0 x6).bind fun t257=>(if t257=true then (slipwayref12_Runs.l0 k x0 x1 x5 (wrap64 (x6 + 1))) else (if (x5.length:Int) > 0 then (if 0≤(wrap64 ((x5.length:Int) - 1)) then (if (wrap64 ((x5.length:Int) - 1)) < (x5.length:Int) then (if (wrap64 (((rd_T36 x5 (wrap64 ((x5.length:Int) - 1))).f0) + ((rd_T36 x5 (wrap64 ((x5.length:Int) - 1))).f1)))=x6 then (slipwayref12_Runs.l0 k x0 x1 (x5.set ((wrap64 ((x5.length:Int) - 1)):Int).toNat (⟨(rd_T36 x5 (wrap64 ((x5.length:Int) - 1))).f0,wrap64 (((rd_T36 x5 (wrap64 ((x5.length:Int) - 1))).f1) + 1)⟩:S36)) (wrap64 (x6 + 1))) else (if x5.length < 8796093022208 then (slipwayref12_Runs.l0 k x0 x1 (x5 ++ [(⟨x6,1⟩:S36)]) (wrap64 (x6 + 1))) else (none))) else (none)) else (none)) else (if x5.length < 8796093022208 then (slipwayref12_Runs.l0 k x0 x1 (x5 ++ [(⟨x6,1⟩:S36)]) (wrap64 (x6 + 1))) else (none))))) else (some x5)
def slipwayref12_Runs.f (k:Nat) (l0:List Int) (a1:Int):Option ((List (S36))):=(slipwayref12_Check.f k l0 a1).bind fun t253=>(if t253=0 then (slipwayref12_Runs.l0 k l0 a1 ([]:List (S36)) 0) else (if 0≤281474976710656 then (some ([]:List (S36))) else (none)))
set_option maxHeartbeats 8000000 in
set_option maxRecDepth 100000 in
theorem slipwayref12_Runs.no (k:Nat) (A0:Option Addr) (c0:Nat) (l0:List Int) (a1:Int) (t:Int) (w:World) (hr0:Kd.C (Kd.int .u8) w A0 l0.length l0) (hc0:l0.length≤c0) (h:slipwayref12_Check.f k l0 a1=some t) (ht:¬ t=0) :
  Calls Try.prog 22 #[.slice A0 l0.length c0,.int .i64 a1] w fun e w'=>∃ v0_:Value,e=.returned (v0_)∧Kd.R k36 36 w' w.heap.size (fun _=>True) v0_ ([]:List S36)∧Below w.heap.size w w':=by
 go_enter Try.func22,Try.ntmps22
 go_wp2_with (first|((with_reducible refine gate_callee (f:=40) rfl ?_);refine goesL_ (some 10) rfl rfl Try.func40 (by kernel_rfl) rfl #[.slice A0 l0.length c0,.int .i64 a1] rfl (by (try simp only [List.map_toArray,List.map_cons,List.map_nil]);first|done|rfl|(simp only [List.length_drop,List.length_take];rfl)) ?_;(with_reducible refine (slipwayref12_may.no k _ _ l0 a1 t _ hr0 hc0 h ht).mono ?_);rintro e w' ⟨g,rfl,hb⟩;refine ⟨_,rfl,?_⟩))
 go_loop [5,6] (fun l i=>l=.slice none 0 0∧i=.int .i64 0) (fun _ _=>0)
 case atStart=>exact ⟨rfl,rfl⟩
 case round =>
  obtain ⟨rfl,rfl⟩:=hrel
  go_wp2
  go_ret
  exact ⟨_,rfl,Kd.R_nil _ _ _ _ _,hb⟩
set_option maxHeartbeats 8000000 in
set_option maxRecDepth 100000 in
theorem slipwayref12_Runs.calls (k:Nat) (A0:Option Addr) (c0:Nat) (l0:List Int) (a1:Int) (r:List (S36)) (w:World) (hr0:Kd.C (Kd.int .u8) w A0 l0.length l0) (hc0:l0.length≤c0) (h:slipwayref12_Runs.f k l0 a1=some r) :
  Calls Try.prog 22 #[.slice A0 l0.length c0,.int .i64 a1] w fun e w'=>∃ v0_:Value,e=.returned (v0_)∧Kd.R k36 36 w' w.heap.size (fun _=>True) v0_ r∧Below w.heap.size w w':=by
 have hu36:=Try.underlying36
 have HR0:=zm hr0
 have HC0:=zm hc0
 clear hr0 hc0
 have HB:=zm (Below.refl w.heap.size w)
 have H:((slipwayref12_Check.f k l0 a1).bind fun t253=>(if t253=0 then (slipwayref12_Runs.l0 k l0 a1 ([]:List (S36)) 0) else (if 0≤281474976710656 then (some ([]:List (S36))) else (none))))=some r:=h
 clear h
 replace H:=Option.bind_eq_some_iff.mp H
 obtain ⟨t253,A30,H⟩:=H
 replace H:(if t253=0 then (slipwayref12_Runs.l0 k l0 a1 ([]:List (S36)) 0) else (if 0≤281474976710656 then (some ([]:List (S36))) else (none)))=some r:=H
 have A3:=zm A30
 clear A30
 by_cases c4:t253=0
 ·rw [if_pos c4] at H
  have c4b0:(t253 == 0)=true:=beq_iff_eq.mpr c4
  have c4b1:(t253 != 0)=false:=bne_eq_false_iff_eq.mpr c4
  clear c4
  have H':=zm H
  clear H
  go_enter Try.func22,Try.ntmps22
  go_wp2_with (first|(go_at_call 40;(with_reducible refine (slipwayref12_may.ok k _ _ l0 a1 _ ?side1 ?side2 (A3.out.trans (congrArg some (eq_of_beq c4b0)))).mono ?_);(case side1=>repeat (first|exact HR0.out|(with_reducible refine Kd.C_alloc ?_ _)|(with_reducible refine Kd.C_drewN ?_ _)|(with_reducible refine Kd.C_drew ?_)));(case side2=>exact HC0.out);rintro e w' ⟨rfl,⟨nd,rfl⟩⟩;(try first|exact ⟨rfl,_,World.drewN_drewN _ _ _⟩|exact ⟨rfl,_,Eq.trans (World.drewN_drewN _ _ _) (congrArg (World.drewN _) (Nat.add_assoc _ _ _))⟩)))
  repeat (go_quiet (first|(go_at_call 40;(with_reducible refine (slipwayref12_may.ok k _ _ l0 a1 _ ?side1 ?side2 (A3.out.trans (congrArg some (eq_of_beq c4b0)))).mono ?_);(case side1=>repeat (first|exact HR0.out|(with_reducible refine Kd.C_alloc ?_ _)|(with_reducible refine Kd.C_drewN ?_ _)|(with_reducible refine Kd.C_drew ?_)));(case side2=>exact HC0.out);rintro e w' ⟨rfl,⟨nd,rfl⟩⟩;(try first|exact ⟨rfl,_,World.drewN_drewN _ _ _⟩|exact ⟨rfl,_,Eq.trans (World.drewN_drewN _ _ _) (congrArg (World.drewN _) (Nat.add_assoc _ _ _))⟩)));try go_wp2_with (first|(go_at_call 40;(with_reducible refine (slipwayref12_may.ok k _ _ l0 a1 _ ?side1 ?side2 (A3.out.trans (congrArg some (eq_of_beq c4b0)))).mono ?_);(case side1=>repeat (first|exact HR0.out|(with_reducible refine Kd.C_alloc ?_ _)|(with_reducible refine Kd.C_drewN ?_ _)|(with_reducible refine Kd.C_drew ?_)));(case side2=>exact HC0.out);rintro e w' ⟨rfl,⟨nd,rfl⟩⟩;(try first|exact ⟨rfl,_,World.drewN_drewN _ _ _⟩|exact ⟨rfl,_,Eq.trans (World.drewN_drewN _ _ _) (congrArg (World.drewN _) (Nat.add_assoc _ _ _))⟩))))
  go_loopg [5,6] k (fun kq v5 v6 w'=>∃ (x5_1:List (S36)) (x6_1:Int),v6=.int .i64 x6_1∧Aside0 (slipwayref12_Runs.l0 kq l0 a1 x5_1 x6_1=some r)∧Aside0 (kq≤k)∧Aside0 (Kd.R k36 36 w' w.heap.size (fun _=>True) v5 x5_1)∧Aside0 (Below w.heap.size w w'))
  case atStart=>exact ⟨(([]:List (S36))),(0),(by first|rfl|(simp;done)|(simp [*];done)),H',⟨Nat.le_refl _⟩,⟨by first|exact Kd.R_nil _ _ _ _ _|exact Kd.N_nil _ _ _ _ _|exact Kd.V_nil _ _ _ _ _|exact Kd.Q_nil _ _ _ _ _|exact Kd.S_nil _ _ _ _ _⟩,⟨by repeat (first|(with_reducible first|exact HB.out|apply zlA|apply zlN|apply zlD)|exact HB.out)⟩⟩
  case round =>
   clear H'
   try clear c2
   try clear p2
   try clear c4
   try clear c4b0
   try clear c4b1
   obtain ⟨x5_1,x6_1,rfl,HA,HK1,HO_5,HB⟩:=hrel
   cases gk with
   | zero=>exact absurd HA.out (by simp [slipwayref12_Runs.l0])
   | succ k1 =>
    have H:=HA.out
    clear HA
    simp only [slipwayref12_Runs.l0] at H
    by_cases c5:x6_1 < a1
    ·rw [if_pos c5] at H
     have c5b0:decide (x6_1 < a1)=true:=decide_eq_true c5
     clear c5
     replace H:=Option.bind_eq_some_iff.mp H
     obtain ⟨t257,A60,H⟩:=H
     replace H:(if t257=true then (slipwayref12_Runs.l0 k1 l0 a1 x5_1 (wrap64 (x6_1 + 1))) else (if (x5_1.length:Int) > 0 then (if 0≤(wrap64 ((x5_1.length:Int) - 1)) then (if (wrap64 ((x5_1.length:Int) - 1)) < (x5_1.length:Int) then (if (wrap64 (((rd_T36 x5_1 (wrap64 ((x5_1.length:Int) - 1))).f0) + ((rd_T36 x5_1 (wrap64 ((x5_1.length:Int) - 1))).f1)))=x6_1 then (slipwayref12_Runs.l0 k1 l0 a1 (x5_1.set ((wrap64 ((x5_1.length:Int) - 1)):Int).toNat (⟨(rd_T36 x5_1 (wrap64 ((x5_1.length:Int) - 1))).f0,wrap64 (((rd_T36 x5_1 (wrap64 ((x5_1.length:Int) - 1))).f1) + 1)⟩:S36)) (wrap64 (x6_1 + 1))) else (if x5_1.length < 8796093022208 then (slipwayref12_Runs.l0 k1 l0 a1 (x5_1 ++ [(⟨x6_1,1⟩:S36)]) (wrap64 (x6_1 + 1))) else (none))) else (none)) else (none)) else (if x5_1.length < 8796093022208 then (slipwayref12_Runs.l0 k1 l0 a1 (x5_1 ++ [(⟨x6_1,1⟩:S36)]) (wrap64 (x6_1 + 1))) else (none))))=some r:=H
     have A6:=zm A60
     clear A60
     by_cases c7:t257=true
     ·subst c7
      have H1:(slipwayref12_Runs.l0 k1 l0 a1 x5_1 (wrap64 (x6_1 + 1)))=some r:=by rw [if_pos rfl] at H;exact H
      clear H
      have H:=H1
      clear H1
      have H':=zm H
      clear H
      go_wp2_with (first|(go_at_call 39;(with_reducible refine (slipwayref12_bit.calls _ _ l0 x6_1 true _ ?side1 ?side2 A6.out).mono ?_);(case side1=>repeat (first|exact (Kd.C_below HR0.out HB.out)|(with_reducible refine Kd.C_alloc ?_ _)|(with_reducible refine Kd.C_drewN ?_ _)|(with_reducible refine Kd.C_drew ?_)));(case side2=>exact HC0.out);rintro e w' ⟨rfl,⟨nd,rfl⟩⟩;(try first|exact ⟨rfl,_,World.drewN_drewN _ _ _⟩|exact ⟨rfl,_,Eq.trans (World.drewN_drewN _ _ _) (congrArg (World.drewN _) (Nat.add_assoc _ _ _))⟩)))
      repeat (go_quiet (first|(go_at_call 39;(with_reducible refine (slipwayref12_bit.calls _ _ l0 x6_1 true _ ?side1 ?side2 A6.out).mono ?_);(case side1=>repeat (first|exact (Kd.C_below HR0.out HB.out)|(with_reducible refine Kd.C_alloc ?_ _)|(with_reducible refine Kd.C_drewN ?_ _)|(with_reducible refine Kd.C_drew ?_)));(case side2=>exact HC0.out);rintro e w' ⟨rfl,⟨nd,rfl⟩⟩;(try first|exact ⟨rfl,_,World.drewN_drewN _ _ _⟩|exact ⟨rfl,_,Eq.trans (World.drewN_drewN _ _ _) (congrArg (World.drewN _) (Nat.add_assoc _ _ _))⟩)));try go_wp2_with (first|(go_at_call 39;(with_reducible refine (slipwayref12_bit.calls _ _ l0 x6_1 true _ ?side1 ?side2 A6.out).mono ?_);(case side1=>repeat (first|exact (Kd.C_below HR0.out HB.out)|(with_reducible refine Kd.C_alloc ?_ _)|(with_reducible refine Kd.C_drewN ?_ _)|(with_reducible refine Kd.C_drew ?_)));(case side2=>exact HC0.out);rintro e w' ⟨rfl,⟨nd,rfl⟩⟩;(try first|exact ⟨rfl,_,World.drewN_drewN _ _ _⟩|exact ⟨rfl,_,Eq.trans (World.drewN_drewN _ _ _) (congrArg (World.drewN _) (Nat.add_assoc _ _ _))⟩))))
      go_roundg k1
      case measure=>have:=HK1.out;omega
      case rel=>exact ⟨(x5_1),(wrap64 (x6_1 + 1)),(by first|rfl|(simp;done)|(simp [*];done)),H',⟨by have:=HK1.out;omega⟩,⟨by (with_reducible repeat (first|apply zrA|apply zrN|apply zrD));exact HO_5.out⟩,⟨by repeat (first|(with_reducible first|exact HB.out|apply zlA|apply zlN|apply zlD)|exact HB.out)⟩⟩
     ·replace c7:=Bool.eq_false_iff.mpr c7
      subst c7
      have H1:(if (x5_1.length:Int) > 0 then (if 0≤(wrap64 ((x5_1.length:Int) - 1)) then (if (wrap64 ((x5_1.length:Int) - 1)) < (x5_1.length:Int) then (if (wrap64 (((rd_T36 x5_1 (wrap64 ((x5_1.length:Int) - 1))).f0) + ((rd_T36 x5_1 (wrap64 ((x5_1.length:Int) - 1))).f1)))=x6_1 then (slipwayref12_Runs.l0 k1 l0 a1 (x5_1.set ((wrap64 ((x5_1.length:Int) - 1)):Int).toNat (⟨(rd_T36 x5_1 (wrap64 ((x5_1.length:Int) - 1))).f0,wrap64 (((rd_T36 x5_1 (wrap64 ((x5_1.length:Int) - 1))).f1) + 1)⟩:S36)) (wrap64 (x6_1 + 1))) else (if x5_1.length < 8796093022208 then (slipwayref12_Runs.l0 k1 l0 a1 (x5_1 ++ [(⟨x6_1,1⟩:S36)]) (wrap64 (x6_1 + 1))) else (none))) else (none)) else (none)) else (if x5_1.length < 8796093022208 then (slipwayref12_Runs.l0 k1 l0 a1 (x5_1 ++ [(⟨x6_1,1⟩:S36)]) (wrap64 (x6_1 + 1))) else (none)))=some r:=by rw [if_neg (show ¬ (false=true) by decide)] at H;exact H
      clear H
      have H:=H1
      clear H1
      by_cases c8:(x5_1.length:Int) > 0
      ·rw [if_pos c8] at H
       have c8b0:decide (0 < (x5_1.length:Int))=true:=decide_eq_true c8
       have c8b1:decide (0 < x5_1.length)=true:=decide_eq_true (by omega)
       clear c8
       obtain ⟨ji9,hji9⟩:∃ j_:Int,(wrap64 ((x5_1.length:Int) - 1))=j_:=⟨_,rfl⟩
       replace H:(if 0≤(ji9) then (if (ji9) < (x5_1.length:Int) then (if (wrap64 (((rd_T36 x5_1 (ji9)).f0) + ((rd_T36 x5_1 (ji9)).f1)))=x6_1 then (slipwayref12_Runs.l0 k1 l0 a1 (x5_1.set ((ji9):Int).toNat (⟨(rd_T36 x5_1 (ji9)).f0,wrap64 (((rd_T36 x5_1 (ji9)).f1) + 1)⟩:S36)) (wrap64 (x6_1 + 1))) else (if x5_1.length < 8796093022208 then (slipwayref12_Runs.l0 k1 l0 a1 (x5_1 ++ [(⟨x6_1,1⟩:S36)]) (wrap64 (x6_1 + 1))) else (none))) else (none)) else (none))=some r:=by first|(rw [hji9] at H;exact H)|(simp only [hji9] at H ⊢;exact H)
       (try rw [hji9] at A6)
       have hji9w:(IntKind.i64.wrap ((x5_1.length:Int) - 1))=ji9:=(i64_w _).trans hji9
       by_cases c10:0≤(ji9)
       ·rw [if_pos c10] at H
        have c10b0:decide (0≤(ji9))=true:=decide_eq_true c10
        clear c10
        by_cases c11:(ji9) < (x5_1.length:Int)
        ·rw [if_pos c11] at H
         have c11b0:decide ((ji9) < (x5_1.length:Int))=true:=decide_eq_true c11
         clear c11
         by_cases c12:(wrap64 (((rd_T36 x5_1 (ji9)).f0) + ((rd_T36 x5_1 (ji9)).f1)))=x6_1
         ·rw [if_pos c12] at H
          have c12b0:((wrap64 (((rd_T36 x5_1 (ji9)).f0) + ((rd_T36 x5_1 (ji9)).f1))) == x6_1)=true:=beq_iff_eq.mpr c12
          have c12b1:((wrap64 (((rd_T36 x5_1 (ji9)).f0) + ((rd_T36 x5_1 (ji9)).f1))) != x6_1)=false:=bne_eq_false_iff_eq.mpr c12
          clear c12
          obtain ⟨y261,hy261⟩:∃ y_:List (S36),y_=(x5_1.set ((ji9):Int).toNat (⟨(rd_T36 x5_1 (ji9)).f0,wrap64 (((rd_T36 x5_1 (ji9)).f1) + 1)⟩:S36)):=⟨_,rfl⟩
          replace H:(slipwayref12_Runs.l0 k1 l0 a1 y261 (wrap64 (x6_1 + 1)))=some r:=by first|(rw [hy261];with_reducible exact H)|(have H2_:=(Option.bind_some _ _).symm.trans H;rw [hy261];with_reducible exact H2_)|(have H2_:=(Option.bind_some _ _).symm.trans H;with_reducible exact H2_)|with_reducible exact H|(rw [hy261];exact H)|exact H
          have Ny261:=zm hy261
          clear hy261
          have H':=zm H
          clear H
          go_wp2_with (first|(go_at_call 39;(with_reducible refine (slipwayref12_bit.calls _ _ l0 x6_1 false _ ?side1 ?side2 A6.out).mono ?_);(case side1=>repeat (first|exact (Kd.C_below HR0.out HB.out)|(with_reducible refine Kd.C_alloc ?_ _)|(with_reducible refine Kd.C_drewN ?_ _)|(with_reducible refine Kd.C_drew ?_)));(case side2=>exact HC0.out);rintro e w' ⟨rfl,⟨nd,rfl⟩⟩;(try first|exact ⟨rfl,_,World.drewN_drewN _ _ _⟩|exact ⟨rfl,_,Eq.trans (World.drewN_drewN _ _ _) (congrArg (World.drewN _) (Nat.add_assoc _ _ _))⟩);obtain ⟨Ao14,co14,eo14⟩:=Kd.R_slice HO_5.out;subst eo14;have p258:0≤((ji9):Int):=of_decide_eq_true (by first|(with_reducible assumption)|assumption);have q258:(ji9) < (x5_1.length:Int):=of_decide_eq_true (by first|(with_reducible assumption)|assumption);obtain ⟨ad258,e258,hx258_0,hx258_1⟩:=at_T36 (Kd.R_reads' HO_5.out).2.2 (ji9) p258 q258;cases e258;replace p258:=eq_true p258;replace q258:=eq_true q258;have p259:0≤((ji9):Int):=of_decide_eq_true (by first|(with_reducible assumption)|assumption);have q259:(ji9) < (x5_1.length:Int):=of_decide_eq_true (by first|(with_reducible assumption)|assumption);obtain ⟨ad259,e259,hx259_0,hx259_1⟩:=at_T36 (Kd.R_reads' HO_5.out).2.2 (ji9) p259 q259;obtain rfl:ad258=ad259:=(by injection e259);replace p259:=eq_true p259;replace q259:=eq_true q259;have p260:0≤((ji9):Int):=of_decide_eq_true (by first|(with_reducible assumption)|assumption);have q260:(ji9) < (x5_1.length:Int):=of_decide_eq_true (by first|(with_reducible assumption)|assumption);obtain ⟨ad260,e260,hx260_0,hx260_1⟩:=at_T36 (Kd.R_reads' HO_5.out).2.2 (ji9) p260 q260;obtain rfl:ad258=ad260:=(by injection e260);replace p260:=eq_true p260;replace q260:=eq_true q260;have p13:0≤((ji9):Int):=of_decide_eq_true (by first|(with_reducible assumption)|assumption);have q13:((ji9):Int) < ((x5_1.length:Int):Int):=of_decide_eq_true (by first|(with_reducible assumption)|assumption);obtain ⟨go13,co13,eo13,gb13,gl13,cl13,HG13⟩:=Kd.R_form HO_5.out (by omega);(first|cases eo13|(injection eo13 with ea_ en_ ec_;(first|subst ea_|(injection ea_ with ea_;subst ea_));subst ec_;clear en_));have GB13:=zm gb13;have GG13:=zm HG13;clear gb13 gl13 HG13;(first|simp only [add_plain] at hx258_0|skip);(first|simp only [add_plain] at hx258_1|skip);(first|simp only [add_plain] at hx259_0|skip);(first|simp only [add_plain] at hx259_1|skip);(first|simp only [add_plain] at hx260_0|skip);(first|simp only [add_plain] at hx260_1|skip);obtain ⟨ce13,hcl13,hM13,hcc13,hfr13⟩:=Kd.R_elem HO_5.out z36 ((ji9):Int) p13 q13;obtain rfl:=k36_openM hM13;have hx13_0:wr.cell? ⟨go13,((ji9):Int).toNat * 2,none⟩=some (.int .i64 ((rd_T36 x5_1 (ji9)).f0)):=hcc13 0 _ rfl;have hx13_1:wr.cell? ⟨go13,((ji9):Int).toNat * 2 + 1,none⟩=some (.int .i64 ((rd_T36 x5_1 (ji9)).f1)):=hcc13 1 _ rfl;have hf13_0:wr.frozen? ⟨go13,((ji9):Int).toNat * 2,none⟩=false:=hfr13 0;have hf13_1:wr.frozen? ⟨go13,((ji9):Int).toNat * 2 + 1,none⟩=false:=hfr13 1;clear hcl13 hcc13 hfr13 hM13;replace p13:=eq_true p13;replace q13:=eq_true q13;have HX15:=zm (show Kd.R k36 36 wr w.heap.size (fun _=>True) (.slice (some ⟨go13,0,none⟩) x5_1.length co14) x5_1 from (by (with_reducible repeat (first|apply zrA|apply zrN|apply zrD));exact HO_5.out));obtain ⟨ce15,hcl15,hM15,hcc15,hfr15⟩:=Kd.R_elem HX15.out z36 ((ji9):Int) (of_decide_eq_true (by first|(with_reducible assumption)|assumption)) (by have h_:((ji9):Int) < ((x5_1.length:Int):Int):=of_decide_eq_true (by first|(with_reducible assumption)|assumption);first|exact h_|(have e_:=(Kd.R_reads' HO_5.out).1;omega)|simpa using h_);obtain rfl:=k36_openM hM15;have HP15:=Kd.R_seg HX15.out ((ji9):Int) (of_decide_eq_true (by first|(with_reducible assumption)|assumption)) (by have h_:((ji9):Int) < ((x5_1.length:Int):Int):=of_decide_eq_true (by first|(with_reducible assumption)|assumption);first|exact h_|(have e_:=(Kd.R_reads' HO_5.out).1;omega)|simpa using h_) (seg:=[.int .i64 (wrap64 (((rd_T36 x5_1 (ji9)).f1) + 1))]) (j:=1) hcl15 hcc15 (show 2≤2 from by decide) (x':=(⟨(rd_T36 x5_1 (ji9)).f0,wrap64 (((rd_T36 x5_1 (ji9)).f1) + 1)⟩:S36)) (k36_mkM _ _ _ (⟨(rd_T36 x5_1 (ji9)).f0,wrap64 (((rd_T36 x5_1 (ji9)).f1) + 1)⟩:S36) ) (fun _ hk=>hk);have hx15_1:=hcc15 1 _ rfl;(try simp only [show (k36).sz=2 from rfl,Nat.mul_one,Nat.add_zero] at hx15_1);have hf15_1:=hfr15 1;(try simp only [show (k36).sz=2 from rfl,Nat.mul_one,Nat.add_zero] at hf15_1);clear hcl15 hcc15 hfr15 hM15)|((with_reducible refine gate_store (t:=3) (p:=52) rfl ?_);(try (rw [drewN_self wr];generalize hq_:World.drewN wr _=wr;have n0_:=zm (Kd.R_at hq_ HO_5.out);have n1_:=zm (below_at hq_ HB.out);clear hq_ HO_5 HB;have HO_5:=n0_;have HB:=n1_;clear n0_ n1_;(try (have HX15:=zm (show Kd.R k36 36 wr w.heap.size (fun _=>True) (.slice (some ⟨go13,0,none⟩) x5_1.length co14) x5_1 from (by (with_reducible repeat (first|apply zrA|apply zrN|apply zrD));exact HO_5.out))));(try (obtain ⟨ce15,hcl15,hM15,hcc15,hfr15⟩:=Kd.R_elem HX15.out z36 ((ji9):Int) (of_decide_eq_true (by first|(with_reducible assumption)|assumption)) (by have h_:((ji9):Int) < ((x5_1.length:Int):Int):=of_decide_eq_true (by first|(with_reducible assumption)|assumption);first|exact h_|(have e_:=(Kd.R_reads' HO_5.out).1;omega)|simpa using h_)));(try (obtain rfl:=k36_openM hM15));(try (have HP15:=Kd.R_seg HX15.out ((ji9):Int) (of_decide_eq_true (by first|(with_reducible assumption)|assumption)) (by have h_:((ji9):Int) < ((x5_1.length:Int):Int):=of_decide_eq_true (by first|(with_reducible assumption)|assumption);first|exact h_|(have e_:=(Kd.R_reads' HO_5.out).1;omega)|simpa using h_) (seg:=[.int .i64 (wrap64 (((rd_T36 x5_1 (ji9)).f1) + 1))]) (j:=1) hcl15 hcc15 (show 2≤2 from by decide) (x':=(⟨(rd_T36 x5_1 (ji9)).f0,wrap64 (((rd_T36 x5_1 (ji9)).f1) + 1)⟩:S36)) (k36_mkM _ _ _ (⟨(rd_T36 x5_1 (ji9)).f0,wrap64 (((rd_T36 x5_1 (ji9)).f1) + 1)⟩:S36) ) (fun _ hk=>hk)));(try (have hx15_1:=hcc15 1 _ rfl));(try (try simp only [show (k36).sz=2 from rfl,Nat.mul_one,Nat.add_zero] at hx15_1));(try (have hf15_1:=hfr15 1));(try (try simp only [show (k36).sz=2 from rfl,Nat.mul_one,Nat.add_zero] at hf15_1));(try (clear hcl15 hcc15 hfr15 hM15))));refine store_event (t:=3) (p:=52) (v:=?vo_w16) (w1:=(wr.setCell ⟨go13,((ji9):Int).toNat * 2 + 1,none⟩ (.int .i64 (wrap64 (((rd_T36 x5_1 (ji9)).f1) + 1))))) ?hg ?ho ?hn ?hr ?_;(case ho=>rfl);(case hg=>rfl);(case hn=>rfl);(case hr=>first|(go_simp;done)|(go_simp;rfl));intro w16 hw;have hg:wr.grownBy w16 (some go13):=(by rw [hw];exact HP15.2);have hp_:Kd.R k36 36 w16 w.heap.size (fun _=>True) (.slice (some ⟨go13,0,none⟩) x5_1.length co14) y261:=(by rw [hw,Ny261.out];exact HP15.1);clear HP15;have n0_:=zm (hp_);have n1_:=zm ((by rw [hw];exact zlS (HB.out) GB13.out:Below w.heap.size w w16));clear HO_5 HB;have HO_5:=n0_;have HB:=n1_;clear n0_ n1_;clear hg hw hp_))
          repeat (go_quiet (first|(go_at_call 39;(with_reducible refine (slipwayref12_bit.calls _ _ l0 x6_1 false _ ?side1 ?side2 A6.out).mono ?_);(case side1=>repeat (first|exact (Kd.C_below HR0.out HB.out)|(with_reducible refine Kd.C_alloc ?_ _)|(with_reducible refine Kd.C_drewN ?_ _)|(with_reducible refine Kd.C_drew ?_)));(case side2=>exact HC0.out);rintro e w' ⟨rfl,⟨nd,rfl⟩⟩;(try first|exact ⟨rfl,_,World.drewN_drewN _ _ _⟩|exact ⟨rfl,_,Eq.trans (World.drewN_drewN _ _ _) (congrArg (World.drewN _) (Nat.add_assoc _ _ _))⟩);obtain ⟨Ao14,co14,eo14⟩:=Kd.R_slice HO_5.out;subst eo14;have p258:0≤((ji9):Int):=of_decide_eq_true (by first|(with_reducible assumption)|assumption);have q258:(ji9) < (x5_1.length:Int):=of_decide_eq_true (by first|(with_reducible assumption)|assumption);obtain ⟨ad258,e258,hx258_0,hx258_1⟩:=at_T36 (Kd.R_reads' HO_5.out).2.2 (ji9) p258 q258;cases e258;replace p258:=eq_true p258;replace q258:=eq_true q258;have p259:0≤((ji9):Int):=of_decide_eq_true (by first|(with_reducible assumption)|assumption);have q259:(ji9) < (x5_1.length:Int):=of_decide_eq_true (by first|(with_reducible assumption)|assumption);obtain ⟨ad259,e259,hx259_0,hx259_1⟩:=at_T36 (Kd.R_reads' HO_5.out).2.2 (ji9) p259 q259;obtain rfl:ad258=ad259:=(by injection e259);replace p259:=eq_true p259;replace q259:=eq_true q259;have p260:0≤((ji9):Int):=of_decide_eq_true (by first|(with_reducible assumption)|assumption);have q260:(ji9) < (x5_1.length:Int):=of_decide_eq_true (by first|(with_reducible assumption)|assumption);obtain ⟨ad260,e260,hx260_0,hx260_1⟩:=at_T36 (Kd.R_reads' HO_5.out).2.2 (ji9) p260 q260;obtain rfl:ad258=ad260:=(by injection e260);replace p260:=eq_true p260;replace q260:=eq_true q260;have p13:0≤((ji9):Int):=of_decide_eq_true (by first|(with_reducible assumption)|assumption);have q13:((ji9):Int) < ((x5_1.length:Int):Int):=of_decide_eq_true (by first|(with_reducible assumption)|assumption);obtain ⟨go13,co13,eo13,gb13,gl13,cl13,HG13⟩:=Kd.R_form HO_5.out (by omega);(first|cases eo13|(injection eo13 with ea_ en_ ec_;(first|subst ea_|(injection ea_ with ea_;subst ea_));subst ec_;clear en_));have GB13:=zm gb13;have GG13:=zm HG13;clear gb13 gl13 HG13;(first|simp only [add_plain] at hx258_0|skip);(first|simp only [add_plain] at hx258_1|skip);(first|simp only [add_plain] at hx259_0|skip);(first|simp only [add_plain] at hx259_1|skip);(first|simp only [add_plain] at hx260_0|skip);(first|simp only [add_plain] at hx260_1|skip);obtain ⟨ce13,hcl13,hM13,hcc13,hfr13⟩:=Kd.R_elem HO_5.out z36 ((ji9):Int) p13 q13;obtain rfl:=k36_openM hM13;have hx13_0:wr.cell? ⟨go13,((ji9):Int).toNat * 2,none⟩=some (.int .i64 ((rd_T36 x5_1 (ji9)).f0)):=hcc13 0 _ rfl;have hx13_1:wr.cell? ⟨go13,((ji9):Int).toNat * 2 + 1,none⟩=some (.int .i64 ((rd_T36 x5_1 (ji9)).f1)):=hcc13 1 _ rfl;have hf13_0:wr.frozen? ⟨go13,((ji9):Int).toNat * 2,none⟩=false:=hfr13 0;have hf13_1:wr.frozen? ⟨go13,((ji9):Int).toNat * 2 + 1,none⟩=false:=hfr13 1;clear hcl13 hcc13 hfr13 hM13;replace p13:=eq_true p13;replace q13:=eq_true q13;have HX15:=zm (show Kd.R k36 36 wr w.heap.size (fun _=>True) (.slice (some ⟨go13,0,none⟩) x5_1.length co14) x5_1 from (by (with_reducible repeat (first|apply zrA|apply zrN|apply zrD));exact HO_5.out));obtain ⟨ce15,hcl15,hM15,hcc15,hfr15⟩:=Kd.R_elem HX15.out z36 ((ji9):Int) (of_decide_eq_true (by first|(with_reducible assumption)|assumption)) (by have h_:((ji9):Int) < ((x5_1.length:Int):Int):=of_decide_eq_true (by first|(with_reducible assumption)|assumption);first|exact h_|(have e_:=(Kd.R_reads' HO_5.out).1;omega)|simpa using h_);obtain rfl:=k36_openM hM15;have HP15:=Kd.R_seg HX15.out ((ji9):Int) (of_decide_eq_true (by first|(with_reducible assumption)|assumption)) (by have h_:((ji9):Int) < ((x5_1.length:Int):Int):=of_decide_eq_true (by first|(with_reducible assumption)|assumption);first|exact h_|(have e_:=(Kd.R_reads' HO_5.out).1;omega)|simpa using h_) (seg:=[.int .i64 (wrap64 (((rd_T36 x5_1 (ji9)).f1) + 1))]) (j:=1) hcl15 hcc15 (show 2≤2 from by decide) (x':=(⟨(rd_T36 x5_1 (ji9)).f0,wrap64 (((rd_T36 x5_1 (ji9)).f1) + 1)⟩:S36)) (k36_mkM _ _ _ (⟨(rd_T36 x5_1 (ji9)).f0,wrap64 (((rd_T36 x5_1 (ji9)).f1) + 1)⟩:S36) ) (fun _ hk=>hk);have hx15_1:=hcc15 1 _ rfl;(try simp only [show (k36).sz=2 from rfl,Nat.mul_one,Nat.add_zero] at hx15_1);have hf15_1:=hfr15 1;(try simp only [show (k36).sz=2 from rfl,Nat.mul_one,Nat.add_zero] at hf15_1);clear hcl15 hcc15 hfr15 hM15)|((with_reducible refine gate_store (t:=3) (p:=52) rfl ?_);(try (rw [drewN_self wr];generalize hq_:World.drewN wr _=wr;have n0_:=zm (Kd.R_at hq_ HO_5.out);have n1_:=zm (below_at hq_ HB.out);clear hq_ HO_5 HB;have HO_5:=n0_;have HB:=n1_;clear n0_ n1_;(try (have HX15:=zm (show Kd.R k36 36 wr w.heap.size (fun _=>True) (.slice (some ⟨go13,0,none⟩) x5_1.length co14) x5_1 from (by (with_reducible repeat (first|apply zrA|apply zrN|apply zrD));exact HO_5.out))));(try (obtain ⟨ce15,hcl15,hM15,hcc15,hfr15⟩:=Kd.R_elem HX15.out z36 ((ji9):Int) (of_decide_eq_true (by first|(with_reducible assumption)|assumption)) (by have h_:((ji9):Int) < ((x5_1.length:Int):Int):=of_decide_eq_true (by first|(with_reducible assumption)|assumption);first|exact h_|(have e_:=(Kd.R_reads' HO_5.out).1;omega)|simpa using h_)));(try (obtain rfl:=k36_openM hM15));(try (have HP15:=Kd.R_seg HX15.out ((ji9):Int) (of_decide_eq_true (by first|(with_reducible assumption)|assumption)) (by have h_:((ji9):Int) < ((x5_1.length:Int):Int):=of_decide_eq_true (by first|(with_reducible assumption)|assumption);first|exact h_|(have e_:=(Kd.R_reads' HO_5.out).1;omega)|simpa using h_) (seg:=[.int .i64 (wrap64 (((rd_T36 x5_1 (ji9)).f1) + 1))]) (j:=1) hcl15 hcc15 (show 2≤2 from by decide) (x':=(⟨(rd_T36 x5_1 (ji9)).f0,wrap64 (((rd_T36 x5_1 (ji9)).f1) + 1)⟩:S36)) (k36_mkM _ _ _ (⟨(rd_T36 x5_1 (ji9)).f0,wrap64 (((rd_T36 x5_1 (ji9)).f1) + 1)⟩:S36) ) (fun _ hk=>hk)));(try (have hx15_1:=hcc15 1 _ rfl));(try (try simp only [show (k36).sz=2 from rfl,Nat.mul_one,Nat.add_zero] at hx15_1));(try (have hf15_1:=hfr15 1));(try (try simp only [show (k36).sz=2 from rfl,Nat.mul_one,Nat.add_zero] at hf15_1));(try (clear hcl15 hcc15 hfr15 hM15))));refine store_event (t:=3) (p:=52) (v:=?vo_w16) (w1:=(wr.setCell ⟨go13,((ji9):Int).toNat * 2 + 1,none⟩ (.int .i64 (wrap64 (((rd_T36 x5_1 (ji9)).f1) + 1))))) ?hg ?ho ?hn ?hr ?_;(case ho=>rfl);(case hg=>rfl);(case hn=>rfl);(case hr=>first|(go_simp;done)|(go_simp;rfl));intro w16 hw;have hg:wr.grownBy w16 (some go13):=(by rw [hw];exact HP15.2);have hp_:Kd.R k36 36 w16 w.heap.size (fun _=>True) (.slice (some ⟨go13,0,none⟩) x5_1.length co14) y261:=(by rw [hw,Ny261.out];exact HP15.1);clear HP15;have n0_:=zm (hp_);have n1_:=zm ((by rw [hw];exact zlS (HB.out) GB13.out:Below w.heap.size w w16));clear HO_5 HB;have HO_5:=n0_;have HB:=n1_;clear n0_ n1_;clear hg hw hp_));try go_wp2_with (first|(go_at_call 39;(with_reducible refine (slipwayref12_bit.calls _ _ l0 x6_1 false _ ?side1 ?side2 A6.out).mono ?_);(case side1=>repeat (first|exact (Kd.C_below HR0.out HB.out)|(with_reducible refine Kd.C_alloc ?_ _)|(with_reducible refine Kd.C_drewN ?_ _)|(with_reducible refine Kd.C_drew ?_)));(case side2=>exact HC0.out);rintro e w' ⟨rfl,⟨nd,rfl⟩⟩;(try first|exact ⟨rfl,_,World.drewN_drewN _ _ _⟩|exact ⟨rfl,_,Eq.trans (World.drewN_drewN _ _ _) (congrArg (World.drewN _) (Nat.add_assoc _ _ _))⟩);obtain ⟨Ao14,co14,eo14⟩:=Kd.R_slice HO_5.out;subst eo14;have p258:0≤((ji9):Int):=of_decide_eq_true (by first|(with_reducible assumption)|assumption);have q258:(ji9) < (x5_1.length:Int):=of_decide_eq_true (by first|(with_reducible assumption)|assumption);obtain ⟨ad258,e258,hx258_0,hx258_1⟩:=at_T36 (Kd.R_reads' HO_5.out).2.2 (ji9) p258 q258;cases e258;replace p258:=eq_true p258;replace q258:=eq_true q258;have p259:0≤((ji9):Int):=of_decide_eq_true (by first|(with_reducible assumption)|assumption);have q259:(ji9) < (x5_1.length:Int):=of_decide_eq_true (by first|(with_reducible assumption)|assumption);obtain ⟨ad259,e259,hx259_0,hx259_1⟩:=at_T36 (Kd.R_reads' HO_5.out).2.2 (ji9) p259 q259;obtain rfl:ad258=ad259:=(by injection e259);replace p259:=eq_true p259;replace q259:=eq_true q259;have p260:0≤((ji9):Int):=of_decide_eq_true (by first|(with_reducible assumption)|assumption);have q260:(ji9) < (x5_1.length:Int):=of_decide_eq_true (by first|(with_reducible assumption)|assumption);obtain ⟨ad260,e260,hx260_0,hx260_1⟩:=at_T36 (Kd.R_reads' HO_5.out).2.2 (ji9) p260 q260;obtain rfl:ad258=ad260:=(by injection e260);replace p260:=eq_true p260;replace q260:=eq_true q260;have p13:0≤((ji9):Int):=of_decide_eq_true (by first|(with_reducible assumption)|assumption);have q13:((ji9):Int) < ((x5_1.length:Int):Int):=of_decide_eq_true (by first|(with_reducible assumption)|assumption);obtain ⟨go13,co13,eo13,gb13,gl13,cl13,HG13⟩:=Kd.R_form HO_5.out (by omega);(first|cases eo13|(injection eo13 with ea_ en_ ec_;(first|subst ea_|(injection ea_ with ea_;subst ea_));subst ec_;clear en_));have GB13:=zm gb13;have GG13:=zm HG13;clear gb13 gl13 HG13;(first|simp only [add_plain] at hx258_0|skip);(first|simp only [add_plain] at hx258_1|skip);(first|simp only [add_plain] at hx259_0|skip);(first|simp only [add_plain] at hx259_1|skip);(first|simp only [add_plain] at hx260_0|skip);(first|simp only [add_plain] at hx260_1|skip);obtain ⟨ce13,hcl13,hM13,hcc13,hfr13⟩:=Kd.R_elem HO_5.out z36 ((ji9):Int) p13 q13;obtain rfl:=k36_openM hM13;have hx13_0:wr.cell? ⟨go13,((ji9):Int).toNat * 2,none⟩=some (.int .i64 ((rd_T36 x5_1 (ji9)).f0)):=hcc13 0 _ rfl;have hx13_1:wr.cell? ⟨go13,((ji9):Int).toNat * 2 + 1,none⟩=some (.int .i64 ((rd_T36 x5_1 (ji9)).f1)):=hcc13 1 _ rfl;have hf13_0:wr.frozen? ⟨go13,((ji9):Int).toNat * 2,none⟩=false:=hfr13 0;have hf13_1:wr.frozen? ⟨go13,((ji9):Int).toNat * 2 + 1,none⟩=false:=hfr13 1;clear hcl13 hcc13 hfr13 hM13;replace p13:=eq_true p13;replace q13:=eq_true q13;have HX15:=zm (show Kd.R k36 36 wr w.heap.size (fun _=>True) (.slice (some ⟨go13,0,none⟩) x5_1.length co14) x5_1 from (by (with_reducible repeat (first|apply zrA|apply zrN|apply zrD));exact HO_5.out));obtain ⟨ce15,hcl15,hM15,hcc15,hfr15⟩:=Kd.R_elem HX15.out z36 ((ji9):Int) (of_decide_eq_true (by first|(with_reducible assumption)|assumption)) (by have h_:((ji9):Int) < ((x5_1.length:Int):Int):=of_decide_eq_true (by first|(with_reducible assumption)|assumption);first|exact h_|(have e_:=(Kd.R_reads' HO_5.out).1;omega)|simpa using h_);obtain rfl:=k36_openM hM15;have HP15:=Kd.R_seg HX15.out ((ji9):Int) (of_decide_eq_true (by first|(with_reducible assumption)|assumption)) (by have h_:((ji9):Int) < ((x5_1.length:Int):Int):=of_decide_eq_true (by first|(with_reducible assumption)|assumption);first|exact h_|(have e_:=(Kd.R_reads' HO_5.out).1;omega)|simpa using h_) (seg:=[.int .i64 (wrap64 (((rd_T36 x5_1 (ji9)).f1) + 1))]) (j:=1) hcl15 hcc15 (show 2≤2 from by decide) (x':=(⟨(rd_T36 x5_1 (ji9)).f0,wrap64 (((rd_T36 x5_1 (ji9)).f1) + 1)⟩:S36)) (k36_mkM _ _ _ (⟨(rd_T36 x5_1 (ji9)).f0,wrap64 (((rd_T36 x5_1 (ji9)).f1) + 1)⟩:S36) ) (fun _ hk=>hk);have hx15_1:=hcc15 1 _ rfl;(try simp only [show (k36).sz=2 from rfl,Nat.mul_one,Nat.add_zero] at hx15_1);have hf15_1:=hfr15 1;(try simp only [show (k36).sz=2 from rfl,Nat.mul_one,Nat.add_zero] at hf15_1);clear hcl15 hcc15 hfr15 hM15)|((with_reducible refine gate_store (t:=3) (p:=52) rfl ?_);(try (rw [drewN_self wr];generalize hq_:World.drewN wr _=wr;have n0_:=zm (Kd.R_at hq_ HO_5.out);have n1_:=zm (below_at hq_ HB.out);clear hq_ HO_5 HB;have HO_5:=n0_;have HB:=n1_;clear n0_ n1_;(try (have HX15:=zm (show Kd.R k36 36 wr w.heap.size (fun _=>True) (.slice (some ⟨go13,0,none⟩) x5_1.length co14) x5_1 from (by (with_reducible repeat (first|apply zrA|apply zrN|apply zrD));exact HO_5.out))));(try (obtain ⟨ce15,hcl15,hM15,hcc15,hfr15⟩:=Kd.R_elem HX15.out z36 ((ji9):Int) (of_decide_eq_true (by first|(with_reducible assumption)|assumption)) (by have h_:((ji9):Int) < ((x5_1.length:Int):Int):=of_decide_eq_true (by first|(with_reducible assumption)|assumption);first|exact h_|(have e_:=(Kd.R_reads' HO_5.out).1;omega)|simpa using h_)));(try (obtain rfl:=k36_openM hM15));(try (have HP15:=Kd.R_seg HX15.out ((ji9):Int) (of_decide_eq_true (by first|(with_reducible assumption)|assumption)) (by have h_:((ji9):Int) < ((x5_1.length:Int):Int):=of_decide_eq_true (by first|(with_reducible assumption)|assumption);first|exact h_|(have e_:=(Kd.R_reads' HO_5.out).1;omega)|simpa using h_) (seg:=[.int .i64 (wrap64 (((rd_T36 x5_1 (ji9)).f1) + 1))]) (j:=1) hcl15 hcc15 (show 2≤2 from by decide) (x':=(⟨(rd_T36 x5_1 (ji9)).f0,wrap64 (((rd_T36 x5_1 (ji9)).f1) + 1)⟩:S36)) (k36_mkM _ _ _ (⟨(rd_T36 x5_1 (ji9)).f0,wrap64 (((rd_T36 x5_1 (ji9)).f1) + 1)⟩:S36) ) (fun _ hk=>hk)));(try (have hx15_1:=hcc15 1 _ rfl));(try (try simp only [show (k36).sz=2 from rfl,Nat.mul_one,Nat.add_zero] at hx15_1));(try (have hf15_1:=hfr15 1));(try (try simp only [show (k36).sz=2 from rfl,Nat.mul_one,Nat.add_zero] at hf15_1));(try (clear hcl15 hcc15 hfr15 hM15))));refine store_event (t:=3) (p:=52) (v:=?vo_w16) (w1:=(wr.setCell ⟨go13,((ji9):Int).toNat * 2 + 1,none⟩ (.int .i64 (wrap64 (((rd_T36 x5_1 (ji9)).f1) + 1))))) ?hg ?ho ?hn ?hr ?_;(case ho=>rfl);(case hg=>rfl);(case hn=>rfl);(case hr=>first|(go_simp;done)|(go_simp;rfl));intro w16 hw;have hg:wr.grownBy w16 (some go13):=(by rw [hw];exact HP15.2);have hp_:Kd.R k36 36 w16 w.heap.size (fun _=>True) (.slice (some ⟨go13,0,none⟩) x5_1.length co14) y261:=(by rw [hw,Ny261.out];exact HP15.1);clear HP15;have n0_:=zm (hp_);have n1_:=zm ((by rw [hw];exact zlS (HB.out) GB13.out:Below w.heap.size w w16));clear HO_5 HB;have HO_5:=n0_;have HB:=n1_;clear n0_ n1_;clear hg hw hp_)))
          go_roundg k1
          case measure=>have:=HK1.out;omega
          case rel=>exact ⟨(y261),(wrap64 (x6_1 + 1)),(by first|rfl|(simp;done)|(simp [*];done)),H',⟨by have:=HK1.out;omega⟩,⟨by (with_reducible repeat (first|apply zrA|apply zrN|apply zrD));exact HO_5.out⟩,⟨by repeat (first|(with_reducible first|exact HB.out|apply zlA|apply zlN|apply zlD)|exact HB.out)⟩⟩
         ·rw [if_neg c12] at H
          have c12b0:((wrap64 (((rd_T36 x5_1 (ji9)).f0) + ((rd_T36 x5_1 (ji9)).f1))) == x6_1)=false:=beq_eq_false_iff_ne.mpr c12
          have c12b1:((wrap64 (((rd_T36 x5_1 (ji9)).f0) + ((rd_T36 x5_1 (ji9)).f1))) != x6_1)=true:=bne_iff_ne.mpr c12
          by_cases c17:x5_1.length < 8796093022208
          ·rw [if_pos c17] at H
           have LMc17:=zm c17
           clear c17
           obtain ⟨y262,hy262⟩:∃ y_:List (S36),y_=(x5_1 ++ [(⟨x6_1,1⟩:S36)]):=⟨_,rfl⟩
           replace H:(slipwayref12_Runs.l0 k1 l0 a1 y262 (wrap64 (x6_1 + 1)))=some r:=by first|(rw [hy262];with_reducible exact H)|(have H2_:=(Option.bind_some _ _).symm.trans H;rw [hy262];with_reducible exact H2_)|(have H2_:=(Option.bind_some _ _).symm.trans H;with_reducible exact H2_)|with_reducible exact H|(rw [hy262];exact H)|exact H
           have Ny262:=zm hy262
           clear hy262
           have H':=zm H
           clear H
           go_wp2_with (first|(go_at_call 39;(with_reducible refine (slipwayref12_bit.calls _ _ l0 x6_1 false _ ?side1 ?side2 A6.out).mono ?_);(case side1=>repeat (first|exact (Kd.C_below HR0.out HB.out)|(with_reducible refine Kd.C_alloc ?_ _)|(with_reducible refine Kd.C_drewN ?_ _)|(with_reducible refine Kd.C_drew ?_)));(case side2=>exact HC0.out);rintro e w' ⟨rfl,⟨nd,rfl⟩⟩;(try first|exact ⟨rfl,_,World.drewN_drewN _ _ _⟩|exact ⟨rfl,_,Eq.trans (World.drewN_drewN _ _ _) (congrArg (World.drewN _) (Nat.add_assoc _ _ _))⟩);obtain ⟨Ao18,co18,eo18⟩:=Kd.R_slice HO_5.out;subst eo18;have p258:0≤((ji9):Int):=of_decide_eq_true (by first|(with_reducible assumption)|assumption);have q258:(ji9) < (x5_1.length:Int):=of_decide_eq_true (by first|(with_reducible assumption)|assumption);obtain ⟨ad258,e258,hx258_0,hx258_1⟩:=at_T36 (Kd.R_reads' HO_5.out).2.2 (ji9) p258 q258;cases e258;replace p258:=eq_true p258;replace q258:=eq_true q258;have p259:0≤((ji9):Int):=of_decide_eq_true (by first|(with_reducible assumption)|assumption);have q259:(ji9) < (x5_1.length:Int):=of_decide_eq_true (by first|(with_reducible assumption)|assumption);obtain ⟨ad259,e259,hx259_0,hx259_1⟩:=at_T36 (Kd.R_reads' HO_5.out).2.2 (ji9) p259 q259;obtain rfl:ad258=ad259:=(by injection e259);replace p259:=eq_true p259;replace q259:=eq_true q259)|((with_reducible refine gate_builtin (b:=.append) (xs:=#[.tmp 53,.tmp 56]) rfl ?_);(try (refine gate_guard (by rfl) ?_;dsimp only));at_builtin;refine Kd.R_append k36 (w0:=w) w.heap.size rfl (.tmp 53) (.tmp 56) 30 36 (.agg #[(.int .i64 0),(.int .i64 0)]) 16 rfl Try.underlying30 info36 rfl (by decide) (by omega) (.slice (some ad258) x5_1.length co18) x5_1 (⟨x6_1,1⟩:S36) [.int .i64 x6_1,.int .i64 1] (fun _=>True) (fun _=>False) rfl rfl ?aP (fun _ hk=>hk.elim) ?aF ?aO ?aB ?aS ?aL ?_;(case aP=>exact k36_mkM _ _ _ (⟨x6_1,1⟩:S36));(case aB=>exact (by repeat (first|(with_reducible first|exact HB.out|apply zlA|apply zlN|apply zlD)|exact HB.out)));(case aF=>exact (fun _ _=>trivial));(case aO=>exact (by (with_reducible repeat (first|apply zrA|apply zrN|apply zrD));exact HO_5.out));(case aS=>exact (below_size (by repeat (first|(with_reducible first|exact HB.out|apply zlA|apply zlN|apply zlD)|exact HB.out))));(case aL=>have:=LMc17.out;omega);intro v263 w19 ho hb hg hat;rw [← Ny262.out] at ho;have n0_:=zm (hb);have n1_:=zm (ho);clear HB HO_5;have HB:=n0_;have HO264:=n1_;clear n0_ n1_;clear ho hb hg hat))
           repeat (go_quiet (first|(go_at_call 39;(with_reducible refine (slipwayref12_bit.calls _ _ l0 x6_1 false _ ?side1 ?side2 A6.out).mono ?_);(case side1=>repeat (first|exact (Kd.C_below HR0.out HB.out)|(with_reducible refine Kd.C_alloc ?_ _)|(with_reducible refine Kd.C_drewN ?_ _)|(with_reducible refine Kd.C_drew ?_)));(case side2=>exact HC0.out);rintro e w' ⟨rfl,⟨nd,rfl⟩⟩;(try first|exact ⟨rfl,_,World.drewN_drewN _ _ _⟩|exact ⟨rfl,_,Eq.trans (World.drewN_drewN _ _ _) (congrArg (World.drewN _) (Nat.add_assoc _ _ _))⟩);obtain ⟨Ao18,co18,eo18⟩:=Kd.R_slice HO_5.out;subst eo18;have p258:0≤((ji9):Int):=of_decide_eq_true (by first|(with_reducible assumption)|assumption);have q258:(ji9) < (x5_1.length:Int):=of_decide_eq_true (by first|(with_reducible assumption)|assumption);obtain ⟨ad258,e258,hx258_0,hx258_1⟩:=at_T36 (Kd.R_reads' HO_5.out).2.2 (ji9) p258 q258;cases e258;replace p258:=eq_true p258;replace q258:=eq_true q258;have p259:0≤((ji9):Int):=of_decide_eq_true (by first|(with_reducible assumption)|assumption);have q259:(ji9) < (x5_1.length:Int):=of_decide_eq_true (by first|(with_reducible assumption)|assumption);obtain ⟨ad259,e259,hx259_0,hx259_1⟩:=at_T36 (Kd.R_reads' HO_5.out).2.2 (ji9) p259 q259;obtain rfl:ad258=ad259:=(by injection e259);replace p259:=eq_true p259;replace q259:=eq_true q259)|((with_reducible refine gate_builtin (b:=.append) (xs:=#[.tmp 53,.tmp 56]) rfl ?_);(try (refine gate_guard (by rfl) ?_;dsimp only));at_builtin;refine Kd.R_append k36 (w0:=w) w.heap.size rfl (.tmp 53) (.tmp 56) 30 36 (.agg #[(.int .i64 0),(.int .i64 0)]) 16 rfl Try.underlying30 info36 rfl (by decide) (by omega) (.slice (some ad258) x5_1.length co18) x5_1 (⟨x6_1,1⟩:S36) [.int .i64 x6_1,.int .i64 1] (fun _=>True) (fun _=>False) rfl rfl ?aP (fun _ hk=>hk.elim) ?aF ?aO ?aB ?aS ?aL ?_;(case aP=>exact k36_mkM _ _ _ (⟨x6_1,1⟩:S36));(case aB=>exact (by repeat (first|(with_reducible first|exact HB.out|apply zlA|apply zlN|apply zlD)|exact HB.out)));(case aF=>exact (fun _ _=>trivial));(case aO=>exact (by (with_reducible repeat (first|apply zrA|apply zrN|apply zrD));exact HO_5.out));(case aS=>exact (below_size (by repeat (first|(with_reducible first|exact HB.out|apply zlA|apply zlN|apply zlD)|exact HB.out))));(case aL=>have:=LMc17.out;omega);intro v263 w19 ho hb hg hat;rw [← Ny262.out] at ho;have n0_:=zm (hb);have n1_:=zm (ho);clear HB HO_5;have HB:=n0_;have HO264:=n1_;clear n0_ n1_;clear ho hb hg hat));try go_wp2_with (first|(go_at_call 39;(with_reducible refine (slipwayref12_bit.calls _ _ l0 x6_1 false _ ?side1 ?side2 A6.out).mono ?_);(case side1=>repeat (first|exact (Kd.C_below HR0.out HB.out)|(with_reducible refine Kd.C_alloc ?_ _)|(with_reducible refine Kd.C_drewN ?_ _)|(with_reducible refine Kd.C_drew ?_)));(case side2=>exact HC0.out);rintro e w' ⟨rfl,⟨nd,rfl⟩⟩;(try first|exact ⟨rfl,_,World.drewN_drewN _ _ _⟩|exact ⟨rfl,_,Eq.trans (World.drewN_drewN _ _ _) (congrArg (World.drewN _) (Nat.add_assoc _ _ _))⟩);obtain ⟨Ao18,co18,eo18⟩:=Kd.R_slice HO_5.out;subst eo18;have p258:0≤((ji9):Int):=of_decide_eq_true (by first|(with_reducible assumption)|assumption);have q258:(ji9) < (x5_1.length:Int):=of_decide_eq_true (by first|(with_reducible assumption)|assumption);obtain ⟨ad258,e258,hx258_0,hx258_1⟩:=at_T36 (Kd.R_reads' HO_5.out).2.2 (ji9) p258 q258;cases e258;replace p258:=eq_true p258;replace q258:=eq_true q258;have p259:0≤((ji9):Int):=of_decide_eq_true (by first|(with_reducible assumption)|assumption);have q259:(ji9) < (x5_1.length:Int):=of_decide_eq_true (by first|(with_reducible assumption)|assumption);obtain ⟨ad259,e259,hx259_0,hx259_1⟩:=at_T36 (Kd.R_reads' HO_5.out).2.2 (ji9) p259 q259;obtain rfl:ad258=ad259:=(by injection e259);replace p259:=eq_true p259;replace q259:=eq_true q259)|((with_reducible refine gate_builtin (b:=.append) (xs:=#[.tmp 53,.tmp 56]) rfl ?_);(try (refine gate_guard (by rfl) ?_;dsimp only));at_builtin;refine Kd.R_append k36 (w0:=w) w.heap.size rfl (.tmp 53) (.tmp 56) 30 36 (.agg #[(.int .i64 0),(.int .i64 0)]) 16 rfl Try.underlying30 info36 rfl (by decide) (by omega) (.slice (some ad258) x5_1.length co18) x5_1 (⟨x6_1,1⟩:S36) [.int .i64 x6_1,.int .i64 1] (fun _=>True) (fun _=>False) rfl rfl ?aP (fun _ hk=>hk.elim) ?aF ?aO ?aB ?aS ?aL ?_;(case aP=>exact k36_mkM _ _ _ (⟨x6_1,1⟩:S36));(case aB=>exact (by repeat (first|(with_reducible first|exact HB.out|apply zlA|apply zlN|apply zlD)|exact HB.out)));(case aF=>exact (fun _ _=>trivial));(case aO=>exact (by (with_reducible repeat (first|apply zrA|apply zrN|apply zrD));exact HO_5.out));(case aS=>exact (below_size (by repeat (first|(with_reducible first|exact HB.out|apply zlA|apply zlN|apply zlD)|exact HB.out))));(case aL=>have:=LMc17.out;omega);intro v263 w19 ho hb hg hat;rw [← Ny262.out] at ho;have n0_:=zm (hb);have n1_:=zm (ho);clear HB HO_5;have HB:=n0_;have HO264:=n1_;clear n0_ n1_;clear ho hb hg hat)))
           go_roundg k1
           case measure=>have:=HK1.out;omega
           case rel=>exact ⟨(y262),(wrap64 (x6_1 + 1)),(by first|rfl|(simp;done)|(simp [*];done)),H',⟨by have:=HK1.out;omega⟩,⟨by (with_reducible repeat (first|apply zrA|apply zrN|apply zrD));exact HO264.out⟩,⟨by repeat (first|(with_reducible first|exact HB.out|apply zlA|apply zlN|apply zlD)|exact HB.out)⟩⟩
          ·rw [if_neg c17] at H
           exact absurd H (by simp)
        ·rw [if_neg c11] at H
         exact absurd H (by simp)
       ·rw [if_neg c10] at H
        exact absurd H (by simp)
      ·rw [if_neg c8] at H
       have c8b0:decide (0 < (x5_1.length:Int))=false:=decide_eq_false c8
       have c8b1:decide (0 < x5_1.length)=false:=decide_eq_false (by omega)
       clear c8
       by_cases c20:x5_1.length < 8796093022208
       ·rw [if_pos c20] at H
        have LMc20:=zm c20
        clear c20
        obtain ⟨y265,hy265⟩:∃ y_:List (S36),y_=(x5_1 ++ [(⟨x6_1,1⟩:S36)]):=⟨_,rfl⟩
        replace H:(slipwayref12_Runs.l0 k1 l0 a1 y265 (wrap64 (x6_1 + 1)))=some r:=by first|(rw [hy265];with_reducible exact H)|(have H2_:=(Option.bind_some _ _).symm.trans H;rw [hy265];with_reducible exact H2_)|(have H2_:=(Option.bind_some _ _).symm.trans H;with_reducible exact H2_)|with_reducible exact H|(rw [hy265];exact H)|exact H
        have Ny265:=zm hy265
        clear hy265
        have H':=zm H
        clear H
        go_wp2_with (first|(go_at_call 39;(with_reducible refine (slipwayref12_bit.calls _ _ l0 x6_1 false _ ?side1 ?side2 A6.out).mono ?_);(case side1=>repeat (first|exact (Kd.C_below HR0.out HB.out)|(with_reducible refine Kd.C_alloc ?_ _)|(with_reducible refine Kd.C_drewN ?_ _)|(with_reducible refine Kd.C_drew ?_)));(case side2=>exact HC0.out);rintro e w' ⟨rfl,⟨nd,rfl⟩⟩;(try first|exact ⟨rfl,_,World.drewN_drewN _ _ _⟩|exact ⟨rfl,_,Eq.trans (World.drewN_drewN _ _ _) (congrArg (World.drewN _) (Nat.add_assoc _ _ _))⟩);obtain ⟨Ao21,co21,eo21⟩:=Kd.R_slice HO_5.out;subst eo21)|((with_reducible refine gate_builtin (b:=.append) (xs:=#[.tmp 53,.tmp 56]) rfl ?_);(try (refine gate_guard (by rfl) ?_;dsimp only));at_builtin;refine Kd.R_append k36 (w0:=w) w.heap.size rfl (.tmp 53) (.tmp 56) 30 36 (.agg #[(.int .i64 0),(.int .i64 0)]) 16 rfl Try.underlying30 info36 rfl (by decide) (by omega) (.slice Ao21 x5_1.length co21) x5_1 (⟨x6_1,1⟩:S36) [.int .i64 x6_1,.int .i64 1] (fun _=>True) (fun _=>False) rfl rfl ?aP (fun _ hk=>hk.elim) ?aF ?aO ?aB ?aS ?aL ?_;(case aP=>exact k36_mkM _ _ _ (⟨x6_1,1⟩:S36));(case aB=>exact (by repeat (first|(with_reducible first|exact HB.out|apply zlA|apply zlN|apply zlD)|exact HB.out)));(case aF=>exact (fun _ _=>trivial));(case aO=>exact (by (with_reducible repeat (first|apply zrA|apply zrN|apply zrD));exact HO_5.out));(case aS=>exact (below_size (by repeat (first|(with_reducible first|exact HB.out|apply zlA|apply zlN|apply zlD)|exact HB.out))));(case aL=>have:=LMc20.out;omega);intro v266 w22 ho hb hg hat;rw [← Ny265.out] at ho;have n0_:=zm (hb);have n1_:=zm (ho);clear HB HO_5;have HB:=n0_;have HO267:=n1_;clear n0_ n1_;clear ho hb hg hat))
        repeat (go_quiet (first|(go_at_call 39;(with_reducible refine (slipwayref12_bit.calls _ _ l0 x6_1 false _ ?side1 ?side2 A6.out).mono ?_);(case side1=>repeat (first|exact (Kd.C_below HR0.out HB.out)|(with_reducible refine Kd.C_alloc ?_ _)|(with_reducible refine Kd.C_drewN ?_ _)|(with_reducible refine Kd.C_drew ?_)));(case side2=>exact HC0.out);rintro e w' ⟨rfl,⟨nd,rfl⟩⟩;(try first|exact ⟨rfl,_,World.drewN_drewN _ _ _⟩|exact ⟨rfl,_,Eq.trans (World.drewN_drewN _ _ _) (congrArg (World.drewN _) (Nat.add_assoc _ _ _))⟩);obtain ⟨Ao21,co21,eo21⟩:=Kd.R_slice HO_5.out;subst eo21)|((with_reducible refine gate_builtin (b:=.append) (xs:=#[.tmp 53,.tmp 56]) rfl ?_);(try (refine gate_guard (by rfl) ?_;dsimp only));at_builtin;refine Kd.R_append k36 (w0:=w) w.heap.size rfl (.tmp 53) (.tmp 56) 30 36 (.agg #[(.int .i64 0),(.int .i64 0)]) 16 rfl Try.underlying30 info36 rfl (by decide) (by omega) (.slice Ao21 x5_1.length co21) x5_1 (⟨x6_1,1⟩:S36) [.int .i64 x6_1,.int .i64 1] (fun _=>True) (fun _=>False) rfl rfl ?aP (fun _ hk=>hk.elim) ?aF ?aO ?aB ?aS ?aL ?_;(case aP=>exact k36_mkM _ _ _ (⟨x6_1,1⟩:S36));(case aB=>exact (by repeat (first|(with_reducible first|exact HB.out|apply zlA|apply zlN|apply zlD)|exact HB.out)));(case aF=>exact (fun _ _=>trivial));(case aO=>exact (by (with_reducible repeat (first|apply zrA|apply zrN|apply zrD));exact HO_5.out));(case aS=>exact (below_size (by repeat (first|(with_reducible first|exact HB.out|apply zlA|apply zlN|apply zlD)|exact HB.out))));(case aL=>have:=LMc20.out;omega);intro v266 w22 ho hb hg hat;rw [← Ny265.out] at ho;have n0_:=zm (hb);have n1_:=zm (ho);clear HB HO_5;have HB:=n0_;have HO267:=n1_;clear n0_ n1_;clear ho hb hg hat));try go_wp2_with (first|(go_at_call 39;(with_reducible refine (slipwayref12_bit.calls _ _ l0 x6_1 false _ ?side1 ?side2 A6.out).mono ?_);(case side1=>repeat (first|exact (Kd.C_below HR0.out HB.out)|(with_reducible refine Kd.C_alloc ?_ _)|(with_reducible refine Kd.C_drewN ?_ _)|(with_reducible refine Kd.C_drew ?_)));(case side2=>exact HC0.out);rintro e w' ⟨rfl,⟨nd,rfl⟩⟩;(try first|exact ⟨rfl,_,World.drewN_drewN _ _ _⟩|exact ⟨rfl,_,Eq.trans (World.drewN_drewN _ _ _) (congrArg (World.drewN _) (Nat.add_assoc _ _ _))⟩);obtain ⟨Ao21,co21,eo21⟩:=Kd.R_slice HO_5.out;subst eo21)|((with_reducible refine gate_builtin (b:=.append) (xs:=#[.tmp 53,.tmp 56]) rfl ?_);(try (refine gate_guard (by rfl) ?_;dsimp only));at_builtin;refine Kd.R_append k36 (w0:=w) w.heap.size rfl (.tmp 53) (.tmp 56) 30 36 (.agg #[(.int .i64 0),(.int .i64 0)]) 16 rfl Try.underlying30 info36 rfl (by decide) (by omega) (.slice Ao21 x5_1.length co21) x5_1 (⟨x6_1,1⟩:S36) [.int .i64 x6_1,.int .i64 1] (fun _=>True) (fun _=>False) rfl rfl ?aP (fun _ hk=>hk.elim) ?aF ?aO ?aB ?aS ?aL ?_;(case aP=>exact k36_mkM _ _ _ (⟨x6_1,1⟩:S36));(case aB=>exact (by repeat (first|(with_reducible first|exact HB.out|apply zlA|apply zlN|apply zlD)|exact HB.out)));(case aF=>exact (fun _ _=>trivial));(case aO=>exact (by (with_reducible repeat (first|apply zrA|apply zrN|apply zrD));exact HO_5.out));(case aS=>exact (below_size (by repeat (first|(with_reducible first|exact HB.out|apply zlA|apply zlN|apply zlD)|exact HB.out))));(case aL=>have:=LMc20.out;omega);intro v266 w22 ho hb hg hat;rw [← Ny265.out] at ho;have n0_:=zm (hb);have n1_:=zm (ho);clear HB HO_5;have HB:=n0_;have HO267:=n1_;clear n0_ n1_;clear ho hb hg hat)))
        go_roundg k1
        case measure=>have:=HK1.out;omega
        case rel=>exact ⟨(y265),(wrap64 (x6_1 + 1)),(by first|rfl|(simp;done)|(simp [*];done)),H',⟨by have:=HK1.out;omega⟩,⟨by (with_reducible repeat (first|apply zrA|apply zrN|apply zrD));exact HO267.out⟩,⟨by repeat (first|(with_reducible first|exact HB.out|apply zlA|apply zlN|apply zlD)|exact HB.out)⟩⟩
       ·rw [if_neg c20] at H
        exact absurd H (by simp)
    ·rw [if_neg c5] at H
     have c5b0:decide (x6_1 < a1)=false:=decide_eq_false c5
     clear c5
     obtain rfl:=Option.some.inj H
     go_wp2
     repeat (go_quiet (fail);try go_wp2)
     go_ret
     exact ⟨_,by first|rfl|(simp [errW_none,errW_some] <;> rfl)|(simp [*,errW_none,errW_some] <;> rfl),by (with_reducible repeat (first|apply zrA|apply zrN|apply zrD));exact HO_5.out,by repeat (first|(with_reducible first|exact HB.out|apply zlA|apply zlN|apply zlD)|exact HB.out)⟩
 ·rw [if_neg c4] at H
  (try rw [if_pos (by omega)] at H)
  obtain rfl:=Option.some.inj H
  exact slipwayref12_Runs.no k A0 c0 l0 a1 t253 _ HR0.out HC0.out A3.out c4
end Go.Proofs.Ytllodfjbenmlpaa.Print
end
section
namespace Go.Proofs.Ytllodfjbenmlpaa.Print
open Go.RowKit Go.Proofs.YtllodfjbenmlpaaW.PrintWords Go.Proofs.YtllodfjbenmlpaaW.PrintLast Go.Proofs.YtllodfjbenmlpaaW.PrintMore
attribute [local go_sem] max2_int min2_int max_two min_two max_three min_three max_four min_four   -- for this text's walks alone
attribute [local go_sem ↓] Go.Proofs.Ytllodfjbenmlpaa.Sem.isSome_setCell
attribute [local go_sem] Go.Instr.field Go.asAgg
set_option linter.unusedVariables false
set_option linter.unusedSimpArgs false
mutual
def slipwayref12_Run.j0:Nat → List Int → Int → Int → Int → Bool → Option (Int × Int)
 | 0,_,_,_,_,_=>none
 | k + 1,x0,x1,x2,x3,x29=>if x29=true then (slipwayref12_Run.j1 k x0 x1 0 x3) else (slipwayref12_Run.j1 k x0 x1 x2 x3)
def slipwayref12_Run.j1:Nat → List Int → Int → Int → Int → Option (Int × Int)
 | 0,_,_,_,_=>none
 | k + 1,x0,x1,x2,x3=>(slipwayref12_Runs.f k x0 x1).bind fun t272=>(slipwayref12_Run.l0 k x2 x3 t272 0 0 0)
def slipwayref12_Run.l0:Nat → Int → Int → List (S36) → Int → Int → Int → Option (Int × Int)
 | 0,_,_,_,_,_,_=>none
 | k + 1,x2,x3,x10,x12,x276000,x276001=>if x12 < (x10.length:Int) then (if 0≤x12 then (if (wrap64 ((wrap64 (((rd_T36 x10 x12).f0) + ((rd_T36 x10 x12).f1))) - (mx ((rd_T36 x10 x12).f0) x2))) ≥ x3 then (some (mx ((rd_T36 x10 x12).f0) x2,x3)) else (slipwayref12_Run.l0 k x2 x3 x10 (wrap64 (x12 + 1)) x276000 x276001)) else (none)) else (slipwayref12_Run.l1 k x3 x10 0 x276000 x276001)
def slipwayref12_Run.l1:Nat → Int → List (S36) → Int → Int → Int → Option (Int × Int)
 | 0,_,_,_,_,_=>none
 | k + 1,x3,x10,x14,x276000,x276001=>if x14 < (x10.length:Int) then (if 0≤x14 then (if ((rd_T36 x10 x14).f1) ≥ x3 then (some ((rd_T36 x10 x14).f0,x3)) else (if ((rd_T36 x10 x14).f1) > x276001 then (slipwayref12_Run.l1 k x3 x10 (wrap64 (x14 + 1)) ((rd_T36 x10 x14).f0) ((rd_T36 x10 x14).f1)) else (slipwayref12_Run.l1 k x3 x10 (wrap64 (x14 + 1)) x276000 x276001))) else (none)) else (some (x276000,x276001))
end
def slipwayref12_Run.f (k:Nat) (l0:List Int) (a1:Int) (a2:Int) (a3:Int):Option (Int × Int):=(slipwayref12_Check.f k l0 a1).bind fun t268=>(if t268=0 then (if a3 < 1 then (some (0,0)) else (if a2 < 0 then (slipwayref12_Run.j0 k l0 a1 a2 a3 true) else (slipwayref12_Run.j0 k l0 a1 a2 a3 (decide (a2 ≥ a1))))) else (if 0≤281474976710656 then (some (0,0)) else (none)))
theorem slipwayref12_Runs.nothing (k:Nat) (l0:List Int) (a1 t:Int) (h:slipwayref12_Check.f k l0 a1=some t):slipwayref12_Runs.f k [] 0=some []:=by
 have hk:∃ m,k=m + 1:=by
  cases k with
  | zero =>
   unfold slipwayref12_Check.f at h
   simp [slipwayref12_Check.j0] at h
  | succ m=>exact ⟨m,rfl⟩
 obtain ⟨m,rfl⟩:=hk
 have hc:slipwayref12_Check.f (m + 1) [] 0=some 120:=by
  unfold slipwayref12_Check.f
  rw [if_neg (by decide),if_neg (by decide)]
  simp [slipwayref12_Check.j0]
 unfold slipwayref12_Runs.f
 rw [hc]
 rfl
set_option maxHeartbeats 8000000 in
set_option maxRecDepth 100000 in
theorem slipwayref12_Run.no (k:Nat) (A0:Option Addr) (c0:Nat) (l0:List Int) (a1:Int) (a2:Int) (a3:Int) (t:Int) (w:World) (hr0:Kd.C (Kd.int .u8) w A0 l0.length l0) (hc0:l0.length≤c0) (h:slipwayref12_Check.f k l0 a1=some t) (ht:¬ t=0) :
  Calls Try.prog 23 #[.slice A0 l0.length c0,.int .i64 a1,.int .i64 a2,.int .i64 a3] w fun e w'=>e=.returned (.tuple #[.int .i64 0,.int .i64 0])∧Below w.heap.size w w':=by
 have hn:=slipwayref12_Runs.nothing k l0 a1 t h
 have hu36:=Try.underlying36
 go_enter Try.func23,Try.ntmps23
 by_cases c3:a3 < 1
 ·go_wp2_with (first|((with_reducible refine gate_callee (f:=40) rfl ?_);refine goesL_ (some 18) rfl rfl Try.func40 (by kernel_rfl) rfl #[.slice A0 l0.length c0,.int .i64 a1] rfl (by (try simp only [List.map_toArray,List.map_cons,List.map_nil]);first|done|rfl|(simp only [List.length_drop,List.length_take];rfl)) ?_;(with_reducible refine (slipwayref12_may.no k _ _ l0 a1 t _ hr0 hc0 h ht).mono ?_);rintro e w' ⟨g,rfl,hb⟩;refine ⟨_,rfl,?_⟩))
  go_ret2
  exact ⟨rfl,hb⟩
 ·by_cases c2:a2 < 0
  all_goals
   have c4:¬ a2 < 0 → 0≤a2:=by omega
   try (have c5:=c4 c2)
   go_wp2_with (first|((with_reducible refine gate_callee (f:=40) rfl ?_);refine goesL_ (some 18) rfl rfl Try.func40 (by kernel_rfl) rfl #[.slice A0 l0.length c0,.int .i64 a1] rfl (by (try simp only [List.map_toArray,List.map_cons,List.map_nil]);first|done|rfl|(simp only [List.length_drop,List.length_take];rfl)) ?_;(with_reducible refine (slipwayref12_may.no k _ _ l0 a1 t _ hr0 hc0 h ht).mono ?_);rintro e w' ⟨g,rfl,hb⟩;refine ⟨_,rfl,?_⟩)|((with_reducible refine gate_callee (f:=22) rfl ?_);refine goesL_ (some 32) rfl rfl Try.func22 (by kernel_rfl) rfl #[.slice (some ⟨g,0,none⟩) 0 0,.int .i64 0] rfl (by (try simp only [List.map_toArray,List.map_cons,List.map_nil]);first|done|rfl|(simp only [List.length_drop,List.length_take];rfl)) ?_;(refine (slipwayref12_Runs.calls k (some ⟨g,0,none⟩) 0 [] 0 [] _ ⟨rfl,by simp,fun h=>absurd h (by simp)⟩ (Nat.le_refl _) hn).mono ?_);rintro e w'' ⟨v,rfl,hR,hb2⟩;obtain ⟨A2,c2_,rfl,_,_⟩:=Kd.R_reads hR;refine ⟨_,rfl,?_⟩))
   go_loop [12] (fun i=>i=.int .i64 0) (fun _=>0)
   case atStart=>rfl
   case round =>
    subst hrel
    go_wp2
    go_loop [14] (fun i=>i=.int .i64 0) (fun _=>0)
    case atStart=>rfl
    case round =>
     subst hrel
     have hcz0:(w''.alloc (Obj.cells #[Value.int IntKind.i64 0,Value.int IntKind.i64 0] 36)).cell? ⟨w''.heap.size,0,none⟩=some (.int .i64 0):=(blk_cell (heap_alloc_new w'' _) 0).trans rfl
     have hcz1:(w''.alloc (Obj.cells #[Value.int IntKind.i64 0,Value.int IntKind.i64 0] 36)).cell? ⟨w''.heap.size,1,none⟩=some (.int .i64 0):=(blk_cell (heap_alloc_new w'' _) 1).trans rfl
     go_wp2
     repeat (go_quiet (fail);try go_wp2)
     go_ret2
     exact ⟨rfl,by first|exact zlA (hb.trans (hb2.mono hb.size)) _|exact zlN (zlA (hb.trans (hb2.mono hb.size)) _) _⟩
set_option maxHeartbeats 8000000 in
set_option maxRecDepth 100000 in
theorem slipwayref12_Run.calls (k:Nat) (A0:Option Addr) (c0:Nat) (l0:List Int) (a1:Int) (a2:Int) (a3:Int) (r1:Int) (r2:Int) (w:World) (hr0:Kd.C (Kd.int .u8) w A0 l0.length l0) (hc0:l0.length≤c0) (h:slipwayref12_Run.f k l0 a1 a2 a3=some (r1,r2)) :
  Calls Try.prog 23 #[.slice A0 l0.length c0,.int .i64 a1,.int .i64 a2,.int .i64 a3] w fun e w'=>e=.returned (.tuple #[.int .i64 r1,.int .i64 r2])∧Below w.heap.size w w':=by
 have hu36:=Try.underlying36
 have HR0:=zm hr0
 have HC0:=zm hc0
 clear hr0 hc0
 have HB:=zm (Below.refl w.heap.size w)
 have H:((slipwayref12_Check.f k l0 a1).bind fun t268=>(if t268=0 then (if a3 < 1 then (some (0,0)) else (if a2 < 0 then (slipwayref12_Run.j0 k l0 a1 a2 a3 true) else (slipwayref12_Run.j0 k l0 a1 a2 a3 (decide (a2 ≥ a1))))) else (if 0≤281474976710656 then (some (0,0)) else (none))))=some (r1,r2):=h
 clear h
 replace H:=Option.bind_eq_some_iff.mp H
 obtain ⟨t268,A50,H⟩:=H
 replace H:(if t268=0 then (if a3 < 1 then (some (0,0)) else (if a2 < 0 then (slipwayref12_Run.j0 k l0 a1 a2 a3 true) else (slipwayref12_Run.j0 k l0 a1 a2 a3 (decide (a2 ≥ a1))))) else (if 0≤281474976710656 then (some (0,0)) else (none)))=some (r1,r2):=H
 have A5:=zm A50
 clear A50
 by_cases c6:t268=0
 ·rw [if_pos c6] at H
  have c6b0:(t268 == 0)=true:=beq_iff_eq.mpr c6
  have c6b1:(t268 != 0)=false:=bne_eq_false_iff_eq.mpr c6
  clear c6
  by_cases c7:a3 < 1
  ·rw [if_pos c7] at H
   have c7b0:decide (a3 < 1)=true:=decide_eq_true c7
   clear c7
   simp only [Option.some.injEq,Prod.mk.injEq] at H
   obtain ⟨rfl,rfl⟩:=H
   go_enter Try.func23,Try.ntmps23
   go_wp2_with (first|(go_at_call 40;(with_reducible refine (slipwayref12_may.ok k _ _ l0 a1 _ ?side1 ?side2 (A5.out.trans (congrArg some (eq_of_beq c6b0)))).mono ?_);(case side1=>repeat (first|exact HR0.out|(with_reducible refine Kd.C_alloc ?_ _)|(with_reducible refine Kd.C_drewN ?_ _)|(with_reducible refine Kd.C_drew ?_)));(case side2=>exact HC0.out);rintro e w' ⟨rfl,⟨nd,rfl⟩⟩;(try first|exact ⟨rfl,_,World.drewN_drewN _ _ _⟩|exact ⟨rfl,_,Eq.trans (World.drewN_drewN _ _ _) (congrArg (World.drewN _) (Nat.add_assoc _ _ _))⟩)))
   repeat (go_quiet (first|(go_at_call 40;(with_reducible refine (slipwayref12_may.ok k _ _ l0 a1 _ ?side1 ?side2 (A5.out.trans (congrArg some (eq_of_beq c6b0)))).mono ?_);(case side1=>repeat (first|exact HR0.out|(with_reducible refine Kd.C_alloc ?_ _)|(with_reducible refine Kd.C_drewN ?_ _)|(with_reducible refine Kd.C_drew ?_)));(case side2=>exact HC0.out);rintro e w' ⟨rfl,⟨nd,rfl⟩⟩;(try first|exact ⟨rfl,_,World.drewN_drewN _ _ _⟩|exact ⟨rfl,_,Eq.trans (World.drewN_drewN _ _ _) (congrArg (World.drewN _) (Nat.add_assoc _ _ _))⟩)));try go_wp2_with (first|(go_at_call 40;(with_reducible refine (slipwayref12_may.ok k _ _ l0 a1 _ ?side1 ?side2 (A5.out.trans (congrArg some (eq_of_beq c6b0)))).mono ?_);(case side1=>repeat (first|exact HR0.out|(with_reducible refine Kd.C_alloc ?_ _)|(with_reducible refine Kd.C_drewN ?_ _)|(with_reducible refine Kd.C_drew ?_)));(case side2=>exact HC0.out);rintro e w' ⟨rfl,⟨nd,rfl⟩⟩;(try first|exact ⟨rfl,_,World.drewN_drewN _ _ _⟩|exact ⟨rfl,_,Eq.trans (World.drewN_drewN _ _ _) (congrArg (World.drewN _) (Nat.add_assoc _ _ _))⟩))))
   go_ret2
   exact ⟨by first|rfl|(simp [errW_none,errW_some] <;> rfl)|(simp [*,errW_none,errW_some] <;> rfl),by repeat (first|(with_reducible first|exact HB.out|apply zlA|apply zlN|apply zlD)|exact HB.out)⟩
  ·rw [if_neg c7] at H
   have c7b0:decide (a3 < 1)=false:=decide_eq_false c7
   clear c7
   have HC8:=zm H
   clear H
   go_enter Try.func23,Try.ntmps23
   go_upto_region 4 with (first|(go_at_call 40;(with_reducible refine (slipwayref12_may.ok k _ _ l0 a1 _ ?side1 ?side2 (A5.out.trans (congrArg some (eq_of_beq c6b0)))).mono ?_);(case side1=>repeat (first|exact HR0.out|(with_reducible refine Kd.C_alloc ?_ _)|(with_reducible refine Kd.C_drewN ?_ _)|(with_reducible refine Kd.C_drew ?_)));(case side2=>exact HC0.out);rintro e w' ⟨rfl,⟨nd,rfl⟩⟩;(try first|exact ⟨rfl,_,World.drewN_drewN _ _ _⟩|exact ⟨rfl,_,Eq.trans (World.drewN_drewN _ _ _) (congrArg (World.drewN _) (Nat.add_assoc _ _ _))⟩)))
   repeat (go_quiet (first|(go_at_call 40;(with_reducible refine (slipwayref12_may.ok k _ _ l0 a1 _ ?side1 ?side2 (A5.out.trans (congrArg some (eq_of_beq c6b0)))).mono ?_);(case side1=>repeat (first|exact HR0.out|(with_reducible refine Kd.C_alloc ?_ _)|(with_reducible refine Kd.C_drewN ?_ _)|(with_reducible refine Kd.C_drew ?_)));(case side2=>exact HC0.out);rintro e w' ⟨rfl,⟨nd,rfl⟩⟩;(try first|exact ⟨rfl,_,World.drewN_drewN _ _ _⟩|exact ⟨rfl,_,Eq.trans (World.drewN_drewN _ _ _) (congrArg (World.drewN _) (Nat.add_assoc _ _ _))⟩)));go_upto_region 4 with (first|(go_at_call 40;(with_reducible refine (slipwayref12_may.ok k _ _ l0 a1 _ ?side1 ?side2 (A5.out.trans (congrArg some (eq_of_beq c6b0)))).mono ?_);(case side1=>repeat (first|exact HR0.out|(with_reducible refine Kd.C_alloc ?_ _)|(with_reducible refine Kd.C_drewN ?_ _)|(with_reducible refine Kd.C_drew ?_)));(case side2=>exact HC0.out);rintro e w' ⟨rfl,⟨nd,rfl⟩⟩;(try first|exact ⟨rfl,_,World.drewN_drewN _ _ _⟩|exact ⟨rfl,_,Eq.trans (World.drewN_drewN _ _ _) (congrArg (World.drewN _) (Nat.add_assoc _ _ _))⟩))))
   (try simp only [Act.put,List.setIfInBounds_toArray,List.set_cons_zero,List.set_cons_succ])
   go_cut [29] (fun v29 wc=>∃ (kq:Nat) (x29_7:Bool),v29=.bool x29_7∧Aside0 (slipwayref12_Run.j0 kq l0 a1 a2 a3 x29_7=some (r1,r2))∧Aside0 (kq≤k)∧Aside0 (Below w.heap.size w wc))
   case first =>
    have H:=HC8.out
    clear HC8
    by_cases c9:a2 < 0
    ·rw [if_pos c9] at H
     have c9b0:decide (a2 < 0)=true:=decide_eq_true c9
     clear c9
     (first|rw [c9b0]|(simp only [i64_w,i32_w];rw [c9b0])|skip)
     have H':=zm H
     clear H
     go_wp2
     repeat (go_quiet (fail);try go_wp2)
     go_meet
     case rel=>exact ⟨_,(true),(by first|rfl|(simp;done)|(simp [*];done)),H',⟨by first|omega|exact Nat.le_refl _⟩,⟨by repeat (first|(with_reducible first|exact HB.out|apply zlA|apply zlN|apply zlD)|exact HB.out)⟩⟩
    ·rw [if_neg c9] at H
     have c9b0:decide (a2 < 0)=false:=decide_eq_false c9
     clear c9
     (first|rw [c9b0]|(simp only [i64_w,i32_w];rw [c9b0])|skip)
     have H':=zm H
     clear H
     go_wp2
     repeat (go_quiet (fail);try go_wp2)
     go_meet
     case rel=>exact ⟨_,(decide (a2 ≥ a1)),(by first|rfl|(simp;done)|(simp [*];done)),H',⟨by first|omega|exact Nat.le_refl _⟩,⟨by repeat (first|(with_reducible first|exact HB.out|apply zlA|apply zlN|apply zlD)|exact HB.out)⟩⟩
   case rest =>
    clear HC8
    try clear c2
    try clear p2
    try clear c6
    try clear c6b0
    try clear c6b1
    try clear c7
    try clear c7b0
    try clear c9
    try clear c9b0
    obtain ⟨kq,x29_7,rfl,HA,HJ7,HB⟩:=hcut
    cases kq with
    | zero=>exact absurd HA.out (by simp [slipwayref12_Run.j0])
    | succ kj7 =>
     have H:=HA.out
     clear HA
     simp only [slipwayref12_Run.j0] at H
     have HC10:=zm H
     clear H
     go_upto_if 29 with (fail)
     repeat (go_quiet (fail);go_upto_if 29 with (fail))
     go_cut [2] (fun v2 wc=>∃ (kq:Nat) (x2_9:Int),v2=.int .i64 x2_9∧Aside0 (slipwayref12_Run.j1 kq l0 a1 x2_9 a3=some (r1,r2))∧Aside0 (kq≤kj7)∧Aside0 (Below w.heap.size w wc))
     case first =>
      have H:=HC10.out
      clear HC10
      by_cases c11:x29_7=true
      ·subst c11
       have H1:(slipwayref12_Run.j1 kj7 l0 a1 0 a3)=some (r1,r2):=by rw [if_pos rfl] at H;exact H
       clear H
       have H:=H1
       clear H1
       have H':=zm H
       clear H
       go_wp2
       repeat (go_quiet (fail);try go_wp2)
       go_meet
       case rel=>exact ⟨_,(0),(by first|rfl|(simp;done)|(simp [*];done)),H',⟨by have:=HJ7.out;first|omega|exact Nat.le_refl _⟩,⟨by repeat (first|(with_reducible first|exact HB.out|apply zlA|apply zlN|apply zlD)|exact HB.out)⟩⟩
      ·replace c11:=Bool.eq_false_iff.mpr c11
       subst c11
       have H1:(slipwayref12_Run.j1 kj7 l0 a1 a2 a3)=some (r1,r2):=by rw [if_neg (show ¬ (false=true) by decide)] at H;exact H
       clear H
       have H:=H1
       clear H1
       have H':=zm H
       clear H
       go_wp2
       repeat (go_quiet (fail);try go_wp2)
       go_meet
       case rel=>exact ⟨_,(a2),(by first|rfl|(simp;done)|(simp [*];done)),H',⟨by have:=HJ7.out;first|omega|exact Nat.le_refl _⟩,⟨by repeat (first|(with_reducible first|exact HB.out|apply zlA|apply zlN|apply zlD)|exact HB.out)⟩⟩
     case rest =>
      clear HC10
      try clear c1
      try clear c2
      try clear p2
      try clear c6
      try clear c6b0
      try clear c6b1
      try clear c7
      try clear c7b0
      try clear c9
      try clear c9b0
      try clear c11
      try clear p2
      obtain ⟨kq,x2_9,rfl,HA,HJ9,HB⟩:=hcut
      cases kq with
      | zero=>exact absurd HA.out (by simp [slipwayref12_Run.j1])
      | succ kj9 =>
       have H:=HA.out
       clear HA
       simp only [slipwayref12_Run.j1] at H
       replace H:=Option.bind_eq_some_iff.mp H
       obtain ⟨t272,A120,H⟩:=H
       replace H:(slipwayref12_Run.l0 kj9 x2_9 a3 t272 0 0 0)=some (r1,r2):=H
       have A12:=zm A120
       clear A120
       have H':=zm H
       clear H
       go_wp2_with (first|(go_at_call 22;(with_reducible refine (slipwayref12_Runs.calls kj9 _ _ l0 a1 t272 _ ?side1 ?side2 A12.out).mono ?_);(case side1=>repeat (first|exact (Kd.C_below HR0.out HB.out)|(with_reducible refine Kd.C_alloc ?_ _)|(with_reducible refine Kd.C_drewN ?_ _)|(with_reducible refine Kd.C_drew ?_)));(case side2=>exact HC0.out);rintro e w13 ⟨v273,rfl,ho0,hb⟩;have n0_:=zm (Kd.R_lower ho0 (below_size (by repeat (first|(with_reducible first|exact HB.out|apply zlA|apply zlN|apply zlD)|exact HB.out))));have n1_:=zm (below_step (by repeat (first|(with_reducible first|exact HB.out|apply zlA|apply zlN|apply zlD)|exact HB.out)) hb);clear HB;have HO274:=n0_;have HB:=n1_;clear n0_ n1_;(try clear hb);(try clear hb2);(try clear hk);(try clear hi);(try clear ho0))|((with_reducible refine gate_dst (N:=11) rfl ?_);refine box_event ?hg (N:=11) ?hd (cs:=#[.int .i64 0,.int .i64 0]) (t:=36) ?hr ?_;(case hd=>rfl);(case hg=>rfl);(case hr=>first|(go_simp;done)|(go_simp;rfl));intro gb275 hg w14 hbox hb;have n0_:=zm (Kd.R_below (Kd.R_elderB (by (with_reducible repeat (first|apply zrA|apply zrN|apply zrD));exact HO274.out) gb275 (Nat.le_of_eq hg.symm)) hb);have n1_:=zm (below_step (by repeat (first|(with_reducible first|exact HB.out|apply zlA|apply zlN|apply zlD)|exact HB.out)) hb);have n2_:=zm (hbox);have n3_:=zm ((by rw [hg];exact (below_size (by repeat (first|(with_reducible first|exact HB.out|apply zlA|apply zlN|apply zlD)|exact HB.out))):w.heap.size≤gb275));have n4_:=zm ((by rw [hg];exact (below_size (by repeat (first|(with_reducible first|exact HB.out|apply zlA|apply zlN|apply zlD)|exact HB.out))):w.heap.size≤gb275));clear HO274 HB;have HO274:=n0_;have HB:=n1_;have BK275:=n2_;have GW275:=n3_;have GE275:=n4_;clear n0_ n1_ n2_ n3_ n4_;clear hb hbox hg;have hcz15_0:w14.cell? ⟨gb275,0,none⟩=some (.int .i64 0):=(blk_cell BK275.out 0).trans rfl;have hcz15_1:w14.cell? ⟨gb275,1,none⟩=some (.int .i64 0):=(blk_cell BK275.out 1).trans rfl;have hfz15_0:=blk_frozen BK275.out 0;have hfz15_1:=blk_frozen BK275.out 1))
       repeat (go_quiet (first|(go_at_call 22;(with_reducible refine (slipwayref12_Runs.calls kj9 _ _ l0 a1 t272 _ ?side1 ?side2 A12.out).mono ?_);(case side1=>repeat (first|exact (Kd.C_below HR0.out HB.out)|(with_reducible refine Kd.C_alloc ?_ _)|(with_reducible refine Kd.C_drewN ?_ _)|(with_reducible refine Kd.C_drew ?_)));(case side2=>exact HC0.out);rintro e w13 ⟨v273,rfl,ho0,hb⟩;have n0_:=zm (Kd.R_lower ho0 (below_size (by repeat (first|(with_reducible first|exact HB.out|apply zlA|apply zlN|apply zlD)|exact HB.out))));have n1_:=zm (below_step (by repeat (first|(with_reducible first|exact HB.out|apply zlA|apply zlN|apply zlD)|exact HB.out)) hb);clear HB;have HO274:=n0_;have HB:=n1_;clear n0_ n1_;(try clear hb);(try clear hb2);(try clear hk);(try clear hi);(try clear ho0))|((with_reducible refine gate_dst (N:=11) rfl ?_);refine box_event ?hg (N:=11) ?hd (cs:=#[.int .i64 0,.int .i64 0]) (t:=36) ?hr ?_;(case hd=>rfl);(case hg=>rfl);(case hr=>first|(go_simp;done)|(go_simp;rfl));intro gb275 hg w14 hbox hb;have n0_:=zm (Kd.R_below (Kd.R_elderB (by (with_reducible repeat (first|apply zrA|apply zrN|apply zrD));exact HO274.out) gb275 (Nat.le_of_eq hg.symm)) hb);have n1_:=zm (below_step (by repeat (first|(with_reducible first|exact HB.out|apply zlA|apply zlN|apply zlD)|exact HB.out)) hb);have n2_:=zm (hbox);have n3_:=zm ((by rw [hg];exact (below_size (by repeat (first|(with_reducible first|exact HB.out|apply zlA|apply zlN|apply zlD)|exact HB.out))):w.heap.size≤gb275));have n4_:=zm ((by rw [hg];exact (below_size (by repeat (first|(with_reducible first|exact HB.out|apply zlA|apply zlN|apply zlD)|exact HB.out))):w.heap.size≤gb275));clear HO274 HB;have HO274:=n0_;have HB:=n1_;have BK275:=n2_;have GW275:=n3_;have GE275:=n4_;clear n0_ n1_ n2_ n3_ n4_;clear hb hbox hg;have hcz15_0:w14.cell? ⟨gb275,0,none⟩=some (.int .i64 0):=(blk_cell BK275.out 0).trans rfl;have hcz15_1:w14.cell? ⟨gb275,1,none⟩=some (.int .i64 0):=(blk_cell BK275.out 1).trans rfl;have hfz15_0:=blk_frozen BK275.out 0;have hfz15_1:=blk_frozen BK275.out 1));try go_wp2_with (first|(go_at_call 22;(with_reducible refine (slipwayref12_Runs.calls kj9 _ _ l0 a1 t272 _ ?side1 ?side2 A12.out).mono ?_);(case side1=>repeat (first|exact (Kd.C_below HR0.out HB.out)|(with_reducible refine Kd.C_alloc ?_ _)|(with_reducible refine Kd.C_drewN ?_ _)|(with_reducible refine Kd.C_drew ?_)));(case side2=>exact HC0.out);rintro e w13 ⟨v273,rfl,ho0,hb⟩;have n0_:=zm (Kd.R_lower ho0 (below_size (by repeat (first|(with_reducible first|exact HB.out|apply zlA|apply zlN|apply zlD)|exact HB.out))));have n1_:=zm (below_step (by repeat (first|(with_reducible first|exact HB.out|apply zlA|apply zlN|apply zlD)|exact HB.out)) hb);clear HB;have HO274:=n0_;have HB:=n1_;clear n0_ n1_;(try clear hb);(try clear hb2);(try clear hk);(try clear hi);(try clear ho0))|((with_reducible refine gate_dst (N:=11) rfl ?_);refine box_event ?hg (N:=11) ?hd (cs:=#[.int .i64 0,.int .i64 0]) (t:=36) ?hr ?_;(case hd=>rfl);(case hg=>rfl);(case hr=>first|(go_simp;done)|(go_simp;rfl));intro gb275 hg w14 hbox hb;have n0_:=zm (Kd.R_below (Kd.R_elderB (by (with_reducible repeat (first|apply zrA|apply zrN|apply zrD));exact HO274.out) gb275 (Nat.le_of_eq hg.symm)) hb);have n1_:=zm (below_step (by repeat (first|(with_reducible first|exact HB.out|apply zlA|apply zlN|apply zlD)|exact HB.out)) hb);have n2_:=zm (hbox);have n3_:=zm ((by rw [hg];exact (below_size (by repeat (first|(with_reducible first|exact HB.out|apply zlA|apply zlN|apply zlD)|exact HB.out))):w.heap.size≤gb275));have n4_:=zm ((by rw [hg];exact (below_size (by repeat (first|(with_reducible first|exact HB.out|apply zlA|apply zlN|apply zlD)|exact HB.out))):w.heap.size≤gb275));clear HO274 HB;have HO274:=n0_;have HB:=n1_;have BK275:=n2_;have GW275:=n3_;have GE275:=n4_;clear n0_ n1_ n2_ n3_ n4_;clear hb hbox hg;have hcz15_0:w14.cell? ⟨gb275,0,none⟩=some (.int .i64 0):=(blk_cell BK275.out 0).trans rfl;have hcz15_1:w14.cell? ⟨gb275,1,none⟩=some (.int .i64 0):=(blk_cell BK275.out 1).trans rfl;have hfz15_0:=blk_frozen BK275.out 0;have hfz15_1:=blk_frozen BK275.out 1)))
       go_loopg [12] kj9 (fun kq v12 w'=>∃ (x12_3:Int),v12=.int .i64 x12_3∧Aside0 (slipwayref12_Run.l0 kq x2_9 a3 t272 x12_3 0 0=some (r1,r2))∧Aside0 (kq≤kj9)∧Aside0 (Kd.R k36 36 w' w.heap.size (fun k_=>k_≠gb275) v273 t272)∧Aside0 (w'.heap[gb275]?=some (.cells #[.int .i64 0,.int .i64 0] 36 (0,0)))∧Aside0 (Below w.heap.size w w'))
       case atStart=>exact ⟨(0),(by first|rfl|(simp;done)|(simp [*];done)),H',⟨Nat.le_refl _⟩,⟨by (with_reducible repeat (first|apply zrA|apply zrN|apply zrD));exact Kd.R_mono (Kd.R_far (p:=⟨gb275,1,none⟩) (Kd.R_far (p:=⟨gb275,0,none⟩) (Kd.R_mono HO274.out (fun k_ hk=>(⟨hk,hk.2⟩:_∧k_≠gb275))) (fun _ hk=>hk.2) (.int .i64 0)) (fun _ hk=>hk.2) (.int .i64 0)) (fun _ hk=>hk.1.2)⟩,⟨by (with_reducible repeat (first|refine zbN ?_ _|refine zbD ?_|refine zbA ?_ _));refine blk_put (cs:=#[.int .i64 0,.int .i64 0]) ?_ 1 _ rfl;(with_reducible repeat (first|refine zbN ?_ _|refine zbD ?_|refine zbA ?_ _));refine blk_put (cs:=#[.int .i64 0,.int .i64 0]) ?_ 0 _ rfl;(with_reducible repeat (first|refine zbN ?_ _|refine zbD ?_|refine zbA ?_ _));exact BK275.out⟩,⟨by repeat (first|(with_reducible first|exact HB.out|apply zlA|apply zlN|apply zlD|refine zlS ?_ GE275.out)|exact HB.out)⟩⟩
       case round =>
        clear H'
        try clear c1
        try clear c2
        try clear p2
        try clear c6
        try clear c6b0
        try clear c6b1
        try clear c7
        try clear c7b0
        try clear c9
        try clear c9b0
        try clear c11
        try clear hcz15_0
        try clear hcz15_1
        try clear hfz15_0
        try clear hfz15_1
        try clear p2
        obtain ⟨x12_3,rfl,HA,HK3,HO_10,BK275,HB⟩:=hrel
        cases gk with
        | zero=>exact absurd HA.out (by simp [slipwayref12_Run.l0])
        | succ k3 =>
         have H:=HA.out
         clear HA
         simp only [slipwayref12_Run.l0] at H
         by_cases c16:x12_3 < (t272.length:Int)
         ·rw [if_pos c16] at H
          have c16b0:decide (x12_3 < (t272.length:Int))=true:=decide_eq_true c16
          clear c16
          by_cases c17:0≤x12_3
          ·rw [if_pos c17] at H
           have c17b0:decide (0≤x12_3)=true:=decide_eq_true c17
           clear c17
           obtain ⟨ji18,hji18⟩:∃ j_:Int,(mx ((rd_T36 t272 x12_3).f0) x2_9)=j_:=⟨_,rfl⟩
           replace H:(if (wrap64 ((wrap64 (((rd_T36 t272 x12_3).f0) + ((rd_T36 t272 x12_3).f1))) - (ji18))) ≥ a3 then (some (ji18,a3)) else (slipwayref12_Run.l0 k3 x2_9 a3 t272 (wrap64 (x12_3 + 1)) 0 0))=some (r1,r2):=by first|(rw [hji18] at H;exact H)|(simp only [hji18] at H ⊢;exact H)
           have hji18_:(if ((rd_T36 t272 x12_3).f0) < x2_9 then x2_9 else ((rd_T36 t272 x12_3).f0))=ji18:=hji18
           by_cases c19:(wrap64 ((wrap64 (((rd_T36 t272 x12_3).f0) + ((rd_T36 t272 x12_3).f1))) - (ji18))) ≥ a3
           ·rw [if_pos c19] at H
            have c19b0:decide (a3≤(wrap64 ((wrap64 (((rd_T36 t272 x12_3).f0) + ((rd_T36 t272 x12_3).f1))) - (ji18))))=true:=decide_eq_true c19
            clear c19
            simp only [Option.some.injEq,Prod.mk.injEq] at H
            obtain ⟨rfl,rfl⟩:=H
            obtain ⟨Ao20,co20,eo20⟩:=Kd.R_slice HO_10.out
            subst eo20
            have p276:0≤(x12_3:Int):=of_decide_eq_true (by first|(with_reducible assumption)|assumption)
            have q276:x12_3 < (t272.length:Int):=of_decide_eq_true (by first|(with_reducible assumption)|assumption)
            obtain ⟨ad276,e276,hx276_0,hx276_1⟩:=at_T36 (Kd.R_reads' HO_10.out).2.2 x12_3 p276 q276
            cases e276
            replace p276:=eq_true p276
            replace q276:=eq_true q276
            have p277:0≤(x12_3:Int):=of_decide_eq_true (by first|(with_reducible assumption)|assumption)
            have q277:x12_3 < (t272.length:Int):=of_decide_eq_true (by first|(with_reducible assumption)|assumption)
            obtain ⟨ad277,e277,hx277_0,hx277_1⟩:=at_T36 (Kd.R_reads' HO_10.out).2.2 x12_3 p277 q277
            obtain rfl:ad276=ad277:=(by injection e277)
            replace p277:=eq_true p277
            replace q277:=eq_true q277
            have p278:0≤(x12_3:Int):=of_decide_eq_true (by first|(with_reducible assumption)|assumption)
            have q278:x12_3 < (t272.length:Int):=of_decide_eq_true (by first|(with_reducible assumption)|assumption)
            obtain ⟨ad278,e278,hx278_0,hx278_1⟩:=at_T36 (Kd.R_reads' HO_10.out).2.2 x12_3 p278 q278
            obtain rfl:ad276=ad278:=(by injection e278)
            replace p278:=eq_true p278
            replace q278:=eq_true q278
            go_wp2
            repeat (go_quiet (fail);try go_wp2)
            go_ret2
            exact ⟨by first|rfl|(simp [errW_none,errW_some] <;> rfl)|(simp only [← hji18];first|rfl|(simp [errW_none,errW_some] <;> rfl))|(simp [*,errW_none,errW_some] <;> rfl),by repeat (first|(with_reducible first|exact HB.out|apply zlA|apply zlN|apply zlD|refine zlS ?_ GE275.out)|exact HB.out)⟩
           ·rw [if_neg c19] at H
            have c19b0:decide (a3≤(wrap64 ((wrap64 (((rd_T36 t272 x12_3).f0) + ((rd_T36 t272 x12_3).f1))) - (ji18))))=false:=decide_eq_false c19
            clear c19
            have H':=zm H
            clear H
            obtain ⟨Ao21,co21,eo21⟩:=Kd.R_slice HO_10.out
            subst eo21
            have p276:0≤(x12_3:Int):=of_decide_eq_true (by first|(with_reducible assumption)|assumption)
            have q276:x12_3 < (t272.length:Int):=of_decide_eq_true (by first|(with_reducible assumption)|assumption)
            obtain ⟨ad276,e276,hx276_0,hx276_1⟩:=at_T36 (Kd.R_reads' HO_10.out).2.2 x12_3 p276 q276
            cases e276
            replace p276:=eq_true p276
            replace q276:=eq_true q276
            have p277:0≤(x12_3:Int):=of_decide_eq_true (by first|(with_reducible assumption)|assumption)
            have q277:x12_3 < (t272.length:Int):=of_decide_eq_true (by first|(with_reducible assumption)|assumption)
            obtain ⟨ad277,e277,hx277_0,hx277_1⟩:=at_T36 (Kd.R_reads' HO_10.out).2.2 x12_3 p277 q277
            obtain rfl:ad276=ad277:=(by injection e277)
            replace p277:=eq_true p277
            replace q277:=eq_true q277
            have p278:0≤(x12_3:Int):=of_decide_eq_true (by first|(with_reducible assumption)|assumption)
            have q278:x12_3 < (t272.length:Int):=of_decide_eq_true (by first|(with_reducible assumption)|assumption)
            obtain ⟨ad278,e278,hx278_0,hx278_1⟩:=at_T36 (Kd.R_reads' HO_10.out).2.2 x12_3 p278 q278
            obtain rfl:ad276=ad278:=(by injection e278)
            replace p278:=eq_true p278
            replace q278:=eq_true q278
            go_wp2
            repeat (go_quiet (fail);try go_wp2)
            go_roundg k3
            case measure=>have:=HJ7.out;have:=HJ9.out;have:=HK3.out;omega
            case rel=>exact ⟨(wrap64 (x12_3 + 1)),(by first|rfl|(simp;done)|(simp [*];done)),H',⟨by have:=HJ7.out;have:=HJ9.out;have:=HK3.out;omega⟩,⟨by (with_reducible repeat (first|apply zrA|apply zrN|apply zrD));exact HO_10.out⟩,⟨by (with_reducible repeat (first|refine zbN ?_ _|refine zbD ?_|refine zbA ?_ _));exact BK275.out⟩,⟨by repeat (first|(with_reducible first|exact HB.out|apply zlA|apply zlN|apply zlD|refine zlS ?_ GE275.out)|exact HB.out)⟩⟩
          ·rw [if_neg c17] at H
           exact absurd H (by simp)
         ·rw [if_neg c16] at H
          have c16b0:decide (x12_3 < (t272.length:Int))=false:=decide_eq_false c16
          clear c16
          have H':=zm H
          clear H
          obtain ⟨Ao22,co22,eo22⟩:=Kd.R_slice HO_10.out
          subst eo22
          go_wp2
          repeat (go_quiet (fail);try go_wp2)
          go_loopg [14] k3 (fun kq v14 w'=>∃ (x14_4:Int) (x276000_4:Int) (x276001_4:Int),v14=.int .i64 x14_4∧Aside0 (slipwayref12_Run.l1 kq a3 t272 x14_4 x276000_4 x276001_4=some (r1,r2))∧Aside0 (kq≤k3)∧Aside0 (Kd.R k36 36 w' w.heap.size (fun k_=>k_≠gb275) (.slice Ao22 t272.length co22) t272)∧Aside0 (w'.heap[gb275]?=some (.cells #[.int .i64 x276000_4,.int .i64 x276001_4] 36 (0,0)))∧Aside0 (Below w.heap.size w w'))
          case atStart=>exact ⟨(0),(0),(0),(by first|rfl|(simp;done)|(simp [*];done)),H',⟨Nat.le_refl _⟩,⟨by (with_reducible repeat (first|apply zrA|apply zrN|apply zrD));exact HO_10.out⟩,⟨by (with_reducible repeat (first|refine zbN ?_ _|refine zbD ?_|refine zbA ?_ _));exact BK275.out⟩,⟨by repeat (first|(with_reducible first|exact HB.out|apply zlA|apply zlN|apply zlD|refine zlS ?_ GE275.out)|exact HB.out)⟩⟩
          case round =>
           clear H'
           try clear c1
           try clear c2
           try clear p2
           try clear q2
           try clear hx2
           try clear c6
           try clear c6b0
           try clear c6b1
           try clear p6
           try clear c7
           try clear c7b0
           try clear c9
           try clear c9b0
           try clear c11
           try clear c16
           try clear c16b0
           try clear c17
           try clear c17b0
           try clear c19
           try clear c19b0
           try clear hcz15_0
           try clear hcz15_1
           try clear hfz15_0
           try clear hfz15_1
           try clear hx276_0
           try clear hx276_1
           try clear hx277_0
           try clear hx277_1
           try clear hx278_0
           try clear hx278_1
           try clear p2
           try clear p276
           try clear p277
           try clear p278
           try clear q276
           try clear q277
           try clear q278
           obtain ⟨x14_4,x276000_4,x276001_4,rfl,HA,HK4,HO_10,BK275,HB⟩:=hrel
           cases gk with
           | zero=>exact absurd HA.out (by simp [slipwayref12_Run.l1])
           | succ k4 =>
            have H:=HA.out
            clear HA
            simp only [slipwayref12_Run.l1] at H
            by_cases c23:x14_4 < (t272.length:Int)
            ·rw [if_pos c23] at H
             have c23b0:decide (x14_4 < (t272.length:Int))=true:=decide_eq_true c23
             clear c23
             by_cases c24:0≤x14_4
             ·rw [if_pos c24] at H
              have c24b0:decide (0≤x14_4)=true:=decide_eq_true c24
              clear c24
              by_cases c25:((rd_T36 t272 x14_4).f1) ≥ a3
              ·rw [if_pos c25] at H
               have c25b0:decide (a3≤((rd_T36 t272 x14_4).f1))=true:=decide_eq_true c25
               clear c25
               simp only [Option.some.injEq,Prod.mk.injEq] at H
               obtain ⟨rfl,rfl⟩:=H
               have p279:0≤(x14_4:Int):=of_decide_eq_true (by first|(with_reducible assumption)|assumption)
               have q279:x14_4 < (t272.length:Int):=of_decide_eq_true (by first|(with_reducible assumption)|assumption)
               obtain ⟨ad279,e279,hx279_0,hx279_1⟩:=at_T36 (Kd.R_reads' HO_10.out).2.2 x14_4 p279 q279
               cases e279
               replace p279:=eq_true p279
               replace q279:=eq_true q279
               have p280:0≤(x14_4:Int):=of_decide_eq_true (by first|(with_reducible assumption)|assumption)
               have q280:x14_4 < (t272.length:Int):=of_decide_eq_true (by first|(with_reducible assumption)|assumption)
               obtain ⟨ad280,e280,hx280_0,hx280_1⟩:=at_T36 (Kd.R_reads' HO_10.out).2.2 x14_4 p280 q280
               obtain rfl:ad279=ad280:=(by injection e280)
               replace p280:=eq_true p280
               replace q280:=eq_true q280
               go_wp2
               repeat (go_quiet (fail);try go_wp2)
               go_ret2
               exact ⟨by first|rfl|(simp [errW_none,errW_some] <;> rfl)|(simp [*,errW_none,errW_some] <;> rfl),by repeat (first|(with_reducible first|exact HB.out|apply zlA|apply zlN|apply zlD|refine zlS ?_ GE275.out)|exact HB.out)⟩
              ·rw [if_neg c25] at H
               have c25b0:decide (a3≤((rd_T36 t272 x14_4).f1))=false:=decide_eq_false c25
               clear c25
               by_cases c26:((rd_T36 t272 x14_4).f1) > x276001_4
               ·rw [if_pos c26] at H
                have c26b0:decide (x276001_4 < ((rd_T36 t272 x14_4).f1))=true:=decide_eq_true c26
                clear c26
                have H':=zm H
                clear H
                have p279:0≤(x14_4:Int):=of_decide_eq_true (by first|(with_reducible assumption)|assumption)
                have q279:x14_4 < (t272.length:Int):=of_decide_eq_true (by first|(with_reducible assumption)|assumption)
                obtain ⟨ad279,e279,hx279_0,hx279_1⟩:=at_T36 (Kd.R_reads' HO_10.out).2.2 x14_4 p279 q279
                cases e279
                replace p279:=eq_true p279
                replace q279:=eq_true q279
                have p281:0≤(x14_4:Int):=of_decide_eq_true (by first|(with_reducible assumption)|assumption)
                have q281:x14_4 < (t272.length:Int):=of_decide_eq_true (by first|(with_reducible assumption)|assumption)
                obtain ⟨ad281,e281,hx281_0,hx281_1⟩:=at_T36 (Kd.R_reads' HO_10.out).2.2 x14_4 p281 q281
                obtain rfl:ad279=ad281:=(by injection e281)
                replace p281:=eq_true p281
                replace q281:=eq_true q281
                have hcz27_0:wr.cell? ⟨gb275,0,none⟩=some (.int .i64 x276000_4):=(blk_cell BK275.out 0).trans rfl
                have hcz27_1:wr.cell? ⟨gb275,1,none⟩=some (.int .i64 x276001_4):=(blk_cell BK275.out 1).trans rfl
                have hfz27_0:=blk_frozen BK275.out 0
                have hfz27_1:=blk_frozen BK275.out 1
                have p282:0≤(x14_4:Int):=of_decide_eq_true (by first|(with_reducible assumption)|assumption)
                have q282:x14_4 < (t272.length:Int):=of_decide_eq_true (by first|(with_reducible assumption)|assumption)
                obtain ⟨ad282,e282,hx282_0,hx282_1⟩:=at_T36 (Kd.R_reads' HO_10.out).2.2 x14_4 p282 q282
                obtain rfl:ad279=ad282:=(by injection e282)
                replace p282:=eq_true p282
                replace q282:=eq_true q282
                go_wp2
                repeat (go_quiet (fail);try go_wp2)
                go_roundg k4
                case measure=>have:=HJ7.out;have:=HJ9.out;have:=HK3.out;have:=HK4.out;omega
                case rel=>exact ⟨(wrap64 (x14_4 + 1)),((rd_T36 t272 x14_4).f0),((rd_T36 t272 x14_4).f1),(by first|rfl|(simp;done)|(simp [*];done)),H',⟨by have:=HJ7.out;have:=HJ9.out;have:=HK3.out;have:=HK4.out;omega⟩,⟨by (with_reducible repeat (first|apply zrA|apply zrN|apply zrD));exact Kd.R_mono (Kd.R_far (p:=⟨gb275,1,none⟩) (Kd.R_far (p:=⟨gb275,0,none⟩) (Kd.R_mono HO_10.out (fun k_ hk=>(⟨hk,hk⟩:_∧k_≠gb275))) (fun _ hk=>hk.2) (.int .i64 ((rd_T36 t272 x14_4).f0))) (fun _ hk=>hk.2) (.int .i64 ((rd_T36 t272 x14_4).f1))) (fun _ hk=>hk.1)⟩,⟨by (with_reducible repeat (first|refine zbN ?_ _|refine zbD ?_|refine zbA ?_ _));refine blk_put (cs:=#[.int .i64 ((rd_T36 t272 x14_4).f0),.int .i64 x276001_4]) ?_ 1 _ rfl;(with_reducible repeat (first|refine zbN ?_ _|refine zbD ?_|refine zbA ?_ _));refine blk_put (cs:=#[.int .i64 x276000_4,.int .i64 x276001_4]) ?_ 0 _ rfl;(with_reducible repeat (first|refine zbN ?_ _|refine zbD ?_|refine zbA ?_ _));exact BK275.out⟩,⟨by repeat (first|(with_reducible first|exact HB.out|apply zlA|apply zlN|apply zlD|refine zlS ?_ GE275.out)|exact HB.out)⟩⟩
               ·rw [if_neg c26] at H
                have c26b0:decide (x276001_4 < ((rd_T36 t272 x14_4).f1))=false:=decide_eq_false c26
                clear c26
                have H':=zm H
                clear H
                have p279:0≤(x14_4:Int):=of_decide_eq_true (by first|(with_reducible assumption)|assumption)
                have q279:x14_4 < (t272.length:Int):=of_decide_eq_true (by first|(with_reducible assumption)|assumption)
                obtain ⟨ad279,e279,hx279_0,hx279_1⟩:=at_T36 (Kd.R_reads' HO_10.out).2.2 x14_4 p279 q279
                cases e279
                replace p279:=eq_true p279
                replace q279:=eq_true q279
                have p281:0≤(x14_4:Int):=of_decide_eq_true (by first|(with_reducible assumption)|assumption)
                have q281:x14_4 < (t272.length:Int):=of_decide_eq_true (by first|(with_reducible assumption)|assumption)
                obtain ⟨ad281,e281,hx281_0,hx281_1⟩:=at_T36 (Kd.R_reads' HO_10.out).2.2 x14_4 p281 q281
                obtain rfl:ad279=ad281:=(by injection e281)
                replace p281:=eq_true p281
                replace q281:=eq_true q281
                have hcz28_0:wr.cell? ⟨gb275,0,none⟩=some (.int .i64 x276000_4):=(blk_cell BK275.out 0).trans rfl
                have hcz28_1:wr.cell? ⟨gb275,1,none⟩=some (.int .i64 x276001_4):=(blk_cell BK275.out 1).trans rfl
                have hfz28_0:=blk_frozen BK275.out 0
                have hfz28_1:=blk_frozen BK275.out 1
                go_wp2
                repeat (go_quiet (fail);try go_wp2)
                go_roundg k4
                case measure=>have:=HJ7.out;have:=HJ9.out;have:=HK3.out;have:=HK4.out;omega
                case rel=>exact ⟨(wrap64 (x14_4 + 1)),(x276000_4),(x276001_4),(by first|rfl|(simp;done)|(simp [*];done)),H',⟨by have:=HJ7.out;have:=HJ9.out;have:=HK3.out;have:=HK4.out;omega⟩,⟨by (with_reducible repeat (first|apply zrA|apply zrN|apply zrD));exact HO_10.out⟩,⟨by (with_reducible repeat (first|refine zbN ?_ _|refine zbD ?_|refine zbA ?_ _));exact BK275.out⟩,⟨by repeat (first|(with_reducible first|exact HB.out|apply zlA|apply zlN|apply zlD|refine zlS ?_ GE275.out)|exact HB.out)⟩⟩
             ·rw [if_neg c24] at H
              exact absurd H (by simp)
            ·rw [if_neg c23] at H
             have c23b0:decide (x14_4 < (t272.length:Int))=false:=decide_eq_false c23
             clear c23
             simp only [Option.some.injEq,Prod.mk.injEq] at H
             obtain ⟨rfl,rfl⟩:=H
             have hcz29_0:wr.cell? ⟨gb275,0,none⟩=some (.int .i64 x276000_4):=(blk_cell BK275.out 0).trans rfl
             have hcz29_1:wr.cell? ⟨gb275,1,none⟩=some (.int .i64 x276001_4):=(blk_cell BK275.out 1).trans rfl
             have hfz29_0:=blk_frozen BK275.out 0
             have hfz29_1:=blk_frozen BK275.out 1
             go_wp2
             repeat (go_quiet (fail);try go_wp2)
             go_ret2
             exact ⟨by first|rfl|(simp [errW_none,errW_some] <;> rfl)|(simp [*,errW_none,errW_some] <;> rfl),by repeat (first|(with_reducible first|exact HB.out|apply zlA|apply zlN|apply zlD|refine zlS ?_ GE275.out)|exact HB.out)⟩
 ·rw [if_neg c6] at H
  (try rw [if_pos (by omega)] at H)
  simp only [Option.some.injEq,Prod.mk.injEq] at H
  obtain ⟨rfl,rfl⟩:=H
  exact slipwayref12_Run.no k A0 c0 l0 a1 a2 a3 t268 _ HR0.out HC0.out A5.out c6
end Go.Proofs.Ytllodfjbenmlpaa.Print
end
section
namespace Go.Proofs.Ytllodfjbenmlpaa.Print
open Go.RowKit Go.Proofs.YtllodfjbenmlpaaW.PrintWords Go.Proofs.YtllodfjbenmlpaaW.PrintLast Go.Proofs.YtllodfjbenmlpaaW.PrintMore
attribute [local go_sem] max2_int min2_int max_two min_two max_three min_three max_four min_four   -- for this text's walks alone
attribute [local go_sem ↓] Go.Proofs.Ytllodfjbenmlpaa.Sem.isSome_setCell
attribute [local go_sem] Go.Instr.field Go.asAgg
set_option linter.unusedVariables false
set_option linter.unusedSimpArgs false
theorem eqA36 (d:Nat) (w:World) (x0 y0:Int) (x1 y1:Int) :
  (Op.equalIn (d + 2) 36 (.agg #[.int .i64 x0,.int .i64 x1]) (.agg #[.int .i64 y0,.int .i64 y1])).run Try.prog w=.ok (x0 == y0 && (x1 == y1)) w:=by
 refine eqA_of Try.underlying36 (by kernel_rfl) ?_
 refine eqf_cons (by rfl) (by go_simp;rfl) (by go_simp;rfl) (by go_simp) ?_
 exact eqf_last (by rfl) (by go_simp;rfl) (by go_simp;rfl) (by go_simp)
end Go.Proofs.Ytllodfjbenmlpaa.Print
end
section
namespace Go.Proofs.Ytllodfjbenmlpaa.Print
open Go.RowKit Go.Proofs.YtllodfjbenmlpaaW.PrintWords Go.Proofs.YtllodfjbenmlpaaW.PrintLast Go.Proofs.YtllodfjbenmlpaaW.PrintMore
attribute [local go_sem] max2_int min2_int max_two min_two max_three min_three max_four min_four   -- for this text's walks alone
attribute [local go_sem ↓] Go.Proofs.Ytllodfjbenmlpaa.Sem.isSome_setCell
attribute [local go_sem] Go.Instr.field Go.asAgg
set_option linter.unusedVariables false
set_option linter.unusedSimpArgs false
attribute [local go_sem high] eqA36
def slipwayref12_Count.l0:Nat → Int → List (S36) → Int → Option (Int)
 | 0,_,_,_=>none
 | k + 1,x5,x6,x7=>if x7 < (x6.length:Int) then (if 0≤x7 then (slipwayref12_Count.l0 k (wrap64 (x5 + ((rd_T36 x6 x7).f1))) x6 (wrap64 (x7 + 1))) else (none)) else (some x5)
def slipwayref12_Count.f (k:Nat) (l0:List Int) (a1:Int):Option (Int):=(slipwayref12_Runs.f k l0 a1).bind fun t283=>(slipwayref12_Count.l0 k 0 t283 0)
set_option maxHeartbeats 8000000 in
set_option maxRecDepth 100000 in
theorem slipwayref12_Count.calls (k:Nat) (A0:Option Addr) (c0:Nat) (l0:List Int) (a1:Int) (r:Int) (w:World) (hr0:Kd.C (Kd.int .u8) w A0 l0.length l0) (hc0:l0.length≤c0) (h:slipwayref12_Count.f k l0 a1=some r) :
  Calls Try.prog 24 #[.slice A0 l0.length c0,.int .i64 a1] w fun e w'=>e=.returned (.int .i64 r)∧Below w.heap.size w w':=by
 have HR0:=zm hr0
 have HC0:=zm hc0
 clear hr0 hc0
 have HB:=zm (Below.refl w.heap.size w)
 have H:((slipwayref12_Runs.f k l0 a1).bind fun t283=>(slipwayref12_Count.l0 k 0 t283 0))=some r:=h
 clear h
 replace H:=Option.bind_eq_some_iff.mp H
 obtain ⟨t283,A30,H⟩:=H
 replace H:(slipwayref12_Count.l0 k 0 t283 0)=some r:=H
 have A3:=zm A30
 clear A30
 have H':=zm H
 clear H
 go_enter Try.func24,Try.ntmps24
 go_wp2_with (first|((with_reducible refine gate_callee (f:=22) rfl ?_);refine goesL_ (some 10) rfl rfl Try.func22 (by kernel_rfl) rfl #[.slice A0 l0.length c0,.int .i64 a1] rfl (by (try simp only [List.map_toArray,List.map_cons,List.map_nil]);first|done|rfl|(simp only [List.length_drop,List.length_take];rfl)) ?_;(with_reducible refine (slipwayref12_Runs.calls k _ _ l0 a1 t283 _ ?side1 ?side2 A3.out).mono ?_);(case side1=>repeat (first|exact HR0.out|(with_reducible refine Kd.C_alloc ?_ _)|(with_reducible refine Kd.C_drewN ?_ _)|(with_reducible refine Kd.C_drew ?_)));(case side2=>exact HC0.out);rintro e w4 ⟨v284,rfl,ho0,hb⟩;refine ⟨_,rfl,?_⟩;have n0_:=zm (Kd.R_lower ho0 (below_size (by repeat (first|(with_reducible first|exact HB.out|apply zlA|apply zlN|apply zlD)|exact HB.out))));have n1_:=zm (below_step (by repeat (first|(with_reducible first|exact HB.out|apply zlA|apply zlN|apply zlD)|exact HB.out)) hb);clear HB;have HO285:=n0_;have HB:=n1_;clear n0_ n1_;(try clear hb);(try clear hb2);(try clear hk);(try clear hi);(try clear ho0)))
 go_loopg [5,7] k (fun kq v5 v7 w'=>∃ (x5_1:Int) (x7_1:Int),v5=.int .i64 x5_1∧v7=.int .i64 x7_1∧Aside0 (slipwayref12_Count.l0 kq x5_1 t283 x7_1=some r)∧Aside0 (kq≤k)∧Aside0 (Kd.R k36 36 w' w.heap.size (fun _=>True) v284 t283)∧Aside0 (Below w.heap.size w w'))
 case atStart=>exact ⟨(0),(0),(by first|rfl|(simp;done)|(simp [*];done)),(by first|rfl|(simp;done)|(simp [*];done)),H',⟨Nat.le_refl _⟩,⟨by (with_reducible repeat (first|apply zrA|apply zrN|apply zrD));exact HO285.out⟩,⟨by repeat (first|(with_reducible first|exact HB.out|apply zlA|apply zlN|apply zlD)|exact HB.out)⟩⟩
 case round =>
  clear H'
  try clear c2
  try clear p2
  obtain ⟨x5_1,x7_1,rfl,rfl,HA,HK1,HO_6,HB⟩:=hrel
  cases gk with
  | zero=>exact absurd HA.out (by simp [slipwayref12_Count.l0])
  | succ k1 =>
   have H:=HA.out
   clear HA
   simp only [slipwayref12_Count.l0] at H
   by_cases c5:x7_1 < (t283.length:Int)
   ·rw [if_pos c5] at H
    have c5b0:decide (x7_1 < (t283.length:Int))=true:=decide_eq_true c5
    clear c5
    by_cases c6:0≤x7_1
    ·rw [if_pos c6] at H
     have c6b0:decide (0≤x7_1)=true:=decide_eq_true c6
     clear c6
     have H':=zm H
     clear H
     obtain ⟨Ao7,co7,eo7⟩:=Kd.R_slice HO_6.out
     subst eo7
     have p286:0≤(x7_1:Int):=of_decide_eq_true (by first|(with_reducible assumption)|assumption)
     have q286:x7_1 < (t283.length:Int):=of_decide_eq_true (by first|(with_reducible assumption)|assumption)
     obtain ⟨ad286,e286,hx286_0,hx286_1⟩:=at_T36 (Kd.R_reads' HO_6.out).2.2 x7_1 p286 q286
     cases e286
     replace p286:=eq_true p286
     replace q286:=eq_true q286
     go_wp2
     go_roundg k1
     case measure=>have:=HK1.out;omega
     case rel=>exact ⟨(wrap64 (x5_1 + ((rd_T36 t283 x7_1).f1))),(wrap64 (x7_1 + 1)),(by first|rfl|(simp;done)|(simp [*];done)),(by first|rfl|(simp;done)|(simp [*];done)),H',⟨by have:=HK1.out;omega⟩,⟨by (with_reducible repeat (first|apply zrA|apply zrN|apply zrD));exact HO_6.out⟩,⟨by repeat (first|(with_reducible first|exact HB.out|apply zlA|apply zlN|apply zlD)|exact HB.out)⟩⟩
    ·rw [if_neg c6] at H
     exact absurd H (by simp)
   ·rw [if_neg c5] at H
    have c5b0:decide (x7_1 < (t283.length:Int))=false:=decide_eq_false c5
    clear c5
    obtain rfl:=Option.some.inj H
    obtain ⟨Ao8,co8,eo8⟩:=Kd.R_slice HO_6.out
    subst eo8
    go_wp2
    go_ret
    exact ⟨by first|rfl|(simp [errW_none,errW_some] <;> rfl)|(simp [*,errW_none,errW_some] <;> rfl),by repeat (first|(with_reducible first|exact HB.out|apply zlA|apply zlN|apply zlD)|exact HB.out)⟩
def slipwayref12_Piece.l0:Nat → List (S36) → List (S36) → Int → Int → Option (Bool)
 | 0,_,_,_,_=>none
 | k + 1,x0,x1,x12,x13=>if x13 < x12 then (if 0≤x13 then (if x13 < (x0.length:Int) then (if x13 < (x1.length:Int) then (if (!(((rd_T36 x0 x13).f0) == ((rd_T36 x1 x13).f0)) || (!(((rd_T36 x0 x13).f1) == ((rd_T36 x1 x13).f1))))=true then (some false) else (slipwayref12_Piece.l0 k x0 x1 x12 (wrap64 (x13 + 1)))) else (none)) else (none)) else (none)) else (some true)
def slipwayref12_Piece.f (k:Nat) (l0:List (S36)) (l1:List (S36)):Option (Bool):=if (l0.length:Int)=(l1.length:Int) then (slipwayref12_Piece.l0 k l0 l1 (l0.length:Int) 0) else (some false)
set_option maxHeartbeats 8000000 in
set_option maxRecDepth 100000 in
theorem slipwayref12_Piece.calls (k:Nat) (A0:Option Addr) (c0:Nat) (l0:List (S36)) (A1:Option Addr) (c1:Nat) (l1:List (S36)) (r:Bool) (w:World) (hr0:Kd.C k36 w A0 l0.length l0) (hc0:l0.length≤c0) (hr1:Kd.C k36 w A1 l1.length l1) (hc1:l1.length≤c1) (h:slipwayref12_Piece.f k l0 l1=some r) :
  Calls Try.prog 25 #[.slice A0 l0.length c0,.slice A1 l1.length c1] w fun e w'=>e=.returned (.bool r)∧Drawn0 w w':=by
 have hu36:=Try.underlying36
 have HR0:=zm hr0
 have HC0:=zm hc0
 clear hr0 hc0
 have HR1:=zm hr1
 have HC1:=zm hc1
 clear hr1 hc1
 have H:(if (l0.length:Int)=(l1.length:Int) then (slipwayref12_Piece.l0 k l0 l1 (l0.length:Int) 0) else (some false))=some r:=h
 clear h
 by_cases c3:(l0.length:Int)=(l1.length:Int)
 ·rw [if_pos c3] at H
  have c3b0:((l0.length:Int) == (l1.length:Int))=true:=beq_iff_eq.mpr c3
  have c3b1:((l0.length:Int) != (l1.length:Int))=false:=bne_eq_false_iff_eq.mpr c3
  have c3b2:(l0.length == l1.length)=true:=by first|simpa using c3|(simp at c3 ⊢;omega)
  clear c3
  have H':=zm H
  clear H
  go_enter Try.func25,Try.ntmps25
  go_wp2
  repeat (go_quiet (fail);try go_wp2)
  go_loopg [13] k (fun kq v13 w'=>∃ (x13_1:Int),v13=.int .i64 x13_1∧Aside0 (slipwayref12_Piece.l0 kq l0 l1 (l0.length:Int) x13_1=some r)∧Aside0 (kq≤k)∧Drawn0 w w')
  case atStart=>exact ⟨(0),(by first|rfl|(simp;done)|(simp [*];done)),H',⟨Nat.le_refl _⟩,by repeat (first|exact Drawn0.refl _|apply Drawn0.step)⟩
  case round =>
   clear H'
   try clear c1
   try clear c2
   try clear p2
   try clear c3
   try clear c3b0
   try clear c3b1
   try clear c3b2
   obtain ⟨x13_1,rfl,HA,HK1,⟨m1,rfl⟩⟩:=hrel
   cases gk with
   | zero=>exact absurd HA.out (by simp [slipwayref12_Piece.l0])
   | succ k1 =>
    have H:=HA.out
    clear HA
    simp only [slipwayref12_Piece.l0] at H
    by_cases c4:x13_1 < (l0.length:Int)
    ·rw [if_pos c4] at H
     have c4b0:decide (x13_1 < (l0.length:Int))=true:=decide_eq_true c4
     clear c4
     by_cases c5:0≤x13_1
     ·rw [if_pos c5] at H
      have c5b0:decide (0≤x13_1)=true:=decide_eq_true c5
      clear c5
      by_cases c6:x13_1 < (l0.length:Int)
      ·rw [if_pos c6] at H
       have c6b0:decide (x13_1 < (l0.length:Int))=true:=decide_eq_true c6
       clear c6
       by_cases c7:x13_1 < (l1.length:Int)
       ·rw [if_pos c7] at H
        have c7b0:decide (x13_1 < (l1.length:Int))=true:=decide_eq_true c7
        clear c7
        by_cases c8:(!(((rd_T36 l0 x13_1).f0) == ((rd_T36 l1 x13_1).f0)) || (!(((rd_T36 l0 x13_1).f1) == ((rd_T36 l1 x13_1).f1))))=true
        ·rw [if_pos c8] at H
         have c8b0:(!(((rd_T36 l0 x13_1).f0) == ((rd_T36 l1 x13_1).f0)) || (!(((rd_T36 l0 x13_1).f1) == ((rd_T36 l1 x13_1).f1))))=true:=c8
         clear c8
         obtain rfl:=Option.some.inj H
         have p287:0≤(x13_1:Int):=of_decide_eq_true (by first|(with_reducible assumption)|assumption)
         have q287:x13_1 < (l0.length:Int):=of_decide_eq_true (by first|(with_reducible assumption)|assumption)
         obtain ⟨ad287,e287,hx287_0,hx287_1⟩:=at_T36 HR0.out x13_1 p287 q287
         cases e287
         replace p287:=eq_true p287
         replace q287:=eq_true q287
         have p288:0≤(x13_1:Int):=of_decide_eq_true (by first|(with_reducible assumption)|assumption)
         have q288:x13_1 < (l1.length:Int):=of_decide_eq_true (by first|(with_reducible assumption)|assumption)
         obtain ⟨ad288,e288,hx288_0,hx288_1⟩:=at_T36 HR1.out x13_1 p288 q288
         cases e288
         replace p288:=eq_true p288
         replace q288:=eq_true q288
         go_wp2
         repeat (go_quiet (fail);try go_wp2)
         go_ret
         exact ⟨by first|rfl|(simp;done)|(simp [*];done),by repeat (first|exact Drawn0.refl _|apply Drawn0.step)⟩
        ·rw [if_neg c8] at H
         have c8b0:(!(((rd_T36 l0 x13_1).f0) == ((rd_T36 l1 x13_1).f0)) || (!(((rd_T36 l0 x13_1).f1) == ((rd_T36 l1 x13_1).f1))))=false:=by simpa using c8
         clear c8
         have H':=zm H
         clear H
         have p287:0≤(x13_1:Int):=of_decide_eq_true (by first|(with_reducible assumption)|assumption)
         have q287:x13_1 < (l0.length:Int):=of_decide_eq_true (by first|(with_reducible assumption)|assumption)
         obtain ⟨ad287,e287,hx287_0,hx287_1⟩:=at_T36 HR0.out x13_1 p287 q287
         cases e287
         replace p287:=eq_true p287
         replace q287:=eq_true q287
         have p288:0≤(x13_1:Int):=of_decide_eq_true (by first|(with_reducible assumption)|assumption)
         have q288:x13_1 < (l1.length:Int):=of_decide_eq_true (by first|(with_reducible assumption)|assumption)
         obtain ⟨ad288,e288,hx288_0,hx288_1⟩:=at_T36 HR1.out x13_1 p288 q288
         cases e288
         replace p288:=eq_true p288
         replace q288:=eq_true q288
         go_wp2
         repeat (go_quiet (fail);try go_wp2)
         go_roundg k1
         case measure=>have:=HK1.out;omega
         case rel=>exact ⟨(wrap64 (x13_1 + 1)),(by first|rfl|(simp;done)|(simp [*];done)),H',⟨by have:=HK1.out;omega⟩,by repeat (first|exact Drawn0.refl _|apply Drawn0.step)⟩
       ·rw [if_neg c7] at H
        exact absurd H (by simp)
      ·rw [if_neg c6] at H
       exact absurd H (by simp)
     ·rw [if_neg c5] at H
      exact absurd H (by simp)
    ·rw [if_neg c4] at H
     have c4b0:decide (x13_1 < (l0.length:Int))=false:=decide_eq_false c4
     clear c4
     obtain rfl:=Option.some.inj H
     go_wp2
     repeat (go_quiet (fail);try go_wp2)
     go_ret
     exact ⟨by first|rfl|(simp;done)|(simp [*];done),by repeat (first|exact Drawn0.refl _|apply Drawn0.step)⟩
 ·rw [if_neg c3] at H
  have c3b0:((l0.length:Int) == (l1.length:Int))=false:=beq_eq_false_iff_ne.mpr c3
  have c3b1:((l0.length:Int) != (l1.length:Int))=true:=bne_iff_ne.mpr c3
  have c3b2:(l0.length == l1.length)=false:=by first|simpa using c3|(simp at c3 ⊢;omega)
  obtain rfl:=Option.some.inj H
  go_enter Try.func25,Try.ntmps25
  go_wp2
  repeat (go_quiet (fail);try go_wp2)
  go_ret
  exact ⟨by first|rfl|(simp;done)|(simp [*];done),by repeat (first|exact Drawn0.refl _|apply Drawn0.step)⟩
end Go.Proofs.Ytllodfjbenmlpaa.Print
end
section
namespace Go.Proofs.Ytllodfjbenmlpaa.Print
open Go.RowKit Go.Proofs.YtllodfjbenmlpaaW.PrintWords Go.Proofs.YtllodfjbenmlpaaW.PrintLast Go.Proofs.YtllodfjbenmlpaaW.PrintMore
attribute [local go_sem] max2_int min2_int max_two min_two max_three min_three max_four min_four   -- for this text's walks alone
attribute [local go_sem ↓] Go.Proofs.Ytllodfjbenmlpaa.Sem.isSome_setCell
attribute [local go_sem] Go.Instr.field Go.asAgg
set_option linter.unusedVariables false
set_option linter.unusedSimpArgs false
def slipwaylaw12_BitmapTells.f (k:Nat) (l0:List Int) (a1:Int) (a2:Int) (a3:Int) (a4:Int):Option (Bool):=(slipwayref12_Runs.f k l0 a1).bind fun t289=>((bitmap_Run.f k l0 a1 a2 a3).bind fun bt292=>((slipwayref12_Run.f k l0 a1 a2 a3).bind fun bt294=>((slipwaylaw12_begun.f k).bind fun t296=>(if t296=true then ((bitmap_Count.f k l0 a1).bind fun t297=>((slipwayref12_Count.f k l0 a1).bind fun t298=>(if t297=t298 then ((slipwaylaw12_told.f k l0 a1 9999).bind fun t299=>((slipwayref12_Piece.f k t299 t289).bind fun t302=>(if t302=true then ((slipwaylaw12_told.f k l0 a1 (wrap64 (a4))).bind fun t303=>(if 0≤(mn (t289.length:Int) (wrap64 (a4))) then (if (mn (t289.length:Int) (wrap64 (a4)))≤(t289.length:Int) then ((slipwayref12_Piece.f k t303 (t289.take ((mn (t289.length:Int) (wrap64 (a4))):Int).toNat)).bind fun t310=>(if t310=true then (if bt292.1=bt294.1 then (some (bt292.2 == bt294.2)) else (none)) else (none))) else (none)) else (none))) else (none)))) else (none)))) else (none)))))
def slipwaylaw12_BitmapTells.T4:Bool × List (List Nat × List Nat):=(true,[([],[]),([0,0],[0]),([1],[1]),([1],[1]),([2,3,1,1],[1,2,3]),([1],[1]),([1],[1]),([5,6,4,1],[1,5,6]),([4,7,1],[1,4,7]),([1,8],[1,8]),([9,7],[9]),([10],[10]),([10],[10]),([11,12,10,10],[10,11,12]),([13,13,10],[10,13]),([10],[10]),([14,15,14,10],[10,14,15]),([10,16],[10,16]),([17,16],[17]),([18],[18]),([18],[18]),([19,20,18,18],[18,19,20]),([18],[18]),([22,18],[18,22]),([21,23,21,18],[18,21,23]),([18],[18]),([18],[18]),([26,18],[18,26]),([18],[18]),([28,18],[18,28]),([27,29,18],[18,27,29]),([25,30,18],[18,25,30]),([24,31,24,18],[18,24,31]),([18,32],[18,32]),([33,32],[33]),([34],[34]),([34],[34]),([35,36,34],[34,35,36]),([34,37],[34,37]),([38,34],[38]),([39],[39]),([39],[39]),([40,41,39],[39,40,41]),([39,42],[39,42]),([43,39,0,1,2,3,4,5,6,7,8,9,10,11,12,13,14,15,16,17,18,19,20,21,22,23,24,25,26,27,28,29,30,31,32,33,34,35,36,37,38,39,40,41,42,43],[43])])
def slipwaylaw12_BitmapTells.B4:List Nat:=[0,1,3,3,15,3,3,127,255,511,1023,2047,2047,8191,16383,2047,65535,131071,262143,524287,524287,2097151,524287,4718591,16777215,524287,524287,67633151,524287,268959743,1007157247,2114453503,4294967295,8589934591,17179869183,34359738367,34359738367,137438953471,274877906943,549755813887,1099511627775,1099511627775,4398046511103,8796093022207,17592186044415]
theorem slipwaylaw12_BitmapTells.tab4:rtab .any (opsOf Try.f6 4)=slipwaylaw12_BitmapTells.T4:=by kernel_rfl
theorem slipwaylaw12_BitmapTells.bits4:waitsOk slipwaylaw12_BitmapTells.T4.2 slipwaylaw12_BitmapTells.B4=true:=by kernel_rfl
set_option maxHeartbeats 8000000 in
set_option maxRecDepth 100000 in
theorem slipwaylaw12_BitmapTells.calls (k:Nat) (A0:Option Addr) (c0:Nat) (l0:List Int) (a1:Int) (a2:Int) (a3:Int) (a4:Int) (r:Bool) (w:World) (hr0:Kd.C (Kd.int .u8) w A0 l0.length l0) (hc0:l0.length≤c0) (h:slipwaylaw12_BitmapTells.f k l0 a1 a2 a3 a4=some r) :
  Calls Try.prog 6 #[.slice A0 l0.length c0,.int .i64 a1,.int .i64 a2,.int .i64 a3,.int .u8 a4] w fun e w'=>e=.returned (.bool r)∧Below w.heap.size w w':=by
 have HR0:=zm hr0
 have HC0:=zm hc0
 clear hr0 hc0
 have HB:=zm (Below.refl w.heap.size w)
 have H:((slipwayref12_Runs.f k l0 a1).bind fun t289=>((bitmap_Run.f k l0 a1 a2 a3).bind fun bt292=>((slipwayref12_Run.f k l0 a1 a2 a3).bind fun bt294=>((slipwaylaw12_begun.f k).bind fun t296=>(if t296=true then ((bitmap_Count.f k l0 a1).bind fun t297=>((slipwayref12_Count.f k l0 a1).bind fun t298=>(if t297=t298 then ((slipwaylaw12_told.f k l0 a1 9999).bind fun t299=>((slipwayref12_Piece.f k t299 t289).bind fun t302=>(if t302=true then ((slipwaylaw12_told.f k l0 a1 (wrap64 (a4))).bind fun t303=>(if 0≤(mn (t289.length:Int) (wrap64 (a4))) then (if (mn (t289.length:Int) (wrap64 (a4)))≤(t289.length:Int) then ((slipwayref12_Piece.f k t303 (t289.take ((mn (t289.length:Int) (wrap64 (a4))):Int).toNat)).bind fun t310=>(if t310=true then (if bt292.1=bt294.1 then (some (bt292.2 == bt294.2)) else (none)) else (none))) else (none)) else (none))) else (none)))) else (none)))) else (none))))))=some r:=h
 clear h
 replace H:=Option.bind_eq_some_iff.mp H
 obtain ⟨t289,A60,H⟩:=H
 replace H:((bitmap_Run.f k l0 a1 a2 a3).bind fun bt292=>((slipwayref12_Run.f k l0 a1 a2 a3).bind fun bt294=>((slipwaylaw12_begun.f k).bind fun t296=>(if t296=true then ((bitmap_Count.f k l0 a1).bind fun t297=>((slipwayref12_Count.f k l0 a1).bind fun t298=>(if t297=t298 then ((slipwaylaw12_told.f k l0 a1 9999).bind fun t299=>((slipwayref12_Piece.f k t299 t289).bind fun t302=>(if t302=true then ((slipwaylaw12_told.f k l0 a1 (wrap64 (a4))).bind fun t303=>(if 0≤(mn (t289.length:Int) (wrap64 (a4))) then (if (mn (t289.length:Int) (wrap64 (a4)))≤(t289.length:Int) then ((slipwayref12_Piece.f k t303 (t289.take ((mn (t289.length:Int) (wrap64 (a4))):Int).toNat)).bind fun t310=>(if t310=true then (if bt292.1=bt294.1 then (some (bt292.2 == bt294.2)) else (none)) else (none))) else (none)) else (none))) else (none)))) else (none)))) else (none)))))=some r:=H
 have A6:=zm A60
 clear A60
 replace H:=Option.bind_eq_some_iff.mp H
 obtain ⟨⟨t292,t293⟩,A70,H⟩:=H
 replace H:((slipwayref12_Run.f k l0 a1 a2 a3).bind fun bt294=>((slipwaylaw12_begun.f k).bind fun t296=>(if t296=true then ((bitmap_Count.f k l0 a1).bind fun t297=>((slipwayref12_Count.f k l0 a1).bind fun t298=>(if t297=t298 then ((slipwaylaw12_told.f k l0 a1 9999).bind fun t299=>((slipwayref12_Piece.f k t299 t289).bind fun t302=>(if t302=true then ((slipwaylaw12_told.f k l0 a1 (wrap64 (a4))).bind fun t303=>(if 0≤(mn (t289.length:Int) (wrap64 (a4))) then (if (mn (t289.length:Int) (wrap64 (a4)))≤(t289.length:Int) then ((slipwayref12_Piece.f k t303 (t289.take ((mn (t289.length:Int) (wrap64 (a4))):Int).toNat)).bind fun t310=>(if t310=true then (if t292=bt294.1 then (some (t293 == bt294.2)) else (none)) else (none))) else (none)) else (none))) else (none)))) else (none)))) else (none))))=some r:=H
 have A7:=zm A70
 clear A70
 replace H:=Option.bind_eq_some_iff.mp H
 obtain ⟨⟨t294,t295⟩,A80,H⟩:=H
 replace H:((slipwaylaw12_begun.f k).bind fun t296=>(if t296=true then ((bitmap_Count.f k l0 a1).bind fun t297=>((slipwayref12_Count.f k l0 a1).bind fun t298=>(if t297=t298 then ((slipwaylaw12_told.f k l0 a1 9999).bind fun t299=>((slipwayref12_Piece.f k t299 t289).bind fun t302=>(if t302=true then ((slipwaylaw12_told.f k l0 a1 (wrap64 (a4))).bind fun t303=>(if 0≤(mn (t289.length:Int) (wrap64 (a4))) then (if (mn (t289.length:Int) (wrap64 (a4)))≤(t289.length:Int) then ((slipwayref12_Piece.f k t303 (t289.take ((mn (t289.length:Int) (wrap64 (a4))):Int).toNat)).bind fun t310=>(if t310=true then (if t292=t294 then (some (t293 == t295)) else (none)) else (none))) else (none)) else (none))) else (none)))) else (none)))) else (none)))=some r:=H
 have A8:=zm A80
 clear A80
 replace H:=Option.bind_eq_some_iff.mp H
 obtain ⟨t296,A90,H⟩:=H
 replace H:(if t296=true then ((bitmap_Count.f k l0 a1).bind fun t297=>((slipwayref12_Count.f k l0 a1).bind fun t298=>(if t297=t298 then ((slipwaylaw12_told.f k l0 a1 9999).bind fun t299=>((slipwayref12_Piece.f k t299 t289).bind fun t302=>(if t302=true then ((slipwaylaw12_told.f k l0 a1 (wrap64 (a4))).bind fun t303=>(if 0≤(mn (t289.length:Int) (wrap64 (a4))) then (if (mn (t289.length:Int) (wrap64 (a4)))≤(t289.length:Int) then ((slipwayref12_Piece.f k t303 (t289.take ((mn (t289.length:Int) (wrap64 (a4))):Int).toNat)).bind fun t310=>(if t310=true then (if t292=t294 then (some (t293 == t295)) else (none)) else (none))) else (none)) else (none))) else (none)))) else (none)))) else (none))=some r:=H
 have A9:=zm A90
 clear A90
 by_cases c10:t296=true
 ·subst c10
  have H1:((bitmap_Count.f k l0 a1).bind fun t297=>((slipwayref12_Count.f k l0 a1).bind fun t298=>(if t297=t298 then ((slipwaylaw12_told.f k l0 a1 9999).bind fun t299=>((slipwayref12_Piece.f k t299 t289).bind fun t302=>(if t302=true then ((slipwaylaw12_told.f k l0 a1 (wrap64 (a4))).bind fun t303=>(if 0≤(mn (t289.length:Int) (wrap64 (a4))) then (if (mn (t289.length:Int) (wrap64 (a4)))≤(t289.length:Int) then ((slipwayref12_Piece.f k t303 (t289.take ((mn (t289.length:Int) (wrap64 (a4))):Int).toNat)).bind fun t310=>(if t310=true then (if t292=t294 then (some (t293 == t295)) else (none)) else (none))) else (none)) else (none))) else (none)))) else (none))))=some r:=by rw [if_pos rfl] at H;exact H
  clear H
  have H:=H1
  clear H1
  replace H:=Option.bind_eq_some_iff.mp H
  obtain ⟨t297,A110,H⟩:=H
  replace H:((slipwayref12_Count.f k l0 a1).bind fun t298=>(if t297=t298 then ((slipwaylaw12_told.f k l0 a1 9999).bind fun t299=>((slipwayref12_Piece.f k t299 t289).bind fun t302=>(if t302=true then ((slipwaylaw12_told.f k l0 a1 (wrap64 (a4))).bind fun t303=>(if 0≤(mn (t289.length:Int) (wrap64 (a4))) then (if (mn (t289.length:Int) (wrap64 (a4)))≤(t289.length:Int) then ((slipwayref12_Piece.f k t303 (t289.take ((mn (t289.length:Int) (wrap64 (a4))):Int).toNat)).bind fun t310=>(if t310=true then (if t292=t294 then (some (t293 == t295)) else (none)) else (none))) else (none)) else (none))) else (none)))) else (none)))=some r:=H
  have A11:=zm A110
  clear A110
  replace H:=Option.bind_eq_some_iff.mp H
  obtain ⟨t298,A120,H⟩:=H
  replace H:(if t297=t298 then ((slipwaylaw12_told.f k l0 a1 9999).bind fun t299=>((slipwayref12_Piece.f k t299 t289).bind fun t302=>(if t302=true then ((slipwaylaw12_told.f k l0 a1 (wrap64 (a4))).bind fun t303=>(if 0≤(mn (t289.length:Int) (wrap64 (a4))) then (if (mn (t289.length:Int) (wrap64 (a4)))≤(t289.length:Int) then ((slipwayref12_Piece.f k t303 (t289.take ((mn (t289.length:Int) (wrap64 (a4))):Int).toNat)).bind fun t310=>(if t310=true then (if t292=t294 then (some (t293 == t295)) else (none)) else (none))) else (none)) else (none))) else (none)))) else (none))=some r:=H
  have A12:=zm A120
  clear A120
  by_cases c13:t297=t298
  ·rw [if_pos c13] at H
   have c13b0:(t297 == t298)=true:=beq_iff_eq.mpr c13
   have c13b1:(t297 != t298)=false:=bne_eq_false_iff_eq.mpr c13
   clear c13
   replace H:=Option.bind_eq_some_iff.mp H
   obtain ⟨t299,A140,H⟩:=H
   replace H:((slipwayref12_Piece.f k t299 t289).bind fun t302=>(if t302=true then ((slipwaylaw12_told.f k l0 a1 (wrap64 (a4))).bind fun t303=>(if 0≤(mn (t289.length:Int) (wrap64 (a4))) then (if (mn (t289.length:Int) (wrap64 (a4)))≤(t289.length:Int) then ((slipwayref12_Piece.f k t303 (t289.take ((mn (t289.length:Int) (wrap64 (a4))):Int).toNat)).bind fun t310=>(if t310=true then (if t292=t294 then (some (t293 == t295)) else (none)) else (none))) else (none)) else (none))) else (none)))=some r:=H
   have A14:=zm A140
   clear A140
   replace H:=Option.bind_eq_some_iff.mp H
   obtain ⟨t302,A150,H⟩:=H
   replace H:(if t302=true then ((slipwaylaw12_told.f k l0 a1 (wrap64 (a4))).bind fun t303=>(if 0≤(mn (t289.length:Int) (wrap64 (a4))) then (if (mn (t289.length:Int) (wrap64 (a4)))≤(t289.length:Int) then ((slipwayref12_Piece.f k t303 (t289.take ((mn (t289.length:Int) (wrap64 (a4))):Int).toNat)).bind fun t310=>(if t310=true then (if t292=t294 then (some (t293 == t295)) else (none)) else (none))) else (none)) else (none))) else (none))=some r:=H
   have A15:=zm A150
   clear A150
   by_cases c16:t302=true
   ·subst c16
    have H1:((slipwaylaw12_told.f k l0 a1 (wrap64 (a4))).bind fun t303=>(if 0≤(mn (t289.length:Int) (wrap64 (a4))) then (if (mn (t289.length:Int) (wrap64 (a4)))≤(t289.length:Int) then ((slipwayref12_Piece.f k t303 (t289.take ((mn (t289.length:Int) (wrap64 (a4))):Int).toNat)).bind fun t310=>(if t310=true then (if t292=t294 then (some (t293 == t295)) else (none)) else (none))) else (none)) else (none)))=some r:=by rw [if_pos rfl] at H;exact H
    clear H
    have H:=H1
    clear H1
    replace H:=Option.bind_eq_some_iff.mp H
    obtain ⟨t303,A170,H⟩:=H
    replace H:(if 0≤(mn (t289.length:Int) (wrap64 (a4))) then (if (mn (t289.length:Int) (wrap64 (a4)))≤(t289.length:Int) then ((slipwayref12_Piece.f k t303 (t289.take ((mn (t289.length:Int) (wrap64 (a4))):Int).toNat)).bind fun t310=>(if t310=true then (if t292=t294 then (some (t293 == t295)) else (none)) else (none))) else (none)) else (none))=some r:=H
    have A17:=zm A170
    clear A170
    obtain ⟨ji18,hji18⟩:∃ j_:Int,(mn (t289.length:Int) (wrap64 (a4)))=j_:=⟨_,rfl⟩
    replace H:(if 0≤(ji18) then (if (ji18)≤(t289.length:Int) then ((slipwayref12_Piece.f k t303 (t289.take ((ji18):Int).toNat)).bind fun t310=>(if t310=true then (if t292=t294 then (some (t293 == t295)) else (none)) else (none))) else (none)) else (none))=some r:=by first|(rw [hji18] at H;exact H)|(simp only [hji18] at H ⊢;exact H)
    (try rw [hji18] at A6)
    (try rw [hji18] at A7)
    (try rw [hji18] at A8)
    (try rw [hji18] at A9)
    (try rw [hji18] at A11)
    (try rw [hji18] at A12)
    (try rw [hji18] at A14)
    (try rw [hji18] at A15)
    (try rw [hji18] at A17)
    have hji18_:(if (wrap64 (a4)) < (t289.length:Int) then (wrap64 (a4)) else (t289.length:Int))=ji18:=hji18
    by_cases c19:0≤(ji18)
    ·rw [if_pos c19] at H
     have c19b0:=eq_true c19
     have c19b1:decide (0≤(ji18))=true:=decide_eq_true c19
     clear c19
     by_cases c20:(ji18)≤(t289.length:Int)
     ·rw [if_pos c20] at H
      have c20b0:=eq_true c20
      have c20b1:decide ((ji18)≤(t289.length:Int))=true:=decide_eq_true c20
      clear c20
      obtain ⟨y306,hy306⟩:∃ y_:List (S36),y_=(t289.take ((ji18):Int).toNat):=⟨_,rfl⟩
      replace H:((slipwayref12_Piece.f k t303 y306).bind fun t310=>(if t310=true then (if t292=t294 then (some (t293 == t295)) else (none)) else (none)))=some r:=by first|(rw [hy306];with_reducible exact H)|(have H2_:=(Option.bind_some _ _).symm.trans H;rw [hy306];with_reducible exact H2_)|(have H2_:=(Option.bind_some _ _).symm.trans H;with_reducible exact H2_)|with_reducible exact H|(rw [hy306];exact H)|exact H
      have Ny306:=zm hy306
      clear hy306
      replace H:=Option.bind_eq_some_iff.mp H
      obtain ⟨t310,A210,H⟩:=H
      replace H:(if t310=true then (if t292=t294 then (some (t293 == t295)) else (none)) else (none))=some r:=H
      have A21:=zm A210
      clear A210
      by_cases c22:t310=true
      ·subst c22
       have H1:(if t292=t294 then (some (t293 == t295)) else (none))=some r:=by rw [if_pos rfl] at H;exact H
       clear H
       have H:=H1
       clear H1
       by_cases c23:t292=t294
       ·rw [if_pos c23] at H
        have c23b0:(t292 == t294)=true:=beq_iff_eq.mpr c23
        have c23b1:(t292 != t294)=false:=bne_eq_false_iff_eq.mpr c23
        clear c23
        obtain rfl:=Option.some.inj H
        go_enter Try.func6,Try.ntmps6
        try go_wp2_with (first|((with_reducible refine gate_callee (f:=22) rfl ?_);refine goesL_ (some 18) rfl rfl Try.func22 (by kernel_rfl) rfl #[.slice A0 l0.length c0,.int .i64 a1] rfl (by (try simp only [List.map_toArray,List.map_cons,List.map_nil]);first|done|rfl|(simp only [List.length_drop,List.length_take];rfl)) ?_;(with_reducible refine (slipwayref12_Runs.calls k _ _ l0 a1 t289 _ ?side1 ?side2 A6.out).mono ?_);(case side1=>repeat (first|exact HR0.out|(with_reducible refine Kd.C_alloc ?_ _)|(with_reducible refine Kd.C_drewN ?_ _)|(with_reducible refine Kd.C_drew ?_)));(case side2=>exact HC0.out);rintro e w24 ⟨v290,rfl,ho0,hb⟩;refine ⟨_,rfl,?_⟩;have n0_:=zm (Kd.R_lower ho0 (below_size (by repeat (first|(with_reducible first|exact HB.out|apply zlA|apply zlN|apply zlD)|exact HB.out))));have n1_:=zm (below_step (by repeat (first|(with_reducible first|exact HB.out|apply zlA|apply zlN|apply zlD)|exact HB.out)) hb);clear HB;have HO291:=n0_;have HB:=n1_;clear n0_ n1_;(try clear hb);(try clear hb2);(try clear hk);(try clear hi);(try clear ho0))|((with_reducible refine gate_callee (f:=10) rfl ?_);refine goesL_ (some 24) rfl rfl Try.func10 (by kernel_rfl) rfl #[.slice A0 l0.length c0,.int .i64 a1,.int .i64 a2,.int .i64 a3] rfl (by (try simp only [List.map_toArray,List.map_cons,List.map_nil]);first|done|rfl|(simp only [List.length_drop,List.length_take];rfl)) ?_;(with_reducible refine (bitmap_Run.calls k _ _ l0 a1 a2 a3 t292 t293 _ ?side1 ?side2 A7.out).mono ?_);(case side1=>repeat (first|exact (Kd.C_below HR0.out HB.out)|(with_reducible refine Kd.C_alloc ?_ _)|(with_reducible refine Kd.C_drewN ?_ _)|(with_reducible refine Kd.C_drew ?_)));(case side2=>exact HC0.out);rintro e w25 ⟨rfl,hb⟩;refine ⟨_,rfl,?_⟩;have n0_:=zm (Kd.R_below (by (with_reducible repeat (first|apply zrA|apply zrN|apply zrD));exact HO291.out) hb);have n1_:=zm (below_step (by repeat (first|(with_reducible first|exact HB.out|apply zlA|apply zlN|apply zlD)|exact HB.out)) hb);clear HO291 HB;have HO291:=n0_;have HB:=n1_;clear n0_ n1_;(try clear hb);(try clear hb2);(try clear hk);(try clear hi))|((with_reducible refine gate_callee (f:=23) rfl ?_);refine goesL_ (some 32) rfl rfl Try.func23 (by kernel_rfl) rfl #[.slice A0 l0.length c0,.int .i64 a1,.int .i64 a2,.int .i64 a3] rfl (by (try simp only [List.map_toArray,List.map_cons,List.map_nil]);first|done|rfl|(simp only [List.length_drop,List.length_take];rfl)) ?_;(with_reducible refine (slipwayref12_Run.calls k _ _ l0 a1 a2 a3 t294 t295 _ ?side1 ?side2 A8.out).mono ?_);(case side1=>repeat (first|exact (Kd.C_below HR0.out HB.out)|(with_reducible refine Kd.C_alloc ?_ _)|(with_reducible refine Kd.C_drewN ?_ _)|(with_reducible refine Kd.C_drew ?_)));(case side2=>exact HC0.out);rintro e w26 ⟨rfl,hb⟩;refine ⟨_,rfl,?_⟩;have n0_:=zm (Kd.R_below (by (with_reducible repeat (first|apply zrA|apply zrN|apply zrD));exact HO291.out) hb);have n1_:=zm (below_step (by repeat (first|(with_reducible first|exact HB.out|apply zlA|apply zlN|apply zlD)|exact HB.out)) hb);clear HO291 HB;have HO291:=n0_;have HB:=n1_;clear n0_ n1_;(try clear hb);(try clear hb2);(try clear hk);(try clear hi)))
        have n0_:=zm (zrD HO291.out)
        have n1_:=zm (zlD HB.out)
        clear HO291 HB
        have HO291:=n0_
        have HB:=n1_
        clear n0_ n1_
        refine start_ (n:=45) (S:=fun w'=>True) (ds:=[]) #[false,false,false,false,false,false,false,false,false,false,false,false,false,false,false,false,false,false,false,false,false,false,false,false,false,false,false,false,false,false,false,false,false,false,false,false,false,false,false,false,false,false,false,false,false] (by kernel_rfl) rfl rfl trivial (fun hHeld=>?_);refine with_tabW slipwaylaw12_BitmapTells.tab4 slipwaylaw12_BitmapTells.bits4 (fun HT_ HW_=>?_)
        generalize w26.drew=w27 at HO291 HB hHeld ⊢
        refine one_ (i:=0) (N:=some 35) #[true,false,false,false,false,false,false,false,false,false,false,false,false,false,false,false,false,false,false,false,false,false,false,false,false,false,false,false,false,false,false,false,false,false,false,false,false,false,false,false,false,false,false,false,false] rfl rfl (one_of HT_.out (by kernel_rfl)) (by decide) (fun K hK=>?_)
        refine goes_ Try.func8 (by kernel_rfl) rfl #[] (by rfl) rfl rfl (by (try simp only [List.map_toArray,List.map_cons,List.map_nil]);first|done|rfl|(simp only [List.length_drop,List.length_take];rfl)) ?_
        with_reducible refine (slipwaylaw12_begun.calls k  true _ A9.out).mono ?_
        rintro e w28 ⟨rfl,hb⟩
        refine ⟨_,rfl,?_⟩
        have n0_:=zm (Kd.R_below (by (with_reducible repeat (first|apply zrA|apply zrN|apply zrD));exact HO291.out) hb)
        have n1_:=zm (below_step (by repeat (first|(with_reducible first|exact HB.out|apply zlA|apply zlN|apply zlD)|exact HB.out)) hb)
        clear HO291 HB
        have HO291:=n0_
        have HB:=n1_
        clear n0_ n1_
        (try clear hb)
        (try clear hb2)
        (try clear hk)
        (try clear hi)
        refine hK.out _ _ trivial (fun hHeld=>?_)
        clear hK K
        refine norm_ (a':=?_) ?_ ?_
        rotate_left
        ·show Act.put _ (some 35) _=_
         simp only [Act.put,List.setIfInBounds_toArray,List.set_cons_zero,List.set_cons_succ,i64_w,i32_w]
         rfl
        refine pure_ (i:=1) (N:=some 36) (v:=?_) (a':=?_) #[true,true,false,false,false,false,false,false,false,false,false,false,false,false,false,false,false,false,false,false,false,false,false,false,false,false,false,false,false,false,false,false,false,false,false,false,false,false,false,false,false,false,false,false,false] rfl rfl (any_of HT_.out (by kernel_rfl)) (fun _ _ _ h=>h) (Or.inl ⟨by rfl,?_⟩) ?_ ?_
        rotate_left
        ·intro w'
         go_simp
         with_reducible rfl
        rotate_left
        ·simp only [Act.put,List.setIfInBounds_toArray,List.set_cons_zero,List.set_cons_succ,i64_w,i32_w]
         rfl
        refine pure_ (i:=2) (N:=some 37) (v:=?_) (a':=?_) #[true,true,true,false,false,false,false,false,false,false,false,false,false,false,false,false,false,false,false,false,false,false,false,false,false,false,false,false,false,false,false,false,false,false,false,false,false,false,false,false,false,false,false,false,false] rfl rfl (any_of HT_.out (by kernel_rfl)) (fun _ _ _ h=>h) (Or.inl ⟨by rfl,?_⟩) ?_ ?_
        rotate_left
        ·intro w'
         go_simp
         with_reducible rfl
        rotate_left
        ·simp only [Act.put,List.setIfInBounds_toArray,List.set_cons_zero,List.set_cons_succ,i64_w,i32_w]
         rfl
        refine pure_ (i:=3) (N:=some 38) (v:=?_) (a':=?_) #[true,true,true,true,false,false,false,false,false,false,false,false,false,false,false,false,false,false,false,false,false,false,false,false,false,false,false,false,false,false,false,false,false,false,false,false,false,false,false,false,false,false,false,false,false] rfl rfl (any_of HT_.out (by kernel_rfl)) (fun _ _ _ h=>h) (Or.inl ⟨by rfl,?_⟩) ?_ ?_
        rotate_left
        ·intro w'
         go_simp
         with_reducible rfl
        rotate_left
        ·simp only [Act.put,List.setIfInBounds_toArray,List.set_cons_zero,List.set_cons_succ,i64_w,i32_w]
         rfl
        refine pure_ (i:=5) (N:=some 40) (v:=?_) (a':=?_) #[true,true,true,true,false,true,false,false,false,false,false,false,false,false,false,false,false,false,false,false,false,false,false,false,false,false,false,false,false,false,false,false,false,false,false,false,false,false,false,false,false,false,false,false,false] rfl rfl (any_of HT_.out (by kernel_rfl)) (fun _ _ _ h=>h) (Or.inl ⟨by rfl,?_⟩) ?_ ?_
        rotate_left
        ·intro w'
         go_simp
         with_reducible rfl
        rotate_left
        ·simp only [Act.put,List.setIfInBounds_toArray,List.set_cons_zero,List.set_cons_succ,i64_w,i32_w]
         rfl
        refine pure_ (i:=6) (N:=some 41) (v:=?_) (a':=?_) #[true,true,true,true,false,true,true,false,false,false,false,false,false,false,false,false,false,false,false,false,false,false,false,false,false,false,false,false,false,false,false,false,false,false,false,false,false,false,false,false,false,false,false,false,false] rfl rfl (any_of HT_.out (by kernel_rfl)) (fun _ _ _ h=>h) (Or.inl ⟨by rfl,?_⟩) ?_ ?_
        rotate_left
        ·intro w'
         go_simp
         with_reducible rfl
        rotate_left
        ·simp only [Act.put,List.setIfInBounds_toArray,List.set_cons_zero,List.set_cons_succ,i64_w,i32_w]
         rfl
        refine one_ (i:=4) (N:=some 39) #[true,true,true,true,true,true,true,false,false,false,false,false,false,false,false,false,false,false,false,false,false,false,false,false,false,false,false,false,false,false,false,false,false,false,false,false,false,false,false,false,false,false,false,false,false] rfl rfl (one_of HT_.out (by kernel_rfl)) (by decide) (fun K hK=>?_)
        refine goes_ Try.func21 (by kernel_rfl) rfl #[.slice A0 l0.length c0,.int .i64 a1] (by rfl) rfl rfl (by (try simp only [List.map_toArray,List.map_cons,List.map_nil]);first|done|rfl|(simp only [List.length_drop,List.length_take];rfl)) ?_
        with_reducible refine (bitmap_Count.calls k _ _ l0 a1 t297 _ ?side1 ?side2 A11.out).mono ?_
        (case side1=>repeat (first|exact (Kd.C_below HR0.out HB.out)|(with_reducible refine Kd.C_alloc ?_ _)|(with_reducible refine Kd.C_drewN ?_ _)|(with_reducible refine Kd.C_drew ?_)))
        (case side2=>exact HC0.out)
        rintro e w29 ⟨rfl,hb⟩
        refine ⟨_,rfl,?_⟩
        have n0_:=zm (Kd.R_below (by (with_reducible repeat (first|apply zrA|apply zrN|apply zrD));exact HO291.out) hb)
        have n1_:=zm (below_step (by repeat (first|(with_reducible first|exact HB.out|apply zlA|apply zlN|apply zlD)|exact HB.out)) hb)
        clear HO291 HB
        have HO291:=n0_
        have HB:=n1_
        clear n0_ n1_
        (try clear hb)
        (try clear hb2)
        (try clear hk)
        (try clear hi)
        refine hK.out _ _ trivial (fun hHeld=>?_)
        clear hK K
        refine norm_ (a':=?_) ?_ ?_
        rotate_left
        ·show Act.put _ (some 39) _=_
         simp only [Act.put,List.setIfInBounds_toArray,List.set_cons_zero,List.set_cons_succ,i64_w,i32_w]
         rfl
        refine one_ (i:=7) (N:=some 42) #[true,true,true,true,true,true,true,true,false,false,false,false,false,false,false,false,false,false,false,false,false,false,false,false,false,false,false,false,false,false,false,false,false,false,false,false,false,false,false,false,false,false,false,false,false] rfl rfl (one_of HT_.out (by kernel_rfl)) (by decide) (fun K hK=>?_)
        refine goes_ Try.func24 (by kernel_rfl) rfl #[.slice A0 l0.length c0,.int .i64 a1] (by rfl) rfl rfl (by (try simp only [List.map_toArray,List.map_cons,List.map_nil]);first|done|rfl|(simp only [List.length_drop,List.length_take];rfl)) ?_
        with_reducible refine (slipwayref12_Count.calls k _ _ l0 a1 t298 _ ?side1 ?side2 A12.out).mono ?_
        (case side1=>repeat (first|exact (Kd.C_below HR0.out HB.out)|(with_reducible refine Kd.C_alloc ?_ _)|(with_reducible refine Kd.C_drewN ?_ _)|(with_reducible refine Kd.C_drew ?_)))
        (case side2=>exact HC0.out)
        rintro e w30 ⟨rfl,hb⟩
        refine ⟨_,rfl,?_⟩
        have n0_:=zm (Kd.R_below (by (with_reducible repeat (first|apply zrA|apply zrN|apply zrD));exact HO291.out) hb)
        have n1_:=zm (below_step (by repeat (first|(with_reducible first|exact HB.out|apply zlA|apply zlN|apply zlD)|exact HB.out)) hb)
        clear HO291 HB
        have HO291:=n0_
        have HB:=n1_
        clear n0_ n1_
        (try clear hb)
        (try clear hb2)
        (try clear hk)
        (try clear hi)
        refine hK.out _ _ trivial (fun hHeld=>?_)
        clear hK K
        refine norm_ (a':=?_) ?_ ?_
        rotate_left
        ·show Act.put _ (some 42) _=_
         simp only [Act.put,List.setIfInBounds_toArray,List.set_cons_zero,List.set_cons_succ,i64_w,i32_w]
         rfl
        refine pure_ (i:=8) (N:=some 43) (v:=?_) (a':=?_) #[true,true,true,true,true,true,true,true,true,false,false,false,false,false,false,false,false,false,false,false,false,false,false,false,false,false,false,false,false,false,false,false,false,false,false,false,false,false,false,false,false,false,false,false,false] rfl rfl (any_of HT_.out (by kernel_rfl)) (fun _ _ _ h=>h) (Or.inl ⟨by rfl,?_⟩) ?_ ?_
        rotate_left
        ·intro w'
         go_simp
         with_reducible rfl
        rotate_left
        ·simp only [Act.put,List.setIfInBounds_toArray,List.set_cons_zero,List.set_cons_succ,i64_w,i32_w]
         rfl
        refine pure_ (i:=9) (N:=some 44) (v:=?_) (a':=?_) #[true,true,true,true,true,true,true,true,true,true,false,false,false,false,false,false,false,false,false,false,false,false,false,false,false,false,false,false,false,false,false,false,false,false,false,false,false,false,false,false,false,false,false,false,false] rfl rfl (any_of HT_.out (by kernel_rfl)) (fun _ _ _ h=>h) (Or.inl ⟨by rfl,?_⟩) ?_ ?_
        rotate_left
        ·intro w'
         go_simp
         with_reducible rfl
        rotate_left
        ·simp only [Act.put,List.setIfInBounds_toArray,List.set_cons_zero,List.set_cons_succ,i64_w,i32_w]
         rfl
        refine pure_ (i:=10) (N:=some 45) (v:=?_) (a':=?_) #[true,true,true,true,true,true,true,true,true,true,true,false,false,false,false,false,false,false,false,false,false,false,false,false,false,false,false,false,false,false,false,false,false,false,false,false,false,false,false,false,false,false,false,false,false] rfl rfl (any_of HT_.out (by kernel_rfl)) (fun _ _ _ h=>h) (Or.inl ⟨by rfl,?_⟩) ?_ ?_
        rotate_left
        ·intro w'
         go_simp
         with_reducible rfl
        rotate_left
        ·simp only [Act.put,List.setIfInBounds_toArray,List.set_cons_zero,List.set_cons_succ,i64_w,i32_w]
         rfl
        refine pure_ (i:=11) (N:=some 46) (v:=?_) (a':=?_) #[true,true,true,true,true,true,true,true,true,true,true,true,false,false,false,false,false,false,false,false,false,false,false,false,false,false,false,false,false,false,false,false,false,false,false,false,false,false,false,false,false,false,false,false,false] rfl rfl (any_of HT_.out (by kernel_rfl)) (fun _ _ _ h=>h) (Or.inl ⟨by rfl,?_⟩) ?_ ?_
        rotate_left
        ·intro w'
         go_simp
         with_reducible rfl
        rotate_left
        ·simp only [Act.put,List.setIfInBounds_toArray,List.set_cons_zero,List.set_cons_succ,i64_w,i32_w]
         rfl
        refine pure_ (i:=12) (N:=some 47) (v:=?_) (a':=?_) #[true,true,true,true,true,true,true,true,true,true,true,true,true,false,false,false,false,false,false,false,false,false,false,false,false,false,false,false,false,false,false,false,false,false,false,false,false,false,false,false,false,false,false,false,false] rfl rfl (any_of HT_.out (by kernel_rfl)) (fun _ _ _ h=>h) (Or.inl ⟨by rfl,?_⟩) ?_ ?_
        rotate_left
        ·intro w'
         go_simp
         with_reducible rfl
        rotate_left
        ·simp only [Act.put,List.setIfInBounds_toArray,List.set_cons_zero,List.set_cons_succ,i64_w,i32_w]
         rfl
        refine pure_ (i:=15) (N:=some 50) (v:=?_) (a':=?_) #[true,true,true,true,true,true,true,true,true,true,true,true,true,false,false,true,false,false,false,false,false,false,false,false,false,false,false,false,false,false,false,false,false,false,false,false,false,false,false,false,false,false,false,false,false] rfl rfl (any_of HT_.out (by kernel_rfl)) (fun _ _ _ h=>h) (Or.inl ⟨by rfl,?_⟩) ?_ ?_
        rotate_left
        ·intro w'
         go_simp
         with_reducible rfl
        rotate_left
        ·simp only [Act.put,List.setIfInBounds_toArray,List.set_cons_zero,List.set_cons_succ,i64_w,i32_w]
         rfl
        refine one_ (i:=13) (N:=some 48) #[true,true,true,true,true,true,true,true,true,true,true,true,true,true,false,true,false,false,false,false,false,false,false,false,false,false,false,false,false,false,false,false,false,false,false,false,false,false,false,false,false,false,false,false,false] rfl rfl (one_of HT_.out (by kernel_rfl)) (by decide) (fun K hK=>?_)
        refine goes_ Try.func13 (by kernel_rfl) rfl #[.slice A0 l0.length c0,.int .i64 a1] (by rfl) rfl rfl (by (try simp only [List.map_toArray,List.map_cons,List.map_nil]);first|done|rfl|(simp only [List.length_drop,List.length_take];rfl)) ?_
        with_reducible refine (slipwaylaw12_told.runs k _ _ l0 a1 9999 t299 _ ?side1 ?side2 A14.out).mono ?_
        (case side1=>repeat (first|exact (Kd.C_below HR0.out HB.out)|(with_reducible refine Kd.C_alloc ?_ _)|(with_reducible refine Kd.C_drewN ?_ _)|(with_reducible refine Kd.C_drew ?_)))
        (case side2=>exact HC0.out)
        rintro e w_it101 ⟨Bs_it101,rfl,hit⟩
        refine ⟨_,rfl,?_⟩
        have HIT101:=zm hit
        clear hit
        refine hK.out _ _ trivial (fun hHeld=>?_)
        clear hK K
        refine norm_ (a':=?_) ?_ ?_
        rotate_left
        ·show Act.put _ (some 48) _=_
         simp only [Act.put,List.setIfInBounds_toArray,List.set_cons_zero,List.set_cons_succ,i64_w,i32_w]
         rfl
        refine one_ (i:=14) (N:=some 49) #[true,true,true,true,true,true,true,true,true,true,true,true,true,true,true,true,false,false,false,false,false,false,false,false,false,false,false,false,false,false,false,false,false,false,false,false,false,false,false,false,false,false,false,false,false] rfl rfl (one_of HT_.out (by kernel_rfl)) (by decide) (fun K hK=>?_)
        refine goes_ Try.func12 (by kernel_rfl) rfl #[.func (.func 36) #[] #[.pointer (some ⟨Bs_it101,0,none⟩)],.int .i64 9999] (by rfl) rfl rfl (by (try simp only [List.map_toArray,List.map_cons,List.map_nil]);first|done|rfl|(simp only [List.length_drop,List.length_take];rfl)) ?_
        with_reducible refine (slipwaylaw12_told.calls _ _ _ _ _ HIT101.out).mono ?_
        rintro e w31 ⟨v300,rfl,ho0,hb⟩
        clear HIT101
        refine ⟨_,rfl,?_⟩
        have n0_:=zm (Kd.R_elder' (by (with_reducible repeat (first|apply zrA|apply zrN|apply zrD));exact HO291.out) (Kd.R_base ho0) hb)
        have n1_:=zm (Kd.R_lower (Kd.R_new' ho0 (Kd.R_lt (by (with_reducible repeat (first|apply zrA|apply zrN|apply zrD));exact HO291.out))) (below_size (by repeat (first|(with_reducible first|exact HB.out|apply zlA|apply zlN|apply zlD)|exact HB.out))))
        have n2_:=zm (below_step (by repeat (first|(with_reducible first|exact HB.out|apply zlA|apply zlN|apply zlD)|exact HB.out)) hb)
        clear HO291 HB
        have HO291:=n0_
        have HO301:=n1_
        have HB:=n2_
        clear n0_ n1_ n2_
        (try clear hb)
        (try clear hb2)
        (try clear hk)
        (try clear hi)
        (try clear ho0)
        obtain ⟨Ao32,co32,eo32⟩:=Kd.R_slice HO301.out
        (first|subst eo32|(injection eo32 with f1_ f2_ f3_;have f4_:=f1_.symm;have f5_:=f3_.symm;clear f1_ f2_ f3_;subst f4_;subst f5_))
        obtain ⟨Ao33,co33,eo33⟩:=Kd.R_slice HO291.out
        (first|subst eo33|(injection eo33 with f1_ f2_ f3_;have f4_:=f1_.symm;have f5_:=f3_.symm;clear f1_ f2_ f3_;subst f4_;subst f5_))
        refine hK.out _ _ trivial (fun hHeld=>?_)
        clear hK K
        refine norm_ (a':=?_) ?_ ?_
        rotate_left
        ·show Act.put _ (some 49) _=_
         simp only [Act.put,List.setIfInBounds_toArray,List.set_cons_zero,List.set_cons_succ,i64_w,i32_w]
         rfl
        refine one_ (i:=16) (N:=some 51) #[true,true,true,true,true,true,true,true,true,true,true,true,true,true,true,true,true,false,false,false,false,false,false,false,false,false,false,false,false,false,false,false,false,false,false,false,false,false,false,false,false,false,false,false,false] rfl rfl (one_of HT_.out (by kernel_rfl)) (by decide) (fun K hK=>?_)
        refine goes_ Try.func25 (by kernel_rfl) rfl #[.slice Ao32 t299.length co32,.slice Ao33 t289.length co33] (by rfl) rfl rfl (by (try simp only [List.map_toArray,List.map_cons,List.map_nil]);first|done|rfl|(simp only [List.length_drop,List.length_take];rfl)) ?_
        with_reducible refine (slipwayref12_Piece.calls k _ _ t299 _ _ t289 true _ ?side1 ?side2 ?side3 ?side4 A15.out).mono ?_
        (case side1=>repeat (first|exact (Kd.R_reads' HO301.out).2.2|(with_reducible refine Kd.C_alloc ?_ _)|(with_reducible refine Kd.C_drewN ?_ _)|(with_reducible refine Kd.C_drew ?_)))
        (case side2=>exact (Kd.R_reads' HO301.out).2.1)
        (case side3=>repeat (first|exact (Kd.R_reads' HO291.out).2.2|(with_reducible refine Kd.C_alloc ?_ _)|(with_reducible refine Kd.C_drewN ?_ _)|(with_reducible refine Kd.C_drew ?_)))
        (case side4=>exact (Kd.R_reads' HO291.out).2.1)
        rintro e w' ⟨rfl,⟨nd,rfl⟩⟩
        refine ⟨_,rfl,?_⟩
        refine hK.out _ _ trivial (fun hHeld=>?_)
        clear hK K
        refine norm_ (a':=?_) ?_ ?_
        rotate_left
        ·show Act.put _ (some 51) _=_
         simp only [Act.put,List.setIfInBounds_toArray,List.set_cons_zero,List.set_cons_succ,i64_w,i32_w]
         rfl
        refine pure_ (i:=17) (N:=some 52) (v:=?_) (a':=?_) #[true,true,true,true,true,true,true,true,true,true,true,true,true,true,true,true,true,true,false,false,false,false,false,false,false,false,false,false,false,false,false,false,false,false,false,false,false,false,false,false,false,false,false,false,false] rfl rfl (any_of HT_.out (by kernel_rfl)) (fun _ _ _ h=>h) (Or.inl ⟨by rfl,?_⟩) ?_ ?_
        rotate_left
        ·intro w'
         go_simp
         with_reducible rfl
        rotate_left
        ·simp only [Act.put,List.setIfInBounds_toArray,List.set_cons_zero,List.set_cons_succ,i64_w,i32_w]
         rfl
        refine pure_ (i:=18) (N:=some 53) (v:=?_) (a':=?_) #[true,true,true,true,true,true,true,true,true,true,true,true,true,true,true,true,true,true,true,false,false,false,false,false,false,false,false,false,false,false,false,false,false,false,false,false,false,false,false,false,false,false,false,false,false] rfl rfl (any_of HT_.out (by kernel_rfl)) (fun _ _ _ h=>h) (Or.inl ⟨by rfl,?_⟩) ?_ ?_
        rotate_left
        ·intro w'
         go_simp
         with_reducible rfl
        rotate_left
        ·simp only [Act.put,List.setIfInBounds_toArray,List.set_cons_zero,List.set_cons_succ,i64_w,i32_w]
         rfl
        refine pure_ (i:=19) (N:=some 54) (v:=?_) (a':=?_) #[true,true,true,true,true,true,true,true,true,true,true,true,true,true,true,true,true,true,true,true,false,false,false,false,false,false,false,false,false,false,false,false,false,false,false,false,false,false,false,false,false,false,false,false,false] rfl rfl (any_of HT_.out (by kernel_rfl)) (fun _ _ _ h=>h) (Or.inl ⟨by rfl,?_⟩) ?_ ?_
        rotate_left
        ·intro w'
         go_simp
         with_reducible rfl
        rotate_left
        ·simp only [Act.put,List.setIfInBounds_toArray,List.set_cons_zero,List.set_cons_succ,i64_w,i32_w]
         rfl
        refine pure_ (i:=20) (N:=some 55) (v:=?_) (a':=?_) #[true,true,true,true,true,true,true,true,true,true,true,true,true,true,true,true,true,true,true,true,true,false,false,false,false,false,false,false,false,false,false,false,false,false,false,false,false,false,false,false,false,false,false,false,false] rfl rfl (any_of HT_.out (by kernel_rfl)) (fun _ _ _ h=>h) (Or.inl ⟨by rfl,?_⟩) ?_ ?_
        rotate_left
        ·intro w'
         go_simp
         with_reducible rfl
        rotate_left
        ·simp only [Act.put,List.setIfInBounds_toArray,List.set_cons_zero,List.set_cons_succ,i64_w,i32_w]
         rfl
        refine pure_ (i:=22) (N:=some 57) (v:=?_) (a':=?_) #[true,true,true,true,true,true,true,true,true,true,true,true,true,true,true,true,true,true,true,true,true,false,true,false,false,false,false,false,false,false,false,false,false,false,false,false,false,false,false,false,false,false,false,false,false] rfl rfl (any_of HT_.out (by kernel_rfl)) (fun _ _ _ h=>h) (Or.inl ⟨by rfl,?_⟩) ?_ ?_
        rotate_left
        ·intro w'
         go_simp
         with_reducible rfl
        rotate_left
        ·simp only [Act.put,List.setIfInBounds_toArray,List.set_cons_zero,List.set_cons_succ,i64_w,i32_w]
         rfl
        refine pure_ (i:=23) (N:=some 58) (v:=?_) (a':=?_) #[true,true,true,true,true,true,true,true,true,true,true,true,true,true,true,true,true,true,true,true,true,false,true,true,false,false,false,false,false,false,false,false,false,false,false,false,false,false,false,false,false,false,false,false,false] rfl rfl (any_of HT_.out (by kernel_rfl)) (fun _ _ _ h=>h) (Or.inl ⟨by rfl,?_⟩) ?_ ?_
        rotate_left
        ·intro w'
         go_simp
         with_reducible rfl
        rotate_left
        ·simp only [Act.put,List.setIfInBounds_toArray,List.set_cons_zero,List.set_cons_succ,i64_w,i32_w]
         rfl
        refine pure_ (i:=25) (N:=some 60) (v:=?_) (a':=?_) #[true,true,true,true,true,true,true,true,true,true,true,true,true,true,true,true,true,true,true,true,true,false,true,true,false,true,false,false,false,false,false,false,false,false,false,false,false,false,false,false,false,false,false,false,false] rfl rfl (any_of HT_.out (by kernel_rfl)) (fun _ _ _ h=>h) (Or.inl ⟨by rfl,?_⟩) ?_ ?_
        rotate_left
        ·intro w'
         go_simp
         with_reducible rfl
        rotate_left
        ·simp only [Act.put,List.setIfInBounds_toArray,List.set_cons_zero,List.set_cons_succ,i64_w,i32_w]
         rfl
        refine pure_ (i:=26) (N:=some 61) (v:=?_) (a':=?_) #[true,true,true,true,true,true,true,true,true,true,true,true,true,true,true,true,true,true,true,true,true,false,true,true,false,true,true,false,false,false,false,false,false,false,false,false,false,false,false,false,false,false,false,false,false] rfl rfl (any_of HT_.out (by kernel_rfl)) (fun _ _ _ h=>h) (Or.inl ⟨by rfl,?_⟩) ?_ ?_
        rotate_left
        ·intro w'
         go_simp
         with_reducible rfl
        rotate_left
        ·simp only [Act.put,List.setIfInBounds_toArray,List.set_cons_zero,List.set_cons_succ,i64_w,i32_w]
         rfl
        refine pure_ (i:=27) (N:=some 62) (v:=?_) (a':=?_) #[true,true,true,true,true,true,true,true,true,true,true,true,true,true,true,true,true,true,true,true,true,false,true,true,false,true,true,true,false,false,false,false,false,false,false,false,false,false,false,false,false,false,false,false,false] rfl rfl (any_of HT_.out (by kernel_rfl)) (fun _ _ _ h=>h) (Or.inl ⟨by rfl,?_⟩) ?_ ?_
        rotate_left
        ·intro w'
         go_simp
         with_reducible rfl
        rotate_left
        ·simp only [Act.put,List.setIfInBounds_toArray,List.set_cons_zero,List.set_cons_succ,i64_w,i32_w]
         rfl
        refine pure_ (i:=28) (N:=some 63) (v:=?_) (a':=?_) #[true,true,true,true,true,true,true,true,true,true,true,true,true,true,true,true,true,true,true,true,true,false,true,true,false,true,true,true,true,false,false,false,false,false,false,false,false,false,false,false,false,false,false,false,false] rfl rfl (any_of HT_.out (by kernel_rfl)) (fun _ _ _ h=>h) (Or.inl ⟨by rfl,?_⟩) ?_ ?_
        rotate_left
        ·intro w'
         go_simp
         with_reducible rfl
        rotate_left
        ·simp only [Act.put,List.setIfInBounds_toArray,List.set_cons_zero,List.set_cons_succ,i64_w,i32_w]
         rfl
        refine pure_ (i:=29) (N:=some 64) (v:=?_) (a':=?_) #[true,true,true,true,true,true,true,true,true,true,true,true,true,true,true,true,true,true,true,true,true,false,true,true,false,true,true,true,true,true,false,false,false,false,false,false,false,false,false,false,false,false,false,false,false] rfl rfl (any_of HT_.out (by kernel_rfl)) (fun _ _ _ h=>h) (Or.inl ⟨by rfl,?_⟩) ?_ ?_
        rotate_left
        ·intro w'
         go_simp
         with_reducible rfl
        rotate_left
        ·simp only [Act.put,List.setIfInBounds_toArray,List.set_cons_zero,List.set_cons_succ,i64_w,i32_w]
         rfl
        refine pure_ (i:=30) (N:=some 65) (v:=?_) (a':=?_) #[true,true,true,true,true,true,true,true,true,true,true,true,true,true,true,true,true,true,true,true,true,false,true,true,false,true,true,true,true,true,true,false,false,false,false,false,false,false,false,false,false,false,false,false,false] rfl rfl (any_of HT_.out (by kernel_rfl)) (fun _ _ _ h=>h) (Or.inl ⟨by rfl,?_⟩) ?_ ?_
        rotate_left
        ·intro w'
         go_simp
         with_reducible rfl
        rotate_left
        ·simp only [Act.put,List.setIfInBounds_toArray,List.set_cons_zero,List.set_cons_succ,i64_w,i32_w]
         rfl
        have q35e:((ji18):Int)≤((t289.length:Int):Int):=of_decide_eq_true (by first|(with_reducible assumption)|assumption)
        obtain ⟨i035e,hi035e,_,hsz35e,_⟩:=info_parts info36
        have hroom35e:t289.length≤co33:=(Kd.R_reads' HO291.out).2.1
        have hcut35e:=cut_to (P:=Try.prog) 30 36 .i64 Try.underlying30 hi035e Ao33 t289.length co33 (ji18) (of_decide_eq_true (by first|(with_reducible assumption)|assumption)) q35e hroom35e
        have hy35e:y306.length=((ji18):Int).toNat:=(by rw [Ny306.out,List.length_take];omega)
        rw [← hy35e] at hcut35e
        clear hy35e q35e hroom35e
        refine pure_ (i:=31) (N:=some 66) (v:=?_) (a':=?_) #[true,true,true,true,true,true,true,true,true,true,true,true,true,true,true,true,true,true,true,true,true,false,true,true,false,true,true,true,true,true,true,true,false,false,false,false,false,false,false,false,false,false,false,false,false] rfl rfl (any_of HT_.out (by kernel_rfl)) (fun _ _ _ h=>h) (Or.inl ⟨by rfl,?_⟩) ?_ ?_
        rotate_left
        ·intro w'
         go_simp
         with_reducible rfl
        rotate_left
        ·simp only [Act.put,List.setIfInBounds_toArray,List.set_cons_zero,List.set_cons_succ,i64_w,i32_w]
         rfl
        refine one_ (i:=21) (N:=some 56) #[true,true,true,true,true,true,true,true,true,true,true,true,true,true,true,true,true,true,true,true,true,true,true,true,false,true,true,true,true,true,true,true,false,false,false,false,false,false,false,false,false,false,false,false,false] rfl rfl (one_of HT_.out (by kernel_rfl)) (by decide) (fun K hK=>?_)
        refine goes_ Try.func13 (by kernel_rfl) rfl #[.slice A0 l0.length c0,.int .i64 a1] (by rfl) rfl rfl (by (try simp only [List.map_toArray,List.map_cons,List.map_nil]);first|done|rfl|(simp only [List.length_drop,List.length_take];rfl)) ?_
        with_reducible refine (slipwaylaw12_told.runs k _ _ l0 a1 (wrap64 (a4)) t303 _ ?side1 ?side2 A17.out).mono ?_
        (case side1=>repeat (first|exact (Kd.C_below HR0.out (by repeat (first|(with_reducible first|exact HB.out|apply zlA|apply zlN|apply zlD)|exact HB.out)))|(with_reducible refine Kd.C_alloc ?_ _)|(with_reducible refine Kd.C_drewN ?_ _)|(with_reducible refine Kd.C_drew ?_)))
        (case side2=>exact HC0.out)
        rintro e w_it102 ⟨Bs_it102,rfl,hit⟩
        refine ⟨_,rfl,?_⟩
        have HIT102:=zm hit
        clear hit
        refine hK.out _ _ trivial (fun hHeld=>?_)
        clear hK K
        refine norm_ (a':=?_) ?_ ?_
        rotate_left
        ·show Act.put _ (some 56) _=_
         simp only [Act.put,List.setIfInBounds_toArray,List.set_cons_zero,List.set_cons_succ,i64_w,i32_w]
         rfl
        refine one_ (i:=24) (N:=some 59) #[true,true,true,true,true,true,true,true,true,true,true,true,true,true,true,true,true,true,true,true,true,true,true,true,true,true,true,true,true,true,true,true,false,false,false,false,false,false,false,false,false,false,false,false,false] rfl rfl (one_of HT_.out (by kernel_rfl)) (by decide) (fun K hK=>?_)
        refine goes_ Try.func12 (by kernel_rfl) rfl #[.func (.func 36) #[] #[.pointer (some ⟨Bs_it102,0,none⟩)],.int .i64 (wrap64 (a4))] (by rfl) rfl rfl (by (try simp only [List.map_toArray,List.map_cons,List.map_nil]);first|done|rfl|(simp only [List.length_drop,List.length_take];rfl)) ?_
        with_reducible refine (slipwaylaw12_told.calls _ _ _ _ _ HIT102.out).mono ?_
        rintro e w34 ⟨v304,rfl,ho0,hb⟩
        clear HIT102
        refine ⟨_,rfl,?_⟩
        have n0_:=zm (Kd.R_elder' (by (with_reducible repeat (first|apply zrA|apply zrN|apply zrD));exact HO291.out) (Kd.R_base ho0) hb)
        have n1_:=zm (Kd.R_elder' (by (with_reducible repeat (first|apply zrA|apply zrN|apply zrD));exact HO301.out) (Kd.R_base ho0) hb)
        have n2_:=zm (Kd.R_lower (Kd.R_new' (Kd.R_new' ho0 (Kd.R_lt (by (with_reducible repeat (first|apply zrA|apply zrN|apply zrD));exact HO291.out))) (Kd.R_lt (by (with_reducible repeat (first|apply zrA|apply zrN|apply zrD));exact HO301.out))) (below_size (by repeat (first|(with_reducible first|exact HB.out|apply zlA|apply zlN|apply zlD)|exact HB.out))))
        have n3_:=zm (below_step (by repeat (first|(with_reducible first|exact HB.out|apply zlA|apply zlN|apply zlD)|exact HB.out)) hb)
        clear HO291 HO301 HB
        have HO291:=n0_
        have HO301:=n1_
        have HO305:=n2_
        have HB:=n3_
        clear n0_ n1_ n2_ n3_
        (try clear hb)
        (try clear hb2)
        (try clear hk)
        (try clear hi)
        (try clear ho0)
        have q35:((ji18):Int)≤((t289.length:Int):Int):=of_decide_eq_true (by first|(with_reducible assumption)|assumption)
        obtain ⟨i035,hi035,_,hsz35,_⟩:=info_parts info36
        have hroom35:t289.length≤co33:=(Kd.R_reads' HO291.out).2.1
        have hC35:Kd.C k36 _ Ao33 t289.length t289:=(Kd.R_reads' HO291.out).2.2
        have hcut35:=cut_to (P:=Try.prog) 30 36 .i64 Try.underlying30 hi035 Ao33 t289.length co33 (ji18) (of_decide_eq_true (by first|(with_reducible assumption)|assumption)) q35 hroom35
        have hr35:=Kd.C_take (m:=((ji18):Int).toNat) hC35 (by omega)
        have hy35:y306.length=((ji18):Int).toNat:=(by rw [Ny306.out,List.length_take];omega)
        rw [← Ny306.out] at hr35
        rw [← hy35] at hcut35
        have HR309:=zm hr35
        have HC309:=zm (show y306.length≤co33 from by omega)
        clear hr35 hC35 hroom35 hi035 hsz35
        have KY35:=zm hy35
        clear hy35
        have KL35:=zm (show ((ji18):Int).toNat≤t289.length from by omega)
        replace q35:=eq_true q35
        obtain ⟨Ao36,co36,eo36⟩:=Kd.R_slice HO305.out
        (first|subst eo36|(injection eo36 with f1_ f2_ f3_;have f4_:=f1_.symm;have f5_:=f3_.symm;clear f1_ f2_ f3_;subst f4_;subst f5_))
        refine hK.out _ _ trivial (fun hHeld=>?_)
        clear hK K
        refine norm_ (a':=?_) ?_ ?_
        rotate_left
        ·show Act.put _ (some 59) _=_
         simp only [Act.put,List.setIfInBounds_toArray,List.set_cons_zero,List.set_cons_succ,i64_w,i32_w]
         rfl
        refine one_ (i:=32) (N:=some 67) #[true,true,true,true,true,true,true,true,true,true,true,true,true,true,true,true,true,true,true,true,true,true,true,true,true,true,true,true,true,true,true,true,true,false,false,false,false,false,false,false,false,false,false,false,false] rfl rfl (one_of HT_.out (by kernel_rfl)) (by decide) (fun K hK=>?_)
        refine goes_ Try.func25 (by kernel_rfl) rfl #[.slice Ao36 t303.length co36,.slice Ao33 y306.length co33] (by rfl) rfl rfl (by (try simp only [List.map_toArray,List.map_cons,List.map_nil]);first|done|rfl|(simp only [List.length_drop,List.length_take];rfl)) ?_
        with_reducible refine (slipwayref12_Piece.calls k _ _ t303 _ _ y306 true _ ?side1 ?side2 ?side3 ?side4 A21.out).mono ?_
        (case side1=>repeat (first|exact (Kd.R_reads' HO305.out).2.2|(with_reducible refine Kd.C_alloc ?_ _)|(with_reducible refine Kd.C_drewN ?_ _)|(with_reducible refine Kd.C_drew ?_)))
        (case side2=>exact (Kd.R_reads' HO305.out).2.1)
        (case side3=>repeat (first|exact (by repeat (first|(with_reducible exact HR309.out)|(with_reducible refine Kd.C_alloc ?_ _)|(with_reducible refine Kd.C_drewN ?_ _)|(with_reducible refine Kd.C_drew ?_)|exact HR309.out))|(with_reducible refine Kd.C_alloc ?_ _)|(with_reducible refine Kd.C_drewN ?_ _)|(with_reducible refine Kd.C_drew ?_)))
        (case side4=>exact HC309.out)
        rintro e w' ⟨rfl,⟨nd,rfl⟩⟩
        refine ⟨_,rfl,?_⟩
        refine hK.out _ _ trivial (fun hHeld=>?_)
        clear hK K
        refine norm_ (a':=?_) ?_ ?_
        rotate_left
        ·show Act.put _ (some 67) _=_
         simp only [Act.put,List.setIfInBounds_toArray,List.set_cons_zero,List.set_cons_succ,i64_w,i32_w]
         rfl
        refine pure_ (i:=33) (N:=some 68) (v:=?_) (a':=?_) #[true,true,true,true,true,true,true,true,true,true,true,true,true,true,true,true,true,true,true,true,true,true,true,true,true,true,true,true,true,true,true,true,true,true,false,false,false,false,false,false,false,false,false,false,false] rfl rfl (any_of HT_.out (by kernel_rfl)) (fun _ _ _ h=>h) (Or.inl ⟨by rfl,?_⟩) ?_ ?_
        rotate_left
        ·intro w'
         go_simp
         with_reducible rfl
        rotate_left
        ·simp only [Act.put,List.setIfInBounds_toArray,List.set_cons_zero,List.set_cons_succ,i64_w,i32_w]
         rfl
        refine pure_ (i:=34) (N:=some 69) (v:=?_) (a':=?_) #[true,true,true,true,true,true,true,true,true,true,true,true,true,true,true,true,true,true,true,true,true,true,true,true,true,true,true,true,true,true,true,true,true,true,true,false,false,false,false,false,false,false,false,false,false] rfl rfl (any_of HT_.out (by kernel_rfl)) (fun _ _ _ h=>h) (Or.inl ⟨by rfl,?_⟩) ?_ ?_
        rotate_left
        ·intro w'
         go_simp
         with_reducible rfl
        rotate_left
        ·simp only [Act.put,List.setIfInBounds_toArray,List.set_cons_zero,List.set_cons_succ,i64_w,i32_w]
         rfl
        refine pure_ (i:=35) (N:=some 70) (v:=?_) (a':=?_) #[true,true,true,true,true,true,true,true,true,true,true,true,true,true,true,true,true,true,true,true,true,true,true,true,true,true,true,true,true,true,true,true,true,true,true,true,false,false,false,false,false,false,false,false,false] rfl rfl (any_of HT_.out (by kernel_rfl)) (fun _ _ _ h=>h) (Or.inl ⟨by rfl,?_⟩) ?_ ?_
        rotate_left
        ·intro w'
         go_simp
         with_reducible rfl
        rotate_left
        ·simp only [Act.put,List.setIfInBounds_toArray,List.set_cons_zero,List.set_cons_succ,i64_w,i32_w]
         rfl
        refine pure_ (i:=36) (N:=some 71) (v:=?_) (a':=?_) #[true,true,true,true,true,true,true,true,true,true,true,true,true,true,true,true,true,true,true,true,true,true,true,true,true,true,true,true,true,true,true,true,true,true,true,true,true,false,false,false,false,false,false,false,false] rfl rfl (any_of HT_.out (by kernel_rfl)) (fun _ _ _ h=>h) (Or.inl ⟨by rfl,?_⟩) ?_ ?_
        rotate_left
        ·intro w'
         go_simp
         with_reducible rfl
        rotate_left
        ·simp only [Act.put,List.setIfInBounds_toArray,List.set_cons_zero,List.set_cons_succ,i64_w,i32_w]
         rfl
        refine pure_ (i:=37) (N:=some 72) (v:=?_) (a':=?_) #[true,true,true,true,true,true,true,true,true,true,true,true,true,true,true,true,true,true,true,true,true,true,true,true,true,true,true,true,true,true,true,true,true,true,true,true,true,true,false,false,false,false,false,false,false] rfl rfl (any_of HT_.out (by kernel_rfl)) (fun _ _ _ h=>h) (Or.inl ⟨by rfl,?_⟩) ?_ ?_
        rotate_left
        ·intro w'
         go_simp
         with_reducible rfl
        rotate_left
        ·simp only [Act.put,List.setIfInBounds_toArray,List.set_cons_zero,List.set_cons_succ,i64_w,i32_w]
         rfl
        refine pure_ (i:=38) (N:=some 73) (v:=?_) (a':=?_) #[true,true,true,true,true,true,true,true,true,true,true,true,true,true,true,true,true,true,true,true,true,true,true,true,true,true,true,true,true,true,true,true,true,true,true,true,true,true,true,false,false,false,false,false,false] rfl rfl (any_of HT_.out (by kernel_rfl)) (fun _ _ _ h=>h) (Or.inl ⟨by rfl,?_⟩) ?_ ?_
        rotate_left
        ·intro w'
         go_simp
         with_reducible rfl
        rotate_left
        ·simp only [Act.put,List.setIfInBounds_toArray,List.set_cons_zero,List.set_cons_succ,i64_w,i32_w]
         rfl
        refine pure_ (i:=39) (N:=some 74) (v:=?_) (a':=?_) #[true,true,true,true,true,true,true,true,true,true,true,true,true,true,true,true,true,true,true,true,true,true,true,true,true,true,true,true,true,true,true,true,true,true,true,true,true,true,true,true,false,false,false,false,false] rfl rfl (any_of HT_.out (by kernel_rfl)) (fun _ _ _ h=>h) (Or.inl ⟨by rfl,?_⟩) ?_ ?_
        rotate_left
        ·intro w'
         go_simp
         with_reducible rfl
        rotate_left
        ·simp only [Act.put,List.setIfInBounds_toArray,List.set_cons_zero,List.set_cons_succ,i64_w,i32_w]
         rfl
        refine pure_ (i:=40) (N:=some 75) (v:=?_) (a':=?_) #[true,true,true,true,true,true,true,true,true,true,true,true,true,true,true,true,true,true,true,true,true,true,true,true,true,true,true,true,true,true,true,true,true,true,true,true,true,true,true,true,true,false,false,false,false] rfl rfl (any_of HT_.out (by kernel_rfl)) (fun _ _ _ h=>h) (Or.inl ⟨by rfl,?_⟩) ?_ ?_
        rotate_left
        ·intro w'
         go_simp
         with_reducible rfl
        rotate_left
        ·simp only [Act.put,List.setIfInBounds_toArray,List.set_cons_zero,List.set_cons_succ,i64_w,i32_w]
         rfl
        refine pure_ (i:=41) (N:=some 76) (v:=?_) (a':=?_) #[true,true,true,true,true,true,true,true,true,true,true,true,true,true,true,true,true,true,true,true,true,true,true,true,true,true,true,true,true,true,true,true,true,true,true,true,true,true,true,true,true,true,false,false,false] rfl rfl (any_of HT_.out (by kernel_rfl)) (fun _ _ _ h=>h) (Or.inl ⟨by rfl,?_⟩) ?_ ?_
        rotate_left
        ·intro w'
         go_simp
         with_reducible rfl
        rotate_left
        ·simp only [Act.put,List.setIfInBounds_toArray,List.set_cons_zero,List.set_cons_succ,i64_w,i32_w]
         rfl
        refine pure_ (i:=42) (N:=some 77) (v:=?_) (a':=?_) #[true,true,true,true,true,true,true,true,true,true,true,true,true,true,true,true,true,true,true,true,true,true,true,true,true,true,true,true,true,true,true,true,true,true,true,true,true,true,true,true,true,true,true,false,false] rfl rfl (any_of HT_.out (by kernel_rfl)) (fun _ _ _ h=>h) (Or.inl ⟨by rfl,?_⟩) ?_ ?_
        rotate_left
        ·intro w'
         go_simp
         with_reducible rfl
        rotate_left
        ·simp only [Act.put,List.setIfInBounds_toArray,List.set_cons_zero,List.set_cons_succ,i64_w,i32_w]
         rfl
        refine pure_ (i:=43) (N:=some 78) (v:=?_) (a':=?_) #[true,true,true,true,true,true,true,true,true,true,true,true,true,true,true,true,true,true,true,true,true,true,true,true,true,true,true,true,true,true,true,true,true,true,true,true,true,true,true,true,true,true,true,true,false] rfl rfl (any_of HT_.out (by kernel_rfl)) (fun _ _ _ h=>h) (Or.inl ⟨by rfl,?_⟩) ?_ ?_
        rotate_left
        ·intro w'
         go_simp
         with_reducible rfl
        rotate_left
        ·simp only [Act.put,List.setIfInBounds_toArray,List.set_cons_zero,List.set_cons_succ,i64_w,i32_w]
         rfl
        refine pure_ (i:=44) (N:=some 10) (v:=?_) (a':=?_) #[true,true,true,true,true,true,true,true,true,true,true,true,true,true,true,true,true,true,true,true,true,true,true,true,true,true,true,true,true,true,true,true,true,true,true,true,true,true,true,true,true,true,true,true,true] rfl rfl (any_of HT_.out (by kernel_rfl)) (fun _ _ _ h=>h) (Or.inl ⟨by rfl,?_⟩) ?_ ?_
        rotate_left
        ·intro w'
         go_simp
         with_reducible rfl
        rotate_left
        ·simp only [Act.put,List.setIfInBounds_toArray,List.set_cons_zero,List.set_cons_succ,i64_w,i32_w]
         rfl
        refine done_ (done_of HT_.out (by kernel_rfl)) ?_
        try go_wp2
        go_ret
        exact ⟨by first|rfl|(simp [errW_none,errW_some] <;> rfl)|(simp only [← hji18];first|rfl|(simp [errW_none,errW_some] <;> rfl))|(simp [*,errW_none,errW_some] <;> rfl),by repeat (first|(with_reducible first|exact HB.out|apply zlA|apply zlN|apply zlD)|exact HB.out)⟩
       ·rw [if_neg c23] at H
        have c23b0:(t292 == t294)=false:=beq_eq_false_iff_ne.mpr c23
        have c23b1:(t292 != t294)=true:=bne_iff_ne.mpr c23
        exact absurd H (by simp)
      ·replace c22:=Bool.eq_false_iff.mpr c22
       subst c22
       have H1:(none)=some r:=by rw [if_neg (show ¬ (false=true) by decide)] at H;exact H
       clear H
       have H:=H1
       clear H1
       exact absurd H (by simp)
     ·rw [if_neg c20] at H
      exact absurd H (by simp)
    ·rw [if_neg c19] at H
     exact absurd H (by simp)
   ·replace c16:=Bool.eq_false_iff.mpr c16
    subst c16
    have H1:(none)=some r:=by rw [if_neg (show ¬ (false=true) by decide)] at H;exact H
    clear H
    have H:=H1
    clear H1
    exact absurd H (by simp)
  ·rw [if_neg c13] at H
   have c13b0:(t297 == t298)=false:=beq_eq_false_iff_ne.mpr c13
   have c13b1:(t297 != t298)=true:=bne_iff_ne.mpr c13
   exact absurd H (by simp)
 ·replace c10:=Bool.eq_false_iff.mpr c10
  subst c10
  have H1:(none)=some r:=by rw [if_neg (show ¬ (false=true) by decide)] at H;exact H
  clear H
  have H:=H1
  clear H1
  exact absurd H (by simp)
def slipwaylaw12_BitmapTells.Pure:Prop:=∀ (l0:List Int) (a1:Int) (a2:Int) (a3:Int) (a4:Int),l0.length≤maxLen → l0.length * 1≤140737488351232 → (∀ x ∈ l0,(Lit.int .u8 x).wf=true) → (Lit.int .i64 a1).wf=true → (Lit.int .i64 a2).wf=true → (Lit.int .i64 a3).wf=true → (Lit.int .u8 a4).wf=true → ∃ k,slipwaylaw12_BitmapTells.f k l0 a1 a2 a3 a4=some true
theorem slipwaylaw12_BitmapTells.walk (P:slipwaylaw12_BitmapTells.Pure) (a0:Option Addr) (len0 cap0:Nat) (z0:List Int) (a1:Int) (a2:Int) (a3:Int) (a4:Int) (w:World) (w0:(a0=none∧len0=0∧cap0=0∧z0=[])∨∃ x,a0=some x∧len0≤cap0∧cap0≤maxLen∧z0.length=cap0∧(∀ i,i < z0.length → w.cell? (x.add i)=some (.int .u8 (z0.getD i 0)))∧∀ n ∈ z0,(Lit.int .u8 n).wf=true) (y0:len0 * 1≤140737488351232) (w1:(Lit.int .i64 a1).wf=true) (w2:(Lit.int .i64 a2).wf=true) (w3:(Lit.int .i64 a3).wf=true) (w4:(Lit.int .u8 a4).wf=true) :
  Calls Try.prog 6 #[.slice a0 len0 cap0,.int .i64 a1,.int .i64 a2,.int .i64 a3,.int .u8 a4] w fun e w'=>e=.returned (.bool true)∧Below w.heap.size w w':=by
 obtain ⟨l0,rfl,hr0,hm0,hw0,hc0⟩:=ReadsInt.ofRowC w0
 obtain ⟨k,h⟩:=P l0 a1 a2 a3 a4 hm0 y0 hw0 w1 w2 w3 w4
 refine (slipwaylaw12_BitmapTells.calls k _ _ l0 a1 a2 a3 a4 true w (Kd.C_of_reads (d:=(0:Int)) (h1:=fun _=>rfl) hr0) hc0 h).mono ?_
 rintro e w' ⟨rfl,hd⟩
 exact ⟨rfl,hd⟩
end Go.Proofs.Ytllodfjbenmlpaa.Print
end
