/- Texts of the proof of BitmapTurns, part 15. -/
import Derived.Test.YtllodfjbenmlpaaBitmapTurnsMA
import Derived.Test.YtllodfjbenmlpaaBitmapTurnsM14
section
namespace Go.Proofs.Ytllodfjbenmlpaa.Print
open Go.RowKit Go.Proofs.YtllodfjbenmlpaaW.PrintWords Go.Proofs.YtllodfjbenmlpaaW.PrintLast Go.Proofs.YtllodfjbenmlpaaW.PrintMore
attribute [local go_sem] max2_int min2_int max_two min_two max_three min_three max_four min_four   -- for this text's walks alone
attribute [local go_sem ↓] Go.Proofs.Ytllodfjbenmlpaa.Sem.isSome_setCell
attribute [local go_sem] Go.Instr.field Go.asAgg
set_option linter.unusedVariables false
set_option linter.unusedSimpArgs false
mutual
def bitmap_Minus.j0:Nat → List Int → List Int → Int → Bool → Option (List Int × Int)
 | 0,_,_,_,_=>none
 | k + 1,x0,x1,x2,x20=>if x20=true then (some (([]:List Int),120)) else ((bitmap_New.f k x2).bind fun bt311=>(bitmap_Minus.l0 k x0 x1 bt311.1 x2 0))
def bitmap_Minus.l0:Nat → List Int → List Int → List Int → Int → Int → Option (List Int × Int)
 | 0,_,_,_,_,_=>none
 | k + 1,x0,x1,x8,x26,x27=>if x27 < x26 then ((bitmap_bit.f x0 x27).bind fun t315=>(if t315=true then ((bitmap_bit.f x1 x27).bind fun t316=>(if t316=true then (bitmap_Minus.l0 k x0 x1 x8 x26 (wrap64 (x27 + 1))) else ((bitmap_turn.f x8 x27).bind fun t317=>(bitmap_Minus.l0 k x0 x1 t317 x26 (wrap64 (x27 + 1)))))) else (bitmap_Minus.l0 k x0 x1 x8 x26 (wrap64 (x27 + 1))))) else (some (x8,0))
end
def bitmap_Minus.f (k:Nat) (l0:List Int) (l1:List Int) (a2:Int):Option (List Int × Int):=(bitmap_Check.f k l0 a2).bind fun t309=>(if t309=0 then ((bitmap_Check.f k l1 a2).bind fun t310=>(bitmap_Minus.j0 k l0 l1 a2 (t310 != 0))) else (bitmap_Minus.j0 k l0 l1 a2 true))
set_option maxHeartbeats 8000000 in
set_option maxRecDepth 100000 in
theorem bitmap_Minus.calls (k:Nat) (A0:Option Addr) (c0:Nat) (l0:List Int) (A1:Option Addr) (c1:Nat) (l1:List Int) (a2:Int) (r1:List Int) (r2:Int) (w:World) (hr0:Kd.C (Kd.int .u8) w A0 l0.length l0) (hc0:l0.length≤c0) (hr1:Kd.C (Kd.int .u8) w A1 l1.length l1) (hc1:l1.length≤c1) (h:bitmap_Minus.f k l0 l1 a2=some (r1,r2)) :
  Calls Try.prog 29 #[.slice A0 l0.length c0,.slice A1 l1.length c1,.int .i64 a2] w fun e w'=>∃ v0_:Value,e=.returned (.tuple #[v0_,.int .i64 r2])∧Kd.R (Kd.int .u8) 5 w' w.heap.size (fun _=>True) v0_ r1∧Below w.heap.size w w':=by
 have HR0:=zm hr0
 have HC0:=zm hc0
 clear hr0 hc0
 have HR1:=zm hr1
 have HC1:=zm hc1
 clear hr1 hc1
 have HB:=zm (Below.refl w.heap.size w)
 have H:((bitmap_Check.f k l0 a2).bind fun t309=>(if t309=0 then ((bitmap_Check.f k l1 a2).bind fun t310=>(bitmap_Minus.j0 k l0 l1 a2 (t310 != 0))) else (bitmap_Minus.j0 k l0 l1 a2 true)))=some (r1,r2):=h
 clear h
 have HC4:=zm H
 clear H
 go_enter Try.func29,Try.ntmps29
 go_upto_region 1 with (fail)
 go_cut [20] (fun v20 wc=>∃ (kq:Nat) (x20_3:Bool),v20=.bool x20_3∧Aside0 (bitmap_Minus.j0 kq l0 l1 a2 x20_3=some (r1,r2))∧Aside0 (kq≤k)∧Aside0 (Below w.heap.size w wc))
 case first =>
  have H:=HC4.out
  clear HC4
  replace H:=Option.bind_eq_some_iff.mp H
  obtain ⟨t309,A50,H⟩:=H
  replace H:(if t309=0 then ((bitmap_Check.f k l1 a2).bind fun t310=>(bitmap_Minus.j0 k l0 l1 a2 (t310 != 0))) else (bitmap_Minus.j0 k l0 l1 a2 true))=some (r1,r2):=H
  have A5:=zm A50
  clear A50
  by_cases c6:t309=0
  ·rw [if_pos c6] at H
   have c6b0:(t309 == 0)=true:=beq_iff_eq.mpr c6
   have c6b1:(t309 != 0)=false:=bne_eq_false_iff_eq.mpr c6
   clear c6
   (first|rw [c6b0]|(simp only [i64_w,i32_w];rw [c6b0])|skip)
   replace H:=Option.bind_eq_some_iff.mp H
   obtain ⟨t310,A70,H⟩:=H
   replace H:(bitmap_Minus.j0 k l0 l1 a2 (t310 != 0))=some (r1,r2):=H
   have A7:=zm A70
   clear A70
   have H':=zm H
   clear H
   go_wp2_with (first|((with_reducible refine gate_callee (f:=9) rfl ?_);refine goesL_ (some 13) rfl rfl Try.func9 (by kernel_rfl) rfl #[.slice A0 l0.length c0,.int .i64 a2] rfl (by (try simp only [List.map_toArray,List.map_cons,List.map_nil]);first|done|rfl|(simp only [List.length_drop,List.length_take];rfl)) ?_;(with_reducible refine (bitmap_Check.calls k _ _ l0 a2 t309 _ ?side1 ?side2 A5.out).mono ?_);(case side1=>repeat (first|exact (Kd.C_below HR0.out HB.out)|(with_reducible refine Kd.C_alloc ?_ _)|(with_reducible refine Kd.C_drewN ?_ _)|(with_reducible refine Kd.C_drew ?_)));(case side2=>exact HC0.out);rintro e w' ⟨rfl,⟨nd,rfl⟩⟩;refine ⟨_,rfl,?_⟩)|(go_at_call 9;(with_reducible refine (bitmap_Check.calls k _ _ l1 a2 t310 _ ?side1 ?side2 A7.out).mono ?_);(case side1=>repeat (first|exact (Kd.C_below HR1.out (by repeat (first|(with_reducible first|exact HB.out|apply zlA|apply zlN|apply zlD)|exact HB.out)))|(with_reducible refine Kd.C_alloc ?_ _)|(with_reducible refine Kd.C_drewN ?_ _)|(with_reducible refine Kd.C_drew ?_)));(case side2=>exact HC1.out);rintro e w' ⟨rfl,⟨nd,rfl⟩⟩))
   go_meet
   case rel=>exact ⟨_,((t310 != 0)),(by first|rfl|(simp;done)|(simp [*];done)),H',⟨by first|omega|exact Nat.le_refl _⟩,⟨by repeat (first|(with_reducible first|exact HB.out|apply zlA|apply zlN|apply zlD)|exact HB.out)⟩⟩
  ·rw [if_neg c6] at H
   have c6b0:(t309 == 0)=false:=beq_eq_false_iff_ne.mpr c6
   have c6b1:(t309 != 0)=true:=bne_iff_ne.mpr c6
   (first|rw [c6b0]|(simp only [i64_w,i32_w];rw [c6b0])|skip)
   have H':=zm H
   clear H
   go_wp2_with (first|((with_reducible refine gate_callee (f:=9) rfl ?_);refine goesL_ (some 13) rfl rfl Try.func9 (by kernel_rfl) rfl #[.slice A0 l0.length c0,.int .i64 a2] rfl (by (try simp only [List.map_toArray,List.map_cons,List.map_nil]);first|done|rfl|(simp only [List.length_drop,List.length_take];rfl)) ?_;(with_reducible refine (bitmap_Check.calls k _ _ l0 a2 t309 _ ?side1 ?side2 A5.out).mono ?_);(case side1=>repeat (first|exact (Kd.C_below HR0.out HB.out)|(with_reducible refine Kd.C_alloc ?_ _)|(with_reducible refine Kd.C_drewN ?_ _)|(with_reducible refine Kd.C_drew ?_)));(case side2=>exact HC0.out);rintro e w' ⟨rfl,⟨nd,rfl⟩⟩;refine ⟨_,rfl,?_⟩))
   go_meet
   case rel=>exact ⟨_,(true),(by first|rfl|(simp;done)|(simp [*];done)),H',⟨by first|omega|exact Nat.le_refl _⟩,⟨by repeat (first|(with_reducible first|exact HB.out|apply zlA|apply zlN|apply zlD)|exact HB.out)⟩⟩
 case rest =>
  clear HC4
  try clear c1
  try clear c2
  try clear p2
  try clear c6
  try clear c6b0
  try clear c6b1
  obtain ⟨kq,x20_3,rfl,HA,HJ3,HB⟩:=hcut
  cases kq with
  | zero=>exact absurd HA.out (by simp [bitmap_Minus.j0])
  | succ kj3 =>
   have H:=HA.out
   clear HA
   simp only [bitmap_Minus.j0] at H
   by_cases c8:x20_3=true
   ·subst c8
    have H1:(some (([]:List Int),120))=some (r1,r2):=by rw [if_pos rfl] at H;exact H
    clear H
    have H:=H1
    clear H1
    simp only [Option.some.injEq,Prod.mk.injEq] at H
    obtain ⟨rfl,rfl⟩:=H
    go_wp2
    go_ret2
    exact ⟨_,by first|rfl|(simp [errW_none,errW_some] <;> rfl)|(simp [*,errW_none,errW_some] <;> rfl),by first|exact Kd.R_nil _ _ _ _ _|exact Kd.N_nil _ _ _ _ _|exact Kd.V_nil _ _ _ _ _|exact Kd.Q_nil _ _ _ _ _|exact Kd.S_nil _ _ _ _ _,by repeat (first|(with_reducible first|exact HB.out|apply zlA|apply zlN|apply zlD)|exact HB.out)⟩
   ·replace c8:=Bool.eq_false_iff.mpr c8
    subst c8
    have H1:((bitmap_New.f kj3 a2).bind fun bt311=>(bitmap_Minus.l0 kj3 l0 l1 bt311.1 a2 0))=some (r1,r2):=by rw [if_neg (show ¬ (false=true) by decide)] at H;exact H
    clear H
    have H:=H1
    clear H1
    replace H:=Option.bind_eq_some_iff.mp H
    obtain ⟨⟨t311,t312⟩,A90,H⟩:=H
    replace H:(bitmap_Minus.l0 kj3 l0 l1 t311 a2 0)=some (r1,r2):=H
    have A9:=zm A90
    clear A90
    have H':=zm H
    clear H
    go_wp2_with (first|((with_reducible refine gate_callee (f:=14) rfl ?_);refine goesL_ (some 23) rfl rfl Try.func14 (by kernel_rfl) rfl #[.int .i64 a2] rfl (by (try simp only [List.map_toArray,List.map_cons,List.map_nil]);first|done|rfl|(simp only [List.length_drop,List.length_take];rfl)) ?_;(with_reducible refine (bitmap_New.calls kj3 a2 t311 t312 _ A9.out).mono ?_);rintro e w10 ⟨v313,rfl,ho0,hb⟩;refine ⟨_,rfl,?_⟩;have n0_:=zm (Kd.R_lower ho0 (below_size (by repeat (first|(with_reducible first|exact HB.out|apply zlA|apply zlN|apply zlD)|exact HB.out))));have n1_:=zm (below_step (by repeat (first|(with_reducible first|exact HB.out|apply zlA|apply zlN|apply zlD)|exact HB.out)) hb);clear HB;have HO314:=n0_;have HB:=n1_;clear n0_ n1_;(try clear hb);(try clear hb2);(try clear hk);(try clear hi);(try clear ho0)))
    go_loopg [27] kj3 (fun kq v27 w'=>∃ (x8_2:List Int) (x27_2:Int),v27=.int .i64 x27_2∧Aside0 (bitmap_Minus.l0 kq l0 l1 x8_2 a2 x27_2=some (r1,r2))∧Aside0 (kq≤kj3)∧Aside0 (Kd.R (Kd.int .u8) 5 w' w.heap.size (fun _=>True) v313 x8_2)∧Aside0 (Below w.heap.size w w'))
    case atStart=>exact ⟨(t311),(0),(by first|rfl|(simp;done)|(simp [*];done)),H',⟨Nat.le_refl _⟩,⟨by (with_reducible repeat (first|apply zrA|apply zrN|apply zrD));exact HO314.out⟩,⟨by repeat (first|(with_reducible first|exact HB.out|apply zlA|apply zlN|apply zlD)|exact HB.out)⟩⟩
    case round =>
     clear H'
     try clear c1
     try clear c2
     try clear p2
     try clear c6
     try clear c6b0
     try clear c6b1
     try clear c8
     try clear c9
     try clear p2
     obtain ⟨x8_2,x27_2,rfl,HA,HK2,HO_8,HB⟩:=hrel
     cases gk with
     | zero=>exact absurd HA.out (by simp [bitmap_Minus.l0])
     | succ k2 =>
      have H:=HA.out
      clear HA
      simp only [bitmap_Minus.l0] at H
      by_cases c11:x27_2 < a2
      ·rw [if_pos c11] at H
       have c11b0:decide (x27_2 < a2)=true:=decide_eq_true c11
       clear c11
       replace H:=Option.bind_eq_some_iff.mp H
       obtain ⟨t315,A120,H⟩:=H
       replace H:(if t315=true then ((bitmap_bit.f l1 x27_2).bind fun t316=>(if t316=true then (bitmap_Minus.l0 k2 l0 l1 x8_2 a2 (wrap64 (x27_2 + 1))) else ((bitmap_turn.f x8_2 x27_2).bind fun t317=>(bitmap_Minus.l0 k2 l0 l1 t317 a2 (wrap64 (x27_2 + 1)))))) else (bitmap_Minus.l0 k2 l0 l1 x8_2 a2 (wrap64 (x27_2 + 1))))=some (r1,r2):=H
       have A12:=zm A120
       clear A120
       by_cases c13:t315=true
       ·subst c13
        have H1:((bitmap_bit.f l1 x27_2).bind fun t316=>(if t316=true then (bitmap_Minus.l0 k2 l0 l1 x8_2 a2 (wrap64 (x27_2 + 1))) else ((bitmap_turn.f x8_2 x27_2).bind fun t317=>(bitmap_Minus.l0 k2 l0 l1 t317 a2 (wrap64 (x27_2 + 1))))))=some (r1,r2):=by rw [if_pos rfl] at H;exact H
        clear H
        have H:=H1
        clear H1
        replace H:=Option.bind_eq_some_iff.mp H
        obtain ⟨t316,A140,H⟩:=H
        replace H:(if t316=true then (bitmap_Minus.l0 k2 l0 l1 x8_2 a2 (wrap64 (x27_2 + 1))) else ((bitmap_turn.f x8_2 x27_2).bind fun t317=>(bitmap_Minus.l0 k2 l0 l1 t317 a2 (wrap64 (x27_2 + 1)))))=some (r1,r2):=H
        have A14:=zm A140
        clear A140
        by_cases c15:t316=true
        ·subst c15
         have H1:(bitmap_Minus.l0 k2 l0 l1 x8_2 a2 (wrap64 (x27_2 + 1)))=some (r1,r2):=by rw [if_pos rfl] at H;exact H
         clear H
         have H:=H1
         clear H1
         have H':=zm H
         clear H
         go_wp2_with (first|((with_reducible refine gate_callee (f:=31) rfl ?_);refine goesL_ (some 32) rfl rfl Try.func31 (by kernel_rfl) rfl #[.slice A0 l0.length c0,.int .i64 x27_2] rfl (by (try simp only [List.map_toArray,List.map_cons,List.map_nil]);first|done|rfl|(simp only [List.length_drop,List.length_take];rfl)) ?_;(with_reducible refine (bitmap_bit.calls _ _ l0 x27_2 true _ ?side1 ?side2 A12.out).mono ?_);(case side1=>repeat (first|exact (Kd.C_below HR0.out HB.out)|(with_reducible refine Kd.C_alloc ?_ _)|(with_reducible refine Kd.C_drewN ?_ _)|(with_reducible refine Kd.C_drew ?_)));(case side2=>exact HC0.out);rintro e w' ⟨rfl,⟨nd,rfl⟩⟩;refine ⟨_,rfl,?_⟩)|(go_at_call 31;(with_reducible refine (bitmap_bit.calls _ _ l1 x27_2 true _ ?side1 ?side2 A14.out).mono ?_);(case side1=>repeat (first|exact (Kd.C_below HR1.out (by repeat (first|(with_reducible first|exact HB.out|apply zlA|apply zlN|apply zlD)|exact HB.out)))|(with_reducible refine Kd.C_alloc ?_ _)|(with_reducible refine Kd.C_drewN ?_ _)|(with_reducible refine Kd.C_drew ?_)));(case side2=>exact HC1.out);rintro e w' ⟨rfl,⟨nd,rfl⟩⟩))
         go_roundg k2
         case measure=>have:=HJ3.out;have:=HK2.out;omega
         case rel=>exact ⟨(x8_2),(wrap64 (x27_2 + 1)),(by first|rfl|(simp;done)|(simp [*];done)),H',⟨by have:=HJ3.out;have:=HK2.out;omega⟩,⟨by (with_reducible repeat (first|apply zrA|apply zrN|apply zrD));exact HO_8.out⟩,⟨by repeat (first|(with_reducible first|exact HB.out|apply zlA|apply zlN|apply zlD)|exact HB.out)⟩⟩
        ·replace c15:=Bool.eq_false_iff.mpr c15
         subst c15
         have H1:((bitmap_turn.f x8_2 x27_2).bind fun t317=>(bitmap_Minus.l0 k2 l0 l1 t317 a2 (wrap64 (x27_2 + 1))))=some (r1,r2):=by rw [if_neg (show ¬ (false=true) by decide)] at H;exact H
         clear H
         have H:=H1
         clear H1
         replace H:=Option.bind_eq_some_iff.mp H
         obtain ⟨t317,A160,H⟩:=H
         replace H:(bitmap_Minus.l0 k2 l0 l1 t317 a2 (wrap64 (x27_2 + 1)))=some (r1,r2):=H
         have A16:=zm A160
         clear A160
         have H':=zm H
         clear H
         go_wp2_with (first|((with_reducible refine gate_callee (f:=31) rfl ?_);refine goesL_ (some 32) rfl rfl Try.func31 (by kernel_rfl) rfl #[.slice A0 l0.length c0,.int .i64 x27_2] rfl (by (try simp only [List.map_toArray,List.map_cons,List.map_nil]);first|done|rfl|(simp only [List.length_drop,List.length_take];rfl)) ?_;(with_reducible refine (bitmap_bit.calls _ _ l0 x27_2 true _ ?side1 ?side2 A12.out).mono ?_);(case side1=>repeat (first|exact (Kd.C_below HR0.out HB.out)|(with_reducible refine Kd.C_alloc ?_ _)|(with_reducible refine Kd.C_drewN ?_ _)|(with_reducible refine Kd.C_drew ?_)));(case side2=>exact HC0.out);rintro e w' ⟨rfl,⟨nd,rfl⟩⟩;refine ⟨_,rfl,?_⟩)|(go_at_call 31;(with_reducible refine (bitmap_bit.calls _ _ l1 x27_2 false _ ?side1 ?side2 A14.out).mono ?_);(case side1=>repeat (first|exact (Kd.C_below HR1.out (by repeat (first|(with_reducible first|exact HB.out|apply zlA|apply zlN|apply zlD)|exact HB.out)))|(with_reducible refine Kd.C_alloc ?_ _)|(with_reducible refine Kd.C_drewN ?_ _)|(with_reducible refine Kd.C_drew ?_)));(case side2=>exact HC1.out);rintro e w' ⟨rfl,⟨nd,rfl⟩⟩;obtain ⟨Ao17,co17,eo17⟩:=Kd.R_slice HO_8.out;subst eo17)|((with_reducible refine gate_callee (f:=38) rfl ?_);refine goesL_ (some 41) rfl rfl Try.func38 (by kernel_rfl) rfl #[.slice Ao17 x8_2.length co17,.int .i64 x27_2] rfl (by (try simp only [List.map_toArray,List.map_cons,List.map_nil]);first|done|rfl|(simp only [List.length_drop,List.length_take];rfl)) ?_;(with_reducible refine (bitmap_turn.calls (fun k_=>some k_=(.slice Ao17 x8_2.length co17:Value).ownBlock) (.slice Ao17 x8_2.length co17) x8_2 x27_2 t317 w _ ?side1 ?side2 A16.out).mono ?_);(case side1=>repeat (first|(with_reducible first|exact HB.out|apply zlA|apply zlN|apply zlD)|exact HB.out));(case side2=>exact Kd.R_tight rfl HO_8.out);rintro e w18 ⟨rfl,hy0,hb,hkp⟩;refine ⟨_,rfl,?_⟩;have n0_:=zm (Kd.R_reok rfl hy0 (fun k_ e_=>HO_8.out.1 k_ e_));have n1_:=zm (hb);clear HO_8 HB;have HO_8:=n0_;have HB:=n1_;clear n0_ n1_;(try clear hb);(try clear hkp);(try clear hy0)))
         go_roundg k2
         case measure=>have:=HJ3.out;have:=HK2.out;omega
         case rel=>exact ⟨(t317),(wrap64 (x27_2 + 1)),(by first|rfl|(simp;done)|(simp [*];done)),H',⟨by have:=HJ3.out;have:=HK2.out;omega⟩,⟨by (with_reducible repeat (first|apply zrA|apply zrN|apply zrD));exact HO_8.out⟩,⟨by repeat (first|(with_reducible first|exact HB.out|apply zlA|apply zlN|apply zlD)|exact HB.out)⟩⟩
       ·replace c13:=Bool.eq_false_iff.mpr c13
        subst c13
        have H1:(bitmap_Minus.l0 k2 l0 l1 x8_2 a2 (wrap64 (x27_2 + 1)))=some (r1,r2):=by rw [if_neg (show ¬ (false=true) by decide)] at H;exact H
        clear H
        have H:=H1
        clear H1
        have H':=zm H
        clear H
        go_wp2_with (first|((with_reducible refine gate_callee (f:=31) rfl ?_);refine goesL_ (some 32) rfl rfl Try.func31 (by kernel_rfl) rfl #[.slice A0 l0.length c0,.int .i64 x27_2] rfl (by (try simp only [List.map_toArray,List.map_cons,List.map_nil]);first|done|rfl|(simp only [List.length_drop,List.length_take];rfl)) ?_;(with_reducible refine (bitmap_bit.calls _ _ l0 x27_2 false _ ?side1 ?side2 A12.out).mono ?_);(case side1=>repeat (first|exact (Kd.C_below HR0.out HB.out)|(with_reducible refine Kd.C_alloc ?_ _)|(with_reducible refine Kd.C_drewN ?_ _)|(with_reducible refine Kd.C_drew ?_)));(case side2=>exact HC0.out);rintro e w' ⟨rfl,⟨nd,rfl⟩⟩;refine ⟨_,rfl,?_⟩))
        go_roundg k2
        case measure=>have:=HJ3.out;have:=HK2.out;omega
        case rel=>exact ⟨(x8_2),(wrap64 (x27_2 + 1)),(by first|rfl|(simp;done)|(simp [*];done)),H',⟨by have:=HJ3.out;have:=HK2.out;omega⟩,⟨by (with_reducible repeat (first|apply zrA|apply zrN|apply zrD));exact HO_8.out⟩,⟨by repeat (first|(with_reducible first|exact HB.out|apply zlA|apply zlN|apply zlD)|exact HB.out)⟩⟩
      ·rw [if_neg c11] at H
       have c11b0:decide (x27_2 < a2)=false:=decide_eq_false c11
       clear c11
       simp only [Option.some.injEq,Prod.mk.injEq] at H
       obtain ⟨rfl,rfl⟩:=H
       go_wp2
       go_ret2
       exact ⟨_,by first|rfl|(simp [errW_none,errW_some] <;> rfl)|(simp [*,errW_none,errW_some] <;> rfl),by (with_reducible repeat (first|apply zrA|apply zrN|apply zrD));exact HO_8.out,by repeat (first|(with_reducible first|exact HB.out|apply zlA|apply zlN|apply zlD)|exact HB.out)⟩
end Go.Proofs.Ytllodfjbenmlpaa.Print
end
section
namespace Go.Proofs.Ytllodfjbenmlpaa.Print
open Go.RowKit Go.Proofs.YtllodfjbenmlpaaW.PrintWords Go.Proofs.YtllodfjbenmlpaaW.PrintLast Go.Proofs.YtllodfjbenmlpaaW.PrintMore
attribute [local go_sem] max2_int min2_int max_two min_two max_three min_three max_four min_four   -- for this text's walks alone
attribute [local go_sem ↓] Go.Proofs.Ytllodfjbenmlpaa.Sem.isSome_setCell
attribute [local go_sem] Go.Instr.field Go.asAgg
set_option linter.unusedVariables false
set_option linter.unusedSimpArgs false
mutual
def slipwayref12_Minus.j0:Nat → List Int → List Int → Int → Bool → Option (List Int × Int)
 | 0,_,_,_,_=>none
 | k + 1,x0,x1,x2,x20=>if x20=true then (some (([]:List Int),120)) else ((slipwayref12_New.f k x2).bind fun bt320=>(slipwayref12_Minus.l0 k x0 x1 x2 bt320.1 0))
def slipwayref12_Minus.l0:Nat → List Int → List Int → Int → List Int → Int → Option (List Int × Int)
 | 0,_,_,_,_,_=>none
 | k + 1,x0,x1,x2,x8,x10=>if x10 < x2 then ((slipwayref12_bit.f x0 x10).bind fun t324=>(if t324=true then ((slipwayref12_bit.f x1 x10).bind fun t325=>(if t325=true then (slipwayref12_Minus.l0 k x0 x1 x2 x8 (wrap64 (x10 + 1))) else (if 0≤(wrap64 (Int.tdiv x10 8)) then (if (wrap64 (Int.tdiv x10 8)) < (x8.length:Int) then (if 0≤(IntKind.u64.wrap (Int.tmod x10 8)) then (slipwayref12_Minus.l0 k x0 x1 x2 (x8.set ((wrap64 (Int.tdiv x10 8)):Int).toNat (Go.bits .or .u8 (rd x8 (wrap64 (Int.tdiv x10 8))) (shl .u8 1 (IntKind.u64.wrap (Int.tmod x10 8))))) (wrap64 (x10 + 1))) else (none)) else (none)) else (none)))) else (slipwayref12_Minus.l0 k x0 x1 x2 x8 (wrap64 (x10 + 1))))) else (some (x8,0))
end
def slipwayref12_Minus.f (k:Nat) (l0:List Int) (l1:List Int) (a2:Int):Option (List Int × Int):=(slipwayref12_Check.f k l0 a2).bind fun t318=>(if t318=0 then ((slipwayref12_Check.f k l1 a2).bind fun t319=>(slipwayref12_Minus.j0 k l0 l1 a2 (t319 != 0))) else (slipwayref12_Minus.j0 k l0 l1 a2 true))
set_option maxHeartbeats 8000000 in
set_option maxRecDepth 100000 in
theorem slipwayref12_Minus.calls (k:Nat) (A0:Option Addr) (c0:Nat) (l0:List Int) (A1:Option Addr) (c1:Nat) (l1:List Int) (a2:Int) (r1:List Int) (r2:Int) (w:World) (hr0:Kd.C (Kd.int .u8) w A0 l0.length l0) (hc0:l0.length≤c0) (hr1:Kd.C (Kd.int .u8) w A1 l1.length l1) (hc1:l1.length≤c1) (h:slipwayref12_Minus.f k l0 l1 a2=some (r1,r2)) :
  Calls Try.prog 30 #[.slice A0 l0.length c0,.slice A1 l1.length c1,.int .i64 a2] w fun e w'=>∃ v0_:Value,e=.returned (.tuple #[v0_,.int .i64 r2])∧Kd.R (Kd.int .u8) 5 w' w.heap.size (fun _=>True) v0_ r1∧Below w.heap.size w w':=by
 have HR0:=zm hr0
 have HC0:=zm hc0
 clear hr0 hc0
 have HR1:=zm hr1
 have HC1:=zm hc1
 clear hr1 hc1
 have HB:=zm (Below.refl w.heap.size w)
 have H:((slipwayref12_Check.f k l0 a2).bind fun t318=>(if t318=0 then ((slipwayref12_Check.f k l1 a2).bind fun t319=>(slipwayref12_Minus.j0 k l0 l1 a2 (t319 != 0))) else (slipwayref12_Minus.j0 k l0 l1 a2 true)))=some (r1,r2):=h
 clear h
 have HC4:=zm H
 clear H
 go_enter Try.func30,Try.ntmps30
 go_upto_region 1 with (fail)
 go_cut [20] (fun v20 wc=>∃ (kq:Nat) (x20_3:Bool),v20=.bool x20_3∧Aside0 (slipwayref12_Minus.j0 kq l0 l1 a2 x20_3=some (r1,r2))∧Aside0 (kq≤k)∧Aside0 (Below w.heap.size w wc))
 case first =>
  have H:=HC4.out
  clear HC4
  replace H:=Option.bind_eq_some_iff.mp H
  obtain ⟨t318,A50,H⟩:=H
  replace H:(if t318=0 then ((slipwayref12_Check.f k l1 a2).bind fun t319=>(slipwayref12_Minus.j0 k l0 l1 a2 (t319 != 0))) else (slipwayref12_Minus.j0 k l0 l1 a2 true))=some (r1,r2):=H
  have A5:=zm A50
  clear A50
  by_cases c6:t318=0
  ·rw [if_pos c6] at H
   have c6b0:(t318 == 0)=true:=beq_iff_eq.mpr c6
   have c6b1:(t318 != 0)=false:=bne_eq_false_iff_eq.mpr c6
   clear c6
   (first|rw [c6b0]|(simp only [i64_w,i32_w];rw [c6b0])|skip)
   replace H:=Option.bind_eq_some_iff.mp H
   obtain ⟨t319,A70,H⟩:=H
   replace H:(slipwayref12_Minus.j0 k l0 l1 a2 (t319 != 0))=some (r1,r2):=H
   have A7:=zm A70
   clear A70
   have H':=zm H
   clear H
   go_wp2_with (first|((with_reducible refine gate_callee (f:=17) rfl ?_);refine goesL_ (some 13) rfl rfl Try.func17 (by kernel_rfl) rfl #[.slice A0 l0.length c0,.int .i64 a2] rfl (by (try simp only [List.map_toArray,List.map_cons,List.map_nil]);first|done|rfl|(simp only [List.length_drop,List.length_take];rfl)) ?_;(with_reducible refine (slipwayref12_Check.calls k _ _ l0 a2 t318 _ ?side1 ?side2 A5.out).mono ?_);(case side1=>repeat (first|exact (Kd.C_below HR0.out HB.out)|(with_reducible refine Kd.C_alloc ?_ _)|(with_reducible refine Kd.C_drewN ?_ _)|(with_reducible refine Kd.C_drew ?_)));(case side2=>exact HC0.out);rintro e w' ⟨rfl,⟨nd,rfl⟩⟩;refine ⟨_,rfl,?_⟩)|(go_at_call 17;(with_reducible refine (slipwayref12_Check.calls k _ _ l1 a2 t319 _ ?side1 ?side2 A7.out).mono ?_);(case side1=>repeat (first|exact (Kd.C_below HR1.out (by repeat (first|(with_reducible first|exact HB.out|apply zlA|apply zlN|apply zlD)|exact HB.out)))|(with_reducible refine Kd.C_alloc ?_ _)|(with_reducible refine Kd.C_drewN ?_ _)|(with_reducible refine Kd.C_drew ?_)));(case side2=>exact HC1.out);rintro e w' ⟨rfl,⟨nd,rfl⟩⟩))
   go_meet
   case rel=>exact ⟨_,((t319 != 0)),(by first|rfl|(simp;done)|(simp [*];done)),H',⟨by first|omega|exact Nat.le_refl _⟩,⟨by repeat (first|(with_reducible first|exact HB.out|apply zlA|apply zlN|apply zlD)|exact HB.out)⟩⟩
  ·rw [if_neg c6] at H
   have c6b0:(t318 == 0)=false:=beq_eq_false_iff_ne.mpr c6
   have c6b1:(t318 != 0)=true:=bne_iff_ne.mpr c6
   (first|rw [c6b0]|(simp only [i64_w,i32_w];rw [c6b0])|skip)
   have H':=zm H
   clear H
   go_wp2_with (first|((with_reducible refine gate_callee (f:=17) rfl ?_);refine goesL_ (some 13) rfl rfl Try.func17 (by kernel_rfl) rfl #[.slice A0 l0.length c0,.int .i64 a2] rfl (by (try simp only [List.map_toArray,List.map_cons,List.map_nil]);first|done|rfl|(simp only [List.length_drop,List.length_take];rfl)) ?_;(with_reducible refine (slipwayref12_Check.calls k _ _ l0 a2 t318 _ ?side1 ?side2 A5.out).mono ?_);(case side1=>repeat (first|exact (Kd.C_below HR0.out HB.out)|(with_reducible refine Kd.C_alloc ?_ _)|(with_reducible refine Kd.C_drewN ?_ _)|(with_reducible refine Kd.C_drew ?_)));(case side2=>exact HC0.out);rintro e w' ⟨rfl,⟨nd,rfl⟩⟩;refine ⟨_,rfl,?_⟩))
   go_meet
   case rel=>exact ⟨_,(true),(by first|rfl|(simp;done)|(simp [*];done)),H',⟨by first|omega|exact Nat.le_refl _⟩,⟨by repeat (first|(with_reducible first|exact HB.out|apply zlA|apply zlN|apply zlD)|exact HB.out)⟩⟩
 case rest =>
  clear HC4
  try clear c1
  try clear p2
  try clear c3
  try clear c6
  try clear c6b0
  try clear c6b1
  obtain ⟨kq,x20_3,rfl,HA,HJ3,HB⟩:=hcut
  cases kq with
  | zero=>exact absurd HA.out (by simp [slipwayref12_Minus.j0])
  | succ kj3 =>
   have H:=HA.out
   clear HA
   simp only [slipwayref12_Minus.j0] at H
   by_cases c8:x20_3=true
   ·subst c8
    have H1:(some (([]:List Int),120))=some (r1,r2):=by rw [if_pos rfl] at H;exact H
    clear H
    have H:=H1
    clear H1
    simp only [Option.some.injEq,Prod.mk.injEq] at H
    obtain ⟨rfl,rfl⟩:=H
    go_wp2
    go_ret2
    exact ⟨_,by first|rfl|(simp [errW_none,errW_some] <;> rfl)|(simp [*,errW_none,errW_some] <;> rfl),by first|exact Kd.R_nil _ _ _ _ _|exact Kd.N_nil _ _ _ _ _|exact Kd.V_nil _ _ _ _ _|exact Kd.Q_nil _ _ _ _ _|exact Kd.S_nil _ _ _ _ _,by repeat (first|(with_reducible first|exact HB.out|apply zlA|apply zlN|apply zlD)|exact HB.out)⟩
   ·replace c8:=Bool.eq_false_iff.mpr c8
    subst c8
    have H1:((slipwayref12_New.f kj3 a2).bind fun bt320=>(slipwayref12_Minus.l0 kj3 l0 l1 a2 bt320.1 0))=some (r1,r2):=by rw [if_neg (show ¬ (false=true) by decide)] at H;exact H
    clear H
    have H:=H1
    clear H1
    replace H:=Option.bind_eq_some_iff.mp H
    obtain ⟨⟨t320,t321⟩,A90,H⟩:=H
    replace H:(slipwayref12_Minus.l0 kj3 l0 l1 a2 t320 0)=some (r1,r2):=H
    have A9:=zm A90
    clear A90
    have H':=zm H
    clear H
    go_wp2_with (first|((with_reducible refine gate_callee (f:=15) rfl ?_);refine goesL_ (some 23) rfl rfl Try.func15 (by kernel_rfl) rfl #[.int .i64 a2] rfl (by (try simp only [List.map_toArray,List.map_cons,List.map_nil]);first|done|rfl|(simp only [List.length_drop,List.length_take];rfl)) ?_;(with_reducible refine (slipwayref12_New.calls kj3 a2 t320 t321 _ A9.out).mono ?_);rintro e w10 ⟨v322,rfl,ho0,hb⟩;refine ⟨_,rfl,?_⟩;have n0_:=zm (Kd.R_lower ho0 (below_size (by repeat (first|(with_reducible first|exact HB.out|apply zlA|apply zlN|apply zlD)|exact HB.out))));have n1_:=zm (below_step (by repeat (first|(with_reducible first|exact HB.out|apply zlA|apply zlN|apply zlD)|exact HB.out)) hb);clear HB;have HO323:=n0_;have HB:=n1_;clear n0_ n1_;(try clear hb);(try clear hb2);(try clear hk);(try clear hi);(try clear ho0)))
    go_loopg [10] kj3 (fun kq v10 w'=>∃ (x8_2:List Int) (x10_2:Int),v10=.int .i64 x10_2∧Aside0 (slipwayref12_Minus.l0 kq l0 l1 a2 x8_2 x10_2=some (r1,r2))∧Aside0 (kq≤kj3)∧Aside0 (Kd.R (Kd.int .u8) 5 w' w.heap.size (fun _=>True) v322 x8_2)∧Aside0 (Below w.heap.size w w'))
    case atStart=>exact ⟨(t320),(0),(by first|rfl|(simp;done)|(simp [*];done)),H',⟨Nat.le_refl _⟩,⟨by (with_reducible repeat (first|apply zrA|apply zrN|apply zrD));exact HO323.out⟩,⟨by repeat (first|(with_reducible first|exact HB.out|apply zlA|apply zlN|apply zlD)|exact HB.out)⟩⟩
    case round =>
     clear H'
     try clear c1
     try clear p2
     try clear c3
     try clear c6
     try clear c6b0
     try clear c6b1
     try clear c8
     try clear p2
     obtain ⟨x8_2,x10_2,rfl,HA,HK2,HO_8,HB⟩:=hrel
     cases gk with
     | zero=>exact absurd HA.out (by simp [slipwayref12_Minus.l0])
     | succ k2 =>
      have H:=HA.out
      clear HA
      simp only [slipwayref12_Minus.l0] at H
      by_cases c11:x10_2 < a2
      ·rw [if_pos c11] at H
       have c11b0:decide (x10_2 < a2)=true:=decide_eq_true c11
       clear c11
       replace H:=Option.bind_eq_some_iff.mp H
       obtain ⟨t324,A120,H⟩:=H
       replace H:(if t324=true then ((slipwayref12_bit.f l1 x10_2).bind fun t325=>(if t325=true then (slipwayref12_Minus.l0 k2 l0 l1 a2 x8_2 (wrap64 (x10_2 + 1))) else (if 0≤(wrap64 (Int.tdiv x10_2 8)) then (if (wrap64 (Int.tdiv x10_2 8)) < (x8_2.length:Int) then (if 0≤(IntKind.u64.wrap (Int.tmod x10_2 8)) then (slipwayref12_Minus.l0 k2 l0 l1 a2 (x8_2.set ((wrap64 (Int.tdiv x10_2 8)):Int).toNat (Go.bits .or .u8 (rd x8_2 (wrap64 (Int.tdiv x10_2 8))) (shl .u8 1 (IntKind.u64.wrap (Int.tmod x10_2 8))))) (wrap64 (x10_2 + 1))) else (none)) else (none)) else (none)))) else (slipwayref12_Minus.l0 k2 l0 l1 a2 x8_2 (wrap64 (x10_2 + 1))))=some (r1,r2):=H
       have A12:=zm A120
       clear A120
       by_cases c13:t324=true
       ·subst c13
        have H1:((slipwayref12_bit.f l1 x10_2).bind fun t325=>(if t325=true then (slipwayref12_Minus.l0 k2 l0 l1 a2 x8_2 (wrap64 (x10_2 + 1))) else (if 0≤(wrap64 (Int.tdiv x10_2 8)) then (if (wrap64 (Int.tdiv x10_2 8)) < (x8_2.length:Int) then (if 0≤(IntKind.u64.wrap (Int.tmod x10_2 8)) then (slipwayref12_Minus.l0 k2 l0 l1 a2 (x8_2.set ((wrap64 (Int.tdiv x10_2 8)):Int).toNat (Go.bits .or .u8 (rd x8_2 (wrap64 (Int.tdiv x10_2 8))) (shl .u8 1 (IntKind.u64.wrap (Int.tmod x10_2 8))))) (wrap64 (x10_2 + 1))) else (none)) else (none)) else (none))))=some (r1,r2):=by rw [if_pos rfl] at H;exact H
        clear H
        have H:=H1
        clear H1
        replace H:=Option.bind_eq_some_iff.mp H
        obtain ⟨t325,A140,H⟩:=H
        replace H:(if t325=true then (slipwayref12_Minus.l0 k2 l0 l1 a2 x8_2 (wrap64 (x10_2 + 1))) else (if 0≤(wrap64 (Int.tdiv x10_2 8)) then (if (wrap64 (Int.tdiv x10_2 8)) < (x8_2.length:Int) then (if 0≤(IntKind.u64.wrap (Int.tmod x10_2 8)) then (slipwayref12_Minus.l0 k2 l0 l1 a2 (x8_2.set ((wrap64 (Int.tdiv x10_2 8)):Int).toNat (Go.bits .or .u8 (rd x8_2 (wrap64 (Int.tdiv x10_2 8))) (shl .u8 1 (IntKind.u64.wrap (Int.tmod x10_2 8))))) (wrap64 (x10_2 + 1))) else (none)) else (none)) else (none)))=some (r1,r2):=H
        have A14:=zm A140
        clear A140
        by_cases c15:t325=true
        ·subst c15
         have H1:(slipwayref12_Minus.l0 k2 l0 l1 a2 x8_2 (wrap64 (x10_2 + 1)))=some (r1,r2):=by rw [if_pos rfl] at H;exact H
         clear H
         have H:=H1
         clear H1
         have H':=zm H
         clear H
         go_wp2_with (first|((with_reducible refine gate_callee (f:=39) rfl ?_);refine goesL_ (some 33) rfl rfl Try.func39 (by kernel_rfl) rfl #[.slice A0 l0.length c0,.int .i64 x10_2] rfl (by (try simp only [List.map_toArray,List.map_cons,List.map_nil]);first|done|rfl|(simp only [List.length_drop,List.length_take];rfl)) ?_;(with_reducible refine (slipwayref12_bit.calls _ _ l0 x10_2 true _ ?side1 ?side2 A12.out).mono ?_);(case side1=>repeat (first|exact (Kd.C_below HR0.out HB.out)|(with_reducible refine Kd.C_alloc ?_ _)|(with_reducible refine Kd.C_drewN ?_ _)|(with_reducible refine Kd.C_drew ?_)));(case side2=>exact HC0.out);rintro e w' ⟨rfl,⟨nd,rfl⟩⟩;refine ⟨_,rfl,?_⟩)|(go_at_call 39;(with_reducible refine (slipwayref12_bit.calls _ _ l1 x10_2 true _ ?side1 ?side2 A14.out).mono ?_);(case side1=>repeat (first|exact (Kd.C_below HR1.out (by repeat (first|(with_reducible first|exact HB.out|apply zlA|apply zlN|apply zlD)|exact HB.out)))|(with_reducible refine Kd.C_alloc ?_ _)|(with_reducible refine Kd.C_drewN ?_ _)|(with_reducible refine Kd.C_drew ?_)));(case side2=>exact HC1.out);rintro e w' ⟨rfl,⟨nd,rfl⟩⟩))
         go_roundg k2
         case measure=>have:=HJ3.out;have:=HK2.out;omega
         case rel=>exact ⟨(x8_2),(wrap64 (x10_2 + 1)),(by first|rfl|(simp;done)|(simp [*];done)),H',⟨by have:=HJ3.out;have:=HK2.out;omega⟩,⟨by (with_reducible repeat (first|apply zrA|apply zrN|apply zrD));exact HO_8.out⟩,⟨by repeat (first|(with_reducible first|exact HB.out|apply zlA|apply zlN|apply zlD)|exact HB.out)⟩⟩
        ·replace c15:=Bool.eq_false_iff.mpr c15
         subst c15
         have H1:(if 0≤(wrap64 (Int.tdiv x10_2 8)) then (if (wrap64 (Int.tdiv x10_2 8)) < (x8_2.length:Int) then (if 0≤(IntKind.u64.wrap (Int.tmod x10_2 8)) then (slipwayref12_Minus.l0 k2 l0 l1 a2 (x8_2.set ((wrap64 (Int.tdiv x10_2 8)):Int).toNat (Go.bits .or .u8 (rd x8_2 (wrap64 (Int.tdiv x10_2 8))) (shl .u8 1 (IntKind.u64.wrap (Int.tmod x10_2 8))))) (wrap64 (x10_2 + 1))) else (none)) else (none)) else (none))=some (r1,r2):=by rw [if_neg (show ¬ (false=true) by decide)] at H;exact H
         clear H
         have H:=H1
         clear H1
         obtain ⟨ji16,hji16⟩:∃ j_:Int,(wrap64 (Int.tdiv x10_2 8))=j_:=⟨_,rfl⟩
         replace H:(if 0≤(ji16) then (if (ji16) < (x8_2.length:Int) then (if 0≤(IntKind.u64.wrap (Int.tmod x10_2 8)) then (slipwayref12_Minus.l0 k2 l0 l1 a2 (x8_2.set ((ji16):Int).toNat (Go.bits .or .u8 (rd x8_2 (ji16)) (shl .u8 1 (IntKind.u64.wrap (Int.tmod x10_2 8))))) (wrap64 (x10_2 + 1))) else (none)) else (none)) else (none))=some (r1,r2):=by first|(rw [hji16] at H;exact H)|(simp only [hji16] at H ⊢;exact H)
         (try rw [hji16] at A12)
         (try rw [hji16] at A14)
         have hji16w:(IntKind.i64.wrap (Int.tdiv x10_2 8))=ji16:=(i64_w _).trans hji16
         by_cases c17:0≤(ji16)
         ·rw [if_pos c17] at H
          have c17b0:decide (0≤(ji16))=true:=decide_eq_true c17
          clear c17
          by_cases c18:(ji16) < (x8_2.length:Int)
          ·rw [if_pos c18] at H
           have c18b0:decide ((ji16) < (x8_2.length:Int))=true:=decide_eq_true c18
           clear c18
           obtain ⟨ji19,hji19⟩:∃ j_:Int,(IntKind.u64.wrap (Int.tmod x10_2 8))=j_:=⟨_,rfl⟩
           replace H:(if 0≤(ji19) then (slipwayref12_Minus.l0 k2 l0 l1 a2 (x8_2.set ((ji16):Int).toNat (Go.bits .or .u8 (rd x8_2 (ji16)) (shl .u8 1 (ji19)))) (wrap64 (x10_2 + 1))) else (none))=some (r1,r2):=by first|(rw [hji19] at H;exact H)|(simp only [hji19] at H ⊢;exact H)
           (try rw [hji19] at A12)
           (try rw [hji19] at A14)
           by_cases c20:0≤(ji19)
           ·rw [if_pos c20] at H
            have c20b0:=eq_true c20
            have c20b1:decide (0≤(ji19))=true:=decide_eq_true c20
            clear c20
            obtain ⟨ji21,hji21⟩:∃ j_:Int,(shl .u8 1 (ji19))=j_:=⟨_,rfl⟩
            replace H:(slipwayref12_Minus.l0 k2 l0 l1 a2 (x8_2.set ((ji16):Int).toNat (Go.bits .or .u8 (rd x8_2 (ji16)) (ji21))) (wrap64 (x10_2 + 1)))=some (r1,r2):=by first|(rw [hji21] at H;exact H)|(simp only [hji21] at H ⊢;exact H)
            (try rw [hji21] at A12)
            (try rw [hji21] at A14)
            have hji21_:(IntKind.u8.wrap (1 * 2 ^ min (ji19).toNat 8))=ji21:=hji21
            have hji21z:(ji19)≤8 → (IntKind.u8.wrap (1 * 2 ^ (ji19).toNat))=ji21:=shl_small hji21
            have hji21m:(1 * 2 ^ min (ji19).toNat 8) % 256=ji21:=(IntKind.wrap_u8 _).symm.trans hji21_
            have hji21n:(ji19)≤8 → (1 * 2 ^ (ji19).toNat) % 256=ji21:=fun hle_=>(IntKind.wrap_u8 _).symm.trans (hji21z hle_)
            have hji21u:(IntKind.u8.wrap (2 ^ min (ji19).toNat 8))=ji21:=by have h_:=hji21_;rw [Int.one_mul] at h_;exact h_
            have hji21v:(ji19)≤8 → (IntKind.u8.wrap (2 ^ (ji19).toNat))=ji21:=fun hle_=>by have h_:=hji21z hle_;rw [Int.one_mul] at h_;exact h_
            obtain ⟨y327,hy327⟩:∃ y_:List Int,y_=(x8_2.set ((ji16):Int).toNat (Go.bits .or .u8 (rd x8_2 (ji16)) (ji21))):=⟨_,rfl⟩
            replace H:(slipwayref12_Minus.l0 k2 l0 l1 a2 y327 (wrap64 (x10_2 + 1)))=some (r1,r2):=by first|(rw [hy327];with_reducible exact H)|(have H2_:=(Option.bind_some _ _).symm.trans H;rw [hy327];with_reducible exact H2_)|(have H2_:=(Option.bind_some _ _).symm.trans H;with_reducible exact H2_)|with_reducible exact H|(rw [hy327];exact H)|exact H
            have Ny327:=zm hy327
            clear hy327
            have H':=zm H
            clear H
            go_wp2_with (first|((with_reducible refine gate_callee (f:=39) rfl ?_);refine goesL_ (some 33) rfl rfl Try.func39 (by kernel_rfl) rfl #[.slice A0 l0.length c0,.int .i64 x10_2] rfl (by (try simp only [List.map_toArray,List.map_cons,List.map_nil]);first|done|rfl|(simp only [List.length_drop,List.length_take];rfl)) ?_;(with_reducible refine (slipwayref12_bit.calls _ _ l0 x10_2 true _ ?side1 ?side2 A12.out).mono ?_);(case side1=>repeat (first|exact (Kd.C_below HR0.out HB.out)|(with_reducible refine Kd.C_alloc ?_ _)|(with_reducible refine Kd.C_drewN ?_ _)|(with_reducible refine Kd.C_drew ?_)));(case side2=>exact HC0.out);rintro e w' ⟨rfl,⟨nd,rfl⟩⟩;refine ⟨_,rfl,?_⟩;(try (rw [drewN_self wr];generalize hq_:World.drewN wr _=wr;have n0_:Aside0 (Kd.R (Kd.int .u8) 5 wr w.heap.size (fun _=>True) v322 x8_2):=⟨by rw [← hq_];exact (by (with_reducible repeat (first|apply zrA|apply zrN|apply zrD));exact HO_8.out)⟩;have n1_:Aside0 (Below w.heap.size w wr):=⟨by rw [← hq_];exact (by repeat (first|(with_reducible first|exact HB.out|apply zlA|apply zlN|apply zlD)|exact HB.out))⟩;clear HO_8 HB hq_;have HO_8:=n0_;have HB:=n1_;clear n0_ n1_)))|(go_at_call 39;(with_reducible refine (slipwayref12_bit.calls _ _ l1 x10_2 false _ ?side1 ?side2 A14.out).mono ?_);(case side1=>repeat (first|exact (Kd.C_below HR1.out HB.out)|(with_reducible refine Kd.C_alloc ?_ _)|(with_reducible refine Kd.C_drewN ?_ _)|(with_reducible refine Kd.C_drew ?_)));(case side2=>exact HC1.out);rintro e w' ⟨rfl,⟨nd,rfl⟩⟩;(try (rw [drewN_self wr];generalize hq_:World.drewN wr _=wr;have n0_:Aside0 (Kd.R (Kd.int .u8) 5 wr w.heap.size (fun _=>True) v322 x8_2):=⟨by rw [← hq_];exact (by (with_reducible repeat (first|apply zrA|apply zrN|apply zrD));exact HO_8.out)⟩;have n1_:Aside0 (Below w.heap.size w wr):=⟨by rw [← hq_];exact (by repeat (first|(with_reducible first|exact HB.out|apply zlA|apply zlN|apply zlD)|exact HB.out))⟩;clear HO_8 HB hq_;have HO_8:=n0_;have HB:=n1_;clear n0_ n1_));obtain ⟨Ao23,co23,eo23⟩:=Kd.R_slice HO_8.out;subst eo23;have p326:0≤((ji16):Int):=of_decide_eq_true (by first|(with_reducible assumption)|assumption);have q326:(ji16) < (x8_2.length:Int):=of_decide_eq_true (by first|(with_reducible assumption)|assumption);obtain ⟨ad326,e326,hx326_0⟩:=Kd.at_int (Kd.R_reads' HO_8.out).2.2 (ji16) p326 q326;cases e326;replace p326:=eq_true p326;replace q326:=eq_true q326;have p22:0≤((ji16):Int):=of_decide_eq_true (by first|(with_reducible assumption)|assumption);have q22:((ji16):Int) < ((x8_2.length:Int):Int):=of_decide_eq_true (by first|(with_reducible assumption)|assumption);obtain ⟨go22,co22,eo22,gb22,gl22,cl22,HG22⟩:=Kd.R_form HO_8.out (by omega);(first|cases eo22|(injection eo22 with ea_ en_ ec_;(first|subst ea_|(injection ea_ with ea_;subst ea_));subst ec_;clear en_));have GB22:=zm gb22;have GG22:=zm HG22;clear gb22 gl22 HG22;(first|simp only [add_plain] at hx326_0|skip);obtain ⟨hx22_0,hf22_0⟩:=Kd.R_celln 0 HO_8.out ((ji16):Int) p22 q22;replace p22:=eq_true p22;replace q22:=eq_true q22;obtain ⟨hy24_,hz24_⟩:=Kd.R_celln 0 HO_8.out ((ji16):Int) (of_decide_eq_true (by first|(with_reducible assumption)|assumption)) (of_decide_eq_true (by first|(with_reducible assumption)|assumption));have HP24:=Kd.R_putg HO_8.out ((ji16):Int) (Go.bits .or .u8 (rd x8_2 (ji16)) (ji21)))|((with_reducible refine gate_store (t:=5) (p:=50) rfl ?_);refine store_event (t:=5) (p:=50) (v:=?vo_w25) (w1:=(wr.setCell ⟨go22,((ji16):Int).toNat,none⟩ (.int .u8 (Go.bits .or .u8 (rd x8_2 (ji16)) (ji21))))) ?hg ?ho ?hn ?hr ?_;(case ho=>rfl);(case hg=>rfl);(case hn=>rfl);(case hr=>first|(go_simp;done)|(go_simp;rfl));intro w25 hw;have hg:wr.grownBy w25 (some go22):=(by rw [hw];exact HP24.2);have hp_:Kd.R (Kd.int .u8) 5 w25 w.heap.size (fun _=>True) (.slice (some ⟨go22,0,none⟩) x8_2.length co23) y327:=(by rw [hw,Ny327.out];exact HP24.1);clear HP24;have n0_:=zm (hp_);have n1_:=zm ((by rw [hw];exact zlS (HB.out) GB22.out:Below w.heap.size w w25));clear HO_8 HB;have HO_8:=n0_;have HB:=n1_;clear n0_ n1_;clear hg hw hp_))
            go_roundg k2
            case measure=>have:=HJ3.out;have:=HK2.out;omega
            case rel=>exact ⟨(y327),(wrap64 (x10_2 + 1)),(by first|rfl|(simp;done)|(simp [*];done)),H',⟨by have:=HJ3.out;have:=HK2.out;omega⟩,⟨by (with_reducible repeat (first|apply zrA|apply zrN|apply zrD));exact HO_8.out⟩,⟨by repeat (first|(with_reducible first|exact HB.out|apply zlA|apply zlN|apply zlD)|exact HB.out)⟩⟩
           ·rw [if_neg c20] at H
            exact absurd H (by simp)
          ·rw [if_neg c18] at H
           exact absurd H (by simp)
         ·rw [if_neg c17] at H
          exact absurd H (by simp)
       ·replace c13:=Bool.eq_false_iff.mpr c13
        subst c13
        have H1:(slipwayref12_Minus.l0 k2 l0 l1 a2 x8_2 (wrap64 (x10_2 + 1)))=some (r1,r2):=by rw [if_neg (show ¬ (false=true) by decide)] at H;exact H
        clear H
        have H:=H1
        clear H1
        have H':=zm H
        clear H
        go_wp2_with (first|((with_reducible refine gate_callee (f:=39) rfl ?_);refine goesL_ (some 33) rfl rfl Try.func39 (by kernel_rfl) rfl #[.slice A0 l0.length c0,.int .i64 x10_2] rfl (by (try simp only [List.map_toArray,List.map_cons,List.map_nil]);first|done|rfl|(simp only [List.length_drop,List.length_take];rfl)) ?_;(with_reducible refine (slipwayref12_bit.calls _ _ l0 x10_2 false _ ?side1 ?side2 A12.out).mono ?_);(case side1=>repeat (first|exact (Kd.C_below HR0.out HB.out)|(with_reducible refine Kd.C_alloc ?_ _)|(with_reducible refine Kd.C_drewN ?_ _)|(with_reducible refine Kd.C_drew ?_)));(case side2=>exact HC0.out);rintro e w' ⟨rfl,⟨nd,rfl⟩⟩;refine ⟨_,rfl,?_⟩))
        go_roundg k2
        case measure=>have:=HJ3.out;have:=HK2.out;omega
        case rel=>exact ⟨(x8_2),(wrap64 (x10_2 + 1)),(by first|rfl|(simp;done)|(simp [*];done)),H',⟨by have:=HJ3.out;have:=HK2.out;omega⟩,⟨by (with_reducible repeat (first|apply zrA|apply zrN|apply zrD));exact HO_8.out⟩,⟨by repeat (first|(with_reducible first|exact HB.out|apply zlA|apply zlN|apply zlD)|exact HB.out)⟩⟩
      ·rw [if_neg c11] at H
       have c11b0:decide (x10_2 < a2)=false:=decide_eq_false c11
       clear c11
       simp only [Option.some.injEq,Prod.mk.injEq] at H
       obtain ⟨rfl,rfl⟩:=H
       go_wp2
       go_ret2
       exact ⟨_,by first|rfl|(simp [errW_none,errW_some] <;> rfl)|(simp [*,errW_none,errW_some] <;> rfl),by (with_reducible repeat (first|apply zrA|apply zrN|apply zrD));exact HO_8.out,by repeat (first|(with_reducible first|exact HB.out|apply zlA|apply zlN|apply zlD)|exact HB.out)⟩
end Go.Proofs.Ytllodfjbenmlpaa.Print
end
section
namespace Go.Proofs.Ytllodfjbenmlpaa.Print
open Go.RowKit Go.Proofs.YtllodfjbenmlpaaW.PrintWords Go.Proofs.YtllodfjbenmlpaaW.PrintLast Go.Proofs.YtllodfjbenmlpaaW.PrintMore
attribute [local go_sem] max2_int min2_int max_two min_two max_three min_three max_four min_four   -- for this text's walks alone
attribute [local go_sem ↓] Go.Proofs.Ytllodfjbenmlpaa.Sem.isSome_setCell
attribute [local go_sem] Go.Instr.field Go.asAgg
set_option linter.unusedVariables false
set_option linter.unusedSimpArgs false
mutual
def slipwaylaw12_BitmapTurns.j0:Nat → List Int → List Int → Int → Int → Int → List Int → Bool → Option (Bool)
 | 0,_,_,_,_,_,_,_=>none
 | k + 1,x0,x1,x2,x3,x4,x11,x46=>if x46=true then (none) else ((bitmap_Clear.f k x0 x2 x3 x4).bind fun bt341=>((slipwayref12_Clear.f k x0 x2 x3 x4).bind fun bt345=>((bytes_Equal.f bt341.1 bt345.1).bind fun t349=>(if t349=true then (slipwaylaw12_BitmapTurns.j1 k x0 x1 x2 x11 (bt341.2 != bt345.2)) else (slipwaylaw12_BitmapTurns.j1 k x0 x1 x2 x11 true)))))
def slipwaylaw12_BitmapTurns.j1:Nat → List Int → List Int → Int → List Int → Bool → Option (Bool)
 | 0,_,_,_,_,_=>none
 | k + 1,x0,x1,x2,x11,x71=>if x71=true then (none) else ((bitmap_Minus.f k x0 x1 x2).bind fun bt350=>((slipwayref12_Minus.f k x0 x1 x2).bind fun bt354=>((bytes_Equal.f bt350.1 bt354.1).bind fun t358=>(if t358=true then (if bt350.2=bt354.2 then ((bytes_Equal.f x0 x11).bind fun t359=>(some t359)) else (none)) else (none)))))
end
def slipwaylaw12_BitmapTurns.f (k:Nat) (l0:List Int) (l1:List Int) (a2:Int) (a3:Int) (a4:Int):Option (Bool):=(slices_Clone_byte_byte.f l0).bind fun t328=>((bitmap_Set.f k l0 a2 a3 a4).bind fun bt331=>((slipwayref12_Set.f k l0 a2 a3 a4).bind fun bt335=>((slipwaylaw12_begun.f k).bind fun t339=>(if t339=true then ((bytes_Equal.f bt331.1 bt335.1).bind fun t340=>(if t340=true then (slipwaylaw12_BitmapTurns.j0 k l0 l1 a2 a3 a4 t328 (bt331.2 != bt335.2)) else (slipwaylaw12_BitmapTurns.j0 k l0 l1 a2 a3 a4 t328 true))) else (slipwaylaw12_BitmapTurns.j0 k l0 l1 a2 a3 a4 t328 true)))))
set_option maxHeartbeats 8000000 in
set_option maxRecDepth 100000 in
theorem slipwaylaw12_BitmapTurns.calls (k:Nat) (A0:Option Addr) (c0:Nat) (l0:List Int) (A1:Option Addr) (c1:Nat) (l1:List Int) (a2:Int) (a3:Int) (a4:Int) (r:Bool) (w:World) (hr0:Kd.C (Kd.int .u8) w A0 l0.length l0) (hc0:l0.length≤c0) (hr1:Kd.C (Kd.int .u8) w A1 l1.length l1) (hc1:l1.length≤c1) (h:slipwaylaw12_BitmapTurns.f k l0 l1 a2 a3 a4=some r) :
  Calls Try.prog 7 #[.slice A0 l0.length c0,.slice A1 l1.length c1,.int .i64 a2,.int .i64 a3,.int .i64 a4] w fun e w'=>e=.returned (.bool r)∧Below w.heap.size w w':=by
 have HR0:=zm hr0
 have HC0:=zm hc0
 clear hr0 hc0
 have HR1:=zm hr1
 have HC1:=zm hc1
 clear hr1 hc1
 have HB:=zm (Below.refl w.heap.size w)
 have H:((slices_Clone_byte_byte.f l0).bind fun t328=>((bitmap_Set.f k l0 a2 a3 a4).bind fun bt331=>((slipwayref12_Set.f k l0 a2 a3 a4).bind fun bt335=>((slipwaylaw12_begun.f k).bind fun t339=>(if t339=true then ((bytes_Equal.f bt331.1 bt335.1).bind fun t340=>(if t340=true then (slipwaylaw12_BitmapTurns.j0 k l0 l1 a2 a3 a4 t328 (bt331.2 != bt335.2)) else (slipwaylaw12_BitmapTurns.j0 k l0 l1 a2 a3 a4 t328 true))) else (slipwaylaw12_BitmapTurns.j0 k l0 l1 a2 a3 a4 t328 true))))))=some r:=h
 clear h
 replace H:=Option.bind_eq_some_iff.mp H
 obtain ⟨t328,A60,H⟩:=H
 replace H:((bitmap_Set.f k l0 a2 a3 a4).bind fun bt331=>((slipwayref12_Set.f k l0 a2 a3 a4).bind fun bt335=>((slipwaylaw12_begun.f k).bind fun t339=>(if t339=true then ((bytes_Equal.f bt331.1 bt335.1).bind fun t340=>(if t340=true then (slipwaylaw12_BitmapTurns.j0 k l0 l1 a2 a3 a4 t328 (bt331.2 != bt335.2)) else (slipwaylaw12_BitmapTurns.j0 k l0 l1 a2 a3 a4 t328 true))) else (slipwaylaw12_BitmapTurns.j0 k l0 l1 a2 a3 a4 t328 true)))))=some r:=H
 have A6:=zm A60
 clear A60
 replace H:=Option.bind_eq_some_iff.mp H
 obtain ⟨⟨t331,t332⟩,A70,H⟩:=H
 replace H:((slipwayref12_Set.f k l0 a2 a3 a4).bind fun bt335=>((slipwaylaw12_begun.f k).bind fun t339=>(if t339=true then ((bytes_Equal.f t331 bt335.1).bind fun t340=>(if t340=true then (slipwaylaw12_BitmapTurns.j0 k l0 l1 a2 a3 a4 t328 (t332 != bt335.2)) else (slipwaylaw12_BitmapTurns.j0 k l0 l1 a2 a3 a4 t328 true))) else (slipwaylaw12_BitmapTurns.j0 k l0 l1 a2 a3 a4 t328 true))))=some r:=H
 have A7:=zm A70
 clear A70
 replace H:=Option.bind_eq_some_iff.mp H
 obtain ⟨⟨t335,t336⟩,A80,H⟩:=H
 replace H:((slipwaylaw12_begun.f k).bind fun t339=>(if t339=true then ((bytes_Equal.f t331 t335).bind fun t340=>(if t340=true then (slipwaylaw12_BitmapTurns.j0 k l0 l1 a2 a3 a4 t328 (t332 != t336)) else (slipwaylaw12_BitmapTurns.j0 k l0 l1 a2 a3 a4 t328 true))) else (slipwaylaw12_BitmapTurns.j0 k l0 l1 a2 a3 a4 t328 true)))=some r:=H
 have A8:=zm A80
 clear A80
 have HC9:=zm H
 clear H
 go_enter Try.func7,Try.ntmps7
 go_upto_region 4 with (first|((with_reducible refine gate_callee (f:=26) rfl ?_);refine goesL_ (some 17) rfl rfl Try.func26 (by kernel_rfl) rfl #[.slice A0 l0.length c0] rfl (by (try simp only [List.map_toArray,List.map_cons,List.map_nil]);first|done|rfl|(simp only [List.length_drop,List.length_take];rfl)) ?_;(with_reducible refine (slices_Clone_byte_byte.calls _ _ l0 t328 _ ?side1 ?side2 A6.out).mono ?_);(case side1=>repeat (first|exact HR0.out|(with_reducible refine Kd.C_alloc ?_ _)|(with_reducible refine Kd.C_drewN ?_ _)|(with_reducible refine Kd.C_drew ?_)));(case side2=>exact HC0.out);rintro e w10 ⟨v329,rfl,ho0,hb⟩;refine ⟨_,rfl,?_⟩;have n0_:=zm (Kd.R_lower ho0 (below_size (by repeat (first|(with_reducible first|exact HB.out|apply zlA|apply zlN|apply zlD)|exact HB.out))));have n1_:=zm (below_step (by repeat (first|(with_reducible first|exact HB.out|apply zlA|apply zlN|apply zlD)|exact HB.out)) hb);clear HB;have HO330:=n0_;have HB:=n1_;clear n0_ n1_;(try clear hb);(try clear hb2);(try clear hk);(try clear hi);(try clear ho0))|((with_reducible refine gate_callee (f:=11) rfl ?_);refine goesL_ (some 23) rfl rfl Try.func11 (by kernel_rfl) rfl #[.slice A0 l0.length c0,.int .i64 a2,.int .i64 a3,.int .i64 a4] rfl (by (try simp only [List.map_toArray,List.map_cons,List.map_nil]);first|done|rfl|(simp only [List.length_drop,List.length_take];rfl)) ?_;(with_reducible refine (bitmap_Set.calls k _ _ l0 a2 a3 a4 t331 t332 _ ?side1 ?side2 A7.out).mono ?_);(case side1=>repeat (first|exact (Kd.C_below HR0.out HB.out)|(with_reducible refine Kd.C_alloc ?_ _)|(with_reducible refine Kd.C_drewN ?_ _)|(with_reducible refine Kd.C_drew ?_)));(case side2=>exact HC0.out);rintro e w11 ⟨v333,rfl,ho0,hb⟩;refine ⟨_,rfl,?_⟩;have n0_:=zm (Kd.R_elder' (by (with_reducible repeat (first|apply zrA|apply zrN|apply zrD));exact HO330.out) (Kd.R_base ho0) hb);have n1_:=zm (Kd.R_lower (Kd.R_new' ho0 (Kd.R_lt (by (with_reducible repeat (first|apply zrA|apply zrN|apply zrD));exact HO330.out))) (below_size (by repeat (first|(with_reducible first|exact HB.out|apply zlA|apply zlN|apply zlD)|exact HB.out))));have n2_:=zm (below_step (by repeat (first|(with_reducible first|exact HB.out|apply zlA|apply zlN|apply zlD)|exact HB.out)) hb);clear HO330 HB;have HO330:=n0_;have HO334:=n1_;have HB:=n2_;clear n0_ n1_ n2_;(try clear hb);(try clear hb2);(try clear hk);(try clear hi);(try clear ho0))|((with_reducible refine gate_callee (f:=27) rfl ?_);refine goesL_ (some 31) rfl rfl Try.func27 (by kernel_rfl) rfl #[.slice A0 l0.length c0,.int .i64 a2,.int .i64 a3,.int .i64 a4] rfl (by (try simp only [List.map_toArray,List.map_cons,List.map_nil]);first|done|rfl|(simp only [List.length_drop,List.length_take];rfl)) ?_;(with_reducible refine (slipwayref12_Set.calls k _ _ l0 a2 a3 a4 t335 t336 _ ?side1 ?side2 A8.out).mono ?_);(case side1=>repeat (first|exact (Kd.C_below HR0.out HB.out)|(with_reducible refine Kd.C_alloc ?_ _)|(with_reducible refine Kd.C_drewN ?_ _)|(with_reducible refine Kd.C_drew ?_)));(case side2=>exact HC0.out);rintro e w12 ⟨v337,rfl,ho0,hb⟩;refine ⟨_,rfl,?_⟩;have n0_:=zm (Kd.R_elder' (by (with_reducible repeat (first|apply zrA|apply zrN|apply zrD));exact HO330.out) (Kd.R_base ho0) hb);have n1_:=zm (Kd.R_elder' (by (with_reducible repeat (first|apply zrA|apply zrN|apply zrD));exact HO334.out) (Kd.R_base ho0) hb);have n2_:=zm (Kd.R_lower (Kd.R_new' (Kd.R_new' ho0 (Kd.R_lt (by (with_reducible repeat (first|apply zrA|apply zrN|apply zrD));exact HO330.out))) (Kd.R_lt (by (with_reducible repeat (first|apply zrA|apply zrN|apply zrD));exact HO334.out))) (below_size (by repeat (first|(with_reducible first|exact HB.out|apply zlA|apply zlN|apply zlD)|exact HB.out))));have n3_:=zm (below_step (by repeat (first|(with_reducible first|exact HB.out|apply zlA|apply zlN|apply zlD)|exact HB.out)) hb);clear HO330 HO334 HB;have HO330:=n0_;have HO334:=n1_;have HO338:=n2_;have HB:=n3_;clear n0_ n1_ n2_ n3_;(try clear hb);(try clear hb2);(try clear hk);(try clear hi);(try clear ho0)))
 (try simp only [Act.put,List.setIfInBounds_toArray,List.set_cons_zero,List.set_cons_succ])
 go_cut [46] (fun v46 wc=>∃ (kq:Nat) (x46_8:Bool),v46=.bool x46_8∧Aside0 (slipwaylaw12_BitmapTurns.j0 kq l0 l1 a2 a3 a4 t328 x46_8=some r)∧Aside0 (kq≤k)∧Aside0 (Kd.R (Kd.int .u8) 5 wc w.heap.size (fun _=>True) v329 t328)∧Aside0 (Below w.heap.size w wc))
 case first =>
  have H:=HC9.out
  clear HC9
  replace H:=Option.bind_eq_some_iff.mp H
  obtain ⟨t339,A130,H⟩:=H
  replace H:(if t339=true then ((bytes_Equal.f t331 t335).bind fun t340=>(if t340=true then (slipwaylaw12_BitmapTurns.j0 k l0 l1 a2 a3 a4 t328 (t332 != t336)) else (slipwaylaw12_BitmapTurns.j0 k l0 l1 a2 a3 a4 t328 true))) else (slipwaylaw12_BitmapTurns.j0 k l0 l1 a2 a3 a4 t328 true))=some r:=H
  have A13:=zm A130
  clear A130
  by_cases c14:t339=true
  ·subst c14
   have H1:((bytes_Equal.f t331 t335).bind fun t340=>(if t340=true then (slipwaylaw12_BitmapTurns.j0 k l0 l1 a2 a3 a4 t328 (t332 != t336)) else (slipwaylaw12_BitmapTurns.j0 k l0 l1 a2 a3 a4 t328 true)))=some r:=by rw [if_pos rfl] at H;exact H
   clear H
   have H:=H1
   clear H1
   replace H:=Option.bind_eq_some_iff.mp H
   obtain ⟨t340,A150,H⟩:=H
   replace H:(if t340=true then (slipwaylaw12_BitmapTurns.j0 k l0 l1 a2 a3 a4 t328 (t332 != t336)) else (slipwaylaw12_BitmapTurns.j0 k l0 l1 a2 a3 a4 t328 true))=some r:=H
   have A15:=zm A150
   clear A150
   by_cases c16:t340=true
   ·subst c16
    have H1:(slipwaylaw12_BitmapTurns.j0 k l0 l1 a2 a3 a4 t328 (t332 != t336))=some r:=by rw [if_pos rfl] at H;exact H
    clear H
    have H:=H1
    clear H1
    have H':=zm H
    clear H
    go_wp2_with (first|((with_reducible refine gate_callee (f:=8) rfl ?_);refine goesL_ (some 34) rfl rfl Try.func8 (by kernel_rfl) rfl #[] rfl (by (try simp only [List.map_toArray,List.map_cons,List.map_nil]);first|done|rfl|(simp only [List.length_drop,List.length_take];rfl)) ?_;(with_reducible refine (slipwaylaw12_begun.calls k  true _ A13.out).mono ?_);rintro e w17 ⟨rfl,hb⟩;refine ⟨_,rfl,?_⟩;have n0_:=zm (Kd.R_below (by (with_reducible repeat (first|apply zrA|apply zrN|apply zrD));exact HO330.out) hb);have n1_:=zm (Kd.R_below (by (with_reducible repeat (first|apply zrA|apply zrN|apply zrD));exact HO334.out) hb);have n2_:=zm (Kd.R_below (by (with_reducible repeat (first|apply zrA|apply zrN|apply zrD));exact HO338.out) hb);have n3_:=zm (below_step (by repeat (first|(with_reducible first|exact HB.out|apply zlA|apply zlN|apply zlD)|exact HB.out)) hb);clear HO330 HO334 HO338 HB;have HO330:=n0_;have HO334:=n1_;have HO338:=n2_;have HB:=n3_;clear n0_ n1_ n2_ n3_;(try clear hb);(try clear hb2);(try clear hk);(try clear hi);obtain ⟨Ao18,co18,eo18⟩:=Kd.R_slice HO334.out;subst eo18;obtain ⟨Ao19,co19,eo19⟩:=Kd.R_slice HO338.out;subst eo19)|(go_at_call 16;(with_reducible refine (bytes_Equal.calls _ _ t331 _ _ t335 true _ ?side1 ?side2 ?side3 ?side4 A15.out).mono ?_);(case side1=>repeat (first|exact (Kd.R_reads' HO334.out).2.2|(with_reducible refine Kd.C_alloc ?_ _)|(with_reducible refine Kd.C_drewN ?_ _)|(with_reducible refine Kd.C_drew ?_)));(case side2=>exact (Kd.R_reads' HO334.out).2.1);(case side3=>repeat (first|exact (Kd.R_reads' HO338.out).2.2|(with_reducible refine Kd.C_alloc ?_ _)|(with_reducible refine Kd.C_drewN ?_ _)|(with_reducible refine Kd.C_drew ?_)));(case side4=>exact (Kd.R_reads' HO338.out).2.1);rintro e w' ⟨rfl,⟨nd,rfl⟩⟩))
    go_meet
    case rel=>exact ⟨_,((t332 != t336)),(by first|rfl|(simp;done)|(simp [*];done)),H',⟨by first|omega|exact Nat.le_refl _⟩,⟨by (with_reducible repeat (first|apply zrA|apply zrN|apply zrD));exact Kd.R_mono HO330.out (fun _ hk=>trivial)⟩,⟨by repeat (first|(with_reducible first|exact HB.out|apply zlA|apply zlN|apply zlD)|exact HB.out)⟩⟩
   ·replace c16:=Bool.eq_false_iff.mpr c16
    subst c16
    have H1:(slipwaylaw12_BitmapTurns.j0 k l0 l1 a2 a3 a4 t328 true)=some r:=by rw [if_neg (show ¬ (false=true) by decide)] at H;exact H
    clear H
    have H:=H1
    clear H1
    have H':=zm H
    clear H
    go_wp2_with (first|((with_reducible refine gate_callee (f:=8) rfl ?_);refine goesL_ (some 34) rfl rfl Try.func8 (by kernel_rfl) rfl #[] rfl (by (try simp only [List.map_toArray,List.map_cons,List.map_nil]);first|done|rfl|(simp only [List.length_drop,List.length_take];rfl)) ?_;(with_reducible refine (slipwaylaw12_begun.calls k  true _ A13.out).mono ?_);rintro e w20 ⟨rfl,hb⟩;refine ⟨_,rfl,?_⟩;have n0_:=zm (Kd.R_below (by (with_reducible repeat (first|apply zrA|apply zrN|apply zrD));exact HO330.out) hb);have n1_:=zm (Kd.R_below (by (with_reducible repeat (first|apply zrA|apply zrN|apply zrD));exact HO334.out) hb);have n2_:=zm (Kd.R_below (by (with_reducible repeat (first|apply zrA|apply zrN|apply zrD));exact HO338.out) hb);have n3_:=zm (below_step (by repeat (first|(with_reducible first|exact HB.out|apply zlA|apply zlN|apply zlD)|exact HB.out)) hb);clear HO330 HO334 HO338 HB;have HO330:=n0_;have HO334:=n1_;have HO338:=n2_;have HB:=n3_;clear n0_ n1_ n2_ n3_;(try clear hb);(try clear hb2);(try clear hk);(try clear hi);obtain ⟨Ao21,co21,eo21⟩:=Kd.R_slice HO334.out;subst eo21;obtain ⟨Ao22,co22,eo22⟩:=Kd.R_slice HO338.out;subst eo22)|(go_at_call 16;(with_reducible refine (bytes_Equal.calls _ _ t331 _ _ t335 false _ ?side1 ?side2 ?side3 ?side4 A15.out).mono ?_);(case side1=>repeat (first|exact (Kd.R_reads' HO334.out).2.2|(with_reducible refine Kd.C_alloc ?_ _)|(with_reducible refine Kd.C_drewN ?_ _)|(with_reducible refine Kd.C_drew ?_)));(case side2=>exact (Kd.R_reads' HO334.out).2.1);(case side3=>repeat (first|exact (Kd.R_reads' HO338.out).2.2|(with_reducible refine Kd.C_alloc ?_ _)|(with_reducible refine Kd.C_drewN ?_ _)|(with_reducible refine Kd.C_drew ?_)));(case side4=>exact (Kd.R_reads' HO338.out).2.1);rintro e w' ⟨rfl,⟨nd,rfl⟩⟩))
    go_meet
    case rel=>exact ⟨_,(true),(by first|rfl|(simp;done)|(simp [*];done)),H',⟨by first|omega|exact Nat.le_refl _⟩,⟨by (with_reducible repeat (first|apply zrA|apply zrN|apply zrD));exact Kd.R_mono HO330.out (fun _ hk=>trivial)⟩,⟨by repeat (first|(with_reducible first|exact HB.out|apply zlA|apply zlN|apply zlD)|exact HB.out)⟩⟩
  ·replace c14:=Bool.eq_false_iff.mpr c14
   subst c14
   have H1:(slipwaylaw12_BitmapTurns.j0 k l0 l1 a2 a3 a4 t328 true)=some r:=by rw [if_neg (show ¬ (false=true) by decide)] at H;exact H
   clear H
   have H:=H1
   clear H1
   have H':=zm H
   clear H
   go_wp2_with (first|((with_reducible refine gate_callee (f:=8) rfl ?_);refine goesL_ (some 34) rfl rfl Try.func8 (by kernel_rfl) rfl #[] rfl (by (try simp only [List.map_toArray,List.map_cons,List.map_nil]);first|done|rfl|(simp only [List.length_drop,List.length_take];rfl)) ?_;(with_reducible refine (slipwaylaw12_begun.calls k  false _ A13.out).mono ?_);rintro e w23 ⟨rfl,hb⟩;refine ⟨_,rfl,?_⟩;have n0_:=zm (Kd.R_below (by (with_reducible repeat (first|apply zrA|apply zrN|apply zrD));exact HO330.out) hb);have n1_:=zm (Kd.R_below (by (with_reducible repeat (first|apply zrA|apply zrN|apply zrD));exact HO334.out) hb);have n2_:=zm (Kd.R_below (by (with_reducible repeat (first|apply zrA|apply zrN|apply zrD));exact HO338.out) hb);have n3_:=zm (below_step (by repeat (first|(with_reducible first|exact HB.out|apply zlA|apply zlN|apply zlD)|exact HB.out)) hb);clear HO330 HO334 HO338 HB;have HO330:=n0_;have HO334:=n1_;have HO338:=n2_;have HB:=n3_;clear n0_ n1_ n2_ n3_;(try clear hb);(try clear hb2);(try clear hk);(try clear hi)))
   go_meet
   case rel=>exact ⟨_,(true),(by first|rfl|(simp;done)|(simp [*];done)),H',⟨by first|omega|exact Nat.le_refl _⟩,⟨by (with_reducible repeat (first|apply zrA|apply zrN|apply zrD));exact Kd.R_mono HO330.out (fun _ hk=>trivial)⟩,⟨by repeat (first|(with_reducible first|exact HB.out|apply zlA|apply zlN|apply zlD)|exact HB.out)⟩⟩
 case rest =>
  clear HC9
  try clear c1
  try clear c2
  try clear p2
  try clear c7
  try clear c8
  try clear c11
  try clear c14
  try clear c16
  obtain ⟨kq,x46_8,rfl,HA,HJ8,HO_11,HB⟩:=hcut
  cases kq with
  | zero=>exact absurd HA.out (by simp [slipwaylaw12_BitmapTurns.j0])
  | succ kj8 =>
   have H:=HA.out
   clear HA
   simp only [slipwaylaw12_BitmapTurns.j0] at H
   by_cases c24:x46_8=true
   ·subst c24
    have H1:(none)=some r:=by rw [if_pos rfl] at H;exact H
    clear H
    have H:=H1
    clear H1
    exact absurd H (by simp)
   ·replace c24:=Bool.eq_false_iff.mpr c24
    subst c24
    have H1:((bitmap_Clear.f kj8 l0 a2 a3 a4).bind fun bt341=>((slipwayref12_Clear.f kj8 l0 a2 a3 a4).bind fun bt345=>((bytes_Equal.f bt341.1 bt345.1).bind fun t349=>(if t349=true then (slipwaylaw12_BitmapTurns.j1 kj8 l0 l1 a2 t328 (bt341.2 != bt345.2)) else (slipwaylaw12_BitmapTurns.j1 kj8 l0 l1 a2 t328 true)))))=some r:=by rw [if_neg (show ¬ (false=true) by decide)] at H;exact H
    clear H
    have H:=H1
    clear H1
    replace H:=Option.bind_eq_some_iff.mp H
    obtain ⟨⟨t341,t342⟩,A250,H⟩:=H
    replace H:((slipwayref12_Clear.f kj8 l0 a2 a3 a4).bind fun bt345=>((bytes_Equal.f t341 bt345.1).bind fun t349=>(if t349=true then (slipwaylaw12_BitmapTurns.j1 kj8 l0 l1 a2 t328 (t342 != bt345.2)) else (slipwaylaw12_BitmapTurns.j1 kj8 l0 l1 a2 t328 true))))=some r:=H
    have A25:=zm A250
    clear A250
    replace H:=Option.bind_eq_some_iff.mp H
    obtain ⟨⟨t345,t346⟩,A260,H⟩:=H
    replace H:((bytes_Equal.f t341 t345).bind fun t349=>(if t349=true then (slipwaylaw12_BitmapTurns.j1 kj8 l0 l1 a2 t328 (t342 != t346)) else (slipwaylaw12_BitmapTurns.j1 kj8 l0 l1 a2 t328 true)))=some r:=H
    have A26:=zm A260
    clear A260
    have HC27:=zm H
    clear H
    go_upto_region 8 with (first|((with_reducible refine gate_callee (f:=20) rfl ?_);refine goesL_ (some 52) rfl rfl Try.func20 (by kernel_rfl) rfl #[.slice A0 l0.length c0,.int .i64 a2,.int .i64 a3,.int .i64 a4] rfl (by (try simp only [List.map_toArray,List.map_cons,List.map_nil]);first|done|rfl|(simp only [List.length_drop,List.length_take];rfl)) ?_;(with_reducible refine (bitmap_Clear.calls kj8 _ _ l0 a2 a3 a4 t341 t342 _ ?side1 ?side2 A25.out).mono ?_);(case side1=>repeat (first|exact (Kd.C_below HR0.out HB.out)|(with_reducible refine Kd.C_alloc ?_ _)|(with_reducible refine Kd.C_drewN ?_ _)|(with_reducible refine Kd.C_drew ?_)));(case side2=>exact HC0.out);rintro e w28 ⟨v343,rfl,ho0,hb⟩;refine ⟨_,rfl,?_⟩;have n0_:=zm (Kd.R_elder' (by (with_reducible repeat (first|apply zrA|apply zrN|apply zrD));exact HO_11.out) (Kd.R_base ho0) hb);have n1_:=zm (Kd.R_lower (Kd.R_new' ho0 (Kd.R_lt (by (with_reducible repeat (first|apply zrA|apply zrN|apply zrD));exact HO_11.out))) (below_size (by repeat (first|(with_reducible first|exact HB.out|apply zlA|apply zlN|apply zlD)|exact HB.out))));have n2_:=zm (below_step (by repeat (first|(with_reducible first|exact HB.out|apply zlA|apply zlN|apply zlD)|exact HB.out)) hb);clear HO_11 HB;have HO_11:=n0_;have HO344:=n1_;have HB:=n2_;clear n0_ n1_ n2_;(try clear hb);(try clear hb2);(try clear hk);(try clear hi);(try clear ho0))|((with_reducible refine gate_callee (f:=28) rfl ?_);refine goesL_ (some 60) rfl rfl Try.func28 (by kernel_rfl) rfl #[.slice A0 l0.length c0,.int .i64 a2,.int .i64 a3,.int .i64 a4] rfl (by (try simp only [List.map_toArray,List.map_cons,List.map_nil]);first|done|rfl|(simp only [List.length_drop,List.length_take];rfl)) ?_;(with_reducible refine (slipwayref12_Clear.calls kj8 _ _ l0 a2 a3 a4 t345 t346 _ ?side1 ?side2 A26.out).mono ?_);(case side1=>repeat (first|exact (Kd.C_below HR0.out HB.out)|(with_reducible refine Kd.C_alloc ?_ _)|(with_reducible refine Kd.C_drewN ?_ _)|(with_reducible refine Kd.C_drew ?_)));(case side2=>exact HC0.out);rintro e w29 ⟨v347,rfl,ho0,hb⟩;refine ⟨_,rfl,?_⟩;have n0_:=zm (Kd.R_elder' (by (with_reducible repeat (first|apply zrA|apply zrN|apply zrD));exact HO_11.out) (Kd.R_base ho0) hb);have n1_:=zm (Kd.R_elder' (by (with_reducible repeat (first|apply zrA|apply zrN|apply zrD));exact HO344.out) (Kd.R_base ho0) hb);have n2_:=zm (Kd.R_lower (Kd.R_new' (Kd.R_new' ho0 (Kd.R_lt (by (with_reducible repeat (first|apply zrA|apply zrN|apply zrD));exact HO_11.out))) (Kd.R_lt (by (with_reducible repeat (first|apply zrA|apply zrN|apply zrD));exact HO344.out))) (below_size (by repeat (first|(with_reducible first|exact HB.out|apply zlA|apply zlN|apply zlD)|exact HB.out))));have n3_:=zm (below_step (by repeat (first|(with_reducible first|exact HB.out|apply zlA|apply zlN|apply zlD)|exact HB.out)) hb);clear HO_11 HO344 HB;have HO_11:=n0_;have HO344:=n1_;have HO348:=n2_;have HB:=n3_;clear n0_ n1_ n2_ n3_;(try clear hb);(try clear hb2);(try clear hk);(try clear hi);(try clear ho0)))
    (try simp only [Act.put,List.setIfInBounds_toArray,List.set_cons_zero,List.set_cons_succ])
    go_cut [71] (fun v71 wc=>∃ (kq:Nat) (x71_26:Bool),v71=.bool x71_26∧Aside0 (slipwaylaw12_BitmapTurns.j1 kq l0 l1 a2 t328 x71_26=some r)∧Aside0 (kq≤kj8)∧Aside0 (Kd.R (Kd.int .u8) 5 wc w.heap.size (fun _=>True) v329 t328)∧Aside0 (Below w.heap.size w wc))
    case first =>
     have H:=HC27.out
     clear HC27
     replace H:=Option.bind_eq_some_iff.mp H
     obtain ⟨t349,A300,H⟩:=H
     replace H:(if t349=true then (slipwaylaw12_BitmapTurns.j1 kj8 l0 l1 a2 t328 (t342 != t346)) else (slipwaylaw12_BitmapTurns.j1 kj8 l0 l1 a2 t328 true))=some r:=H
     have A30:=zm A300
     clear A300
     by_cases c31:t349=true
     ·subst c31
      have H1:(slipwaylaw12_BitmapTurns.j1 kj8 l0 l1 a2 t328 (t342 != t346))=some r:=by rw [if_pos rfl] at H;exact H
      clear H
      have H:=H1
      clear H1
      have H':=zm H
      clear H
      obtain ⟨Ao32,co32,eo32⟩:=Kd.R_slice HO344.out
      subst eo32
      obtain ⟨Ao33,co33,eo33⟩:=Kd.R_slice HO348.out
      subst eo33
      go_wp2_with (first|((with_reducible refine gate_callee (f:=16) rfl ?_);refine goesL_ (some 65) rfl rfl Try.func16 (by kernel_rfl) rfl #[.slice Ao32 t341.length co32,.slice Ao33 t345.length co33] rfl (by (try simp only [List.map_toArray,List.map_cons,List.map_nil]);first|done|rfl|(simp only [List.length_drop,List.length_take];rfl)) ?_;(with_reducible refine (bytes_Equal.calls _ _ t341 _ _ t345 true _ ?side1 ?side2 ?side3 ?side4 A30.out).mono ?_);(case side1=>repeat (first|exact (Kd.R_reads' HO344.out).2.2|(with_reducible refine Kd.C_alloc ?_ _)|(with_reducible refine Kd.C_drewN ?_ _)|(with_reducible refine Kd.C_drew ?_)));(case side2=>exact (Kd.R_reads' HO344.out).2.1);(case side3=>repeat (first|exact (Kd.R_reads' HO348.out).2.2|(with_reducible refine Kd.C_alloc ?_ _)|(with_reducible refine Kd.C_drewN ?_ _)|(with_reducible refine Kd.C_drew ?_)));(case side4=>exact (Kd.R_reads' HO348.out).2.1);rintro e w' ⟨rfl,⟨nd,rfl⟩⟩;refine ⟨_,rfl,?_⟩))
      go_meet
      case rel=>exact ⟨_,((t342 != t346)),(by first|rfl|(simp;done)|(simp [*];done)),H',⟨by have:=HJ8.out;first|omega|exact Nat.le_refl _⟩,⟨by (with_reducible repeat (first|apply zrA|apply zrN|apply zrD));exact Kd.R_mono HO_11.out (fun _ hk=>trivial)⟩,⟨by repeat (first|(with_reducible first|exact HB.out|apply zlA|apply zlN|apply zlD)|exact HB.out)⟩⟩
     ·replace c31:=Bool.eq_false_iff.mpr c31
      subst c31
      have H1:(slipwaylaw12_BitmapTurns.j1 kj8 l0 l1 a2 t328 true)=some r:=by rw [if_neg (show ¬ (false=true) by decide)] at H;exact H
      clear H
      have H:=H1
      clear H1
      have H':=zm H
      clear H
      obtain ⟨Ao34,co34,eo34⟩:=Kd.R_slice HO344.out
      subst eo34
      obtain ⟨Ao35,co35,eo35⟩:=Kd.R_slice HO348.out
      subst eo35
      go_wp2_with (first|((with_reducible refine gate_callee (f:=16) rfl ?_);refine goesL_ (some 65) rfl rfl Try.func16 (by kernel_rfl) rfl #[.slice Ao34 t341.length co34,.slice Ao35 t345.length co35] rfl (by (try simp only [List.map_toArray,List.map_cons,List.map_nil]);first|done|rfl|(simp only [List.length_drop,List.length_take];rfl)) ?_;(with_reducible refine (bytes_Equal.calls _ _ t341 _ _ t345 false _ ?side1 ?side2 ?side3 ?side4 A30.out).mono ?_);(case side1=>repeat (first|exact (Kd.R_reads' HO344.out).2.2|(with_reducible refine Kd.C_alloc ?_ _)|(with_reducible refine Kd.C_drewN ?_ _)|(with_reducible refine Kd.C_drew ?_)));(case side2=>exact (Kd.R_reads' HO344.out).2.1);(case side3=>repeat (first|exact (Kd.R_reads' HO348.out).2.2|(with_reducible refine Kd.C_alloc ?_ _)|(with_reducible refine Kd.C_drewN ?_ _)|(with_reducible refine Kd.C_drew ?_)));(case side4=>exact (Kd.R_reads' HO348.out).2.1);rintro e w' ⟨rfl,⟨nd,rfl⟩⟩;refine ⟨_,rfl,?_⟩))
      go_meet
      case rel=>exact ⟨_,(true),(by first|rfl|(simp;done)|(simp [*];done)),H',⟨by have:=HJ8.out;first|omega|exact Nat.le_refl _⟩,⟨by (with_reducible repeat (first|apply zrA|apply zrN|apply zrD));exact Kd.R_mono HO_11.out (fun _ hk=>trivial)⟩,⟨by repeat (first|(with_reducible first|exact HB.out|apply zlA|apply zlN|apply zlD)|exact HB.out)⟩⟩
    case rest =>
     clear HC27
     try clear c1
     try clear c2
     try clear p2
     try clear c3
     try clear c7
     try clear c8
     try clear c11
     try clear c14
     try clear c16
     try clear c20
     try clear c24
     try clear c26
     try clear c27
     try clear c28
     try clear c31
     try clear p2
     obtain ⟨kq,x71_26,rfl,HA,HJ26,HO_11,HB⟩:=hcut
     cases kq with
     | zero=>exact absurd HA.out (by simp [slipwaylaw12_BitmapTurns.j1])
     | succ kj26 =>
      have H:=HA.out
      clear HA
      simp only [slipwaylaw12_BitmapTurns.j1] at H
      by_cases c36:x71_26=true
      ·subst c36
       have H1:(none)=some r:=by rw [if_pos rfl] at H;exact H
       clear H
       have H:=H1
       clear H1
       exact absurd H (by simp)
      ·replace c36:=Bool.eq_false_iff.mpr c36
       subst c36
       have H1:((bitmap_Minus.f kj26 l0 l1 a2).bind fun bt350=>((slipwayref12_Minus.f kj26 l0 l1 a2).bind fun bt354=>((bytes_Equal.f bt350.1 bt354.1).bind fun t358=>(if t358=true then (if bt350.2=bt354.2 then ((bytes_Equal.f l0 t328).bind fun t359=>(some t359)) else (none)) else (none)))))=some r:=by rw [if_neg (show ¬ (false=true) by decide)] at H;exact H
       clear H
       have H:=H1
       clear H1
       replace H:=Option.bind_eq_some_iff.mp H
       obtain ⟨⟨t350,t351⟩,A370,H⟩:=H
       replace H:((slipwayref12_Minus.f kj26 l0 l1 a2).bind fun bt354=>((bytes_Equal.f t350 bt354.1).bind fun t358=>(if t358=true then (if t351=bt354.2 then ((bytes_Equal.f l0 t328).bind fun t359=>(some t359)) else (none)) else (none))))=some r:=H
       have A37:=zm A370
       clear A370
       replace H:=Option.bind_eq_some_iff.mp H
       obtain ⟨⟨t354,t355⟩,A380,H⟩:=H
       replace H:((bytes_Equal.f t350 t354).bind fun t358=>(if t358=true then (if t351=t355 then ((bytes_Equal.f l0 t328).bind fun t359=>(some t359)) else (none)) else (none)))=some r:=H
       have A38:=zm A380
       clear A380
       replace H:=Option.bind_eq_some_iff.mp H
       obtain ⟨t358,A390,H⟩:=H
       replace H:(if t358=true then (if t351=t355 then ((bytes_Equal.f l0 t328).bind fun t359=>(some t359)) else (none)) else (none))=some r:=H
       have A39:=zm A390
       clear A390
       by_cases c40:t358=true
       ·subst c40
        have H1:(if t351=t355 then ((bytes_Equal.f l0 t328).bind fun t359=>(some t359)) else (none))=some r:=by rw [if_pos rfl] at H;exact H
        clear H
        have H:=H1
        clear H1
        by_cases c41:t351=t355
        ·rw [if_pos c41] at H
         have c41b0:(t351 == t355)=true:=beq_iff_eq.mpr c41
         have c41b1:(t351 != t355)=false:=bne_eq_false_iff_eq.mpr c41
         clear c41
         replace H:=Option.bind_eq_some_iff.mp H
         obtain ⟨t359,A420,H⟩:=H
         replace H:(some t359)=some r:=H
         have A42:=zm A420
         clear A420
         obtain rfl:=Option.some.inj H
         go_wp2_with (first|((with_reducible refine gate_callee (f:=29) rfl ?_);refine goesL_ (some 76) rfl rfl Try.func29 (by kernel_rfl) rfl #[.slice A0 l0.length c0,.slice A1 l1.length c1,.int .i64 a2] rfl (by (try simp only [List.map_toArray,List.map_cons,List.map_nil]);first|done|rfl|(simp only [List.length_drop,List.length_take];rfl)) ?_;(with_reducible refine (bitmap_Minus.calls kj26 _ _ l0 _ _ l1 a2 t350 t351 _ ?side1 ?side2 ?side3 ?side4 A37.out).mono ?_);(case side1=>repeat (first|exact (Kd.C_below HR0.out HB.out)|(with_reducible refine Kd.C_alloc ?_ _)|(with_reducible refine Kd.C_drewN ?_ _)|(with_reducible refine Kd.C_drew ?_)));(case side2=>exact HC0.out);(case side3=>repeat (first|exact (Kd.C_below HR1.out HB.out)|(with_reducible refine Kd.C_alloc ?_ _)|(with_reducible refine Kd.C_drewN ?_ _)|(with_reducible refine Kd.C_drew ?_)));(case side4=>exact HC1.out);rintro e w43 ⟨v352,rfl,ho0,hb⟩;refine ⟨_,rfl,?_⟩;have n0_:=zm (Kd.R_elder' (by (with_reducible repeat (first|apply zrA|apply zrN|apply zrD));exact HO_11.out) (Kd.R_base ho0) hb);have n1_:=zm (Kd.R_lower (Kd.R_new' ho0 (Kd.R_lt (by (with_reducible repeat (first|apply zrA|apply zrN|apply zrD));exact HO_11.out))) (below_size (by repeat (first|(with_reducible first|exact HB.out|apply zlA|apply zlN|apply zlD)|exact HB.out))));have n2_:=zm (below_step (by repeat (first|(with_reducible first|exact HB.out|apply zlA|apply zlN|apply zlD)|exact HB.out)) hb);clear HO_11 HB;have HO_11:=n0_;have HO353:=n1_;have HB:=n2_;clear n0_ n1_ n2_;(try clear hb);(try clear hb2);(try clear hk);(try clear hi);(try clear ho0))|((with_reducible refine gate_callee (f:=30) rfl ?_);refine goesL_ (some 83) rfl rfl Try.func30 (by kernel_rfl) rfl #[.slice A0 l0.length c0,.slice A1 l1.length c1,.int .i64 a2] rfl (by (try simp only [List.map_toArray,List.map_cons,List.map_nil]);first|done|rfl|(simp only [List.length_drop,List.length_take];rfl)) ?_;(with_reducible refine (slipwayref12_Minus.calls kj26 _ _ l0 _ _ l1 a2 t354 t355 _ ?side1 ?side2 ?side3 ?side4 A38.out).mono ?_);(case side1=>repeat (first|exact (Kd.C_below HR0.out HB.out)|(with_reducible refine Kd.C_alloc ?_ _)|(with_reducible refine Kd.C_drewN ?_ _)|(with_reducible refine Kd.C_drew ?_)));(case side2=>exact HC0.out);(case side3=>repeat (first|exact (Kd.C_below HR1.out HB.out)|(with_reducible refine Kd.C_alloc ?_ _)|(with_reducible refine Kd.C_drewN ?_ _)|(with_reducible refine Kd.C_drew ?_)));(case side4=>exact HC1.out);rintro e w44 ⟨v356,rfl,ho0,hb⟩;refine ⟨_,rfl,?_⟩;have n0_:=zm (Kd.R_elder' (by (with_reducible repeat (first|apply zrA|apply zrN|apply zrD));exact HO_11.out) (Kd.R_base ho0) hb);have n1_:=zm (Kd.R_elder' (by (with_reducible repeat (first|apply zrA|apply zrN|apply zrD));exact HO353.out) (Kd.R_base ho0) hb);have n2_:=zm (Kd.R_lower (Kd.R_new' (Kd.R_new' ho0 (Kd.R_lt (by (with_reducible repeat (first|apply zrA|apply zrN|apply zrD));exact HO_11.out))) (Kd.R_lt (by (with_reducible repeat (first|apply zrA|apply zrN|apply zrD));exact HO353.out))) (below_size (by repeat (first|(with_reducible first|exact HB.out|apply zlA|apply zlN|apply zlD)|exact HB.out))));have n3_:=zm (below_step (by repeat (first|(with_reducible first|exact HB.out|apply zlA|apply zlN|apply zlD)|exact HB.out)) hb);clear HO_11 HO353 HB;have HO_11:=n0_;have HO353:=n1_;have HO357:=n2_;have HB:=n3_;clear n0_ n1_ n2_ n3_;(try clear hb);(try clear hb2);(try clear hk);(try clear hi);(try clear ho0);obtain ⟨Ao45,co45,eo45⟩:=Kd.R_slice HO353.out;subst eo45;obtain ⟨Ao46,co46,eo46⟩:=Kd.R_slice HO357.out;subst eo46)|((with_reducible refine gate_callee (f:=16) rfl ?_);refine goesL_ (some 88) rfl rfl Try.func16 (by kernel_rfl) rfl #[.slice Ao45 t350.length co45,.slice Ao46 t354.length co46] rfl (by (try simp only [List.map_toArray,List.map_cons,List.map_nil]);first|done|rfl|(simp only [List.length_drop,List.length_take];rfl)) ?_;(with_reducible refine (bytes_Equal.calls _ _ t350 _ _ t354 true _ ?side1 ?side2 ?side3 ?side4 A39.out).mono ?_);(case side1=>repeat (first|exact (Kd.R_reads' HO353.out).2.2|(with_reducible refine Kd.C_alloc ?_ _)|(with_reducible refine Kd.C_drewN ?_ _)|(with_reducible refine Kd.C_drew ?_)));(case side2=>exact (Kd.R_reads' HO353.out).2.1);(case side3=>repeat (first|exact (Kd.R_reads' HO357.out).2.2|(with_reducible refine Kd.C_alloc ?_ _)|(with_reducible refine Kd.C_drewN ?_ _)|(with_reducible refine Kd.C_drew ?_)));(case side4=>exact (Kd.R_reads' HO357.out).2.1);rintro e w' ⟨rfl,⟨nd,rfl⟩⟩;refine ⟨_,rfl,?_⟩;obtain ⟨Ao47,co47,eo47⟩:=Kd.R_slice HO_11.out;subst eo47)|(go_at_call 16;(with_reducible refine (bytes_Equal.calls _ _ l0 _ _ t328 t359 _ ?side1 ?side2 ?side3 ?side4 A42.out).mono ?_);(case side1=>repeat (first|exact (Kd.C_below HR0.out (by repeat (first|(with_reducible first|exact HB.out|apply zlA|apply zlN|apply zlD)|exact HB.out)))|(with_reducible refine Kd.C_alloc ?_ _)|(with_reducible refine Kd.C_drewN ?_ _)|(with_reducible refine Kd.C_drew ?_)));(case side2=>exact HC0.out);(case side3=>repeat (first|exact (Kd.R_reads' HO_11.out).2.2|(with_reducible refine Kd.C_alloc ?_ _)|(with_reducible refine Kd.C_drewN ?_ _)|(with_reducible refine Kd.C_drew ?_)));(case side4=>exact (Kd.R_reads' HO_11.out).2.1);rintro e w' ⟨rfl,⟨nd,rfl⟩⟩))
         go_ret
         exact ⟨by first|rfl|(simp [errW_none,errW_some] <;> rfl)|(simp [*,errW_none,errW_some] <;> rfl),by repeat (first|(with_reducible first|exact HB.out|apply zlA|apply zlN|apply zlD)|exact HB.out)⟩
        ·rw [if_neg c41] at H
         exact absurd H (by simp)
       ·replace c40:=Bool.eq_false_iff.mpr c40
        subst c40
        have H1:(none)=some r:=by rw [if_neg (show ¬ (false=true) by decide)] at H;exact H
        clear H
        have H:=H1
        clear H1
        exact absurd H (by simp)
def slipwaylaw12_BitmapTurns.Pure:Prop:=∀ (l0:List Int) (l1:List Int) (a2:Int) (a3:Int) (a4:Int),l0.length≤maxLen → l0.length * 1≤140737488351232 → (∀ x ∈ l0,(Lit.int .u8 x).wf=true) → l1.length≤maxLen → l1.length * 1≤140737488351232 → (∀ x ∈ l1,(Lit.int .u8 x).wf=true) → (Lit.int .i64 a2).wf=true → (Lit.int .i64 a3).wf=true → (Lit.int .i64 a4).wf=true → ∃ k,slipwaylaw12_BitmapTurns.f k l0 l1 a2 a3 a4=some true
theorem slipwaylaw12_BitmapTurns.walk (P:slipwaylaw12_BitmapTurns.Pure) (a0:Option Addr) (len0 cap0:Nat) (z0:List Int) (a1:Option Addr) (len1 cap1:Nat) (z1:List Int) (a2:Int) (a3:Int) (a4:Int) (w:World) (w0:(a0=none∧len0=0∧cap0=0∧z0=[])∨∃ x,a0=some x∧len0≤cap0∧cap0≤maxLen∧z0.length=cap0∧(∀ i,i < z0.length → w.cell? (x.add i)=some (.int .u8 (z0.getD i 0)))∧∀ n ∈ z0,(Lit.int .u8 n).wf=true) (y0:len0 * 1≤140737488351232) (w1:(a1=none∧len1=0∧cap1=0∧z1=[])∨∃ x,a1=some x∧len1≤cap1∧cap1≤maxLen∧z1.length=cap1∧(∀ i,i < z1.length → w.cell? (x.add i)=some (.int .u8 (z1.getD i 0)))∧∀ n ∈ z1,(Lit.int .u8 n).wf=true) (y1:len1 * 1≤140737488351232) (w2:(Lit.int .i64 a2).wf=true) (w3:(Lit.int .i64 a3).wf=true) (w4:(Lit.int .i64 a4).wf=true) :
  Calls Try.prog 7 #[.slice a0 len0 cap0,.slice a1 len1 cap1,.int .i64 a2,.int .i64 a3,.int .i64 a4] w fun e w'=>e=.returned (.bool true)∧Below w.heap.size w w':=by
 obtain ⟨l0,rfl,hr0,hm0,hw0,hc0⟩:=ReadsInt.ofRowC w0
 obtain ⟨l1,rfl,hr1,hm1,hw1,hc1⟩:=ReadsInt.ofRowC w1
 obtain ⟨k,h⟩:=P l0 l1 a2 a3 a4 hm0 y0 hw0 hm1 y1 hw1 w2 w3 w4
 refine (slipwaylaw12_BitmapTurns.calls k _ _ l0 _ _ l1 a2 a3 a4 true w (Kd.C_of_reads (d:=(0:Int)) (h1:=fun _=>rfl) hr0) hc0 (Kd.C_of_reads (d:=(0:Int)) (h1:=fun _=>rfl) hr1) hc1 h).mono ?_
 rintro e w' ⟨rfl,hd⟩
 exact ⟨rfl,hd⟩
end Go.Proofs.Ytllodfjbenmlpaa.Print
end
