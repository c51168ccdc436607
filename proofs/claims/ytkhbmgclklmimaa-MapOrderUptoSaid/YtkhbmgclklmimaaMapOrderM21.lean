/- Texts of the proof of MapOrder, part 21. -/
import Derived.Test.YtkhbmgclklmimaaMapOrderM15
import Derived.Test.YtkhbmgclklmimaaMapOrderMA
import Derived.Test.YtkhbmgclklmimaaMapOrderM20
import Derived.Test.YtkhbmgclklmimaaMapOrderM13
section
namespace Go.Proofs.Ytkhbmgclklmimaa.Print
open Go.RowKit Go.Proofs.YtkhbmgclklmimaaW.PrintWords Go.Proofs.YtkhbmgclklmimaaW.PrintLast Go.Proofs.YtkhbmgclklmimaaW.PrintMore
attribute [local go_sem] max2_int min2_int max_two min_two max_three min_three max_four min_four   -- for this text's walks alone
attribute [local go_sem ↓] Go.Proofs.Ytkhbmgclklmimaa.Sem.isSome_setCell
attribute [local go_sem] Go.Instr.field Go.asAgg
set_option linter.unusedVariables false
set_option linter.unusedSimpArgs false
def slipwaylaw06_begun.f (k:Nat) :Option (Bool):=(mapjnl_New.f 16).bind fun bt252=>((mapjnl_Apply.f k bt252.1 bt252.2.1 bt252.2.2.1 (([(⟨2,3,5⟩:S55),(⟨2,3,4⟩:S55)]:List (S55)))).bind fun bt264=>(if bt252.2.2.2=0 then (if bt264.2.2.2=0 then (if (bt264.2.1.length:Int)=16 then (if 3 < (bt264.2.1.length:Int) then (if (rd bt264.2.1 3)=5 then ((mapjnl_Covers.f k bt264.1 bt264.2.1 bt264.2.2.1 bt252.1 bt252.2.1 bt252.2.2.1).bind fun t274=>(if t274=true then ((mapjnl_Covers.f k bt252.1 bt252.2.1 bt252.2.2.1 bt264.1 bt264.2.1 bt264.2.2.1).bind fun t275=>(if t275=true then (none) else ((mapjnl_Parts.f 16).bind fun t276=>(some (t276 == 1))))) else (none))) else (none)) else (none)) else (none)) else (none)) else (none)))
theorem slipwaylaw06_begun.mono:∀ k,LeO (slipwaylaw06_begun.f k ) (slipwaylaw06_begun.f (k + 1) ):=by
 intro  k
 unfold slipwaylaw06_begun.f
 repeat' first
   | (with_reducible exact mapjnl_Apply.mono _ _ _ _ _)
   | (with_reducible exact mapjnl_Covers.mono _ _ _ _ _ _ _)
   | (with_reducible exact LeO.refl _)
   | (with_reducible exact LeO.none _)
   | (with_reducible refine LeO.ite ?_ ?_)
   | (with_reducible refine LeO.bind ?_ (fun _=>?_))
   | exact mapjnl_Apply.mono _ _ _ _ _
   | exact mapjnl_Covers.mono _ _ _ _ _ _ _
   | exact LeO.none _
   | refine LeO.ite ?_ ?_
   | refine LeO.bind ?_ (fun _=>?_)
set_option maxHeartbeats 8000000 in
set_option maxRecDepth 100000 in
theorem slipwaylaw06_begun.calls (k:Nat)  (r:Bool) (w:World) (h:slipwaylaw06_begun.f k =some r) :
  Calls Try.prog 15 #[] w fun e w'=>e=.returned (.bool r)∧Below w.heap.size w w':=by
 have hu25:=Try.underlying25
 have hu55:=Try.underlying55
 have HB:=zm (Below.refl w.heap.size w)
 have H:((mapjnl_New.f 16).bind fun bt252=>((mapjnl_Apply.f k bt252.1 bt252.2.1 bt252.2.2.1 (([(⟨2,3,5⟩:S55),(⟨2,3,4⟩:S55)]:List (S55)))).bind fun bt264=>(if bt252.2.2.2=0 then (if bt264.2.2.2=0 then (if (bt264.2.1.length:Int)=16 then (if 3 < (bt264.2.1.length:Int) then (if (rd bt264.2.1 3)=5 then ((mapjnl_Covers.f k bt264.1 bt264.2.1 bt264.2.2.1 bt252.1 bt252.2.1 bt252.2.2.1).bind fun t274=>(if t274=true then ((mapjnl_Covers.f k bt252.1 bt252.2.1 bt252.2.2.1 bt264.1 bt264.2.1 bt264.2.2.1).bind fun t275=>(if t275=true then (none) else ((mapjnl_Parts.f 16).bind fun t276=>(some (t276 == 1))))) else (none))) else (none)) else (none)) else (none)) else (none)) else (none))))=some r:=h
 clear h
 replace H:=Option.bind_eq_some_iff.mp H
 obtain ⟨⟨t252,t255,t258,t259⟩,A10,H⟩:=H
 replace H:((mapjnl_Apply.f k t252 t255 t258 (([(⟨2,3,5⟩:S55),(⟨2,3,4⟩:S55)]:List (S55)))).bind fun bt264=>(if t259=0 then (if bt264.2.2.2=0 then (if (bt264.2.1.length:Int)=16 then (if 3 < (bt264.2.1.length:Int) then (if (rd bt264.2.1 3)=5 then ((mapjnl_Covers.f k bt264.1 bt264.2.1 bt264.2.2.1 t252 t255 t258).bind fun t274=>(if t274=true then ((mapjnl_Covers.f k t252 t255 t258 bt264.1 bt264.2.1 bt264.2.2.1).bind fun t275=>(if t275=true then (none) else ((mapjnl_Parts.f 16).bind fun t276=>(some (t276 == 1))))) else (none))) else (none)) else (none)) else (none)) else (none)) else (none)))=some r:=H
 have A1:=zm A10
 clear A10
 obtain ⟨y261,hy261⟩:∃ y_:List (S55),y_=(([(⟨2,3,5⟩:S55),(⟨2,3,4⟩:S55)]:List (S55))):=⟨_,rfl⟩
 replace H:((mapjnl_Apply.f k t252 t255 t258 y261).bind fun bt264=>(if t259=0 then (if bt264.2.2.2=0 then (if (bt264.2.1.length:Int)=16 then (if 3 < (bt264.2.1.length:Int) then (if (rd bt264.2.1 3)=5 then ((mapjnl_Covers.f k bt264.1 bt264.2.1 bt264.2.2.1 t252 t255 t258).bind fun t274=>(if t274=true then ((mapjnl_Covers.f k t252 t255 t258 bt264.1 bt264.2.1 bt264.2.2.1).bind fun t275=>(if t275=true then (none) else ((mapjnl_Parts.f 16).bind fun t276=>(some (t276 == 1))))) else (none))) else (none)) else (none)) else (none)) else (none)) else (none)))=some r:=by first|(rw [hy261];with_reducible exact H)|(have H2_:=(Option.bind_some _ _).symm.trans H;rw [hy261];with_reducible exact H2_)|(have H2_:=(Option.bind_some _ _).symm.trans H;with_reducible exact H2_)|with_reducible exact H|(rw [hy261];exact H)|exact H
 have Ny261:=zm hy261
 clear hy261
 replace H:=Option.bind_eq_some_iff.mp H
 obtain ⟨⟨t264,t267,t270,t271⟩,A20,H⟩:=H
 replace H:(if t259=0 then (if t271=0 then (if (t267.length:Int)=16 then (if 3 < (t267.length:Int) then (if (rd t267 3)=5 then ((mapjnl_Covers.f k t264 t267 t270 t252 t255 t258).bind fun t274=>(if t274=true then ((mapjnl_Covers.f k t252 t255 t258 t264 t267 t270).bind fun t275=>(if t275=true then (none) else ((mapjnl_Parts.f 16).bind fun t276=>(some (t276 == 1))))) else (none))) else (none)) else (none)) else (none)) else (none)) else (none))=some r:=H
 have A2:=zm A20
 clear A20
 by_cases c3:t259=0
 ·rw [if_pos c3] at H
  have c3b0:(t259 == 0)=true:=beq_iff_eq.mpr c3
  have c3b1:(t259 != 0)=false:=bne_eq_false_iff_eq.mpr c3
  clear c3
  by_cases c4:t271=0
  ·rw [if_pos c4] at H
   have c4b0:(t271 == 0)=true:=beq_iff_eq.mpr c4
   have c4b1:(t271 != 0)=false:=bne_eq_false_iff_eq.mpr c4
   clear c4
   by_cases c5:(t267.length:Int)=16
   ·rw [if_pos c5] at H
    have c5b0:((t267.length:Int) == 16)=true:=beq_iff_eq.mpr c5
    have c5b1:((t267.length:Int) != 16)=false:=bne_eq_false_iff_eq.mpr c5
    clear c5
    by_cases c6:3 < (t267.length:Int)
    ·rw [if_pos c6] at H
     have c6b0:decide (3 < (t267.length:Int))=true:=decide_eq_true c6
     have c6b1:decide (3 < t267.length)=true:=decide_eq_true (by omega)
     clear c6
     by_cases c7:(rd t267 3)=5
     ·rw [if_pos c7] at H
      have c7b0:((rd t267 3) == 5)=true:=beq_iff_eq.mpr c7
      have c7b1:((rd t267 3) != 5)=false:=bne_eq_false_iff_eq.mpr c7
      clear c7
      replace H:=Option.bind_eq_some_iff.mp H
      obtain ⟨t274,A80,H⟩:=H
      replace H:(if t274=true then ((mapjnl_Covers.f k t252 t255 t258 t264 t267 t270).bind fun t275=>(if t275=true then (none) else ((mapjnl_Parts.f 16).bind fun t276=>(some (t276 == 1))))) else (none))=some r:=H
      have A8:=zm A80
      clear A80
      by_cases c9:t274=true
      ·subst c9
       have H1:((mapjnl_Covers.f k t252 t255 t258 t264 t267 t270).bind fun t275=>(if t275=true then (none) else ((mapjnl_Parts.f 16).bind fun t276=>(some (t276 == 1)))))=some r:=by rw [if_pos rfl] at H;exact H
       clear H
       have H:=H1
       clear H1
       replace H:=Option.bind_eq_some_iff.mp H
       obtain ⟨t275,A100,H⟩:=H
       replace H:(if t275=true then (none) else ((mapjnl_Parts.f 16).bind fun t276=>(some (t276 == 1))))=some r:=H
       have A10:=zm A100
       clear A100
       by_cases c11:t275=true
       ·subst c11
        have H1:(none)=some r:=by rw [if_pos rfl] at H;exact H
        clear H
        have H:=H1
        clear H1
        exact absurd H (by simp)
       ·replace c11:=Bool.eq_false_iff.mpr c11
        subst c11
        have H1:((mapjnl_Parts.f 16).bind fun t276=>(some (t276 == 1)))=some r:=by rw [if_neg (show ¬ (false=true) by decide)] at H;exact H
        clear H
        have H:=H1
        clear H1
        replace H:=Option.bind_eq_some_iff.mp H
        obtain ⟨t276,A120,H⟩:=H
        replace H:(some (t276 == 1))=some r:=H
        have A12:=zm A120
        clear A120
        obtain rfl:=Option.some.inj H
        go_enter Try.func15,Try.ntmps15
        go_wp2_with (first|((with_reducible refine gate_callee (f:=11) rfl ?_);refine goesL_ (some 6) rfl rfl Try.func11 (by kernel_rfl) rfl #[.int .i64 16] rfl (by (try simp only [List.map_toArray,List.map_cons,List.map_nil]);first|done|rfl|(simp only [List.length_drop,List.length_take];rfl)) ?_;(with_reducible refine (mapjnl_New.calls 16 t252 t255 t258 t259 _ A1.out).mono ?_);rintro e w13 ⟨v253,v256,rfl,ho0,ho1,hb⟩;refine ⟨_,rfl,?_⟩;have n0_:=zm (Kd.R_lower ho0 (below_size (zb_)));have n1_:=zm (Kd.R_lower ho1 (below_size (zb_)));have n2_:=zkH HB hb;clear HB;have HO254:=n0_;have HO257:=n1_;have HB:=n2_;clear n0_ n1_ n2_;(try clear hb);(try clear hb2);(try clear hk);(try clear hi);(try clear ho0);(try clear ho1))|((with_reducible refine gate_dst (N:=1) rfl ?_);(try (refine gate_guard (by rfl) ?_;dsimp only));refine zbx 1 #[.slice none 0 0,.slice none 0 0,.int .i64 0] 25 ?_;intro gb260 hg w14 hbox hb;have n0_:=zm (Kd.R_below (by (with_reducible repeat (first|apply zrA|apply zrN|apply zrD));exact HO254.out) hb);have n1_:=zm (Kd.R_below (by (with_reducible repeat (first|apply zrA|apply zrN|apply zrD));exact HO257.out) hb);have n2_:=zkH HB hb;have n3_:=zm (hbox);have n4_:=zkG HB hg;have n5_:=zkG HB hg;clear HO254 HO257 HB;have HO254:=n0_;have HO257:=n1_;have HB:=n2_;have BK260:=n3_;have GW260:=n4_;have GE260:=n5_;clear n0_ n1_ n2_ n3_ n4_ n5_;clear hb hbox hg;obtain ⟨Ao15,co15,eo15⟩:=Kd.R_slice HO254.out;subst eo15;obtain ⟨hcz16_0,hcz16_1,hcz16_2,hfz16_0,hfz16_1,hfz16_2⟩:=zc3 BK260.out;obtain ⟨Ao17,co17,eo17⟩:=Kd.R_slice HO257.out;subst eo17)|((with_reducible refine gate_dst (N:=13) rfl ?_);(try (refine gate_guard (by rfl) ?_;dsimp only));refine Kd.R_lit k55 _ 55 ?hg (N:=13) ?hd (xs:=([(⟨2,3,5⟩:S55),(⟨2,3,4⟩:S55)]:List (S55))) (inner:=[.int .i64 2,.int .i64 3,.int .i64 5,.int .i64 2,.int .i64 3,.int .i64 4]) (ok:=fun _=>True) (okp:=fun _=>True) ?hr ?hp (fun _ hk=>hk) trivial (Below.refl _ _) (Nat.le_refl _) (by simp) ?_;(case hd=>rfl);(case hg=>rfl);(case hr=>first|(go_simp;done)|(go_simp;rfl));(case hp=>exact (Reps.c3 (show Kd.M k55 _ _ _ (⟨2,3,5⟩:S55) [.int .i64 2,.int .i64 3,.int .i64 5] from (k55_mkM _ _ _ (⟨2,3,5⟩:S55) )) (Reps.c3 (show Kd.M k55 _ _ _ (⟨2,3,4⟩:S55) [.int .i64 2,.int .i64 3,.int .i64 4] from (k55_mkM _ _ _ (⟨2,3,4⟩:S55) )) (Reps.none _ _))));intro v262 w18 ho19 hb hg_ hnew_;clear hg_ hnew_;(first|rw [← Ny261.out] at ho19|(simp only [Int.reduceToNat] at ho19;rw [← Ny261.out] at ho19));have n0_:=zm (Kd.R_below (by (with_reducible repeat (first|apply zrA|apply zrN|apply zrD));exact (Kd.R_mono (Kd.R_far (p:=⟨gb260,2,none⟩) (Kd.R_far (p:=⟨gb260,1,none⟩) (Kd.R_far (p:=⟨gb260,0,none⟩) (Kd.R_types HO254.out BK260.out (by decide)) (fun _ hk=>hk.2) (.slice Ao15 t252.length co15)) (fun _ hk=>hk.2) (.slice Ao17 t255.length co17)) (fun _ hk=>hk.2) (.int .i64 t258)) (fun _ h_=>h_.1))) hb);have n1_:=zm (Kd.R_below (by (with_reducible repeat (first|apply zrA|apply zrN|apply zrD));exact (Kd.R_mono (Kd.R_far (p:=⟨gb260,2,none⟩) (Kd.R_far (p:=⟨gb260,1,none⟩) (Kd.R_far (p:=⟨gb260,0,none⟩) (Kd.R_types HO257.out BK260.out (by decide)) (fun _ hk=>hk.2) (.slice Ao15 t252.length co15)) (fun _ hk=>hk.2) (.slice Ao17 t255.length co17)) (fun _ hk=>hk.2) (.int .i64 t258)) (fun _ h_=>h_.1))) hb);have n2_:=zm (Kd.R_lower ho19 (below_size (zb_)));have n3_:=zm (zbB (g:=gb260) (o:=.cells #[.slice Ao15 t252.length co15,.slice Ao17 t255.length co17,.int .i64 t258] 25 (0,0)) (by (with_reducible repeat (first|refine zbN ?_ _|refine zbD ?_|refine zbA ?_ _));refine blk_put (cs:=#[.slice Ao15 t252.length co15,.slice Ao17 t255.length co17,.int .i64 0]) ?_ 2 _ rfl;(with_reducible repeat (first|refine zbN ?_ _|refine zbD ?_|refine zbA ?_ _));refine blk_put (cs:=#[.slice Ao15 t252.length co15,.slice none 0 0,.int .i64 0]) ?_ 1 _ rfl;(with_reducible repeat (first|refine zbN ?_ _|refine zbD ?_|refine zbA ?_ _));refine blk_put (cs:=#[.slice none 0 0,.slice none 0 0,.int .i64 0]) ?_ 0 _ rfl;(with_reducible repeat (first|refine zbN ?_ _|refine zbD ?_|refine zbA ?_ _));exact BK260.out) hb);have n4_:=zkH HB hb;clear HO254 HO257 BK260 HB;have HO254:=n0_;have HO257:=n1_;have HO263:=n2_;have BK260:=n3_;have HB:=n4_;clear n0_ n1_ n2_ n3_ n4_;clear hb ho19;obtain ⟨Ao20,co20,eo20⟩:=Kd.R_slice HO263.out;subst eo20)|((with_reducible refine gate_callee (f:=22) rfl ?_);refine goesL_ (some 14) rfl rfl Try.func22 (by kernel_rfl) rfl #[.agg #[.slice Ao15 t252.length co15,.slice Ao17 t255.length co17,.int .i64 t258],.slice Ao20 y261.length co20] rfl (by (try simp only [List.map_toArray,List.map_cons,List.map_nil]);first|done|rfl|(simp only [List.length_drop,List.length_take];rfl)) ?_;(with_reducible refine (mapjnl_Apply.calls k _ _ t252 _ _ t255 t258 _ _ y261 t264 t267 t270 t271 _ ?side1 ?side2 ?side3 ?side4 ?side5 ?side6 A2.out).mono ?_);(case side1=>repeat (first|exact (Kd.R_reads' HO254.out).2.2|(with_reducible refine Kd.C_alloc ?_ _)|(with_reducible refine Kd.C_drewN ?_ _)|(with_reducible refine Kd.C_drew ?_)));(case side2=>exact (Kd.R_reads' HO254.out).2.1);(case side3=>repeat (first|exact (Kd.R_reads' HO257.out).2.2|(with_reducible refine Kd.C_alloc ?_ _)|(with_reducible refine Kd.C_drewN ?_ _)|(with_reducible refine Kd.C_drew ?_)));(case side4=>exact (Kd.R_reads' HO257.out).2.1);(case side5=>repeat (first|exact (Kd.R_reads' HO263.out).2.2|(with_reducible refine Kd.C_alloc ?_ _)|(with_reducible refine Kd.C_drewN ?_ _)|(with_reducible refine Kd.C_drew ?_)));(case side6=>exact (Kd.R_reads' HO263.out).2.1);rintro e w21 ⟨v265,v268,rfl,ho0,ho1,hb⟩;refine ⟨_,rfl,?_⟩;have n0_:=zm (Kd.R_elder' (by (with_reducible repeat (first|apply zrA|apply zrN|apply zrD));exact HO254.out) (Kd.R_base ho0) hb);have n1_:=zm (Kd.R_elder' (by (with_reducible repeat (first|apply zrA|apply zrN|apply zrD));exact HO257.out) (Kd.R_base ho1) hb);have n2_:=zm (Kd.R_below (by (with_reducible repeat (first|apply zrA|apply zrN|apply zrD));exact HO263.out) hb);have n3_:=zm (Kd.R_lower (Kd.R_new' ho0 (Kd.R_lt (by (with_reducible repeat (first|apply zrA|apply zrN|apply zrD));exact HO254.out))) (below_size (zb_)));have n4_:=zm (Kd.R_lower (Kd.R_new' ho1 (Kd.R_lt (by (with_reducible repeat (first|apply zrA|apply zrN|apply zrD));exact HO257.out))) (below_size (zb_)));have n5_:=zkB BK260 hb;have n6_:=zkH HB hb;clear HO254 HO257 HO263 BK260 HB;have HO254:=n0_;have HO257:=n1_;have HO263:=n2_;have HO266:=n3_;have HO269:=n4_;have BK260:=n5_;have HB:=n6_;clear n0_ n1_ n2_ n3_ n4_ n5_ n6_;(try clear hb);(try clear hb2);(try clear hk);(try clear hi);(try clear ho0);(try clear ho1))|((with_reducible refine gate_dst (N:=3) rfl ?_);(try (refine gate_guard (by rfl) ?_;dsimp only));refine zbx 3 #[.slice none 0 0,.slice none 0 0,.int .i64 0] 25 ?_;intro gb272 hg w22 hbox hb;have n0_:=zm (Kd.R_below (by (with_reducible repeat (first|apply zrA|apply zrN|apply zrD));exact HO254.out) hb);have n1_:=zm (Kd.R_below (by (with_reducible repeat (first|apply zrA|apply zrN|apply zrD));exact HO257.out) hb);have n2_:=zm (Kd.R_below (by (with_reducible repeat (first|apply zrA|apply zrN|apply zrD));exact HO263.out) hb);have n3_:=zm (Kd.R_below (by (with_reducible repeat (first|apply zrA|apply zrN|apply zrD));exact HO266.out) hb);have n4_:=zm (Kd.R_below (by (with_reducible repeat (first|apply zrA|apply zrN|apply zrD));exact HO269.out) hb);have n5_:=zkB BK260 hb;have n6_:=zkH HB hb;have n7_:=zm (hbox);have n8_:=zkG HB hg;have n9_:=zkG HB hg;have n10_:=zkN BK260 hg;have n11_:=zkM BK260 hg;clear HO254 HO257 HO263 HO266 HO269 BK260 HB;have HO254:=n0_;have HO257:=n1_;have HO263:=n2_;have HO266:=n3_;have HO269:=n4_;have BK260:=n5_;have HB:=n6_;have BK272:=n7_;have GW272:=n8_;have GE272:=n9_;have NB260_272:=n10_;have NB272_260:=n11_;clear n0_ n1_ n2_ n3_ n4_ n5_ n6_ n7_ n8_ n9_ n10_ n11_;clear hb hbox hg;obtain ⟨Ao23,co23,eo23⟩:=Kd.R_slice HO266.out;subst eo23;have hnb24:=NB272_260.out;have hnc24:=NB260_272.out;obtain ⟨hcz25_0,hcz25_1,hcz25_2,hfz25_0,hfz25_1,hfz25_2⟩:=zc3 BK272.out;obtain ⟨Ao26,co26,eo26⟩:=Kd.R_slice HO269.out;subst eo26;have p273:0≤(3:Int):=(by omega);have q273:3 < (t267.length:Int):=za_;obtain ⟨ad273,e273,hx273_0⟩:=Kd.at_int (Kd.R_reads' HO269.out).2.2 3 p273 q273;cases e273;(try simp only [show (3:Int).toNat=3 from rfl,Nat.reduceMul,Nat.reduceEqDiff,Go.Addr.add,↓reduceIte] at hx273_0);have qi273:(3 < t267.length)=True:=eq_true (by omega);(try rw [show ((3:Int)).toNat=3 from rfl] at hx273_0);have hn273_0:ad273.block≠gb272:=Kd.own_blk (Kd.R_ne HO269.out BK272.out (by decide));have hn273_1:ad273.block≠gb272:=Kd.own_blk (Kd.R_ne HO269.out BK272.out (by decide));have hn273_2:ad273.block≠gb272:=Kd.own_blk (Kd.R_ne HO269.out BK272.out (by decide));replace hx273_0:=(cell_far (p:=⟨gb272,0,none⟩) (by first|(rw [add_block];exact hn273_0)|(show (Addr.add _ _).block≠_;rw [add_block];exact hn273_0)|exact hn273_0) (.slice Ao23 t264.length co23)).trans hx273_0;replace hx273_0:=(cell_far (p:=⟨gb272,1,none⟩) (by first|(rw [add_block];exact hn273_1)|(show (Addr.add _ _).block≠_;rw [add_block];exact hn273_1)|exact hn273_1) (.slice (some ad273) t267.length co26)).trans hx273_0;replace hx273_0:=(cell_far (p:=⟨gb272,2,none⟩) (by first|(rw [add_block];exact hn273_2)|(show (Addr.add _ _).block≠_;rw [add_block];exact hn273_2)|exact hn273_2) (.int .i64 t270)).trans hx273_0;clear hn273_0 hn273_1 hn273_2;replace p273:=eq_true p273;replace q273:=eq_true q273;obtain ⟨hcz27_0,hcz27_1,hcz27_2,hfz27_0,hfz27_1,hfz27_2⟩:=zc3 BK260.out)|(go_at_call 19;(with_reducible refine (mapjnl_Covers.calls k _ _ t264 _ _ t267 t270 _ _ t252 _ _ t255 t258 true _ ?side1 ?side2 ?side3 ?side4 ?side5 ?side6 ?side7 ?side8 A8.out).mono ?_);(case side1=>refine (Kd.R_reads' (e:=4) (base:=w.heap.size) (ok:=fun k_=>(True∧some k_≠(.slice Ao15 t252.length co15:Value).ownBlock)) (n:=t264.length) (c:=co23) ?_).2.2;exact (by (with_reducible repeat (first|apply zrA|apply zrN|apply zrD));exact (Kd.R_mono (Kd.R_far (p:=⟨gb272,2,none⟩) (Kd.R_far (p:=⟨gb272,1,none⟩) (Kd.R_far (p:=⟨gb272,0,none⟩) (Kd.R_types HO266.out BK272.out (by decide)) (fun _ hk=>hk.2) (.slice Ao23 t264.length co23)) (fun _ hk=>hk.2) (.slice (some ad273) t267.length co26)) (fun _ hk=>hk.2) (.int .i64 t270)) (fun _ h_=>h_.1))));(case side2=>exact (Kd.R_reads' HO266.out).2.1);(case side3=>refine (Kd.R_reads' (e:=2) (base:=w.heap.size) (ok:=fun k_=>(True∧some k_≠(.slice Ao17 t255.length co17:Value).ownBlock)) (n:=t267.length) (c:=co26) ?_).2.2;exact (by (with_reducible repeat (first|apply zrA|apply zrN|apply zrD));exact (Kd.R_mono (Kd.R_far (p:=⟨gb272,2,none⟩) (Kd.R_far (p:=⟨gb272,1,none⟩) (Kd.R_far (p:=⟨gb272,0,none⟩) (Kd.R_types HO269.out BK272.out (by decide)) (fun _ hk=>hk.2) (.slice Ao23 t264.length co23)) (fun _ hk=>hk.2) (.slice (some ad273) t267.length co26)) (fun _ hk=>hk.2) (.int .i64 t270)) (fun _ h_=>h_.1))));(case side4=>exact (Kd.R_reads' HO269.out).2.1);(case side5=>refine (Kd.R_reads' (e:=4) (base:=w.heap.size) (ok:=fun k_=>(True∧some k_≠(.slice Ao23 t264.length co23:Value).ownBlock)) (n:=t252.length) (c:=co15) ?_).2.2;exact (by (with_reducible repeat (first|apply zrA|apply zrN|apply zrD));exact (Kd.R_mono (Kd.R_far (p:=⟨gb272,2,none⟩) (Kd.R_far (p:=⟨gb272,1,none⟩) (Kd.R_far (p:=⟨gb272,0,none⟩) (Kd.R_types HO254.out BK272.out (by decide)) (fun _ hk=>hk.2) (.slice Ao23 t264.length co23)) (fun _ hk=>hk.2) (.slice (some ad273) t267.length co26)) (fun _ hk=>hk.2) (.int .i64 t270)) (fun _ h_=>h_.1))));(case side6=>exact (Kd.R_reads' HO254.out).2.1);(case side7=>refine (Kd.R_reads' (e:=2) (base:=w.heap.size) (ok:=fun k_=>(True∧some k_≠(.slice (some ad273) t267.length co26:Value).ownBlock)) (n:=t255.length) (c:=co17) ?_).2.2;exact (by (with_reducible repeat (first|apply zrA|apply zrN|apply zrD));exact (Kd.R_mono (Kd.R_far (p:=⟨gb272,2,none⟩) (Kd.R_far (p:=⟨gb272,1,none⟩) (Kd.R_far (p:=⟨gb272,0,none⟩) (Kd.R_types HO257.out BK272.out (by decide)) (fun _ hk=>hk.2) (.slice Ao23 t264.length co23)) (fun _ hk=>hk.2) (.slice (some ad273) t267.length co26)) (fun _ hk=>hk.2) (.int .i64 t270)) (fun _ h_=>h_.1))));(case side8=>exact (Kd.R_reads' HO257.out).2.1);rintro e w28 ⟨rfl,hb⟩;have n0_:=zm (Kd.R_below (by (with_reducible repeat (first|apply zrA|apply zrN|apply zrD));exact (Kd.R_mono (Kd.R_far (p:=⟨gb272,2,none⟩) (Kd.R_far (p:=⟨gb272,1,none⟩) (Kd.R_far (p:=⟨gb272,0,none⟩) (Kd.R_types HO254.out BK272.out (by decide)) (fun _ hk=>hk.2) (.slice Ao23 t264.length co23)) (fun _ hk=>hk.2) (.slice (some ad273) t267.length co26)) (fun _ hk=>hk.2) (.int .i64 t270)) (fun _ h_=>h_.1))) hb);have n1_:=zm (Kd.R_below (by (with_reducible repeat (first|apply zrA|apply zrN|apply zrD));exact (Kd.R_mono (Kd.R_far (p:=⟨gb272,2,none⟩) (Kd.R_far (p:=⟨gb272,1,none⟩) (Kd.R_far (p:=⟨gb272,0,none⟩) (Kd.R_types HO257.out BK272.out (by decide)) (fun _ hk=>hk.2) (.slice Ao23 t264.length co23)) (fun _ hk=>hk.2) (.slice (some ad273) t267.length co26)) (fun _ hk=>hk.2) (.int .i64 t270)) (fun _ h_=>h_.1))) hb);have n2_:=zm (Kd.R_below (by (with_reducible repeat (first|apply zrA|apply zrN|apply zrD));exact (Kd.R_mono (Kd.R_far (p:=⟨gb272,2,none⟩) (Kd.R_far (p:=⟨gb272,1,none⟩) (Kd.R_far (p:=⟨gb272,0,none⟩) (Kd.R_types HO263.out BK272.out (by decide)) (fun _ hk=>hk.2) (.slice Ao23 t264.length co23)) (fun _ hk=>hk.2) (.slice (some ad273) t267.length co26)) (fun _ hk=>hk.2) (.int .i64 t270)) (fun _ h_=>h_.1))) hb);have n3_:=zm (Kd.R_below (by (with_reducible repeat (first|apply zrA|apply zrN|apply zrD));exact (Kd.R_mono (Kd.R_far (p:=⟨gb272,2,none⟩) (Kd.R_far (p:=⟨gb272,1,none⟩) (Kd.R_far (p:=⟨gb272,0,none⟩) (Kd.R_types HO266.out BK272.out (by decide)) (fun _ hk=>hk.2) (.slice Ao23 t264.length co23)) (fun _ hk=>hk.2) (.slice (some ad273) t267.length co26)) (fun _ hk=>hk.2) (.int .i64 t270)) (fun _ h_=>h_.1))) hb);have n4_:=zm (Kd.R_below (by (with_reducible repeat (first|apply zrA|apply zrN|apply zrD));exact (Kd.R_mono (Kd.R_far (p:=⟨gb272,2,none⟩) (Kd.R_far (p:=⟨gb272,1,none⟩) (Kd.R_far (p:=⟨gb272,0,none⟩) (Kd.R_types HO269.out BK272.out (by decide)) (fun _ hk=>hk.2) (.slice Ao23 t264.length co23)) (fun _ hk=>hk.2) (.slice (some ad273) t267.length co26)) (fun _ hk=>hk.2) (.int .i64 t270)) (fun _ h_=>h_.1))) hb);have n5_:=zm (zbB (g:=gb260) (o:=.cells #[.slice Ao15 t252.length co15,.slice Ao17 t255.length co17,.int .i64 t258] 25 (0,0)) (by (with_reducible repeat (first|refine zbN ?_ _|refine zbD ?_|refine zbA ?_ _));refine blk_far ?_ NB260_272.out _;(with_reducible repeat (first|refine zbN ?_ _|refine zbD ?_|refine zbA ?_ _));refine blk_far ?_ NB260_272.out _;(with_reducible repeat (first|refine zbN ?_ _|refine zbD ?_|refine zbA ?_ _));refine blk_far ?_ NB260_272.out _;(with_reducible repeat (first|refine zbN ?_ _|refine zbD ?_|refine zbA ?_ _));exact BK260.out) hb);have n6_:=zm (zbB (g:=gb272) (o:=.cells #[.slice Ao23 t264.length co23,.slice (some ad273) t267.length co26,.int .i64 t270] 25 (0,0)) (by (with_reducible repeat (first|refine zbN ?_ _|refine zbD ?_|refine zbA ?_ _));refine blk_put (cs:=#[.slice Ao23 t264.length co23,.slice (some ad273) t267.length co26,.int .i64 0]) ?_ 2 _ rfl;(with_reducible repeat (first|refine zbN ?_ _|refine zbD ?_|refine zbA ?_ _));refine blk_put (cs:=#[.slice Ao23 t264.length co23,.slice none 0 0,.int .i64 0]) ?_ 1 _ rfl;(with_reducible repeat (first|refine zbN ?_ _|refine zbD ?_|refine zbA ?_ _));refine blk_put (cs:=#[.slice none 0 0,.slice none 0 0,.int .i64 0]) ?_ 0 _ rfl;(with_reducible repeat (first|refine zbN ?_ _|refine zbD ?_|refine zbA ?_ _));exact BK272.out) hb);have n7_:=zkH HB hb;clear HO254 HO257 HO263 HO266 HO269 BK260 BK272 HB;have HO254:=n0_;have HO257:=n1_;have HO263:=n2_;have HO266:=n3_;have HO269:=n4_;have BK260:=n5_;have BK272:=n6_;have HB:=n7_;clear n0_ n1_ n2_ n3_ n4_ n5_ n6_ n7_;(try clear hb);(try clear hb2);(try clear hk);(try clear hi);obtain ⟨hcz29_0,hcz29_1,hcz29_2,hfz29_0,hfz29_1,hfz29_2⟩:=zc3 BK260.out;obtain ⟨hcz30_0,hcz30_1,hcz30_2,hfz30_0,hfz30_1,hfz30_2⟩:=zc3 BK272.out)|(go_at_call 19;(with_reducible refine (mapjnl_Covers.calls k _ _ t252 _ _ t255 t258 _ _ t264 _ _ t267 t270 false _ ?side1 ?side2 ?side3 ?side4 ?side5 ?side6 ?side7 ?side8 A10.out).mono ?_);(case side1=>repeat (first|exact (Kd.R_reads' HO254.out).2.2|(with_reducible refine Kd.C_alloc ?_ _)|(with_reducible refine Kd.C_drewN ?_ _)|(with_reducible refine Kd.C_drew ?_)));(case side2=>exact (Kd.R_reads' HO254.out).2.1);(case side3=>repeat (first|exact (Kd.R_reads' HO257.out).2.2|(with_reducible refine Kd.C_alloc ?_ _)|(with_reducible refine Kd.C_drewN ?_ _)|(with_reducible refine Kd.C_drew ?_)));(case side4=>exact (Kd.R_reads' HO257.out).2.1);(case side5=>repeat (first|exact (Kd.R_reads' HO266.out).2.2|(with_reducible refine Kd.C_alloc ?_ _)|(with_reducible refine Kd.C_drewN ?_ _)|(with_reducible refine Kd.C_drew ?_)));(case side6=>exact (Kd.R_reads' HO266.out).2.1);(case side7=>repeat (first|exact (Kd.R_reads' HO269.out).2.2|(with_reducible refine Kd.C_alloc ?_ _)|(with_reducible refine Kd.C_drewN ?_ _)|(with_reducible refine Kd.C_drew ?_)));(case side8=>exact (Kd.R_reads' HO269.out).2.1);rintro e w31 ⟨rfl,hb⟩;have n0_:=zm (Kd.R_below (by (with_reducible repeat (first|apply zrA|apply zrN|apply zrD));exact HO254.out) hb);have n1_:=zm (Kd.R_below (by (with_reducible repeat (first|apply zrA|apply zrN|apply zrD));exact HO257.out) hb);have n2_:=zm (Kd.R_below (by (with_reducible repeat (first|apply zrA|apply zrN|apply zrD));exact HO263.out) hb);have n3_:=zm (Kd.R_below (by (with_reducible repeat (first|apply zrA|apply zrN|apply zrD));exact HO266.out) hb);have n4_:=zm (Kd.R_below (by (with_reducible repeat (first|apply zrA|apply zrN|apply zrD));exact HO269.out) hb);have n5_:=zkB BK260 hb;have n6_:=zkB BK272 hb;have n7_:=zkH HB hb;clear HO254 HO257 HO263 HO266 HO269 BK260 BK272 HB;have HO254:=n0_;have HO257:=n1_;have HO263:=n2_;have HO266:=n3_;have HO269:=n4_;have BK260:=n5_;have BK272:=n6_;have HB:=n7_;clear n0_ n1_ n2_ n3_ n4_ n5_ n6_ n7_;(try clear hb);(try clear hb2);(try clear hk);(try clear hi))|(go_at_call 33;(with_reducible refine (mapjnl_Parts.calls 16 t276 _ A12.out).mono ?_);rintro e w' ⟨rfl,⟨nd,rfl⟩⟩))
        go_ret
        exact ⟨ze_,zb_⟩
      ·replace c9:=Bool.eq_false_iff.mpr c9
       subst c9
       have H1:(none)=some r:=by rw [if_neg (show ¬ (false=true) by decide)] at H;exact H
       clear H
       have H:=H1
       clear H1
       exact absurd H (by simp)
     ·rw [if_neg c7] at H
      exact absurd H (by simp)
    ·rw [if_neg c6] at H
     exact absurd H (by simp)
   ·rw [if_neg c5] at H
    exact absurd H (by simp)
  ·rw [if_neg c4] at H
   exact absurd H (by simp)
 ·rw [if_neg c3] at H
  exact absurd H (by simp)
def slipwayref06_bools.l0:Nat → List Bool → List Bool → Int → Option (Bool)
 | 0,_,_,_=>none
 | k + 1,x0,x1,x5=>if x5 < (x0.length:Int) then (if 0≤x5 then (if x5 < (x1.length:Int) then (if ((rdOf false x0 x5) != (rdOf false x1 x5))=true then (some false) else (slipwayref06_bools.l0 k x0 x1 (wrap64 (x5 + 1)))) else (none)) else (none)) else (some true)
def slipwayref06_bools.f (k:Nat) (l0:List Bool) (l1:List Bool):Option (Bool):=if (l0.length:Int)=(l1.length:Int) then (slipwayref06_bools.l0 k l0 l1 0) else (some false)
set_option maxHeartbeats 8000000 in
set_option maxRecDepth 100000 in
theorem slipwayref06_bools.calls (k:Nat) (A0:Option Addr) (c0:Nat) (l0:List Bool) (A1:Option Addr) (c1:Nat) (l1:List Bool) (r:Bool) (w:World) (hr0:Kd.C Kd.bool w A0 l0.length l0) (hc0:l0.length≤c0) (hr1:Kd.C Kd.bool w A1 l1.length l1) (hc1:l1.length≤c1) (h:slipwayref06_bools.f k l0 l1=some r) :
  Calls Try.prog 53 #[.slice A0 l0.length c0,.slice A1 l1.length c1] w fun e w'=>e=.returned (.bool r)∧Drawn0 w w':=by
 have HR0:=zm hr0
 have HC0:=zm hc0
 clear hr0 hc0
 have HR1:=zm hr1
 have HC1:=zm hc1
 clear hr1 hc1
 have H:(if (l0.length:Int)=(l1.length:Int) then (slipwayref06_bools.l0 k l0 l1 0) else (some false))=some r:=h
 clear h
 by_cases c3:(l0.length:Int)=(l1.length:Int)
 ·rw [if_pos c3] at H
  have c3b0:((l0.length:Int) == (l1.length:Int))=true:=beq_iff_eq.mpr c3
  have c3b1:((l0.length:Int) != (l1.length:Int))=false:=bne_eq_false_iff_eq.mpr c3
  have c3b2:(l0.length == l1.length)=true:=by first|simpa using c3|(simp at c3 ⊢;omega)
  clear c3
  have H':=zm H
  clear H
  go_enter Try.func53,Try.ntmps53
  go_wp2
  repeat (go_quiet (fail);try go_wp2)
  go_loopg [5] k (fun kq v5 w'=>∃ (x5_1:Int),v5=.int .i64 x5_1∧Aside0 (slipwayref06_bools.l0 kq l0 l1 x5_1=some r)∧Aside0 (kq≤k)∧Drawn0 w w')
  case atStart=>exact ⟨(0),zs_,H',⟨Nat.le_refl _⟩,by repeat (first|exact Drawn0.refl _|apply Drawn0.step)⟩
  case round =>
   clear H'
   try clear c1
   try clear p2
   try clear c3
   try clear c3b0
   try clear c3b1
   try clear c3b2
   obtain ⟨x5_1,rfl,HA,HK1,⟨m1,rfl⟩⟩:=hrel
   cases gk with
   | zero=>exact absurd HA.out (by simp [slipwayref06_bools.l0])
   | succ k1 =>
    have H:=HA.out
    clear HA
    simp only [slipwayref06_bools.l0] at H
    by_cases c4:x5_1 < (l0.length:Int)
    ·rw [if_pos c4] at H
     have c4b0:decide (x5_1 < (l0.length:Int))=true:=decide_eq_true c4
     clear c4
     by_cases c5:0≤x5_1
     ·rw [if_pos c5] at H
      have c5b0:decide (0≤x5_1)=true:=decide_eq_true c5
      clear c5
      by_cases c6:x5_1 < (l1.length:Int)
      ·rw [if_pos c6] at H
       have c6b0:decide (x5_1 < (l1.length:Int))=true:=decide_eq_true c6
       clear c6
       by_cases c7:((rdOf false l0 x5_1) != (rdOf false l1 x5_1))=true
       ·rw [if_pos c7] at H
        have c7b0:((rdOf false l0 x5_1) != (rdOf false l1 x5_1))=true:=c7
        (try (have c7b1:decide ((rdOf false l0 x5_1)=(rdOf false l1 x5_1))=false:=by simpa using c7))
        (try (have c7b2:((rdOf false l0 x5_1) == (rdOf false l1 x5_1))=false:=by simpa using c7))
        (try (have c7b3:¬ ((rdOf false l0 x5_1)=(rdOf false l1 x5_1)):=by simpa using c7))
        clear c7
        obtain rfl:=Option.some.inj H
        have p277:0≤(x5_1:Int):=za_
        have q277:x5_1 < (l0.length:Int):=za_
        obtain ⟨ad277,e277,hx277_0⟩:=Kd.at_bool HR0.out x5_1 p277 q277
        cases e277
        replace p277:=eq_true p277
        replace q277:=eq_true q277
        have p278:0≤(x5_1:Int):=za_
        have q278:x5_1 < (l1.length:Int):=za_
        obtain ⟨ad278,e278,hx278_0⟩:=Kd.at_bool HR1.out x5_1 p278 q278
        cases e278
        replace p278:=eq_true p278
        replace q278:=eq_true q278
        go_wp2
        repeat (go_quiet (fail);try go_wp2)
        go_ret
        exact ⟨by first|rfl|(simp;done)|(simp [*];done),by repeat (first|exact Drawn0.refl _|apply Drawn0.step)⟩
       ·rw [if_neg c7] at H
        have c7b0:((rdOf false l0 x5_1) != (rdOf false l1 x5_1))=false:=by simpa using c7
        (try (have c7b1:decide ((rdOf false l0 x5_1)=(rdOf false l1 x5_1))=true:=by simpa using c7))
        (try (have c7b2:((rdOf false l0 x5_1) == (rdOf false l1 x5_1))=true:=by simpa using c7))
        clear c7
        have H':=zm H
        clear H
        have p277:0≤(x5_1:Int):=za_
        have q277:x5_1 < (l0.length:Int):=za_
        obtain ⟨ad277,e277,hx277_0⟩:=Kd.at_bool HR0.out x5_1 p277 q277
        cases e277
        replace p277:=eq_true p277
        replace q277:=eq_true q277
        have p278:0≤(x5_1:Int):=za_
        have q278:x5_1 < (l1.length:Int):=za_
        obtain ⟨ad278,e278,hx278_0⟩:=Kd.at_bool HR1.out x5_1 p278 q278
        cases e278
        replace p278:=eq_true p278
        replace q278:=eq_true q278
        go_wp2
        repeat (go_quiet (fail);try go_wp2)
        go_roundg k1
        case measure=>have:=HK1.out;omega
        case rel=>exact ⟨(wrap64 (x5_1 + 1)),zs_,H',⟨by have:=HK1.out;omega⟩,by repeat (first|exact Drawn0.refl _|apply Drawn0.step)⟩
      ·rw [if_neg c6] at H
       exact absurd H (by simp)
     ·rw [if_neg c5] at H
      exact absurd H (by simp)
    ·rw [if_neg c4] at H
     have c4b0:decide (x5_1 < (l0.length:Int))=false:=decide_eq_false c4
     clear c4
     obtain rfl:=Option.some.inj H
     go_wp2
     repeat (go_quiet (fail);try go_wp2)
     go_ret
     exact ⟨by first|rfl|(simp;done)|(simp [*];done),by repeat (first|exact Drawn0.refl _|apply Drawn0.step)⟩
 ·rw [if_neg c3] at H
  have c3b0:((l0.length:Int) == (l1.length:Int))=false:=beq_eq_false_iff_ne.mpr c3
  have c3b1:((l0.length:Int) != (l1.length:Int))=true:=bne_iff_ne.mpr c3
  have c3b2:(l0.length == l1.length)=false:=by first|simpa using c3|(simp at c3 ⊢;omega)
  obtain rfl:=Option.some.inj H
  go_enter Try.func53,Try.ntmps53
  go_wp2
  repeat (go_quiet (fail);try go_wp2)
  go_ret
  exact ⟨by first|rfl|(simp;done)|(simp [*];done),by repeat (first|exact Drawn0.refl _|apply Drawn0.step)⟩
end Go.Proofs.Ytkhbmgclklmimaa.Print
end
section
namespace Go.Proofs.Ytkhbmgclklmimaa.Print
open Go.RowKit Go.Proofs.YtkhbmgclklmimaaW.PrintWords Go.Proofs.YtkhbmgclklmimaaW.PrintLast Go.Proofs.YtkhbmgclklmimaaW.PrintMore
attribute [local go_sem] max2_int min2_int max_two min_two max_three min_three max_four min_four   -- for this text's walks alone
attribute [local go_sem ↓] Go.Proofs.Ytkhbmgclklmimaa.Sem.isSome_setCell
attribute [local go_sem] Go.Instr.field Go.asAgg
set_option linter.unusedVariables false
set_option linter.unusedSimpArgs false
def slipwayref06_nums.l0:Nat → List Int → List Int → Int → Option (Bool)
 | 0,_,_,_=>none
 | k + 1,x0,x1,x5=>if x5 < (x0.length:Int) then (if 0≤x5 then (if x5 < (x1.length:Int) then (if (rd x0 x5)=(rd x1 x5) then (slipwayref06_nums.l0 k x0 x1 (wrap64 (x5 + 1))) else (some false)) else (none)) else (none)) else (some true)
def slipwayref06_nums.f (k:Nat) (l0:List Int) (l1:List Int):Option (Bool):=if (l0.length:Int)=(l1.length:Int) then (slipwayref06_nums.l0 k l0 l1 0) else (some false)
set_option maxHeartbeats 8000000 in
set_option maxRecDepth 100000 in
theorem slipwayref06_nums.calls (k:Nat) (A0:Option Addr) (c0:Nat) (l0:List Int) (A1:Option Addr) (c1:Nat) (l1:List Int) (r:Bool) (w:World) (hr0:Kd.C (Kd.int .i64) w A0 l0.length l0) (hc0:l0.length≤c0) (hr1:Kd.C (Kd.int .i64) w A1 l1.length l1) (hc1:l1.length≤c1) (h:slipwayref06_nums.f k l0 l1=some r) :
  Calls Try.prog 54 #[.slice A0 l0.length c0,.slice A1 l1.length c1] w fun e w'=>e=.returned (.bool r)∧Drawn0 w w':=by
 have HR0:=zm hr0
 have HC0:=zm hc0
 clear hr0 hc0
 have HR1:=zm hr1
 have HC1:=zm hc1
 clear hr1 hc1
 have H:(if (l0.length:Int)=(l1.length:Int) then (slipwayref06_nums.l0 k l0 l1 0) else (some false))=some r:=h
 clear h
 by_cases c3:(l0.length:Int)=(l1.length:Int)
 ·rw [if_pos c3] at H
  have c3b0:((l0.length:Int) == (l1.length:Int))=true:=beq_iff_eq.mpr c3
  have c3b1:((l0.length:Int) != (l1.length:Int))=false:=bne_eq_false_iff_eq.mpr c3
  have c3b2:(l0.length == l1.length)=true:=by first|simpa using c3|(simp at c3 ⊢;omega)
  clear c3
  have H':=zm H
  clear H
  go_enter Try.func54,Try.ntmps54
  go_wp2
  repeat (go_quiet (fail);try go_wp2)
  go_loopg [5] k (fun kq v5 w'=>∃ (x5_1:Int),v5=.int .i64 x5_1∧Aside0 (slipwayref06_nums.l0 kq l0 l1 x5_1=some r)∧Aside0 (kq≤k)∧Drawn0 w w')
  case atStart=>exact ⟨(0),zs_,H',⟨Nat.le_refl _⟩,by repeat (first|exact Drawn0.refl _|apply Drawn0.step)⟩
  case round =>
   clear H'
   try clear c1
   try clear p2
   try clear c3
   try clear c3b0
   try clear c3b1
   try clear c3b2
   obtain ⟨x5_1,rfl,HA,HK1,⟨m1,rfl⟩⟩:=hrel
   cases gk with
   | zero=>exact absurd HA.out (by simp [slipwayref06_nums.l0])
   | succ k1 =>
    have H:=HA.out
    clear HA
    simp only [slipwayref06_nums.l0] at H
    by_cases c4:x5_1 < (l0.length:Int)
    ·rw [if_pos c4] at H
     have c4b0:decide (x5_1 < (l0.length:Int))=true:=decide_eq_true c4
     clear c4
     by_cases c5:0≤x5_1
     ·rw [if_pos c5] at H
      have c5b0:decide (0≤x5_1)=true:=decide_eq_true c5
      clear c5
      by_cases c6:x5_1 < (l1.length:Int)
      ·rw [if_pos c6] at H
       have c6b0:decide (x5_1 < (l1.length:Int))=true:=decide_eq_true c6
       clear c6
       by_cases c7:(rd l0 x5_1)=(rd l1 x5_1)
       ·rw [if_pos c7] at H
        have c7b0:((rd l0 x5_1) == (rd l1 x5_1))=true:=beq_iff_eq.mpr c7
        have c7b1:((rd l0 x5_1) != (rd l1 x5_1))=false:=bne_eq_false_iff_eq.mpr c7
        clear c7
        have H':=zm H
        clear H
        have p279:0≤(x5_1:Int):=za_
        have q279:x5_1 < (l0.length:Int):=za_
        obtain ⟨ad279,e279,hx279_0⟩:=Kd.at_int HR0.out x5_1 p279 q279
        cases e279
        replace p279:=eq_true p279
        replace q279:=eq_true q279
        have p280:0≤(x5_1:Int):=za_
        have q280:x5_1 < (l1.length:Int):=za_
        obtain ⟨ad280,e280,hx280_0⟩:=Kd.at_int HR1.out x5_1 p280 q280
        cases e280
        replace p280:=eq_true p280
        replace q280:=eq_true q280
        go_wp2
        repeat (go_quiet (fail);try go_wp2)
        go_roundg k1
        case measure=>have:=HK1.out;omega
        case rel=>exact ⟨(wrap64 (x5_1 + 1)),zs_,H',⟨by have:=HK1.out;omega⟩,by repeat (first|exact Drawn0.refl _|apply Drawn0.step)⟩
       ·rw [if_neg c7] at H
        have c7b0:((rd l0 x5_1) == (rd l1 x5_1))=false:=beq_eq_false_iff_ne.mpr c7
        have c7b1:((rd l0 x5_1) != (rd l1 x5_1))=true:=bne_iff_ne.mpr c7
        obtain rfl:=Option.some.inj H
        have p279:0≤(x5_1:Int):=za_
        have q279:x5_1 < (l0.length:Int):=za_
        obtain ⟨ad279,e279,hx279_0⟩:=Kd.at_int HR0.out x5_1 p279 q279
        cases e279
        replace p279:=eq_true p279
        replace q279:=eq_true q279
        have p280:0≤(x5_1:Int):=za_
        have q280:x5_1 < (l1.length:Int):=za_
        obtain ⟨ad280,e280,hx280_0⟩:=Kd.at_int HR1.out x5_1 p280 q280
        cases e280
        replace p280:=eq_true p280
        replace q280:=eq_true q280
        go_wp2
        repeat (go_quiet (fail);try go_wp2)
        go_ret
        exact ⟨by first|rfl|(simp;done)|(simp [*];done),by repeat (first|exact Drawn0.refl _|apply Drawn0.step)⟩
      ·rw [if_neg c6] at H
       exact absurd H (by simp)
     ·rw [if_neg c5] at H
      exact absurd H (by simp)
    ·rw [if_neg c4] at H
     have c4b0:decide (x5_1 < (l0.length:Int))=false:=decide_eq_false c4
     clear c4
     obtain rfl:=Option.some.inj H
     go_wp2
     repeat (go_quiet (fail);try go_wp2)
     go_ret
     exact ⟨by first|rfl|(simp;done)|(simp [*];done),by repeat (first|exact Drawn0.refl _|apply Drawn0.step)⟩
 ·rw [if_neg c3] at H
  have c3b0:((l0.length:Int) == (l1.length:Int))=false:=beq_eq_false_iff_ne.mpr c3
  have c3b1:((l0.length:Int) != (l1.length:Int))=true:=bne_iff_ne.mpr c3
  have c3b2:(l0.length == l1.length)=false:=by first|simpa using c3|(simp at c3 ⊢;omega)
  obtain rfl:=Option.some.inj H
  go_enter Try.func54,Try.ntmps54
  go_wp2
  repeat (go_quiet (fail);try go_wp2)
  go_ret
  exact ⟨by first|rfl|(simp;done)|(simp [*];done),by repeat (first|exact Drawn0.refl _|apply Drawn0.step)⟩
def slipwayref06_Same.f (k:Nat) (l0_0:List Bool) (l0_1:List Int) (a0_2:Int) (l1_0:List Bool) (l1_1:List Int) (a1_2:Int):Option (Bool):=(slipwayref06_bools.f k l0_0 l1_0).bind fun t283=>(if t283=true then ((slipwayref06_nums.f k l0_1 l1_1).bind fun t284=>(if t284=true then (some (a0_2 == a1_2)) else (some false))) else (some false))
set_option maxHeartbeats 8000000 in
set_option maxRecDepth 100000 in
theorem slipwayref06_Same.calls (k:Nat) (A0_0:Option Addr) (c0_0:Nat) (l0_0:List Bool) (A0_1:Option Addr) (c0_1:Nat) (l0_1:List Int) (a0_2:Int) (A1_0:Option Addr) (c1_0:Nat) (l1_0:List Bool) (A1_1:Option Addr) (c1_1:Nat) (l1_1:List Int) (a1_2:Int) (r:Bool) (w:World) (hr0_0:Kd.C Kd.bool w A0_0 l0_0.length l0_0) (hc0_0:l0_0.length≤c0_0) (hr0_1:Kd.C (Kd.int .i64) w A0_1 l0_1.length l0_1) (hc0_1:l0_1.length≤c0_1) (hr1_0:Kd.C Kd.bool w A1_0 l1_0.length l1_0) (hc1_0:l1_0.length≤c1_0) (hr1_1:Kd.C (Kd.int .i64) w A1_1 l1_1.length l1_1) (hc1_1:l1_1.length≤c1_1) (h:slipwayref06_Same.f k l0_0 l0_1 a0_2 l1_0 l1_1 a1_2=some r) :
  Calls Try.prog 16 #[.agg #[.slice A0_0 l0_0.length c0_0,.slice A0_1 l0_1.length c0_1,.int .i64 a0_2],.agg #[.slice A1_0 l1_0.length c1_0,.slice A1_1 l1_1.length c1_1,.int .i64 a1_2]] w fun e w'=>e=.returned (.bool r)∧Below w.heap.size w w':=by
 have hu25:=Try.underlying25
 have HR0_0:=zm hr0_0
 have HC0_0:=zm hc0_0
 clear hr0_0 hc0_0
 have HR0_1:=zm hr0_1
 have HC0_1:=zm hc0_1
 clear hr0_1 hc0_1
 have HR1_0:=zm hr1_0
 have HC1_0:=zm hc1_0
 clear hr1_0 hc1_0
 have HR1_1:=zm hr1_1
 have HC1_1:=zm hc1_1
 clear hr1_1 hc1_1
 have HB:=zm (Below.refl w.heap.size w)
 have H:((slipwayref06_bools.f k l0_0 l1_0).bind fun t283=>(if t283=true then ((slipwayref06_nums.f k l0_1 l1_1).bind fun t284=>(if t284=true then (some (a0_2 == a1_2)) else (some false))) else (some false)))=some r:=h
 clear h
 replace H:=Option.bind_eq_some_iff.mp H
 obtain ⟨t283,A30,H⟩:=H
 replace H:(if t283=true then ((slipwayref06_nums.f k l0_1 l1_1).bind fun t284=>(if t284=true then (some (a0_2 == a1_2)) else (some false))) else (some false))=some r:=H
 have A3:=zm A30
 clear A30
 by_cases c4:t283=true
 ·subst c4
  have H1:((slipwayref06_nums.f k l0_1 l1_1).bind fun t284=>(if t284=true then (some (a0_2 == a1_2)) else (some false)))=some r:=by rw [if_pos rfl] at H;exact H
  clear H
  have H:=H1
  clear H1
  replace H:=Option.bind_eq_some_iff.mp H
  obtain ⟨t284,A50,H⟩:=H
  replace H:(if t284=true then (some (a0_2 == a1_2)) else (some false))=some r:=H
  have A5:=zm A50
  clear A50
  by_cases c6:t284=true
  ·subst c6
   have H1:(some (a0_2 == a1_2))=some r:=by rw [if_pos rfl] at H;exact H
   clear H
   have H:=H1
   clear H1
   obtain rfl:=Option.some.inj H
   go_enter Try.func16,Try.ntmps16
   go_wp2_with (first|((with_reducible refine gate_dst (N:=2) rfl ?_);refine zbx 2 #[.slice A0_0 l0_0.length c0_0,.slice A0_1 l0_1.length c0_1,.int .i64 a0_2] 25 ?_;intro gb281 hg w7 hbox hb;have n0_:=zkH HB hb;have n1_:=zm (hbox);have n2_:=zkG HB hg;have n3_:=zkG HB hg;clear HB;have HB:=n0_;have BK281:=n1_;have GW281:=n2_;have GE281:=n3_;clear n0_ n1_ n2_ n3_;clear hb hbox hg)|((with_reducible refine gate_dst (N:=3) rfl ?_);refine zbx 3 #[.slice A1_0 l1_0.length c1_0,.slice A1_1 l1_1.length c1_1,.int .i64 a1_2] 25 ?_;intro gb282 hg w8 hbox hb;have n0_:=zkB BK281 hb;have n1_:=zkH HB hb;have n2_:=zm (hbox);have n3_:=zkG HB hg;have n4_:=zkG HB hg;have n5_:=zkN BK281 hg;have n6_:=zkM BK281 hg;clear BK281 HB;have BK281:=n0_;have HB:=n1_;have BK282:=n2_;have GW282:=n3_;have GE282:=n4_;have NB281_282:=n5_;have NB282_281:=n6_;clear n0_ n1_ n2_ n3_ n4_ n5_ n6_;clear hb hbox hg;have hnb9:=NB281_282.out;have hnc9:=NB282_281.out;obtain ⟨hcz10_0,hcz10_1,hcz10_2,hfz10_0,hfz10_1,hfz10_2⟩:=zc3 BK281.out;obtain ⟨hcz11_0,hcz11_1,hcz11_2,hfz11_0,hfz11_1,hfz11_2⟩:=zc3 BK282.out)|((with_reducible refine gate_callee (f:=53) rfl ?_);refine goesL_ (some 9) rfl rfl Try.func53 (by kernel_rfl) rfl #[.slice A0_0 l0_0.length c0_0,.slice A1_0 l1_0.length c1_0] rfl (by (try simp only [List.map_toArray,List.map_cons,List.map_nil]);first|done|rfl|(simp only [List.length_drop,List.length_take];rfl)) ?_;(with_reducible refine (slipwayref06_bools.calls k _ _ l0_0 _ _ l1_0 true _ ?side1 ?side2 ?side3 ?side4 A3.out).mono ?_);(case side1=>exact zC HR0_0);(case side2=>exact HC0_0.out);(case side3=>exact zC HR1_0);(case side4=>exact HC1_0.out);rintro e w' ⟨rfl,⟨nd,rfl⟩⟩;refine ⟨_,rfl,?_⟩)|(go_at_call 54;(with_reducible refine (slipwayref06_nums.calls k _ _ l0_1 _ _ l1_1 true _ ?side1 ?side2 ?side3 ?side4 A5.out).mono ?_);(case side1=>repeat (first|exact (Kd.C_below HR0_1.out (zb_))|(with_reducible refine Kd.C_alloc ?_ _)|(with_reducible refine Kd.C_drewN ?_ _)|(with_reducible refine Kd.C_drew ?_)));(case side2=>exact HC0_1.out);(case side3=>repeat (first|exact (Kd.C_below HR1_1.out (zb_))|(with_reducible refine Kd.C_alloc ?_ _)|(with_reducible refine Kd.C_drewN ?_ _)|(with_reducible refine Kd.C_drew ?_)));(case side4=>exact HC1_1.out);rintro e w' ⟨rfl,⟨nd,rfl⟩⟩))
   go_ret
   exact ⟨ze_,zb_⟩
  ·replace c6:=Bool.eq_false_iff.mpr c6
   subst c6
   have H1:(some false)=some r:=by rw [if_neg (show ¬ (false=true) by decide)] at H;exact H
   clear H
   have H:=H1
   clear H1
   obtain rfl:=Option.some.inj H
   go_enter Try.func16,Try.ntmps16
   go_wp2_with (first|((with_reducible refine gate_dst (N:=2) rfl ?_);refine zbx 2 #[.slice A0_0 l0_0.length c0_0,.slice A0_1 l0_1.length c0_1,.int .i64 a0_2] 25 ?_;intro gb281 hg w12 hbox hb;have n0_:=zkH HB hb;have n1_:=zm (hbox);have n2_:=zkG HB hg;have n3_:=zkG HB hg;clear HB;have HB:=n0_;have BK281:=n1_;have GW281:=n2_;have GE281:=n3_;clear n0_ n1_ n2_ n3_;clear hb hbox hg)|((with_reducible refine gate_dst (N:=3) rfl ?_);refine zbx 3 #[.slice A1_0 l1_0.length c1_0,.slice A1_1 l1_1.length c1_1,.int .i64 a1_2] 25 ?_;intro gb282 hg w13 hbox hb;have n0_:=zkB BK281 hb;have n1_:=zkH HB hb;have n2_:=zm (hbox);have n3_:=zkG HB hg;have n4_:=zkG HB hg;have n5_:=zkN BK281 hg;have n6_:=zkM BK281 hg;clear BK281 HB;have BK281:=n0_;have HB:=n1_;have BK282:=n2_;have GW282:=n3_;have GE282:=n4_;have NB281_282:=n5_;have NB282_281:=n6_;clear n0_ n1_ n2_ n3_ n4_ n5_ n6_;clear hb hbox hg;have hnb14:=NB281_282.out;have hnc14:=NB282_281.out;obtain ⟨hcz15_0,hcz15_1,hcz15_2,hfz15_0,hfz15_1,hfz15_2⟩:=zc3 BK281.out;obtain ⟨hcz16_0,hcz16_1,hcz16_2,hfz16_0,hfz16_1,hfz16_2⟩:=zc3 BK282.out)|((with_reducible refine gate_callee (f:=53) rfl ?_);refine goesL_ (some 9) rfl rfl Try.func53 (by kernel_rfl) rfl #[.slice A0_0 l0_0.length c0_0,.slice A1_0 l1_0.length c1_0] rfl (by (try simp only [List.map_toArray,List.map_cons,List.map_nil]);first|done|rfl|(simp only [List.length_drop,List.length_take];rfl)) ?_;(with_reducible refine (slipwayref06_bools.calls k _ _ l0_0 _ _ l1_0 true _ ?side1 ?side2 ?side3 ?side4 A3.out).mono ?_);(case side1=>exact zC HR0_0);(case side2=>exact HC0_0.out);(case side3=>exact zC HR1_0);(case side4=>exact HC1_0.out);rintro e w' ⟨rfl,⟨nd,rfl⟩⟩;refine ⟨_,rfl,?_⟩)|(go_at_call 54;(with_reducible refine (slipwayref06_nums.calls k _ _ l0_1 _ _ l1_1 false _ ?side1 ?side2 ?side3 ?side4 A5.out).mono ?_);(case side1=>repeat (first|exact (Kd.C_below HR0_1.out (zb_))|(with_reducible refine Kd.C_alloc ?_ _)|(with_reducible refine Kd.C_drewN ?_ _)|(with_reducible refine Kd.C_drew ?_)));(case side2=>exact HC0_1.out);(case side3=>repeat (first|exact (Kd.C_below HR1_1.out (zb_))|(with_reducible refine Kd.C_alloc ?_ _)|(with_reducible refine Kd.C_drewN ?_ _)|(with_reducible refine Kd.C_drew ?_)));(case side4=>exact HC1_1.out);rintro e w' ⟨rfl,⟨nd,rfl⟩⟩))
   go_ret
   exact ⟨ze_,zb_⟩
 ·replace c4:=Bool.eq_false_iff.mpr c4
  subst c4
  have H1:(some false)=some r:=by rw [if_neg (show ¬ (false=true) by decide)] at H;exact H
  clear H
  have H:=H1
  clear H1
  obtain rfl:=Option.some.inj H
  go_enter Try.func16,Try.ntmps16
  go_wp2_with (first|((with_reducible refine gate_dst (N:=2) rfl ?_);refine zbx 2 #[.slice A0_0 l0_0.length c0_0,.slice A0_1 l0_1.length c0_1,.int .i64 a0_2] 25 ?_;intro gb281 hg w17 hbox hb;have n0_:=zkH HB hb;have n1_:=zm (hbox);have n2_:=zkG HB hg;have n3_:=zkG HB hg;clear HB;have HB:=n0_;have BK281:=n1_;have GW281:=n2_;have GE281:=n3_;clear n0_ n1_ n2_ n3_;clear hb hbox hg)|((with_reducible refine gate_dst (N:=3) rfl ?_);refine zbx 3 #[.slice A1_0 l1_0.length c1_0,.slice A1_1 l1_1.length c1_1,.int .i64 a1_2] 25 ?_;intro gb282 hg w18 hbox hb;have n0_:=zkB BK281 hb;have n1_:=zkH HB hb;have n2_:=zm (hbox);have n3_:=zkG HB hg;have n4_:=zkG HB hg;have n5_:=zkN BK281 hg;have n6_:=zkM BK281 hg;clear BK281 HB;have BK281:=n0_;have HB:=n1_;have BK282:=n2_;have GW282:=n3_;have GE282:=n4_;have NB281_282:=n5_;have NB282_281:=n6_;clear n0_ n1_ n2_ n3_ n4_ n5_ n6_;clear hb hbox hg;have hnb19:=NB281_282.out;have hnc19:=NB282_281.out;obtain ⟨hcz20_0,hcz20_1,hcz20_2,hfz20_0,hfz20_1,hfz20_2⟩:=zc3 BK281.out;obtain ⟨hcz21_0,hcz21_1,hcz21_2,hfz21_0,hfz21_1,hfz21_2⟩:=zc3 BK282.out)|((with_reducible refine gate_callee (f:=53) rfl ?_);refine goesL_ (some 9) rfl rfl Try.func53 (by kernel_rfl) rfl #[.slice A0_0 l0_0.length c0_0,.slice A1_0 l1_0.length c1_0] rfl (by (try simp only [List.map_toArray,List.map_cons,List.map_nil]);first|done|rfl|(simp only [List.length_drop,List.length_take];rfl)) ?_;(with_reducible refine (slipwayref06_bools.calls k _ _ l0_0 _ _ l1_0 false _ ?side1 ?side2 ?side3 ?side4 A3.out).mono ?_);(case side1=>exact zC HR0_0);(case side2=>exact HC0_0.out);(case side3=>exact zC HR1_0);(case side4=>exact HC1_0.out);rintro e w' ⟨rfl,⟨nd,rfl⟩⟩;refine ⟨_,rfl,?_⟩))
  go_ret
  exact ⟨ze_,zb_⟩
end Go.Proofs.Ytkhbmgclklmimaa.Print
end
section
namespace Go.Proofs.Ytkhbmgclklmimaa.Print
open Go.RowKit Go.Proofs.YtkhbmgclklmimaaW.PrintWords Go.Proofs.YtkhbmgclklmimaaW.PrintLast Go.Proofs.YtkhbmgclklmimaaW.PrintMore
attribute [local go_sem] max2_int min2_int max_two min_two max_three min_three max_four min_four   -- for this text's walks alone
attribute [local go_sem ↓] Go.Proofs.Ytkhbmgclklmimaa.Sem.isSome_setCell
attribute [local go_sem] Go.Instr.field Go.asAgg
set_option linter.unusedVariables false
set_option linter.unusedSimpArgs false
theorem eqA55 (d:Nat) (w:World) (x0 y0:Int) (x1 y1:Int) (x2 y2:Int) :
  (Op.equalIn (d + 2) 55 (.agg #[.int .i64 x0,.int .i64 x1,.int .i64 x2]) (.agg #[.int .i64 y0,.int .i64 y1,.int .i64 y2])).run Try.prog w=.ok (x0 == y0 && (x1 == y1 && (x2 == y2))) w:=by
 refine eqA_of Try.underlying55 (by kernel_rfl) ?_
 refine eqf_cons (by rfl) (by go_simp;rfl) (by go_simp;rfl) (by go_simp) ?_
 refine eqf_cons (by rfl) (by go_simp;rfl) (by go_simp;rfl) (by go_simp) ?_
 exact eqf_last (by rfl) (by go_simp;rfl) (by go_simp;rfl) (by go_simp)
end Go.Proofs.Ytkhbmgclklmimaa.Print
end
section
namespace Go.Proofs.Ytkhbmgclklmimaa.Print
open Go.RowKit Go.Proofs.YtkhbmgclklmimaaW.PrintWords Go.Proofs.YtkhbmgclklmimaaW.PrintLast Go.Proofs.YtkhbmgclklmimaaW.PrintMore
attribute [local go_sem] max2_int min2_int max_two min_two max_three min_three max_four min_four   -- for this text's walks alone
attribute [local go_sem ↓] Go.Proofs.Ytkhbmgclklmimaa.Sem.isSome_setCell
attribute [local go_sem] Go.Instr.field Go.asAgg
set_option linter.unusedVariables false
set_option linter.unusedSimpArgs false
attribute [local go_sem high] eqA55
def mapjnl_gen.f (a0:Int):Option (Bool):=if a0 ≥ 0 then (some (decide (a0≤1152921504606846976))) else (some false)
set_option maxHeartbeats 8000000 in
set_option maxRecDepth 100000 in
theorem mapjnl_gen.calls (a0:Int) (r:Bool) (w:World) (h:mapjnl_gen.f a0=some r) :
  Calls Try.prog 65 #[.int .i64 a0] w fun e w'=>e=.returned (.bool r)∧Drawn0 w w':=by
 have H:(if a0 ≥ 0 then (some (decide (a0≤1152921504606846976))) else (some false))=some r:=h
 clear h
 by_cases c2:a0 ≥ 0
 ·rw [if_pos c2] at H
  have c2b0:decide (0≤a0)=true:=decide_eq_true c2
  clear c2
  obtain rfl:=Option.some.inj H
  go_enter Try.func65,Try.ntmps65
  go_wp2
  go_ret
  exact ⟨by first|rfl|(simp;done)|(simp [*];done),by repeat (first|exact Drawn0.refl _|apply Drawn0.step)⟩
 ·rw [if_neg c2] at H
  have c2b0:decide (0≤a0)=false:=decide_eq_false c2
  clear c2
  obtain rfl:=Option.some.inj H
  go_enter Try.func65,Try.ntmps65
  go_wp2
  go_ret
  exact ⟨by first|rfl|(simp;done)|(simp [*];done),by repeat (first|exact Drawn0.refl _|apply Drawn0.step)⟩
end Go.Proofs.Ytkhbmgclklmimaa.Print
end
section
namespace Go.Proofs.Ytkhbmgclklmimaa.Print
open Go.RowKit Go.Proofs.YtkhbmgclklmimaaW.PrintWords Go.Proofs.YtkhbmgclklmimaaW.PrintLast Go.Proofs.YtkhbmgclklmimaaW.PrintMore
attribute [local go_sem] max2_int min2_int max_two min_two max_three min_three max_four min_four   -- for this text's walks alone
attribute [local go_sem ↓] Go.Proofs.Ytkhbmgclklmimaa.Sem.isSome_setCell
attribute [local go_sem] Go.Instr.field Go.asAgg
set_option linter.unusedVariables false
set_option linter.unusedSimpArgs false
def mapjnl_fits_1.f (a0:Int):Option (Bool):=(mapjnl_worn.f a0).bind fun t597=>(some (!t597))
set_option maxHeartbeats 8000000 in
set_option maxRecDepth 100000 in
theorem mapjnl_fits_1.calls (a0:Int) (r:Bool) (w:World) (h:mapjnl_fits_1.f a0=some r) :
  Calls Try.prog 82 #[.int .i64 a0] w fun e w'=>e=.returned (.bool r)∧Drawn0 w w':=by
 have H:((mapjnl_worn.f a0).bind fun t597=>(some (!t597)))=some r:=h
 clear h
 replace H:=Option.bind_eq_some_iff.mp H
 obtain ⟨t597,A20,H⟩:=H
 replace H:(some (!t597))=some r:=H
 have A2:=zm A20
 clear A20
 obtain rfl:=Option.some.inj H
 go_enter Try.func82,Try.ntmps82
 go_wp2_with (first|((with_reducible refine gate_callee (f:=58) rfl ?_);refine goesL_ (some 4) rfl rfl Try.func58 (by kernel_rfl) rfl #[.int .i64 a0] rfl (by (try simp only [List.map_toArray,List.map_cons,List.map_nil]);first|done|rfl|(simp only [List.length_drop,List.length_take];rfl)) ?_;(with_reducible refine (mapjnl_worn.calls a0 t597 _ A2.out).mono ?_);rintro e w' ⟨rfl,⟨nd,rfl⟩⟩;refine ⟨_,rfl,?_⟩))
 go_ret
 exact ⟨by first|rfl|(simp;done)|(simp [*];done),by repeat (first|exact Drawn0.refl _|apply Drawn0.step)⟩
def slices_IndexFunc_int64_int64_82.l0:Nat → List Int → Int → Int → Option (Int)
 | 0,_,_,_=>none
 | k + 1,x0,x7,x8=>if x8 < x7 then (if 0≤x8 then (if x8 < (x0.length:Int) then ((mapjnl_fits_1.f (rd x0 x8)).bind fun t599=>(if t599=true then (some x8) else (slices_IndexFunc_int64_int64_82.l0 k x0 x7 (wrap64 (x8 + 1))))) else (none)) else (none)) else (some (-1))
def slices_IndexFunc_int64_int64_82.f (k:Nat) (l0:List Int) :Option (Int):=slices_IndexFunc_int64_int64_82.l0 k l0 (l0.length:Int) 0
set_option maxHeartbeats 8000000 in
set_option maxRecDepth 100000 in
theorem slices_IndexFunc_int64_int64_82.calls (k:Nat) (A0:Option Addr) (c0:Nat) (l0:List Int)  (r:Int) (w:World) (hr0:Kd.C (Kd.int .i64) w A0 l0.length l0) (hc0:l0.length≤c0) (h:slices_IndexFunc_int64_int64_82.f k l0=some r) :
  Calls Try.prog 80 #[.slice A0 l0.length c0,.func (.func 82) #[] #[]] w fun e w'=>e=.returned (.int .i64 r)∧Below w.heap.size w w':=by
 have HR0:=zm hr0
 have HC0:=zm hc0
 clear hr0 hc0
 have HB:=zm (Below.refl w.heap.size w)
 have H:(slices_IndexFunc_int64_int64_82.l0 k l0 (l0.length:Int) 0)=some r:=h
 clear h
 have H':=zm H
 clear H
 go_enter Try.func80,Try.ntmps80
 go_wp2
 go_loopg [8] k (fun kq v8 w'=>∃ (x8_1:Int),v8=.int .i64 x8_1∧Aside0 (slices_IndexFunc_int64_int64_82.l0 kq l0 (l0.length:Int) x8_1=some r)∧Aside0 (kq≤k)∧Aside0 (Below w.heap.size w w'))
 case atStart=>exact ⟨(0),zs_,H',⟨Nat.le_refl _⟩,⟨zb_⟩⟩
 case round =>
  clear H'
  try clear p2
  obtain ⟨x8_1,rfl,HA,HK1,HB⟩:=hrel
  cases gk with
  | zero=>exact absurd HA.out (by simp [slices_IndexFunc_int64_int64_82.l0])
  | succ k1 =>
   have H:=HA.out
   clear HA
   simp only [slices_IndexFunc_int64_int64_82.l0] at H
   by_cases c3:x8_1 < (l0.length:Int)
   ·rw [if_pos c3] at H
    have c3b0:decide (x8_1 < (l0.length:Int))=true:=decide_eq_true c3
    clear c3
    by_cases c4:0≤x8_1
    ·rw [if_pos c4] at H
     have c4b0:decide (0≤x8_1)=true:=decide_eq_true c4
     clear c4
     by_cases c5:x8_1 < (l0.length:Int)
     ·rw [if_pos c5] at H
      have c5b0:decide (x8_1 < (l0.length:Int))=true:=decide_eq_true c5
      clear c5
      replace H:=Option.bind_eq_some_iff.mp H
      obtain ⟨t599,A60,H⟩:=H
      replace H:(if t599=true then (some x8_1) else (slices_IndexFunc_int64_int64_82.l0 k1 l0 (l0.length:Int) (wrap64 (x8_1 + 1))))=some r:=H
      have A6:=zm A60
      clear A60
      by_cases c7:t599=true
      ·subst c7
       have H1:(some x8_1)=some r:=by rw [if_pos rfl] at H;exact H
       clear H
       have H:=H1
       clear H1
       obtain rfl:=Option.some.inj H
       have p598:0≤(x8_1:Int):=za_
       have q598:x8_1 < (l0.length:Int):=za_
       obtain ⟨ad598,e598,hx598_0⟩:=Kd.at_int HR0.out x8_1 p598 q598
       cases e598
       replace hx598_0:=zhx HB hx598_0
       replace p598:=eq_true p598
       replace q598:=eq_true q598
       go_wp2_with (first|(go_at_call 82;(with_reducible refine (mapjnl_fits_1.calls  (rd l0 x8_1) true _ A6.out).mono ?_);rintro e w' ⟨rfl,⟨nd,rfl⟩⟩))
       go_ret
       exact ⟨ze_,zb_⟩
      ·replace c7:=Bool.eq_false_iff.mpr c7
       subst c7
       have H1:(slices_IndexFunc_int64_int64_82.l0 k1 l0 (l0.length:Int) (wrap64 (x8_1 + 1)))=some r:=by rw [if_neg (show ¬ (false=true) by decide)] at H;exact H
       clear H
       have H:=H1
       clear H1
       have H':=zm H
       clear H
       have p598:0≤(x8_1:Int):=za_
       have q598:x8_1 < (l0.length:Int):=za_
       obtain ⟨ad598,e598,hx598_0⟩:=Kd.at_int HR0.out x8_1 p598 q598
       cases e598
       replace hx598_0:=zhx HB hx598_0
       replace p598:=eq_true p598
       replace q598:=eq_true q598
       go_wp2_with (first|(go_at_call 82;(with_reducible refine (mapjnl_fits_1.calls  (rd l0 x8_1) false _ A6.out).mono ?_);rintro e w' ⟨rfl,⟨nd,rfl⟩⟩))
       go_roundg k1
       case measure=>have:=HK1.out;omega
       case rel=>exact ⟨(wrap64 (x8_1 + 1)),zs_,H',⟨by have:=HK1.out;omega⟩,⟨zb_⟩⟩
     ·rw [if_neg c5] at H
      exact absurd H (by simp)
    ·rw [if_neg c4] at H
     exact absurd H (by simp)
   ·rw [if_neg c3] at H
    have c3b0:decide (x8_1 < (l0.length:Int))=false:=decide_eq_false c3
    clear c3
    obtain rfl:=Option.some.inj H
    go_wp2
    go_ret
    exact ⟨ze_,zb_⟩
def slices_ContainsFunc_int64_int64_82.f (k:Nat) (l0:List Int) :Option (Bool):=(slices_IndexFunc_int64_int64_82.f k l0).bind fun t600=>(some (decide (t600 ≥ 0)))
set_option maxHeartbeats 8000000 in
set_option maxRecDepth 100000 in
theorem slices_ContainsFunc_int64_int64_82.calls (k:Nat) (A0:Option Addr) (c0:Nat) (l0:List Int)  (r:Bool) (w:World) (hr0:Kd.C (Kd.int .i64) w A0 l0.length l0) (hc0:l0.length≤c0) (h:slices_ContainsFunc_int64_int64_82.f k l0=some r) :
  Calls Try.prog 56 #[.slice A0 l0.length c0,.func (.func 82) #[] #[]] w fun e w'=>e=.returned (.bool r)∧Below w.heap.size w w':=by
 have HR0:=zm hr0
 have HC0:=zm hc0
 clear hr0 hc0
 have HB:=zm (Below.refl w.heap.size w)
 have H:((slices_IndexFunc_int64_int64_82.f k l0).bind fun t600=>(some (decide (t600 ≥ 0))))=some r:=h
 clear h
 replace H:=Option.bind_eq_some_iff.mp H
 obtain ⟨t600,A30,H⟩:=H
 replace H:(some (decide (t600 ≥ 0)))=some r:=H
 have A3:=zm A30
 clear A30
 obtain rfl:=Option.some.inj H
 go_enter Try.func56,Try.ntmps56
 go_wp2_with (first|((with_reducible refine gate_callee (f:=80) rfl ?_);refine goesL_ (some 7) rfl rfl Try.func80 (by kernel_rfl) rfl #[.slice A0 l0.length c0,.func (.func 82) #[] #[]] rfl (by (try simp only [List.map_toArray,List.map_cons,List.map_nil]);first|done|rfl|(simp only [List.length_drop,List.length_take];rfl)) ?_;(with_reducible refine (slices_IndexFunc_int64_int64_82.calls k _ _ l0  t600 _ ?side1 ?side2 A3.out).mono ?_);(case side1=>repeat (first|exact HR0.out|(with_reducible refine Kd.C_alloc ?_ _)|(with_reducible refine Kd.C_drewN ?_ _)|(with_reducible refine Kd.C_drew ?_)));(case side2=>exact HC0.out);rintro e w4 ⟨rfl,hb⟩;refine ⟨_,rfl,?_⟩;have n0_:=zkH HB hb;clear HB;have HB:=n0_;clear n0_;(try clear hb);(try clear hb2);(try clear hk);(try clear hi)))
 go_ret
 exact ⟨ze_,zb_⟩
def mapjnl_fits_2.f (k:Nat) (a0_0:Int) (a0_1:Int) (a0_2:Int):Option (Bool):=(mapjnl_record.f k a0_0 a0_1 a0_2).bind fun t602=>(some (!t602))
set_option maxHeartbeats 8000000 in
set_option maxRecDepth 100000 in
theorem mapjnl_fits_2.calls (k:Nat) (a0_0:Int) (a0_1:Int) (a0_2:Int) (r:Bool) (w:World) (h:mapjnl_fits_2.f k a0_0 a0_1 a0_2=some r) :
  Calls Try.prog 83 #[.agg #[.int .i64 a0_0,.int .i64 a0_1,.int .i64 a0_2]] w fun e w'=>e=.returned (.bool r)∧Below w.heap.size w w':=by
 have hu55:=Try.underlying55
 have HB:=zm (Below.refl w.heap.size w)
 have H:((mapjnl_record.f k a0_0 a0_1 a0_2).bind fun t602=>(some (!t602)))=some r:=h
 clear h
 replace H:=Option.bind_eq_some_iff.mp H
 obtain ⟨t602,A20,H⟩:=H
 replace H:(some (!t602))=some r:=H
 have A2:=zm A20
 clear A20
 obtain rfl:=Option.some.inj H
 go_enter Try.func83,Try.ntmps83
 go_wp2_with (first|((with_reducible refine gate_dst (N:=1) rfl ?_);refine zbx 1 #[.int .i64 a0_0,.int .i64 a0_1,.int .i64 a0_2] 55 ?_;intro gb601 hg w3 hbox hb;have n0_:=zkH HB hb;have n1_:=zm (hbox);have n2_:=zkG HB hg;have n3_:=zkG HB hg;clear HB;have HB:=n0_;have BK601:=n1_;have GW601:=n2_;have GE601:=n3_;clear n0_ n1_ n2_ n3_;clear hb hbox hg;obtain ⟨hcz4_0,hcz4_1,hcz4_2,hfz4_0,hfz4_1,hfz4_2⟩:=zc3 BK601.out)|((with_reducible refine gate_callee (f:=61) rfl ?_);refine goesL_ (some 4) rfl rfl Try.func61 (by kernel_rfl) rfl #[.agg #[.int .i64 a0_0,.int .i64 a0_1,.int .i64 a0_2]] rfl (by (try simp only [List.map_toArray,List.map_cons,List.map_nil]);first|done|rfl|(simp only [List.length_drop,List.length_take];rfl)) ?_;(with_reducible refine (mapjnl_record.calls k a0_0 a0_1 a0_2 t602 _ A2.out).mono ?_);rintro e w5 ⟨rfl,hb⟩;refine ⟨_,rfl,?_⟩;have n0_:=zkB BK601 hb;have n1_:=zkH HB hb;clear BK601 HB;have BK601:=n0_;have HB:=n1_;clear n0_ n1_;(try clear hb);(try clear hb2);(try clear hk);(try clear hi)))
 go_ret
 exact ⟨ze_,zb_⟩
def api_MapRecord_81_83.l0:Nat → List (S55) → Int → Int → Option (Int)
 | 0,_,_,_=>none
 | k + 1,x0,x7,x8=>if x8 < x7 then (if 0≤x8 then (if x8 < (x0.length:Int) then ((mapjnl_fits_2.f k ((rd_T55 x0 x8).f0) ((rd_T55 x0 x8).f1) ((rd_T55 x0 x8).f2)).bind fun t604=>(if t604=true then (some x8) else (api_MapRecord_81_83.l0 k x0 x7 (wrap64 (x8 + 1))))) else (none)) else (none)) else (some (-1))
def api_MapRecord_81_83.f (k:Nat) (l0:List (S55)) :Option (Int):=api_MapRecord_81_83.l0 k l0 (l0.length:Int) 0
set_option maxHeartbeats 8000000 in
set_option maxRecDepth 100000 in
theorem api_MapRecord_81_83.calls (k:Nat) (A0:Option Addr) (c0:Nat) (l0:List (S55))  (r:Int) (w:World) (hr0:Kd.C k55 w A0 l0.length l0) (hc0:l0.length≤c0) (h:api_MapRecord_81_83.f k l0=some r) :
  Calls Try.prog 81 #[.slice A0 l0.length c0,.func (.func 83) #[] #[]] w fun e w'=>e=.returned (.int .i64 r)∧Below w.heap.size w w':=by
 have hu55:=Try.underlying55
 have HR0:=zm hr0
 have HC0:=zm hc0
 clear hr0 hc0
 have HB:=zm (Below.refl w.heap.size w)
 have H:(api_MapRecord_81_83.l0 k l0 (l0.length:Int) 0)=some r:=h
 clear h
 have H':=zm H
 clear H
 go_enter Try.func81,Try.ntmps81
 go_wp2
 go_loopg [8] k (fun kq v8 w'=>∃ (x8_1:Int),v8=.int .i64 x8_1∧Aside0 (api_MapRecord_81_83.l0 kq l0 (l0.length:Int) x8_1=some r)∧Aside0 (kq≤k)∧Aside0 (Below w.heap.size w w'))
 case atStart=>exact ⟨(0),zs_,H',⟨Nat.le_refl _⟩,⟨zb_⟩⟩
 case round =>
  clear H'
  try clear p2
  obtain ⟨x8_1,rfl,HA,HK1,HB⟩:=hrel
  cases gk with
  | zero=>exact absurd HA.out (by simp [api_MapRecord_81_83.l0])
  | succ k1 =>
   have H:=HA.out
   clear HA
   simp only [api_MapRecord_81_83.l0] at H
   by_cases c3:x8_1 < (l0.length:Int)
   ·rw [if_pos c3] at H
    have c3b0:decide (x8_1 < (l0.length:Int))=true:=decide_eq_true c3
    clear c3
    by_cases c4:0≤x8_1
    ·rw [if_pos c4] at H
     have c4b0:decide (0≤x8_1)=true:=decide_eq_true c4
     clear c4
     by_cases c5:x8_1 < (l0.length:Int)
     ·rw [if_pos c5] at H
      have c5b0:decide (x8_1 < (l0.length:Int))=true:=decide_eq_true c5
      clear c5
      replace H:=Option.bind_eq_some_iff.mp H
      obtain ⟨t604,A60,H⟩:=H
      replace H:(if t604=true then (some x8_1) else (api_MapRecord_81_83.l0 k1 l0 (l0.length:Int) (wrap64 (x8_1 + 1))))=some r:=H
      have A6:=zm A60
      clear A60
      by_cases c7:t604=true
      ·subst c7
       have H1:(some x8_1)=some r:=by rw [if_pos rfl] at H;exact H
       clear H
       have H:=H1
       clear H1
       obtain rfl:=Option.some.inj H
       have p603:0≤(x8_1:Int):=za_
       have q603:x8_1 < (l0.length:Int):=za_
       obtain ⟨ad603,e603,hx603_0,hx603_1,hx603_2⟩:=at_T55 HR0.out x8_1 p603 q603
       cases e603
       replace hx603_0:=zhx HB hx603_0
       replace hx603_1:=zhx HB hx603_1
       replace hx603_2:=zhx HB hx603_2
       replace p603:=eq_true p603
       replace q603:=eq_true q603
       go_wp2_with (first|(go_at_call 83;(with_reducible refine (mapjnl_fits_2.calls  k1 ((rd_T55 l0 x8_1).f0) ((rd_T55 l0 x8_1).f1) ((rd_T55 l0 x8_1).f2) true _ A6.out).mono ?_);rintro e w8 ⟨rfl,hb⟩;have n0_:=zkH HB hb;clear HB;have HB:=n0_;clear n0_;(try clear hb);(try clear hb2);(try clear hk);(try clear hi)))
       go_ret
       exact ⟨ze_,zb_⟩
      ·replace c7:=Bool.eq_false_iff.mpr c7
       subst c7
       have H1:(api_MapRecord_81_83.l0 k1 l0 (l0.length:Int) (wrap64 (x8_1 + 1)))=some r:=by rw [if_neg (show ¬ (false=true) by decide)] at H;exact H
       clear H
       have H:=H1
       clear H1
       have H':=zm H
       clear H
       have p603:0≤(x8_1:Int):=za_
       have q603:x8_1 < (l0.length:Int):=za_
       obtain ⟨ad603,e603,hx603_0,hx603_1,hx603_2⟩:=at_T55 HR0.out x8_1 p603 q603
       cases e603
       replace hx603_0:=zhx HB hx603_0
       replace hx603_1:=zhx HB hx603_1
       replace hx603_2:=zhx HB hx603_2
       replace p603:=eq_true p603
       replace q603:=eq_true q603
       go_wp2_with (first|(go_at_call 83;(with_reducible refine (mapjnl_fits_2.calls  k1 ((rd_T55 l0 x8_1).f0) ((rd_T55 l0 x8_1).f1) ((rd_T55 l0 x8_1).f2) false _ A6.out).mono ?_);rintro e w9 ⟨rfl,hb⟩;have n0_:=zkH HB hb;clear HB;have HB:=n0_;clear n0_;(try clear hb);(try clear hb2);(try clear hk);(try clear hi)))
       go_roundg k1
       case measure=>have:=HK1.out;omega
       case rel=>exact ⟨(wrap64 (x8_1 + 1)),zs_,H',⟨by have:=HK1.out;omega⟩,⟨zb_⟩⟩
     ·rw [if_neg c5] at H
      exact absurd H (by simp)
    ·rw [if_neg c4] at H
     exact absurd H (by simp)
   ·rw [if_neg c3] at H
    have c3b0:decide (x8_1 < (l0.length:Int))=false:=decide_eq_false c3
    clear c3
    obtain rfl:=Option.some.inj H
    go_wp2
    go_ret
    exact ⟨ze_,zb_⟩
def api_MapRecord_68_83.f (k:Nat) (l0:List (S55)) :Option (Bool):=(api_MapRecord_81_83.f k l0).bind fun t605=>(some (decide (t605 ≥ 0)))
set_option maxHeartbeats 8000000 in
set_option maxRecDepth 100000 in
theorem api_MapRecord_68_83.calls (k:Nat) (A0:Option Addr) (c0:Nat) (l0:List (S55))  (r:Bool) (w:World) (hr0:Kd.C k55 w A0 l0.length l0) (hc0:l0.length≤c0) (h:api_MapRecord_68_83.f k l0=some r) :
  Calls Try.prog 68 #[.slice A0 l0.length c0,.func (.func 83) #[] #[]] w fun e w'=>e=.returned (.bool r)∧Below w.heap.size w w':=by
 have HR0:=zm hr0
 have HC0:=zm hc0
 clear hr0 hc0
 have HB:=zm (Below.refl w.heap.size w)
 have H:((api_MapRecord_81_83.f k l0).bind fun t605=>(some (decide (t605 ≥ 0))))=some r:=h
 clear h
 replace H:=Option.bind_eq_some_iff.mp H
 obtain ⟨t605,A30,H⟩:=H
 replace H:(some (decide (t605 ≥ 0)))=some r:=H
 have A3:=zm A30
 clear A30
 obtain rfl:=Option.some.inj H
 go_enter Try.func68,Try.ntmps68
 go_wp2_with (first|((with_reducible refine gate_callee (f:=81) rfl ?_);refine goesL_ (some 7) rfl rfl Try.func81 (by kernel_rfl) rfl #[.slice A0 l0.length c0,.func (.func 83) #[] #[]] rfl (by (try simp only [List.map_toArray,List.map_cons,List.map_nil]);first|done|rfl|(simp only [List.length_drop,List.length_take];rfl)) ?_;(with_reducible refine (api_MapRecord_81_83.calls k _ _ l0  t605 _ ?side1 ?side2 A3.out).mono ?_);(case side1=>repeat (first|exact HR0.out|(with_reducible refine Kd.C_alloc ?_ _)|(with_reducible refine Kd.C_drewN ?_ _)|(with_reducible refine Kd.C_drew ?_)));(case side2=>exact HC0.out);rintro e w4 ⟨rfl,hb⟩;refine ⟨_,rfl,?_⟩;have n0_:=zkH HB hb;clear HB;have HB:=n0_;clear n0_;(try clear hb);(try clear hb2);(try clear hk);(try clear hi)))
 go_ret
 exact ⟨ze_,zb_⟩
end Go.Proofs.Ytkhbmgclklmimaa.Print
end
section
namespace Go.Proofs.Ytkhbmgclklmimaa.Print
open Go.RowKit Go.Proofs.YtkhbmgclklmimaaW.PrintWords Go.Proofs.YtkhbmgclklmimaaW.PrintLast Go.Proofs.YtkhbmgclklmimaaW.PrintMore
attribute [local go_sem] max2_int min2_int max_two min_two max_three min_three max_four min_four   -- for this text's walks alone
attribute [local go_sem ↓] Go.Proofs.Ytkhbmgclklmimaa.Sem.isSome_setCell
attribute [local go_sem] Go.Instr.field Go.asAgg
set_option linter.unusedVariables false
set_option linter.unusedSimpArgs false
def mapjnl_fits.f (k:Nat) (a0_0:Int) (a0_1:Int) (a0_2:Int) (a0_3:Int) (l0_4:List Bool) (l0_5:List Int) (l0_6:List (S55)):Option (Bool):=if a0_0=1 then ((mapjnl_gen.f a0_1).bind fun t607=>(if t607=true then (if a0_2 ≥ 0 then (if a0_2≤3 then (if (l0_4.length:Int) ≥ 1 then (if (l0_4.length:Int)≤64 then (if (l0_5.length:Int)=(l0_4.length:Int) then ((mapjnl_seq.f a0_3).bind fun t608=>(if t608=true then (if (l0_6.length:Int)=0 then ((slices_ContainsFunc_int64_int64_82.f k l0_5).bind fun t609=>(some (!t609))) else (some false)) else (some false))) else (some false)) else (some false)) else (some false)) else (some false)) else (some false)) else (some false))) else (if a0_0=2 then ((mapjnl_gen.f a0_1).bind fun t610=>(if t610=true then (if a0_2=0 then (if a0_3=0 then (if (l0_4.length:Int)=0 then (if (l0_5.length:Int)=0 then (if (l0_6.length:Int)≤24 then ((api_MapRecord_68_83.f k l0_6).bind fun t611=>(some (!t611))) else (some false)) else (some false)) else (some false)) else (some false)) else (some false)) else (some false))) else (some false))
set_option maxHeartbeats 8000000 in
set_option maxRecDepth 100000 in
theorem mapjnl_fits.calls (k:Nat) (a0_0:Int) (a0_1:Int) (a0_2:Int) (a0_3:Int) (A0_4:Option Addr) (c0_4:Nat) (l0_4:List Bool) (A0_5:Option Addr) (c0_5:Nat) (l0_5:List Int) (A0_6:Option Addr) (c0_6:Nat) (l0_6:List (S55)) (r:Bool) (w:World) (hr0_4:Kd.C Kd.bool w A0_4 l0_4.length l0_4) (hc0_4:l0_4.length≤c0_4) (hr0_5:Kd.C (Kd.int .i64) w A0_5 l0_5.length l0_5) (hc0_5:l0_5.length≤c0_5) (hr0_6:Kd.C k55 w A0_6 l0_6.length l0_6) (hc0_6:l0_6.length≤c0_6) (h:mapjnl_fits.f k a0_0 a0_1 a0_2 a0_3 l0_4 l0_5 l0_6=some r) :
  Calls Try.prog 72 #[.agg #[.int .i64 a0_0,.int .i64 a0_1,.int .i64 a0_2,.int .i64 a0_3,.slice A0_4 l0_4.length c0_4,.slice A0_5 l0_5.length c0_5,.slice A0_6 l0_6.length c0_6]] w fun e w'=>e=.returned (.bool r)∧Below w.heap.size w w':=by
 have hu42:=Try.underlying42
 have HR0_4:=zm hr0_4
 have HC0_4:=zm hc0_4
 clear hr0_4 hc0_4
 have HR0_5:=zm hr0_5
 have HC0_5:=zm hc0_5
 clear hr0_5 hc0_5
 have HR0_6:=zm hr0_6
 have HC0_6:=zm hc0_6
 clear hr0_6 hc0_6
 have HB:=zm (Below.refl w.heap.size w)
 have H:(if a0_0=1 then ((mapjnl_gen.f a0_1).bind fun t607=>(if t607=true then (if a0_2 ≥ 0 then (if a0_2≤3 then (if (l0_4.length:Int) ≥ 1 then (if (l0_4.length:Int)≤64 then (if (l0_5.length:Int)=(l0_4.length:Int) then ((mapjnl_seq.f a0_3).bind fun t608=>(if t608=true then (if (l0_6.length:Int)=0 then ((slices_ContainsFunc_int64_int64_82.f k l0_5).bind fun t609=>(some (!t609))) else (some false)) else (some false))) else (some false)) else (some false)) else (some false)) else (some false)) else (some false)) else (some false))) else (if a0_0=2 then ((mapjnl_gen.f a0_1).bind fun t610=>(if t610=true then (if a0_2=0 then (if a0_3=0 then (if (l0_4.length:Int)=0 then (if (l0_5.length:Int)=0 then (if (l0_6.length:Int)≤24 then ((api_MapRecord_68_83.f k l0_6).bind fun t611=>(some (!t611))) else (some false)) else (some false)) else (some false)) else (some false)) else (some false)) else (some false))) else (some false)))=some r:=h
 clear h
 by_cases c2:a0_0=1
 ·rw [if_pos c2] at H
  have c2b0:(a0_0 == 1)=true:=beq_iff_eq.mpr c2
  have c2b1:(a0_0 != 1)=false:=bne_eq_false_iff_eq.mpr c2
  clear c2
  replace H:=Option.bind_eq_some_iff.mp H
  obtain ⟨t607,A30,H⟩:=H
  replace H:(if t607=true then (if a0_2 ≥ 0 then (if a0_2≤3 then (if (l0_4.length:Int) ≥ 1 then (if (l0_4.length:Int)≤64 then (if (l0_5.length:Int)=(l0_4.length:Int) then ((mapjnl_seq.f a0_3).bind fun t608=>(if t608=true then (if (l0_6.length:Int)=0 then ((slices_ContainsFunc_int64_int64_82.f k l0_5).bind fun t609=>(some (!t609))) else (some false)) else (some false))) else (some false)) else (some false)) else (some false)) else (some false)) else (some false)) else (some false))=some r:=H
  have A3:=zm A30
  clear A30
  by_cases c4:t607=true
  ·subst c4
   have H1:(if a0_2 ≥ 0 then (if a0_2≤3 then (if (l0_4.length:Int) ≥ 1 then (if (l0_4.length:Int)≤64 then (if (l0_5.length:Int)=(l0_4.length:Int) then ((mapjnl_seq.f a0_3).bind fun t608=>(if t608=true then (if (l0_6.length:Int)=0 then ((slices_ContainsFunc_int64_int64_82.f k l0_5).bind fun t609=>(some (!t609))) else (some false)) else (some false))) else (some false)) else (some false)) else (some false)) else (some false)) else (some false))=some r:=by rw [if_pos rfl] at H;exact H
   clear H
   have H:=H1
   clear H1
   by_cases c5:a0_2 ≥ 0
   ·rw [if_pos c5] at H
    have c5b0:decide (0≤a0_2)=true:=decide_eq_true c5
    clear c5
    by_cases c6:a0_2≤3
    ·rw [if_pos c6] at H
     have c6b0:decide (a0_2≤3)=true:=decide_eq_true c6
     clear c6
     by_cases c7:(l0_4.length:Int) ≥ 1
     ·rw [if_pos c7] at H
      have c7b0:decide (1≤(l0_4.length:Int))=true:=decide_eq_true c7
      have c7b1:decide (1≤l0_4.length)=true:=decide_eq_true (by omega)
      clear c7
      by_cases c8:(l0_4.length:Int)≤64
      ·rw [if_pos c8] at H
       have c8b0:decide ((l0_4.length:Int)≤64)=true:=decide_eq_true c8
       have c8b1:decide (l0_4.length≤64)=true:=decide_eq_true (by omega)
       clear c8
       by_cases c9:(l0_5.length:Int)=(l0_4.length:Int)
       ·rw [if_pos c9] at H
        have c9b0:((l0_5.length:Int) == (l0_4.length:Int))=true:=beq_iff_eq.mpr c9
        have c9b1:((l0_5.length:Int) != (l0_4.length:Int))=false:=bne_eq_false_iff_eq.mpr c9
        have c9b2:(l0_5.length == l0_4.length)=true:=by first|simpa using c9|(simp at c9 ⊢;omega)
        clear c9
        replace H:=Option.bind_eq_some_iff.mp H
        obtain ⟨t608,A100,H⟩:=H
        replace H:(if t608=true then (if (l0_6.length:Int)=0 then ((slices_ContainsFunc_int64_int64_82.f k l0_5).bind fun t609=>(some (!t609))) else (some false)) else (some false))=some r:=H
        have A10:=zm A100
        clear A100
        by_cases c11:t608=true
        ·subst c11
         have H1:(if (l0_6.length:Int)=0 then ((slices_ContainsFunc_int64_int64_82.f k l0_5).bind fun t609=>(some (!t609))) else (some false))=some r:=by rw [if_pos rfl] at H;exact H
         clear H
         have H:=H1
         clear H1
         by_cases c12:(l0_6.length:Int)=0
         ·rw [if_pos c12] at H
          have c12b0:((l0_6.length:Int) == 0)=true:=beq_iff_eq.mpr c12
          have c12b1:((l0_6.length:Int) != 0)=false:=bne_eq_false_iff_eq.mpr c12
          clear c12
          replace H:=Option.bind_eq_some_iff.mp H
          obtain ⟨t609,A130,H⟩:=H
          replace H:(some (!t609))=some r:=H
          have A13:=zm A130
          clear A130
          obtain rfl:=Option.some.inj H
          go_enter Try.func72,Try.ntmps72
          go_wp2_with (first|((with_reducible refine gate_dst (N:=1) rfl ?_);(try (refine gate_guard (by rfl) ?_;dsimp only));refine zbx 1 #[.int .i64 a0_0,.int .i64 a0_1,.int .i64 a0_2,.int .i64 a0_3,.slice A0_4 l0_4.length c0_4,.slice A0_5 l0_5.length c0_5,.slice A0_6 l0_6.length c0_6] 42 ?_;intro gb606 hg w14 hbox hb;have n0_:=zkH HB hb;have n1_:=zm (hbox);have n2_:=zkG HB hg;have n3_:=zkG HB hg;clear HB;have HB:=n0_;have BK606:=n1_;have GW606:=n2_;have GE606:=n3_;clear n0_ n1_ n2_ n3_;clear hb hbox hg;obtain ⟨hcz15_0,hcz15_1,hcz15_2,hcz15_3,hcz15_4,hcz15_5,hcz15_6,hfz15_0,hfz15_1,hfz15_2,hfz15_3,hfz15_4,hfz15_5,hfz15_6⟩:=zc7 BK606.out)|((with_reducible refine gate_callee (f:=65) rfl ?_);refine goesL_ (some 9) rfl rfl Try.func65 (by kernel_rfl) rfl #[.int .i64 a0_1] rfl (by (try simp only [List.map_toArray,List.map_cons,List.map_nil]);first|done|rfl|(simp only [List.length_drop,List.length_take];rfl)) ?_;(with_reducible refine (mapjnl_gen.calls a0_1 true _ A3.out).mono ?_);rintro e w' ⟨rfl,⟨nd,rfl⟩⟩;refine ⟨_,rfl,?_⟩)|(go_at_call 55;(with_reducible refine (mapjnl_seq.calls a0_3 true _ A10.out).mono ?_);rintro e w' ⟨rfl,⟨nd,rfl⟩⟩)|(go_at_call 56;(with_reducible refine (slices_ContainsFunc_int64_int64_82.calls k _ _ l0_5  t609 _ ?side1 ?side2 A13.out).mono ?_);(case side1=>repeat (first|exact (Kd.C_below HR0_5.out (zb_))|(with_reducible refine Kd.C_alloc ?_ _)|(with_reducible refine Kd.C_drewN ?_ _)|(with_reducible refine Kd.C_drew ?_)));(case side2=>exact HC0_5.out);rintro e w16 ⟨rfl,hb⟩;have n0_:=zkB BK606 hb;have n1_:=zkH HB hb;clear BK606 HB;have BK606:=n0_;have HB:=n1_;clear n0_ n1_;(try clear hb);(try clear hb2);(try clear hk);(try clear hi)))
          go_ret
          exact ⟨ze_,zb_⟩
         ·rw [if_neg c12] at H
          have c12b0:((l0_6.length:Int) == 0)=false:=beq_eq_false_iff_ne.mpr c12
          have c12b1:((l0_6.length:Int) != 0)=true:=bne_iff_ne.mpr c12
          have c12b2:¬ (l0_6=[]):=fun h_=>c12 (by rw [h_];rfl)
          obtain rfl:=Option.some.inj H
          go_enter Try.func72,Try.ntmps72
          go_wp2_with (first|((with_reducible refine gate_dst (N:=1) rfl ?_);(try (refine gate_guard (by rfl) ?_;dsimp only));refine zbx 1 #[.int .i64 a0_0,.int .i64 a0_1,.int .i64 a0_2,.int .i64 a0_3,.slice A0_4 l0_4.length c0_4,.slice A0_5 l0_5.length c0_5,.slice A0_6 l0_6.length c0_6] 42 ?_;intro gb606 hg w17 hbox hb;have n0_:=zkH HB hb;have n1_:=zm (hbox);have n2_:=zkG HB hg;have n3_:=zkG HB hg;clear HB;have HB:=n0_;have BK606:=n1_;have GW606:=n2_;have GE606:=n3_;clear n0_ n1_ n2_ n3_;clear hb hbox hg;obtain ⟨hcz18_0,hcz18_1,hcz18_2,hcz18_3,hcz18_4,hcz18_5,hcz18_6,hfz18_0,hfz18_1,hfz18_2,hfz18_3,hfz18_4,hfz18_5,hfz18_6⟩:=zc7 BK606.out)|((with_reducible refine gate_callee (f:=65) rfl ?_);refine goesL_ (some 9) rfl rfl Try.func65 (by kernel_rfl) rfl #[.int .i64 a0_1] rfl (by (try simp only [List.map_toArray,List.map_cons,List.map_nil]);first|done|rfl|(simp only [List.length_drop,List.length_take];rfl)) ?_;(with_reducible refine (mapjnl_gen.calls a0_1 true _ A3.out).mono ?_);rintro e w' ⟨rfl,⟨nd,rfl⟩⟩;refine ⟨_,rfl,?_⟩)|(go_at_call 55;(with_reducible refine (mapjnl_seq.calls a0_3 true _ A10.out).mono ?_);rintro e w' ⟨rfl,⟨nd,rfl⟩⟩))
          go_ret
          exact ⟨ze_,zb_⟩
        ·replace c11:=Bool.eq_false_iff.mpr c11
         subst c11
         have H1:(some false)=some r:=by rw [if_neg (show ¬ (false=true) by decide)] at H;exact H
         clear H
         have H:=H1
         clear H1
         obtain rfl:=Option.some.inj H
         go_enter Try.func72,Try.ntmps72
         go_wp2_with (first|((with_reducible refine gate_dst (N:=1) rfl ?_);(try (refine gate_guard (by rfl) ?_;dsimp only));refine zbx 1 #[.int .i64 a0_0,.int .i64 a0_1,.int .i64 a0_2,.int .i64 a0_3,.slice A0_4 l0_4.length c0_4,.slice A0_5 l0_5.length c0_5,.slice A0_6 l0_6.length c0_6] 42 ?_;intro gb606 hg w19 hbox hb;have n0_:=zkH HB hb;have n1_:=zm (hbox);have n2_:=zkG HB hg;have n3_:=zkG HB hg;clear HB;have HB:=n0_;have BK606:=n1_;have GW606:=n2_;have GE606:=n3_;clear n0_ n1_ n2_ n3_;clear hb hbox hg;obtain ⟨hcz20_0,hcz20_1,hcz20_2,hcz20_3,hcz20_4,hcz20_5,hcz20_6,hfz20_0,hfz20_1,hfz20_2,hfz20_3,hfz20_4,hfz20_5,hfz20_6⟩:=zc7 BK606.out)|((with_reducible refine gate_callee (f:=65) rfl ?_);refine goesL_ (some 9) rfl rfl Try.func65 (by kernel_rfl) rfl #[.int .i64 a0_1] rfl (by (try simp only [List.map_toArray,List.map_cons,List.map_nil]);first|done|rfl|(simp only [List.length_drop,List.length_take];rfl)) ?_;(with_reducible refine (mapjnl_gen.calls a0_1 true _ A3.out).mono ?_);rintro e w' ⟨rfl,⟨nd,rfl⟩⟩;refine ⟨_,rfl,?_⟩)|(go_at_call 55;(with_reducible refine (mapjnl_seq.calls a0_3 false _ A10.out).mono ?_);rintro e w' ⟨rfl,⟨nd,rfl⟩⟩))
         go_ret
         exact ⟨ze_,zb_⟩
       ·rw [if_neg c9] at H
        have c9b0:((l0_5.length:Int) == (l0_4.length:Int))=false:=beq_eq_false_iff_ne.mpr c9
        have c9b1:((l0_5.length:Int) != (l0_4.length:Int))=true:=bne_iff_ne.mpr c9
        have c9b2:(l0_5.length == l0_4.length)=false:=by first|simpa using c9|(simp at c9 ⊢;omega)
        obtain rfl:=Option.some.inj H
        go_enter Try.func72,Try.ntmps72
        go_wp2_with (first|((with_reducible refine gate_dst (N:=1) rfl ?_);(try (refine gate_guard (by rfl) ?_;dsimp only));refine zbx 1 #[.int .i64 a0_0,.int .i64 a0_1,.int .i64 a0_2,.int .i64 a0_3,.slice A0_4 l0_4.length c0_4,.slice A0_5 l0_5.length c0_5,.slice A0_6 l0_6.length c0_6] 42 ?_;intro gb606 hg w21 hbox hb;have n0_:=zkH HB hb;have n1_:=zm (hbox);have n2_:=zkG HB hg;have n3_:=zkG HB hg;clear HB;have HB:=n0_;have BK606:=n1_;have GW606:=n2_;have GE606:=n3_;clear n0_ n1_ n2_ n3_;clear hb hbox hg;obtain ⟨hcz22_0,hcz22_1,hcz22_2,hcz22_3,hcz22_4,hcz22_5,hcz22_6,hfz22_0,hfz22_1,hfz22_2,hfz22_3,hfz22_4,hfz22_5,hfz22_6⟩:=zc7 BK606.out)|((with_reducible refine gate_callee (f:=65) rfl ?_);refine goesL_ (some 9) rfl rfl Try.func65 (by kernel_rfl) rfl #[.int .i64 a0_1] rfl (by (try simp only [List.map_toArray,List.map_cons,List.map_nil]);first|done|rfl|(simp only [List.length_drop,List.length_take];rfl)) ?_;(with_reducible refine (mapjnl_gen.calls a0_1 true _ A3.out).mono ?_);rintro e w' ⟨rfl,⟨nd,rfl⟩⟩;refine ⟨_,rfl,?_⟩))
        go_ret
        exact ⟨ze_,zb_⟩
      ·rw [if_neg c8] at H
       have c8b0:decide ((l0_4.length:Int)≤64)=false:=decide_eq_false c8
       have c8b1:decide (l0_4.length≤64)=false:=decide_eq_false (by omega)
       clear c8
       obtain rfl:=Option.some.inj H
       go_enter Try.func72,Try.ntmps72
       go_wp2_with (first|((with_reducible refine gate_dst (N:=1) rfl ?_);(try (refine gate_guard (by rfl) ?_;dsimp only));refine zbx 1 #[.int .i64 a0_0,.int .i64 a0_1,.int .i64 a0_2,.int .i64 a0_3,.slice A0_4 l0_4.length c0_4,.slice A0_5 l0_5.length c0_5,.slice A0_6 l0_6.length c0_6] 42 ?_;intro gb606 hg w23 hbox hb;have n0_:=zkH HB hb;have n1_:=zm (hbox);have n2_:=zkG HB hg;have n3_:=zkG HB hg;clear HB;have HB:=n0_;have BK606:=n1_;have GW606:=n2_;have GE606:=n3_;clear n0_ n1_ n2_ n3_;clear hb hbox hg;obtain ⟨hcz24_0,hcz24_1,hcz24_2,hcz24_3,hcz24_4,hcz24_5,hcz24_6,hfz24_0,hfz24_1,hfz24_2,hfz24_3,hfz24_4,hfz24_5,hfz24_6⟩:=zc7 BK606.out)|((with_reducible refine gate_callee (f:=65) rfl ?_);refine goesL_ (some 9) rfl rfl Try.func65 (by kernel_rfl) rfl #[.int .i64 a0_1] rfl (by (try simp only [List.map_toArray,List.map_cons,List.map_nil]);first|done|rfl|(simp only [List.length_drop,List.length_take];rfl)) ?_;(with_reducible refine (mapjnl_gen.calls a0_1 true _ A3.out).mono ?_);rintro e w' ⟨rfl,⟨nd,rfl⟩⟩;refine ⟨_,rfl,?_⟩))
       go_ret
       exact ⟨ze_,zb_⟩
     ·rw [if_neg c7] at H
      have c7b0:decide (1≤(l0_4.length:Int))=false:=decide_eq_false c7
      have c7b1:decide (1≤l0_4.length)=false:=decide_eq_false (by omega)
      clear c7
      obtain rfl:=Option.some.inj H
      go_enter Try.func72,Try.ntmps72
      go_wp2_with (first|((with_reducible refine gate_dst (N:=1) rfl ?_);(try (refine gate_guard (by rfl) ?_;dsimp only));refine zbx 1 #[.int .i64 a0_0,.int .i64 a0_1,.int .i64 a0_2,.int .i64 a0_3,.slice A0_4 l0_4.length c0_4,.slice A0_5 l0_5.length c0_5,.slice A0_6 l0_6.length c0_6] 42 ?_;intro gb606 hg w25 hbox hb;have n0_:=zkH HB hb;have n1_:=zm (hbox);have n2_:=zkG HB hg;have n3_:=zkG HB hg;clear HB;have HB:=n0_;have BK606:=n1_;have GW606:=n2_;have GE606:=n3_;clear n0_ n1_ n2_ n3_;clear hb hbox hg;obtain ⟨hcz26_0,hcz26_1,hcz26_2,hcz26_3,hcz26_4,hcz26_5,hcz26_6,hfz26_0,hfz26_1,hfz26_2,hfz26_3,hfz26_4,hfz26_5,hfz26_6⟩:=zc7 BK606.out)|((with_reducible refine gate_callee (f:=65) rfl ?_);refine goesL_ (some 9) rfl rfl Try.func65 (by kernel_rfl) rfl #[.int .i64 a0_1] rfl (by (try simp only [List.map_toArray,List.map_cons,List.map_nil]);first|done|rfl|(simp only [List.length_drop,List.length_take];rfl)) ?_;(with_reducible refine (mapjnl_gen.calls a0_1 true _ A3.out).mono ?_);rintro e w' ⟨rfl,⟨nd,rfl⟩⟩;refine ⟨_,rfl,?_⟩))
      go_ret
      exact ⟨ze_,zb_⟩
    ·rw [if_neg c6] at H
     have c6b0:decide (a0_2≤3)=false:=decide_eq_false c6
     clear c6
     obtain rfl:=Option.some.inj H
     go_enter Try.func72,Try.ntmps72
     go_wp2_with (first|((with_reducible refine gate_dst (N:=1) rfl ?_);(try (refine gate_guard (by rfl) ?_;dsimp only));refine zbx 1 #[.int .i64 a0_0,.int .i64 a0_1,.int .i64 a0_2,.int .i64 a0_3,.slice A0_4 l0_4.length c0_4,.slice A0_5 l0_5.length c0_5,.slice A0_6 l0_6.length c0_6] 42 ?_;intro gb606 hg w27 hbox hb;have n0_:=zkH HB hb;have n1_:=zm (hbox);have n2_:=zkG HB hg;have n3_:=zkG HB hg;clear HB;have HB:=n0_;have BK606:=n1_;have GW606:=n2_;have GE606:=n3_;clear n0_ n1_ n2_ n3_;clear hb hbox hg;obtain ⟨hcz28_0,hcz28_1,hcz28_2,hcz28_3,hcz28_4,hcz28_5,hcz28_6,hfz28_0,hfz28_1,hfz28_2,hfz28_3,hfz28_4,hfz28_5,hfz28_6⟩:=zc7 BK606.out)|((with_reducible refine gate_callee (f:=65) rfl ?_);refine goesL_ (some 9) rfl rfl Try.func65 (by kernel_rfl) rfl #[.int .i64 a0_1] rfl (by (try simp only [List.map_toArray,List.map_cons,List.map_nil]);first|done|rfl|(simp only [List.length_drop,List.length_take];rfl)) ?_;(with_reducible refine (mapjnl_gen.calls a0_1 true _ A3.out).mono ?_);rintro e w' ⟨rfl,⟨nd,rfl⟩⟩;refine ⟨_,rfl,?_⟩))
     go_ret
     exact ⟨ze_,zb_⟩
   ·rw [if_neg c5] at H
    have c5b0:decide (0≤a0_2)=false:=decide_eq_false c5
    clear c5
    obtain rfl:=Option.some.inj H
    go_enter Try.func72,Try.ntmps72
    go_wp2_with (first|((with_reducible refine gate_dst (N:=1) rfl ?_);(try (refine gate_guard (by rfl) ?_;dsimp only));refine zbx 1 #[.int .i64 a0_0,.int .i64 a0_1,.int .i64 a0_2,.int .i64 a0_3,.slice A0_4 l0_4.length c0_4,.slice A0_5 l0_5.length c0_5,.slice A0_6 l0_6.length c0_6] 42 ?_;intro gb606 hg w29 hbox hb;have n0_:=zkH HB hb;have n1_:=zm (hbox);have n2_:=zkG HB hg;have n3_:=zkG HB hg;clear HB;have HB:=n0_;have BK606:=n1_;have GW606:=n2_;have GE606:=n3_;clear n0_ n1_ n2_ n3_;clear hb hbox hg;obtain ⟨hcz30_0,hcz30_1,hcz30_2,hcz30_3,hcz30_4,hcz30_5,hcz30_6,hfz30_0,hfz30_1,hfz30_2,hfz30_3,hfz30_4,hfz30_5,hfz30_6⟩:=zc7 BK606.out)|((with_reducible refine gate_callee (f:=65) rfl ?_);refine goesL_ (some 9) rfl rfl Try.func65 (by kernel_rfl) rfl #[.int .i64 a0_1] rfl (by (try simp only [List.map_toArray,List.map_cons,List.map_nil]);first|done|rfl|(simp only [List.length_drop,List.length_take];rfl)) ?_;(with_reducible refine (mapjnl_gen.calls a0_1 true _ A3.out).mono ?_);rintro e w' ⟨rfl,⟨nd,rfl⟩⟩;refine ⟨_,rfl,?_⟩))
    go_ret
    exact ⟨ze_,zb_⟩
  ·replace c4:=Bool.eq_false_iff.mpr c4
   subst c4
   have H1:(some false)=some r:=by rw [if_neg (show ¬ (false=true) by decide)] at H;exact H
   clear H
   have H:=H1
   clear H1
   obtain rfl:=Option.some.inj H
   go_enter Try.func72,Try.ntmps72
   go_wp2_with (first|((with_reducible refine gate_dst (N:=1) rfl ?_);(try (refine gate_guard (by rfl) ?_;dsimp only));refine zbx 1 #[.int .i64 a0_0,.int .i64 a0_1,.int .i64 a0_2,.int .i64 a0_3,.slice A0_4 l0_4.length c0_4,.slice A0_5 l0_5.length c0_5,.slice A0_6 l0_6.length c0_6] 42 ?_;intro gb606 hg w31 hbox hb;have n0_:=zkH HB hb;have n1_:=zm (hbox);have n2_:=zkG HB hg;have n3_:=zkG HB hg;clear HB;have HB:=n0_;have BK606:=n1_;have GW606:=n2_;have GE606:=n3_;clear n0_ n1_ n2_ n3_;clear hb hbox hg;obtain ⟨hcz32_0,hcz32_1,hcz32_2,hcz32_3,hcz32_4,hcz32_5,hcz32_6,hfz32_0,hfz32_1,hfz32_2,hfz32_3,hfz32_4,hfz32_5,hfz32_6⟩:=zc7 BK606.out)|((with_reducible refine gate_callee (f:=65) rfl ?_);refine goesL_ (some 9) rfl rfl Try.func65 (by kernel_rfl) rfl #[.int .i64 a0_1] rfl (by (try simp only [List.map_toArray,List.map_cons,List.map_nil]);first|done|rfl|(simp only [List.length_drop,List.length_take];rfl)) ?_;(with_reducible refine (mapjnl_gen.calls a0_1 false _ A3.out).mono ?_);rintro e w' ⟨rfl,⟨nd,rfl⟩⟩;refine ⟨_,rfl,?_⟩))
   go_ret
   exact ⟨ze_,zb_⟩
 ·rw [if_neg c2] at H
  have c2b0:(a0_0 == 1)=false:=beq_eq_false_iff_ne.mpr c2
  have c2b1:(a0_0 != 1)=true:=bne_iff_ne.mpr c2
  by_cases c33:a0_0=2
  ·rw [if_pos c33] at H
   have c33b0:(a0_0 == 2)=true:=beq_iff_eq.mpr c33
   have c33b1:(a0_0 != 2)=false:=bne_eq_false_iff_eq.mpr c33
   clear c33
   replace H:=Option.bind_eq_some_iff.mp H
   obtain ⟨t610,A340,H⟩:=H
   replace H:(if t610=true then (if a0_2=0 then (if a0_3=0 then (if (l0_4.length:Int)=0 then (if (l0_5.length:Int)=0 then (if (l0_6.length:Int)≤24 then ((api_MapRecord_68_83.f k l0_6).bind fun t611=>(some (!t611))) else (some false)) else (some false)) else (some false)) else (some false)) else (some false)) else (some false))=some r:=H
   have A34:=zm A340
   clear A340
   by_cases c35:t610=true
   ·subst c35
    have H1:(if a0_2=0 then (if a0_3=0 then (if (l0_4.length:Int)=0 then (if (l0_5.length:Int)=0 then (if (l0_6.length:Int)≤24 then ((api_MapRecord_68_83.f k l0_6).bind fun t611=>(some (!t611))) else (some false)) else (some false)) else (some false)) else (some false)) else (some false))=some r:=by rw [if_pos rfl] at H;exact H
    clear H
    have H:=H1
    clear H1
    by_cases c36:a0_2=0
    ·rw [if_pos c36] at H
     have c36b0:(a0_2 == 0)=true:=beq_iff_eq.mpr c36
     have c36b1:(a0_2 != 0)=false:=bne_eq_false_iff_eq.mpr c36
     clear c36
     by_cases c37:a0_3=0
     ·rw [if_pos c37] at H
      have c37b0:(a0_3 == 0)=true:=beq_iff_eq.mpr c37
      have c37b1:(a0_3 != 0)=false:=bne_eq_false_iff_eq.mpr c37
      clear c37
      by_cases c38:(l0_4.length:Int)=0
      ·rw [if_pos c38] at H
       have c38b0:((l0_4.length:Int) == 0)=true:=beq_iff_eq.mpr c38
       have c38b1:((l0_4.length:Int) != 0)=false:=bne_eq_false_iff_eq.mpr c38
       clear c38
       by_cases c39:(l0_5.length:Int)=0
       ·rw [if_pos c39] at H
        have c39b0:((l0_5.length:Int) == 0)=true:=beq_iff_eq.mpr c39
        have c39b1:((l0_5.length:Int) != 0)=false:=bne_eq_false_iff_eq.mpr c39
        clear c39
        by_cases c40:(l0_6.length:Int)≤24
        ·rw [if_pos c40] at H
         have c40b0:decide ((l0_6.length:Int)≤24)=true:=decide_eq_true c40
         have c40b1:decide (l0_6.length≤24)=true:=decide_eq_true (by omega)
         clear c40
         replace H:=Option.bind_eq_some_iff.mp H
         obtain ⟨t611,A410,H⟩:=H
         replace H:(some (!t611))=some r:=H
         have A41:=zm A410
         clear A410
         obtain rfl:=Option.some.inj H
         go_enter Try.func72,Try.ntmps72
         go_wp2_with (first|((with_reducible refine gate_dst (N:=1) rfl ?_);(try (refine gate_guard (by rfl) ?_;dsimp only));refine zbx 1 #[.int .i64 a0_0,.int .i64 a0_1,.int .i64 a0_2,.int .i64 a0_3,.slice A0_4 l0_4.length c0_4,.slice A0_5 l0_5.length c0_5,.slice A0_6 l0_6.length c0_6] 42 ?_;intro gb606 hg w42 hbox hb;have n0_:=zkH HB hb;have n1_:=zm (hbox);have n2_:=zkG HB hg;have n3_:=zkG HB hg;clear HB;have HB:=n0_;have BK606:=n1_;have GW606:=n2_;have GE606:=n3_;clear n0_ n1_ n2_ n3_;clear hb hbox hg;obtain ⟨hcz43_0,hcz43_1,hcz43_2,hcz43_3,hcz43_4,hcz43_5,hcz43_6,hfz43_0,hfz43_1,hfz43_2,hfz43_3,hfz43_4,hfz43_5,hfz43_6⟩:=zc7 BK606.out)|((with_reducible refine gate_callee (f:=65) rfl ?_);refine goesL_ (some 62) rfl rfl Try.func65 (by kernel_rfl) rfl #[.int .i64 a0_1] rfl (by (try simp only [List.map_toArray,List.map_cons,List.map_nil]);first|done|rfl|(simp only [List.length_drop,List.length_take];rfl)) ?_;(with_reducible refine (mapjnl_gen.calls a0_1 true _ A34.out).mono ?_);rintro e w' ⟨rfl,⟨nd,rfl⟩⟩;refine ⟨_,rfl,?_⟩)|(go_at_call 68;(with_reducible refine (api_MapRecord_68_83.calls k _ _ l0_6  t611 _ ?side1 ?side2 A41.out).mono ?_);(case side1=>repeat (first|exact (Kd.C_below HR0_6.out (zb_))|(with_reducible refine Kd.C_alloc ?_ _)|(with_reducible refine Kd.C_drewN ?_ _)|(with_reducible refine Kd.C_drew ?_)));(case side2=>exact HC0_6.out);rintro e w44 ⟨rfl,hb⟩;have n0_:=zkB BK606 hb;have n1_:=zkH HB hb;clear BK606 HB;have BK606:=n0_;have HB:=n1_;clear n0_ n1_;(try clear hb);(try clear hb2);(try clear hk);(try clear hi)))
         go_ret
         exact ⟨ze_,zb_⟩
        ·rw [if_neg c40] at H
         have c40b0:decide ((l0_6.length:Int)≤24)=false:=decide_eq_false c40
         have c40b1:decide (l0_6.length≤24)=false:=decide_eq_false (by omega)
         clear c40
         obtain rfl:=Option.some.inj H
         go_enter Try.func72,Try.ntmps72
         go_wp2_with (first|((with_reducible refine gate_dst (N:=1) rfl ?_);(try (refine gate_guard (by rfl) ?_;dsimp only));refine zbx 1 #[.int .i64 a0_0,.int .i64 a0_1,.int .i64 a0_2,.int .i64 a0_3,.slice A0_4 l0_4.length c0_4,.slice A0_5 l0_5.length c0_5,.slice A0_6 l0_6.length c0_6] 42 ?_;intro gb606 hg w45 hbox hb;have n0_:=zkH HB hb;have n1_:=zm (hbox);have n2_:=zkG HB hg;have n3_:=zkG HB hg;clear HB;have HB:=n0_;have BK606:=n1_;have GW606:=n2_;have GE606:=n3_;clear n0_ n1_ n2_ n3_;clear hb hbox hg;obtain ⟨hcz46_0,hcz46_1,hcz46_2,hcz46_3,hcz46_4,hcz46_5,hcz46_6,hfz46_0,hfz46_1,hfz46_2,hfz46_3,hfz46_4,hfz46_5,hfz46_6⟩:=zc7 BK606.out)|((with_reducible refine gate_callee (f:=65) rfl ?_);refine goesL_ (some 62) rfl rfl Try.func65 (by kernel_rfl) rfl #[.int .i64 a0_1] rfl (by (try simp only [List.map_toArray,List.map_cons,List.map_nil]);first|done|rfl|(simp only [List.length_drop,List.length_take];rfl)) ?_;(with_reducible refine (mapjnl_gen.calls a0_1 true _ A34.out).mono ?_);rintro e w' ⟨rfl,⟨nd,rfl⟩⟩;refine ⟨_,rfl,?_⟩))
         go_ret
         exact ⟨ze_,zb_⟩
       ·rw [if_neg c39] at H
        have c39b0:((l0_5.length:Int) == 0)=false:=beq_eq_false_iff_ne.mpr c39
        have c39b1:((l0_5.length:Int) != 0)=true:=bne_iff_ne.mpr c39
        have c39b2:¬ (l0_5=[]):=fun h_=>c39 (by rw [h_];rfl)
        obtain rfl:=Option.some.inj H
        go_enter Try.func72,Try.ntmps72
        go_wp2_with (first|((with_reducible refine gate_dst (N:=1) rfl ?_);(try (refine gate_guard (by rfl) ?_;dsimp only));refine zbx 1 #[.int .i64 a0_0,.int .i64 a0_1,.int .i64 a0_2,.int .i64 a0_3,.slice A0_4 l0_4.length c0_4,.slice A0_5 l0_5.length c0_5,.slice A0_6 l0_6.length c0_6] 42 ?_;intro gb606 hg w47 hbox hb;have n0_:=zkH HB hb;have n1_:=zm (hbox);have n2_:=zkG HB hg;have n3_:=zkG HB hg;clear HB;have HB:=n0_;have BK606:=n1_;have GW606:=n2_;have GE606:=n3_;clear n0_ n1_ n2_ n3_;clear hb hbox hg;obtain ⟨hcz48_0,hcz48_1,hcz48_2,hcz48_3,hcz48_4,hcz48_5,hcz48_6,hfz48_0,hfz48_1,hfz48_2,hfz48_3,hfz48_4,hfz48_5,hfz48_6⟩:=zc7 BK606.out)|((with_reducible refine gate_callee (f:=65) rfl ?_);refine goesL_ (some 62) rfl rfl Try.func65 (by kernel_rfl) rfl #[.int .i64 a0_1] rfl (by (try simp only [List.map_toArray,List.map_cons,List.map_nil]);first|done|rfl|(simp only [List.length_drop,List.length_take];rfl)) ?_;(with_reducible refine (mapjnl_gen.calls a0_1 true _ A34.out).mono ?_);rintro e w' ⟨rfl,⟨nd,rfl⟩⟩;refine ⟨_,rfl,?_⟩))
        go_ret
        exact ⟨ze_,zb_⟩
      ·rw [if_neg c38] at H
       have c38b0:((l0_4.length:Int) == 0)=false:=beq_eq_false_iff_ne.mpr c38
       have c38b1:((l0_4.length:Int) != 0)=true:=bne_iff_ne.mpr c38
       have c38b2:¬ (l0_4=[]):=fun h_=>c38 (by rw [h_];rfl)
       obtain rfl:=Option.some.inj H
       go_enter Try.func72,Try.ntmps72
       go_wp2_with (first|((with_reducible refine gate_dst (N:=1) rfl ?_);(try (refine gate_guard (by rfl) ?_;dsimp only));refine zbx 1 #[.int .i64 a0_0,.int .i64 a0_1,.int .i64 a0_2,.int .i64 a0_3,.slice A0_4 l0_4.length c0_4,.slice A0_5 l0_5.length c0_5,.slice A0_6 l0_6.length c0_6] 42 ?_;intro gb606 hg w49 hbox hb;have n0_:=zkH HB hb;have n1_:=zm (hbox);have n2_:=zkG HB hg;have n3_:=zkG HB hg;clear HB;have HB:=n0_;have BK606:=n1_;have GW606:=n2_;have GE606:=n3_;clear n0_ n1_ n2_ n3_;clear hb hbox hg;obtain ⟨hcz50_0,hcz50_1,hcz50_2,hcz50_3,hcz50_4,hcz50_5,hcz50_6,hfz50_0,hfz50_1,hfz50_2,hfz50_3,hfz50_4,hfz50_5,hfz50_6⟩:=zc7 BK606.out)|((with_reducible refine gate_callee (f:=65) rfl ?_);refine goesL_ (some 62) rfl rfl Try.func65 (by kernel_rfl) rfl #[.int .i64 a0_1] rfl (by (try simp only [List.map_toArray,List.map_cons,List.map_nil]);first|done|rfl|(simp only [List.length_drop,List.length_take];rfl)) ?_;(with_reducible refine (mapjnl_gen.calls a0_1 true _ A34.out).mono ?_);rintro e w' ⟨rfl,⟨nd,rfl⟩⟩;refine ⟨_,rfl,?_⟩))
       go_ret
       exact ⟨ze_,zb_⟩
     ·rw [if_neg c37] at H
      have c37b0:(a0_3 == 0)=false:=beq_eq_false_iff_ne.mpr c37
      have c37b1:(a0_3 != 0)=true:=bne_iff_ne.mpr c37
      obtain rfl:=Option.some.inj H
      go_enter Try.func72,Try.ntmps72
      go_wp2_with (first|((with_reducible refine gate_dst (N:=1) rfl ?_);(try (refine gate_guard (by rfl) ?_;dsimp only));refine zbx 1 #[.int .i64 a0_0,.int .i64 a0_1,.int .i64 a0_2,.int .i64 a0_3,.slice A0_4 l0_4.length c0_4,.slice A0_5 l0_5.length c0_5,.slice A0_6 l0_6.length c0_6] 42 ?_;intro gb606 hg w51 hbox hb;have n0_:=zkH HB hb;have n1_:=zm (hbox);have n2_:=zkG HB hg;have n3_:=zkG HB hg;clear HB;have HB:=n0_;have BK606:=n1_;have GW606:=n2_;have GE606:=n3_;clear n0_ n1_ n2_ n3_;clear hb hbox hg;obtain ⟨hcz52_0,hcz52_1,hcz52_2,hcz52_3,hcz52_4,hcz52_5,hcz52_6,hfz52_0,hfz52_1,hfz52_2,hfz52_3,hfz52_4,hfz52_5,hfz52_6⟩:=zc7 BK606.out)|((with_reducible refine gate_callee (f:=65) rfl ?_);refine goesL_ (some 62) rfl rfl Try.func65 (by kernel_rfl) rfl #[.int .i64 a0_1] rfl (by (try simp only [List.map_toArray,List.map_cons,List.map_nil]);first|done|rfl|(simp only [List.length_drop,List.length_take];rfl)) ?_;(with_reducible refine (mapjnl_gen.calls a0_1 true _ A34.out).mono ?_);rintro e w' ⟨rfl,⟨nd,rfl⟩⟩;refine ⟨_,rfl,?_⟩))
      go_ret
      exact ⟨ze_,zb_⟩
    ·rw [if_neg c36] at H
     have c36b0:(a0_2 == 0)=false:=beq_eq_false_iff_ne.mpr c36
     have c36b1:(a0_2 != 0)=true:=bne_iff_ne.mpr c36
     obtain rfl:=Option.some.inj H
     go_enter Try.func72,Try.ntmps72
     go_wp2_with (first|((with_reducible refine gate_dst (N:=1) rfl ?_);(try (refine gate_guard (by rfl) ?_;dsimp only));refine zbx 1 #[.int .i64 a0_0,.int .i64 a0_1,.int .i64 a0_2,.int .i64 a0_3,.slice A0_4 l0_4.length c0_4,.slice A0_5 l0_5.length c0_5,.slice A0_6 l0_6.length c0_6] 42 ?_;intro gb606 hg w53 hbox hb;have n0_:=zkH HB hb;have n1_:=zm (hbox);have n2_:=zkG HB hg;have n3_:=zkG HB hg;clear HB;have HB:=n0_;have BK606:=n1_;have GW606:=n2_;have GE606:=n3_;clear n0_ n1_ n2_ n3_;clear hb hbox hg;obtain ⟨hcz54_0,hcz54_1,hcz54_2,hcz54_3,hcz54_4,hcz54_5,hcz54_6,hfz54_0,hfz54_1,hfz54_2,hfz54_3,hfz54_4,hfz54_5,hfz54_6⟩:=zc7 BK606.out)|((with_reducible refine gate_callee (f:=65) rfl ?_);refine goesL_ (some 62) rfl rfl Try.func65 (by kernel_rfl) rfl #[.int .i64 a0_1] rfl (by (try simp only [List.map_toArray,List.map_cons,List.map_nil]);first|done|rfl|(simp only [List.length_drop,List.length_take];rfl)) ?_;(with_reducible refine (mapjnl_gen.calls a0_1 true _ A34.out).mono ?_);rintro e w' ⟨rfl,⟨nd,rfl⟩⟩;refine ⟨_,rfl,?_⟩))
     go_ret
     exact ⟨ze_,zb_⟩
   ·replace c35:=Bool.eq_false_iff.mpr c35
    subst c35
    have H1:(some false)=some r:=by rw [if_neg (show ¬ (false=true) by decide)] at H;exact H
    clear H
    have H:=H1
    clear H1
    obtain rfl:=Option.some.inj H
    go_enter Try.func72,Try.ntmps72
    go_wp2_with (first|((with_reducible refine gate_dst (N:=1) rfl ?_);(try (refine gate_guard (by rfl) ?_;dsimp only));refine zbx 1 #[.int .i64 a0_0,.int .i64 a0_1,.int .i64 a0_2,.int .i64 a0_3,.slice A0_4 l0_4.length c0_4,.slice A0_5 l0_5.length c0_5,.slice A0_6 l0_6.length c0_6] 42 ?_;intro gb606 hg w55 hbox hb;have n0_:=zkH HB hb;have n1_:=zm (hbox);have n2_:=zkG HB hg;have n3_:=zkG HB hg;clear HB;have HB:=n0_;have BK606:=n1_;have GW606:=n2_;have GE606:=n3_;clear n0_ n1_ n2_ n3_;clear hb hbox hg;obtain ⟨hcz56_0,hcz56_1,hcz56_2,hcz56_3,hcz56_4,hcz56_5,hcz56_6,hfz56_0,hfz56_1,hfz56_2,hfz56_3,hfz56_4,hfz56_5,hfz56_6⟩:=zc7 BK606.out)|((with_reducible refine gate_callee (f:=65) rfl ?_);refine goesL_ (some 62) rfl rfl Try.func65 (by kernel_rfl) rfl #[.int .i64 a0_1] rfl (by (try simp only [List.map_toArray,List.map_cons,List.map_nil]);first|done|rfl|(simp only [List.length_drop,List.length_take];rfl)) ?_;(with_reducible refine (mapjnl_gen.calls a0_1 false _ A34.out).mono ?_);rintro e w' ⟨rfl,⟨nd,rfl⟩⟩;refine ⟨_,rfl,?_⟩))
    go_ret
    exact ⟨ze_,zb_⟩
  ·rw [if_neg c33] at H
   have c33b0:(a0_0 == 2)=false:=beq_eq_false_iff_ne.mpr c33
   have c33b1:(a0_0 != 2)=true:=bne_iff_ne.mpr c33
   obtain rfl:=Option.some.inj H
   go_enter Try.func72,Try.ntmps72
   go_wp2_with (first|((with_reducible refine gate_dst (N:=1) rfl ?_);(try (refine gate_guard (by rfl) ?_;dsimp only));refine zbx 1 #[.int .i64 a0_0,.int .i64 a0_1,.int .i64 a0_2,.int .i64 a0_3,.slice A0_4 l0_4.length c0_4,.slice A0_5 l0_5.length c0_5,.slice A0_6 l0_6.length c0_6] 42 ?_;intro gb606 hg w57 hbox hb;have n0_:=zkH HB hb;have n1_:=zm (hbox);have n2_:=zkG HB hg;have n3_:=zkG HB hg;clear HB;have HB:=n0_;have BK606:=n1_;have GW606:=n2_;have GE606:=n3_;clear n0_ n1_ n2_ n3_;clear hb hbox hg;obtain ⟨hcz58_0,hcz58_1,hcz58_2,hcz58_3,hcz58_4,hcz58_5,hcz58_6,hfz58_0,hfz58_1,hfz58_2,hfz58_3,hfz58_4,hfz58_5,hfz58_6⟩:=zc7 BK606.out))
   go_ret
   exact ⟨ze_,zb_⟩
end Go.Proofs.Ytkhbmgclklmimaa.Print
end
section
namespace Go.Proofs.Ytkhbmgclklmimaa.Print
open Go.RowKit Go.Proofs.YtkhbmgclklmimaaW.PrintWords Go.Proofs.YtkhbmgclklmimaaW.PrintLast Go.Proofs.YtkhbmgclklmimaaW.PrintMore
attribute [local go_sem] max2_int min2_int max_two min_two max_three min_three max_four min_four   -- for this text's walks alone
attribute [local go_sem ↓] Go.Proofs.Ytkhbmgclklmimaa.Sem.isSome_setCell
attribute [local go_sem] Go.Instr.field Go.asAgg
set_option linter.unusedVariables false
set_option linter.unusedSimpArgs false
mutual
def mapjnl_Replay.l0:Nat → Int → Int → List (S42) → Int → Int → List Bool → List Int → Int → Option (List Bool × List Int × Int × Int × Int)
 | 0,_,_,_,_,_,_,_,_=>none
 | k + 1,x0,x9,x25,x26,x27,x622000,x622001,x622002=>if x27 < x26 then (if 0≤x27 then (if x27 < (x25.length:Int) then ((mapjnl_fits.f k ((rd_T42 x25 x27).f0) ((rd_T42 x25 x27).f1) ((rd_T42 x25 x27).f2) ((rd_T42 x25 x27).f3) ((rd_T42 x25 x27).f4) ((rd_T42 x25 x27).f5) ((rd_T42 x25 x27).f6)).bind fun t624=>(if t624=true then (mapjnl_Replay.l1 k x0 (mx x9 ((rd_T42 x25 x27).f1)) x25 x26 x27 (((rd_T42 x25 x27).f4).length:Int) 0 x622000 x622001 (mx x622002 ((rd_T42 x25 x27).f3)) ((rd_T42 x25 x27).f0) ((rd_T42 x25 x27).f1) ((rd_T42 x25 x27).f2) ((rd_T42 x25 x27).f3) ((rd_T42 x25 x27).f4) ((rd_T42 x25 x27).f5) ((rd_T42 x25 x27).f6)) else (mapjnl_Replay.l0 k x0 x9 x25 x26 (wrap64 (x27 + 1)) x622000 x622001 x622002))) else (none)) else (none)) else (some (x622000,x622001,x622002,x9,0))
def mapjnl_Replay.l1:Nat → Int → Int → List (S42) → Int → Int → Int → Int → List Bool → List Int → Int → Int → Int → Int → Int → List Bool → List Int → List (S55) → Option (List Bool × List Int × Int × Int × Int)
 | 0,_,_,_,_,_,_,_,_,_,_,_,_,_,_,_,_,_=>none
 | k + 1,x0,x9,x25,x26,x27,x46,x47,x622000,x622001,x622002,x624000,x624001,x624002,x624003,x624004,x624005,x624006=>if x47 < x46 then (if (wrap64 ((wrap64 (x624002 * 64)) + x47)) < x0 then (if 0≤(wrap64 ((wrap64 (x624002 * 64)) + x47)) then (if (wrap64 ((wrap64 (x624002 * 64)) + x47)) < (x622000.length:Int) then (if rdOf false x622000 (wrap64 ((wrap64 (x624002 * 64)) + x47))=true then (if (wrap64 ((wrap64 (x624002 * 64)) + x47)) < (x622001.length:Int) then (if 0≤x47 then (if x47 < (x624005.length:Int) then (mapjnl_Replay.l1 k x0 x9 x25 x26 x27 x46 (wrap64 (x47 + 1)) (x622000.set ((wrap64 ((wrap64 (x624002 * 64)) + x47)):Int).toNat true) (x622001.set ((wrap64 ((wrap64 (x624002 * 64)) + x47)):Int).toNat (mx (rd x622001 (wrap64 ((wrap64 (x624002 * 64)) + x47))) (rd x624005 x47))) x622002 x624000 x624001 x624002 x624003 x624004 x624005 x624006) else (none)) else (none)) else (none)) else (if 0≤x47 then (if x47 < (x624004.length:Int) then (if (wrap64 ((wrap64 (x624002 * 64)) + x47)) < (x622001.length:Int) then (if x47 < (x624005.length:Int) then (mapjnl_Replay.l1 k x0 x9 x25 x26 x27 x46 (wrap64 (x47 + 1)) (x622000.set ((wrap64 ((wrap64 (x624002 * 64)) + x47)):Int).toNat (rdOf false x624004 x47)) (x622001.set ((wrap64 ((wrap64 (x624002 * 64)) + x47)):Int).toNat (mx (rd x622001 (wrap64 ((wrap64 (x624002 * 64)) + x47))) (rd x624005 x47))) x622002 x624000 x624001 x624002 x624003 x624004 x624005 x624006) else (none)) else (none)) else (none)) else (none))) else (none)) else (none)) else (mapjnl_Replay.l1 k x0 x9 x25 x26 x27 x46 (wrap64 (x47 + 1)) x622000 x622001 x622002 x624000 x624001 x624002 x624003 x624004 x624005 x624006)) else (mapjnl_Replay.l2 k x0 x9 x25 x26 x27 x624006 (x624006.length:Int) 0 x622000 x622001 x622002)
def mapjnl_Replay.l2:Nat → Int → Int → List (S42) → Int → Int → List (S55) → Int → Int → List Bool → List Int → Int → Option (List Bool × List Int × Int × Int × Int)
 | 0,_,_,_,_,_,_,_,_,_,_,_=>none
 | k + 1,x0,x9,x25,x26,x27,x91,x92,x93,x622000,x622001,x622002=>if x93 < x92 then (if 0≤x93 then (if x93 < (x91.length:Int) then (if ((rd_T55 x91 x93).f1) < x0 then ((mapjnl_learn.f x622000 x622001 x622002 ((rd_T55 x91 x93).f0) ((rd_T55 x91 x93).f1) ((rd_T55 x91 x93).f2)).bind fun bt637=>(mapjnl_Replay.l2 k x0 x9 x25 x26 x27 x91 x92 (wrap64 (x93 + 1)) bt637.1 bt637.2.1 bt637.2.2)) else (mapjnl_Replay.l2 k x0 x9 x25 x26 x27 x91 x92 (wrap64 (x93 + 1)) x622000 x622001 x622002)) else (none)) else (none)) else (mapjnl_Replay.l0 k x0 x9 x25 x26 (wrap64 (x27 + 1)) x622000 x622001 x622002)
end
def mapjnl_Replay.f (k:Nat) (a0:Int) (l1:List (S42)):Option (List Bool × List Int × Int × Int × Int):=(mapjnl_New.f a0).bind fun bt613=>(if bt613.2.2.2=0 then (mapjnl_Replay.l0 k a0 0 l1 (l1.length:Int) 0 bt613.1 bt613.2.1 bt613.2.2.1) else (some (([]:List Bool),([]:List Int),0,0,bt613.2.2.2)))
def mapjnl_Replay.T16:Bool × List (List Nat × List Nat):=(true,[([],[]),([0],[0]),([],[]),([],[]),([3],[3]),([],[]),([4,5],[4,5]),([6],[6]),([7],[7]),([8],[8]),([9,8],[8,9]),([8],[8]),([10,11,8],[8,10,11]),([12,8],[8,12]),([8,13],[8,13]),([1,2,0,1,2,3,4,5,6,7,8,9,10,11,12,13,14],[1,2]),([15,14,8,0,1,2,3,4,5,6,7,8,9,10,11,12,13,14],[14,15])])
def mapjnl_Replay.B16:List Nat:=[0,1,0,0,8,0,56,120,248,504,1016,504,4088,8184,16376,32767,65535]
theorem mapjnl_Replay.tab16:rtab .any (opsOf Try.f39 16)=mapjnl_Replay.T16:=by kernel_rfl
theorem mapjnl_Replay.bits16:waitsOk mapjnl_Replay.T16.2 mapjnl_Replay.B16=true:=by kernel_rfl
def mapjnl_Replay.T17:Bool × List (List Nat × List Nat):=(true,[([],[]),([0],[0]),([],[]),([],[]),([3],[3]),([],[]),([4,5],[4,5]),([6],[6]),([],[]),([8],[8]),([],[]),([9,10],[9,10]),([11],[11]),([7,12],[7,12]),([1,2,0,1,2,3,4,5,6,7,8,9,10,11,12,13],[1,2]),([14,13,0,1,2,3,4,5,6,7,8,9,10,11,12,13],[13,14])])
def mapjnl_Replay.B17:List Nat:=[0,1,0,0,8,0,56,120,0,256,0,1792,3840,8184,16383,32767]
theorem mapjnl_Replay.tab17:rtab .any (opsOf Try.f39 17)=mapjnl_Replay.T17:=by kernel_rfl
theorem mapjnl_Replay.bits17:waitsOk mapjnl_Replay.T17.2 mapjnl_Replay.B17=true:=by kernel_rfl
set_option maxHeartbeats 8000000 in
set_option maxRecDepth 100000 in
theorem mapjnl_Replay.calls (k:Nat) (a0:Int) (A1:Option Addr) (c1:Nat) (l1:List (S42)) (r1:List Bool) (r2:List Int) (r3:Int) (r4:Int) (r5:Int) (w:World) (hr1:Kd.C k42 w A1 l1.length l1) (hc1:l1.length≤c1) (h:mapjnl_Replay.f k a0 l1=some (r1,r2,r3,r4,r5)) :
  Calls Try.prog 39 #[.int .i64 a0,.slice A1 l1.length c1] w fun e w'=>∃ v0_ v1_:Value,e=.returned (.tuple #[.agg #[v0_,v1_,.int .i64 r3],.int .i64 r4,.int .i64 r5])∧Kd.R Kd.bool 4 w' w.heap.size (fun _=>True) v0_ r1∧Kd.R (Kd.int .i64) 2 w' w.heap.size (fun _=>True) v1_ r2∧Below w.heap.size w w':=by
 have hu25:=Try.underlying25
 have hu42:=Try.underlying42
 have hu55:=Try.underlying55
 have HR1:=zm hr1
 have HC1:=zm hc1
 clear hr1 hc1
 have HB:=zm (Below.refl w.heap.size w)
 have H:((mapjnl_New.f a0).bind fun bt613=>(if bt613.2.2.2=0 then (mapjnl_Replay.l0 k a0 0 l1 (l1.length:Int) 0 bt613.1 bt613.2.1 bt613.2.2.1) else (some (([]:List Bool),([]:List Int),0,0,bt613.2.2.2))))=some (r1,r2,r3,r4,r5):=h
 clear h
 replace H:=Option.bind_eq_some_iff.mp H
 obtain ⟨⟨t613,t616,t619,t620⟩,A30,H⟩:=H
 replace H:(if t620=0 then (mapjnl_Replay.l0 k a0 0 l1 (l1.length:Int) 0 t613 t616 t619) else (some (([]:List Bool),([]:List Int),0,0,t620)))=some (r1,r2,r3,r4,r5):=H
 have A3:=zm A30
 clear A30
 by_cases c4:t620=0
 ·rw [if_pos c4] at H
  have c4b0:(t620 == 0)=true:=beq_iff_eq.mpr c4
  have c4b1:(t620 != 0)=false:=bne_eq_false_iff_eq.mpr c4
  clear c4
  have H':=zm H
  clear H
  go_enter Try.func39,Try.ntmps39
  go_wp2_with (first|((with_reducible refine gate_dst (N:=4) rfl ?_);refine zbx 4 #[.slice none 0 0,.slice none 0 0,.int .i64 0] 25 ?_;intro gb612 hg w5 hbox hb;have n0_:=zkH HB hb;have n1_:=zm (hbox);have n2_:=zkG HB hg;have n3_:=zkG HB hg;clear HB;have HB:=n0_;have BK612:=n1_;have GW612:=n2_;have GE612:=n3_;clear n0_ n1_ n2_ n3_;clear hb hbox hg)|((with_reducible refine gate_callee (f:=11) rfl ?_);refine goesL_ (some 18) rfl rfl Try.func11 (by kernel_rfl) rfl #[.int .i64 a0] rfl (by (try simp only [List.map_toArray,List.map_cons,List.map_nil]);first|done|rfl|(simp only [List.length_drop,List.length_take];rfl)) ?_;(with_reducible refine (mapjnl_New.calls a0 t613 t616 t619 t620 _ A3.out).mono ?_);rintro e w6 ⟨v614,v617,rfl,ho0,ho1,hb⟩;refine ⟨_,rfl,?_⟩;have n0_:=zm (Kd.R_lower ho0 (below_size (zb_)));have n1_:=zm (Kd.R_lower ho1 (below_size (zb_)));have n2_:=zkB BK612 hb;have n3_:=zkH HB hb;clear BK612 HB;have HO615:=n0_;have HO618:=n1_;have BK612:=n2_;have HB:=n3_;clear n0_ n1_ n2_ n3_;(try clear hb);(try clear hb2);(try clear hk);(try clear hi);(try clear ho0);(try clear ho1))|((with_reducible refine gate_dst (N:=7) rfl ?_);refine zbx 7 #[.slice none 0 0,.slice none 0 0,.int .i64 0] 25 ?_;intro gb621 hg w7 hbox hb;have n0_:=zm (Kd.R_below (by (with_reducible repeat (first|apply zrA|apply zrN|apply zrD));exact HO615.out) hb);have n1_:=zm (Kd.R_below (by (with_reducible repeat (first|apply zrA|apply zrN|apply zrD));exact HO618.out) hb);have n2_:=zkB BK612 hb;have n3_:=zkH HB hb;have n4_:=zm (hbox);have n5_:=zkG HB hg;have n6_:=zkG HB hg;have n7_:=zkN BK612 hg;have n8_:=zkM BK612 hg;clear HO615 HO618 BK612 HB;have HO615:=n0_;have HO618:=n1_;have BK612:=n2_;have HB:=n3_;have BK621:=n4_;have GW621:=n5_;have GE621:=n6_;have NB612_621:=n7_;have NB621_612:=n8_;clear n0_ n1_ n2_ n3_ n4_ n5_ n6_ n7_ n8_;clear hb hbox hg;obtain ⟨Ao8,co8,eo8⟩:=Kd.R_slice HO615.out;subst eo8;have hnb9:=NB621_612.out;have hnc9:=NB612_621.out;obtain ⟨hcz10_0,hcz10_1,hcz10_2,hfz10_0,hfz10_1,hfz10_2⟩:=zc3 BK621.out;obtain ⟨Ao11,co11,eo11⟩:=Kd.R_slice HO618.out;subst eo11))
  go_loopg [9,27] k (fun kq v9 v27 w'=>∃ (x9_1:Int) (x27_1:Int) (x622000_1:List Bool) (x622001_1:List Int) (x622002_1:Int) (u622000:Value) (u622001:Value),v9=.int .i64 x9_1∧v27=.int .i64 x27_1∧Aside0 (mapjnl_Replay.l0 kq a0 x9_1 l1 (l1.length:Int) x27_1 x622000_1 x622001_1 x622002_1=some (r1,r2,r3,r4,r5))∧Aside0 (kq≤k)∧Aside0 (Kd.R Kd.bool 4 w' w.heap.size (fun _=>True) u622000 x622000_1)∧Aside0 (Kd.R (Kd.int .i64) 2 w' w.heap.size (fun _=>True) u622001 x622001_1)∧Aside0 (w'.heap[gb612]?=some (.cells #[(.slice none 0 0),(.slice none 0 0),.int .i64 0] 25 (0,0)))∧Aside0 (w'.heap[gb621]?=some (.cells #[u622000,u622001,.int .i64 x622002_1] 25 (0,0)))∧Aside0 (Below w.heap.size w w'))
  case atStart=>exact ⟨(0),(0),(t613),(t616),(t619),(.slice Ao8 t613.length co8),(.slice Ao11 t616.length co11),zs_,zs_,H',⟨Nat.le_refl _⟩,⟨by (with_reducible repeat (first|apply zrA|apply zrN|apply zrD));exact Kd.R_mono (Kd.R_far (p:=⟨gb621,2,none⟩) (Kd.R_far (p:=⟨gb621,1,none⟩) (Kd.R_far (p:=⟨gb621,0,none⟩) (Kd.R_types HO615.out BK621.out (by decide)) (fun _ hk=>hk.2) (.slice Ao8 t613.length co8)) (fun _ hk=>hk.2) (.slice Ao11 t616.length co11)) (fun _ hk=>hk.2) (.int .i64 t619)) (fun _ hk=>trivial)⟩,⟨by (with_reducible repeat (first|apply zrA|apply zrN|apply zrD));exact Kd.R_mono (Kd.R_far (p:=⟨gb621,2,none⟩) (Kd.R_far (p:=⟨gb621,1,none⟩) (Kd.R_far (p:=⟨gb621,0,none⟩) (Kd.R_types HO618.out BK621.out (by decide)) (fun _ hk=>hk.2) (.slice Ao8 t613.length co8)) (fun _ hk=>hk.2) (.slice Ao11 t616.length co11)) (fun _ hk=>hk.2) (.int .i64 t619)) (fun _ hk=>trivial)⟩,⟨by (with_reducible repeat (first|refine zbN ?_ _|refine zbD ?_|refine zbA ?_ _));refine blk_far ?_ NB612_621.out _;(with_reducible repeat (first|refine zbN ?_ _|refine zbD ?_|refine zbA ?_ _));refine blk_far ?_ NB612_621.out _;(with_reducible repeat (first|refine zbN ?_ _|refine zbD ?_|refine zbA ?_ _));refine blk_far ?_ NB612_621.out _;(with_reducible repeat (first|refine zbN ?_ _|refine zbD ?_|refine zbA ?_ _));exact BK612.out⟩,⟨by (with_reducible repeat (first|refine zbN ?_ _|refine zbD ?_|refine zbA ?_ _));refine blk_put (cs:=#[.slice Ao8 t613.length co8,.slice Ao11 t616.length co11,.int .i64 0]) ?_ 2 _ rfl;(with_reducible repeat (first|refine zbN ?_ _|refine zbD ?_|refine zbA ?_ _));refine blk_put (cs:=#[.slice Ao8 t613.length co8,.slice none 0 0,.int .i64 0]) ?_ 1 _ rfl;(with_reducible repeat (first|refine zbN ?_ _|refine zbD ?_|refine zbA ?_ _));refine blk_put (cs:=#[.slice none 0 0,.slice none 0 0,.int .i64 0]) ?_ 0 _ rfl;(with_reducible repeat (first|refine zbN ?_ _|refine zbD ?_|refine zbA ?_ _));exact BK621.out⟩,⟨zb_⟩⟩
  case round =>
   clear H'
   try clear c1
   try clear p2
   try clear c3
   try clear c4
   try clear c4b0
   try clear c4b1
   try clear c9
   try clear c11
   try clear hcz10_0
   try clear hcz10_1
   try clear hcz10_2
   try clear hfz10_0
   try clear hfz10_1
   try clear hfz10_2
   obtain ⟨x9_1,x27_1,x622000_1,x622001_1,x622002_1,u622000,u622001,rfl,rfl,HA,HK1,HO_622000,HO_622001,BK612,BK621,HB⟩:=hrel
   cases gk with
   | zero=>exact absurd HA.out (by simp [mapjnl_Replay.l0])
   | succ k1 =>
    have H:=HA.out
    clear HA
    simp only [mapjnl_Replay.l0] at H
    by_cases c12:x27_1 < (l1.length:Int)
    ·rw [if_pos c12] at H
     have c12b0:decide (x27_1 < (l1.length:Int))=true:=decide_eq_true c12
     clear c12
     by_cases c13:0≤x27_1
     ·rw [if_pos c13] at H
      have c13b0:decide (0≤x27_1)=true:=decide_eq_true c13
      clear c13
      by_cases c14:x27_1 < (l1.length:Int)
      ·rw [if_pos c14] at H
       have c14b0:decide (x27_1 < (l1.length:Int))=true:=decide_eq_true c14
       clear c14
       replace H:=Option.bind_eq_some_iff.mp H
       obtain ⟨t624,A150,H⟩:=H
       replace H:(if t624=true then (mapjnl_Replay.l1 k1 a0 (mx x9_1 ((rd_T42 l1 x27_1).f1)) l1 (l1.length:Int) x27_1 (((rd_T42 l1 x27_1).f4).length:Int) 0 x622000_1 x622001_1 (mx x622002_1 ((rd_T42 l1 x27_1).f3)) ((rd_T42 l1 x27_1).f0) ((rd_T42 l1 x27_1).f1) ((rd_T42 l1 x27_1).f2) ((rd_T42 l1 x27_1).f3) ((rd_T42 l1 x27_1).f4) ((rd_T42 l1 x27_1).f5) ((rd_T42 l1 x27_1).f6)) else (mapjnl_Replay.l0 k1 a0 x9_1 l1 (l1.length:Int) (wrap64 (x27_1 + 1)) x622000_1 x622001_1 x622002_1))=some (r1,r2,r3,r4,r5):=H
       have A15:=zm A150
       clear A150
       by_cases c16:t624=true
       ·subst c16
        have H1:(mapjnl_Replay.l1 k1 a0 (mx x9_1 ((rd_T42 l1 x27_1).f1)) l1 (l1.length:Int) x27_1 (((rd_T42 l1 x27_1).f4).length:Int) 0 x622000_1 x622001_1 (mx x622002_1 ((rd_T42 l1 x27_1).f3)) ((rd_T42 l1 x27_1).f0) ((rd_T42 l1 x27_1).f1) ((rd_T42 l1 x27_1).f2) ((rd_T42 l1 x27_1).f3) ((rd_T42 l1 x27_1).f4) ((rd_T42 l1 x27_1).f5) ((rd_T42 l1 x27_1).f6))=some (r1,r2,r3,r4,r5):=by rw [if_pos rfl] at H;exact H
        clear H
        have H:=H1
        clear H1
        obtain ⟨ji17,hji17⟩:∃ j_:Int,(mx x9_1 ((rd_T42 l1 x27_1).f1))=j_:=⟨_,rfl⟩
        replace H:(mapjnl_Replay.l1 k1 a0 ji17 l1 (l1.length:Int) x27_1 (((rd_T42 l1 x27_1).f4).length:Int) 0 x622000_1 x622001_1 (mx x622002_1 ((rd_T42 l1 x27_1).f3)) ((rd_T42 l1 x27_1).f0) ((rd_T42 l1 x27_1).f1) ((rd_T42 l1 x27_1).f2) ((rd_T42 l1 x27_1).f3) ((rd_T42 l1 x27_1).f4) ((rd_T42 l1 x27_1).f5) ((rd_T42 l1 x27_1).f6))=some (r1,r2,r3,r4,r5):=by first|(rw [hji17] at H;exact H)|(simp only [hji17] at H ⊢;exact H)
        (try rw [hji17] at A15)
        have hji17_:(if x9_1 < ((rd_T42 l1 x27_1).f1) then ((rd_T42 l1 x27_1).f1) else x9_1)=ji17:=hji17
        obtain ⟨ji18,hji18⟩:∃ j_:Int,(mx x622002_1 ((rd_T42 l1 x27_1).f3))=j_:=⟨_,rfl⟩
        replace H:(mapjnl_Replay.l1 k1 a0 ji17 l1 (l1.length:Int) x27_1 (((rd_T42 l1 x27_1).f4).length:Int) 0 x622000_1 x622001_1 ji18 ((rd_T42 l1 x27_1).f0) ((rd_T42 l1 x27_1).f1) ((rd_T42 l1 x27_1).f2) ((rd_T42 l1 x27_1).f3) ((rd_T42 l1 x27_1).f4) ((rd_T42 l1 x27_1).f5) ((rd_T42 l1 x27_1).f6))=some (r1,r2,r3,r4,r5):=by first|(rw [hji18] at H;exact H)|(simp only [hji18] at H ⊢;exact H)
        (try rw [hji18] at A15)
        have hji18_:(if x622002_1 < ((rd_T42 l1 x27_1).f3) then ((rd_T42 l1 x27_1).f3) else x622002_1)=ji18:=hji18
        have H':=zm H
        clear H
        have p622:0≤(x27_1:Int):=za_
        have q622:x27_1 < (l1.length:Int):=za_
        obtain ⟨ad622,A622_4,c622_4,A622_5,c622_5,A622_6,c622_6,e622,hx622_0,hx622_1,hx622_2,hx622_3,hx622_4,hx622_5,hx622_6,hl622_4,hi622_4,hl622_5,hi622_5,hl622_6,hi622_6⟩:=at_T42 HR1.out x27_1 p622 q622
        cases e622
        replace hx622_0:=zhx HB hx622_0
        replace hx622_1:=zhx HB hx622_1
        replace hx622_2:=zhx HB hx622_2
        replace hx622_3:=zhx HB hx622_3
        replace hx622_4:=zhx HB hx622_4
        replace hx622_5:=zhx HB hx622_5
        replace hx622_6:=zhx HB hx622_6
        have HR622_4:=zm hi622_4
        have HC622_4:=zm hl622_4
        clear hi622_4 hl622_4
        have HR622_5:=zm hi622_5
        have HC622_5:=zm hl622_5
        clear hi622_5 hl622_5
        have HR622_6:=zm hi622_6
        have HC622_6:=zm hl622_6
        clear hi622_6 hl622_6
        replace p622:=eq_true p622
        replace q622:=eq_true q622
        go_wp2_with (first|((with_reducible refine gate_dst (N:=11) rfl ?_);refine zbx 11 #[.int .i64 0,.int .i64 0,.int .i64 0,.int .i64 0,.slice none 0 0,.slice none 0 0,.slice none 0 0] 42 ?_;intro gb623 hg w19 hbox hb;have n0_:=zm (Kd.R_below (by (with_reducible repeat (first|apply zrA|apply zrN|apply zrD));exact HO_622000.out) hb);have n1_:=zm (Kd.R_below (by (with_reducible repeat (first|apply zrA|apply zrN|apply zrD));exact HO_622001.out) hb);have n2_:=zkB BK612 hb;have n3_:=zkB BK621 hb;have n4_:=zkH HB hb;have n5_:=zm (hbox);have n6_:=zkG HB hg;have n7_:=zkG HB hg;have n8_:=zkN BK612 hg;have n9_:=zkM BK612 hg;have n10_:=zkN BK621 hg;have n11_:=zkM BK621 hg;clear HO_622000 HO_622001 BK612 BK621 HB;have HO_622000:=n0_;have HO_622001:=n1_;have BK612:=n2_;have BK621:=n3_;have HB:=n4_;have BK623:=n5_;have GW623:=n6_;have GE623:=n7_;have NB612_623:=n8_;have NB623_612:=n9_;have NB621_623:=n10_;have NB623_621:=n11_;clear n0_ n1_ n2_ n3_ n4_ n5_ n6_ n7_ n8_ n9_ n10_ n11_;clear hb hbox hg;have hnb20:=NB623_612.out;have hnc20:=NB612_623.out;have hnb21:=NB623_621.out;have hnc21:=NB621_623.out;obtain ⟨hcz22_0,hcz22_1,hcz22_2,hcz22_3,hcz22_4,hcz22_5,hcz22_6,hfz22_0,hfz22_1,hfz22_2,hfz22_3,hfz22_4,hfz22_5,hfz22_6⟩:=zc7 BK623.out)|((with_reducible refine gate_callee (f:=72) rfl ?_);refine goesL_ (some 32) rfl rfl Try.func72 (by kernel_rfl) rfl #[.agg #[.int .i64 ((rd_T42 l1 x27_1).f0),.int .i64 ((rd_T42 l1 x27_1).f1),.int .i64 ((rd_T42 l1 x27_1).f2),.int .i64 ((rd_T42 l1 x27_1).f3),.slice A622_4 ((rd_T42 l1 x27_1).f4).length c622_4,.slice A622_5 ((rd_T42 l1 x27_1).f5).length c622_5,.slice A622_6 ((rd_T42 l1 x27_1).f6).length c622_6]] rfl (by (try simp only [List.map_toArray,List.map_cons,List.map_nil]);first|done|rfl|(simp only [List.length_drop,List.length_take];rfl)) ?_;(with_reducible refine (mapjnl_fits.calls k1 ((rd_T42 l1 x27_1).f0) ((rd_T42 l1 x27_1).f1) ((rd_T42 l1 x27_1).f2) ((rd_T42 l1 x27_1).f3) _ _ ((rd_T42 l1 x27_1).f4) _ _ ((rd_T42 l1 x27_1).f5) _ _ ((rd_T42 l1 x27_1).f6) true _ ?side1 ?side2 ?side3 ?side4 ?side5 ?side6 A15.out).mono ?_);(case side1=>exact Kd.C_below HR622_4.out (zb_));(case side2=>exact HC622_4.out);(case side3=>exact Kd.C_below HR622_5.out (zb_));(case side4=>exact HC622_5.out);(case side5=>exact Kd.C_below HR622_6.out (zb_));(case side6=>exact HC622_6.out);rintro e w23 ⟨rfl,hb⟩;refine ⟨_,rfl,?_⟩;have n0_:=zm (Kd.R_below (by (with_reducible repeat (first|apply zrA|apply zrN|apply zrD));exact (Kd.R_mono (Kd.R_far (p:=⟨gb623,6,none⟩) (Kd.R_far (p:=⟨gb623,5,none⟩) (Kd.R_far (p:=⟨gb623,4,none⟩) (Kd.R_far (p:=⟨gb623,3,none⟩) (Kd.R_far (p:=⟨gb623,2,none⟩) (Kd.R_far (p:=⟨gb623,1,none⟩) (Kd.R_far (p:=⟨gb623,0,none⟩) (Kd.R_types HO_622000.out BK623.out (by decide)) (fun _ hk=>hk.2) (.int .i64 ((rd_T42 l1 x27_1).f0))) (fun _ hk=>hk.2) (.int .i64 ((rd_T42 l1 x27_1).f1))) (fun _ hk=>hk.2) (.int .i64 ((rd_T42 l1 x27_1).f2))) (fun _ hk=>hk.2) (.int .i64 ((rd_T42 l1 x27_1).f3))) (fun _ hk=>hk.2) (.slice A622_4 ((rd_T42 l1 x27_1).f4).length c622_4)) (fun _ hk=>hk.2) (.slice A622_5 ((rd_T42 l1 x27_1).f5).length c622_5)) (fun _ hk=>hk.2) (.slice A622_6 ((rd_T42 l1 x27_1).f6).length c622_6)) (fun _ h_=>h_.1))) hb);have n1_:=zm (Kd.R_below (by (with_reducible repeat (first|apply zrA|apply zrN|apply zrD));exact (Kd.R_mono (Kd.R_far (p:=⟨gb623,6,none⟩) (Kd.R_far (p:=⟨gb623,5,none⟩) (Kd.R_far (p:=⟨gb623,4,none⟩) (Kd.R_far (p:=⟨gb623,3,none⟩) (Kd.R_far (p:=⟨gb623,2,none⟩) (Kd.R_far (p:=⟨gb623,1,none⟩) (Kd.R_far (p:=⟨gb623,0,none⟩) (Kd.R_types HO_622001.out BK623.out (by decide)) (fun _ hk=>hk.2) (.int .i64 ((rd_T42 l1 x27_1).f0))) (fun _ hk=>hk.2) (.int .i64 ((rd_T42 l1 x27_1).f1))) (fun _ hk=>hk.2) (.int .i64 ((rd_T42 l1 x27_1).f2))) (fun _ hk=>hk.2) (.int .i64 ((rd_T42 l1 x27_1).f3))) (fun _ hk=>hk.2) (.slice A622_4 ((rd_T42 l1 x27_1).f4).length c622_4)) (fun _ hk=>hk.2) (.slice A622_5 ((rd_T42 l1 x27_1).f5).length c622_5)) (fun _ hk=>hk.2) (.slice A622_6 ((rd_T42 l1 x27_1).f6).length c622_6)) (fun _ h_=>h_.1))) hb);have n2_:=zm (zbB (g:=gb612) (o:=.cells #[.slice none 0 0,.slice none 0 0,.int .i64 0] 25 (0,0)) (by (with_reducible repeat (first|refine zbN ?_ _|refine zbD ?_|refine zbA ?_ _));refine blk_far ?_ NB612_623.out _;(with_reducible repeat (first|refine zbN ?_ _|refine zbD ?_|refine zbA ?_ _));refine blk_far ?_ NB612_623.out _;(with_reducible repeat (first|refine zbN ?_ _|refine zbD ?_|refine zbA ?_ _));refine blk_far ?_ NB612_623.out _;(with_reducible repeat (first|refine zbN ?_ _|refine zbD ?_|refine zbA ?_ _));refine blk_far ?_ NB612_623.out _;(with_reducible repeat (first|refine zbN ?_ _|refine zbD ?_|refine zbA ?_ _));refine blk_far ?_ NB612_623.out _;(with_reducible repeat (first|refine zbN ?_ _|refine zbD ?_|refine zbA ?_ _));refine blk_far ?_ NB612_623.out _;(with_reducible repeat (first|refine zbN ?_ _|refine zbD ?_|refine zbA ?_ _));refine blk_far ?_ NB612_623.out _;(with_reducible repeat (first|refine zbN ?_ _|refine zbD ?_|refine zbA ?_ _));exact BK612.out) hb);have n3_:=zm (zbB (g:=gb621) (o:=.cells #[u622000,u622001,.int .i64 x622002_1] 25 (0,0)) (by (with_reducible repeat (first|refine zbN ?_ _|refine zbD ?_|refine zbA ?_ _));refine blk_far ?_ NB621_623.out _;(with_reducible repeat (first|refine zbN ?_ _|refine zbD ?_|refine zbA ?_ _));refine blk_far ?_ NB621_623.out _;(with_reducible repeat (first|refine zbN ?_ _|refine zbD ?_|refine zbA ?_ _));refine blk_far ?_ NB621_623.out _;(with_reducible repeat (first|refine zbN ?_ _|refine zbD ?_|refine zbA ?_ _));refine blk_far ?_ NB621_623.out _;(with_reducible repeat (first|refine zbN ?_ _|refine zbD ?_|refine zbA ?_ _));refine blk_far ?_ NB621_623.out _;(with_reducible repeat (first|refine zbN ?_ _|refine zbD ?_|refine zbA ?_ _));refine blk_far ?_ NB621_623.out _;(with_reducible repeat (first|refine zbN ?_ _|refine zbD ?_|refine zbA ?_ _));refine blk_far ?_ NB621_623.out _;(with_reducible repeat (first|refine zbN ?_ _|refine zbD ?_|refine zbA ?_ _));exact BK621.out) hb);have n4_:=zm (zbB (g:=gb623) (o:=.cells #[.int .i64 ((rd_T42 l1 x27_1).f0),.int .i64 ((rd_T42 l1 x27_1).f1),.int .i64 ((rd_T42 l1 x27_1).f2),.int .i64 ((rd_T42 l1 x27_1).f3),.slice A622_4 ((rd_T42 l1 x27_1).f4).length c622_4,.slice A622_5 ((rd_T42 l1 x27_1).f5).length c622_5,.slice A622_6 ((rd_T42 l1 x27_1).f6).length c622_6] 42 (0,0)) (by (with_reducible repeat (first|refine zbN ?_ _|refine zbD ?_|refine zbA ?_ _));refine blk_put (cs:=#[.int .i64 ((rd_T42 l1 x27_1).f0),.int .i64 ((rd_T42 l1 x27_1).f1),.int .i64 ((rd_T42 l1 x27_1).f2),.int .i64 ((rd_T42 l1 x27_1).f3),.slice A622_4 ((rd_T42 l1 x27_1).f4).length c622_4,.slice A622_5 ((rd_T42 l1 x27_1).f5).length c622_5,.slice none 0 0]) ?_ 6 _ rfl;(with_reducible repeat (first|refine zbN ?_ _|refine zbD ?_|refine zbA ?_ _));refine blk_put (cs:=#[.int .i64 ((rd_T42 l1 x27_1).f0),.int .i64 ((rd_T42 l1 x27_1).f1),.int .i64 ((rd_T42 l1 x27_1).f2),.int .i64 ((rd_T42 l1 x27_1).f3),.slice A622_4 ((rd_T42 l1 x27_1).f4).length c622_4,.slice none 0 0,.slice none 0 0]) ?_ 5 _ rfl;(with_reducible repeat (first|refine zbN ?_ _|refine zbD ?_|refine zbA ?_ _));refine blk_put (cs:=#[.int .i64 ((rd_T42 l1 x27_1).f0),.int .i64 ((rd_T42 l1 x27_1).f1),.int .i64 ((rd_T42 l1 x27_1).f2),.int .i64 ((rd_T42 l1 x27_1).f3),.slice none 0 0,.slice none 0 0,.slice none 0 0]) ?_ 4 _ rfl;(with_reducible repeat (first|refine zbN ?_ _|refine zbD ?_|refine zbA ?_ _));refine blk_put (cs:=#[.int .i64 ((rd_T42 l1 x27_1).f0),.int .i64 ((rd_T42 l1 x27_1).f1),.int .i64 ((rd_T42 l1 x27_1).f2),.int .i64 0,.slice none 0 0,.slice none 0 0,.slice none 0 0]) ?_ 3 _ rfl;(with_reducible repeat (first|refine zbN ?_ _|refine zbD ?_|refine zbA ?_ _));refine blk_put (cs:=#[.int .i64 ((rd_T42 l1 x27_1).f0),.int .i64 ((rd_T42 l1 x27_1).f1),.int .i64 0,.int .i64 0,.slice none 0 0,.slice none 0 0,.slice none 0 0]) ?_ 2 _ rfl;(with_reducible repeat (first|refine zbN ?_ _|refine zbD ?_|refine zbA ?_ _));refine blk_put (cs:=#[.int .i64 ((rd_T42 l1 x27_1).f0),.int .i64 0,.int .i64 0,.int .i64 0,.slice none 0 0,.slice none 0 0,.slice none 0 0]) ?_ 1 _ rfl;(with_reducible repeat (first|refine zbN ?_ _|refine zbD ?_|refine zbA ?_ _));refine blk_put (cs:=#[.int .i64 0,.int .i64 0,.int .i64 0,.int .i64 0,.slice none 0 0,.slice none 0 0,.slice none 0 0]) ?_ 0 _ rfl;(with_reducible repeat (first|refine zbN ?_ _|refine zbD ?_|refine zbA ?_ _));exact BK623.out) hb);have n5_:=zkH HB hb;clear HO_622000 HO_622001 BK612 BK621 BK623 HB;have HO_622000:=n0_;have HO_622001:=n1_;have BK612:=n2_;have BK621:=n3_;have BK623:=n4_;have HB:=n5_;clear n0_ n1_ n2_ n3_ n4_ n5_;(try clear hb);(try clear hb2);(try clear hk);(try clear hi);obtain ⟨hcz24_0,hcz24_1,hcz24_2,hcz24_3,hcz24_4,hcz24_5,hcz24_6,hfz24_0,hfz24_1,hfz24_2,hfz24_3,hfz24_4,hfz24_5,hfz24_6⟩:=zc7 BK623.out;have hnb25:=NB621_612.out;have hnc25:=NB612_621.out;obtain ⟨hcz26_0,hcz26_1,hcz26_2,hfz26_0,hfz26_1,hfz26_2⟩:=zc3 BK621.out))
        go_loopg [47] k1 (fun kq v47 w'=>∃ (x47_2:Int) (x622000_2:List Bool) (x622001_2:List Int) (u622000:Value) (u622001:Value),v47=.int .i64 x47_2∧Aside0 (mapjnl_Replay.l1 kq a0 ji17 l1 (l1.length:Int) x27_1 (((rd_T42 l1 x27_1).f4).length:Int) x47_2 x622000_2 x622001_2 ji18 ((rd_T42 l1 x27_1).f0) ((rd_T42 l1 x27_1).f1) ((rd_T42 l1 x27_1).f2) ((rd_T42 l1 x27_1).f3) ((rd_T42 l1 x27_1).f4) ((rd_T42 l1 x27_1).f5) ((rd_T42 l1 x27_1).f6)=some (r1,r2,r3,r4,r5))∧Aside0 (kq≤k1)∧Aside0 (Kd.R Kd.bool 4 w' w.heap.size (fun _=>True) u622000 x622000_2)∧Aside0 (Kd.R (Kd.int .i64) 2 w' w.heap.size (fun _=>True) u622001 x622001_2)∧Aside0 (w'.heap[gb612]?=some (.cells #[(.slice none 0 0),(.slice none 0 0),.int .i64 0] 25 (0,0)))∧Aside0 (w'.heap[gb621]?=some (.cells #[u622000,u622001,.int .i64 ji18] 25 (0,0)))∧Aside0 (w'.heap[gb623]?=some (.cells #[.int .i64 ((rd_T42 l1 x27_1).f0),.int .i64 ((rd_T42 l1 x27_1).f1),.int .i64 ((rd_T42 l1 x27_1).f2),.int .i64 ((rd_T42 l1 x27_1).f3),(.slice A622_4 ((rd_T42 l1 x27_1).f4).length c622_4),(.slice A622_5 ((rd_T42 l1 x27_1).f5).length c622_5),(.slice A622_6 ((rd_T42 l1 x27_1).f6).length c622_6)] 42 (0,0)))∧Aside0 (Below w.heap.size w w'))
        case atStart=>exact ⟨(0),(x622000_1),(x622001_1),(u622000),(u622001),zs_,H',⟨Nat.le_refl _⟩,⟨by (with_reducible repeat (first|apply zrA|apply zrN|apply zrD));exact Kd.R_mono (Kd.R_far (p:=⟨gb621,2,none⟩) (Kd.R_types HO_622000.out BK621.out (by decide)) (fun _ hk=>hk.2) (.int .i64 ji18)) (fun _ hk=>trivial)⟩,⟨by (with_reducible repeat (first|apply zrA|apply zrN|apply zrD));exact Kd.R_mono (Kd.R_far (p:=⟨gb621,2,none⟩) (Kd.R_types HO_622001.out BK621.out (by decide)) (fun _ hk=>hk.2) (.int .i64 ji18)) (fun _ hk=>trivial)⟩,⟨by (with_reducible repeat (first|refine zbN ?_ _|refine zbD ?_|refine zbA ?_ _));refine blk_far ?_ NB612_621.out _;(with_reducible repeat (first|refine zbN ?_ _|refine zbD ?_|refine zbA ?_ _));exact BK612.out⟩,⟨by (with_reducible repeat (first|refine zbN ?_ _|refine zbD ?_|refine zbA ?_ _));refine blk_put (cs:=#[u622000,u622001,.int .i64 x622002_1]) ?_ 2 _ rfl;(with_reducible repeat (first|refine zbN ?_ _|refine zbD ?_|refine zbA ?_ _));exact BK621.out⟩,⟨by (with_reducible repeat (first|refine zbN ?_ _|refine zbD ?_|refine zbA ?_ _));refine blk_far ?_ NB623_621.out _;(with_reducible repeat (first|refine zbN ?_ _|refine zbD ?_|refine zbA ?_ _));exact BK623.out⟩,⟨zb_⟩⟩
        case round =>
         clear H'
         try clear c1
         try clear c2
         try clear p2
         try clear c3
         try clear c4
         try clear c4b0
         try clear c4b1
         try clear c6
         try clear p6
         try clear q6
         try clear hx6
         try clear c7
         try clear c9
         try clear c11
         try clear c12
         try clear c12b0
         try clear c13
         try clear c13b0
         try clear c14
         try clear c14b0
         try clear c16
         try clear c20
         try clear c21
         try clear c25
         try clear hcz10_0
         try clear hcz10_1
         try clear hcz10_2
         try clear hcz22_0
         try clear hcz22_1
         try clear hcz22_2
         try clear hcz22_3
         try clear hcz22_4
         try clear hcz22_5
         try clear hcz22_6
         try clear hcz24_0
         try clear hcz24_1
         try clear hcz24_2
         try clear hcz24_3
         try clear hcz24_4
         try clear hcz24_5
         try clear hcz24_6
         try clear hcz26_0
         try clear hcz26_1
         try clear hcz26_2
         try clear hfz10_0
         try clear hfz10_1
         try clear hfz10_2
         try clear hfz22_0
         try clear hfz22_1
         try clear hfz22_2
         try clear hfz22_3
         try clear hfz22_4
         try clear hfz22_5
         try clear hfz22_6
         try clear hfz24_0
         try clear hfz24_1
         try clear hfz24_2
         try clear hfz24_3
         try clear hfz24_4
         try clear hfz24_5
         try clear hfz24_6
         try clear hfz26_0
         try clear hfz26_1
         try clear hfz26_2
         try clear hx622_0
         try clear hx622_1
         try clear hx622_2
         try clear hx622_3
         try clear hx622_4
         try clear hx622_5
         try clear hx622_6
         try clear p2
         try clear p622
         try clear q622
         obtain ⟨x47_2,x622000_2,x622001_2,u622000,u622001,rfl,HA,HK2,HO_622000,HO_622001,BK612,BK621,BK623,HB⟩:=hrel
         cases gk with
         | zero=>exact absurd HA.out (by simp [mapjnl_Replay.l1])
         | succ k2 =>
          have H:=HA.out
          clear HA
          simp only [mapjnl_Replay.l1] at H
          by_cases c27:x47_2 < (((rd_T42 l1 x27_1).f4).length:Int)
          ·rw [if_pos c27] at H
           have c27b0:decide (x47_2 < (((rd_T42 l1 x27_1).f4).length:Int))=true:=decide_eq_true c27
           clear c27
           by_cases c28:(wrap64 ((wrap64 (((rd_T42 l1 x27_1).f2) * 64)) + x47_2)) < a0
           ·rw [if_pos c28] at H
            have c28b0:decide ((wrap64 ((wrap64 (((rd_T42 l1 x27_1).f2) * 64)) + x47_2)) < a0)=true:=decide_eq_true c28
            clear c28
            obtain ⟨ji29,hji29⟩:∃ j_:Int,(wrap64 ((wrap64 (((rd_T42 l1 x27_1).f2) * 64)) + x47_2))=j_:=⟨_,rfl⟩
            replace H:(if 0≤(ji29) then (if (ji29) < (x622000_2.length:Int) then (if rdOf false x622000_2 (ji29)=true then (if (ji29) < (x622001_2.length:Int) then (if 0≤x47_2 then (if x47_2 < (((rd_T42 l1 x27_1).f5).length:Int) then (mapjnl_Replay.l1 k2 a0 ji17 l1 (l1.length:Int) x27_1 (((rd_T42 l1 x27_1).f4).length:Int) (wrap64 (x47_2 + 1)) (x622000_2.set ((ji29):Int).toNat true) (x622001_2.set ((ji29):Int).toNat (mx (rd x622001_2 (ji29)) (rd ((rd_T42 l1 x27_1).f5) x47_2))) ji18 ((rd_T42 l1 x27_1).f0) ((rd_T42 l1 x27_1).f1) ((rd_T42 l1 x27_1).f2) ((rd_T42 l1 x27_1).f3) ((rd_T42 l1 x27_1).f4) ((rd_T42 l1 x27_1).f5) ((rd_T42 l1 x27_1).f6)) else (none)) else (none)) else (none)) else (if 0≤x47_2 then (if x47_2 < (((rd_T42 l1 x27_1).f4).length:Int) then (if (ji29) < (x622001_2.length:Int) then (if x47_2 < (((rd_T42 l1 x27_1).f5).length:Int) then (mapjnl_Replay.l1 k2 a0 ji17 l1 (l1.length:Int) x27_1 (((rd_T42 l1 x27_1).f4).length:Int) (wrap64 (x47_2 + 1)) (x622000_2.set ((ji29):Int).toNat (rdOf false ((rd_T42 l1 x27_1).f4) x47_2)) (x622001_2.set ((ji29):Int).toNat (mx (rd x622001_2 (ji29)) (rd ((rd_T42 l1 x27_1).f5) x47_2))) ji18 ((rd_T42 l1 x27_1).f0) ((rd_T42 l1 x27_1).f1) ((rd_T42 l1 x27_1).f2) ((rd_T42 l1 x27_1).f3) ((rd_T42 l1 x27_1).f4) ((rd_T42 l1 x27_1).f5) ((rd_T42 l1 x27_1).f6)) else (none)) else (none)) else (none)) else (none))) else (none)) else (none))=some (r1,r2,r3,r4,r5):=by first|(rw [hji29] at H;exact H)|(simp only [hji29] at H ⊢;exact H)
            (try rw [hji29] at c28b0)
            have hji29w:(IntKind.i64.wrap ((wrap64 (((rd_T42 l1 x27_1).f2) * 64)) + x47_2))=ji29:=(i64_w _).trans hji29
            by_cases c30:0≤(ji29)
            ·rw [if_pos c30] at H
             have c30b0:decide (0≤(ji29))=true:=decide_eq_true c30
             clear c30
             by_cases c31:(ji29) < (x622000_2.length:Int)
             ·rw [if_pos c31] at H
              have c31b0:decide ((ji29) < (x622000_2.length:Int))=true:=decide_eq_true c31
              clear c31
              obtain ⟨bq32,hbq32⟩:∃ b_:Bool,b_=(rdOf false x622000_2 (ji29)):=⟨_,rfl⟩
              replace H:(if bq32=true then (if (ji29) < (x622001_2.length:Int) then (if 0≤x47_2 then (if x47_2 < (((rd_T42 l1 x27_1).f5).length:Int) then (mapjnl_Replay.l1 k2 a0 ji17 l1 (l1.length:Int) x27_1 (((rd_T42 l1 x27_1).f4).length:Int) (wrap64 (x47_2 + 1)) (x622000_2.set ((ji29):Int).toNat true) (x622001_2.set ((ji29):Int).toNat (mx (rd x622001_2 (ji29)) (rd ((rd_T42 l1 x27_1).f5) x47_2))) ji18 ((rd_T42 l1 x27_1).f0) ((rd_T42 l1 x27_1).f1) ((rd_T42 l1 x27_1).f2) ((rd_T42 l1 x27_1).f3) ((rd_T42 l1 x27_1).f4) ((rd_T42 l1 x27_1).f5) ((rd_T42 l1 x27_1).f6)) else (none)) else (none)) else (none)) else (if 0≤x47_2 then (if x47_2 < (((rd_T42 l1 x27_1).f4).length:Int) then (if (ji29) < (x622001_2.length:Int) then (if x47_2 < (((rd_T42 l1 x27_1).f5).length:Int) then (mapjnl_Replay.l1 k2 a0 ji17 l1 (l1.length:Int) x27_1 (((rd_T42 l1 x27_1).f4).length:Int) (wrap64 (x47_2 + 1)) (x622000_2.set ((ji29):Int).toNat (rdOf false ((rd_T42 l1 x27_1).f4) x47_2)) (x622001_2.set ((ji29):Int).toNat (mx (rd x622001_2 (ji29)) (rd ((rd_T42 l1 x27_1).f5) x47_2))) ji18 ((rd_T42 l1 x27_1).f0) ((rd_T42 l1 x27_1).f1) ((rd_T42 l1 x27_1).f2) ((rd_T42 l1 x27_1).f3) ((rd_T42 l1 x27_1).f4) ((rd_T42 l1 x27_1).f5) ((rd_T42 l1 x27_1).f6)) else (none)) else (none)) else (none)) else (none)))=some (r1,r2,r3,r4,r5):=by rw [← hbq32] at H;exact H
              have Nbq32:=zm hbq32
              clear hbq32
              by_cases c33:bq32=true
              ·subst c33
               have H1:(if (ji29) < (x622001_2.length:Int) then (if 0≤x47_2 then (if x47_2 < (((rd_T42 l1 x27_1).f5).length:Int) then (mapjnl_Replay.l1 k2 a0 ji17 l1 (l1.length:Int) x27_1 (((rd_T42 l1 x27_1).f4).length:Int) (wrap64 (x47_2 + 1)) (x622000_2.set ((ji29):Int).toNat true) (x622001_2.set ((ji29):Int).toNat (mx (rd x622001_2 (ji29)) (rd ((rd_T42 l1 x27_1).f5) x47_2))) ji18 ((rd_T42 l1 x27_1).f0) ((rd_T42 l1 x27_1).f1) ((rd_T42 l1 x27_1).f2) ((rd_T42 l1 x27_1).f3) ((rd_T42 l1 x27_1).f4) ((rd_T42 l1 x27_1).f5) ((rd_T42 l1 x27_1).f6)) else (none)) else (none)) else (none))=some (r1,r2,r3,r4,r5):=by rw [if_pos rfl] at H;exact H
               clear H
               have H:=H1
               clear H1
               obtain ⟨y626,hy626⟩:∃ y_:List Bool,y_=(x622000_2.set ((ji29):Int).toNat true):=⟨_,rfl⟩
               replace H:(if (ji29) < (x622001_2.length:Int) then (if 0≤x47_2 then (if x47_2 < (((rd_T42 l1 x27_1).f5).length:Int) then (mapjnl_Replay.l1 k2 a0 ji17 l1 (l1.length:Int) x27_1 (((rd_T42 l1 x27_1).f4).length:Int) (wrap64 (x47_2 + 1)) y626 (x622001_2.set ((ji29):Int).toNat (mx (rd x622001_2 (ji29)) (rd ((rd_T42 l1 x27_1).f5) x47_2))) ji18 ((rd_T42 l1 x27_1).f0) ((rd_T42 l1 x27_1).f1) ((rd_T42 l1 x27_1).f2) ((rd_T42 l1 x27_1).f3) ((rd_T42 l1 x27_1).f4) ((rd_T42 l1 x27_1).f5) ((rd_T42 l1 x27_1).f6)) else (none)) else (none)) else (none))=some (r1,r2,r3,r4,r5):=by first|(rw [hy626];with_reducible exact H)|(have H2_:=(Option.bind_some _ _).symm.trans H;rw [hy626];with_reducible exact H2_)|(have H2_:=(Option.bind_some _ _).symm.trans H;with_reducible exact H2_)|with_reducible exact H|(rw [hy626];exact H)|exact H
               have Ny626:=zm hy626
               clear hy626
               by_cases c35:(ji29) < (x622001_2.length:Int)
               ·rw [if_pos c35] at H
                have c35b0:decide ((ji29) < (x622001_2.length:Int))=true:=decide_eq_true c35
                clear c35
                by_cases c36:0≤x47_2
                ·rw [if_pos c36] at H
                 have c36b0:decide (0≤x47_2)=true:=decide_eq_true c36
                 clear c36
                 by_cases c37:x47_2 < (((rd_T42 l1 x27_1).f5).length:Int)
                 ·rw [if_pos c37] at H
                  have c37b0:decide (x47_2 < (((rd_T42 l1 x27_1).f5).length:Int))=true:=decide_eq_true c37
                  clear c37
                  obtain ⟨ji38,hji38⟩:∃ j_:Int,(mx (rd x622001_2 (ji29)) (rd ((rd_T42 l1 x27_1).f5) x47_2))=j_:=⟨_,rfl⟩
                  replace H:(mapjnl_Replay.l1 k2 a0 ji17 l1 (l1.length:Int) x27_1 (((rd_T42 l1 x27_1).f4).length:Int) (wrap64 (x47_2 + 1)) y626 (x622001_2.set ((ji29):Int).toNat (ji38)) ji18 ((rd_T42 l1 x27_1).f0) ((rd_T42 l1 x27_1).f1) ((rd_T42 l1 x27_1).f2) ((rd_T42 l1 x27_1).f3) ((rd_T42 l1 x27_1).f4) ((rd_T42 l1 x27_1).f5) ((rd_T42 l1 x27_1).f6))=some (r1,r2,r3,r4,r5):=by first|(rw [hji38] at H;exact H)|(simp only [hji38] at H ⊢;exact H)
                  have hji38_:(if (rd x622001_2 (ji29)) < (rd ((rd_T42 l1 x27_1).f5) x47_2) then (rd ((rd_T42 l1 x27_1).f5) x47_2) else (rd x622001_2 (ji29)))=ji38:=hji38
                  obtain ⟨y629,hy629⟩:∃ y_:List Int,y_=(x622001_2.set ((ji29):Int).toNat (ji38)):=⟨_,rfl⟩
                  replace H:(mapjnl_Replay.l1 k2 a0 ji17 l1 (l1.length:Int) x27_1 (((rd_T42 l1 x27_1).f4).length:Int) (wrap64 (x47_2 + 1)) y626 y629 ji18 ((rd_T42 l1 x27_1).f0) ((rd_T42 l1 x27_1).f1) ((rd_T42 l1 x27_1).f2) ((rd_T42 l1 x27_1).f3) ((rd_T42 l1 x27_1).f4) ((rd_T42 l1 x27_1).f5) ((rd_T42 l1 x27_1).f6))=some (r1,r2,r3,r4,r5):=by first|(rw [hy629];with_reducible exact H)|(have H2_:=(Option.bind_some _ _).symm.trans H;rw [hy629];with_reducible exact H2_)|(have H2_:=(Option.bind_some _ _).symm.trans H;with_reducible exact H2_)|with_reducible exact H|(rw [hy629];exact H)|exact H
                  have Ny629:=zm hy629
                  clear hy629
                  have H':=zm H
                  clear H
                  have hnb40:=NB623_612.out
                  have hnc40:=NB612_623.out
                  have hnb41:=NB623_621.out
                  have hnc41:=NB621_623.out
                  obtain ⟨hcz42_0,hcz42_1,hcz42_2,hcz42_3,hcz42_4,hcz42_5,hcz42_6,hfz42_0,hfz42_1,hfz42_2,hfz42_3,hfz42_4,hfz42_5,hfz42_6⟩:=zc7 BK623.out
                  try go_wp2
                  have n0_:=zm (zrD HO_622000.out)
                  have n1_:=zm (zrD HO_622001.out)
                  have n2_:=zm (zbD BK612.out)
                  have n3_:=zm (zbD BK621.out)
                  have n4_:=zm (zbD BK623.out)
                  have n5_:=zm (zlD HB.out)
                  clear HO_622000 HO_622001 BK612 BK621 BK623 HB
                  have HO_622000:=n0_
                  have HO_622001:=n1_
                  have BK612:=n2_
                  have BK621:=n3_
                  have BK623:=n4_
                  have HB:=n5_
                  clear n0_ n1_ n2_ n3_ n4_ n5_
                  obtain ⟨Ao44,co44,eo44⟩:=Kd.R_slice HO_622000.out
                  (first|subst eo44|(injection eo44 with f1_ f2_ f3_;have f4_:=f1_.symm;have f5_:=f3_.symm;clear f1_ f2_ f3_;subst f4_;subst f5_))
                  have p625:0≤((ji29):Int):=za_
                  have q625:(ji29) < (x622000_2.length:Int):=za_
                  obtain ⟨ad625,e625,hx625_0⟩:=Kd.at_bool (Kd.R_reads' HO_622000.out).2.2 (ji29) p625 q625
                  (try rw [← Nbq32.out] at hx625_0)
                  cases e625
                  replace p625:=eq_true p625
                  replace q625:=eq_true q625
                  have p34:0≤((ji29):Int):=za_
                  have q34:((ji29):Int) < ((x622000_2.length:Int):Int):=za_
                  obtain ⟨go34,co34,eo34,gb34,gl34,cl34,HG34⟩:=Kd.R_form HO_622000.out (by omega)
                  (first|cases eo34|(injection eo34 with ea_ en_ ec_;(first|subst ea_|(injection ea_ with ea_;subst ea_));subst ec_;clear en_))
                  have GB34:=zm gb34
                  have GG34:=zm HG34
                  clear gb34 gl34 HG34
                  (first|simp only [add_plain] at hx625_0|skip)
                  obtain ⟨hx34_0,hf34_0⟩:=Kd.R_celln false HO_622000.out ((ji29):Int) p34 q34
                  replace p34:=eq_true p34
                  replace q34:=eq_true q34
                  have HP45:=Kd.R_putn HO_622000.out ((ji29):Int) true
                  rw [← Ny626.out] at HP45
                  have HQ45:=zm HP45
                  clear HP45
                  refine start_ (n:=17) (S:=fun w'=>w'.cell? ⟨gb621,0,none⟩=some (.slice (some ⟨go34,0,none⟩) x622000_2.length co44)∧w'.cell? ⟨gb621,1,none⟩=some (u622001)∧w'.cell? ⟨gb621,2,none⟩=some (.int .i64 ji18)∧w'.cell? ⟨go34,((ji29)).toNat,none⟩=some (.bool true)) (ds:=[16]) (Array.replicate 17 false) (by kernel_rfl) rfl rfl ⟨(blk_cell BK621.out 0).trans rfl,(blk_cell BK621.out 1).trans rfl,(blk_cell BK621.out 2).trans rfl,hx625_0⟩ (fun hHeld=>?_);refine with_tabW mapjnl_Replay.tab16 mapjnl_Replay.bits16 (fun HT_ HW_=>?_)
                  generalize wr.drew=w43 at HO_622000 HO_622001 BK612 BK621 BK623 HB GG34 HQ45 hf34_0 hx34_0 hx625_0 hHeld ⊢
                  refine zpu 0 ?_
                  refine zpu 2 ?_
                  refine zpu 3 ?_
                  refine zpu 5 ?_
                  refine zta 1 hHeld ?_
                  refine zta 4 hHeld ?_
                  refine zpu 6 ?_
                  refine zta 7 hHeld ?_
                  refine zpu 8 ?_
                  refine zpn 9 ?_
                  refine zpn 10 ?_
                  refine zpn 11 ?_
                  refine zpn 12 ?_
                  refine zpn 13 ?_
                  refine zpu 14 ?_
                  refine zpu 15 ?_
                  refine zla 16 none (fun K hK=>?_)
                  refine skip_ (w1:=?_) (by rfl) rfl ?_ ?_
                  rotate_left
                  ·go_simp
                   rfl
                  refine hK.out _ _ ?_
                  clear hK K
                  refine zdo ?_
                  try go_wp2
                  have n0_:Aside0 (Kd.R Kd.bool 4 (w43.setCell ⟨go34,((ji29):Int).toNat,none⟩ (.bool true)) w.heap.size (fun _=>True) (.slice (some ⟨go34,0,none⟩) x622000_2.length co44) y626):=⟨by (with_reducible repeat (first|apply zrA|apply zrN|apply zrD));exact HQ45.out⟩
                  have n1_:Aside0 (Kd.R (Kd.int .i64) 2 (w43.setCell ⟨go34,((ji29):Int).toNat,none⟩ (.bool true)) w.heap.size (fun _=>True) u622001 x622001_2):=⟨by (with_reducible repeat (first|apply zrA|apply zrN|apply zrD));exact Kd.R_mono (Kd.R_far (p:=⟨go34,((ji29):Int).toNat,none⟩) (Kd.R_types HO_622001.out GG34.out (by decide)) (fun _ hk=>hk.2) (.bool true)) (fun _ hk=>trivial)⟩
                  have n2_:Aside0 ((w43.setCell ⟨go34,((ji29):Int).toNat,none⟩ (.bool true)).heap[gb612]?=some (.cells #[.slice none 0 0,.slice none 0 0,.int .i64 0] 25 (0,0))):=⟨by (with_reducible repeat (first|refine zbN ?_ _|refine zbD ?_|refine zbA ?_ _));refine blk_far ?_ (by have h_:=Kd.R_ne HO_622000.out BK612.out (by decide);intro e_;exact h_ (by rw [e_];rfl)) _;(with_reducible repeat (first|refine zbN ?_ _|refine zbD ?_|refine zbA ?_ _));exact BK612.out⟩
                  have n3_:Aside0 ((w43.setCell ⟨go34,((ji29):Int).toNat,none⟩ (.bool true)).heap[gb621]?=some (.cells #[.slice (some ⟨go34,0,none⟩) x622000_2.length co44,u622001,.int .i64 ji18] 25 (0,0))):=⟨by (with_reducible repeat (first|refine zbN ?_ _|refine zbD ?_|refine zbA ?_ _));refine blk_far ?_ (by have h_:=Kd.R_ne HO_622000.out BK621.out (by decide);intro e_;exact h_ (by rw [e_];rfl)) _;(with_reducible repeat (first|refine zbN ?_ _|refine zbD ?_|refine zbA ?_ _));exact BK621.out⟩
                  have n4_:Aside0 ((w43.setCell ⟨go34,((ji29):Int).toNat,none⟩ (.bool true)).heap[gb623]?=some (.cells #[.int .i64 ((rd_T42 l1 x27_1).f0),.int .i64 ((rd_T42 l1 x27_1).f1),.int .i64 ((rd_T42 l1 x27_1).f2),.int .i64 ((rd_T42 l1 x27_1).f3),.slice A622_4 ((rd_T42 l1 x27_1).f4).length c622_4,.slice A622_5 ((rd_T42 l1 x27_1).f5).length c622_5,.slice A622_6 ((rd_T42 l1 x27_1).f6).length c622_6] 42 (0,0))):=⟨by (with_reducible repeat (first|refine zbN ?_ _|refine zbD ?_|refine zbA ?_ _));refine blk_far ?_ (by have h_:=Kd.R_ne HO_622000.out BK623.out (by decide);intro e_;exact h_ (by rw [e_];rfl)) _;(with_reducible repeat (first|refine zbN ?_ _|refine zbD ?_|refine zbA ?_ _));exact BK623.out⟩
                  have n5_:Aside0 (Below w.heap.size w (w43.setCell ⟨go34,((ji29):Int).toNat,none⟩ (.bool true))):=⟨by repeat (first|(with_reducible first|exact HB.out|apply zlA|apply zlN|apply zlD|refine zlS ?_ GB34.out|refine zlS ?_ GE612.out|refine zlS ?_ GE621.out|refine zlS ?_ GE623.out)|exact HB.out)⟩
                  (try clear HO_622000)
                  (try clear HO_622001)
                  (try clear BK612)
                  (try clear BK621)
                  (try clear BK623)
                  (try clear HB)
                  generalize (w43.setCell ⟨go34,((ji29):Int).toNat,none⟩ (.bool true))=w46 at n0_ n1_ n2_ n3_ n4_ n5_ ⊢
                  have HO_622000:=n0_
                  have HO_622001:=n1_
                  have BK612:=n2_
                  have BK621:=n3_
                  have BK623:=n4_
                  have HB:=n5_
                  clear n0_ n1_ n2_ n3_ n4_ n5_
                  have n0_:=zm (zrD HO_622000.out)
                  have n1_:=zm (zrD HO_622001.out)
                  have n2_:=zm (zbD BK612.out)
                  have n3_:=zm (zbD BK621.out)
                  have n4_:=zm (zbD BK623.out)
                  have n5_:=zm (zlD HB.out)
                  clear HO_622000 HO_622001 BK612 BK621 BK623 HB
                  have HO_622000:=n0_
                  have HO_622001:=n1_
                  have BK612:=n2_
                  have BK621:=n3_
                  have BK623:=n4_
                  have HB:=n5_
                  clear n0_ n1_ n2_ n3_ n4_ n5_
                  obtain ⟨Ao48,co48,eo48⟩:=Kd.R_slice HO_622001.out
                  (first|subst eo48|(injection eo48 with f1_ f2_ f3_;have f4_:=f1_.symm;have f5_:=f3_.symm;clear f1_ f2_ f3_;subst f4_;subst f5_))
                  have p627:0≤((ji29):Int):=za_
                  have q627:(ji29) < (x622001_2.length:Int):=za_
                  obtain ⟨ad627,e627,hx627_0⟩:=Kd.at_int (Kd.R_reads' HO_622001.out).2.2 (ji29) p627 q627
                  cases e627
                  replace p627:=eq_true p627
                  replace q627:=eq_true q627
                  have p628:0≤(x47_2:Int):=za_
                  have q628:x47_2 < (((rd_T42 l1 x27_1).f5).length:Int):=za_
                  obtain ⟨ad628,e628,hx628_0⟩:=Kd.at_int HR622_5.out x47_2 p628 q628
                  have hw628_0:=hx628_0
                  cases e628
                  replace hx628_0:=zhx HB hx628_0
                  replace p628:=eq_true p628
                  replace q628:=eq_true q628
                  have p39:0≤((ji29):Int):=za_
                  have q39:((ji29):Int) < ((x622001_2.length:Int):Int):=za_
                  obtain ⟨go39,co39,eo39,gb39,gl39,cl39,HG39⟩:=Kd.R_form HO_622001.out (by omega)
                  (first|cases eo39|(injection eo39 with ea_ en_ ec_;(first|subst ea_|(injection ea_ with ea_;subst ea_));subst ec_;clear en_))
                  have GB39:=zm gb39
                  have GG39:=zm HG39
                  clear gb39 gl39 HG39
                  (first|simp only [add_plain] at hx627_0|skip)
                  obtain ⟨hx39_0,hf39_0⟩:=Kd.R_celln 0 HO_622001.out ((ji29):Int) p39 q39
                  replace p39:=eq_true p39
                  replace q39:=eq_true q39
                  have HP49:=Kd.R_putn HO_622001.out ((ji29):Int) ji38
                  rw [← Ny629.out] at HP49
                  have HQ49:=zm HP49
                  clear HP49
                  refine start_ (n:=16) (S:=fun w'=>w'.cell? ⟨gb621,0,none⟩=some (.slice (some ⟨go34,0,none⟩) x622000_2.length co44)∧w'.cell? ⟨gb621,1,none⟩=some (.slice (some ⟨go39,0,none⟩) x622001_2.length co48)∧w'.cell? ⟨gb621,2,none⟩=some (.int .i64 ji18)∧w'.cell? ⟨gb623,0,none⟩=some (.int .i64 ((rd_T42 l1 x27_1).f0))∧w'.cell? ⟨gb623,1,none⟩=some (.int .i64 ((rd_T42 l1 x27_1).f1))∧w'.cell? ⟨gb623,2,none⟩=some (.int .i64 ((rd_T42 l1 x27_1).f2))∧w'.cell? ⟨gb623,3,none⟩=some (.int .i64 ((rd_T42 l1 x27_1).f3))∧w'.cell? ⟨gb623,4,none⟩=some (.slice A622_4 ((rd_T42 l1 x27_1).f4).length c622_4)∧w'.cell? ⟨gb623,5,none⟩=some (.slice (some ad628) ((rd_T42 l1 x27_1).f5).length c622_5)∧w'.cell? ⟨gb623,6,none⟩=some (.slice A622_6 ((rd_T42 l1 x27_1).f6).length c622_6)∧w'.cell? ⟨go39,((ji29)).toNat,none⟩=some (.int .i64 (rd x622001_2 (ji29)))∧w'.cell? (ad628.add (x47_2).toNat)=some (.int .i64 (rd ((rd_T42 l1 x27_1).f5) x47_2))) (ds:=[15]) (Array.replicate 16 false) (by kernel_rfl) rfl rfl ⟨(blk_cell BK621.out 0).trans rfl,(blk_cell BK621.out 1).trans rfl,(blk_cell BK621.out 2).trans rfl,(blk_cell BK623.out 0).trans rfl,(blk_cell BK623.out 1).trans rfl,(blk_cell BK623.out 2).trans rfl,(blk_cell BK623.out 3).trans rfl,(blk_cell BK623.out 4).trans rfl,(blk_cell BK623.out 5).trans rfl,(blk_cell BK623.out 6).trans rfl,hx627_0,(zhx HB hw628_0)⟩ (fun hHeld=>?_);refine with_tabW mapjnl_Replay.tab17 mapjnl_Replay.bits17 (fun HT_ HW_=>?_)
                  generalize w46.drew=w47 at HO_622000 HO_622001 BK612 BK621 BK623 HB GG39 HQ45 HQ49 hf39_0 hx39_0 hx627_0 hx628_0 hHeld ⊢
                  refine zpu 0 ?_
                  refine zpu 2 ?_
                  refine zpu 3 ?_
                  refine zpu 5 ?_
                  refine zpu 8 ?_
                  refine zpu 10 ?_
                  refine zta 1 hHeld ?_
                  refine zta 4 hHeld ?_
                  refine zpu 6 ?_
                  refine zta 7 hHeld ?_
                  refine zta 9 hHeld ?_
                  refine zpu 11 ?_
                  refine zta 12 hHeld ?_
                  refine zpu 13 ?_
                  refine zpu 14 ?_
                  refine zla 15 none (fun K hK=>?_)
                  refine skip_ (w1:=?_) (by rfl) rfl ?_ ?_
                  rotate_left
                  ·go_simp
                   rfl
                  refine hK.out _ _ ?_
                  clear hK K
                  refine zdo ?_
                  try go_wp2
                  go_roundg k2
                  case measure=>have:=HK1.out;have:=HK2.out;omega
                  case rel=>exact ⟨(wrap64 (x47_2 + 1)),(y626),(y629),(.slice (some ⟨go34,0,none⟩) x622000_2.length co44),(.slice (some ⟨go39,0,none⟩) x622001_2.length co48),zs_,H',⟨by have:=HK1.out;have:=HK2.out;omega⟩,⟨by (with_reducible repeat (first|apply zrA|apply zrN|apply zrD));exact Kd.R_mono (Kd.R_far (p:=⟨go39,((ji29):Int).toNat,none⟩) (Kd.R_types HO_622000.out GG39.out (by decide)) (fun _ hk=>hk.2) (.int .i64 ji38)) (fun _ hk=>trivial)⟩,⟨by (with_reducible repeat (first|apply zrA|apply zrN|apply zrD));exact HQ49.out⟩,⟨by (with_reducible repeat (first|refine zbN ?_ _|refine zbD ?_|refine zbA ?_ _));refine blk_far ?_ (by have h_:=Kd.R_ne HO_622001.out BK612.out (by decide);intro e_;exact h_ (by rw [e_];rfl)) _;(with_reducible repeat (first|refine zbN ?_ _|refine zbD ?_|refine zbA ?_ _));exact BK612.out⟩,⟨by (with_reducible repeat (first|refine zbN ?_ _|refine zbD ?_|refine zbA ?_ _));refine blk_far ?_ (by have h_:=Kd.R_ne HO_622001.out BK621.out (by decide);intro e_;exact h_ (by rw [e_];rfl)) _;(with_reducible repeat (first|refine zbN ?_ _|refine zbD ?_|refine zbA ?_ _));exact BK621.out⟩,⟨by (with_reducible repeat (first|refine zbN ?_ _|refine zbD ?_|refine zbA ?_ _));refine blk_far ?_ (by have h_:=Kd.R_ne HO_622001.out BK623.out (by decide);intro e_;exact h_ (by rw [e_];rfl)) _;(with_reducible repeat (first|refine zbN ?_ _|refine zbD ?_|refine zbA ?_ _));exact BK623.out⟩,⟨by repeat (first|(with_reducible first|exact HB.out|apply zlA|apply zlN|apply zlD|refine zlS ?_ GB39.out|refine zlS ?_ GE612.out|refine zlS ?_ GE621.out|refine zlS ?_ GE623.out)|exact HB.out)⟩⟩
                 ·rw [if_neg c37] at H
                  exact absurd H (by simp)
                ·rw [if_neg c36] at H
                 exact absurd H (by simp)
               ·rw [if_neg c35] at H
                exact absurd H (by simp)
              ·replace c33:=Bool.eq_false_iff.mpr c33
               subst c33
               have H1:(if 0≤x47_2 then (if x47_2 < (((rd_T42 l1 x27_1).f4).length:Int) then (if (ji29) < (x622001_2.length:Int) then (if x47_2 < (((rd_T42 l1 x27_1).f5).length:Int) then (mapjnl_Replay.l1 k2 a0 ji17 l1 (l1.length:Int) x27_1 (((rd_T42 l1 x27_1).f4).length:Int) (wrap64 (x47_2 + 1)) (x622000_2.set ((ji29):Int).toNat (rdOf false ((rd_T42 l1 x27_1).f4) x47_2)) (x622001_2.set ((ji29):Int).toNat (mx (rd x622001_2 (ji29)) (rd ((rd_T42 l1 x27_1).f5) x47_2))) ji18 ((rd_T42 l1 x27_1).f0) ((rd_T42 l1 x27_1).f1) ((rd_T42 l1 x27_1).f2) ((rd_T42 l1 x27_1).f3) ((rd_T42 l1 x27_1).f4) ((rd_T42 l1 x27_1).f5) ((rd_T42 l1 x27_1).f6)) else (none)) else (none)) else (none)) else (none))=some (r1,r2,r3,r4,r5):=by rw [if_neg (show ¬ (false=true) by decide)] at H;exact H
               clear H
               have H:=H1
               clear H1
               by_cases c50:0≤x47_2
               ·rw [if_pos c50] at H
                have c50b0:decide (0≤x47_2)=true:=decide_eq_true c50
                clear c50
                by_cases c51:x47_2 < (((rd_T42 l1 x27_1).f4).length:Int)
                ·rw [if_pos c51] at H
                 have c51b0:decide (x47_2 < (((rd_T42 l1 x27_1).f4).length:Int))=true:=decide_eq_true c51
                 clear c51
                 obtain ⟨y631,hy631⟩:∃ y_:List Bool,y_=(x622000_2.set ((ji29):Int).toNat (rdOf false ((rd_T42 l1 x27_1).f4) x47_2)):=⟨_,rfl⟩
                 replace H:(if (ji29) < (x622001_2.length:Int) then (if x47_2 < (((rd_T42 l1 x27_1).f5).length:Int) then (mapjnl_Replay.l1 k2 a0 ji17 l1 (l1.length:Int) x27_1 (((rd_T42 l1 x27_1).f4).length:Int) (wrap64 (x47_2 + 1)) y631 (x622001_2.set ((ji29):Int).toNat (mx (rd x622001_2 (ji29)) (rd ((rd_T42 l1 x27_1).f5) x47_2))) ji18 ((rd_T42 l1 x27_1).f0) ((rd_T42 l1 x27_1).f1) ((rd_T42 l1 x27_1).f2) ((rd_T42 l1 x27_1).f3) ((rd_T42 l1 x27_1).f4) ((rd_T42 l1 x27_1).f5) ((rd_T42 l1 x27_1).f6)) else (none)) else (none))=some (r1,r2,r3,r4,r5):=by first|(rw [hy631];with_reducible exact H)|(have H2_:=(Option.bind_some _ _).symm.trans H;rw [hy631];with_reducible exact H2_)|(have H2_:=(Option.bind_some _ _).symm.trans H;with_reducible exact H2_)|with_reducible exact H|(rw [hy631];exact H)|exact H
                 have Ny631:=zm hy631
                 clear hy631
                 by_cases c53:(ji29) < (x622001_2.length:Int)
                 ·rw [if_pos c53] at H
                  have c53b0:decide ((ji29) < (x622001_2.length:Int))=true:=decide_eq_true c53
                  clear c53
                  by_cases c54:x47_2 < (((rd_T42 l1 x27_1).f5).length:Int)
                  ·rw [if_pos c54] at H
                   have c54b0:decide (x47_2 < (((rd_T42 l1 x27_1).f5).length:Int))=true:=decide_eq_true c54
                   clear c54
                   obtain ⟨ji55,hji55⟩:∃ j_:Int,(mx (rd x622001_2 (ji29)) (rd ((rd_T42 l1 x27_1).f5) x47_2))=j_:=⟨_,rfl⟩
                   replace H:(mapjnl_Replay.l1 k2 a0 ji17 l1 (l1.length:Int) x27_1 (((rd_T42 l1 x27_1).f4).length:Int) (wrap64 (x47_2 + 1)) y631 (x622001_2.set ((ji29):Int).toNat (ji55)) ji18 ((rd_T42 l1 x27_1).f0) ((rd_T42 l1 x27_1).f1) ((rd_T42 l1 x27_1).f2) ((rd_T42 l1 x27_1).f3) ((rd_T42 l1 x27_1).f4) ((rd_T42 l1 x27_1).f5) ((rd_T42 l1 x27_1).f6))=some (r1,r2,r3,r4,r5):=by first|(rw [hji55] at H;exact H)|(simp only [hji55] at H ⊢;exact H)
                   have hji55_:(if (rd x622001_2 (ji29)) < (rd ((rd_T42 l1 x27_1).f5) x47_2) then (rd ((rd_T42 l1 x27_1).f5) x47_2) else (rd x622001_2 (ji29)))=ji55:=hji55
                   obtain ⟨y634,hy634⟩:∃ y_:List Int,y_=(x622001_2.set ((ji29):Int).toNat (ji55)):=⟨_,rfl⟩
                   replace H:(mapjnl_Replay.l1 k2 a0 ji17 l1 (l1.length:Int) x27_1 (((rd_T42 l1 x27_1).f4).length:Int) (wrap64 (x47_2 + 1)) y631 y634 ji18 ((rd_T42 l1 x27_1).f0) ((rd_T42 l1 x27_1).f1) ((rd_T42 l1 x27_1).f2) ((rd_T42 l1 x27_1).f3) ((rd_T42 l1 x27_1).f4) ((rd_T42 l1 x27_1).f5) ((rd_T42 l1 x27_1).f6))=some (r1,r2,r3,r4,r5):=by first|(rw [hy634];with_reducible exact H)|(have H2_:=(Option.bind_some _ _).symm.trans H;rw [hy634];with_reducible exact H2_)|(have H2_:=(Option.bind_some _ _).symm.trans H;with_reducible exact H2_)|with_reducible exact H|(rw [hy634];exact H)|exact H
                   have Ny634:=zm hy634
                   clear hy634
                   have H':=zm H
                   clear H
                   have hnb57:=NB623_612.out
                   have hnc57:=NB612_623.out
                   have hnb58:=NB623_621.out
                   have hnc58:=NB621_623.out
                   obtain ⟨hcz59_0,hcz59_1,hcz59_2,hcz59_3,hcz59_4,hcz59_5,hcz59_6,hfz59_0,hfz59_1,hfz59_2,hfz59_3,hfz59_4,hfz59_5,hfz59_6⟩:=zc7 BK623.out
                   try go_wp2
                   have n0_:=zm (zrD HO_622000.out)
                   have n1_:=zm (zrD HO_622001.out)
                   have n2_:=zm (zbD BK612.out)
                   have n3_:=zm (zbD BK621.out)
                   have n4_:=zm (zbD BK623.out)
                   have n5_:=zm (zlD HB.out)
                   clear HO_622000 HO_622001 BK612 BK621 BK623 HB
                   have HO_622000:=n0_
                   have HO_622001:=n1_
                   have BK612:=n2_
                   have BK621:=n3_
                   have BK623:=n4_
                   have HB:=n5_
                   clear n0_ n1_ n2_ n3_ n4_ n5_
                   obtain ⟨Ao61,co61,eo61⟩:=Kd.R_slice HO_622000.out
                   (first|subst eo61|(injection eo61 with f1_ f2_ f3_;have f4_:=f1_.symm;have f5_:=f3_.symm;clear f1_ f2_ f3_;subst f4_;subst f5_))
                   have p625:0≤((ji29):Int):=za_
                   have q625:(ji29) < (x622000_2.length:Int):=za_
                   obtain ⟨ad625,e625,hx625_0⟩:=Kd.at_bool (Kd.R_reads' HO_622000.out).2.2 (ji29) p625 q625
                   (try rw [← Nbq32.out] at hx625_0)
                   cases e625
                   replace p625:=eq_true p625
                   replace q625:=eq_true q625
                   have p630:0≤(x47_2:Int):=za_
                   have q630:x47_2 < (((rd_T42 l1 x27_1).f4).length:Int):=za_
                   obtain ⟨ad630,e630,hx630_0⟩:=Kd.at_bool HR622_4.out x47_2 p630 q630
                   have hw630_0:=hx630_0
                   (try rw [← Nbq32.out] at hx630_0)
                   cases e630
                   replace hx630_0:=zhx HB hx630_0
                   replace p630:=eq_true p630
                   replace q630:=eq_true q630
                   have p52:0≤((ji29):Int):=za_
                   have q52:((ji29):Int) < ((x622000_2.length:Int):Int):=za_
                   obtain ⟨go52,co52,eo52,gb52,gl52,cl52,HG52⟩:=Kd.R_form HO_622000.out (by omega)
                   (first|cases eo52|(injection eo52 with ea_ en_ ec_;(first|subst ea_|(injection ea_ with ea_;subst ea_));subst ec_;clear en_))
                   have GB52:=zm gb52
                   have GG52:=zm HG52
                   clear gb52 gl52 HG52
                   (first|simp only [add_plain] at hx625_0|skip)
                   obtain ⟨hx52_0,hf52_0⟩:=Kd.R_celln false HO_622000.out ((ji29):Int) p52 q52
                   replace p52:=eq_true p52
                   replace q52:=eq_true q52
                   have HP62:=Kd.R_putn HO_622000.out ((ji29):Int) (rdOf false ((rd_T42 l1 x27_1).f4) x47_2)
                   rw [← Ny631.out] at HP62
                   have HQ62:=zm HP62
                   clear HP62
                   refine start_ (n:=17) (S:=fun w'=>w'.cell? ⟨gb621,0,none⟩=some (.slice (some ⟨go52,0,none⟩) x622000_2.length co61)∧w'.cell? ⟨gb621,1,none⟩=some (u622001)∧w'.cell? ⟨gb621,2,none⟩=some (.int .i64 ji18)∧w'.cell? ⟨gb623,0,none⟩=some (.int .i64 ((rd_T42 l1 x27_1).f0))∧w'.cell? ⟨gb623,1,none⟩=some (.int .i64 ((rd_T42 l1 x27_1).f1))∧w'.cell? ⟨gb623,2,none⟩=some (.int .i64 ((rd_T42 l1 x27_1).f2))∧w'.cell? ⟨gb623,3,none⟩=some (.int .i64 ((rd_T42 l1 x27_1).f3))∧w'.cell? ⟨gb623,4,none⟩=some (.slice (some ad630) ((rd_T42 l1 x27_1).f4).length c622_4)∧w'.cell? ⟨gb623,5,none⟩=some (.slice A622_5 ((rd_T42 l1 x27_1).f5).length c622_5)∧w'.cell? ⟨gb623,6,none⟩=some (.slice A622_6 ((rd_T42 l1 x27_1).f6).length c622_6)∧w'.cell? ⟨go52,((ji29)).toNat,none⟩=some (.bool false)∧w'.cell? (ad630.add (x47_2).toNat)=some (.bool (rdOf false ((rd_T42 l1 x27_1).f4) x47_2))) (ds:=[16]) (Array.replicate 17 false) (by kernel_rfl) rfl rfl ⟨(blk_cell BK621.out 0).trans rfl,(blk_cell BK621.out 1).trans rfl,(blk_cell BK621.out 2).trans rfl,(blk_cell BK623.out 0).trans rfl,(blk_cell BK623.out 1).trans rfl,(blk_cell BK623.out 2).trans rfl,(blk_cell BK623.out 3).trans rfl,(blk_cell BK623.out 4).trans rfl,(blk_cell BK623.out 5).trans rfl,(blk_cell BK623.out 6).trans rfl,hx625_0,(zhx HB hw630_0)⟩ (fun hHeld=>?_);refine with_tabW mapjnl_Replay.tab16 mapjnl_Replay.bits16 (fun HT_ HW_=>?_)
                   generalize wr.drew=w60 at HO_622000 HO_622001 BK612 BK621 BK623 HB GG52 HQ62 hf52_0 hx52_0 hx625_0 hx630_0 hHeld ⊢
                   refine zpu 0 ?_
                   refine zpu 2 ?_
                   refine zpu 3 ?_
                   refine zpu 5 ?_
                   refine zta 1 hHeld ?_
                   refine zta 4 hHeld ?_
                   refine zpu 6 ?_
                   refine zta 7 hHeld ?_
                   refine zpu 8 ?_
                   refine zpu 9 ?_
                   refine zpu 11 ?_
                   refine zta 10 hHeld ?_
                   refine zpu 12 ?_
                   refine zta 13 hHeld ?_
                   refine zpu 14 ?_
                   refine zpu 15 ?_
                   refine zla 16 none (fun K hK=>?_)
                   refine skip_ (w1:=?_) (by rfl) rfl ?_ ?_
                   rotate_left
                   ·go_simp
                    rfl
                   refine hK.out _ _ ?_
                   clear hK K
                   refine zdo ?_
                   try go_wp2
                   have n0_:Aside0 (Kd.R Kd.bool 4 (w60.setCell ⟨go52,((ji29):Int).toNat,none⟩ (.bool (rdOf false ((rd_T42 l1 x27_1).f4) x47_2))) w.heap.size (fun _=>True) (.slice (some ⟨go52,0,none⟩) x622000_2.length co61) y631):=⟨by (with_reducible repeat (first|apply zrA|apply zrN|apply zrD));exact HQ62.out⟩
                   have n1_:Aside0 (Kd.R (Kd.int .i64) 2 (w60.setCell ⟨go52,((ji29):Int).toNat,none⟩ (.bool (rdOf false ((rd_T42 l1 x27_1).f4) x47_2))) w.heap.size (fun _=>True) u622001 x622001_2):=⟨by (with_reducible repeat (first|apply zrA|apply zrN|apply zrD));exact Kd.R_mono (Kd.R_far (p:=⟨go52,((ji29):Int).toNat,none⟩) (Kd.R_types HO_622001.out GG52.out (by decide)) (fun _ hk=>hk.2) (.bool (rdOf false ((rd_T42 l1 x27_1).f4) x47_2))) (fun _ hk=>trivial)⟩
                   have n2_:Aside0 ((w60.setCell ⟨go52,((ji29):Int).toNat,none⟩ (.bool (rdOf false ((rd_T42 l1 x27_1).f4) x47_2))).heap[gb612]?=some (.cells #[.slice none 0 0,.slice none 0 0,.int .i64 0] 25 (0,0))):=⟨by (with_reducible repeat (first|refine zbN ?_ _|refine zbD ?_|refine zbA ?_ _));refine blk_far ?_ (by have h_:=Kd.R_ne HO_622000.out BK612.out (by decide);intro e_;exact h_ (by rw [e_];rfl)) _;(with_reducible repeat (first|refine zbN ?_ _|refine zbD ?_|refine zbA ?_ _));exact BK612.out⟩
                   have n3_:Aside0 ((w60.setCell ⟨go52,((ji29):Int).toNat,none⟩ (.bool (rdOf false ((rd_T42 l1 x27_1).f4) x47_2))).heap[gb621]?=some (.cells #[.slice (some ⟨go52,0,none⟩) x622000_2.length co61,u622001,.int .i64 ji18] 25 (0,0))):=⟨by (with_reducible repeat (first|refine zbN ?_ _|refine zbD ?_|refine zbA ?_ _));refine blk_far ?_ (by have h_:=Kd.R_ne HO_622000.out BK621.out (by decide);intro e_;exact h_ (by rw [e_];rfl)) _;(with_reducible repeat (first|refine zbN ?_ _|refine zbD ?_|refine zbA ?_ _));exact BK621.out⟩
                   have n4_:Aside0 ((w60.setCell ⟨go52,((ji29):Int).toNat,none⟩ (.bool (rdOf false ((rd_T42 l1 x27_1).f4) x47_2))).heap[gb623]?=some (.cells #[.int .i64 ((rd_T42 l1 x27_1).f0),.int .i64 ((rd_T42 l1 x27_1).f1),.int .i64 ((rd_T42 l1 x27_1).f2),.int .i64 ((rd_T42 l1 x27_1).f3),.slice (some ad630) ((rd_T42 l1 x27_1).f4).length c622_4,.slice A622_5 ((rd_T42 l1 x27_1).f5).length c622_5,.slice A622_6 ((rd_T42 l1 x27_1).f6).length c622_6] 42 (0,0))):=⟨by (with_reducible repeat (first|refine zbN ?_ _|refine zbD ?_|refine zbA ?_ _));refine blk_far ?_ (by have h_:=Kd.R_ne HO_622000.out BK623.out (by decide);intro e_;exact h_ (by rw [e_];rfl)) _;(with_reducible repeat (first|refine zbN ?_ _|refine zbD ?_|refine zbA ?_ _));exact BK623.out⟩
                   have n5_:Aside0 (Below w.heap.size w (w60.setCell ⟨go52,((ji29):Int).toNat,none⟩ (.bool (rdOf false ((rd_T42 l1 x27_1).f4) x47_2)))):=⟨by repeat (first|(with_reducible first|exact HB.out|apply zlA|apply zlN|apply zlD|refine zlS ?_ GB52.out|refine zlS ?_ GE612.out|refine zlS ?_ GE621.out|refine zlS ?_ GE623.out)|exact HB.out)⟩
                   (try clear HO_622000)
                   (try clear HO_622001)
                   (try clear BK612)
                   (try clear BK621)
                   (try clear BK623)
                   (try clear HB)
                   generalize (w60.setCell ⟨go52,((ji29):Int).toNat,none⟩ (.bool (rdOf false ((rd_T42 l1 x27_1).f4) x47_2)))=w63 at n0_ n1_ n2_ n3_ n4_ n5_ ⊢
                   have HO_622000:=n0_
                   have HO_622001:=n1_
                   have BK612:=n2_
                   have BK621:=n3_
                   have BK623:=n4_
                   have HB:=n5_
                   clear n0_ n1_ n2_ n3_ n4_ n5_
                   have n0_:=zm (zrD HO_622000.out)
                   have n1_:=zm (zrD HO_622001.out)
                   have n2_:=zm (zbD BK612.out)
                   have n3_:=zm (zbD BK621.out)
                   have n4_:=zm (zbD BK623.out)
                   have n5_:=zm (zlD HB.out)
                   clear HO_622000 HO_622001 BK612 BK621 BK623 HB
                   have HO_622000:=n0_
                   have HO_622001:=n1_
                   have BK612:=n2_
                   have BK621:=n3_
                   have BK623:=n4_
                   have HB:=n5_
                   clear n0_ n1_ n2_ n3_ n4_ n5_
                   obtain ⟨Ao65,co65,eo65⟩:=Kd.R_slice HO_622001.out
                   (first|subst eo65|(injection eo65 with f1_ f2_ f3_;have f4_:=f1_.symm;have f5_:=f3_.symm;clear f1_ f2_ f3_;subst f4_;subst f5_))
                   have p632:0≤((ji29):Int):=za_
                   have q632:(ji29) < (x622001_2.length:Int):=za_
                   obtain ⟨ad632,e632,hx632_0⟩:=Kd.at_int (Kd.R_reads' HO_622001.out).2.2 (ji29) p632 q632
                   cases e632
                   replace p632:=eq_true p632
                   replace q632:=eq_true q632
                   have p633:0≤(x47_2:Int):=za_
                   have q633:x47_2 < (((rd_T42 l1 x27_1).f5).length:Int):=za_
                   obtain ⟨ad633,e633,hx633_0⟩:=Kd.at_int HR622_5.out x47_2 p633 q633
                   have hw633_0:=hx633_0
                   cases e633
                   replace hx633_0:=zhx HB hx633_0
                   replace p633:=eq_true p633
                   replace q633:=eq_true q633
                   have p56:0≤((ji29):Int):=za_
                   have q56:((ji29):Int) < ((x622001_2.length:Int):Int):=za_
                   obtain ⟨go56,co56,eo56,gb56,gl56,cl56,HG56⟩:=Kd.R_form HO_622001.out (by omega)
                   (first|cases eo56|(injection eo56 with ea_ en_ ec_;(first|subst ea_|(injection ea_ with ea_;subst ea_));subst ec_;clear en_))
                   have GB56:=zm gb56
                   have GG56:=zm HG56
                   clear gb56 gl56 HG56
                   (first|simp only [add_plain] at hx632_0|skip)
                   obtain ⟨hx56_0,hf56_0⟩:=Kd.R_celln 0 HO_622001.out ((ji29):Int) p56 q56
                   replace p56:=eq_true p56
                   replace q56:=eq_true q56
                   have HP66:=Kd.R_putn HO_622001.out ((ji29):Int) ji55
                   rw [← Ny634.out] at HP66
                   have HQ66:=zm HP66
                   clear HP66
                   refine start_ (n:=16) (S:=fun w'=>w'.cell? ⟨gb621,0,none⟩=some (.slice (some ⟨go52,0,none⟩) x622000_2.length co61)∧w'.cell? ⟨gb621,1,none⟩=some (.slice (some ⟨go56,0,none⟩) x622001_2.length co65)∧w'.cell? ⟨gb621,2,none⟩=some (.int .i64 ji18)∧w'.cell? ⟨gb623,0,none⟩=some (.int .i64 ((rd_T42 l1 x27_1).f0))∧w'.cell? ⟨gb623,1,none⟩=some (.int .i64 ((rd_T42 l1 x27_1).f1))∧w'.cell? ⟨gb623,2,none⟩=some (.int .i64 ((rd_T42 l1 x27_1).f2))∧w'.cell? ⟨gb623,3,none⟩=some (.int .i64 ((rd_T42 l1 x27_1).f3))∧w'.cell? ⟨gb623,4,none⟩=some (.slice (some ad630) ((rd_T42 l1 x27_1).f4).length c622_4)∧w'.cell? ⟨gb623,5,none⟩=some (.slice (some ad633) ((rd_T42 l1 x27_1).f5).length c622_5)∧w'.cell? ⟨gb623,6,none⟩=some (.slice A622_6 ((rd_T42 l1 x27_1).f6).length c622_6)∧w'.cell? ⟨go56,((ji29)).toNat,none⟩=some (.int .i64 (rd x622001_2 (ji29)))∧w'.cell? (ad633.add (x47_2).toNat)=some (.int .i64 (rd ((rd_T42 l1 x27_1).f5) x47_2))) (ds:=[15]) (Array.replicate 16 false) (by kernel_rfl) rfl rfl ⟨(blk_cell BK621.out 0).trans rfl,(blk_cell BK621.out 1).trans rfl,(blk_cell BK621.out 2).trans rfl,(blk_cell BK623.out 0).trans rfl,(blk_cell BK623.out 1).trans rfl,(blk_cell BK623.out 2).trans rfl,(blk_cell BK623.out 3).trans rfl,(blk_cell BK623.out 4).trans rfl,(blk_cell BK623.out 5).trans rfl,(blk_cell BK623.out 6).trans rfl,hx632_0,(zhx HB hw633_0)⟩ (fun hHeld=>?_);refine with_tabW mapjnl_Replay.tab17 mapjnl_Replay.bits17 (fun HT_ HW_=>?_)
                   generalize w63.drew=w64 at HO_622000 HO_622001 BK612 BK621 BK623 HB GG56 HQ62 HQ66 hf56_0 hx56_0 hx632_0 hx633_0 hHeld ⊢
                   refine zpu 0 ?_
                   refine zpu 2 ?_
                   refine zpu 3 ?_
                   refine zpu 5 ?_
                   refine zpu 8 ?_
                   refine zpu 10 ?_
                   refine zta 1 hHeld ?_
                   refine zta 4 hHeld ?_
                   refine zpu 6 ?_
                   refine zta 7 hHeld ?_
                   refine zta 9 hHeld ?_
                   refine zpu 11 ?_
                   refine zta 12 hHeld ?_
                   refine zpu 13 ?_
                   refine zpu 14 ?_
                   refine zla 15 none (fun K hK=>?_)
                   refine skip_ (w1:=?_) (by rfl) rfl ?_ ?_
                   rotate_left
                   ·go_simp
                    rfl
                   refine hK.out _ _ ?_
                   clear hK K
                   refine zdo ?_
                   try go_wp2
                   go_roundg k2
                   case measure=>have:=HK1.out;have:=HK2.out;omega
                   case rel=>exact ⟨(wrap64 (x47_2 + 1)),(y631),(y634),(.slice (some ⟨go52,0,none⟩) x622000_2.length co61),(.slice (some ⟨go56,0,none⟩) x622001_2.length co65),zs_,H',⟨by have:=HK1.out;have:=HK2.out;omega⟩,⟨by (with_reducible repeat (first|apply zrA|apply zrN|apply zrD));exact Kd.R_mono (Kd.R_far (p:=⟨go56,((ji29):Int).toNat,none⟩) (Kd.R_types HO_622000.out GG56.out (by decide)) (fun _ hk=>hk.2) (.int .i64 ji55)) (fun _ hk=>trivial)⟩,⟨by (with_reducible repeat (first|apply zrA|apply zrN|apply zrD));exact HQ66.out⟩,⟨by (with_reducible repeat (first|refine zbN ?_ _|refine zbD ?_|refine zbA ?_ _));refine blk_far ?_ (by have h_:=Kd.R_ne HO_622001.out BK612.out (by decide);intro e_;exact h_ (by rw [e_];rfl)) _;(with_reducible repeat (first|refine zbN ?_ _|refine zbD ?_|refine zbA ?_ _));exact BK612.out⟩,⟨by (with_reducible repeat (first|refine zbN ?_ _|refine zbD ?_|refine zbA ?_ _));refine blk_far ?_ (by have h_:=Kd.R_ne HO_622001.out BK621.out (by decide);intro e_;exact h_ (by rw [e_];rfl)) _;(with_reducible repeat (first|refine zbN ?_ _|refine zbD ?_|refine zbA ?_ _));exact BK621.out⟩,⟨by (with_reducible repeat (first|refine zbN ?_ _|refine zbD ?_|refine zbA ?_ _));refine blk_far ?_ (by have h_:=Kd.R_ne HO_622001.out BK623.out (by decide);intro e_;exact h_ (by rw [e_];rfl)) _;(with_reducible repeat (first|refine zbN ?_ _|refine zbD ?_|refine zbA ?_ _));exact BK623.out⟩,⟨by repeat (first|(with_reducible first|exact HB.out|apply zlA|apply zlN|apply zlD|refine zlS ?_ GB56.out|refine zlS ?_ GE612.out|refine zlS ?_ GE621.out|refine zlS ?_ GE623.out)|exact HB.out)⟩⟩
                  ·rw [if_neg c54] at H
                   exact absurd H (by simp)
                 ·rw [if_neg c53] at H
                  exact absurd H (by simp)
                ·rw [if_neg c51] at H
                 exact absurd H (by simp)
               ·rw [if_neg c50] at H
                exact absurd H (by simp)
             ·rw [if_neg c31] at H
              exact absurd H (by simp)
            ·rw [if_neg c30] at H
             exact absurd H (by simp)
           ·rw [if_neg c28] at H
            have c28b0:decide ((wrap64 ((wrap64 (((rd_T42 l1 x27_1).f2) * 64)) + x47_2)) < a0)=false:=decide_eq_false c28
            clear c28
            have H':=zm H
            clear H
            have hnb67:=NB623_612.out
            have hnc67:=NB612_623.out
            have hnb68:=NB623_621.out
            have hnc68:=NB621_623.out
            obtain ⟨hcz69_0,hcz69_1,hcz69_2,hcz69_3,hcz69_4,hcz69_5,hcz69_6,hfz69_0,hfz69_1,hfz69_2,hfz69_3,hfz69_4,hfz69_5,hfz69_6⟩:=zc7 BK623.out
            go_wp2
            go_roundg k2
            case measure=>have:=HK1.out;have:=HK2.out;omega
            case rel=>exact ⟨(wrap64 (x47_2 + 1)),(x622000_2),(x622001_2),(u622000),(u622001),zs_,H',⟨by have:=HK1.out;have:=HK2.out;omega⟩,⟨by (with_reducible repeat (first|apply zrA|apply zrN|apply zrD));exact HO_622000.out⟩,⟨by (with_reducible repeat (first|apply zrA|apply zrN|apply zrD));exact HO_622001.out⟩,⟨zx_⟩,⟨zx_⟩,⟨zx_⟩,⟨zb_⟩⟩
          ·rw [if_neg c27] at H
           have c27b0:decide (x47_2 < (((rd_T42 l1 x27_1).f4).length:Int))=false:=decide_eq_false c27
           clear c27
           have H':=zm H
           clear H
           have hnb70:=NB623_612.out
           have hnc70:=NB612_623.out
           have hnb71:=NB623_621.out
           have hnc71:=NB621_623.out
           obtain ⟨hcz72_0,hcz72_1,hcz72_2,hcz72_3,hcz72_4,hcz72_5,hcz72_6,hfz72_0,hfz72_1,hfz72_2,hfz72_3,hfz72_4,hfz72_5,hfz72_6⟩:=zc7 BK623.out
           go_wp2
           go_loopg [93] k2 (fun kq v93 w'=>∃ (x93_3:Int) (x622000_3:List Bool) (x622001_3:List Int) (x622002_3:Int) (u622000:Value) (u622001:Value),v93=.int .i64 x93_3∧Aside0 (mapjnl_Replay.l2 kq a0 ji17 l1 (l1.length:Int) x27_1 ((rd_T42 l1 x27_1).f6) (((rd_T42 l1 x27_1).f6).length:Int) x93_3 x622000_3 x622001_3 x622002_3=some (r1,r2,r3,r4,r5))∧Aside0 (kq≤k2)∧Aside0 (Kd.R Kd.bool 4 w' w.heap.size (fun _=>True) u622000 x622000_3)∧Aside0 (Kd.R (Kd.int .i64) 2 w' w.heap.size (fun _=>True) u622001 x622001_3)∧Aside0 (w'.heap[gb612]?=some (.cells #[(.slice none 0 0),(.slice none 0 0),.int .i64 0] 25 (0,0)))∧Aside0 (w'.heap[gb621]?=some (.cells #[u622000,u622001,.int .i64 x622002_3] 25 (0,0)))∧Aside0 (w'.heap[gb623]?=some (.cells #[.int .i64 ((rd_T42 l1 x27_1).f0),.int .i64 ((rd_T42 l1 x27_1).f1),.int .i64 ((rd_T42 l1 x27_1).f2),.int .i64 ((rd_T42 l1 x27_1).f3),(.slice A622_4 ((rd_T42 l1 x27_1).f4).length c622_4),(.slice A622_5 ((rd_T42 l1 x27_1).f5).length c622_5),(.slice A622_6 ((rd_T42 l1 x27_1).f6).length c622_6)] 42 (0,0)))∧Aside0 (Below w.heap.size w w'))
           case atStart=>exact ⟨(0),(x622000_2),(x622001_2),(ji18),(u622000),(u622001),zs_,H',⟨Nat.le_refl _⟩,⟨by (with_reducible repeat (first|apply zrA|apply zrN|apply zrD));exact HO_622000.out⟩,⟨by (with_reducible repeat (first|apply zrA|apply zrN|apply zrD));exact HO_622001.out⟩,⟨zx_⟩,⟨zx_⟩,⟨zx_⟩,⟨zb_⟩⟩
           case round =>
            clear H'
            try clear c2
            try clear p2
            try clear c3
            try clear q3
            try clear c5
            try clear p5
            try clear q5
            try clear hx5
            try clear hf5
            try clear c6
            try clear p6
            try clear q6
            try clear hx6
            try clear c7
            try clear c27
            try clear c27b0
            try clear c28
            try clear c28b0
            try clear c30
            try clear c31
            try clear q32
            try clear c33
            try clear c35
            try clear c36
            try clear c37
            try clear c50
            try clear c50b0
            try clear c51
            try clear c51b0
            try clear p52
            try clear q52
            try clear hx52
            try clear hf52
            try clear c53
            try clear c53b0
            try clear c54
            try clear c54b0
            try clear p56
            try clear q56
            try clear hx56
            try clear hf56
            try clear c57
            try clear c58
            try clear c62
            try clear p62
            try clear q62
            try clear hx62
            try clear p63
            try clear q63
            try clear hx63
            try clear p64
            try clear c67
            try clear c68
            try clear c70
            try clear c71
            try clear hcz59_0
            try clear hcz59_1
            try clear hcz59_2
            try clear hcz59_3
            try clear hcz59_4
            try clear hcz59_5
            try clear hcz59_6
            try clear hcz69_0
            try clear hcz69_1
            try clear hcz69_2
            try clear hcz69_3
            try clear hcz69_4
            try clear hcz69_5
            try clear hcz69_6
            try clear hcz72_0
            try clear hcz72_1
            try clear hcz72_2
            try clear hcz72_3
            try clear hcz72_4
            try clear hcz72_5
            try clear hcz72_6
            try clear hfz59_0
            try clear hfz59_1
            try clear hfz59_2
            try clear hfz59_3
            try clear hfz59_4
            try clear hfz59_5
            try clear hfz59_6
            try clear hfz69_0
            try clear hfz69_1
            try clear hfz69_2
            try clear hfz69_3
            try clear hfz69_4
            try clear hfz69_5
            try clear hfz69_6
            try clear hfz72_0
            try clear hfz72_1
            try clear hfz72_2
            try clear hfz72_3
            try clear hfz72_4
            try clear hfz72_5
            try clear hfz72_6
            try clear hx52_0
            try clear hx56_0
            try clear hx625_0
            try clear hx630_0
            try clear hx632_0
            try clear hx633_0
            try clear p52
            try clear p56
            try clear p625
            try clear p630
            try clear p632
            try clear p633
            try clear q52
            try clear q56
            try clear q625
            try clear q630
            try clear q632
            try clear q633
            obtain ⟨x93_3,x622000_3,x622001_3,x622002_3,u622000,u622001,rfl,HA,HK3,HO_622000,HO_622001,BK612,BK621,BK623,HB⟩:=hrel
            cases gk with
            | zero=>exact absurd HA.out (by simp [mapjnl_Replay.l2])
            | succ k3 =>
             have H:=HA.out
             clear HA
             simp only [mapjnl_Replay.l2] at H
             by_cases c73:x93_3 < (((rd_T42 l1 x27_1).f6).length:Int)
             ·rw [if_pos c73] at H
              have c73b0:decide (x93_3 < (((rd_T42 l1 x27_1).f6).length:Int))=true:=decide_eq_true c73
              clear c73
              by_cases c74:0≤x93_3
              ·rw [if_pos c74] at H
               have c74b0:decide (0≤x93_3)=true:=decide_eq_true c74
               clear c74
               by_cases c75:x93_3 < (((rd_T42 l1 x27_1).f6).length:Int)
               ·rw [if_pos c75] at H
                have c75b0:decide (x93_3 < (((rd_T42 l1 x27_1).f6).length:Int))=true:=decide_eq_true c75
                clear c75
                by_cases c76:((rd_T55 ((rd_T42 l1 x27_1).f6) x93_3).f1) < a0
                ·rw [if_pos c76] at H
                 have c76b0:decide (((rd_T55 ((rd_T42 l1 x27_1).f6) x93_3).f1) < a0)=true:=decide_eq_true c76
                 clear c76
                 replace H:=Option.bind_eq_some_iff.mp H
                 obtain ⟨⟨t637,t640,t643⟩,A770,H⟩:=H
                 replace H:(mapjnl_Replay.l2 k3 a0 ji17 l1 (l1.length:Int) x27_1 ((rd_T42 l1 x27_1).f6) (((rd_T42 l1 x27_1).f6).length:Int) (wrap64 (x93_3 + 1)) t637 t640 t643)=some (r1,r2,r3,r4,r5):=H
                 have A77:=zm A770
                 clear A770
                 have H':=zm H
                 clear H
                 have p635:0≤(x93_3:Int):=za_
                 have q635:x93_3 < (((rd_T42 l1 x27_1).f6).length:Int):=za_
                 obtain ⟨ad635,e635,hx635_0,hx635_1,hx635_2⟩:=at_T55 HR622_6.out x93_3 p635 q635
                 cases e635
                 replace hx635_0:=zhx HB hx635_0
                 replace hx635_1:=zhx HB hx635_1
                 replace hx635_2:=zhx HB hx635_2
                 replace p635:=eq_true p635
                 replace q635:=eq_true q635
                 go_wp2_with (first|((with_reducible refine gate_dst (N:=15) rfl ?_);refine zbx 15 #[.int .i64 0,.int .i64 0,.int .i64 0] 55 ?_;intro gb636 hg w78 hbox hb;have n0_:=zm (Kd.R_below (by (with_reducible repeat (first|apply zrA|apply zrN|apply zrD));exact HO_622000.out) hb);have n1_:=zm (Kd.R_below (by (with_reducible repeat (first|apply zrA|apply zrN|apply zrD));exact HO_622001.out) hb);have n2_:=zkB BK612 hb;have n3_:=zkB BK621 hb;have n4_:=zkB BK623 hb;have n5_:=zkH HB hb;have n6_:=zm (hbox);have n7_:=zkG HB hg;have n8_:=zkG HB hg;have n9_:=zkN BK612 hg;have n10_:=zkM BK612 hg;have n11_:=zkN BK621 hg;have n12_:=zkM BK621 hg;have n13_:=zkN BK623 hg;have n14_:=zkM BK623 hg;clear HO_622000 HO_622001 BK612 BK621 BK623 HB;have HO_622000:=n0_;have HO_622001:=n1_;have BK612:=n2_;have BK621:=n3_;have BK623:=n4_;have HB:=n5_;have BK636:=n6_;have GW636:=n7_;have GE636:=n8_;have NB612_636:=n9_;have NB636_612:=n10_;have NB621_636:=n11_;have NB636_621:=n12_;have NB623_636:=n13_;have NB636_623:=n14_;clear n0_ n1_ n2_ n3_ n4_ n5_ n6_ n7_ n8_ n9_ n10_ n11_ n12_ n13_ n14_;clear hb hbox hg;have hnb79:=NB636_612.out;have hnc79:=NB612_636.out;have hnb80:=NB636_621.out;have hnc80:=NB621_636.out;have hnb81:=NB636_623.out;have hnc81:=NB623_636.out;obtain ⟨hcz82_0,hcz82_1,hcz82_2,hfz82_0,hfz82_1,hfz82_2⟩:=zc3 BK636.out)|((with_reducible refine gate_store (t:=55) (p:=15) rfl ?_);refine store_event (t:=55) (p:=15) (v:=?vo_w83) (w1:=(((w78.setCell ⟨gb636,0,none⟩ (.int .i64 ((rd_T55 ((rd_T42 l1 x27_1).f6) x93_3).f0))).setCell ⟨gb636,1,none⟩ (.int .i64 ((rd_T55 ((rd_T42 l1 x27_1).f6) x93_3).f1))).setCell ⟨gb636,2,none⟩ (.int .i64 ((rd_T55 ((rd_T42 l1 x27_1).f6) x93_3).f2)))) ?hg ?ho ?hn ?hr ?_;(case ho=>rfl);(case hg=>rfl);(case hn=>rfl);(case hr=>first|(go_simp;done)|(go_simp;rfl));intro w83 hw;have n0_:Aside0 (Kd.R Kd.bool 4 w83 w.heap.size (fun _=>True) u622000 x622000_3):=⟨(by rw [hw];exact (by (with_reducible repeat (first|apply zrA|apply zrN|apply zrD));exact Kd.R_mono (Kd.R_far (p:=⟨gb636,2,none⟩) (Kd.R_far (p:=⟨gb636,1,none⟩) (Kd.R_far (p:=⟨gb636,0,none⟩) (Kd.R_types HO_622000.out BK636.out (by decide)) (fun _ hk=>hk.2) (.int .i64 ((rd_T55 ((rd_T42 l1 x27_1).f6) x93_3).f0))) (fun _ hk=>hk.2) (.int .i64 ((rd_T55 ((rd_T42 l1 x27_1).f6) x93_3).f1))) (fun _ hk=>hk.2) (.int .i64 ((rd_T55 ((rd_T42 l1 x27_1).f6) x93_3).f2))) (fun _ hk=>trivial)))⟩;have n1_:Aside0 (Kd.R (Kd.int .i64) 2 w83 w.heap.size (fun _=>True) u622001 x622001_3):=⟨(by rw [hw];exact (by (with_reducible repeat (first|apply zrA|apply zrN|apply zrD));exact Kd.R_mono (Kd.R_far (p:=⟨gb636,2,none⟩) (Kd.R_far (p:=⟨gb636,1,none⟩) (Kd.R_far (p:=⟨gb636,0,none⟩) (Kd.R_types HO_622001.out BK636.out (by decide)) (fun _ hk=>hk.2) (.int .i64 ((rd_T55 ((rd_T42 l1 x27_1).f6) x93_3).f0))) (fun _ hk=>hk.2) (.int .i64 ((rd_T55 ((rd_T42 l1 x27_1).f6) x93_3).f1))) (fun _ hk=>hk.2) (.int .i64 ((rd_T55 ((rd_T42 l1 x27_1).f6) x93_3).f2))) (fun _ hk=>trivial)))⟩;have n2_:Aside0 (w83.heap[gb612]?=some (.cells #[.slice none 0 0,.slice none 0 0,.int .i64 0] 25 (0,0))):=⟨(by rw [hw];exact (by (with_reducible repeat (first|refine zbN ?_ _|refine zbD ?_|refine zbA ?_ _));refine blk_far ?_ NB612_636.out _;(with_reducible repeat (first|refine zbN ?_ _|refine zbD ?_|refine zbA ?_ _));refine blk_far ?_ NB612_636.out _;(with_reducible repeat (first|refine zbN ?_ _|refine zbD ?_|refine zbA ?_ _));refine blk_far ?_ NB612_636.out _;(with_reducible repeat (first|refine zbN ?_ _|refine zbD ?_|refine zbA ?_ _));exact BK612.out))⟩;have n3_:Aside0 (w83.heap[gb621]?=some (.cells #[u622000,u622001,.int .i64 x622002_3] 25 (0,0))):=⟨(by rw [hw];exact (by (with_reducible repeat (first|refine zbN ?_ _|refine zbD ?_|refine zbA ?_ _));refine blk_far ?_ NB621_636.out _;(with_reducible repeat (first|refine zbN ?_ _|refine zbD ?_|refine zbA ?_ _));refine blk_far ?_ NB621_636.out _;(with_reducible repeat (first|refine zbN ?_ _|refine zbD ?_|refine zbA ?_ _));refine blk_far ?_ NB621_636.out _;(with_reducible repeat (first|refine zbN ?_ _|refine zbD ?_|refine zbA ?_ _));exact BK621.out))⟩;have n4_:Aside0 (w83.heap[gb623]?=some (.cells #[.int .i64 ((rd_T42 l1 x27_1).f0),.int .i64 ((rd_T42 l1 x27_1).f1),.int .i64 ((rd_T42 l1 x27_1).f2),.int .i64 ((rd_T42 l1 x27_1).f3),.slice A622_4 ((rd_T42 l1 x27_1).f4).length c622_4,.slice A622_5 ((rd_T42 l1 x27_1).f5).length c622_5,.slice (some ad635) ((rd_T42 l1 x27_1).f6).length c622_6] 42 (0,0))):=⟨(by rw [hw];exact (by (with_reducible repeat (first|refine zbN ?_ _|refine zbD ?_|refine zbA ?_ _));refine blk_far ?_ NB623_636.out _;(with_reducible repeat (first|refine zbN ?_ _|refine zbD ?_|refine zbA ?_ _));refine blk_far ?_ NB623_636.out _;(with_reducible repeat (first|refine zbN ?_ _|refine zbD ?_|refine zbA ?_ _));refine blk_far ?_ NB623_636.out _;(with_reducible repeat (first|refine zbN ?_ _|refine zbD ?_|refine zbA ?_ _));exact BK623.out))⟩;have n5_:Aside0 (w83.heap[gb636]?=some (.cells #[.int .i64 ((rd_T55 ((rd_T42 l1 x27_1).f6) x93_3).f0),.int .i64 ((rd_T55 ((rd_T42 l1 x27_1).f6) x93_3).f1),.int .i64 ((rd_T55 ((rd_T42 l1 x27_1).f6) x93_3).f2)] 55 (0,0))):=⟨(by rw [hw];exact (by (with_reducible repeat (first|refine zbN ?_ _|refine zbD ?_|refine zbA ?_ _));refine blk_put (cs:=#[.int .i64 ((rd_T55 ((rd_T42 l1 x27_1).f6) x93_3).f0),.int .i64 ((rd_T55 ((rd_T42 l1 x27_1).f6) x93_3).f1),.int .i64 0]) ?_ 2 _ rfl;(with_reducible repeat (first|refine zbN ?_ _|refine zbD ?_|refine zbA ?_ _));refine blk_put (cs:=#[.int .i64 ((rd_T55 ((rd_T42 l1 x27_1).f6) x93_3).f0),.int .i64 0,.int .i64 0]) ?_ 1 _ rfl;(with_reducible repeat (first|refine zbN ?_ _|refine zbD ?_|refine zbA ?_ _));refine blk_put (cs:=#[.int .i64 0,.int .i64 0,.int .i64 0]) ?_ 0 _ rfl;(with_reducible repeat (first|refine zbN ?_ _|refine zbD ?_|refine zbA ?_ _));exact BK636.out))⟩;have n6_:Aside0 (Below w.heap.size w w83):=⟨(by rw [hw];exact (zb_))⟩;clear hw HO_622000 HO_622001 BK612 BK621 BK623 BK636 HB;have HO_622000:=n0_;have HO_622001:=n1_;have BK612:=n2_;have BK621:=n3_;have BK623:=n4_;have BK636:=n5_;have HB:=n6_;clear n0_ n1_ n2_ n3_ n4_ n5_ n6_;obtain ⟨hcz84_0,hcz84_1,hcz84_2,hfz84_0,hfz84_1,hfz84_2⟩:=zc3 BK636.out;have hnb85:=NB621_612.out;have hnc85:=NB612_621.out;have hnb86:=NB621_623.out;have hnc86:=NB623_621.out;obtain ⟨hcz87_0,hcz87_1,hcz87_2,hfz87_0,hfz87_1,hfz87_2⟩:=zc3 BK621.out;obtain ⟨Ao88,co88,eo88⟩:=Kd.R_slice HO_622000.out;subst eo88;obtain ⟨Ao89,co89,eo89⟩:=Kd.R_slice HO_622001.out;subst eo89)|((with_reducible refine gate_callee (f:=62) rfl ?_);refine goesL_ (some 102) rfl rfl Try.func62 (by kernel_rfl) rfl #[.pointer (some ⟨gb621,0,none⟩),.agg #[.int .i64 ((rd_T55 ((rd_T42 l1 x27_1).f6) x93_3).f0),.int .i64 ((rd_T55 ((rd_T42 l1 x27_1).f6) x93_3).f1),.int .i64 ((rd_T55 ((rd_T42 l1 x27_1).f6) x93_3).f2)]] rfl (by (try simp only [List.map_toArray,List.map_cons,List.map_nil]);first|done|rfl|(simp only [List.length_drop,List.length_take];rfl)) ?_;(with_reducible refine (mapjnl_learn.calls gb621 (fun k_=>some k_=(.slice Ao88 x622000_3.length co88:Value).ownBlock) (.slice Ao88 x622000_3.length co88) x622000_3 (fun k_=>some k_=(.slice Ao89 x622001_3.length co89:Value).ownBlock) (.slice Ao89 x622001_3.length co89) x622001_3 x622002_3 ((rd_T55 ((rd_T42 l1 x27_1).f6) x93_3).f0) ((rd_T55 ((rd_T42 l1 x27_1).f6) x93_3).f1) ((rd_T55 ((rd_T42 l1 x27_1).f6) x93_3).f2) t637 t640 t643 w _ ?side1 ?side2 ?side3 ?side4 A77.out).mono ?_);(case side4=>exact zx_);(case side1=>repeat (first|(with_reducible first|exact HB.out|apply zlA|apply zlN|apply zlD|refine zlS ?_ GE612.out|refine zlS ?_ GE621.out|refine zlS ?_ GE623.out|refine zlS ?_ GE636.out)|exact HB.out));(case side2=>exact Kd.R_tight rfl HO_622000.out);(case side3=>exact Kd.R_tight rfl HO_622001.out);rintro e w_ ⟨v638,v641,w90,rfl,rfl,ho0,ho1,hb,hkp⟩;refine ⟨_,rfl,?_⟩;have n0_:=zm (blk_kept zx_ hkp (fun hs_=>Or.elim hs_ (fun e_=>(fun e_=>(Kd.R_ne HO_622000.out BK612.out (by decide)) e_) e_) (fun e_=>(fun e_=>(Kd.R_ne HO_622001.out BK612.out (by decide)) e_) e_)));have n1_:=zm (blk_kept zx_ hkp (fun hs_=>Or.elim hs_ (fun e_=>(fun e_=>(Kd.R_ne HO_622000.out BK621.out (by decide)) e_) e_) (fun e_=>(fun e_=>(Kd.R_ne HO_622001.out BK621.out (by decide)) e_) e_)));have n2_:=zm (blk_kept zx_ hkp (fun hs_=>Or.elim hs_ (fun e_=>(fun e_=>(Kd.R_ne HO_622000.out BK623.out (by decide)) e_) e_) (fun e_=>(fun e_=>(Kd.R_ne HO_622001.out BK623.out (by decide)) e_) e_)));have n3_:=zm (blk_kept zx_ hkp (fun hs_=>Or.elim hs_ (fun e_=>(fun e_=>(Kd.R_ne HO_622000.out BK636.out (by decide)) e_) e_) (fun e_=>(fun e_=>(Kd.R_ne HO_622001.out BK636.out (by decide)) e_) e_)));have n4_:=zm (Kd.R_mono (ok':=fun k_=>True) ho0 (fun k_ hk_=>trivial));have n5_:=zm (Kd.R_mono (ok':=fun k_=>True) ho1 (fun k_ hk_=>trivial));have n6_:=zm (hb);clear BK612 BK621 BK623 BK636 HB HO_622000 HO_622001;have BK612:=n0_;have BK621:=n1_;have BK623:=n2_;have BK636:=n3_;have HO639:=n4_;have HO642:=n5_;have HB:=n6_;clear n0_ n1_ n2_ n3_ n4_ n5_ n6_;(try clear hb);(try clear hkp);(try clear ho0);(try clear ho1);obtain ⟨Ao91,co91,eo91⟩:=Kd.R_slice HO639.out;subst eo91;obtain ⟨hcz92_0,hcz92_1,hcz92_2,hfz92_0,hfz92_1,hfz92_2⟩:=zc3 BK621.out;obtain ⟨Ao93,co93,eo93⟩:=Kd.R_slice HO642.out;subst eo93))
                 go_roundg k3
                 case measure=>have:=HK1.out;have:=HK2.out;have:=HK3.out;omega
                 case rel=>exact ⟨(wrap64 (x93_3 + 1)),(t637),(t640),(t643),(.slice Ao91 t637.length co91),(.slice Ao93 t640.length co93),zs_,H',⟨by have:=HK1.out;have:=HK2.out;have:=HK3.out;omega⟩,⟨by (with_reducible repeat (first|apply zrA|apply zrN|apply zrD));exact Kd.R_mono (Kd.R_far (p:=⟨gb621,2,none⟩) (Kd.R_far (p:=⟨gb621,1,none⟩) (Kd.R_far (p:=⟨gb621,0,none⟩) (Kd.R_types HO639.out BK621.out (by decide)) (fun _ hk=>hk.2) (.slice Ao91 t637.length co91)) (fun _ hk=>hk.2) (.slice Ao93 t640.length co93)) (fun _ hk=>hk.2) (.int .i64 t643)) (fun _ hk=>trivial)⟩,⟨by (with_reducible repeat (first|apply zrA|apply zrN|apply zrD));exact Kd.R_mono (Kd.R_far (p:=⟨gb621,2,none⟩) (Kd.R_far (p:=⟨gb621,1,none⟩) (Kd.R_far (p:=⟨gb621,0,none⟩) (Kd.R_types HO642.out BK621.out (by decide)) (fun _ hk=>hk.2) (.slice Ao91 t637.length co91)) (fun _ hk=>hk.2) (.slice Ao93 t640.length co93)) (fun _ hk=>hk.2) (.int .i64 t643)) (fun _ hk=>trivial)⟩,⟨by (with_reducible repeat (first|refine zbN ?_ _|refine zbD ?_|refine zbA ?_ _));refine blk_far ?_ NB612_621.out _;(with_reducible repeat (first|refine zbN ?_ _|refine zbD ?_|refine zbA ?_ _));refine blk_far ?_ NB612_621.out _;(with_reducible repeat (first|refine zbN ?_ _|refine zbD ?_|refine zbA ?_ _));refine blk_far ?_ NB612_621.out _;(with_reducible repeat (first|refine zbN ?_ _|refine zbD ?_|refine zbA ?_ _));exact BK612.out⟩,⟨by (with_reducible repeat (first|refine zbN ?_ _|refine zbD ?_|refine zbA ?_ _));refine blk_put (cs:=#[.slice Ao91 t637.length co91,.slice Ao93 t640.length co93,.int .i64 x622002_3]) ?_ 2 _ rfl;(with_reducible repeat (first|refine zbN ?_ _|refine zbD ?_|refine zbA ?_ _));refine blk_put (cs:=#[.slice Ao91 t637.length co91,.slice Ao89 x622001_3.length co89,.int .i64 x622002_3]) ?_ 1 _ rfl;(with_reducible repeat (first|refine zbN ?_ _|refine zbD ?_|refine zbA ?_ _));refine blk_put (cs:=#[.slice Ao88 x622000_3.length co88,.slice Ao89 x622001_3.length co89,.int .i64 x622002_3]) ?_ 0 _ rfl;(with_reducible repeat (first|refine zbN ?_ _|refine zbD ?_|refine zbA ?_ _));exact BK621.out⟩,⟨by (with_reducible repeat (first|refine zbN ?_ _|refine zbD ?_|refine zbA ?_ _));refine blk_far ?_ NB623_621.out _;(with_reducible repeat (first|refine zbN ?_ _|refine zbD ?_|refine zbA ?_ _));refine blk_far ?_ NB623_621.out _;(with_reducible repeat (first|refine zbN ?_ _|refine zbD ?_|refine zbA ?_ _));refine blk_far ?_ NB623_621.out _;(with_reducible repeat (first|refine zbN ?_ _|refine zbD ?_|refine zbA ?_ _));exact BK623.out⟩,⟨zb_⟩⟩
                ·rw [if_neg c76] at H
                 have c76b0:decide (((rd_T55 ((rd_T42 l1 x27_1).f6) x93_3).f1) < a0)=false:=decide_eq_false c76
                 clear c76
                 have H':=zm H
                 clear H
                 have p635:0≤(x93_3:Int):=za_
                 have q635:x93_3 < (((rd_T42 l1 x27_1).f6).length:Int):=za_
                 obtain ⟨ad635,e635,hx635_0,hx635_1,hx635_2⟩:=at_T55 HR622_6.out x93_3 p635 q635
                 cases e635
                 replace hx635_0:=zhx HB hx635_0
                 replace hx635_1:=zhx HB hx635_1
                 replace hx635_2:=zhx HB hx635_2
                 replace p635:=eq_true p635
                 replace q635:=eq_true q635
                 go_wp2_with (first|((with_reducible refine gate_dst (N:=15) rfl ?_);refine zbx 15 #[.int .i64 0,.int .i64 0,.int .i64 0] 55 ?_;intro gb636 hg w94 hbox hb;have n0_:=zm (Kd.R_below (by (with_reducible repeat (first|apply zrA|apply zrN|apply zrD));exact HO_622000.out) hb);have n1_:=zm (Kd.R_below (by (with_reducible repeat (first|apply zrA|apply zrN|apply zrD));exact HO_622001.out) hb);have n2_:=zkB BK612 hb;have n3_:=zkB BK621 hb;have n4_:=zkB BK623 hb;have n5_:=zkH HB hb;have n6_:=zm (hbox);have n7_:=zkG HB hg;have n8_:=zkG HB hg;have n9_:=zkN BK612 hg;have n10_:=zkM BK612 hg;have n11_:=zkN BK621 hg;have n12_:=zkM BK621 hg;have n13_:=zkN BK623 hg;have n14_:=zkM BK623 hg;clear HO_622000 HO_622001 BK612 BK621 BK623 HB;have HO_622000:=n0_;have HO_622001:=n1_;have BK612:=n2_;have BK621:=n3_;have BK623:=n4_;have HB:=n5_;have BK636:=n6_;have GW636:=n7_;have GE636:=n8_;have NB612_636:=n9_;have NB636_612:=n10_;have NB621_636:=n11_;have NB636_621:=n12_;have NB623_636:=n13_;have NB636_623:=n14_;clear n0_ n1_ n2_ n3_ n4_ n5_ n6_ n7_ n8_ n9_ n10_ n11_ n12_ n13_ n14_;clear hb hbox hg;have hnb95:=NB636_612.out;have hnc95:=NB612_636.out;have hnb96:=NB636_621.out;have hnc96:=NB621_636.out;have hnb97:=NB636_623.out;have hnc97:=NB623_636.out;obtain ⟨hcz98_0,hcz98_1,hcz98_2,hfz98_0,hfz98_1,hfz98_2⟩:=zc3 BK636.out))
                 go_roundg k3
                 case measure=>have:=HK1.out;have:=HK2.out;have:=HK3.out;omega
                 case rel=>exact ⟨(wrap64 (x93_3 + 1)),(x622000_3),(x622001_3),(x622002_3),(u622000),(u622001),zs_,H',⟨by have:=HK1.out;have:=HK2.out;have:=HK3.out;omega⟩,⟨by (with_reducible repeat (first|apply zrA|apply zrN|apply zrD));exact Kd.R_mono (Kd.R_far (p:=⟨gb636,2,none⟩) (Kd.R_far (p:=⟨gb636,1,none⟩) (Kd.R_far (p:=⟨gb636,0,none⟩) (Kd.R_types HO_622000.out BK636.out (by decide)) (fun _ hk=>hk.2) (.int .i64 ((rd_T55 ((rd_T42 l1 x27_1).f6) x93_3).f0))) (fun _ hk=>hk.2) (.int .i64 ((rd_T55 ((rd_T42 l1 x27_1).f6) x93_3).f1))) (fun _ hk=>hk.2) (.int .i64 ((rd_T55 ((rd_T42 l1 x27_1).f6) x93_3).f2))) (fun _ hk=>trivial)⟩,⟨by (with_reducible repeat (first|apply zrA|apply zrN|apply zrD));exact Kd.R_mono (Kd.R_far (p:=⟨gb636,2,none⟩) (Kd.R_far (p:=⟨gb636,1,none⟩) (Kd.R_far (p:=⟨gb636,0,none⟩) (Kd.R_types HO_622001.out BK636.out (by decide)) (fun _ hk=>hk.2) (.int .i64 ((rd_T55 ((rd_T42 l1 x27_1).f6) x93_3).f0))) (fun _ hk=>hk.2) (.int .i64 ((rd_T55 ((rd_T42 l1 x27_1).f6) x93_3).f1))) (fun _ hk=>hk.2) (.int .i64 ((rd_T55 ((rd_T42 l1 x27_1).f6) x93_3).f2))) (fun _ hk=>trivial)⟩,⟨by (with_reducible repeat (first|refine zbN ?_ _|refine zbD ?_|refine zbA ?_ _));refine blk_far ?_ NB612_636.out _;(with_reducible repeat (first|refine zbN ?_ _|refine zbD ?_|refine zbA ?_ _));refine blk_far ?_ NB612_636.out _;(with_reducible repeat (first|refine zbN ?_ _|refine zbD ?_|refine zbA ?_ _));refine blk_far ?_ NB612_636.out _;(with_reducible repeat (first|refine zbN ?_ _|refine zbD ?_|refine zbA ?_ _));exact BK612.out⟩,⟨by (with_reducible repeat (first|refine zbN ?_ _|refine zbD ?_|refine zbA ?_ _));refine blk_far ?_ NB621_636.out _;(with_reducible repeat (first|refine zbN ?_ _|refine zbD ?_|refine zbA ?_ _));refine blk_far ?_ NB621_636.out _;(with_reducible repeat (first|refine zbN ?_ _|refine zbD ?_|refine zbA ?_ _));refine blk_far ?_ NB621_636.out _;(with_reducible repeat (first|refine zbN ?_ _|refine zbD ?_|refine zbA ?_ _));exact BK621.out⟩,⟨by (with_reducible repeat (first|refine zbN ?_ _|refine zbD ?_|refine zbA ?_ _));refine blk_far ?_ NB623_636.out _;(with_reducible repeat (first|refine zbN ?_ _|refine zbD ?_|refine zbA ?_ _));refine blk_far ?_ NB623_636.out _;(with_reducible repeat (first|refine zbN ?_ _|refine zbD ?_|refine zbA ?_ _));refine blk_far ?_ NB623_636.out _;(with_reducible repeat (first|refine zbN ?_ _|refine zbD ?_|refine zbA ?_ _));exact BK623.out⟩,⟨zb_⟩⟩
               ·rw [if_neg c75] at H
                exact absurd H (by simp)
              ·rw [if_neg c74] at H
               exact absurd H (by simp)
             ·rw [if_neg c73] at H
              have c73b0:decide (x93_3 < (((rd_T42 l1 x27_1).f6).length:Int))=false:=decide_eq_false c73
              clear c73
              have H':=zm H
              clear H
              go_wp2
              go_roundg k3
              case measure=>have:=HK1.out;have:=HK2.out;have:=HK3.out;omega
              case rel=>exact ⟨(ji17),(wrap64 (x27_1 + 1)),(x622000_3),(x622001_3),(x622002_3),(u622000),(u622001),(by first|rfl|(simp;done)|(simp only [← hji17] <;> (first|rfl|simp))|(simp [*];done)),zs_,H',⟨by have:=HK1.out;have:=HK2.out;have:=HK3.out;omega⟩,⟨by (with_reducible repeat (first|apply zrA|apply zrN|apply zrD));exact HO_622000.out⟩,⟨by (with_reducible repeat (first|apply zrA|apply zrN|apply zrD));exact HO_622001.out⟩,⟨zx_⟩,⟨zx_⟩,⟨zb_⟩⟩
       ·replace c16:=Bool.eq_false_iff.mpr c16
        subst c16
        have H1:(mapjnl_Replay.l0 k1 a0 x9_1 l1 (l1.length:Int) (wrap64 (x27_1 + 1)) x622000_1 x622001_1 x622002_1)=some (r1,r2,r3,r4,r5):=by rw [if_neg (show ¬ (false=true) by decide)] at H;exact H
        clear H
        have H:=H1
        clear H1
        have H':=zm H
        clear H
        have p622:0≤(x27_1:Int):=za_
        have q622:x27_1 < (l1.length:Int):=za_
        obtain ⟨ad622,A622_4,c622_4,A622_5,c622_5,A622_6,c622_6,e622,hx622_0,hx622_1,hx622_2,hx622_3,hx622_4,hx622_5,hx622_6,hl622_4,hi622_4,hl622_5,hi622_5,hl622_6,hi622_6⟩:=at_T42 HR1.out x27_1 p622 q622
        cases e622
        replace hx622_0:=zhx HB hx622_0
        replace hx622_1:=zhx HB hx622_1
        replace hx622_2:=zhx HB hx622_2
        replace hx622_3:=zhx HB hx622_3
        replace hx622_4:=zhx HB hx622_4
        replace hx622_5:=zhx HB hx622_5
        replace hx622_6:=zhx HB hx622_6
        have HR622_4:=zm hi622_4
        have HC622_4:=zm hl622_4
        clear hi622_4 hl622_4
        have HR622_5:=zm hi622_5
        have HC622_5:=zm hl622_5
        clear hi622_5 hl622_5
        have HR622_6:=zm hi622_6
        have HC622_6:=zm hl622_6
        clear hi622_6 hl622_6
        replace p622:=eq_true p622
        replace q622:=eq_true q622
        go_wp2_with (first|((with_reducible refine gate_dst (N:=11) rfl ?_);refine zbx 11 #[.int .i64 0,.int .i64 0,.int .i64 0,.int .i64 0,.slice none 0 0,.slice none 0 0,.slice none 0 0] 42 ?_;intro gb623 hg w99 hbox hb;have n0_:=zm (Kd.R_below (by (with_reducible repeat (first|apply zrA|apply zrN|apply zrD));exact HO_622000.out) hb);have n1_:=zm (Kd.R_below (by (with_reducible repeat (first|apply zrA|apply zrN|apply zrD));exact HO_622001.out) hb);have n2_:=zkB BK612 hb;have n3_:=zkB BK621 hb;have n4_:=zkH HB hb;have n5_:=zm (hbox);have n6_:=zkG HB hg;have n7_:=zkG HB hg;have n8_:=zkN BK612 hg;have n9_:=zkM BK612 hg;have n10_:=zkN BK621 hg;have n11_:=zkM BK621 hg;clear HO_622000 HO_622001 BK612 BK621 HB;have HO_622000:=n0_;have HO_622001:=n1_;have BK612:=n2_;have BK621:=n3_;have HB:=n4_;have BK623:=n5_;have GW623:=n6_;have GE623:=n7_;have NB612_623:=n8_;have NB623_612:=n9_;have NB621_623:=n10_;have NB623_621:=n11_;clear n0_ n1_ n2_ n3_ n4_ n5_ n6_ n7_ n8_ n9_ n10_ n11_;clear hb hbox hg;have hnb100:=NB623_612.out;have hnc100:=NB612_623.out;have hnb101:=NB623_621.out;have hnc101:=NB621_623.out;obtain ⟨hcz102_0,hcz102_1,hcz102_2,hcz102_3,hcz102_4,hcz102_5,hcz102_6,hfz102_0,hfz102_1,hfz102_2,hfz102_3,hfz102_4,hfz102_5,hfz102_6⟩:=zc7 BK623.out)|((with_reducible refine gate_callee (f:=72) rfl ?_);refine goesL_ (some 32) rfl rfl Try.func72 (by kernel_rfl) rfl #[.agg #[.int .i64 ((rd_T42 l1 x27_1).f0),.int .i64 ((rd_T42 l1 x27_1).f1),.int .i64 ((rd_T42 l1 x27_1).f2),.int .i64 ((rd_T42 l1 x27_1).f3),.slice A622_4 ((rd_T42 l1 x27_1).f4).length c622_4,.slice A622_5 ((rd_T42 l1 x27_1).f5).length c622_5,.slice A622_6 ((rd_T42 l1 x27_1).f6).length c622_6]] rfl (by (try simp only [List.map_toArray,List.map_cons,List.map_nil]);first|done|rfl|(simp only [List.length_drop,List.length_take];rfl)) ?_;(with_reducible refine (mapjnl_fits.calls k1 ((rd_T42 l1 x27_1).f0) ((rd_T42 l1 x27_1).f1) ((rd_T42 l1 x27_1).f2) ((rd_T42 l1 x27_1).f3) _ _ ((rd_T42 l1 x27_1).f4) _ _ ((rd_T42 l1 x27_1).f5) _ _ ((rd_T42 l1 x27_1).f6) false _ ?side1 ?side2 ?side3 ?side4 ?side5 ?side6 A15.out).mono ?_);(case side1=>exact Kd.C_below HR622_4.out (zb_));(case side2=>exact HC622_4.out);(case side3=>exact Kd.C_below HR622_5.out (zb_));(case side4=>exact HC622_5.out);(case side5=>exact Kd.C_below HR622_6.out (zb_));(case side6=>exact HC622_6.out);rintro e w103 ⟨rfl,hb⟩;refine ⟨_,rfl,?_⟩;have n0_:=zm (Kd.R_below (by (with_reducible repeat (first|apply zrA|apply zrN|apply zrD));exact (Kd.R_mono (Kd.R_far (p:=⟨gb623,6,none⟩) (Kd.R_far (p:=⟨gb623,5,none⟩) (Kd.R_far (p:=⟨gb623,4,none⟩) (Kd.R_far (p:=⟨gb623,3,none⟩) (Kd.R_far (p:=⟨gb623,2,none⟩) (Kd.R_far (p:=⟨gb623,1,none⟩) (Kd.R_far (p:=⟨gb623,0,none⟩) (Kd.R_types HO_622000.out BK623.out (by decide)) (fun _ hk=>hk.2) (.int .i64 ((rd_T42 l1 x27_1).f0))) (fun _ hk=>hk.2) (.int .i64 ((rd_T42 l1 x27_1).f1))) (fun _ hk=>hk.2) (.int .i64 ((rd_T42 l1 x27_1).f2))) (fun _ hk=>hk.2) (.int .i64 ((rd_T42 l1 x27_1).f3))) (fun _ hk=>hk.2) (.slice A622_4 ((rd_T42 l1 x27_1).f4).length c622_4)) (fun _ hk=>hk.2) (.slice A622_5 ((rd_T42 l1 x27_1).f5).length c622_5)) (fun _ hk=>hk.2) (.slice A622_6 ((rd_T42 l1 x27_1).f6).length c622_6)) (fun _ h_=>h_.1))) hb);have n1_:=zm (Kd.R_below (by (with_reducible repeat (first|apply zrA|apply zrN|apply zrD));exact (Kd.R_mono (Kd.R_far (p:=⟨gb623,6,none⟩) (Kd.R_far (p:=⟨gb623,5,none⟩) (Kd.R_far (p:=⟨gb623,4,none⟩) (Kd.R_far (p:=⟨gb623,3,none⟩) (Kd.R_far (p:=⟨gb623,2,none⟩) (Kd.R_far (p:=⟨gb623,1,none⟩) (Kd.R_far (p:=⟨gb623,0,none⟩) (Kd.R_types HO_622001.out BK623.out (by decide)) (fun _ hk=>hk.2) (.int .i64 ((rd_T42 l1 x27_1).f0))) (fun _ hk=>hk.2) (.int .i64 ((rd_T42 l1 x27_1).f1))) (fun _ hk=>hk.2) (.int .i64 ((rd_T42 l1 x27_1).f2))) (fun _ hk=>hk.2) (.int .i64 ((rd_T42 l1 x27_1).f3))) (fun _ hk=>hk.2) (.slice A622_4 ((rd_T42 l1 x27_1).f4).length c622_4)) (fun _ hk=>hk.2) (.slice A622_5 ((rd_T42 l1 x27_1).f5).length c622_5)) (fun _ hk=>hk.2) (.slice A622_6 ((rd_T42 l1 x27_1).f6).length c622_6)) (fun _ h_=>h_.1))) hb);have n2_:=zm (zbB (g:=gb612) (o:=.cells #[.slice none 0 0,.slice none 0 0,.int .i64 0] 25 (0,0)) (by (with_reducible repeat (first|refine zbN ?_ _|refine zbD ?_|refine zbA ?_ _));refine blk_far ?_ NB612_623.out _;(with_reducible repeat (first|refine zbN ?_ _|refine zbD ?_|refine zbA ?_ _));refine blk_far ?_ NB612_623.out _;(with_reducible repeat (first|refine zbN ?_ _|refine zbD ?_|refine zbA ?_ _));refine blk_far ?_ NB612_623.out _;(with_reducible repeat (first|refine zbN ?_ _|refine zbD ?_|refine zbA ?_ _));refine blk_far ?_ NB612_623.out _;(with_reducible repeat (first|refine zbN ?_ _|refine zbD ?_|refine zbA ?_ _));refine blk_far ?_ NB612_623.out _;(with_reducible repeat (first|refine zbN ?_ _|refine zbD ?_|refine zbA ?_ _));refine blk_far ?_ NB612_623.out _;(with_reducible repeat (first|refine zbN ?_ _|refine zbD ?_|refine zbA ?_ _));refine blk_far ?_ NB612_623.out _;(with_reducible repeat (first|refine zbN ?_ _|refine zbD ?_|refine zbA ?_ _));exact BK612.out) hb);have n3_:=zm (zbB (g:=gb621) (o:=.cells #[u622000,u622001,.int .i64 x622002_1] 25 (0,0)) (by (with_reducible repeat (first|refine zbN ?_ _|refine zbD ?_|refine zbA ?_ _));refine blk_far ?_ NB621_623.out _;(with_reducible repeat (first|refine zbN ?_ _|refine zbD ?_|refine zbA ?_ _));refine blk_far ?_ NB621_623.out _;(with_reducible repeat (first|refine zbN ?_ _|refine zbD ?_|refine zbA ?_ _));refine blk_far ?_ NB621_623.out _;(with_reducible repeat (first|refine zbN ?_ _|refine zbD ?_|refine zbA ?_ _));refine blk_far ?_ NB621_623.out _;(with_reducible repeat (first|refine zbN ?_ _|refine zbD ?_|refine zbA ?_ _));refine blk_far ?_ NB621_623.out _;(with_reducible repeat (first|refine zbN ?_ _|refine zbD ?_|refine zbA ?_ _));refine blk_far ?_ NB621_623.out _;(with_reducible repeat (first|refine zbN ?_ _|refine zbD ?_|refine zbA ?_ _));refine blk_far ?_ NB621_623.out _;(with_reducible repeat (first|refine zbN ?_ _|refine zbD ?_|refine zbA ?_ _));exact BK621.out) hb);have n4_:=zm (zbB (g:=gb623) (o:=.cells #[.int .i64 ((rd_T42 l1 x27_1).f0),.int .i64 ((rd_T42 l1 x27_1).f1),.int .i64 ((rd_T42 l1 x27_1).f2),.int .i64 ((rd_T42 l1 x27_1).f3),.slice A622_4 ((rd_T42 l1 x27_1).f4).length c622_4,.slice A622_5 ((rd_T42 l1 x27_1).f5).length c622_5,.slice A622_6 ((rd_T42 l1 x27_1).f6).length c622_6] 42 (0,0)) (by (with_reducible repeat (first|refine zbN ?_ _|refine zbD ?_|refine zbA ?_ _));refine blk_put (cs:=#[.int .i64 ((rd_T42 l1 x27_1).f0),.int .i64 ((rd_T42 l1 x27_1).f1),.int .i64 ((rd_T42 l1 x27_1).f2),.int .i64 ((rd_T42 l1 x27_1).f3),.slice A622_4 ((rd_T42 l1 x27_1).f4).length c622_4,.slice A622_5 ((rd_T42 l1 x27_1).f5).length c622_5,.slice none 0 0]) ?_ 6 _ rfl;(with_reducible repeat (first|refine zbN ?_ _|refine zbD ?_|refine zbA ?_ _));refine blk_put (cs:=#[.int .i64 ((rd_T42 l1 x27_1).f0),.int .i64 ((rd_T42 l1 x27_1).f1),.int .i64 ((rd_T42 l1 x27_1).f2),.int .i64 ((rd_T42 l1 x27_1).f3),.slice A622_4 ((rd_T42 l1 x27_1).f4).length c622_4,.slice none 0 0,.slice none 0 0]) ?_ 5 _ rfl;(with_reducible repeat (first|refine zbN ?_ _|refine zbD ?_|refine zbA ?_ _));refine blk_put (cs:=#[.int .i64 ((rd_T42 l1 x27_1).f0),.int .i64 ((rd_T42 l1 x27_1).f1),.int .i64 ((rd_T42 l1 x27_1).f2),.int .i64 ((rd_T42 l1 x27_1).f3),.slice none 0 0,.slice none 0 0,.slice none 0 0]) ?_ 4 _ rfl;(with_reducible repeat (first|refine zbN ?_ _|refine zbD ?_|refine zbA ?_ _));refine blk_put (cs:=#[.int .i64 ((rd_T42 l1 x27_1).f0),.int .i64 ((rd_T42 l1 x27_1).f1),.int .i64 ((rd_T42 l1 x27_1).f2),.int .i64 0,.slice none 0 0,.slice none 0 0,.slice none 0 0]) ?_ 3 _ rfl;(with_reducible repeat (first|refine zbN ?_ _|refine zbD ?_|refine zbA ?_ _));refine blk_put (cs:=#[.int .i64 ((rd_T42 l1 x27_1).f0),.int .i64 ((rd_T42 l1 x27_1).f1),.int .i64 0,.int .i64 0,.slice none 0 0,.slice none 0 0,.slice none 0 0]) ?_ 2 _ rfl;(with_reducible repeat (first|refine zbN ?_ _|refine zbD ?_|refine zbA ?_ _));refine blk_put (cs:=#[.int .i64 ((rd_T42 l1 x27_1).f0),.int .i64 0,.int .i64 0,.int .i64 0,.slice none 0 0,.slice none 0 0,.slice none 0 0]) ?_ 1 _ rfl;(with_reducible repeat (first|refine zbN ?_ _|refine zbD ?_|refine zbA ?_ _));refine blk_put (cs:=#[.int .i64 0,.int .i64 0,.int .i64 0,.int .i64 0,.slice none 0 0,.slice none 0 0,.slice none 0 0]) ?_ 0 _ rfl;(with_reducible repeat (first|refine zbN ?_ _|refine zbD ?_|refine zbA ?_ _));exact BK623.out) hb);have n5_:=zkH HB hb;clear HO_622000 HO_622001 BK612 BK621 BK623 HB;have HO_622000:=n0_;have HO_622001:=n1_;have BK612:=n2_;have BK621:=n3_;have BK623:=n4_;have HB:=n5_;clear n0_ n1_ n2_ n3_ n4_ n5_;(try clear hb);(try clear hb2);(try clear hk);(try clear hi)))
        go_roundg k1
        case measure=>have:=HK1.out;omega
        case rel=>exact ⟨(x9_1),(wrap64 (x27_1 + 1)),(x622000_1),(x622001_1),(x622002_1),(u622000),(u622001),zs_,zs_,H',⟨by have:=HK1.out;omega⟩,⟨by (with_reducible repeat (first|apply zrA|apply zrN|apply zrD));exact HO_622000.out⟩,⟨by (with_reducible repeat (first|apply zrA|apply zrN|apply zrD));exact HO_622001.out⟩,⟨zx_⟩,⟨zx_⟩,⟨zb_⟩⟩
      ·rw [if_neg c14] at H
       exact absurd H (by simp)
     ·rw [if_neg c13] at H
      exact absurd H (by simp)
    ·rw [if_neg c12] at H
     have c12b0:decide (x27_1 < (l1.length:Int))=false:=decide_eq_false c12
     clear c12
     simp only [Option.some.injEq,Prod.mk.injEq] at H
     obtain ⟨rfl,rfl,rfl,rfl,rfl⟩:=H
     have hnb104:=NB621_612.out
     have hnc104:=NB612_621.out
     obtain ⟨hcz105_0,hcz105_1,hcz105_2,hfz105_0,hfz105_1,hfz105_2⟩:=zc3 BK621.out
     obtain ⟨Ao106,co106,eo106⟩:=Kd.R_slice HO_622000.out
     subst eo106
     obtain ⟨hcz107_0,hcz107_1,hcz107_2,hfz107_0,hfz107_1,hfz107_2⟩:=zc3 BK612.out
     obtain ⟨Ao108,co108,eo108⟩:=Kd.R_slice HO_622001.out
     subst eo108
     go_wp2
     refine bodyPost_ret (results_ctt rfl _ _ gb612 25 #[.slice Ao106 x622000_1.length co106,.slice Ao108 x622001_1.length co108,.int .i64 x622002_1] (0,0) _ rfl (by (with_reducible repeat (first|refine zbN ?_ _|refine zbD ?_|refine zbA ?_ _));refine blk_put (cs:=#[.slice Ao106 x622000_1.length co106,.slice Ao108 x622001_1.length co108,.int .i64 0]) ?_ 2 _ rfl;(with_reducible repeat (first|refine zbN ?_ _|refine zbD ?_|refine zbA ?_ _));refine blk_put (cs:=#[.slice Ao106 x622000_1.length co106,.slice none 0 0,.int .i64 0]) ?_ 1 _ rfl;(with_reducible repeat (first|refine zbN ?_ _|refine zbD ?_|refine zbA ?_ _));refine blk_put (cs:=#[.slice none 0 0,.slice none 0 0,.int .i64 0]) ?_ 0 _ rfl;(with_reducible repeat (first|refine zbN ?_ _|refine zbD ?_|refine zbA ?_ _));exact BK612.out) Try.underlying25 rfl (by kernel_rfl)) rfl ?_
     exact ⟨_,_,ze_,by (with_reducible repeat (first|apply zrA|apply zrN|apply zrD));exact Kd.R_mono (Kd.R_far (p:=⟨gb612,2,none⟩) (Kd.R_far (p:=⟨gb612,1,none⟩) (Kd.R_far (p:=⟨gb612,0,none⟩) (Kd.R_types HO_622000.out BK612.out (by decide)) (fun _ hk=>hk.2) (.slice Ao106 x622000_1.length co106)) (fun _ hk=>hk.2) (.slice Ao108 x622001_1.length co108)) (fun _ hk=>hk.2) (.int .i64 x622002_1)) (fun _ hk=>trivial),by (with_reducible repeat (first|apply zrA|apply zrN|apply zrD));exact Kd.R_mono (Kd.R_far (p:=⟨gb612,2,none⟩) (Kd.R_far (p:=⟨gb612,1,none⟩) (Kd.R_far (p:=⟨gb612,0,none⟩) (Kd.R_types HO_622001.out BK612.out (by decide)) (fun _ hk=>hk.2) (.slice Ao106 x622000_1.length co106)) (fun _ hk=>hk.2) (.slice Ao108 x622001_1.length co108)) (fun _ hk=>hk.2) (.int .i64 x622002_1)) (fun _ hk=>trivial),zb_⟩
 ·rw [if_neg c4] at H
  have c4b0:(t620 == 0)=false:=beq_eq_false_iff_ne.mpr c4
  have c4b1:(t620 != 0)=true:=bne_iff_ne.mpr c4
  simp only [Option.some.injEq,Prod.mk.injEq] at H
  obtain ⟨rfl,rfl,rfl,rfl,rfl⟩:=H
  go_enter Try.func39,Try.ntmps39
  go_wp2_with (first|((with_reducible refine gate_dst (N:=4) rfl ?_);refine zbx 4 #[.slice none 0 0,.slice none 0 0,.int .i64 0] 25 ?_;intro gb612 hg w109 hbox hb;have n0_:=zkH HB hb;have n1_:=zm (hbox);have n2_:=zkG HB hg;have n3_:=zkG HB hg;clear HB;have HB:=n0_;have BK612:=n1_;have GW612:=n2_;have GE612:=n3_;clear n0_ n1_ n2_ n3_;clear hb hbox hg)|((with_reducible refine gate_callee (f:=11) rfl ?_);refine goesL_ (some 18) rfl rfl Try.func11 (by kernel_rfl) rfl #[.int .i64 a0] rfl (by (try simp only [List.map_toArray,List.map_cons,List.map_nil]);first|done|rfl|(simp only [List.length_drop,List.length_take];rfl)) ?_;(with_reducible refine (mapjnl_New.calls a0 t613 t616 t619 t620 _ A3.out).mono ?_);rintro e w110 ⟨v614,v617,rfl,ho0,ho1,hb⟩;refine ⟨_,rfl,?_⟩;have n0_:=zm (Kd.R_lower ho0 (below_size (zb_)));have n1_:=zm (Kd.R_lower ho1 (below_size (zb_)));have n2_:=zkB BK612 hb;have n3_:=zkH HB hb;clear BK612 HB;have HO615:=n0_;have HO618:=n1_;have BK612:=n2_;have HB:=n3_;clear n0_ n1_ n2_ n3_;(try clear hb);(try clear hb2);(try clear hk);(try clear hi);(try clear ho0);(try clear ho1))|((with_reducible refine gate_dst (N:=7) rfl ?_);refine zbx 7 #[.slice none 0 0,.slice none 0 0,.int .i64 0] 25 ?_;intro gb621 hg w111 hbox hb;have n0_:=zm (Kd.R_below (by (with_reducible repeat (first|apply zrA|apply zrN|apply zrD));exact HO615.out) hb);have n1_:=zm (Kd.R_below (by (with_reducible repeat (first|apply zrA|apply zrN|apply zrD));exact HO618.out) hb);have n2_:=zkB BK612 hb;have n3_:=zkH HB hb;have n4_:=zm (hbox);have n5_:=zkG HB hg;have n6_:=zkG HB hg;have n7_:=zkN BK612 hg;have n8_:=zkM BK612 hg;clear HO615 HO618 BK612 HB;have HO615:=n0_;have HO618:=n1_;have BK612:=n2_;have HB:=n3_;have BK621:=n4_;have GW621:=n5_;have GE621:=n6_;have NB612_621:=n7_;have NB621_612:=n8_;clear n0_ n1_ n2_ n3_ n4_ n5_ n6_ n7_ n8_;clear hb hbox hg;obtain ⟨Ao112,co112,eo112⟩:=Kd.R_slice HO615.out;subst eo112;have hnb113:=NB621_612.out;have hnc113:=NB612_621.out;obtain ⟨hcz114_0,hcz114_1,hcz114_2,hfz114_0,hfz114_1,hfz114_2⟩:=zc3 BK621.out;obtain ⟨Ao115,co115,eo115⟩:=Kd.R_slice HO618.out;subst eo115;obtain ⟨hcz116_0,hcz116_1,hcz116_2,hfz116_0,hfz116_1,hfz116_2⟩:=zc3 BK612.out))
  refine bodyPost_ret (results_ctt rfl _ _ gb612 25 #[.slice none 0 0,.slice none 0 0,.int .i64 0] (0,0) _ rfl (by (with_reducible repeat (first|refine zbN ?_ _|refine zbD ?_|refine zbA ?_ _));refine blk_put (cs:=#[.slice none 0 0,.slice none 0 0,.int .i64 0]) ?_ 2 _ rfl;(with_reducible repeat (first|refine zbN ?_ _|refine zbD ?_|refine zbA ?_ _));refine blk_put (cs:=#[.slice none 0 0,.slice none 0 0,.int .i64 0]) ?_ 1 _ rfl;(with_reducible repeat (first|refine zbN ?_ _|refine zbD ?_|refine zbA ?_ _));refine blk_put (cs:=#[.slice none 0 0,.slice none 0 0,.int .i64 0]) ?_ 0 _ rfl;(with_reducible repeat (first|refine zbN ?_ _|refine zbD ?_|refine zbA ?_ _));refine blk_far ?_ NB612_621.out _;(with_reducible repeat (first|refine zbN ?_ _|refine zbD ?_|refine zbA ?_ _));refine blk_far ?_ NB612_621.out _;(with_reducible repeat (first|refine zbN ?_ _|refine zbD ?_|refine zbA ?_ _));refine blk_far ?_ NB612_621.out _;(with_reducible repeat (first|refine zbN ?_ _|refine zbD ?_|refine zbA ?_ _));exact BK612.out) Try.underlying25 rfl (by kernel_rfl)) rfl ?_
  exact ⟨_,_,ze_,zr_,zr_,zb_⟩
end Go.Proofs.Ytkhbmgclklmimaa.Print
end
section
namespace Go.Proofs.Ytkhbmgclklmimaa.Print
open Go.RowKit Go.Proofs.YtkhbmgclklmimaaW.PrintWords Go.Proofs.YtkhbmgclklmimaaW.PrintLast Go.Proofs.YtkhbmgclklmimaaW.PrintMore
attribute [local go_sem] max2_int min2_int max_two min_two max_three min_three max_four min_four   -- for this text's walks alone
attribute [local go_sem ↓] Go.Proofs.Ytkhbmgclklmimaa.Sem.isSome_setCell
attribute [local go_sem] Go.Instr.field Go.asAgg
set_option linter.unusedVariables false
set_option linter.unusedSimpArgs false
def api_MapPage_41.f (l0:List (S42)):Option ((List (S42))):=(some (([]:List (S42)):List (S42))).bind fun y739=>(if y739.length + l0.length < 1353245080339 then (some (y739 ++ l0)) else (none))
set_option maxHeartbeats 8000000 in
set_option maxRecDepth 100000 in
theorem api_MapPage_41.calls_some (P0_:Nat → Prop) (a0:Addr) (c0:Nat) (l0:List (S42)) (r:List (S42)) (w:World) (hs0:Kd.V k42 42 w w.heap.size (fun k_=>P0_ k_) (.slice (some a0) l0.length c0) l0) (h:api_MapPage_41.f l0=some r) :
  Calls Try.prog 41 #[.slice (some a0) l0.length c0] w fun e w'=>∃ v0_:Value,e=.returned (v0_)∧Kd.N k42 42 w' w.heap.size (fun k_=>(P0_ k_∨w.heap.size≤k_)) v0_ r∧Below w.heap.size w w':=by
 have HO0:=zm (show Kd.V k42 42 w w.heap.size (fun k_=>(P0_ k_∨w.heap.size≤k_)) (.slice (some a0) l0.length c0) l0 from Kd.V_mono hs0 (fun k_ hk=>.inl hk))
 have HB:=zm (Below.refl w.heap.size w)
 have H:((some (([]:List (S42)):List (S42))).bind fun y739=>(if y739.length + l0.length < 1353245080339 then (some (y739 ++ l0)) else (none)))=some r:=h
 clear h
 obtain ⟨y739,hy739⟩:∃ y_:List (S42),y_=(([]:List (S42))):=⟨_,rfl⟩
 replace H:(if y739.length + l0.length < 1353245080339 then (some (y739 ++ l0)) else (none))=some r:=by first|(rw [hy739];with_reducible exact H)|(have H2_:=(Option.bind_some _ _).symm.trans H;rw [hy739];with_reducible exact H2_)|(have H2_:=(Option.bind_some _ _).symm.trans H;with_reducible exact H2_)|with_reducible exact H|(rw [hy739];exact H)|exact H
 have Ny739:=zm hy739
 clear hy739
 by_cases c2:y739.length + l0.length < 1353245080339
 ·rw [if_pos c2] at H
  have LMc2:=zm c2
  clear c2
  obtain ⟨y742,hy742⟩:∃ y_:List (S42),y_=(y739 ++ l0):=⟨_,rfl⟩
  replace H:(some y742)=some r:=by first|(rw [hy742];with_reducible exact H)|(have H2_:=(Option.bind_some _ _).symm.trans H;rw [hy742];with_reducible exact H2_)|(have H2_:=(Option.bind_some _ _).symm.trans H;with_reducible exact H2_)|with_reducible exact H|(rw [hy742];exact H)|exact H
  have Ny742:=zm hy742
  clear hy742
  obtain rfl:=Option.some.inj H
  have hq_:=Lib.run_eql_slice_nil (P:=Try.prog) w 43 42 (some a0) l0.length c0 0 0 Try.underlying43
  go_enter Try.func41,Try.ntmps41
  go_wp2_with (first|((with_reducible refine gate_dst (N:=5) rfl ?_);refine Kd.N_lit k42 _ 42 ?hg (N':=5) ?hd (xs:=([]:List (S42))) (inner:=[]) (ok:=(fun k_=>(P0_ k_∨w.heap.size≤k_))) (okp:=(fun k_=>(P0_ k_∨w.heap.size≤k_))) ?hr ?hp (fun _ hk=>hk) ((show ∀ k_,w.heap.size≤k_ → (fun k_=>(P0_ k_∨w.heap.size≤k_)) k_ from fun k_ hk=>(.inr (Nat.le_trans (below_size (zb_)) hk))) _ (Nat.le_refl _)) (Below.refl _ _) (Nat.le_refl _) (by simp) ?_;(case hd=>rfl);(case hg=>rfl);(case hr=>first|(go_simp;done)|(go_simp;rfl));(case hp=>exact (Reps.none _ _));intro v740 w3 ho4 hb hg_ hnew_;clear hg_ hnew_;(first|rw [← Ny739.out] at ho4|(simp only [Int.reduceToNat] at ho4;rw [← Ny739.out] at ho4));have n0_:=zm (Kd.V_elder' (by (with_reducible repeat (first|apply Kd.V_alloc|apply Kd.V_drewN|apply Kd.V_drew));exact HO0.out) (Kd.N_base ho4) hb);have n1_:=zm (Kd.N_lower ho4 (below_size (zb_)));have n2_:=zkH HB hb;clear HO0 HB;have HO0:=n0_;have HO741:=n1_;have HB:=n2_;clear n0_ n1_ n2_;clear hb ho4)|((with_reducible refine gate_builtin (b:=.append) (xs:=#[.tmp 5,.tmp 6]) rfl ?_);at_builtin;refine Kd.N_append_rows k42 (w0:=w) w.heap.size rfl (.tmp 5) (.tmp 6) 43 42 (.agg #[(.int .i64 0),(.int .i64 0),(.int .i64 0),(.int .i64 0),(.slice none 0 0),(.slice none 0 0),(.slice none 0 0)]) 104 rfl Try.underlying43 info42 rfl (by decide) (by omega) v740 y739 l0 _ _ _ (fun k_=>(P0_ k_∨w.heap.size≤k_)) (fun k_=>((fun k_=>(P0_ k_∨w.heap.size≤k_))) k_∧some k_≠(v740:Value).ownBlock) rfl rfl ?aO ?aR (fun _ hk=>hk) ?aF ?aB ?aS ?aL ?_;(case aR=>exact (by skip;exact Kd.V_F (Kd.V_mono (ok':=(fun k_=>((fun k_=>(P0_ k_∨w.heap.size≤k_))) k_∧some k_≠(v740:Value).ownBlock)) (HO0.out) (fun k_ hk=>⟨hk.1,hk.2⟩))));(case aB=>exact (zb_));(case aF=>exact (fun k_ hk=>(.inr (Nat.le_trans (below_size (zb_)) hk))));(case aO=>exact (by (with_reducible repeat (first|apply Kd.N_alloc|apply Kd.N_drewN|apply Kd.N_drew));exact HO741.out));(case aS=>exact (below_size (zb_)));(case aL=>have:=LMc2.out;omega);intro v743 w5 ho hb hg hat;rw [← Ny742.out] at ho;have n0_:=zm (Kd.V_afterv (ok:=(fun k_=>(P0_ k_∨w.heap.size≤k_))) (by (with_reducible repeat (first|apply Kd.V_alloc|apply Kd.V_drewN|apply Kd.V_drew));exact HO0.out) hg hat);have n1_:=zm (hb);have n2_:=zm (ho);clear HO0 HB HO741;have HO0:=n0_;have HB:=n1_;have HO744:=n2_;clear n0_ n1_ n2_;clear ho hb hg hat))
  go_ret
  exact ⟨_,ze_,by (with_reducible repeat (first|apply Kd.N_alloc|apply Kd.N_drewN|apply Kd.N_drew));exact HO744.out,zb_⟩
 ·rw [if_neg c2] at H
  exact absurd H (by simp)
theorem api_MapPage_41.calls (P0_:Nat → Prop) (A0:Option Addr) (c0:Nat) (l0:List (S42)) (r:List (S42)) (w:World) (hs0:Kd.V k42 42 w w.heap.size (fun k_=>P0_ k_) (.slice A0 l0.length c0) l0) (h:api_MapPage_41.f l0=some r) :
  Calls Try.prog 41 #[.slice A0 l0.length c0] w fun e w'=>∃ v0_:Value,e=.returned (v0_)∧Kd.N k42 42 w' w.heap.size (fun k_=>(P0_ k_∨w.heap.size≤k_)) v0_ r∧Below w.heap.size w w':=by
 have hr0:=(Kd.V_reads' hs0).2.2
 have hc0:=(Kd.V_reads' hs0).2.1
 rcases A0 with _|a0
 ·have hl:l0=[]:=by
   rcases l0 with _|⟨x,l⟩
   ·rfl
   ·obtain ⟨ad,he,_⟩:=hr0.2.2 (by simp)
    cases he
  subst hl
  have hrr:r=[]:=by
   have h2:api_MapPage_41.f []=some []:=by first|decide|rfl|(simp [api_MapPage_41.f];done)
   rw [h2] at h
   exact (Option.some.inj h).symm
  subst hrr
  have HB:=zm (Below.refl w.heap.size w)
  clear h hr0 hc0 hs0
  have hq_:=Lib.run_eql_slice_nil (P:=Try.prog) w 43 42 none 0 c0 0 0 Try.underlying43
  go_enter Try.func41,Try.ntmps41
  go_wp2
  go_ret
  exact ⟨_,rfl,Kd.N_nil _ _ _ _ _,HB.out⟩
 ·exact api_MapPage_41.calls_some P0_ a0 c0 l0 r w hs0 h
end Go.Proofs.Ytkhbmgclklmimaa.Print
end
section
namespace Go.Proofs.Ytkhbmgclklmimaa.Print
open Go.RowKit Go.Proofs.YtkhbmgclklmimaaW.PrintWords Go.Proofs.YtkhbmgclklmimaaW.PrintLast Go.Proofs.YtkhbmgclklmimaaW.PrintMore
attribute [local go_sem] max2_int min2_int max_two min_two max_three min_three max_four min_four   -- for this text's walks alone
attribute [local go_sem ↓] Go.Proofs.Ytkhbmgclklmimaa.Sem.isSome_setCell
attribute [local go_sem] Go.Instr.field Go.asAgg
set_option linter.unusedVariables false
set_option linter.unusedSimpArgs false
-- CX
theorem mr_N_set {α:Type} {d:Kd α} {e g n cap base:Nat} {W:World} {ok:Nat → Prop} {xs:List α} {x:α} (h:Kd.N d e W base ok (.slice (some ⟨g,0,none⟩) n cap) xs) (i:Nat) (h1:i < n) {c:List Value} (hcl:c.length=d.sz) (hc1:∀ u ∈ c,u.oneCell'=true)
  (hf:Kd.FK d W (fun k=>ok k∧k≠g) x c):Kd.N d e (W.setCells g (i * d.sz) c) base ok (.slice (some ⟨g,0,none⟩) n cap) (xs.set i x)∧W.grownBy (W.setCells g (i * d.sz) c) (some g):=by
 have hn:=(Kd.N_reads' h).1
 obtain ⟨h0,rows,hl,hR,hfr⟩:=h
 obtain ⟨c0,hcl0,hM0,hcc0,_⟩:=Kd.R_elem hR [] (i:Int) (by omega) (by omega)
 have hs:=Kd.R_seg hR (i:Int) (by omega) (by omega) (c:=c0) (seg:=c) (j:=0) (okp:=fun k=>(some k=(Value.slice (some ⟨g,0,none⟩) n cap).ownBlock)∧k≠g) hcl0 hcc0 (by rw [hcl];exact Nat.le_of_eq (Nat.zero_add _)) (x':=c)
  (by
   have e1:c0.take 0 ++ c ++ c0.drop (0 + c.length)=c:=by rw [List.take_zero,List.nil_append,Nat.zero_add,List.drop_eq_nil_of_le (by rw [hcl0,hcl];exact Nat.le_refl _),List.append_nil]
   rw [e1]
   exact ⟨rfl,hcl,hc1⟩) (fun _ hk=>hk)
 rw [Int.toNat_natCast,Nat.add_zero] at hs
 have hs2:(Kd.raw d.sz).sz=d.sz:=rfl
 rw [hs2] at hs
 refine ⟨⟨h0,rows.set i c,by rw [List.length_set,List.length_set,hl],hs.1,fun j x' c' hx hc=>?_⟩,hs.2⟩
 have key:∀ y cy,Kd.FK d W (fun k=>ok k∧some k≠(Value.slice (some ⟨g,0,none⟩) n cap).ownBlock) y cy → Kd.FK d (W.setCells g (i * d.sz) c) (fun k=>ok k∧some k≠(Value.slice (some ⟨g,0,none⟩) n cap).ownBlock) y cy:=fun y cy hy =>
  Kd.FK_step hy (fun k hk hlt=>hs.2.block k hlt (fun he=>hk.2 (by rw [he];simp [Value.ownBlock])))
 by_cases hj:j=i
 ·subst hj
  rw [List.getElem?_set_self (by omega)] at hx hc
  obtain rfl:=Option.some.inj hx
  obtain rfl:=Option.some.inj hc
  exact key _ _ (Kd.FK_mono hf (fun k hk=>⟨hk.1,fun he=>hk.2 (by simpa [Value.ownBlock] using he)⟩))
 ·rw [List.getElem?_set_ne (by omega)] at hx hc
  exact key _ _ (hfr j x' c' hx hc)
theorem mr_ix {o:Oper} {a:Act} {W:World} {x y:Operand} {g n c i:Nat} (hop:o.op=.indexAddr 43 x y) (hx:a.eval x=.slice (some ⟨g,0,none⟩) n c) (hy:a.eval y=.int .i64 (i:Int)) (h:i < n) :
  (execOp a.eval o).run Try.prog W=.ok (.value (.pointer (some ⟨g,i * 7,none⟩))) W:=by
 have h0:(0:Int)≤(i:Int):=by omega
 have h1:(i:Int) < (n:Int):=by omega
 simp only [execOp,hop,hx,hy]
 go_simp
theorem mr_ld {o:Oper} {a:Act} {W:World} {x:Operand} {g j:Nat} {n0 n1 n2 n3:Int} {v4 v5 v6:Value} (hop:o.op=.load 42 x) (hx:a.eval x=.pointer (some ⟨g,j,none⟩))
  (hc:∀ t u,[.int .i64 n0,.int .i64 n1,.int .i64 n2,.int .i64 n3,v4,v5,v6][t]?=some u → W.cell? ⟨g,j + t,none⟩=some u) :
  (execOp a.eval o).run Try.prog W=.ok (.value (.agg #[.int .i64 n0,.int .i64 n1,.int .i64 n2,.int .i64 n3,v4,v5,v6])) W:=by
 have hu:=Try.underlying42
 have c0:W.cell? ⟨g,j,none⟩=some (.int .i64 n0):=hc 0 _ rfl
 have c1:=hc 1 _ rfl
 have c2:=hc 2 _ rfl
 have c3:=hc 3 _ rfl
 have c4:=hc 4 _ rfl
 have c5:=hc 5 _ rfl
 have c6:=hc 6 _ rfl
 simp only [execOp,hop,hx]
 go_simp
 done
theorem mr_st {o:Oper} {a:Act} {W:World} {x y:Operand} {g j:Nat} {n0 n1 n2 n3:Int} {A4 A5 A6:Option Addr} {m4 m5 m6 k4 k5 k6:Nat} (hop:o.op=.store 42 x y) (hx:a.eval x=.pointer (some ⟨g,j,none⟩))
  (hy:a.eval y=.agg #[.int .i64 n0,.int .i64 n1,.int .i64 n2,.int .i64 n3,.slice A4 m4 k4,.slice A5 m5 k5,.slice A6 m6 k6])
  (hc:∀ t,t < 7 → ∃ v,W.cell? ⟨g,j + t,none⟩=some v) (hf:∀ t,W.frozen? ⟨g,j + t,none⟩=false) :
  (execOp a.eval o).run Try.prog W=.ok .skip (W.setCells g j [.int .i64 n0,.int .i64 n1,.int .i64 n2,.int .i64 n3,.slice A4 m4 k4,.slice A5 m5 k5,.slice A6 m6 k6]):=by
 have hu:=Try.underlying42
 obtain ⟨x0,c0⟩:=hc 0 (by decide)
 obtain ⟨x1,c1⟩:=hc 1 (by decide)
 obtain ⟨x2,c2⟩:=hc 2 (by decide)
 obtain ⟨x3,c3⟩:=hc 3 (by decide)
 obtain ⟨x4,c4⟩:=hc 4 (by decide)
 obtain ⟨x5,c5⟩:=hc 5 (by decide)
 obtain ⟨x6,c6⟩:=hc 6 (by decide)
 have f0:=hf 0
 have f1:=hf 1
 have f2:=hf 2
 have f3:=hf 3
 have f4:=hf 4
 have f5:=hf 5
 have f6:=hf 6
 simp only [Nat.add_zero] at c0 f0
 simp only [execOp,hop,hx,hy]
 go_simp
 rfl
def mix {α:Type} (q:Nat) (l:List α):List α:=(l.reverse.take q) ++ ((l.drop q).take (l.length - 2 * q)) ++ (l.reverse.drop (l.length - q))
theorem mix_len {α:Type} {q:Nat} {l:List α} (h:2 * q≤l.length):(mix q l).length=l.length:=by
 unfold mix
 simp only [List.length_append,List.length_take,List.length_drop,List.length_reverse]
 omega
theorem mix_get {α:Type} {q:Nat} {l:List α} (h:2 * q≤l.length) (t:Nat) (ht:t < l.length):(mix q l)[t]?=if t < q∨l.length - 1 - t < q then l.reverse[t]? else l[t]?:=by
 unfold mix
 by_cases h1:t < q
 ·rw [if_pos (.inl h1),List.append_assoc,List.getElem?_append_left (by simp;omega),List.getElem?_take_of_lt h1]
 ·by_cases h2:l.length - 1 - t < q
  ·rw [if_pos (.inr h2),List.getElem?_append_right (by simp;omega),List.getElem?_drop]
   congr 1
   simp
   omega
  ·rw [if_neg (by omega),List.append_assoc,List.getElem?_append_right (by simp;omega),List.getElem?_append_left (by simp;omega),List.getElem?_take_of_lt (by simp;omega),List.getElem?_drop]
   congr 1
   simp
   omega
theorem mix_zero {α:Type} (l:List α):mix 0 l=l:=by
 unfold mix
 simp
theorem mix_end {α:Type} {q:Nat} {l:List α} (h:2 * q≤l.length) (h2:l.length≤2 * q + 1):mix q l=l.reverse:=by
 apply List.ext_getElem?
 intro t
 by_cases ht:t < l.length
 ·rw [mix_get h t ht]
  by_cases hc:t < q∨l.length - 1 - t < q
  ·rw [if_pos hc]
  ·rw [if_neg hc,List.getElem?_reverse ht]
   congr 1
   omega
 ·rw [List.getElem?_eq_none (by rw [mix_len h];omega),List.getElem?_eq_none (by simp;omega)]
theorem mix_next {α:Type} {q p:Nat} {l:List α} (hn:q + p + 1=l.length) (hlt:q < p) (z:α):mix (q + 1) l=((mix q l).set q ((mix q l).getD p z)).set p ((mix q l).getD q z):=by
 have hq:2 * q≤l.length:=by omega
 have hq1:2 * (q + 1)≤l.length:=by omega
 have gp:(mix q l).getD p z=l[p]'(by omega):=by
  rw [List.getD_eq_getElem?_getD,mix_get hq p (by omega),if_neg (by omega),List.getElem?_eq_getElem (by omega)]
  rfl
 have gq:(mix q l).getD q z=l[q]'(by omega):=by
  rw [List.getD_eq_getElem?_getD,mix_get hq q (by omega),if_neg (by omega),List.getElem?_eq_getElem (by omega)]
  rfl
 rw [gp,gq]
 apply List.ext_getElem?
 intro t
 by_cases ht:t < l.length
 ·rw [mix_get hq1 t ht]
  by_cases e1:t=p
  ·subst e1
   rw [List.getElem?_set_self (by rw [List.length_set,mix_len hq];exact ht),if_pos (by omega),List.getElem?_reverse ht,List.getElem?_eq_getElem (by omega)]
   congr 2
   omega
  ·rw [List.getElem?_set_ne (fun e=>e1 e.symm)]
   by_cases e2:t=q
   ·subst e2
    rw [List.getElem?_set_self (by rw [mix_len hq];exact ht),if_pos (by omega),List.getElem?_reverse ht,List.getElem?_eq_getElem (by omega)]
    congr 2
    omega
   ·rw [List.getElem?_set_ne (fun e=>e2 e.symm),mix_get hq t ht]
    by_cases hc:t < q∨l.length - 1 - t < q
    ·rw [if_pos hc,if_pos (by omega)]
    ·rw [if_neg hc,if_neg (by omega)]
 ·rw [List.getElem?_eq_none (by rw [mix_len hq1];omega),List.getElem?_eq_none (by rw [List.length_set,List.length_set,mix_len hq];omega)]
theorem mr_cells {g n cap base i:Nat} {W:World} {ok:Nat → Prop} {xs:List S42} (h:Kd.N k42 42 W base ok (.slice (some ⟨g,0,none⟩) n cap) xs) (hi:i < n):(∀ t,t < 7 → ∃ v,W.cell? ⟨g,i * 7 + t,none⟩=some v)∧∀ t,W.frozen? ⟨g,i * 7 + t,none⟩=false:=by
 obtain ⟨c,lc,_,r,z⟩:=Kd.N_elem h z42 (i:Int) (by omega) (by omega)
 rw [Int.toNat_natCast,show k42.sz=7 from rfl] at r z
 exact ⟨fun t ht=>⟨_,r t _ (List.getElem?_eq_getElem (by rw [lc];exact ht))⟩,z⟩
theorem mr_do {ops:Array Oper} {oi:Oper} {a:Act} {W:World} {K:Act → World → Prop} {Q:Exit → Act → World → Prop} {x y:Operand} {g i n cap base:Nat} {ok:Nat → Prop} {xs:List S42} {xx:S42} {A4 A5 A6:Option Addr} {k4 k5 k6:Nat}
  (hw:Region.wanted oi (yielded ops a.tmps)=true) (hN:oi.dst=none) (hop:oi.op=.store 42 x y) (hx:a.eval x=.pointer (some ⟨g,i * 7,none⟩)) (hy:a.eval y=.agg #[.int .i64 xx.f0,.int .i64 xx.f1,.int .i64 xx.f2,.int .i64 xx.f3,.slice A4 xx.f4.length k4,.slice A5 xx.f5.length k5,.slice A6 xx.f6.length k6])
  (h:Kd.N k42 42 W base ok (.slice (some ⟨g,0,none⟩) n cap) xs) (hi:i < n) (hf:Kd.FK k42 W (fun k=>ok k∧k≠g) xx [.int .i64 xx.f0,.int .i64 xx.f1,.int .i64 xx.f2,.int .i64 xx.f3,.slice A4 xx.f4.length k4,.slice A5 xx.f5.length k5,.slice A6 xx.f6.length k6])
  (hk:∀ W1,Kd.N k42 42 W1 base ok (.slice (some ⟨g,0,none⟩) n cap) (xs.set i xx) → W.grownBy W1 (some g) → K a W1):if Region.wanted oi (yielded ops a.tmps)=true then Oper.wp Try.prog oi a W K Q else K (a.put none undef) W:=by
 obtain ⟨hc,hz⟩:=mr_cells h hi
 have hs:=mr_N_set h i hi (c:=[.int .i64 xx.f0,.int .i64 xx.f1,.int .i64 xx.f2,.int .i64 xx.f3,.slice A4 xx.f4.length k4,.slice A5 xx.f5.length k5,.slice A6 xx.f6.length k6]) rfl (k42.K_one hf.now) hf
 exact skip_ hw hN (mr_st hop hx hy hc hz) (hk _ hs.1 hs.2)
theorem mr_w1 {q p:Nat} (h:q < p) (hp:p≤9223372036854775807):wrap64 ((q:Int) + 1)=((q + 1:Nat):Int):=by unfold wrap64;omega
theorem mr_w2 {p:Nat} (hp:p≤9223372036854775807):wrap64 ((p:Int) - 1)=(p:Int) - 1:=by unfold wrap64;omega
theorem mr_m {q n:Nat} (h:q < n):n - (intOf (.int .i64 ((q + 1:Nat):Int))).toNat < n - (intOf (.int .i64 (q:Int))).toNat:=by
 simp [intOf]
 omega
set_option maxHeartbeats 4000000 in
set_option maxRecDepth 100000 in
theorem api_MapPage_42.calls (ok:Nat → Prop) (A:Option Addr) (c:Nat) (l:List S42) (w0 w:World) (hB:Below w0.heap.size w0 w) (h:Kd.N k42 42 w w0.heap.size ok (.slice A l.length c) l) :
  Calls Try.prog 42 #[.slice A l.length c] w fun e w'=>e=.returned (.tuple #[])∧Kd.N k42 42 w' w0.heap.size ok (.slice A l.length c) l.reverse∧Below w0.heap.size w0 w':=by
 have hu42:=Try.underlying42
 have hu43:=Try.underlying43
 have hn:=(Kd.N_reads' h).2.2.2.1
 have hh_:=zm hB;clear hB;have hB:=hh_;clear hh_;have hh_:=zm h;clear h;have h:=hh_;clear hh_;have hh_:=zm hn;clear hn;have hn:=hh_;clear hh_
 have e0:=mr_w2 hn.out
 go_enter Try.func42,Try.ntmps42
 go_wp2
 rw [e0]
 go_loopw [2,3] (fun v i wr=>∃ q m:Nat,v=.int .i64 (q:Int)∧i=.int .i64 ((m:Int) - 1)∧Aside0 (q + m=l.length∧2 * q≤l.length)∧Aside0 (Kd.N k42 42 wr w0.heap.size ok (.slice A l.length c) (mix q l))∧Aside0 (Below w0.heap.size w0 wr)) (fun v _ _=>l.length - (intOf v).toNat)
 case atStart=>exact ⟨0,l.length,rfl,rfl,⟨by omega⟩,⟨by rw [mix_zero];exact h.out⟩,hB⟩
 case round =>
  obtain ⟨q,m,rfl,rfl,hq,hN,hbr⟩:=hrel
  by_cases hlt:(q:Int) < (m:Int) - 1
  ·have hd:decide ((q:Int) < (m:Int) - 1)=true:=decide_eq_true hlt
   obtain ⟨p,rfl⟩:∃ p,m=p + 1:=⟨m - 1,by omega⟩
   have ep:(((p + 1:Nat):Int) - 1)=(p:Int):=by omega
   rw [ep] at hd ⊢
   have hqp:q < p:=by omega
   have hql:q < l.length:=by have:=hq.out;omega
   have hpl:p < l.length:=by have:=hq.out;omega
   obtain ⟨g,cap,he,hge,hlg,_⟩:=Kd.N_form hN.out (by rw [mix_len hq.out.2];exact Nat.lt_of_le_of_lt (Nat.zero_le _) hql)
   injection he with he1 he2 he3
   subst he1
   clear he2 he3
   have wn:=mr_w1 hqp (Nat.le_trans (Nat.le_of_lt hpl) hn.out)
   have wp:=mr_w2 (p:=p) (Nat.le_trans (Nat.le_of_lt hpl) hn.out)
   have hqi:(q:Int) < (l.length:Int):=Int.ofNat_lt.mpr hql
   have hpi:(p:Int) < (l.length:Int):=Int.ofNat_lt.mpr hpl
   obtain ⟨cq,lcq,fq,rq,zq⟩:=Kd.N_elem hN.out z42 (q:Int) (Int.natCast_nonneg q) hqi
   obtain ⟨cp,lcp,fp,rp,zp⟩:=Kd.N_elem hN.out z42 (p:Int) (Int.natCast_nonneg p) hpi
   rw [Int.toNat_natCast] at fq rq fp rp
   clear lcq lcp zq zp hqi hpi
   obtain ⟨xq,hxq⟩:∃ x,x=(mix q l).getD q z42:=⟨_,rfl⟩
   obtain ⟨xp,hxp⟩:∃ x,x=(mix q l).getD p z42:=⟨_,rfl⟩
   rw [← hxq] at fq
   rw [← hxp] at fp
   have hmix:=mix_next (by have:=hq.out;omega) hqp z42 (l:=l)
   rw [← hxq,← hxp] at hmix
   clear hxq hxp
   obtain ⟨Aq4,cq4,Aq5,cq5,Aq6,cq6,rfl,_⟩:=k42_open fq.now
   obtain ⟨Ap4,cp4,Ap5,cp5,Ap6,cp6,rfl,_⟩:=k42_open fp.now
   have hsz:k42.sz=7:=rfl
   rw [hsz] at rq rp
   clear hsz
   go_wp2_with fail
   refine Cw.dstartD [13,15] (by as_aux_lemma=>kernel_rfl) rfl (fun wd hb=>?_)
   have rq2:∀ j u,_ → wd.cell? _=some u:=fun j u hj=>(hb.cell (World.block_lt_of_cell? _ _ (rq j u hj))).trans (rq j u hj)
   have rp2:∀ j u,_ → wd.cell? _=some u:=fun j u hj=>(hb.cell (World.block_lt_of_cell? _ _ (rp j u hj))).trans (rp j u hj)
   have fq2:=Kd.FK_step fq (fun k _ hlt=>hb.block k hlt)
   have fp2:=Kd.FK_step fp (fun k _ hlt=>hb.block k hlt)
   have hNd:=zm (Kd.N_below hN.out hb)
   have hbd:=zm (below_step hbr.out hb)
   clear fq fp rq rp hN hbr hb
   refine Cw.dpu (i:=0) (v:=?_) (a':=?_) (by simp only [List.getElem?_toArray,List.getElem?_cons_succ,List.getElem?_cons_zero];rfl) rfl (by as_aux_lemma=>kernel_rfl) (by rfl) (by exact fun _ _ _ h=>h) ?_ ?_ ?_
   rotate_left
   ·intro w'
    go_simp
    with_reducible rfl
   rotate_left
   ·simp only [Act.put,List.setIfInBounds_toArray,List.set_cons_zero,List.set_cons_succ,i64_w,i32_w]
    rfl
   refine Cw.dpu (i:=1) (v:=?_) (a':=?_) (by simp only [List.getElem?_toArray,List.getElem?_cons_succ,List.getElem?_cons_zero];rfl) rfl (by as_aux_lemma=>kernel_rfl) (by rfl) (by exact fun _ _ _ h=>h) ?_ ?_ ?_
   rotate_left
   ·intro w'
    go_simp
    with_reducible rfl
   rotate_left
   ·simp only [Act.put,List.setIfInBounds_toArray,List.set_cons_zero,List.set_cons_succ,i64_w,i32_w]
    rfl
   refine Cw.dpu (i:=2) (v:=?_) (a':=?_) (by simp only [List.getElem?_toArray,List.getElem?_cons_succ,List.getElem?_cons_zero];rfl) rfl (by as_aux_lemma=>kernel_rfl) (by rfl) (by exact fun _ _ _ h=>h) ?_ ?_ ?_
   rotate_left
   ·intro w'
    go_simp
    with_reducible rfl
   rotate_left
   ·simp only [Act.put,List.setIfInBounds_toArray,List.set_cons_zero,List.set_cons_succ,i64_w,i32_w]
    rfl
   refine Cw.dpu (i:=3) (v:=?_) (a':=?_) (by simp only [List.getElem?_toArray,List.getElem?_cons_succ,List.getElem?_cons_zero];rfl) rfl (by as_aux_lemma=>kernel_rfl) (by rfl) (by exact fun _ _ _ h=>h) ?_ ?_ ?_
   rotate_left
   ·intro w'
    go_simp
    with_reducible rfl
   rotate_left
   ·simp only [Act.put,List.setIfInBounds_toArray,List.set_cons_zero,List.set_cons_succ,i64_w,i32_w]
    rfl
   refine Cw.dpu (i:=4) (v:=?_) (a':=?_) (by simp only [List.getElem?_toArray,List.getElem?_cons_succ,List.getElem?_cons_zero];rfl) rfl (by as_aux_lemma=>kernel_rfl) (by rfl) (by exact fun _ _ _ h=>h) ?_ ?_ ?_
   rotate_left
   ·intro w'
    go_simp
    with_reducible rfl
   rotate_left
   ·simp only [Act.put,List.setIfInBounds_toArray,List.set_cons_zero,List.set_cons_succ,i64_w,i32_w]
    rfl
   refine Cw.dpu (i:=5) (v:=?_) (a':=?_) (by simp only [List.getElem?_toArray,List.getElem?_cons_succ,List.getElem?_cons_zero];rfl) rfl (by as_aux_lemma=>kernel_rfl) (by rfl) (by exact fun _ _ _ h=>h) ?_ ?_ ?_
   rotate_left
   ·intro w'
    go_simp
    with_reducible rfl
   rotate_left
   ·simp only [Act.put,List.setIfInBounds_toArray,List.set_cons_zero,List.set_cons_succ,i64_w,i32_w]
    rfl
   refine Cw.dpu (i:=6) (v:=?_) (a':=?_) (by simp only [List.getElem?_toArray,List.getElem?_cons_succ,List.getElem?_cons_zero];rfl) rfl (by as_aux_lemma=>kernel_rfl) (by rfl) (by exact fun _ _ _ h=>h) ?_ ?_ ?_
   rotate_left
   ·intro w'
    apply Eq.trans
    ·apply mr_ix
     ·rfl
     ·rfl
     ·rfl
     ·exact hpl
    ·rfl
   rotate_left
   ·simp only [Act.put,List.setIfInBounds_toArray,List.set_cons_zero,List.set_cons_succ,i64_w,i32_w]
    rfl
   refine Cw.dtkD (i:=7) (v:=?_) (a':=?_) (by simp only [List.getElem?_toArray,List.getElem?_cons_succ,List.getElem?_cons_zero];rfl) rfl (by as_aux_lemma=>kernel_rfl) (by rfl) (by exact fun _ _ _ h=>h) ?_ (by repeat (first|exact Below.refl _ _|with_reducible apply zlN|with_reducible apply zlA|refine below_step ?_ (Aside0.out (by assumption)))) ?_ ?_
   rotate_left
   ·intro w' hs_
    have hs:=zm hs_
    clear hs_
    apply Eq.trans
    ·apply mr_ld
     ·rfl
     ·rfl
     ·exact fun t u ht=>(Below.cell hs.out (World.block_lt_of_cell? _ _ (rp2 t u ht))).trans (rp2 t u ht)
    ·rfl
   rotate_left
   ·simp only [Act.put,List.setIfInBounds_toArray,List.set_cons_zero,List.set_cons_succ,i64_w,i32_w]
    rfl
   refine Cw.dpu (i:=8) (v:=?_) (a':=?_) (by simp only [List.getElem?_toArray,List.getElem?_cons_succ,List.getElem?_cons_zero];rfl) rfl (by as_aux_lemma=>kernel_rfl) (by rfl) (by exact fun _ _ _ h=>h) ?_ ?_ ?_
   rotate_left
   ·intro w'
    go_simp
    with_reducible rfl
   rotate_left
   ·simp only [Act.put,List.setIfInBounds_toArray,List.set_cons_zero,List.set_cons_succ,i64_w,i32_w]
    rfl
   refine Cw.dpu (i:=9) (v:=?_) (a':=?_) (by simp only [List.getElem?_toArray,List.getElem?_cons_succ,List.getElem?_cons_zero];rfl) rfl (by as_aux_lemma=>kernel_rfl) (by rfl) (by exact fun _ _ _ h=>h) ?_ ?_ ?_
   rotate_left
   ·intro w'
    go_simp
    with_reducible rfl
   rotate_left
   ·simp only [Act.put,List.setIfInBounds_toArray,List.set_cons_zero,List.set_cons_succ,i64_w,i32_w]
    rfl
   refine Cw.dpu (i:=10) (v:=?_) (a':=?_) (by simp only [List.getElem?_toArray,List.getElem?_cons_succ,List.getElem?_cons_zero];rfl) rfl (by as_aux_lemma=>kernel_rfl) (by rfl) (by exact fun _ _ _ h=>h) ?_ ?_ ?_
   rotate_left
   ·intro w'
    apply Eq.trans
    ·apply mr_ix
     ·rfl
     ·rfl
     ·rfl
     ·exact hql
    ·rfl
   rotate_left
   ·simp only [Act.put,List.setIfInBounds_toArray,List.set_cons_zero,List.set_cons_succ,i64_w,i32_w]
    rfl
   refine Cw.dtkD (i:=11) (v:=?_) (a':=?_) (by simp only [List.getElem?_toArray,List.getElem?_cons_succ,List.getElem?_cons_zero];rfl) rfl (by as_aux_lemma=>kernel_rfl) (by rfl) (by exact fun _ _ _ h=>h) ?_ (by repeat (first|exact Below.refl _ _|with_reducible apply zlN|with_reducible apply zlA|refine below_step ?_ (Aside0.out (by assumption)))) ?_ ?_
   rotate_left
   ·intro w' hs_
    have hs:=zm hs_
    clear hs_
    apply Eq.trans
    ·apply mr_ld
     ·rfl
     ·rfl
     ·exact fun t u ht=>(Below.cell hs.out (World.block_lt_of_cell? _ _ (rq2 t u ht))).trans (rq2 t u ht)
    ·rfl
   rotate_left
   ·simp only [Act.put,List.setIfInBounds_toArray,List.set_cons_zero,List.set_cons_succ,i64_w,i32_w]
    rfl
   refine Cw.dpu (i:=12) (v:=?_) (a':=?_) (by simp only [List.getElem?_toArray,List.getElem?_cons_succ,List.getElem?_cons_zero];rfl) rfl (by as_aux_lemma=>kernel_rfl) (by rfl) (by exact fun _ _ _ h=>h) ?_ ?_ ?_
   rotate_left
   ·intro w'
    apply Eq.trans
    ·apply mr_ix
     ·rfl
     ·rfl
     ·rfl
     ·exact hql
    ·rfl
   rotate_left
   ·simp only [Act.put,List.setIfInBounds_toArray,List.set_cons_zero,List.set_cons_succ,i64_w,i32_w]
    rfl
   refine Cw.lastD (i:=13) (N:=none) (by simp only [List.getElem?_toArray,List.getElem?_cons_succ,List.getElem?_cons_zero];rfl) rfl (by as_aux_lemma=>kernel_rfl) (by decide) (fun K hK=>?_)
   refine mr_do rfl rfl rfl rfl rfl hNd.out hql fp2 (fun w1 hN1 hg1=>?_)
   refine hK.out _ _ ?_
   clear hK K
   have fq3:=Kd.FK_step fq2 (fun k hk hlt=>hg1.block k hlt (fun e=>hk.2 (Option.some.inj e)))
   have hb1:=hbd.out.grown hg1 (below_size hbd.out) (fun k hk=>by rw [← Option.some.inj hk];exact hge)
   have hh_:=zm hN1;clear hN1;have hN1:=hh_;clear hh_
   have hh_:=zm hb1;clear hb1;have hb1:=hh_;clear hh_
   clear hg1 fq2 fp2 hNd
   refine Cw.dpu (i:=14) (v:=?_) (a':=?_) (by simp only [List.getElem?_toArray,List.getElem?_cons_succ,List.getElem?_cons_zero];rfl) rfl (by as_aux_lemma=>kernel_rfl) (by rfl) (by exact fun _ _ _ h=>h) ?_ ?_ ?_
   rotate_left
   ·intro w'
    apply Eq.trans
    ·apply mr_ix
     ·rfl
     ·rfl
     ·rfl
     ·exact hpl
    ·rfl
   rotate_left
   ·simp only [Act.put,List.setIfInBounds_toArray,List.set_cons_zero,List.set_cons_succ,i64_w,i32_w]
    rfl
   refine Cw.lastD (i:=15) (N:=none) (by simp only [List.getElem?_toArray,List.getElem?_cons_succ,List.getElem?_cons_zero];rfl) rfl (by as_aux_lemma=>kernel_rfl) (by decide) (fun K hK=>?_)
   refine mr_do rfl rfl rfl rfl rfl hN1.out hpl fq3 (fun w2 hN2 hg2=>?_)
   refine hK.out _ _ ?_
   clear hK K
   have hb2:=hb1.out.grown hg2 (below_size hb1.out) (fun k hk=>by rw [← Option.some.inj hk];exact hge)
   rw [← hmix] at hN2
   have hh_:=zm hN2;clear hN2;have hN2:=hh_;clear hh_
   have hh_:=zm hb2;clear hb2;have hb2:=hh_;clear hh_
   refine zdo ?_
   go_wp2
   go_roundw
   case rel=>exact ⟨q + 1,p,by first|rfl|rw [wn],by first|rfl|rw [wp],⟨by have:=hq.out;omega⟩,hN2,hb2⟩
   case measure=>first|exact mr_m hql|(rw [wn];exact mr_m hql)
  ·have hd:decide ((q:Int) < (m:Int) - 1)=false:=decide_eq_false hlt
   rw [mix_end hq.out.2 (by have:=hq.out;omega)] at hN
   go_wp2
   first|go_end0|((try simp only [Exit.inBlock,Exit.then]);refine bodyPost_ret (results_none rfl _ _ _) rfl ?_)
   exact ⟨rfl,hN.out,hbr.out⟩
end Go.Proofs.Ytkhbmgclklmimaa.Print
end
section
namespace Go.Proofs.Ytkhbmgclklmimaa.Print
open Go.RowKit Go.Proofs.YtkhbmgclklmimaaW.PrintWords Go.Proofs.YtkhbmgclklmimaaW.PrintLast Go.Proofs.YtkhbmgclklmimaaW.PrintMore
attribute [local go_sem] max2_int min2_int max_two min_two max_three min_three max_four min_four   -- for this text's walks alone
attribute [local go_sem ↓] Go.Proofs.Ytkhbmgclklmimaa.Sem.isSome_setCell
attribute [local go_sem] Go.Instr.field Go.asAgg
set_option linter.unusedVariables false
set_option linter.unusedSimpArgs false
def api_MapPage_75.f (l0:List (S42)) (a1:Int):Option ((List (S42))):=if a1 < 0 then (none) else (if (wrap64 (a1)) > 0 then (if 0≤(wrap64 (a1)) then (if ([]:List (S42)).length + (wrap64 (a1):Int).toNat < 1353245080339 then ((some (([]:List (S42)) ++ List.replicate (wrap64 (a1):Int).toNat z42:List (S42))).bind fun y745=>(if 0≤(y745.length:Int) then (some (y745.take (0:Int).toNat)) else (none))) else (none)) else (none)) else (some ([]:List (S42))))
set_option maxHeartbeats 8000000 in
set_option maxRecDepth 100000 in
theorem api_MapPage_75.calls (A0:Option Addr) (c0:Nat) (l0:List (S42)) (a1:Int) (r:List (S42)) (w:World) (hr0:Kd.C k42 w A0 l0.length l0) (hc0:l0.length≤c0) (h:api_MapPage_75.f l0 a1=some r) :
  Calls Try.prog 75 #[.slice none 0 0,.int .i64 a1] w fun e w'=>∃ v0_:Value,e=.returned (v0_)∧Kd.S k42 42 w' w.heap.size (fun _=>True) v0_ r∧Below w.heap.size w w':=by
 have HR0:=zm hr0
 have HC0:=zm hc0
 clear hr0 hc0
 have HB:=zm (Below.refl w.heap.size w)
 have H:(if a1 < 0 then (none) else (if (wrap64 (a1)) > 0 then (if 0≤(wrap64 (a1)) then (if ([]:List (S42)).length + (wrap64 (a1):Int).toNat < 1353245080339 then ((some (([]:List (S42)) ++ List.replicate (wrap64 (a1):Int).toNat z42:List (S42))).bind fun y745=>(if 0≤(y745.length:Int) then (some (y745.take (0:Int).toNat)) else (none))) else (none)) else (none)) else (some ([]:List (S42)))))=some r:=h
 clear h
 by_cases c3:a1 < 0
 ·rw [if_pos c3] at H
  exact absurd H (by simp)
 ·rw [if_neg c3] at H
  have c3b0:decide (a1 < 0)=false:=decide_eq_false c3
  clear c3
  by_cases c4:(wrap64 (a1)) > 0
  ·rw [if_pos c4] at H
   have c4b0:decide (0 < (wrap64 (a1)))=true:=decide_eq_true c4
   clear c4
   obtain ⟨ji5,hji5⟩:∃ j_:Int,(wrap64 (a1))=j_:=⟨_,rfl⟩
   replace H:(if 0≤(ji5) then (if ([]:List (S42)).length + (ji5:Int).toNat < 1353245080339 then ((some (([]:List (S42)) ++ List.replicate (ji5:Int).toNat z42:List (S42))).bind fun y745=>(if 0≤(y745.length:Int) then (some (y745.take (0:Int).toNat)) else (none))) else (none)) else (none))=some r:=by first|(rw [hji5] at H;exact H)|(simp only [hji5] at H ⊢;exact H)
   (try rw [hji5] at c4b0)
   have hji5w:(IntKind.i64.wrap (a1))=ji5:=(i64_w _).trans hji5
   by_cases c6:0≤(ji5)
   ·rw [if_pos c6] at H
    have c6b0:=eq_true c6
    have c6b1:decide (0≤(ji5))=true:=decide_eq_true c6
    clear c6
    by_cases c7:([]:List (S42)).length + (ji5:Int).toNat < 1353245080339
    ·rw [if_pos c7] at H
     have LMc7:=zm c7
     clear c7
     obtain ⟨y745,hy745⟩:∃ y_:List (S42),y_=(([]:List (S42)) ++ List.replicate (ji5:Int).toNat z42):=⟨_,rfl⟩
     replace H:(if 0≤(y745.length:Int) then (some (y745.take (0:Int).toNat)) else (none))=some r:=by first|(rw [hy745];with_reducible exact H)|(have H2_:=(Option.bind_some _ _).symm.trans H;rw [hy745];with_reducible exact H2_)|(have H2_:=(Option.bind_some _ _).symm.trans H;with_reducible exact H2_)|with_reducible exact H|(rw [hy745];exact H)|exact H
     have Ny745:=zm hy745
     clear hy745
     by_cases c8:0≤(y745.length:Int)
     ·rw [if_pos c8] at H
      have c8b0:=eq_true c8
      have c8b1:decide (0≤(y745.length:Int))=true:=decide_eq_true c8
      clear c8
      obtain ⟨y748,hy748⟩:∃ y_:List (S42),y_=(y745.take (0:Int).toNat):=⟨_,rfl⟩
      replace H:(some y748)=some r:=by first|(rw [hy748];with_reducible exact H)|(have H2_:=(Option.bind_some _ _).symm.trans H;rw [hy748];with_reducible exact H2_)|(have H2_:=(Option.bind_some _ _).symm.trans H;with_reducible exact H2_)|with_reducible exact H|(rw [hy748];exact H)|exact H
      have Ny748:=zm hy748
      clear hy748
      obtain rfl:=Option.some.inj H
      go_enter Try.func75,Try.ntmps75
      go_wp2_with (first|(at_builtin;refine Kd.S_append_zeros k42 (w0:=w) w.heap.size rfl (.tmp 20) (.tmp 21) 43 3 42 (.agg #[(.int .i64 0),(.int .i64 0),(.int .i64 0),(.int .i64 0),(.slice none 0 0),(.slice none 0 0),(.slice none 0 0)]) 104 rfl Try.underlying43 Try.underlying3 info42 rfl (by decide) (by omega) (.slice none 0 0) ([]:List (S42)) z42 (ji5:Int) (fun _=>True) rfl rfl (k42_mkM _ _ _ z42 (Kd.R_nil _ _ _ _ _) (Kd.R_nil _ _ _ _ _) (Kd.R_nil _ _ _ _ _)) ?aF ?aO (za_) ?aB ?aS ?aL ?_;(case aB=>exact (zb_));(case aF=>exact (fun _ _=>trivial));(case aO=>exact ((Kd.S_nil _ _ _ _ _)));(case aS=>exact (below_size (zb_)));(case aL=>have:=LMc7.out;omega);intro v746 w9 ho hb hg hat;rw [← Ny745.out] at ho;have n0_:=zm (hb);have n1_:=zm (ho);clear HB;have HB:=n0_;have HO747:=n1_;clear n0_ n1_;clear ho hb hg hat;obtain ⟨Ao10,co10,eo10⟩:=Kd.S_slice HO747.out;subst eo10;have q11:(0:Int)≤((y745.length:Int):Int):=za_;obtain ⟨i011,hi011,_,hsz11,_⟩:=info_parts info42;have hcut11:=cut_to (P:=Try.prog) 43 42 .i64 Try.underlying43 hi011 Ao10 y745.length co10 0 (by omega) q11 (Kd.S_reads' HO747.out).2.1;have hr11:=Kd.S_take (m:=(0:Int).toNat) HO747.out (by omega);have hy11:y748.length=(0:Int).toNat:=(by rw [Ny748.out,List.length_take];omega);rw [← Ny748.out] at hr11;rw [← hy11] at hr11 hcut11;clear hy11 hi011 hsz11 HO747;have HO750:=zm hr11;clear hr11;replace q11:=eq_true q11))
      go_ret
      exact ⟨_,by first|rfl|(simp [errW_none,errW_some] <;> rfl)|(simp only [← hji5];first|rfl|(simp [errW_none,errW_some] <;> rfl))|(simp [*,errW_none,errW_some] <;> rfl),by (with_reducible repeat (first|apply Kd.S_alloc|apply Kd.S_drewN|apply Kd.S_drew));exact HO750.out,zb_⟩
     ·rw [if_neg c8] at H
      exact absurd H (by simp)
    ·rw [if_neg c7] at H
     exact absurd H (by simp)
   ·rw [if_neg c6] at H
    exact absurd H (by simp)
  ·rw [if_neg c4] at H
   have c4b0:decide (0 < (wrap64 (a1)))=false:=decide_eq_false c4
   clear c4
   obtain rfl:=Option.some.inj H
   go_enter Try.func75,Try.ntmps75
   go_wp2
   go_ret
   exact ⟨_,ze_,by first|exact Kd.S_nil _ _ _ _ _|exact Kd.N_nil _ _ _ _ _|exact Kd.V_nil _ _ _ _ _|exact Kd.Q_nil _ _ _ _ _|exact Kd.R_nil _ _ _ _ _,zb_⟩
mutual
def api_MapPage_43.l0:Nat → List (List (S42)) → Int → List (List (S42)) → Int → Int → Option ((List (S42)))
 | 0,_,_,_,_,_=>none
 | k + 1,x0,x3,x9,x10,x11=>if x11 < x10 then (if 0≤x11 then (if x11 < (x9.length:Int) then (if (wrap64 (x3 + ((rd_L8 x9 x11).length:Int))) < 0 then (none) else (api_MapPage_43.l0 k x0 (wrap64 (x3 + ((rd_L8 x9 x11).length:Int))) x9 x10 (wrap64 (x11 + 1)))) else (none)) else (none)) else ((api_MapPage_75.f ([]:List (S42)) x3).bind fun t752=>(api_MapPage_43.l1 k t752 x0 (x0.length:Int) 0))
def api_MapPage_43.l1:Nat → List (S42) → List (List (S42)) → Int → Int → Option ((List (S42)))
 | 0,_,_,_,_=>none
 | k + 1,x6,x25,x26,x27=>if x27 < x26 then (if 0≤x27 then (if x27 < (x25.length:Int) then (if x6.length + (rd_L8 x25 x27).length < 1353245080339 then (api_MapPage_43.l1 k (x6 ++ (rd_L8 x25 x27)) x25 x26 (wrap64 (x27 + 1))) else (none)) else (none)) else (none)) else (some x6)
end
def api_MapPage_43.f (k:Nat) (l0:List (List (S42))):Option ((List (S42))):=api_MapPage_43.l0 k l0 0 l0 (l0.length:Int) 0
theorem api_MapPage_43.mono_l:∀ k,(∀ y0 y1 y2 y3 y4,LeO (api_MapPage_43.l0 k y0 y1 y2 y3 y4) (api_MapPage_43.l0 (k + 1) y0 y1 y2 y3 y4))∧(∀ y0 y1 y2 y3,LeO (api_MapPage_43.l1 k y0 y1 y2 y3) (api_MapPage_43.l1 (k + 1) y0 y1 y2 y3))
 | 0=>⟨fun _ _ _ _ _ r h=>by simp [api_MapPage_43.l0] at h,fun _ _ _ _ r h=>by simp [api_MapPage_43.l1] at h⟩
 | k + 1=>by
  obtain ⟨ih0,ih1⟩:=api_MapPage_43.mono_l k
  refine ⟨?_,?_⟩
  ·intro y0 y1 y2 y3 y4
   unfold api_MapPage_43.l0
   repeat' first
   | (with_reducible exact ih0 _ _ _ _ _)
   | (with_reducible exact ih1 _ _ _ _)
   | (with_reducible exact LeO.refl _)
   | (with_reducible exact LeO.none _)
   | (with_reducible refine LeO.ite ?_ ?_)
   | (with_reducible refine LeO.bind ?_ (fun _=>?_))
   | exact ih0 _ _ _ _ _
   | exact ih1 _ _ _ _
   | exact LeO.none _
   | refine LeO.ite ?_ ?_
   | refine LeO.bind ?_ (fun _=>?_)
  ·intro y0 y1 y2 y3
   unfold api_MapPage_43.l1
   repeat' first
   | (with_reducible exact ih0 _ _ _ _ _)
   | (with_reducible exact ih1 _ _ _ _)
   | (with_reducible exact LeO.refl _)
   | (with_reducible exact LeO.none _)
   | (with_reducible refine LeO.ite ?_ ?_)
   | (with_reducible refine LeO.bind ?_ (fun _=>?_))
   | exact ih0 _ _ _ _ _
   | exact ih1 _ _ _ _
   | exact LeO.none _
   | refine LeO.ite ?_ ?_
   | refine LeO.bind ?_ (fun _=>?_)
theorem api_MapPage_43.mono:∀ a0 k,LeO (api_MapPage_43.f k a0) (api_MapPage_43.f (k + 1) a0):=by
 intro a0 k
 obtain ⟨ih0,ih1⟩:=api_MapPage_43.mono_l k
 unfold api_MapPage_43.f
 repeat' first
   | (with_reducible exact ih0 _ _ _ _ _)
   | (with_reducible exact ih1 _ _ _ _)
   | (with_reducible exact LeO.refl _)
   | (with_reducible exact LeO.none _)
   | (with_reducible refine LeO.ite ?_ ?_)
   | (with_reducible refine LeO.bind ?_ (fun _=>?_))
   | exact ih0 _ _ _ _ _
   | exact ih1 _ _ _ _
   | exact LeO.none _
   | refine LeO.ite ?_ ?_
   | refine LeO.bind ?_ (fun _=>?_)
set_option maxHeartbeats 8000000 in
set_option maxRecDepth 100000 in
theorem api_MapPage_43.calls (k:Nat) (P0_:Nat → Prop) (A0:Option Addr) (c0:Nat) (l0:List (List (S42))) (r:List (S42)) (w:World) (hs0:Kd.V (Kd.slice 42 k42) 43 w w.heap.size (fun k_=>P0_ k_) (.slice A0 l0.length c0) l0) (h:api_MapPage_43.f k l0=some r) :
  Calls Try.prog 43 #[.slice A0 l0.length c0] w fun e w'=>∃ v0_:Value,e=.returned (v0_)∧Kd.N k42 42 w' w.heap.size (fun k_=>(P0_ k_∨w.heap.size≤k_)) v0_ r∧Below w.heap.size w w':=by
 have HO0:=zm (show Kd.V (Kd.slice 42 k42) 43 w w.heap.size (fun k_=>(P0_ k_∨w.heap.size≤k_)) (.slice A0 l0.length c0) l0 from Kd.V_mono hs0 (fun k_ hk=>.inl hk))
 have HB:=zm (Below.refl w.heap.size w)
 have H:(api_MapPage_43.l0 k l0 0 l0 (l0.length:Int) 0)=some r:=h
 clear h
 have H':=zm H
 clear H
 go_enter Try.func43,Try.ntmps43
 go_wp2
 go_loopg [3,11] k (fun kq v3 v11 w'=>∃ (x3_1:Int) (x11_1:Int),v3=.int .i64 x3_1∧v11=.int .i64 x11_1∧Aside0 (api_MapPage_43.l0 kq l0 x3_1 l0 (l0.length:Int) x11_1=some r)∧Aside0 (kq≤k)∧Aside0 (Kd.V (Kd.slice 42 k42) 43 w' w.heap.size (fun k_=>(P0_ k_∨w.heap.size≤k_)) (.slice A0 l0.length c0) l0)∧Aside0 (Kd.V (Kd.slice 42 k42) 43 w' w.heap.size (fun k_=>(P0_ k_∨w.heap.size≤k_)) (.slice A0 l0.length c0) l0)∧Aside0 (Below w.heap.size w w'))
 case atStart=>exact ⟨(0),(0),zs_,zs_,H',⟨Nat.le_refl _⟩,⟨by (with_reducible repeat (first|apply Kd.V_alloc|apply Kd.V_drewN|apply Kd.V_drew));exact HO0.out⟩,⟨by (with_reducible repeat (first|apply Kd.V_alloc|apply Kd.V_drewN|apply Kd.V_drew));exact HO0.out⟩,⟨zb_⟩⟩
 case round =>
  clear H'
  obtain ⟨x3_1,x11_1,rfl,rfl,HA,HK1,HO_0,HO_9,HB⟩:=hrel
  cases gk with
  | zero=>exact absurd HA.out (by simp [api_MapPage_43.l0])
  | succ k1 =>
   have H:=HA.out
   clear HA
   simp only [api_MapPage_43.l0] at H
   by_cases c2:x11_1 < (l0.length:Int)
   ·rw [if_pos c2] at H
    have c2b0:decide (x11_1 < (l0.length:Int))=true:=decide_eq_true c2
    clear c2
    by_cases c3:0≤x11_1
    ·rw [if_pos c3] at H
     have c3b0:decide (0≤x11_1)=true:=decide_eq_true c3
     clear c3
     by_cases c4:x11_1 < (l0.length:Int)
     ·rw [if_pos c4] at H
      have c4b0:decide (x11_1 < (l0.length:Int))=true:=decide_eq_true c4
      clear c4
      by_cases c5:(wrap64 (x3_1 + ((rd_L8 l0 x11_1).length:Int))) < 0
      ·rw [if_pos c5] at H
       exact absurd H (by simp)
      ·rw [if_neg c5] at H
       have c5b0:decide ((wrap64 (x3_1 + ((rd_L8 l0 x11_1).length:Int))) < 0)=false:=decide_eq_false c5
       clear c5
       have H':=zm H
       clear H
       have p751:0≤(x11_1:Int):=za_
       have q751:x11_1 < (l0.length:Int):=za_
       obtain ⟨ad751,A751_0,c751_0,e751,hx751_0,hl751_0,hi751_0⟩:=at_L8 (Kd.V_reads' HO_9.out).2.2 x11_1 p751 q751
       cases e751
       obtain ⟨ce751,hce751,hMe751,hcc751⟩:=Kd.V_get HO_9.out [] x11_1 p751 (by first|exact q751|exact za_|(have e_:=(Kd.V_reads' HO_9.out).1;omega))
       obtain ⟨ua751_0,uc751_0,rfl,ul751_0,ge751_0⟩:=Kd.FK_slice_open hMe751
       have hv751_0:=hcc751 0 _ rfl
       rw [Nat.add_zero,show ((Kd.slice 42 k42)).sz=1 from rfl,Nat.mul_one] at hv751_0
       replace hv751_0:=Option.some.inj (hv751_0.symm.trans hx751_0)
       injection hv751_0 with hva_ hvn_ hvc_
       rw [hva_] at ge751_0
       rw [hvc_] at ul751_0
       have HL751_0:=zm (show Kd.V k42 42 _ w.heap.size _ _ (rd_L8 l0 x11_1) from Kd.V_mk ul751_0 ge751_0)
       clear hva_ hvn_ hvc_ ge751_0 ul751_0 hcc751 hce751
       have HR751_0:=zm hi751_0
       have HC751_0:=zm hl751_0
       clear hi751_0 hl751_0
       replace p751:=eq_true p751
       replace q751:=eq_true q751
       go_wp2
       go_roundg k1
       case measure=>have:=HK1.out;omega
       case rel=>exact ⟨(wrap64 (x3_1 + ((rd_L8 l0 x11_1).length:Int))),(wrap64 (x11_1 + 1)),zs_,zs_,H',⟨by have:=HK1.out;omega⟩,⟨by (with_reducible repeat (first|apply Kd.V_alloc|apply Kd.V_drewN|apply Kd.V_drew));exact HO_0.out⟩,⟨by (with_reducible repeat (first|apply Kd.V_alloc|apply Kd.V_drewN|apply Kd.V_drew));exact HO_9.out⟩,⟨zb_⟩⟩
     ·rw [if_neg c4] at H
      exact absurd H (by simp)
    ·rw [if_neg c3] at H
     exact absurd H (by simp)
   ·rw [if_neg c2] at H
    have c2b0:decide (x11_1 < (l0.length:Int))=false:=decide_eq_false c2
    clear c2
    replace H:=Option.bind_eq_some_iff.mp H
    obtain ⟨t752,A60,H⟩:=H
    replace H:(api_MapPage_43.l1 k1 t752 l0 (l0.length:Int) 0)=some r:=H
    have A6:=zm A60
    clear A60
    have H':=zm H
    clear H
    go_wp2_with (first|((with_reducible refine gate_callee (f:=75) rfl ?_);refine goesL_ (some 24) rfl rfl Try.func75 (by kernel_rfl) rfl #[.slice none 0 0,.int .i64 x3_1] rfl (by (try simp only [List.map_toArray,List.map_cons,List.map_nil]);first|done|rfl|(simp only [List.length_drop,List.length_take];rfl)) ?_;(refine (api_MapPage_75.calls none 0 ([]:List (S42)) x3_1 t752 _ ?side1 ?side2 A6.out).mono ?_);(case side1=>exact Kd.C_nil _ _);(case side2=>exact Nat.le_refl _);rintro e w7 ⟨v753,rfl,ho0,hb⟩;refine ⟨_,rfl,?_⟩;have n0_:=zm (Kd.V_elder' (by (with_reducible repeat (first|apply Kd.V_alloc|apply Kd.V_drewN|apply Kd.V_drew));exact HO_0.out) (by first|exact Kd.N_base ho0|exact Kd.N_base (Kd.S_N ho0)) hb);have n1_:=zm (Kd.V_elder' (by (with_reducible repeat (first|apply Kd.V_alloc|apply Kd.V_drewN|apply Kd.V_drew));exact HO_9.out) (by first|exact Kd.N_base ho0|exact Kd.N_base (Kd.S_N ho0)) hb);have n2_:=zm (Kd.N_lower (Kd.N_mono (ok':=fun k_=>(P0_ k_∨w.heap.size≤k_)) (Kd.S_N (Kd.S_bound ho0)) (fun k_ hk_=>(.inr (Nat.le_trans (below_size (zb_)) hk_.2.1)))) (below_size (zb_)));have n3_:=zkH HB hb;clear HO_0 HO_9 HB;have HO_0:=n0_;have HO_9:=n1_;have HO754:=n2_;have HB:=n3_;clear n0_ n1_ n2_ n3_;(try clear hb);(try clear hb2);(try clear hk);(try clear hi);(try clear ho0)))
    go_loopg [6,27] k1 (fun kq v6 v27 w'=>∃ (x6_2:List (S42)) (x27_2:Int),v27=.int .i64 x27_2∧Aside0 (api_MapPage_43.l1 kq x6_2 l0 (l0.length:Int) x27_2=some r)∧Aside0 (kq≤k1)∧Aside0 (Kd.N k42 42 w' w.heap.size (fun k_=>(P0_ k_∨w.heap.size≤k_)) v6 x6_2)∧Aside0 (Kd.V (Kd.slice 42 k42) 43 w' w.heap.size (fun k_=>(P0_ k_∨w.heap.size≤k_)∧some k_≠(v6:Value).ownBlock) (.slice A0 l0.length c0) l0)∧Aside0 (Below w.heap.size w w'))
    case atStart=>exact ⟨(t752),(0),zs_,H',⟨Nat.le_refl _⟩,⟨by (with_reducible repeat (first|apply Kd.N_alloc|apply Kd.N_drewN|apply Kd.N_drew));exact HO754.out⟩,⟨by (with_reducible repeat (first|apply Kd.V_alloc|apply Kd.V_drewN|apply Kd.V_drew));exact HO_0.out⟩,⟨zb_⟩⟩
    case round =>
     clear H'
     try clear c2
     try clear c2b0
     try clear p2
     try clear c3
     try clear c3b0
     try clear c4
     try clear c4b0
     try clear c5
     try clear c5b0
     try clear p6
     try clear c7
     try clear p7
     try clear q7
     try clear hx7
     try clear hx751_0
     try clear p751
     try clear q751
     obtain ⟨x6_2,x27_2,rfl,HA,HK2,HO_6,HO_25,HB⟩:=hrel
     cases gk with
     | zero=>exact absurd HA.out (by simp [api_MapPage_43.l1])
     | succ k2 =>
      have H:=HA.out
      clear HA
      simp only [api_MapPage_43.l1] at H
      by_cases c8:x27_2 < (l0.length:Int)
      ·rw [if_pos c8] at H
       have c8b0:decide (x27_2 < (l0.length:Int))=true:=decide_eq_true c8
       clear c8
       by_cases c9:0≤x27_2
       ·rw [if_pos c9] at H
        have c9b0:decide (0≤x27_2)=true:=decide_eq_true c9
        clear c9
        by_cases c10:x27_2 < (l0.length:Int)
        ·rw [if_pos c10] at H
         have c10b0:decide (x27_2 < (l0.length:Int))=true:=decide_eq_true c10
         clear c10
         by_cases c11:x6_2.length + (rd_L8 l0 x27_2).length < 1353245080339
         ·rw [if_pos c11] at H
          have LMc11:=zm c11
          clear c11
          obtain ⟨y756,hy756⟩:∃ y_:List (S42),y_=(x6_2 ++ (rd_L8 l0 x27_2)):=⟨_,rfl⟩
          replace H:(api_MapPage_43.l1 k2 y756 l0 (l0.length:Int) (wrap64 (x27_2 + 1)))=some r:=by first|(rw [hy756];with_reducible exact H)|(have H2_:=(Option.bind_some _ _).symm.trans H;rw [hy756];with_reducible exact H2_)|(have H2_:=(Option.bind_some _ _).symm.trans H;with_reducible exact H2_)|with_reducible exact H|(rw [hy756];exact H)|exact H
          have Ny756:=zm hy756
          clear hy756
          have H':=zm H
          clear H
          have p755:0≤(x27_2:Int):=za_
          have q755:x27_2 < (l0.length:Int):=za_
          obtain ⟨ad755,A755_0,c755_0,e755,hx755_0,hl755_0,hi755_0⟩:=at_L8 (Kd.V_reads' HO_25.out).2.2 x27_2 p755 q755
          cases e755
          obtain ⟨ce755,hce755,hMe755,hcc755⟩:=Kd.V_get HO_25.out [] x27_2 p755 (by first|exact q755|exact za_|(have e_:=(Kd.V_reads' HO_25.out).1;omega))
          obtain ⟨ua755_0,uc755_0,rfl,ul755_0,ge755_0⟩:=Kd.FK_slice_open hMe755
          have hv755_0:=hcc755 0 _ rfl
          rw [Nat.add_zero,show ((Kd.slice 42 k42)).sz=1 from rfl,Nat.mul_one] at hv755_0
          replace hv755_0:=Option.some.inj (hv755_0.symm.trans hx755_0)
          injection hv755_0 with hva_ hvn_ hvc_
          rw [hva_] at ge755_0
          rw [hvc_] at ul755_0
          have HL755_0:=zm (show Kd.V k42 42 _ w.heap.size _ _ (rd_L8 l0 x27_2) from Kd.V_mk ul755_0 ge755_0)
          clear hva_ hvn_ hvc_ ge755_0 ul755_0 hcc755 hce755
          have HR755_0:=zm hi755_0
          have HC755_0:=zm hl755_0
          clear hi755_0 hl755_0
          replace p755:=eq_true p755
          replace q755:=eq_true q755
          go_wp2_with (first|((with_reducible refine gate_builtin (b:=.append) (xs:=#[.tmp 31,.tmp 32]) rfl ?_);at_builtin;refine Kd.N_append_rows k42 (w0:=w) w.heap.size rfl (.tmp 31) (.tmp 32) 43 42 (.agg #[(.int .i64 0),(.int .i64 0),(.int .i64 0),(.int .i64 0),(.slice none 0 0),(.slice none 0 0),(.slice none 0 0)]) 104 rfl Try.underlying43 info42 rfl (by decide) (by omega) u6 x6_2 (rd_L8 l0 x27_2) _ _ _ (fun k_=>(P0_ k_∨w.heap.size≤k_)) (fun k_=>((fun k_=>(P0_ k_∨w.heap.size≤k_))) k_∧some k_≠(u6:Value).ownBlock) rfl rfl ?aO ?aR (fun _ hk=>hk) ?aF ?aB ?aS ?aL ?_;(case aR=>exact (by skip;exact Kd.V_F (Kd.V_mono (ok':=(fun k_=>((fun k_=>(P0_ k_∨w.heap.size≤k_))) k_∧some k_≠(u6:Value).ownBlock)) (HL755_0.out) (fun k_ hk=>⟨hk.1,hk.2⟩))));(case aB=>exact (zb_));(case aF=>exact (fun k_ hk=>(.inr (Nat.le_trans (below_size (zb_)) hk))));(case aO=>exact (by (with_reducible repeat (first|apply Kd.N_alloc|apply Kd.N_drewN|apply Kd.N_drew));exact HO_6.out));(case aS=>exact (below_size (zb_)));(case aL=>have:=LMc11.out;omega);intro v757 w12 ho hb hg hat;rw [← Ny756.out] at ho;have n0_:=zm (Kd.V_afterv (ok:=(fun k_=>(P0_ k_∨w.heap.size≤k_))) (by (with_reducible repeat (first|apply Kd.V_alloc|apply Kd.V_drewN|apply Kd.V_drew));exact HO_25.out) hg hat);have n1_:=zm (Kd.V_afterv (ok:=(fun k_=>(P0_ k_∨w.heap.size≤k_))) (by (with_reducible repeat (first|apply Kd.V_alloc|apply Kd.V_drewN|apply Kd.V_drew));exact HL755_0.out) hg hat);have n2_:=zm (hb);have n3_:=zm (ho);clear HO_25 HL755_0 HB HO_6;have HO_25:=n0_;have HL755_0:=n1_;have HB:=n2_;have HO758:=n3_;clear n0_ n1_ n2_ n3_;clear ho hb hg hat))
          go_roundg k2
          case measure=>have:=HK1.out;have:=HK2.out;omega
          case rel=>exact ⟨(y756),(wrap64 (x27_2 + 1)),zs_,H',⟨by have:=HK1.out;have:=HK2.out;omega⟩,⟨by (with_reducible repeat (first|apply Kd.N_alloc|apply Kd.N_drewN|apply Kd.N_drew));exact HO758.out⟩,⟨by (with_reducible repeat (first|apply Kd.V_alloc|apply Kd.V_drewN|apply Kd.V_drew));exact HO_25.out⟩,⟨zb_⟩⟩
         ·rw [if_neg c11] at H
          exact absurd H (by simp)
        ·rw [if_neg c10] at H
         exact absurd H (by simp)
       ·rw [if_neg c9] at H
        exact absurd H (by simp)
      ·rw [if_neg c8] at H
       have c8b0:decide (x27_2 < (l0.length:Int))=false:=decide_eq_false c8
       clear c8
       obtain rfl:=Option.some.inj H
       go_wp2
       go_ret
       exact ⟨_,ze_,by (with_reducible repeat (first|apply Kd.N_alloc|apply Kd.N_drewN|apply Kd.N_drew));exact HO_6.out,zb_⟩
end Go.Proofs.Ytkhbmgclklmimaa.Print
end
section
namespace Go.Proofs.Ytkhbmgclklmimaa.Print
open Go.RowKit Go.Proofs.YtkhbmgclklmimaaW.PrintWords Go.Proofs.YtkhbmgclklmimaaW.PrintLast Go.Proofs.YtkhbmgclklmimaaW.PrintMore
attribute [local go_sem] max2_int min2_int max_two min_two max_three min_three max_four min_four   -- for this text's walks alone
attribute [local go_sem ↓] Go.Proofs.Ytkhbmgclklmimaa.Sem.isSome_setCell
attribute [local go_sem] Go.Instr.field Go.asAgg
set_option linter.unusedVariables false
set_option linter.unusedSimpArgs false
-- CX
def slipwaylaw06_MapOrder.f (k:Nat) (a0:Int) (l1:List S42) (a2:Int):Option Bool :=
 if (0≤a2∧a2 < 256)∧l1.length≤1048576 then
 (mapjnl_Replay.f k a0 l1).bind fun a=>(slipwaylaw06_begun.f k).bind fun t0=>if t0=true then
 if a.2.2.2.2=0 then (api_MapPage_41.f l1).bind fun bk=>(api_MapPage_43.f k [bk.reverse,l1]).bind fun cc=>(mapjnl_Replay.f k a0 cc).bind fun b =>
 if b.2.2.2.2=0 then if a.2.2.2.1=b.2.2.2.1 then (slipwayref06_Same.f k a.1 a.2.1 a.2.2.1 b.1 b.2.1 b.2.2.1).bind fun t1=>if t1=true then
 (mapjnl_Check.f k a.1 a.2.1 a.2.2.1).bind fun ch=>if ch=0 then (mapjnl_Replay.f k a0 (l1.take (a2.toNat % (l1.length + 1)))).bind fun c=>if c.2.2.2.2=0 then if c.2.2.2.1≤a.2.2.2.1 then
 (mapjnl_Covers.f k a.1 a.2.1 a.2.2.1 c.1 c.2.1 c.2.2.1).bind fun t2=>if t2=true then some true
 else none else none else none else none else none else none else none else some true else none else none
section
variable {ops : Array Oper} {rest : List Oper} {o : Oper} {a : Act} {Q : Exit → Act → World → Prop}
theorem MO_ld {W:World} {g:Nat} {p:Operand} {x0 x1 x2:Value} (hop:o.op=.load 25 p) (hgd:o.guard=none) (hp:a.eval p=.pointer (some ⟨g,0,none⟩)) (hb:W.heap[g]?=some (.cells #[x0,x1,x2] 25 (0,0)))
  (h:wpList Try.prog ops Q rest (a.put o.dst (.agg #[x0,x1,x2])) W):wpList Try.prog ops Q (o :: rest) a W:=by
 have hu25:=Try.underlying25
 have c0:W.cell? ⟨g,0,none⟩=some x0:=(blk_cell hb 0).trans rfl
 have c1:W.cell? ⟨g,1,none⟩=some x1:=(blk_cell hb 1).trans rfl
 have c2:W.cell? ⟨g,2,none⟩=some x2:=(blk_cell hb 2).trans rfl
 refine Kd.event_run hgd ?_ h
 simp only [execOp,hop,hp]
 go_simp
theorem MO_two {W:World} {x y:Operand} {n0 n1 c0 c1:Nat} {A0 A1:Option Addr} (hop:o.op=.buildSlice 92 2 #[(0,x),(1,y)]) (hx:a.eval x=.slice A0 n0 c0) (hy:a.eval y=.slice A1 n1 c1) :
  (execOp a.eval o).run Try.prog W=.ok (.value (.slice (some ⟨W.heap.size,0,none⟩) 2 2)) (W.alloc (.cells #[.slice A0 n0 c0,.slice A1 n1 c1] 43 (0,0))):=by
 generalize hE:a.eval=ev at hx hy ⊢
 simp only [execOp,hop]
 go_simp
theorem MO_made {W:World} (v:Nat → Value) {cs:Array Value} {t:TypeId} (hgd:o.guard=none) (hrun:(execOp a.eval o).run Try.prog W=.ok (.value (v W.heap.size)) (W.alloc (.cells cs t (0,0))))
  (h:∀ g,g=W.heap.size → ∀ w1,w1.heap[g]?=some (.cells cs t (0,0)) → Below W.heap.size W w1 → wpList Try.prog ops Q rest (a.put o.dst (v g)) w1):wpList Try.prog ops Q (o :: rest) a W :=
 Kd.event_run hgd hrun (h _ rfl _ (blk_new W _) (zlA (Below.refl _ _) _))
end
theorem MO_take {W:World} {A:Option Addr} {l:List S42} {m:Nat} (h:Kd.C k42 W A l.length l):Kd.C k42 W A (l.take m).length (l.take m):=by
 by_cases hm:m≤l.length
 ·exact Kd.C_take h hm
 ·rw [List.take_of_length_le (by omega)]
  exact h
theorem MO_nz {n:Nat} (hn:n≤1048576):¬ wrap64 ((n:Int) + 1)=0:=by
 unfold wrap64
 omega
theorem MO_rem {a n:Nat} (hn:n≤1048576):Int.tmod (a:Int) (wrap64 ((n:Int) + 1))=((a % (n + 1):Nat):Int):=by
 have:wrap64 ((n:Int) + 1)=((n + 1:Nat):Int):=by unfold wrap64;omega
 rw [this]
 exact (Int.ofNat_tmod a (n + 1)).symm
theorem MO_u8 {a:Int} (h:0≤a∧a < 256):wrap64 a=((a.toNat:Nat):Int):=by unfold wrap64;omega
theorem MO_in {a:Int} {n c:Nat} (h:0≤a∧a < 256) (hn:n≤1048576) (hc:n≤c):0≤Int.tmod (wrap64 a) (wrap64 ((n:Int) + 1))∧Int.tmod (wrap64 a) (wrap64 ((n:Int) + 1))≤(c:Int):=by
 rw [MO_u8 h,MO_rem hn]
 have:=Nat.mod_lt a.toNat (show 0 < n + 1 by omega)
 omega
theorem MO_to {a:Int} {l:List S42} (h:0≤a∧a < 256) (hn:l.length≤1048576):(Int.tmod (wrap64 a) (wrap64 ((l.length:Int) + 1))).toNat=(l.take (a.toNat % (l.length + 1))).length:=by
 rw [MO_u8 h,MO_rem hn,Int.toNat_natCast,List.length_take]
 have:=Nat.mod_lt a.toNat (show 0 < l.length + 1 by omega)
 omega
set_option maxHeartbeats 4000000 in
set_option maxRecDepth 100000 in
theorem slipwaylaw06_MapOrder.calls (k:Nat) (a0:Int) (A1:Option Addr) (c1:Nat) (l1:List S42) (a2:Int) (r:Bool) (w:World) (hr1:Kd.C k42 w A1 l1.length l1) (hc1:l1.length≤c1) (h:slipwaylaw06_MapOrder.f k a0 l1 a2=some r) :
  Calls Try.prog 8 #[.int .i64 a0,.slice A1 l1.length c1,.int .u8 a2] w fun e w'=>e=.returned (.bool r)∧Below w.heap.size w w':=by
 have hu25:=Try.underlying25
 have H:slipwaylaw06_MapOrder.f k a0 l1 a2=some r:=h
 clear h
 have hh_:=zm hr1;clear hr1;have hr1:=hh_;clear hh_;have hh_:=zm hc1;clear hc1;have hc1:=hh_;clear hh_
 unfold slipwaylaw06_MapOrder.f at H
 have hg_:=Cw.gt_ H;clear H;obtain ⟨hz,H⟩:=hg_;have hg_:=Option.bind_eq_some_iff.mp H;clear H;obtain ⟨⟨ab,aw,aq,ag,ae⟩,F0,H⟩:=hg_;have hh_:=zm F0;clear F0;have F0:=hh_;clear hh_;(try dsimp only at H);have hg_:=Option.bind_eq_some_iff.mp H;clear H;obtain ⟨t0,F1,H⟩:=hg_;have hh_:=zm F1;clear F1;have F1:=hh_;clear hh_;(try dsimp only at H);have hg_:=Cw.gt_ H;clear H;obtain ⟨rfl,H⟩:=hg_
 have hh_:=zm hz;clear hz;have hz:=hh_;clear hh_;have hh_:=zm H;clear H;have H:=hh_;clear hh_
 go_enter Try.func8,Try.ntmps8
 go_wp2_with (first|(go_at_call 39;refine (mapjnl_Replay.calls k _ _ _ l1 _ _ _ _ _ _ (Kd.C_below (Aside0.out (by assumption)) (by repeat (first|exact Below.refl _ _|with_reducible apply zlN|with_reducible apply zlA|refine below_step ?_ (Aside0.out (by assumption))))) (Aside0.out (by assumption)) F0.out).mono ?_;rintro e w1 ⟨v0,v1,rfl,ho0,ho1,hb⟩;obtain ⟨A_0,c_0,rfl,hc_0,hr_0⟩:=Kd.R_reads ho0;clear ho0;have hh_:=zm hc_0;clear hc_0;have hc_0:=hh_;clear hh_;have hh_:=zm hr_0;clear hr_0;have hr_0:=hh_;clear hh_;obtain ⟨A_1,c_1,rfl,hc_1,hr_1⟩:=Kd.R_reads ho1;clear ho1;have hh_:=zm hc_1;clear hc_1;have hc_1:=hh_;clear hh_;have hh_:=zm hr_1;clear hr_1;have hr_1:=hh_;clear hh_;have hh_:=zm hb;clear hb;have hb:=hh_;clear hh_)|((with_reducible refine gate_ (.alloc 25) rfl ?_);refine Cw.box_store rfl rfl rfl rfl rfl rfl (by first|(go_simp;done)|(go_simp;rfl)) (by first|(go_simp;done)|(go_simp;rfl)) ?_;rintro g hg w1 hbk hb;clear hg;have hh_:=zm hbk;clear hbk;have hbk:=hh_;clear hh_;have hh_:=zm hb;clear hb;have hb:=hh_;clear hh_)|(go_at_call 15;refine (slipwaylaw06_begun.calls k _ _ F1.out).mono ?_;rintro e w1 ⟨rfl,hb⟩;have hh_:=zm hb;clear hb;have hb:=hh_;clear hh_))
 ·have hz_:ae≠0:=by simpa using (by assumption:(ae != 0)=true)
  have H:=H.out
  rw [if_neg hz_] at H
  obtain rfl:=Option.some.inj H
  clear H hz_
  go_wp2_with (first|(go_at_call 15;refine (slipwaylaw06_begun.calls k _ _ F1.out).mono ?_;rintro e w1 ⟨rfl,hb⟩;have hh_:=zm hb;clear hb;have hb:=hh_;clear hh_))
  go_ret
  exact ⟨rfl,(by repeat (first|exact Below.refl _ _|with_reducible apply zlN|with_reducible apply zlA|refine below_step ?_ (Aside0.out (by assumption))))⟩
 have hz1:ae=0:=by simpa using (by assumption:(ae != 0)=false)
 have H:=H.out
 rw [if_pos hz1] at H;clear hz1
 have hg_:=Option.bind_eq_some_iff.mp H;clear H;obtain ⟨bk,F2,H⟩:=hg_;have hh_:=zm F2;clear F2;have F2:=hh_;clear hh_;(try dsimp only at H);have hg_:=Option.bind_eq_some_iff.mp H;clear H;obtain ⟨cc,F3,H⟩:=hg_;have hh_:=zm F3;clear F3;have F3:=hh_;clear hh_;(try dsimp only at H);have hg_:=Option.bind_eq_some_iff.mp H;clear H;obtain ⟨⟨bb,bw,bq,bg,be⟩,F4,H⟩:=hg_;have hh_:=zm F4;clear F4;have F4:=hh_;clear hh_;(try dsimp only at H);have hg_:=Cw.gt_ H;clear H;obtain ⟨rfl,H⟩:=hg_;have hg_:=Cw.gt_ H;clear H;obtain ⟨rfl,H⟩:=hg_;have hg_:=Option.bind_eq_some_iff.mp H;clear H;obtain ⟨t1,F5,H⟩:=hg_;have hh_:=zm F5;clear F5;have F5:=hh_;clear hh_;(try dsimp only at H);have hg_:=Cw.gt_ H;clear H;obtain ⟨rfl,H⟩:=hg_;have hg_:=Option.bind_eq_some_iff.mp H;clear H;obtain ⟨ch,F6,H⟩:=hg_;have hh_:=zm F6;clear F6;have F6:=hh_;clear hh_;(try dsimp only at H);have hg_:=Cw.gt_ H;clear H;obtain ⟨rfl,H⟩:=hg_;have hg_:=Option.bind_eq_some_iff.mp H;clear H;obtain ⟨⟨cb,cw,cq,cg,ce⟩,F7,H⟩:=hg_;have hh_:=zm F7;clear F7;have F7:=hh_;clear hh_;(try dsimp only at H);have hg_:=Cw.gt_ H;clear H;obtain ⟨rfl,H⟩:=hg_;have hg_:=Cw.gt_ H;clear H;obtain ⟨hle,H⟩:=hg_;have hg_:=Option.bind_eq_some_iff.mp H;clear H;obtain ⟨t2,F8,H⟩:=hg_;have hh_:=zm F8;clear F8;have F8:=hh_;clear hh_;(try dsimp only at H);have hg_:=Cw.gt_ H;clear H;obtain ⟨rfl,H⟩:=hg_
 obtain rfl:=Option.some.inj H
 clear H
 have hh_:=zm hle;clear hle;have hle:=hh_;clear hh_
 go_wp2_with fail
 refine (api_MapPage_41.calls (fun k_=>True) A1 c1 l1 bk _ (Kd.V_mk hc1.out (Kd.F_mono (Kd.C_F k42_heap (Kd.C_below (Aside0.out (by assumption)) (by repeat (first|exact Below.refl _ _|with_reducible apply zlN|with_reducible apply zlA|refine below_step ?_ (Aside0.out (by assumption)))))) (fun _ _=>trivial))) F2.out).mono ?_
 rintro e w1 ⟨v0,rfl,ho,hb⟩
 obtain ⟨Ab,cb0,rfl⟩:=Kd.N_slice ho
 go_wp2_with fail
 refine (api_MapPage_42.calls _ Ab cb0 bk _ _ hb ho).mono ?_
 clear hb ho
 rintro e w2 ⟨rfl,ho,hb⟩
 obtain ⟨hlr,hcr,hrr⟩:=Kd.N_reads' ho
 rw [hlr] at hcr ⊢
 generalize bk.reverse=rv at F3 ho hlr hcr hrr ⊢
 clear ho hlr
 have hh_:=zm hcr;clear hcr;have hcr:=hh_;clear hh_;have hh_:=zm hrr;clear hrr;have hrr:=hh_;clear hh_;have hh_:=zm hb;clear hb;have hb:=hh_;clear hh_
 go_wp2_with (first|((with_reducible refine gate_dst (N:=39) rfl ?_);refine MO_made (fun g=>.slice (some ⟨g,0,none⟩) 2 2) rfl (MO_two rfl rfl rfl) ?_;rintro gm hg w1 hbk hb;clear hg;have hh_:=zm hbk;clear hbk;have hbk:=hh_;clear hh_;have hh_:=zm hb;clear hb;have hb:=hh_;clear hh_))
 refine (api_MapPage_43.calls k (fun k_=>True) _ _ [rv,l1] cc _ (Kd.V_mk (Nat.le_refl 2) (Kd.F_mono (Kd.C_F (Kd.heap_slice 42 k42_heap) (Cw.C_two (zbB (Aside0.out (by assumption)) (by repeat (first|exact Below.refl _ _|with_reducible apply zlN|with_reducible apply zlA|refine below_step ?_ (Aside0.out (by assumption))))) (Kd.C_below (Aside0.out (by assumption)) (by repeat (first|exact Below.refl _ _|with_reducible apply zlN|with_reducible apply zlA|refine below_step ?_ (Aside0.out (by assumption))))) (Aside0.out (by assumption)) (Kd.C_below (Aside0.out (by assumption)) (by repeat (first|exact Below.refl _ _|with_reducible apply zlN|with_reducible apply zlA|refine below_step ?_ (Aside0.out (by assumption))))) (Aside0.out (by assumption)))) (fun _ _=>trivial))) F3.out).mono ?_
 rintro e w3 ⟨v0,rfl,ho,hb⟩
 obtain ⟨Ac,cc0,rfl,hcc0,hrcc⟩:=Kd.N_reads ho
 clear ho
 have hh_:=zm hcc0;clear hcc0;have hcc0:=hh_;clear hh_;have hh_:=zm hrcc;clear hrcc;have hrcc:=hh_;clear hh_;have hh_:=zm hb;clear hb;have hb:=hh_;clear hh_
 go_wp2_with fail
 refine (mapjnl_Replay.calls k _ _ _ cc _ _ _ _ _ _ (Kd.C_below (Aside0.out (by assumption)) (by repeat (first|exact Below.refl _ _|with_reducible apply zlN|with_reducible apply zlA|refine below_step ?_ (Aside0.out (by assumption))))) (Aside0.out (by assumption)) F4.out).mono ?_
 rintro e w1 ⟨v0,v1,rfl,ho0,ho1,hb⟩;obtain ⟨A_0,c_0,rfl,hc_0,hr_0⟩:=Kd.R_reads ho0;clear ho0;have hh_:=zm hc_0;clear hc_0;have hc_0:=hh_;clear hh_;have hh_:=zm hr_0;clear hr_0;have hr_0:=hh_;clear hh_;obtain ⟨A_1,c_1,rfl,hc_1,hr_1⟩:=Kd.R_reads ho1;clear ho1;have hh_:=zm hc_1;clear hc_1;have hc_1:=hh_;clear hh_;have hh_:=zm hr_1;clear hr_1;have hr_1:=hh_;clear hh_;have hh_:=zm hb;clear hb;have hb:=hh_;clear hh_
 have hcut:=MO_in hz.out.1 hz.out.2 hc1.out
 go_wp2_with (first|((with_reducible refine gate_ (.alloc 25) rfl ?_);refine Cw.box_store rfl rfl rfl rfl rfl rfl (by first|(go_simp;done)|(go_simp;rfl)) (by first|(go_simp;done)|(go_simp;rfl)) ?_;rintro g hg w1 hbk hb;clear hg;have hh_:=zm hbk;clear hbk;have hbk:=hh_;clear hh_;have hh_:=zm hb;clear hb;have hb:=hh_;clear hh_)|((with_reducible refine gate_ (.load 25 _) rfl ?_);refine MO_ld rfl rfl rfl (zbB (Aside0.out (by assumption)) (by repeat (first|exact Below.refl _ _|with_reducible apply zlN|with_reducible apply zlA|refine below_step ?_ (Aside0.out (by assumption))))) ?_)|((with_reducible refine Cw.guarded rfl ?gw ?_);(case gw=>first|rfl|(go_simp;done));dsimp only)|(go_at_call 16;refine (slipwayref06_Same.calls k _ _ _ _ _ _ _ _ _ _ _ _ _ _ _ _ (Kd.C_below (Aside0.out (by assumption)) (by repeat (first|exact Below.refl _ _|with_reducible apply zlN|with_reducible apply zlA|refine below_step ?_ (Aside0.out (by assumption))))) (Aside0.out (by assumption)) (Kd.C_below (Aside0.out (by assumption)) (by repeat (first|exact Below.refl _ _|with_reducible apply zlN|with_reducible apply zlA|refine below_step ?_ (Aside0.out (by assumption))))) (Aside0.out (by assumption)) (Kd.C_below (Aside0.out (by assumption)) (by repeat (first|exact Below.refl _ _|with_reducible apply zlN|with_reducible apply zlA|refine below_step ?_ (Aside0.out (by assumption))))) (Aside0.out (by assumption)) (Kd.C_below (Aside0.out (by assumption)) (by repeat (first|exact Below.refl _ _|with_reducible apply zlN|with_reducible apply zlA|refine below_step ?_ (Aside0.out (by assumption))))) (Aside0.out (by assumption)) F5.out).mono ?_;rintro e w1 ⟨rfl,hb⟩;have hh_:=zm hb;clear hb;have hb:=hh_;clear hh_)|(go_at_call 17;refine (mapjnl_Check.calls k _ _ _ _ _ _ _ _ _ (Kd.C_below (Aside0.out (by assumption)) (by repeat (first|exact Below.refl _ _|with_reducible apply zlN|with_reducible apply zlA|refine below_step ?_ (Aside0.out (by assumption))))) (Aside0.out (by assumption)) (Kd.C_below (Aside0.out (by assumption)) (by repeat (first|exact Below.refl _ _|with_reducible apply zlN|with_reducible apply zlA|refine below_step ?_ (Aside0.out (by assumption))))) (Aside0.out (by assumption)) F6.out).mono ?_;rintro e w1 ⟨rfl,hb⟩;have hh_:=zm hb;clear hb;have hb:=hh_;clear hh_))
 ·exact absurd (by assumption:wrap64 ((l1.length:Int) + 1)=0) (MO_nz hz.out.2)
 go_wp2_with fail
 rw [MO_to hz.out.1 hz.out.2]
 clear hcut
 have hct:=zm (show (l1.take (a2.toNat % (l1.length + 1))).length≤c1 from Nat.le_trans (by rw [List.length_take];exact Nat.min_le_right _ _) hc1.out)
 have hrt:=zm (MO_take (m:=a2.toNat % (l1.length + 1)) hr1.out)
 generalize l1.take (a2.toNat % (l1.length + 1))=lt at F7 hct hrt ⊢
 refine (mapjnl_Replay.calls k _ _ _ lt _ _ _ _ _ _ (Kd.C_below (Aside0.out (by assumption)) (by repeat (first|exact Below.refl _ _|with_reducible apply zlN|with_reducible apply zlA|refine below_step ?_ (Aside0.out (by assumption))))) (Aside0.out (by assumption)) F7.out).mono ?_
 rintro e w1 ⟨v0,v1,rfl,ho0,ho1,hb⟩;obtain ⟨A_0,c_0,rfl,hc_0,hr_0⟩:=Kd.R_reads ho0;clear ho0;have hh_:=zm hc_0;clear hc_0;have hc_0:=hh_;clear hh_;have hh_:=zm hr_0;clear hr_0;have hr_0:=hh_;clear hh_;obtain ⟨A_1,c_1,rfl,hc_1,hr_1⟩:=Kd.R_reads ho1;clear ho1;have hh_:=zm hc_1;clear hc_1;have hc_1:=hh_;clear hh_;have hh_:=zm hr_1;clear hr_1;have hr_1:=hh_;clear hh_;have hh_:=zm hb;clear hb;have hb:=hh_;clear hh_
 have hleb:=decide_eq_true hle.out
 go_wp2_with (first|((with_reducible refine gate_ (.alloc 25) rfl ?_);refine Cw.box_store rfl rfl rfl rfl rfl rfl (by first|(go_simp;done)|(go_simp;rfl)) (by first|(go_simp;done)|(go_simp;rfl)) ?_;rintro g hg w1 hbk hb;clear hg;have hh_:=zm hbk;clear hbk;have hbk:=hh_;clear hh_;have hh_:=zm hb;clear hb;have hb:=hh_;clear hh_)|((with_reducible refine gate_ (.load 25 _) rfl ?_);refine MO_ld rfl rfl rfl (zbB (Aside0.out (by assumption)) (by repeat (first|exact Below.refl _ _|with_reducible apply zlN|with_reducible apply zlA|refine below_step ?_ (Aside0.out (by assumption))))) ?_)|((with_reducible refine Cw.guarded rfl ?gw ?_);(case gw=>first|rfl|(go_simp;done));dsimp only)|(go_at_call 19;refine (mapjnl_Covers.calls k _ _ _ _ _ _ _ _ _ _ _ _ _ _ _ _ (Kd.C_below (Aside0.out (by assumption)) (by repeat (first|exact Below.refl _ _|with_reducible apply zlN|with_reducible apply zlA|refine below_step ?_ (Aside0.out (by assumption))))) (Aside0.out (by assumption)) (Kd.C_below (Aside0.out (by assumption)) (by repeat (first|exact Below.refl _ _|with_reducible apply zlN|with_reducible apply zlA|refine below_step ?_ (Aside0.out (by assumption))))) (Aside0.out (by assumption)) (Kd.C_below (Aside0.out (by assumption)) (by repeat (first|exact Below.refl _ _|with_reducible apply zlN|with_reducible apply zlA|refine below_step ?_ (Aside0.out (by assumption))))) (Aside0.out (by assumption)) (Kd.C_below (Aside0.out (by assumption)) (by repeat (first|exact Below.refl _ _|with_reducible apply zlN|with_reducible apply zlA|refine below_step ?_ (Aside0.out (by assumption))))) (Aside0.out (by assumption)) F8.out).mono ?_;rintro e w1 ⟨rfl,hb⟩;have hh_:=zm hb;clear hb;have hb:=hh_;clear hh_))
 go_ret
 exact ⟨rfl,(by repeat (first|exact Below.refl _ _|with_reducible apply zlN|with_reducible apply zlA|refine below_step ?_ (Aside0.out (by assumption))))⟩
def slipwaylaw06_MapOrder.Pure:Prop:=∀ (a0:Int) (l1:List (S42)) (a2:Int),(Lit.int .i64 a0).wf=true → (l1.length≤maxLen∧l1.length * 104≤140737488351232∧∀ x ∈ l1,((Lit.int .i64 x.f0).wf=true∧((Lit.int .i64 x.f1).wf=true∧((Lit.int .i64 x.f2).wf=true∧((Lit.int .i64 x.f3).wf=true∧((x.f4.length≤maxLen∧x.f4.length * 1≤140737488351232∧∀ x_ ∈ x.f4,True)∧((x.f5.length≤maxLen∧x.f5.length * 8≤140737488351232∧∀ x_ ∈ x.f5,(Lit.int .i64 x_).wf=true)∧(x.f6.length≤maxLen∧x.f6.length * 24≤140737488351232∧∀ x_ ∈ x.f6,((Lit.int .i64 x_.f0).wf=true∧((Lit.int .i64 x_.f1).wf=true∧(Lit.int .i64 x_.f2).wf=true)))))))))) → (Lit.int .u8 a2).wf=true → l1.length≤1048576 → ∃ k,slipwaylaw06_MapOrder.f k a0 l1 a2=some true
theorem slipwaylaw06_MapOrder.walk (P:slipwaylaw06_MapOrder.Pure) (a0:Int) (A1:Option Addr) (c1:Nat) (l1:List (S42)) (a2:Int) (w:World) (hr1:Kd.C k42 w A1 l1.length l1) (hc1:l1.length≤c1) (w0:(Lit.int .i64 a0).wf=true) (w1:(l1.length≤maxLen∧l1.length * 104≤140737488351232∧∀ x ∈ l1,((Lit.int .i64 x.f0).wf=true∧((Lit.int .i64 x.f1).wf=true∧((Lit.int .i64 x.f2).wf=true∧((Lit.int .i64 x.f3).wf=true∧((x.f4.length≤maxLen∧x.f4.length * 1≤140737488351232∧∀ x_ ∈ x.f4,True)∧((x.f5.length≤maxLen∧x.f5.length * 8≤140737488351232∧∀ x_ ∈ x.f5,(Lit.int .i64 x_).wf=true)∧(x.f6.length≤maxLen∧x.f6.length * 24≤140737488351232∧∀ x_ ∈ x.f6,((Lit.int .i64 x_.f0).wf=true∧((Lit.int .i64 x_.f1).wf=true∧(Lit.int .i64 x_.f2).wf=true))))))))))) (w2:(Lit.int .u8 a2).wf=true) (z1:l1.length≤1048576) :
  Calls Try.prog 8 #[.int .i64 a0,.slice A1 l1.length c1,.int .u8 a2] w fun e w'=>e=.returned (.bool true)∧Below w.heap.size w w':=by
 obtain ⟨k,h⟩:=P a0 l1 a2 w0 w1 w2 z1
 refine (slipwaylaw06_MapOrder.calls k a0 A1 c1 l1 a2 true w hr1 hc1 h).mono ?_
 rintro e w' ⟨rfl,hd⟩
 exact ⟨rfl,hd⟩
end Go.Proofs.Ytkhbmgclklmimaa.Print
end
