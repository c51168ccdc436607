/- Texts of the proof of MapBytes, part 16. -/
import Derived.Test.YtkhbmgclklmimaaMapBytesMA
import Derived.Test.YtkhbmgclklmimaaMapBytesM15
section
namespace Go.Proofs.Ytkhbmgclklmimaa.Print
open Go.RowKit Go.Proofs.YtkhbmgclklmimaaW.PrintWords Go.Proofs.YtkhbmgclklmimaaW.PrintLast Go.Proofs.YtkhbmgclklmimaaW.PrintMore
attribute [local go_sem] max2_int min2_int max_two min_two max_three min_three max_four min_four   -- for this text's walks alone
attribute [local go_sem ↓] Go.Proofs.Ytkhbmgclklmimaa.Sem.isSome_setCell
attribute [local go_sem] Go.Instr.field Go.asAgg
set_option linter.unusedVariables false
set_option linter.unusedSimpArgs false
def mapjnl_Same.f (k:Nat) (l0_0:List Bool) (l0_1:List Int) (a0_2:Int) (l1_0:List Bool) (l1_1:List Int) (a1_2:Int):Option (Bool):=(slices_Equal_bool_bool.f k l0_0 l1_0).bind fun t210=>(if t210=true then ((slices_Equal_int64_int64.f k l0_1 l1_1).bind fun t211=>(if t211=true then (some (a0_2 == a1_2)) else (some false))) else (some false))
theorem mapjnl_Same.mono:∀ a0 a1 a2 a3 a4 a5 k,LeO (mapjnl_Same.f k a0 a1 a2 a3 a4 a5) (mapjnl_Same.f (k + 1) a0 a1 a2 a3 a4 a5):=by
 intro a0 a1 a2 a3 a4 a5 k
 unfold mapjnl_Same.f
 repeat' first
   | (with_reducible exact slices_Equal_bool_bool.mono _ _ _)
   | (with_reducible exact slices_Equal_int64_int64.mono _ _ _)
   | (with_reducible exact LeO.refl _)
   | (with_reducible exact LeO.none _)
   | (with_reducible refine LeO.ite ?_ ?_)
   | (with_reducible refine LeO.bind ?_ (fun _=>?_))
   | exact slices_Equal_bool_bool.mono _ _ _
   | exact slices_Equal_int64_int64.mono _ _ _
   | exact LeO.none _
   | refine LeO.ite ?_ ?_
   | refine LeO.bind ?_ (fun _=>?_)
set_option maxHeartbeats 8000000 in
set_option maxRecDepth 100000 in
theorem mapjnl_Same.calls (k:Nat) (A0_0:Option Addr) (c0_0:Nat) (l0_0:List Bool) (A0_1:Option Addr) (c0_1:Nat) (l0_1:List Int) (a0_2:Int) (A1_0:Option Addr) (c1_0:Nat) (l1_0:List Bool) (A1_1:Option Addr) (c1_1:Nat) (l1_1:List Int) (a1_2:Int) (r:Bool) (w:World) (hr0_0:Kd.C Kd.bool w A0_0 l0_0.length l0_0) (hc0_0:l0_0.length≤c0_0) (hr0_1:Kd.C (Kd.int .i64) w A0_1 l0_1.length l0_1) (hc0_1:l0_1.length≤c0_1) (hr1_0:Kd.C Kd.bool w A1_0 l1_0.length l1_0) (hc1_0:l1_0.length≤c1_0) (hr1_1:Kd.C (Kd.int .i64) w A1_1 l1_1.length l1_1) (hc1_1:l1_1.length≤c1_1) (h:mapjnl_Same.f k l0_0 l0_1 a0_2 l1_0 l1_1 a1_2=some r) :
  Calls Try.prog 21 #[.agg #[.slice A0_0 l0_0.length c0_0,.slice A0_1 l0_1.length c0_1,.int .i64 a0_2],.agg #[.slice A1_0 l1_0.length c1_0,.slice A1_1 l1_1.length c1_1,.int .i64 a1_2]] w fun e w'=>e=.returned (.bool r)∧Below w.heap.size w w':=by
 have hu25:=Try.underlying25
 have HR0_0:=zm hr0_0
 have HC0_0:=zm hc0_0
 clear hr0_0 hc0_0
 have HR0_1:=zm hr0_1
 have HC0_1:=zm hc0_1
 clear hr0_1 hc0_1
 have HR1_0:=zm hr1_0
 have HC1_0:=zm hc1_0
 clear hr1_0 hc1_0
 have HR1_1:=zm hr1_1
 have HC1_1:=zm hc1_1
 clear hr1_1 hc1_1
 have HB:=zm (Below.refl w.heap.size w)
 have H:((slices_Equal_bool_bool.f k l0_0 l1_0).bind fun t210=>(if t210=true then ((slices_Equal_int64_int64.f k l0_1 l1_1).bind fun t211=>(if t211=true then (some (a0_2 == a1_2)) else (some false))) else (some false)))=some r:=h
 clear h
 replace H:=Option.bind_eq_some_iff.mp H
 obtain ⟨t210,A30,H⟩:=H
 replace H:(if t210=true then ((slices_Equal_int64_int64.f k l0_1 l1_1).bind fun t211=>(if t211=true then (some (a0_2 == a1_2)) else (some false))) else (some false))=some r:=H
 have A3:=zm A30
 clear A30
 by_cases c4:t210=true
 ·subst c4
  have H1:((slices_Equal_int64_int64.f k l0_1 l1_1).bind fun t211=>(if t211=true then (some (a0_2 == a1_2)) else (some false)))=some r:=by rw [if_pos rfl] at H;exact H
  clear H
  have H:=H1
  clear H1
  replace H:=Option.bind_eq_some_iff.mp H
  obtain ⟨t211,A50,H⟩:=H
  replace H:(if t211=true then (some (a0_2 == a1_2)) else (some false))=some r:=H
  have A5:=zm A50
  clear A50
  by_cases c6:t211=true
  ·subst c6
   have H1:(some (a0_2 == a1_2))=some r:=by rw [if_pos rfl] at H;exact H
   clear H
   have H:=H1
   clear H1
   obtain rfl:=Option.some.inj H
   go_enter Try.func21,Try.ntmps21
   go_wp2_with (first|((with_reducible refine gate_dst (N:=2) rfl ?_);refine box_event ?hg (N:=2) ?hd (cs:=#[.slice A0_0 l0_0.length c0_0,.slice A0_1 l0_1.length c0_1,.int .i64 a0_2]) (t:=25) ?hr ?_;(case hd=>rfl);(case hg=>rfl);(case hr=>first|(go_simp;done)|(go_simp;rfl));intro gb208 hg w7 hbox hb;have n0_:=zm (below_step (by repeat (first|(with_reducible first|exact HB.out|apply zlA|apply zlN|apply zlD)|exact HB.out)) hb);have n1_:=zm (hbox);have n2_:=zm ((by rw [hg];exact (below_size (by repeat (first|(with_reducible first|exact HB.out|apply zlA|apply zlN|apply zlD)|exact HB.out))):w.heap.size≤gb208));have n3_:=zm ((by rw [hg];exact (below_size (by repeat (first|(with_reducible first|exact HB.out|apply zlA|apply zlN|apply zlD)|exact HB.out))):w.heap.size≤gb208));clear HB;have HB:=n0_;have BK208:=n1_;have GW208:=n2_;have GE208:=n3_;clear n0_ n1_ n2_ n3_;clear hb hbox hg)|((with_reducible refine gate_dst (N:=3) rfl ?_);refine box_event ?hg (N:=3) ?hd (cs:=#[.slice A1_0 l1_0.length c1_0,.slice A1_1 l1_1.length c1_1,.int .i64 a1_2]) (t:=25) ?hr ?_;(case hd=>rfl);(case hg=>rfl);(case hr=>first|(go_simp;done)|(go_simp;rfl));intro gb209 hg w8 hbox hb;have n0_:=zm (zbB (g:=gb208) (o:=.cells #[.slice A0_0 l0_0.length c0_0,.slice A0_1 l0_1.length c0_1,.int .i64 a0_2] 25 (0,0)) (by (with_reducible repeat (first|refine zbN ?_ _|refine zbD ?_|refine zbA ?_ _));exact BK208.out) hb);have n1_:=zm (below_step (by repeat (first|(with_reducible first|exact HB.out|apply zlA|apply zlN|apply zlD|refine zlS ?_ GE208.out)|exact HB.out)) hb);have n2_:=zm (hbox);have n3_:=zm ((by rw [hg];exact (below_size (by repeat (first|(with_reducible first|exact HB.out|apply zlA|apply zlN|apply zlD|refine zlS ?_ GE208.out)|exact HB.out))):w.heap.size≤gb209));have n4_:=zm ((by rw [hg];exact (below_size (by repeat (first|(with_reducible first|exact HB.out|apply zlA|apply zlN|apply zlD|refine zlS ?_ GE208.out)|exact HB.out))):w.heap.size≤gb209));have n5_:=zm ((by rw [hg];exact Nat.ne_of_lt (blk_lt (g:=gb208) (o:=.cells #[.slice A0_0 l0_0.length c0_0,.slice A0_1 l0_1.length c0_1,.int .i64 a0_2] 25 (0,0)) (by (with_reducible repeat (first|refine zbN ?_ _|refine zbD ?_|refine zbA ?_ _));exact BK208.out)):gb208≠gb209));have n6_:=zm ((by rw [hg];exact Nat.ne_of_gt (blk_lt (g:=gb208) (o:=.cells #[.slice A0_0 l0_0.length c0_0,.slice A0_1 l0_1.length c0_1,.int .i64 a0_2] 25 (0,0)) (by (with_reducible repeat (first|refine zbN ?_ _|refine zbD ?_|refine zbA ?_ _));exact BK208.out)):gb209≠gb208));clear BK208 HB;have BK208:=n0_;have HB:=n1_;have BK209:=n2_;have GW209:=n3_;have GE209:=n4_;have NB208_209:=n5_;have NB209_208:=n6_;clear n0_ n1_ n2_ n3_ n4_ n5_ n6_;clear hb hbox hg;have hnb9:=NB208_209.out;have hnc9:=NB209_208.out;have hcz10_0:w8.cell? ⟨gb208,0,none⟩=some (.slice A0_0 l0_0.length c0_0):=(blk_cell BK208.out 0).trans rfl;have hcz10_1:w8.cell? ⟨gb208,1,none⟩=some (.slice A0_1 l0_1.length c0_1):=(blk_cell BK208.out 1).trans rfl;have hcz10_2:w8.cell? ⟨gb208,2,none⟩=some (.int .i64 a0_2):=(blk_cell BK208.out 2).trans rfl;have hfz10_0:=blk_frozen BK208.out 0;have hfz10_1:=blk_frozen BK208.out 1;have hfz10_2:=blk_frozen BK208.out 2;have hcz11_0:w8.cell? ⟨gb209,0,none⟩=some (.slice A1_0 l1_0.length c1_0):=(blk_cell BK209.out 0).trans rfl;have hcz11_1:w8.cell? ⟨gb209,1,none⟩=some (.slice A1_1 l1_1.length c1_1):=(blk_cell BK209.out 1).trans rfl;have hcz11_2:w8.cell? ⟨gb209,2,none⟩=some (.int .i64 a1_2):=(blk_cell BK209.out 2).trans rfl;have hfz11_0:=blk_frozen BK209.out 0;have hfz11_1:=blk_frozen BK209.out 1;have hfz11_2:=blk_frozen BK209.out 2)|((with_reducible refine gate_callee (f:=59) rfl ?_);refine goesL_ (some 9) rfl rfl Try.func59 (by kernel_rfl) rfl #[.slice A0_0 l0_0.length c0_0,.slice A1_0 l1_0.length c1_0] rfl (by (try simp only [List.map_toArray,List.map_cons,List.map_nil]);first|done|rfl|(simp only [List.length_drop,List.length_take];rfl)) ?_;(with_reducible refine (slices_Equal_bool_bool.calls k _ _ l0_0 _ _ l1_0 true _ ?side1 ?side2 ?side3 ?side4 A3.out).mono ?_);(case side1=>repeat (first|exact (Kd.C_below HR0_0.out HB.out)|(with_reducible refine Kd.C_alloc ?_ _)|(with_reducible refine Kd.C_drewN ?_ _)|(with_reducible refine Kd.C_drew ?_)));(case side2=>exact HC0_0.out);(case side3=>repeat (first|exact (Kd.C_below HR1_0.out HB.out)|(with_reducible refine Kd.C_alloc ?_ _)|(with_reducible refine Kd.C_drewN ?_ _)|(with_reducible refine Kd.C_drew ?_)));(case side4=>exact HC1_0.out);rintro e w' ⟨rfl,⟨nd,rfl⟩⟩;refine ⟨_,rfl,?_⟩)|(go_at_call 60;(with_reducible refine (slices_Equal_int64_int64.calls k _ _ l0_1 _ _ l1_1 true _ ?side1 ?side2 ?side3 ?side4 A5.out).mono ?_);(case side1=>repeat (first|exact (Kd.C_below HR0_1.out (by repeat (first|(with_reducible first|exact HB.out|apply zlA|apply zlN|apply zlD|refine zlS ?_ GE208.out|refine zlS ?_ GE209.out)|exact HB.out)))|(with_reducible refine Kd.C_alloc ?_ _)|(with_reducible refine Kd.C_drewN ?_ _)|(with_reducible refine Kd.C_drew ?_)));(case side2=>exact HC0_1.out);(case side3=>repeat (first|exact (Kd.C_below HR1_1.out (by repeat (first|(with_reducible first|exact HB.out|apply zlA|apply zlN|apply zlD|refine zlS ?_ GE208.out|refine zlS ?_ GE209.out)|exact HB.out)))|(with_reducible refine Kd.C_alloc ?_ _)|(with_reducible refine Kd.C_drewN ?_ _)|(with_reducible refine Kd.C_drew ?_)));(case side4=>exact HC1_1.out);rintro e w' ⟨rfl,⟨nd,rfl⟩⟩))
   go_ret
   exact ⟨by first|rfl|(simp [errW_none,errW_some] <;> rfl)|(simp [*,errW_none,errW_some] <;> rfl),by repeat (first|(with_reducible first|exact HB.out|apply zlA|apply zlN|apply zlD|refine zlS ?_ GE208.out|refine zlS ?_ GE209.out)|exact HB.out)⟩
  ·replace c6:=Bool.eq_false_iff.mpr c6
   subst c6
   have H1:(some false)=some r:=by rw [if_neg (show ¬ (false=true) by decide)] at H;exact H
   clear H
   have H:=H1
   clear H1
   obtain rfl:=Option.some.inj H
   go_enter Try.func21,Try.ntmps21
   go_wp2_with (first|((with_reducible refine gate_dst (N:=2) rfl ?_);refine box_event ?hg (N:=2) ?hd (cs:=#[.slice A0_0 l0_0.length c0_0,.slice A0_1 l0_1.length c0_1,.int .i64 a0_2]) (t:=25) ?hr ?_;(case hd=>rfl);(case hg=>rfl);(case hr=>first|(go_simp;done)|(go_simp;rfl));intro gb208 hg w12 hbox hb;have n0_:=zm (below_step (by repeat (first|(with_reducible first|exact HB.out|apply zlA|apply zlN|apply zlD)|exact HB.out)) hb);have n1_:=zm (hbox);have n2_:=zm ((by rw [hg];exact (below_size (by repeat (first|(with_reducible first|exact HB.out|apply zlA|apply zlN|apply zlD)|exact HB.out))):w.heap.size≤gb208));have n3_:=zm ((by rw [hg];exact (below_size (by repeat (first|(with_reducible first|exact HB.out|apply zlA|apply zlN|apply zlD)|exact HB.out))):w.heap.size≤gb208));clear HB;have HB:=n0_;have BK208:=n1_;have GW208:=n2_;have GE208:=n3_;clear n0_ n1_ n2_ n3_;clear hb hbox hg)|((with_reducible refine gate_dst (N:=3) rfl ?_);refine box_event ?hg (N:=3) ?hd (cs:=#[.slice A1_0 l1_0.length c1_0,.slice A1_1 l1_1.length c1_1,.int .i64 a1_2]) (t:=25) ?hr ?_;(case hd=>rfl);(case hg=>rfl);(case hr=>first|(go_simp;done)|(go_simp;rfl));intro gb209 hg w13 hbox hb;have n0_:=zm (zbB (g:=gb208) (o:=.cells #[.slice A0_0 l0_0.length c0_0,.slice A0_1 l0_1.length c0_1,.int .i64 a0_2] 25 (0,0)) (by (with_reducible repeat (first|refine zbN ?_ _|refine zbD ?_|refine zbA ?_ _));exact BK208.out) hb);have n1_:=zm (below_step (by repeat (first|(with_reducible first|exact HB.out|apply zlA|apply zlN|apply zlD|refine zlS ?_ GE208.out)|exact HB.out)) hb);have n2_:=zm (hbox);have n3_:=zm ((by rw [hg];exact (below_size (by repeat (first|(with_reducible first|exact HB.out|apply zlA|apply zlN|apply zlD|refine zlS ?_ GE208.out)|exact HB.out))):w.heap.size≤gb209));have n4_:=zm ((by rw [hg];exact (below_size (by repeat (first|(with_reducible first|exact HB.out|apply zlA|apply zlN|apply zlD|refine zlS ?_ GE208.out)|exact HB.out))):w.heap.size≤gb209));have n5_:=zm ((by rw [hg];exact Nat.ne_of_lt (blk_lt (g:=gb208) (o:=.cells #[.slice A0_0 l0_0.length c0_0,.slice A0_1 l0_1.length c0_1,.int .i64 a0_2] 25 (0,0)) (by (with_reducible repeat (first|refine zbN ?_ _|refine zbD ?_|refine zbA ?_ _));exact BK208.out)):gb208≠gb209));have n6_:=zm ((by rw [hg];exact Nat.ne_of_gt (blk_lt (g:=gb208) (o:=.cells #[.slice A0_0 l0_0.length c0_0,.slice A0_1 l0_1.length c0_1,.int .i64 a0_2] 25 (0,0)) (by (with_reducible repeat (first|refine zbN ?_ _|refine zbD ?_|refine zbA ?_ _));exact BK208.out)):gb209≠gb208));clear BK208 HB;have BK208:=n0_;have HB:=n1_;have BK209:=n2_;have GW209:=n3_;have GE209:=n4_;have NB208_209:=n5_;have NB209_208:=n6_;clear n0_ n1_ n2_ n3_ n4_ n5_ n6_;clear hb hbox hg;have hnb14:=NB208_209.out;have hnc14:=NB209_208.out;have hcz15_0:w13.cell? ⟨gb208,0,none⟩=some (.slice A0_0 l0_0.length c0_0):=(blk_cell BK208.out 0).trans rfl;have hcz15_1:w13.cell? ⟨gb208,1,none⟩=some (.slice A0_1 l0_1.length c0_1):=(blk_cell BK208.out 1).trans rfl;have hcz15_2:w13.cell? ⟨gb208,2,none⟩=some (.int .i64 a0_2):=(blk_cell BK208.out 2).trans rfl;have hfz15_0:=blk_frozen BK208.out 0;have hfz15_1:=blk_frozen BK208.out 1;have hfz15_2:=blk_frozen BK208.out 2;have hcz16_0:w13.cell? ⟨gb209,0,none⟩=some (.slice A1_0 l1_0.length c1_0):=(blk_cell BK209.out 0).trans rfl;have hcz16_1:w13.cell? ⟨gb209,1,none⟩=some (.slice A1_1 l1_1.length c1_1):=(blk_cell BK209.out 1).trans rfl;have hcz16_2:w13.cell? ⟨gb209,2,none⟩=some (.int .i64 a1_2):=(blk_cell BK209.out 2).trans rfl;have hfz16_0:=blk_frozen BK209.out 0;have hfz16_1:=blk_frozen BK209.out 1;have hfz16_2:=blk_frozen BK209.out 2)|((with_reducible refine gate_callee (f:=59) rfl ?_);refine goesL_ (some 9) rfl rfl Try.func59 (by kernel_rfl) rfl #[.slice A0_0 l0_0.length c0_0,.slice A1_0 l1_0.length c1_0] rfl (by (try simp only [List.map_toArray,List.map_cons,List.map_nil]);first|done|rfl|(simp only [List.length_drop,List.length_take];rfl)) ?_;(with_reducible refine (slices_Equal_bool_bool.calls k _ _ l0_0 _ _ l1_0 true _ ?side1 ?side2 ?side3 ?side4 A3.out).mono ?_);(case side1=>repeat (first|exact (Kd.C_below HR0_0.out HB.out)|(with_reducible refine Kd.C_alloc ?_ _)|(with_reducible refine Kd.C_drewN ?_ _)|(with_reducible refine Kd.C_drew ?_)));(case side2=>exact HC0_0.out);(case side3=>repeat (first|exact (Kd.C_below HR1_0.out HB.out)|(with_reducible refine Kd.C_alloc ?_ _)|(with_reducible refine Kd.C_drewN ?_ _)|(with_reducible refine Kd.C_drew ?_)));(case side4=>exact HC1_0.out);rintro e w' ⟨rfl,⟨nd,rfl⟩⟩;refine ⟨_,rfl,?_⟩)|(go_at_call 60;(with_reducible refine (slices_Equal_int64_int64.calls k _ _ l0_1 _ _ l1_1 false _ ?side1 ?side2 ?side3 ?side4 A5.out).mono ?_);(case side1=>repeat (first|exact (Kd.C_below HR0_1.out (by repeat (first|(with_reducible first|exact HB.out|apply zlA|apply zlN|apply zlD|refine zlS ?_ GE208.out|refine zlS ?_ GE209.out)|exact HB.out)))|(with_reducible refine Kd.C_alloc ?_ _)|(with_reducible refine Kd.C_drewN ?_ _)|(with_reducible refine Kd.C_drew ?_)));(case side2=>exact HC0_1.out);(case side3=>repeat (first|exact (Kd.C_below HR1_1.out (by repeat (first|(with_reducible first|exact HB.out|apply zlA|apply zlN|apply zlD|refine zlS ?_ GE208.out|refine zlS ?_ GE209.out)|exact HB.out)))|(with_reducible refine Kd.C_alloc ?_ _)|(with_reducible refine Kd.C_drewN ?_ _)|(with_reducible refine Kd.C_drew ?_)));(case side4=>exact HC1_1.out);rintro e w' ⟨rfl,⟨nd,rfl⟩⟩))
   go_ret
   exact ⟨by first|rfl|(simp [errW_none,errW_some] <;> rfl)|(simp [*,errW_none,errW_some] <;> rfl),by repeat (first|(with_reducible first|exact HB.out|apply zlA|apply zlN|apply zlD|refine zlS ?_ GE208.out|refine zlS ?_ GE209.out)|exact HB.out)⟩
 ·replace c4:=Bool.eq_false_iff.mpr c4
  subst c4
  have H1:(some false)=some r:=by rw [if_neg (show ¬ (false=true) by decide)] at H;exact H
  clear H
  have H:=H1
  clear H1
  obtain rfl:=Option.some.inj H
  go_enter Try.func21,Try.ntmps21
  go_wp2_with (first|((with_reducible refine gate_dst (N:=2) rfl ?_);refine box_event ?hg (N:=2) ?hd (cs:=#[.slice A0_0 l0_0.length c0_0,.slice A0_1 l0_1.length c0_1,.int .i64 a0_2]) (t:=25) ?hr ?_;(case hd=>rfl);(case hg=>rfl);(case hr=>first|(go_simp;done)|(go_simp;rfl));intro gb208 hg w17 hbox hb;have n0_:=zm (below_step (by repeat (first|(with_reducible first|exact HB.out|apply zlA|apply zlN|apply zlD)|exact HB.out)) hb);have n1_:=zm (hbox);have n2_:=zm ((by rw [hg];exact (below_size (by repeat (first|(with_reducible first|exact HB.out|apply zlA|apply zlN|apply zlD)|exact HB.out))):w.heap.size≤gb208));have n3_:=zm ((by rw [hg];exact (below_size (by repeat (first|(with_reducible first|exact HB.out|apply zlA|apply zlN|apply zlD)|exact HB.out))):w.heap.size≤gb208));clear HB;have HB:=n0_;have BK208:=n1_;have GW208:=n2_;have GE208:=n3_;clear n0_ n1_ n2_ n3_;clear hb hbox hg)|((with_reducible refine gate_dst (N:=3) rfl ?_);refine box_event ?hg (N:=3) ?hd (cs:=#[.slice A1_0 l1_0.length c1_0,.slice A1_1 l1_1.length c1_1,.int .i64 a1_2]) (t:=25) ?hr ?_;(case hd=>rfl);(case hg=>rfl);(case hr=>first|(go_simp;done)|(go_simp;rfl));intro gb209 hg w18 hbox hb;have n0_:=zm (zbB (g:=gb208) (o:=.cells #[.slice A0_0 l0_0.length c0_0,.slice A0_1 l0_1.length c0_1,.int .i64 a0_2] 25 (0,0)) (by (with_reducible repeat (first|refine zbN ?_ _|refine zbD ?_|refine zbA ?_ _));exact BK208.out) hb);have n1_:=zm (below_step (by repeat (first|(with_reducible first|exact HB.out|apply zlA|apply zlN|apply zlD|refine zlS ?_ GE208.out)|exact HB.out)) hb);have n2_:=zm (hbox);have n3_:=zm ((by rw [hg];exact (below_size (by repeat (first|(with_reducible first|exact HB.out|apply zlA|apply zlN|apply zlD|refine zlS ?_ GE208.out)|exact HB.out))):w.heap.size≤gb209));have n4_:=zm ((by rw [hg];exact (below_size (by repeat (first|(with_reducible first|exact HB.out|apply zlA|apply zlN|apply zlD|refine zlS ?_ GE208.out)|exact HB.out))):w.heap.size≤gb209));have n5_:=zm ((by rw [hg];exact Nat.ne_of_lt (blk_lt (g:=gb208) (o:=.cells #[.slice A0_0 l0_0.length c0_0,.slice A0_1 l0_1.length c0_1,.int .i64 a0_2] 25 (0,0)) (by (with_reducible repeat (first|refine zbN ?_ _|refine zbD ?_|refine zbA ?_ _));exact BK208.out)):gb208≠gb209));have n6_:=zm ((by rw [hg];exact Nat.ne_of_gt (blk_lt (g:=gb208) (o:=.cells #[.slice A0_0 l0_0.length c0_0,.slice A0_1 l0_1.length c0_1,.int .i64 a0_2] 25 (0,0)) (by (with_reducible repeat (first|refine zbN ?_ _|refine zbD ?_|refine zbA ?_ _));exact BK208.out)):gb209≠gb208));clear BK208 HB;have BK208:=n0_;have HB:=n1_;have BK209:=n2_;have GW209:=n3_;have GE209:=n4_;have NB208_209:=n5_;have NB209_208:=n6_;clear n0_ n1_ n2_ n3_ n4_ n5_ n6_;clear hb hbox hg;have hnb19:=NB208_209.out;have hnc19:=NB209_208.out;have hcz20_0:w18.cell? ⟨gb208,0,none⟩=some (.slice A0_0 l0_0.length c0_0):=(blk_cell BK208.out 0).trans rfl;have hcz20_1:w18.cell? ⟨gb208,1,none⟩=some (.slice A0_1 l0_1.length c0_1):=(blk_cell BK208.out 1).trans rfl;have hcz20_2:w18.cell? ⟨gb208,2,none⟩=some (.int .i64 a0_2):=(blk_cell BK208.out 2).trans rfl;have hfz20_0:=blk_frozen BK208.out 0;have hfz20_1:=blk_frozen BK208.out 1;have hfz20_2:=blk_frozen BK208.out 2;have hcz21_0:w18.cell? ⟨gb209,0,none⟩=some (.slice A1_0 l1_0.length c1_0):=(blk_cell BK209.out 0).trans rfl;have hcz21_1:w18.cell? ⟨gb209,1,none⟩=some (.slice A1_1 l1_1.length c1_1):=(blk_cell BK209.out 1).trans rfl;have hcz21_2:w18.cell? ⟨gb209,2,none⟩=some (.int .i64 a1_2):=(blk_cell BK209.out 2).trans rfl;have hfz21_0:=blk_frozen BK209.out 0;have hfz21_1:=blk_frozen BK209.out 1;have hfz21_2:=blk_frozen BK209.out 2)|((with_reducible refine gate_callee (f:=59) rfl ?_);refine goesL_ (some 9) rfl rfl Try.func59 (by kernel_rfl) rfl #[.slice A0_0 l0_0.length c0_0,.slice A1_0 l1_0.length c1_0] rfl (by (try simp only [List.map_toArray,List.map_cons,List.map_nil]);first|done|rfl|(simp only [List.length_drop,List.length_take];rfl)) ?_;(with_reducible refine (slices_Equal_bool_bool.calls k _ _ l0_0 _ _ l1_0 false _ ?side1 ?side2 ?side3 ?side4 A3.out).mono ?_);(case side1=>repeat (first|exact (Kd.C_below HR0_0.out HB.out)|(with_reducible refine Kd.C_alloc ?_ _)|(with_reducible refine Kd.C_drewN ?_ _)|(with_reducible refine Kd.C_drew ?_)));(case side2=>exact HC0_0.out);(case side3=>repeat (first|exact (Kd.C_below HR1_0.out HB.out)|(with_reducible refine Kd.C_alloc ?_ _)|(with_reducible refine Kd.C_drewN ?_ _)|(with_reducible refine Kd.C_drew ?_)));(case side4=>exact HC1_0.out);rintro e w' ⟨rfl,⟨nd,rfl⟩⟩;refine ⟨_,rfl,?_⟩))
  go_ret
  exact ⟨by first|rfl|(simp [errW_none,errW_some] <;> rfl)|(simp [*,errW_none,errW_some] <;> rfl),by repeat (first|(with_reducible first|exact HB.out|apply zlA|apply zlN|apply zlD|refine zlS ?_ GE208.out|refine zlS ?_ GE209.out)|exact HB.out)⟩
def mapjnl_Covers.f (k:Nat) (l0_0:List Bool) (l0_1:List Int) (a0_2:Int) (l1_0:List Bool) (l1_1:List Int) (a1_2:Int):Option (Bool):=(mapjnl_Join.f k l0_0 l0_1 a0_2 l1_0 l1_1 a1_2).bind fun bt214=>(if bt214.2.2.2=0 then ((mapjnl_Same.f k bt214.1 bt214.2.1 bt214.2.2.1 l0_0 l0_1 a0_2).bind fun t223=>(some t223)) else (some false))
theorem mapjnl_Covers.mono:∀ a0 a1 a2 a3 a4 a5 k,LeO (mapjnl_Covers.f k a0 a1 a2 a3 a4 a5) (mapjnl_Covers.f (k + 1) a0 a1 a2 a3 a4 a5):=by
 intro a0 a1 a2 a3 a4 a5 k
 unfold mapjnl_Covers.f
 repeat' first
   | (with_reducible exact mapjnl_Join.mono _ _ _ _ _ _ _)
   | (with_reducible exact mapjnl_Same.mono _ _ _ _ _ _ _)
   | (with_reducible exact LeO.refl _)
   | (with_reducible exact LeO.none _)
   | (with_reducible refine LeO.ite ?_ ?_)
   | (with_reducible refine LeO.bind ?_ (fun _=>?_))
   | exact mapjnl_Join.mono _ _ _ _ _ _ _
   | exact mapjnl_Same.mono _ _ _ _ _ _ _
   | exact LeO.none _
   | refine LeO.ite ?_ ?_
   | refine LeO.bind ?_ (fun _=>?_)
set_option maxHeartbeats 8000000 in
set_option maxRecDepth 100000 in
theorem mapjnl_Covers.calls (k:Nat) (A0_0:Option Addr) (c0_0:Nat) (l0_0:List Bool) (A0_1:Option Addr) (c0_1:Nat) (l0_1:List Int) (a0_2:Int) (A1_0:Option Addr) (c1_0:Nat) (l1_0:List Bool) (A1_1:Option Addr) (c1_1:Nat) (l1_1:List Int) (a1_2:Int) (r:Bool) (w:World) (hr0_0:Kd.C Kd.bool w A0_0 l0_0.length l0_0) (hc0_0:l0_0.length≤c0_0) (hr0_1:Kd.C (Kd.int .i64) w A0_1 l0_1.length l0_1) (hc0_1:l0_1.length≤c0_1) (hr1_0:Kd.C Kd.bool w A1_0 l1_0.length l1_0) (hc1_0:l1_0.length≤c1_0) (hr1_1:Kd.C (Kd.int .i64) w A1_1 l1_1.length l1_1) (hc1_1:l1_1.length≤c1_1) (h:mapjnl_Covers.f k l0_0 l0_1 a0_2 l1_0 l1_1 a1_2=some r) :
  Calls Try.prog 19 #[.agg #[.slice A0_0 l0_0.length c0_0,.slice A0_1 l0_1.length c0_1,.int .i64 a0_2],.agg #[.slice A1_0 l1_0.length c1_0,.slice A1_1 l1_1.length c1_1,.int .i64 a1_2]] w fun e w'=>e=.returned (.bool r)∧Below w.heap.size w w':=by
 have hu25:=Try.underlying25
 have HR0_0:=zm hr0_0
 have HC0_0:=zm hc0_0
 clear hr0_0 hc0_0
 have HR0_1:=zm hr0_1
 have HC0_1:=zm hc0_1
 clear hr0_1 hc0_1
 have HR1_0:=zm hr1_0
 have HC1_0:=zm hc1_0
 clear hr1_0 hc1_0
 have HR1_1:=zm hr1_1
 have HC1_1:=zm hc1_1
 clear hr1_1 hc1_1
 have HB:=zm (Below.refl w.heap.size w)
 have H:((mapjnl_Join.f k l0_0 l0_1 a0_2 l1_0 l1_1 a1_2).bind fun bt214=>(if bt214.2.2.2=0 then ((mapjnl_Same.f k bt214.1 bt214.2.1 bt214.2.2.1 l0_0 l0_1 a0_2).bind fun t223=>(some t223)) else (some false)))=some r:=h
 clear h
 replace H:=Option.bind_eq_some_iff.mp H
 obtain ⟨⟨t214,t217,t220,t221⟩,A30,H⟩:=H
 replace H:(if t221=0 then ((mapjnl_Same.f k t214 t217 t220 l0_0 l0_1 a0_2).bind fun t223=>(some t223)) else (some false))=some r:=H
 have A3:=zm A30
 clear A30
 by_cases c4:t221=0
 ·rw [if_pos c4] at H
  have c4b0:(t221 == 0)=true:=beq_iff_eq.mpr c4
  have c4b1:(t221 != 0)=false:=bne_eq_false_iff_eq.mpr c4
  clear c4
  replace H:=Option.bind_eq_some_iff.mp H
  obtain ⟨t223,A50,H⟩:=H
  replace H:(some t223)=some r:=H
  have A5:=zm A50
  clear A50
  obtain rfl:=Option.some.inj H
  go_enter Try.func19,Try.ntmps19
  go_wp2_with (first|((with_reducible refine gate_dst (N:=2) rfl ?_);refine box_event ?hg (N:=2) ?hd (cs:=#[.slice A0_0 l0_0.length c0_0,.slice A0_1 l0_1.length c0_1,.int .i64 a0_2]) (t:=25) ?hr ?_;(case hd=>rfl);(case hg=>rfl);(case hr=>first|(go_simp;done)|(go_simp;rfl));intro gb212 hg w6 hbox hb;have n0_:=zm (below_step (by repeat (first|(with_reducible first|exact HB.out|apply zlA|apply zlN|apply zlD)|exact HB.out)) hb);have n1_:=zm (hbox);have n2_:=zm ((by rw [hg];exact (below_size (by repeat (first|(with_reducible first|exact HB.out|apply zlA|apply zlN|apply zlD)|exact HB.out))):w.heap.size≤gb212));have n3_:=zm ((by rw [hg];exact (below_size (by repeat (first|(with_reducible first|exact HB.out|apply zlA|apply zlN|apply zlD)|exact HB.out))):w.heap.size≤gb212));clear HB;have HB:=n0_;have BK212:=n1_;have GW212:=n2_;have GE212:=n3_;clear n0_ n1_ n2_ n3_;clear hb hbox hg)|((with_reducible refine gate_dst (N:=3) rfl ?_);refine box_event ?hg (N:=3) ?hd (cs:=#[.slice A1_0 l1_0.length c1_0,.slice A1_1 l1_1.length c1_1,.int .i64 a1_2]) (t:=25) ?hr ?_;(case hd=>rfl);(case hg=>rfl);(case hr=>first|(go_simp;done)|(go_simp;rfl));intro gb213 hg w7 hbox hb;have n0_:=zm (zbB (g:=gb212) (o:=.cells #[.slice A0_0 l0_0.length c0_0,.slice A0_1 l0_1.length c0_1,.int .i64 a0_2] 25 (0,0)) (by (with_reducible repeat (first|refine zbN ?_ _|refine zbD ?_|refine zbA ?_ _));exact BK212.out) hb);have n1_:=zm (below_step (by repeat (first|(with_reducible first|exact HB.out|apply zlA|apply zlN|apply zlD|refine zlS ?_ GE212.out)|exact HB.out)) hb);have n2_:=zm (hbox);have n3_:=zm ((by rw [hg];exact (below_size (by repeat (first|(with_reducible first|exact HB.out|apply zlA|apply zlN|apply zlD|refine zlS ?_ GE212.out)|exact HB.out))):w.heap.size≤gb213));have n4_:=zm ((by rw [hg];exact (below_size (by repeat (first|(with_reducible first|exact HB.out|apply zlA|apply zlN|apply zlD|refine zlS ?_ GE212.out)|exact HB.out))):w.heap.size≤gb213));have n5_:=zm ((by rw [hg];exact Nat.ne_of_lt (blk_lt (g:=gb212) (o:=.cells #[.slice A0_0 l0_0.length c0_0,.slice A0_1 l0_1.length c0_1,.int .i64 a0_2] 25 (0,0)) (by (with_reducible repeat (first|refine zbN ?_ _|refine zbD ?_|refine zbA ?_ _));exact BK212.out)):gb212≠gb213));have n6_:=zm ((by rw [hg];exact Nat.ne_of_gt (blk_lt (g:=gb212) (o:=.cells #[.slice A0_0 l0_0.length c0_0,.slice A0_1 l0_1.length c0_1,.int .i64 a0_2] 25 (0,0)) (by (with_reducible repeat (first|refine zbN ?_ _|refine zbD ?_|refine zbA ?_ _));exact BK212.out)):gb213≠gb212));clear BK212 HB;have BK212:=n0_;have HB:=n1_;have BK213:=n2_;have GW213:=n3_;have GE213:=n4_;have NB212_213:=n5_;have NB213_212:=n6_;clear n0_ n1_ n2_ n3_ n4_ n5_ n6_;clear hb hbox hg;have hnb8:=NB212_213.out;have hnc8:=NB213_212.out;have hcz9_0:w7.cell? ⟨gb212,0,none⟩=some (.slice A0_0 l0_0.length c0_0):=(blk_cell BK212.out 0).trans rfl;have hcz9_1:w7.cell? ⟨gb212,1,none⟩=some (.slice A0_1 l0_1.length c0_1):=(blk_cell BK212.out 1).trans rfl;have hcz9_2:w7.cell? ⟨gb212,2,none⟩=some (.int .i64 a0_2):=(blk_cell BK212.out 2).trans rfl;have hfz9_0:=blk_frozen BK212.out 0;have hfz9_1:=blk_frozen BK212.out 1;have hfz9_2:=blk_frozen BK212.out 2;have hcz10_0:w7.cell? ⟨gb213,0,none⟩=some (.slice A1_0 l1_0.length c1_0):=(blk_cell BK213.out 0).trans rfl;have hcz10_1:w7.cell? ⟨gb213,1,none⟩=some (.slice A1_1 l1_1.length c1_1):=(blk_cell BK213.out 1).trans rfl;have hcz10_2:w7.cell? ⟨gb213,2,none⟩=some (.int .i64 a1_2):=(blk_cell BK213.out 2).trans rfl;have hfz10_0:=blk_frozen BK213.out 0;have hfz10_1:=blk_frozen BK213.out 1;have hfz10_2:=blk_frozen BK213.out 2)|((with_reducible refine gate_callee (f:=13) rfl ?_);refine goesL_ (some 10) rfl rfl Try.func13 (by kernel_rfl) rfl #[.agg #[.slice A0_0 l0_0.length c0_0,.slice A0_1 l0_1.length c0_1,.int .i64 a0_2],.agg #[.slice A1_0 l1_0.length c1_0,.slice A1_1 l1_1.length c1_1,.int .i64 a1_2]] rfl (by (try simp only [List.map_toArray,List.map_cons,List.map_nil]);first|done|rfl|(simp only [List.length_drop,List.length_take];rfl)) ?_;(with_reducible refine (mapjnl_Join.calls k _ _ l0_0 _ _ l0_1 a0_2 _ _ l1_0 _ _ l1_1 a1_2 t214 t217 t220 t221 _ ?side1 ?side2 ?side3 ?side4 ?side5 ?side6 ?side7 ?side8 A3.out).mono ?_);(case side1=>repeat (first|exact (Kd.C_below HR0_0.out HB.out)|(with_reducible refine Kd.C_alloc ?_ _)|(with_reducible refine Kd.C_drewN ?_ _)|(with_reducible refine Kd.C_drew ?_)));(case side2=>exact HC0_0.out);(case side3=>repeat (first|exact (Kd.C_below HR0_1.out HB.out)|(with_reducible refine Kd.C_alloc ?_ _)|(with_reducible refine Kd.C_drewN ?_ _)|(with_reducible refine Kd.C_drew ?_)));(case side4=>exact HC0_1.out);(case side5=>repeat (first|exact (Kd.C_below HR1_0.out HB.out)|(with_reducible refine Kd.C_alloc ?_ _)|(with_reducible refine Kd.C_drewN ?_ _)|(with_reducible refine Kd.C_drew ?_)));(case side6=>exact HC1_0.out);(case side7=>repeat (first|exact (Kd.C_below HR1_1.out HB.out)|(with_reducible refine Kd.C_alloc ?_ _)|(with_reducible refine Kd.C_drewN ?_ _)|(with_reducible refine Kd.C_drew ?_)));(case side8=>exact HC1_1.out);rintro e w11 ⟨v215,v218,rfl,ho0,ho1,hb⟩;refine ⟨_,rfl,?_⟩;have n0_:=zm (Kd.R_lower ho0 (below_size (by repeat (first|(with_reducible first|exact HB.out|apply zlA|apply zlN|apply zlD|refine zlS ?_ GE212.out|refine zlS ?_ GE213.out)|exact HB.out))));have n1_:=zm (Kd.R_lower ho1 (below_size (by repeat (first|(with_reducible first|exact HB.out|apply zlA|apply zlN|apply zlD|refine zlS ?_ GE212.out|refine zlS ?_ GE213.out)|exact HB.out))));have n2_:=zm (zbB (g:=gb212) (o:=.cells #[.slice A0_0 l0_0.length c0_0,.slice A0_1 l0_1.length c0_1,.int .i64 a0_2] 25 (0,0)) (by (with_reducible repeat (first|refine zbN ?_ _|refine zbD ?_|refine zbA ?_ _));exact BK212.out) hb);have n3_:=zm (zbB (g:=gb213) (o:=.cells #[.slice A1_0 l1_0.length c1_0,.slice A1_1 l1_1.length c1_1,.int .i64 a1_2] 25 (0,0)) (by (with_reducible repeat (first|refine zbN ?_ _|refine zbD ?_|refine zbA ?_ _));exact BK213.out) hb);have n4_:=zm (below_step (by repeat (first|(with_reducible first|exact HB.out|apply zlA|apply zlN|apply zlD|refine zlS ?_ GE212.out|refine zlS ?_ GE213.out)|exact HB.out)) hb);clear BK212 BK213 HB;have HO216:=n0_;have HO219:=n1_;have BK212:=n2_;have BK213:=n3_;have HB:=n4_;clear n0_ n1_ n2_ n3_ n4_;(try clear hb);(try clear hb2);(try clear hk);(try clear hi);(try clear ho0);(try clear ho1))|((with_reducible refine gate_dst (N:=5) rfl ?_);refine box_event ?hg (N:=5) ?hd (cs:=#[.slice none 0 0,.slice none 0 0,.int .i64 0]) (t:=25) ?hr ?_;(case hd=>rfl);(case hg=>rfl);(case hr=>first|(go_simp;done)|(go_simp;rfl));intro gb222 hg w12 hbox hb;have n0_:=zm (Kd.R_below (by (with_reducible repeat (first|apply zrA|apply zrN|apply zrD));exact HO216.out) hb);have n1_:=zm (Kd.R_below (by (with_reducible repeat (first|apply zrA|apply zrN|apply zrD));exact HO219.out) hb);have n2_:=zm (zbB (g:=gb212) (o:=.cells #[.slice A0_0 l0_0.length c0_0,.slice A0_1 l0_1.length c0_1,.int .i64 a0_2] 25 (0,0)) (by (with_reducible repeat (first|refine zbN ?_ _|refine zbD ?_|refine zbA ?_ _));exact BK212.out) hb);have n3_:=zm (zbB (g:=gb213) (o:=.cells #[.slice A1_0 l1_0.length c1_0,.slice A1_1 l1_1.length c1_1,.int .i64 a1_2] 25 (0,0)) (by (with_reducible repeat (first|refine zbN ?_ _|refine zbD ?_|refine zbA ?_ _));exact BK213.out) hb);have n4_:=zm (below_step (by repeat (first|(with_reducible first|exact HB.out|apply zlA|apply zlN|apply zlD|refine zlS ?_ GE212.out|refine zlS ?_ GE213.out)|exact HB.out)) hb);have n5_:=zm (hbox);have n6_:=zm ((by rw [hg];exact (below_size (by repeat (first|(with_reducible first|exact HB.out|apply zlA|apply zlN|apply zlD|refine zlS ?_ GE212.out|refine zlS ?_ GE213.out)|exact HB.out))):w.heap.size≤gb222));have n7_:=zm ((by rw [hg];exact (below_size (by repeat (first|(with_reducible first|exact HB.out|apply zlA|apply zlN|apply zlD|refine zlS ?_ GE212.out|refine zlS ?_ GE213.out)|exact HB.out))):w.heap.size≤gb222));have n8_:=zm ((by rw [hg];exact Nat.ne_of_lt (blk_lt (g:=gb212) (o:=.cells #[.slice A0_0 l0_0.length c0_0,.slice A0_1 l0_1.length c0_1,.int .i64 a0_2] 25 (0,0)) (by (with_reducible repeat (first|refine zbN ?_ _|refine zbD ?_|refine zbA ?_ _));exact BK212.out)):gb212≠gb222));have n9_:=zm ((by rw [hg];exact Nat.ne_of_gt (blk_lt (g:=gb212) (o:=.cells #[.slice A0_0 l0_0.length c0_0,.slice A0_1 l0_1.length c0_1,.int .i64 a0_2] 25 (0,0)) (by (with_reducible repeat (first|refine zbN ?_ _|refine zbD ?_|refine zbA ?_ _));exact BK212.out)):gb222≠gb212));have n10_:=zm ((by rw [hg];exact Nat.ne_of_lt (blk_lt (g:=gb213) (o:=.cells #[.slice A1_0 l1_0.length c1_0,.slice A1_1 l1_1.length c1_1,.int .i64 a1_2] 25 (0,0)) (by (with_reducible repeat (first|refine zbN ?_ _|refine zbD ?_|refine zbA ?_ _));exact BK213.out)):gb213≠gb222));have n11_:=zm ((by rw [hg];exact Nat.ne_of_gt (blk_lt (g:=gb213) (o:=.cells #[.slice A1_0 l1_0.length c1_0,.slice A1_1 l1_1.length c1_1,.int .i64 a1_2] 25 (0,0)) (by (with_reducible repeat (first|refine zbN ?_ _|refine zbD ?_|refine zbA ?_ _));exact BK213.out)):gb222≠gb213));clear HO216 HO219 BK212 BK213 HB;have HO216:=n0_;have HO219:=n1_;have BK212:=n2_;have BK213:=n3_;have HB:=n4_;have BK222:=n5_;have GW222:=n6_;have GE222:=n7_;have NB212_222:=n8_;have NB222_212:=n9_;have NB213_222:=n10_;have NB222_213:=n11_;clear n0_ n1_ n2_ n3_ n4_ n5_ n6_ n7_ n8_ n9_ n10_ n11_;clear hb hbox hg;obtain ⟨Ao13,co13,eo13⟩:=Kd.R_slice HO216.out;subst eo13;have hnb14:=NB222_212.out;have hnc14:=NB212_222.out;have hnb15:=NB222_213.out;have hnc15:=NB213_222.out;have hcz16_0:w12.cell? ⟨gb222,0,none⟩=some (.slice none 0 0):=(blk_cell BK222.out 0).trans rfl;have hcz16_1:w12.cell? ⟨gb222,1,none⟩=some (.slice none 0 0):=(blk_cell BK222.out 1).trans rfl;have hcz16_2:w12.cell? ⟨gb222,2,none⟩=some (.int .i64 0):=(blk_cell BK222.out 2).trans rfl;have hfz16_0:=blk_frozen BK222.out 0;have hfz16_1:=blk_frozen BK222.out 1;have hfz16_2:=blk_frozen BK222.out 2;obtain ⟨Ao17,co17,eo17⟩:=Kd.R_slice HO219.out;subst eo17;have hcz18_0:w12.cell? ⟨gb212,0,none⟩=some (.slice A0_0 l0_0.length c0_0):=(blk_cell BK212.out 0).trans rfl;have hcz18_1:w12.cell? ⟨gb212,1,none⟩=some (.slice A0_1 l0_1.length c0_1):=(blk_cell BK212.out 1).trans rfl;have hcz18_2:w12.cell? ⟨gb212,2,none⟩=some (.int .i64 a0_2):=(blk_cell BK212.out 2).trans rfl;have hfz18_0:=blk_frozen BK212.out 0;have hfz18_1:=blk_frozen BK212.out 1;have hfz18_2:=blk_frozen BK212.out 2)|(go_at_call 21;(with_reducible refine (mapjnl_Same.calls k _ _ t214 _ _ t217 t220 _ _ l0_0 _ _ l0_1 a0_2 t223 _ ?side1 ?side2 ?side3 ?side4 ?side5 ?side6 ?side7 ?side8 A5.out).mono ?_);(case side1=>refine (Kd.R_reads' (e:=4) (base:=w.heap.size) (ok:=fun k_=>True) (n:=t214.length) (c:=co13) ?_).2.2;exact (by (with_reducible repeat (first|apply zrA|apply zrN|apply zrD));exact (Kd.R_mono (Kd.R_far (p:=⟨gb222,2,none⟩) (Kd.R_far (p:=⟨gb222,1,none⟩) (Kd.R_far (p:=⟨gb222,0,none⟩) (Kd.R_types HO216.out BK222.out (by decide)) (fun _ hk=>hk.2) (.slice Ao13 t214.length co13)) (fun _ hk=>hk.2) (.slice Ao17 t217.length co17)) (fun _ hk=>hk.2) (.int .i64 t220)) (fun _ h_=>h_.1))));(case side2=>exact (Kd.R_reads' HO216.out).2.1);(case side3=>refine (Kd.R_reads' (e:=2) (base:=w.heap.size) (ok:=fun k_=>True) (n:=t217.length) (c:=co17) ?_).2.2;exact (by (with_reducible repeat (first|apply zrA|apply zrN|apply zrD));exact (Kd.R_mono (Kd.R_far (p:=⟨gb222,2,none⟩) (Kd.R_far (p:=⟨gb222,1,none⟩) (Kd.R_far (p:=⟨gb222,0,none⟩) (Kd.R_types HO219.out BK222.out (by decide)) (fun _ hk=>hk.2) (.slice Ao13 t214.length co13)) (fun _ hk=>hk.2) (.slice Ao17 t217.length co17)) (fun _ hk=>hk.2) (.int .i64 t220)) (fun _ h_=>h_.1))));(case side4=>exact (Kd.R_reads' HO219.out).2.1);(case side5=>exact Kd.C_below HR0_0.out (by repeat (first|(with_reducible first|exact HB.out|apply zlA|apply zlN|apply zlD|refine zlS ?_ GE212.out|refine zlS ?_ GE213.out|refine zlS ?_ GE222.out)|exact HB.out)));(case side6=>exact HC0_0.out);(case side7=>exact Kd.C_below HR0_1.out (by repeat (first|(with_reducible first|exact HB.out|apply zlA|apply zlN|apply zlD|refine zlS ?_ GE212.out|refine zlS ?_ GE213.out|refine zlS ?_ GE222.out)|exact HB.out)));(case side8=>exact HC0_1.out);rintro e w19 ⟨rfl,hb⟩;have n0_:=zm (Kd.R_below (by (with_reducible repeat (first|apply zrA|apply zrN|apply zrD));exact (Kd.R_mono (Kd.R_far (p:=⟨gb222,2,none⟩) (Kd.R_far (p:=⟨gb222,1,none⟩) (Kd.R_far (p:=⟨gb222,0,none⟩) (Kd.R_types HO216.out BK222.out (by decide)) (fun _ hk=>hk.2) (.slice Ao13 t214.length co13)) (fun _ hk=>hk.2) (.slice Ao17 t217.length co17)) (fun _ hk=>hk.2) (.int .i64 t220)) (fun _ h_=>h_.1))) hb);have n1_:=zm (Kd.R_below (by (with_reducible repeat (first|apply zrA|apply zrN|apply zrD));exact (Kd.R_mono (Kd.R_far (p:=⟨gb222,2,none⟩) (Kd.R_far (p:=⟨gb222,1,none⟩) (Kd.R_far (p:=⟨gb222,0,none⟩) (Kd.R_types HO219.out BK222.out (by decide)) (fun _ hk=>hk.2) (.slice Ao13 t214.length co13)) (fun _ hk=>hk.2) (.slice Ao17 t217.length co17)) (fun _ hk=>hk.2) (.int .i64 t220)) (fun _ h_=>h_.1))) hb);have n2_:=zm (zbB (g:=gb212) (o:=.cells #[.slice A0_0 l0_0.length c0_0,.slice A0_1 l0_1.length c0_1,.int .i64 a0_2] 25 (0,0)) (by (with_reducible repeat (first|refine zbN ?_ _|refine zbD ?_|refine zbA ?_ _));refine blk_far ?_ NB212_222.out _;(with_reducible repeat (first|refine zbN ?_ _|refine zbD ?_|refine zbA ?_ _));refine blk_far ?_ NB212_222.out _;(with_reducible repeat (first|refine zbN ?_ _|refine zbD ?_|refine zbA ?_ _));refine blk_far ?_ NB212_222.out _;(with_reducible repeat (first|refine zbN ?_ _|refine zbD ?_|refine zbA ?_ _));exact BK212.out) hb);have n3_:=zm (zbB (g:=gb213) (o:=.cells #[.slice A1_0 l1_0.length c1_0,.slice A1_1 l1_1.length c1_1,.int .i64 a1_2] 25 (0,0)) (by (with_reducible repeat (first|refine zbN ?_ _|refine zbD ?_|refine zbA ?_ _));refine blk_far ?_ NB213_222.out _;(with_reducible repeat (first|refine zbN ?_ _|refine zbD ?_|refine zbA ?_ _));refine blk_far ?_ NB213_222.out _;(with_reducible repeat (first|refine zbN ?_ _|refine zbD ?_|refine zbA ?_ _));refine blk_far ?_ NB213_222.out _;(with_reducible repeat (first|refine zbN ?_ _|refine zbD ?_|refine zbA ?_ _));exact BK213.out) hb);have n4_:=zm (zbB (g:=gb222) (o:=.cells #[.slice Ao13 t214.length co13,.slice Ao17 t217.length co17,.int .i64 t220] 25 (0,0)) (by (with_reducible repeat (first|refine zbN ?_ _|refine zbD ?_|refine zbA ?_ _));refine blk_put (cs:=#[.slice Ao13 t214.length co13,.slice Ao17 t217.length co17,.int .i64 0]) ?_ 2 _ rfl;(with_reducible repeat (first|refine zbN ?_ _|refine zbD ?_|refine zbA ?_ _));refine blk_put (cs:=#[.slice Ao13 t214.length co13,.slice none 0 0,.int .i64 0]) ?_ 1 _ rfl;(with_reducible repeat (first|refine zbN ?_ _|refine zbD ?_|refine zbA ?_ _));refine blk_put (cs:=#[.slice none 0 0,.slice none 0 0,.int .i64 0]) ?_ 0 _ rfl;(with_reducible repeat (first|refine zbN ?_ _|refine zbD ?_|refine zbA ?_ _));exact BK222.out) hb);have n5_:=zm (below_step (by repeat (first|(with_reducible first|exact HB.out|apply zlA|apply zlN|apply zlD|refine zlS ?_ GE212.out|refine zlS ?_ GE213.out|refine zlS ?_ GE222.out)|exact HB.out)) hb);clear HO216 HO219 BK212 BK213 BK222 HB;have HO216:=n0_;have HO219:=n1_;have BK212:=n2_;have BK213:=n3_;have BK222:=n4_;have HB:=n5_;clear n0_ n1_ n2_ n3_ n4_ n5_;(try clear hb);(try clear hb2);(try clear hk);(try clear hi)))
  go_ret
  exact ⟨by first|rfl|(simp [errW_none,errW_some] <;> rfl)|(simp [*,errW_none,errW_some] <;> rfl),by repeat (first|(with_reducible first|exact HB.out|apply zlA|apply zlN|apply zlD|refine zlS ?_ GE212.out|refine zlS ?_ GE213.out|refine zlS ?_ GE222.out)|exact HB.out)⟩
 ·rw [if_neg c4] at H
  have c4b0:(t221 == 0)=false:=beq_eq_false_iff_ne.mpr c4
  have c4b1:(t221 != 0)=true:=bne_iff_ne.mpr c4
  obtain rfl:=Option.some.inj H
  go_enter Try.func19,Try.ntmps19
  go_wp2_with (first|((with_reducible refine gate_dst (N:=2) rfl ?_);refine box_event ?hg (N:=2) ?hd (cs:=#[.slice A0_0 l0_0.length c0_0,.slice A0_1 l0_1.length c0_1,.int .i64 a0_2]) (t:=25) ?hr ?_;(case hd=>rfl);(case hg=>rfl);(case hr=>first|(go_simp;done)|(go_simp;rfl));intro gb212 hg w20 hbox hb;have n0_:=zm (below_step (by repeat (first|(with_reducible first|exact HB.out|apply zlA|apply zlN|apply zlD)|exact HB.out)) hb);have n1_:=zm (hbox);have n2_:=zm ((by rw [hg];exact (below_size (by repeat (first|(with_reducible first|exact HB.out|apply zlA|apply zlN|apply zlD)|exact HB.out))):w.heap.size≤gb212));have n3_:=zm ((by rw [hg];exact (below_size (by repeat (first|(with_reducible first|exact HB.out|apply zlA|apply zlN|apply zlD)|exact HB.out))):w.heap.size≤gb212));clear HB;have HB:=n0_;have BK212:=n1_;have GW212:=n2_;have GE212:=n3_;clear n0_ n1_ n2_ n3_;clear hb hbox hg)|((with_reducible refine gate_dst (N:=3) rfl ?_);refine box_event ?hg (N:=3) ?hd (cs:=#[.slice A1_0 l1_0.length c1_0,.slice A1_1 l1_1.length c1_1,.int .i64 a1_2]) (t:=25) ?hr ?_;(case hd=>rfl);(case hg=>rfl);(case hr=>first|(go_simp;done)|(go_simp;rfl));intro gb213 hg w21 hbox hb;have n0_:=zm (zbB (g:=gb212) (o:=.cells #[.slice A0_0 l0_0.length c0_0,.slice A0_1 l0_1.length c0_1,.int .i64 a0_2] 25 (0,0)) (by (with_reducible repeat (first|refine zbN ?_ _|refine zbD ?_|refine zbA ?_ _));exact BK212.out) hb);have n1_:=zm (below_step (by repeat (first|(with_reducible first|exact HB.out|apply zlA|apply zlN|apply zlD|refine zlS ?_ GE212.out)|exact HB.out)) hb);have n2_:=zm (hbox);have n3_:=zm ((by rw [hg];exact (below_size (by repeat (first|(with_reducible first|exact HB.out|apply zlA|apply zlN|apply zlD|refine zlS ?_ GE212.out)|exact HB.out))):w.heap.size≤gb213));have n4_:=zm ((by rw [hg];exact (below_size (by repeat (first|(with_reducible first|exact HB.out|apply zlA|apply zlN|apply zlD|refine zlS ?_ GE212.out)|exact HB.out))):w.heap.size≤gb213));have n5_:=zm ((by rw [hg];exact Nat.ne_of_lt (blk_lt (g:=gb212) (o:=.cells #[.slice A0_0 l0_0.length c0_0,.slice A0_1 l0_1.length c0_1,.int .i64 a0_2] 25 (0,0)) (by (with_reducible repeat (first|refine zbN ?_ _|refine zbD ?_|refine zbA ?_ _));exact BK212.out)):gb212≠gb213));have n6_:=zm ((by rw [hg];exact Nat.ne_of_gt (blk_lt (g:=gb212) (o:=.cells #[.slice A0_0 l0_0.length c0_0,.slice A0_1 l0_1.length c0_1,.int .i64 a0_2] 25 (0,0)) (by (with_reducible repeat (first|refine zbN ?_ _|refine zbD ?_|refine zbA ?_ _));exact BK212.out)):gb213≠gb212));clear BK212 HB;have BK212:=n0_;have HB:=n1_;have BK213:=n2_;have GW213:=n3_;have GE213:=n4_;have NB212_213:=n5_;have NB213_212:=n6_;clear n0_ n1_ n2_ n3_ n4_ n5_ n6_;clear hb hbox hg;have hnb22:=NB212_213.out;have hnc22:=NB213_212.out;have hcz23_0:w21.cell? ⟨gb212,0,none⟩=some (.slice A0_0 l0_0.length c0_0):=(blk_cell BK212.out 0).trans rfl;have hcz23_1:w21.cell? ⟨gb212,1,none⟩=some (.slice A0_1 l0_1.length c0_1):=(blk_cell BK212.out 1).trans rfl;have hcz23_2:w21.cell? ⟨gb212,2,none⟩=some (.int .i64 a0_2):=(blk_cell BK212.out 2).trans rfl;have hfz23_0:=blk_frozen BK212.out 0;have hfz23_1:=blk_frozen BK212.out 1;have hfz23_2:=blk_frozen BK212.out 2;have hcz24_0:w21.cell? ⟨gb213,0,none⟩=some (.slice A1_0 l1_0.length c1_0):=(blk_cell BK213.out 0).trans rfl;have hcz24_1:w21.cell? ⟨gb213,1,none⟩=some (.slice A1_1 l1_1.length c1_1):=(blk_cell BK213.out 1).trans rfl;have hcz24_2:w21.cell? ⟨gb213,2,none⟩=some (.int .i64 a1_2):=(blk_cell BK213.out 2).trans rfl;have hfz24_0:=blk_frozen BK213.out 0;have hfz24_1:=blk_frozen BK213.out 1;have hfz24_2:=blk_frozen BK213.out 2)|((with_reducible refine gate_callee (f:=13) rfl ?_);refine goesL_ (some 10) rfl rfl Try.func13 (by kernel_rfl) rfl #[.agg #[.slice A0_0 l0_0.length c0_0,.slice A0_1 l0_1.length c0_1,.int .i64 a0_2],.agg #[.slice A1_0 l1_0.length c1_0,.slice A1_1 l1_1.length c1_1,.int .i64 a1_2]] rfl (by (try simp only [List.map_toArray,List.map_cons,List.map_nil]);first|done|rfl|(simp only [List.length_drop,List.length_take];rfl)) ?_;(with_reducible refine (mapjnl_Join.calls k _ _ l0_0 _ _ l0_1 a0_2 _ _ l1_0 _ _ l1_1 a1_2 t214 t217 t220 t221 _ ?side1 ?side2 ?side3 ?side4 ?side5 ?side6 ?side7 ?side8 A3.out).mono ?_);(case side1=>repeat (first|exact (Kd.C_below HR0_0.out HB.out)|(with_reducible refine Kd.C_alloc ?_ _)|(with_reducible refine Kd.C_drewN ?_ _)|(with_reducible refine Kd.C_drew ?_)));(case side2=>exact HC0_0.out);(case side3=>repeat (first|exact (Kd.C_below HR0_1.out HB.out)|(with_reducible refine Kd.C_alloc ?_ _)|(with_reducible refine Kd.C_drewN ?_ _)|(with_reducible refine Kd.C_drew ?_)));(case side4=>exact HC0_1.out);(case side5=>repeat (first|exact (Kd.C_below HR1_0.out HB.out)|(with_reducible refine Kd.C_alloc ?_ _)|(with_reducible refine Kd.C_drewN ?_ _)|(with_reducible refine Kd.C_drew ?_)));(case side6=>exact HC1_0.out);(case side7=>repeat (first|exact (Kd.C_below HR1_1.out HB.out)|(with_reducible refine Kd.C_alloc ?_ _)|(with_reducible refine Kd.C_drewN ?_ _)|(with_reducible refine Kd.C_drew ?_)));(case side8=>exact HC1_1.out);rintro e w25 ⟨v215,v218,rfl,ho0,ho1,hb⟩;refine ⟨_,rfl,?_⟩;have n0_:=zm (Kd.R_lower ho0 (below_size (by repeat (first|(with_reducible first|exact HB.out|apply zlA|apply zlN|apply zlD|refine zlS ?_ GE212.out|refine zlS ?_ GE213.out)|exact HB.out))));have n1_:=zm (Kd.R_lower ho1 (below_size (by repeat (first|(with_reducible first|exact HB.out|apply zlA|apply zlN|apply zlD|refine zlS ?_ GE212.out|refine zlS ?_ GE213.out)|exact HB.out))));have n2_:=zm (zbB (g:=gb212) (o:=.cells #[.slice A0_0 l0_0.length c0_0,.slice A0_1 l0_1.length c0_1,.int .i64 a0_2] 25 (0,0)) (by (with_reducible repeat (first|refine zbN ?_ _|refine zbD ?_|refine zbA ?_ _));exact BK212.out) hb);have n3_:=zm (zbB (g:=gb213) (o:=.cells #[.slice A1_0 l1_0.length c1_0,.slice A1_1 l1_1.length c1_1,.int .i64 a1_2] 25 (0,0)) (by (with_reducible repeat (first|refine zbN ?_ _|refine zbD ?_|refine zbA ?_ _));exact BK213.out) hb);have n4_:=zm (below_step (by repeat (first|(with_reducible first|exact HB.out|apply zlA|apply zlN|apply zlD|refine zlS ?_ GE212.out|refine zlS ?_ GE213.out)|exact HB.out)) hb);clear BK212 BK213 HB;have HO216:=n0_;have HO219:=n1_;have BK212:=n2_;have BK213:=n3_;have HB:=n4_;clear n0_ n1_ n2_ n3_ n4_;(try clear hb);(try clear hb2);(try clear hk);(try clear hi);(try clear ho0);(try clear ho1))|((with_reducible refine gate_dst (N:=5) rfl ?_);refine box_event ?hg (N:=5) ?hd (cs:=#[.slice none 0 0,.slice none 0 0,.int .i64 0]) (t:=25) ?hr ?_;(case hd=>rfl);(case hg=>rfl);(case hr=>first|(go_simp;done)|(go_simp;rfl));intro gb222 hg w26 hbox hb;have n0_:=zm (Kd.R_below (by (with_reducible repeat (first|apply zrA|apply zrN|apply zrD));exact HO216.out) hb);have n1_:=zm (Kd.R_below (by (with_reducible repeat (first|apply zrA|apply zrN|apply zrD));exact HO219.out) hb);have n2_:=zm (zbB (g:=gb212) (o:=.cells #[.slice A0_0 l0_0.length c0_0,.slice A0_1 l0_1.length c0_1,.int .i64 a0_2] 25 (0,0)) (by (with_reducible repeat (first|refine zbN ?_ _|refine zbD ?_|refine zbA ?_ _));exact BK212.out) hb);have n3_:=zm (zbB (g:=gb213) (o:=.cells #[.slice A1_0 l1_0.length c1_0,.slice A1_1 l1_1.length c1_1,.int .i64 a1_2] 25 (0,0)) (by (with_reducible repeat (first|refine zbN ?_ _|refine zbD ?_|refine zbA ?_ _));exact BK213.out) hb);have n4_:=zm (below_step (by repeat (first|(with_reducible first|exact HB.out|apply zlA|apply zlN|apply zlD|refine zlS ?_ GE212.out|refine zlS ?_ GE213.out)|exact HB.out)) hb);have n5_:=zm (hbox);have n6_:=zm ((by rw [hg];exact (below_size (by repeat (first|(with_reducible first|exact HB.out|apply zlA|apply zlN|apply zlD|refine zlS ?_ GE212.out|refine zlS ?_ GE213.out)|exact HB.out))):w.heap.size≤gb222));have n7_:=zm ((by rw [hg];exact (below_size (by repeat (first|(with_reducible first|exact HB.out|apply zlA|apply zlN|apply zlD|refine zlS ?_ GE212.out|refine zlS ?_ GE213.out)|exact HB.out))):w.heap.size≤gb222));have n8_:=zm ((by rw [hg];exact Nat.ne_of_lt (blk_lt (g:=gb212) (o:=.cells #[.slice A0_0 l0_0.length c0_0,.slice A0_1 l0_1.length c0_1,.int .i64 a0_2] 25 (0,0)) (by (with_reducible repeat (first|refine zbN ?_ _|refine zbD ?_|refine zbA ?_ _));exact BK212.out)):gb212≠gb222));have n9_:=zm ((by rw [hg];exact Nat.ne_of_gt (blk_lt (g:=gb212) (o:=.cells #[.slice A0_0 l0_0.length c0_0,.slice A0_1 l0_1.length c0_1,.int .i64 a0_2] 25 (0,0)) (by (with_reducible repeat (first|refine zbN ?_ _|refine zbD ?_|refine zbA ?_ _));exact BK212.out)):gb222≠gb212));have n10_:=zm ((by rw [hg];exact Nat.ne_of_lt (blk_lt (g:=gb213) (o:=.cells #[.slice A1_0 l1_0.length c1_0,.slice A1_1 l1_1.length c1_1,.int .i64 a1_2] 25 (0,0)) (by (with_reducible repeat (first|refine zbN ?_ _|refine zbD ?_|refine zbA ?_ _));exact BK213.out)):gb213≠gb222));have n11_:=zm ((by rw [hg];exact Nat.ne_of_gt (blk_lt (g:=gb213) (o:=.cells #[.slice A1_0 l1_0.length c1_0,.slice A1_1 l1_1.length c1_1,.int .i64 a1_2] 25 (0,0)) (by (with_reducible repeat (first|refine zbN ?_ _|refine zbD ?_|refine zbA ?_ _));exact BK213.out)):gb222≠gb213));clear HO216 HO219 BK212 BK213 HB;have HO216:=n0_;have HO219:=n1_;have BK212:=n2_;have BK213:=n3_;have HB:=n4_;have BK222:=n5_;have GW222:=n6_;have GE222:=n7_;have NB212_222:=n8_;have NB222_212:=n9_;have NB213_222:=n10_;have NB222_213:=n11_;clear n0_ n1_ n2_ n3_ n4_ n5_ n6_ n7_ n8_ n9_ n10_ n11_;clear hb hbox hg;obtain ⟨Ao27,co27,eo27⟩:=Kd.R_slice HO216.out;subst eo27;have hnb28:=NB222_212.out;have hnc28:=NB212_222.out;have hnb29:=NB222_213.out;have hnc29:=NB213_222.out;have hcz30_0:w26.cell? ⟨gb222,0,none⟩=some (.slice none 0 0):=(blk_cell BK222.out 0).trans rfl;have hcz30_1:w26.cell? ⟨gb222,1,none⟩=some (.slice none 0 0):=(blk_cell BK222.out 1).trans rfl;have hcz30_2:w26.cell? ⟨gb222,2,none⟩=some (.int .i64 0):=(blk_cell BK222.out 2).trans rfl;have hfz30_0:=blk_frozen BK222.out 0;have hfz30_1:=blk_frozen BK222.out 1;have hfz30_2:=blk_frozen BK222.out 2;obtain ⟨Ao31,co31,eo31⟩:=Kd.R_slice HO219.out;subst eo31))
  go_ret
  exact ⟨by first|rfl|(simp [errW_none,errW_some] <;> rfl)|(simp [*,errW_none,errW_some] <;> rfl),by repeat (first|(with_reducible first|exact HB.out|apply zlA|apply zlN|apply zlD|refine zlS ?_ GE212.out|refine zlS ?_ GE213.out|refine zlS ?_ GE222.out)|exact HB.out)⟩
end Go.Proofs.Ytkhbmgclklmimaa.Print
end
section
namespace Go.Proofs.Ytkhbmgclklmimaa.Print
open Go.RowKit Go.Proofs.YtkhbmgclklmimaaW.PrintWords Go.Proofs.YtkhbmgclklmimaaW.PrintLast Go.Proofs.YtkhbmgclklmimaaW.PrintMore
attribute [local go_sem] max2_int min2_int max_two min_two max_three min_three max_four min_four   -- for this text's walks alone
attribute [local go_sem ↓] Go.Proofs.Ytkhbmgclklmimaa.Sem.isSome_setCell
attribute [local go_sem] Go.Instr.field Go.asAgg
set_option linter.unusedVariables false
set_option linter.unusedSimpArgs false
def mapjnl_learn.f (l0_0:List Bool) (l0_1:List Int) (a0_2:Int) (a1_0:Int) (a1_1:Int) (a1_2:Int):Option (List Bool × List Int × Int):=if a1_0=1 then (if 0≤a1_1 then (if a1_1 < (l0_0.length:Int) then (some ((l0_0.set (a1_1:Int).toNat true),l0_1,a0_2)) else (none)) else (none)) else (if a1_0=2 then (if 0≤a1_1 then (if a1_1 < (l0_1.length:Int) then (some (l0_0,(l0_1.set (a1_1:Int).toNat (mx (rd l0_1 a1_1) a1_2)),a0_2)) else (none)) else (none)) else (some (l0_0,l0_1,mx a0_2 a1_2)))
def mapjnl_learn.T2:Bool × List (List Nat × List Nat):=(true,[([],[]),([],[]),([1],[1]),([2],[2]),([3],[3]),([],[]),([5],[5]),([4,6],[4,6]),([0,0,1,2,3,4,5,6,7],[0]),([8,0,1,2,3,4,5,6,7],[8]),([9,7,0,1,2,3,4,5,6,7],[7,9])])
def mapjnl_learn.B2:List Nat:=[0,0,2,6,14,0,32,126,255,511,1023]
theorem mapjnl_learn.tab2:rtab .any (opsOf Try.f62 2)=mapjnl_learn.T2:=by kernel_rfl
theorem mapjnl_learn.bits2:waitsOk mapjnl_learn.T2.2 mapjnl_learn.B2=true:=by kernel_rfl
def mapjnl_learn.T4:Bool × List (List Nat × List Nat):=(true,[([],[]),([0],[0]),([1],[1]),([2],[2]),([],[]),([4],[4]),([3,5,0,1,2,3,4,5],[3,5]),([6,0,1,2,3,4,5],[6])])
def mapjnl_learn.B4:List Nat:=[0,1,3,7,0,16,63,127]
theorem mapjnl_learn.tab4:rtab .any (opsOf Try.f62 4)=mapjnl_learn.T4:=by kernel_rfl
theorem mapjnl_learn.bits4:waitsOk mapjnl_learn.T4.2 mapjnl_learn.B4=true:=by kernel_rfl
def mapjnl_learn.T6:Bool × List (List Nat × List Nat):=(true,[([],[]),([0],[0]),([1],[1]),([2],[2]),([],[]),([4],[4]),([],[]),([6],[6]),([7],[7]),([8],[8]),([],[]),([10],[10]),([9,11],[9,11]),([12],[12]),([],[]),([14],[14]),([13,15],[13,15]),([3,5,0,1,2,3,4,5,6,7,8,9,10,11,12,13,14,15,16],[3,5]),([17,16,0,1,2,3,4,5,6,7,8,9,10,11,12,13,14,15,16],[16,17])])
def mapjnl_learn.B6:List Nat:=[0,1,3,7,0,16,0,64,192,448,0,1024,4032,8128,0,16384,65472,131071,262143]
theorem mapjnl_learn.tab6:rtab .any (opsOf Try.f62 6)=mapjnl_learn.T6:=by kernel_rfl
theorem mapjnl_learn.bits6:waitsOk mapjnl_learn.T6.2 mapjnl_learn.B6=true:=by kernel_rfl
set_option maxHeartbeats 8000000 in
set_option maxRecDepth 100000 in
theorem mapjnl_learn.calls (g_:Nat) (P0_0_:Nat → Prop) (u9000_:Value) (l0_0:List Bool) (P0_1_:Nat → Prop) (u9001_:Value) (l0_1:List Int) (a0_2:Int) (a1_0:Int) (a1_1:Int) (a1_2:Int) (r1:List Bool) (r2:List Int) (r3:Int) (w0 w:World) (hB:Below w0.heap.size w0 w) (ho0_0:Kd.R Kd.bool 4 w w0.heap.size P0_0_ u9000_ l0_0) (ho0_1:Kd.R (Kd.int .i64) 2 w w0.heap.size P0_1_ u9001_ l0_1) (hbox:w.heap[g_]?=some (.cells #[u9000_,u9001_,.int .i64 a0_2] 25 (0,0))) (h:mapjnl_learn.f l0_0 l0_1 a0_2 a1_0 a1_1 a1_2=some (r1,r2,r3)) :
  Calls Try.prog 62 #[.pointer (some ⟨g_,0,none⟩),.agg #[.int .i64 a1_0,.int .i64 a1_1,.int .i64 a1_2]] w fun e w'=>∃ (v0_ v1_:Value) (w2_:World),e=.returned (.tuple #[])∧w'=((w2_.setCell ⟨g_,0,none⟩ v0_).setCell ⟨g_,1,none⟩ v1_).setCell ⟨g_,2,none⟩ (.int .i64 r3)∧Kd.R Kd.bool 4 w2_ w0.heap.size (fun k_=>((P0_0_ k_∨P0_1_ k_)∨w.heap.size≤k_)) v0_ r1∧Kd.R (Kd.int .i64) 2 w2_ w0.heap.size (fun k_=>((P0_0_ k_∨P0_1_ k_)∨w.heap.size≤k_)) v1_ r2∧Below w0.heap.size w0 w2_∧Kept w w2_ (fun k_=>P0_0_ k_∨P0_1_ k_):=by
 have hu25:=Try.underlying25
 have hu55:=Try.underlying55
 have HO0_0:=zm (show Kd.R Kd.bool 4 w w0.heap.size (fun k_=>((P0_0_ k_∨P0_1_ k_)∨w.heap.size≤k_)) u9000_ l0_0 from Kd.R_mono ho0_0 (fun k_ hk=>(.inl (.inl hk))))
 have HO0_1:=zm (show Kd.R (Kd.int .i64) 2 w w0.heap.size (fun k_=>((P0_0_ k_∨P0_1_ k_)∨w.heap.size≤k_)) u9001_ l0_1 from Kd.R_mono ho0_1 (fun k_ hk=>(.inl (.inr hk))))
 have HK:=zm (Kept.refl w (fun k_=>P0_0_ k_∨P0_1_ k_))
 have HW0:=zm hB.size
 have HB:=zm hB
 clear hB
 have H:(if a1_0=1 then (if 0≤a1_1 then (if a1_1 < (l0_0.length:Int) then (some ((l0_0.set (a1_1:Int).toNat true),l0_1,a0_2)) else (none)) else (none)) else (if a1_0=2 then (if 0≤a1_1 then (if a1_1 < (l0_1.length:Int) then (some (l0_0,(l0_1.set (a1_1:Int).toNat (mx (rd l0_1 a1_1) a1_2)),a0_2)) else (none)) else (none)) else (some (l0_0,l0_1,mx a0_2 a1_2))))=some (r1,r2,r3):=h
 clear h
 by_cases c3:a1_0=1
 ·rw [if_pos c3] at H
  have c3b0:(a1_0 == 1)=true:=beq_iff_eq.mpr c3
  have c3b1:(a1_0 != 1)=false:=bne_eq_false_iff_eq.mpr c3
  clear c3
  by_cases c4:0≤a1_1
  ·rw [if_pos c4] at H
   have c4b0:decide (0≤a1_1)=true:=decide_eq_true c4
   clear c4
   by_cases c5:a1_1 < (l0_0.length:Int)
   ·rw [if_pos c5] at H
    have c5b0:decide (a1_1 < (l0_0.length:Int))=true:=decide_eq_true c5
    clear c5
    obtain ⟨y226,hy226⟩:∃ y_:List Bool,y_=(l0_0.set (a1_1:Int).toNat true):=⟨_,rfl⟩
    replace H:(some (y226,l0_1,a0_2))=some (r1,r2,r3):=by first|(rw [hy226];with_reducible exact H)|(have H2_:=(Option.bind_some _ _).symm.trans H;rw [hy226];with_reducible exact H2_)|(have H2_:=(Option.bind_some _ _).symm.trans H;with_reducible exact H2_)|with_reducible exact H|(rw [hy226];exact H)|exact H
    have Ny226:=zm hy226
    clear hy226
    simp only [Option.some.injEq,Prod.mk.injEq] at H
    obtain ⟨rfl,rfl,rfl⟩:=H
    obtain ⟨Ao7,co7,eo7⟩:=Kd.R_slice HO0_0.out
    subst eo7
    obtain ⟨Ao8,co8,eo8⟩:=Kd.R_slice HO0_1.out
    subst eo8
    have BK224:=zm hbox
    clear hbox
    go_enter Try.func62,Try.ntmps62
    try go_wp2_with (first|((with_reducible refine gate_dst (N:=3) rfl ?_);refine box_event ?hg (N:=3) ?hd (cs:=#[.int .i64 a1_0,.int .i64 a1_1,.int .i64 a1_2]) (t:=55) ?hr ?_;(case hd=>rfl);(case hg=>rfl);(case hr=>first|(go_simp;done)|(go_simp;rfl));intro gb225 hg w10 hbox hb;have n0_:=zm (Kd.R_below (by (with_reducible repeat (first|apply zrA|apply zrN|apply zrD));exact HO0_0.out) hb);have n1_:=zm (Kd.R_below (by (with_reducible repeat (first|apply zrA|apply zrN|apply zrD));exact HO0_1.out) hb);have n2_:=zm (zbB (g:=g_) (o:=.cells #[.slice Ao7 l0_0.length co7,.slice Ao8 l0_1.length co8,.int .i64 a0_2] 25 (0,0)) (by (with_reducible repeat (first|refine zbN ?_ _|refine zbD ?_|refine zbA ?_ _));exact BK224.out) hb);have n3_:=zm (Kept.below (S:=(fun k_=>P0_0_ k_∨P0_1_ k_)) (by repeat (first|(with_reducible first|exact HK.out|apply Kept.alloc|apply Kept.drewN|apply Kept.drew|refine Kept.setCell ?_ (.inr GW224.out) _)|exact HK.out)) hb);have n4_:=zm (below_step (by repeat (first|(with_reducible first|exact HB.out|apply zlA|apply zlN|apply zlD|refine zlS ?_ GE224.out)|exact HB.out)) hb);have n5_:=zm (hbox);have n6_:=zm ((by rw [hg];exact (by first|exact HK.out.1|exact (show Kept w _ (fun k_=>P0_0_ k_∨P0_1_ k_) from by repeat (first|(with_reducible first|exact HK.out|apply Kept.alloc|apply Kept.drewN|apply Kept.drew|refine Kept.setCell ?_ (.inr GW224.out) _)|exact HK.out)).1):w.heap.size≤gb225));have n7_:=zm ((by rw [hg];exact (below_size (by repeat (first|(with_reducible first|exact HB.out|apply zlA|apply zlN|apply zlD|refine zlS ?_ GE224.out)|exact HB.out))):w0.heap.size≤gb225));have n8_:=zm ((by rw [hg];exact Nat.ne_of_lt (blk_lt (g:=g_) (o:=.cells #[.slice Ao7 l0_0.length co7,.slice Ao8 l0_1.length co8,.int .i64 a0_2] 25 (0,0)) (by (with_reducible repeat (first|refine zbN ?_ _|refine zbD ?_|refine zbA ?_ _));exact BK224.out)):g_≠gb225));have n9_:=zm ((by rw [hg];exact Nat.ne_of_gt (blk_lt (g:=g_) (o:=.cells #[.slice Ao7 l0_0.length co7,.slice Ao8 l0_1.length co8,.int .i64 a0_2] 25 (0,0)) (by (with_reducible repeat (first|refine zbN ?_ _|refine zbD ?_|refine zbA ?_ _));exact BK224.out)):gb225≠g_));clear HO0_0 HO0_1 BK224 HK HB;have HO0_0:=n0_;have HO0_1:=n1_;have BK224:=n2_;have HK:=n3_;have HB:=n4_;have BK225:=n5_;have GW225:=n6_;have GE225:=n7_;have NB224_225:=n8_;have NB225_224:=n9_;clear n0_ n1_ n2_ n3_ n4_ n5_ n6_ n7_ n8_ n9_;clear hb hbox hg;have hnb11:=NB225_224.out;have hnc11:=NB224_225.out;have hcz12_0:w10.cell? ⟨gb225,0,none⟩=some (.int .i64 a1_0):=(blk_cell BK225.out 0).trans rfl;have hcz12_1:w10.cell? ⟨gb225,1,none⟩=some (.int .i64 a1_1):=(blk_cell BK225.out 1).trans rfl;have hcz12_2:w10.cell? ⟨gb225,2,none⟩=some (.int .i64 a1_2):=(blk_cell BK225.out 2).trans rfl;have hfz12_0:=blk_frozen BK225.out 0;have hfz12_1:=blk_frozen BK225.out 1;have hfz12_2:=blk_frozen BK225.out 2))
    have n0_:=zm (zrD HO0_0.out)
    have n1_:=zm (zrD HO0_1.out)
    have n2_:=zm (zbD BK224.out)
    have n3_:=zm (zbD BK225.out)
    have n4_:=zm (Kept.drew HK.out)
    have n5_:=zm (zlD HB.out)
    clear HO0_0 HO0_1 BK224 BK225 HK HB
    have HO0_0:=n0_
    have HO0_1:=n1_
    have BK224:=n2_
    have BK225:=n3_
    have HK:=n4_
    have HB:=n5_
    clear n0_ n1_ n2_ n3_ n4_ n5_
    have p6:0≤(a1_1:Int):=of_decide_eq_true (by first|(with_reducible assumption)|assumption)
    have q6:(a1_1:Int) < ((l0_0.length:Int):Int):=of_decide_eq_true (by first|(with_reducible assumption)|assumption)
    obtain ⟨go6,co6,eo6,gb6,gl6,cl6,HG6⟩:=Kd.R_form HO0_0.out (by omega)
    (first|cases eo6|(injection eo6 with ea_ en_ ec_;(first|subst ea_|(injection ea_ with ea_;subst ea_));subst ec_;clear en_))
    have GB6:=zm gb6
    have GG6:=zm HG6
    have NBG_go6:=zm (show g_≠go6 from fun e_=>by have hx_:=HG6;rw [← e_] at hx_;exact absurd (BK224.out.symm.trans hx_) (by simp))
    clear gb6 gl6 HG6
    have HMgo6:=zm (show ((P0_0_ go6∨P0_1_ go6)∨w.heap.size≤go6) from (HO0_0.out.1 _ rfl))
    obtain ⟨hx6_0,hf6_0⟩:=Kd.R_celln false HO0_0.out (a1_1:Int) p6 q6
    replace p6:=eq_true p6
    replace q6:=eq_true q6
    have HP14:=Kd.R_putn HO0_0.out (a1_1:Int) true
    rw [← Ny226.out] at HP14
    have HQ14:=zm HP14
    clear HP14
    refine start_ (n:=8) (S:=fun w'=>w'.cell? ⟨g_,0,none⟩=some (.slice (some ⟨go6,0,none⟩) l0_0.length co7)∧w'.cell? ⟨g_,1,none⟩=some (.slice Ao8 l0_1.length co8)∧w'.cell? ⟨g_,2,none⟩=some (.int .i64 a0_2)∧w'.cell? ⟨gb225,0,none⟩=some (.int .i64 a1_0)∧w'.cell? ⟨gb225,1,none⟩=some (.int .i64 a1_1)∧w'.cell? ⟨gb225,2,none⟩=some (.int .i64 a1_2)) (ds:=[7]) #[false,false,false,false,false,false,false,false] (by kernel_rfl) rfl rfl ⟨(blk_cell BK224.out 0).trans rfl,(blk_cell BK224.out 1).trans rfl,(blk_cell BK224.out 2).trans rfl,(blk_cell BK225.out 0).trans rfl,(blk_cell BK225.out 1).trans rfl,(blk_cell BK225.out 2).trans rfl⟩ (fun hHeld=>?_);refine with_tabW mapjnl_learn.tab4 mapjnl_learn.bits4 (fun HT_ HW_=>?_)
    generalize w10.drew=w13 at HO0_0 HO0_1 BK224 BK225 HK HB GG6 HQ14 hf6_0 hx6_0 hHeld ⊢
    refine pure_ (i:=0) (N:=some 18) (v:=?_) (a':=?_) #[true,false,false,false,false,false,false,false] rfl rfl (any_of HT_.out (by kernel_rfl)) (fun _ _ _ h=>h) (Or.inl ⟨by rfl,?_⟩) ?_ ?_
    rotate_left
    ·intro w'
     go_simp
     with_reducible rfl
    rotate_left
    ·simp only [Act.put,List.setIfInBounds_toArray,List.set_cons_zero,List.set_cons_succ,i64_w,i32_w]
     rfl
    refine pure_ (i:=1) (N:=some 19) (v:=?_) (a':=?_) #[true,true,false,false,false,false,false,false] rfl rfl (any_of HT_.out (by kernel_rfl)) (fun _ _ _ h=>h) (Or.inl ⟨by rfl,?_⟩) ?_ ?_
    rotate_left
    ·intro w'
     go_simp
     with_reducible rfl
    rotate_left
    ·simp only [Act.put,List.setIfInBounds_toArray,List.set_cons_zero,List.set_cons_succ,i64_w,i32_w]
     rfl
    refine pure_ (i:=2) (N:=some 20) (v:=?_) (a':=?_) #[true,true,true,false,false,false,false,false] rfl rfl (any_of HT_.out (by kernel_rfl)) (fun _ _ _ h=>h) (Or.inl ⟨by rfl,?_⟩) ?_ ?_
    rotate_left
    ·intro w'
     go_simp
     with_reducible rfl
    rotate_left
    ·simp only [Act.put,List.setIfInBounds_toArray,List.set_cons_zero,List.set_cons_succ,i64_w,i32_w]
     rfl
    refine pure_ (i:=4) (N:=some 22) (v:=?_) (a':=?_) #[true,true,true,false,true,false,false,false] rfl rfl (any_of HT_.out (by kernel_rfl)) (fun _ _ _ h=>h) (Or.inl ⟨by rfl,?_⟩) ?_ ?_
    rotate_left
    ·intro w'
     go_simp
     with_reducible rfl
    rotate_left
    ·simp only [Act.put,List.setIfInBounds_toArray,List.set_cons_zero,List.set_cons_succ,i64_w,i32_w]
     rfl
    refine take_ (i:=3) (N:=some 21) (v:=?_) (a':=?_) #[true,true,true,true,true,false,false,false] rfl rfl (take_ofW HT_.out HW_.out (by kernel_rfl)) (fun _ _ _ h=>h) (Or.inl ⟨by rfl,?_⟩) hHeld ?_ ?_
    rotate_left
    ·rintro w' ⟨s0,s1,s2,s3,s4,s5⟩
     go_simp
     with_reducible rfl
    rotate_left
    ·simp only [Act.put,List.setIfInBounds_toArray,List.set_cons_zero,List.set_cons_succ,i64_w,i32_w]
     rfl
    refine take_ (i:=5) (N:=some 23) (v:=?_) (a':=?_) #[true,true,true,true,true,true,false,false] rfl rfl (take_ofW HT_.out HW_.out (by kernel_rfl)) (fun _ _ _ h=>h) (Or.inl ⟨by rfl,?_⟩) hHeld ?_ ?_
    rotate_left
    ·rintro w' ⟨s0,s1,s2,s3,s4,s5⟩
     go_simp
     with_reducible rfl
    rotate_left
    ·simp only [Act.put,List.setIfInBounds_toArray,List.set_cons_zero,List.set_cons_succ,i64_w,i32_w]
     rfl
    refine pure_ (i:=6) (N:=some 24) (v:=?_) (a':=?_) #[true,true,true,true,true,true,true,false] rfl rfl (any_of HT_.out (by kernel_rfl)) (fun _ _ _ h=>h) (Or.inl ⟨by rfl,?_⟩) ?_ ?_
    rotate_left
    ·intro w'
     go_simp
     with_reducible rfl
    rotate_left
    ·simp only [Act.put,List.setIfInBounds_toArray,List.set_cons_zero,List.set_cons_succ,i64_w,i32_w]
     rfl
    refine last_ (i:=7) (N:=none) #[true,true,true,true,true,true,true,true] rfl rfl (one_of HT_.out (by kernel_rfl)) (by decide) (fun K hK=>?_)
    refine skip_ (w1:=?_) (by rfl) rfl ?_ ?_
    rotate_left
    ·go_simp
     rfl
    refine hK.out _ _ ?_
    clear hK K
    refine done_ (done_of HT_.out (by kernel_rfl)) ?_
    try go_wp2
    first|go_end0|((try simp only [Exit.inBlock,Exit.then]);refine bodyPost_ret (results_none rfl _ _ _) rfl ?_)
    exact ⟨.slice (some ⟨go6,0,none⟩) l0_0.length co7,.slice Ao8 l0_1.length co8,_,rfl,(Sem.setCell_three (t:=25) (by (with_reducible repeat (first|refine zbN ?_ _|refine zbD ?_|refine zbA ?_ _));refine blk_far ?_ (NBG_go6.out) _;exact BK224.out)).symm,by (with_reducible repeat (first|apply zrA|apply zrN|apply zrD));exact HQ14.out,by (with_reducible repeat (first|apply zrA|apply zrN|apply zrD));exact Kd.R_mono (Kd.R_far (p:=⟨go6,(a1_1:Int).toNat,none⟩) (Kd.R_types HO0_1.out GG6.out (by decide)) (fun _ hk=>hk.2) (.bool true)) (fun _ hk=>hk.1),by repeat (first|(with_reducible first|exact HB.out|apply zlA|apply zlN|apply zlD|refine zlS ?_ GB6.out|refine zlS ?_ GE224.out|refine zlS ?_ GE225.out)|exact HB.out),by repeat (first|(with_reducible first|exact HK.out|apply Kept.alloc|apply Kept.drewN|apply Kept.drew|refine Kept.setCell ?_ HMgo6.out _|refine Kept.setCell ?_ (.inr GW224.out) _|refine Kept.setCell ?_ (.inr GW225.out) _)|exact HK.out)⟩
   ·rw [if_neg c5] at H
    exact absurd H (by simp)
  ·rw [if_neg c4] at H
   exact absurd H (by simp)
 ·rw [if_neg c3] at H
  have c3b0:(a1_0 == 1)=false:=beq_eq_false_iff_ne.mpr c3
  have c3b1:(a1_0 != 1)=true:=bne_iff_ne.mpr c3
  by_cases c15:a1_0=2
  ·rw [if_pos c15] at H
   have c15b0:(a1_0 == 2)=true:=beq_iff_eq.mpr c15
   have c15b1:(a1_0 != 2)=false:=bne_eq_false_iff_eq.mpr c15
   clear c15
   by_cases c16:0≤a1_1
   ·rw [if_pos c16] at H
    have c16b0:decide (0≤a1_1)=true:=decide_eq_true c16
    clear c16
    by_cases c17:a1_1 < (l0_1.length:Int)
    ·rw [if_pos c17] at H
     have c17b0:decide (a1_1 < (l0_1.length:Int))=true:=decide_eq_true c17
     clear c17
     obtain ⟨ji18,hji18⟩:∃ j_:Int,(mx (rd l0_1 a1_1) a1_2)=j_:=⟨_,rfl⟩
     replace H:(some (l0_0,(l0_1.set (a1_1:Int).toNat (ji18)),a0_2))=some (r1,r2,r3):=by first|(rw [hji18] at H;exact H)|(simp only [hji18] at H ⊢;exact H)
     have hji18_:(if (rd l0_1 a1_1) < a1_2 then a1_2 else (rd l0_1 a1_1))=ji18:=hji18
     obtain ⟨y228,hy228⟩:∃ y_:List Int,y_=(l0_1.set (a1_1:Int).toNat (ji18)):=⟨_,rfl⟩
     replace H:(some (l0_0,y228,a0_2))=some (r1,r2,r3):=by first|(rw [hy228];with_reducible exact H)|(have H2_:=(Option.bind_some _ _).symm.trans H;rw [hy228];with_reducible exact H2_)|(have H2_:=(Option.bind_some _ _).symm.trans H;with_reducible exact H2_)|with_reducible exact H|(rw [hy228];exact H)|exact H
     have Ny228:=zm hy228
     clear hy228
     simp only [Option.some.injEq,Prod.mk.injEq] at H
     obtain ⟨rfl,rfl,rfl⟩:=H
     obtain ⟨Ao20,co20,eo20⟩:=Kd.R_slice HO0_0.out
     subst eo20
     obtain ⟨Ao21,co21,eo21⟩:=Kd.R_slice HO0_1.out
     subst eo21
     have BK224:=zm hbox
     clear hbox
     go_enter Try.func62,Try.ntmps62
     try go_wp2_with (first|((with_reducible refine gate_dst (N:=3) rfl ?_);refine box_event ?hg (N:=3) ?hd (cs:=#[.int .i64 a1_0,.int .i64 a1_1,.int .i64 a1_2]) (t:=55) ?hr ?_;(case hd=>rfl);(case hg=>rfl);(case hr=>first|(go_simp;done)|(go_simp;rfl));intro gb225 hg w23 hbox hb;have n0_:=zm (Kd.R_below (by (with_reducible repeat (first|apply zrA|apply zrN|apply zrD));exact HO0_0.out) hb);have n1_:=zm (Kd.R_below (by (with_reducible repeat (first|apply zrA|apply zrN|apply zrD));exact HO0_1.out) hb);have n2_:=zm (zbB (g:=g_) (o:=.cells #[.slice Ao20 l0_0.length co20,.slice Ao21 l0_1.length co21,.int .i64 a0_2] 25 (0,0)) (by (with_reducible repeat (first|refine zbN ?_ _|refine zbD ?_|refine zbA ?_ _));exact BK224.out) hb);have n3_:=zm (Kept.below (S:=(fun k_=>P0_0_ k_∨P0_1_ k_)) (by repeat (first|(with_reducible first|exact HK.out|apply Kept.alloc|apply Kept.drewN|apply Kept.drew|refine Kept.setCell ?_ (.inr GW224.out) _)|exact HK.out)) hb);have n4_:=zm (below_step (by repeat (first|(with_reducible first|exact HB.out|apply zlA|apply zlN|apply zlD|refine zlS ?_ GE224.out)|exact HB.out)) hb);have n5_:=zm (hbox);have n6_:=zm ((by rw [hg];exact (by first|exact HK.out.1|exact (show Kept w _ (fun k_=>P0_0_ k_∨P0_1_ k_) from by repeat (first|(with_reducible first|exact HK.out|apply Kept.alloc|apply Kept.drewN|apply Kept.drew|refine Kept.setCell ?_ (.inr GW224.out) _)|exact HK.out)).1):w.heap.size≤gb225));have n7_:=zm ((by rw [hg];exact (below_size (by repeat (first|(with_reducible first|exact HB.out|apply zlA|apply zlN|apply zlD|refine zlS ?_ GE224.out)|exact HB.out))):w0.heap.size≤gb225));have n8_:=zm ((by rw [hg];exact Nat.ne_of_lt (blk_lt (g:=g_) (o:=.cells #[.slice Ao20 l0_0.length co20,.slice Ao21 l0_1.length co21,.int .i64 a0_2] 25 (0,0)) (by (with_reducible repeat (first|refine zbN ?_ _|refine zbD ?_|refine zbA ?_ _));exact BK224.out)):g_≠gb225));have n9_:=zm ((by rw [hg];exact Nat.ne_of_gt (blk_lt (g:=g_) (o:=.cells #[.slice Ao20 l0_0.length co20,.slice Ao21 l0_1.length co21,.int .i64 a0_2] 25 (0,0)) (by (with_reducible repeat (first|refine zbN ?_ _|refine zbD ?_|refine zbA ?_ _));exact BK224.out)):gb225≠g_));clear HO0_0 HO0_1 BK224 HK HB;have HO0_0:=n0_;have HO0_1:=n1_;have BK224:=n2_;have HK:=n3_;have HB:=n4_;have BK225:=n5_;have GW225:=n6_;have GE225:=n7_;have NB224_225:=n8_;have NB225_224:=n9_;clear n0_ n1_ n2_ n3_ n4_ n5_ n6_ n7_ n8_ n9_;clear hb hbox hg;have hnb24:=NB225_224.out;have hnc24:=NB224_225.out;have hcz25_0:w23.cell? ⟨gb225,0,none⟩=some (.int .i64 a1_0):=(blk_cell BK225.out 0).trans rfl;have hcz25_1:w23.cell? ⟨gb225,1,none⟩=some (.int .i64 a1_1):=(blk_cell BK225.out 1).trans rfl;have hcz25_2:w23.cell? ⟨gb225,2,none⟩=some (.int .i64 a1_2):=(blk_cell BK225.out 2).trans rfl;have hfz25_0:=blk_frozen BK225.out 0;have hfz25_1:=blk_frozen BK225.out 1;have hfz25_2:=blk_frozen BK225.out 2))
     have n0_:=zm (zrD HO0_0.out)
     have n1_:=zm (zrD HO0_1.out)
     have n2_:=zm (zbD BK224.out)
     have n3_:=zm (zbD BK225.out)
     have n4_:=zm (Kept.drew HK.out)
     have n5_:=zm (zlD HB.out)
     clear HO0_0 HO0_1 BK224 BK225 HK HB
     have HO0_0:=n0_
     have HO0_1:=n1_
     have BK224:=n2_
     have BK225:=n3_
     have HK:=n4_
     have HB:=n5_
     clear n0_ n1_ n2_ n3_ n4_ n5_
     have p227:0≤(a1_1:Int):=of_decide_eq_true (by first|(with_reducible assumption)|assumption)
     have q227:a1_1 < (l0_1.length:Int):=of_decide_eq_true (by first|(with_reducible assumption)|assumption)
     obtain ⟨ad227,e227,hx227_0⟩:=Kd.at_int (Kd.R_reads' HO0_1.out).2.2 a1_1 p227 q227
     cases e227
     replace p227:=eq_true p227
     replace q227:=eq_true q227
     have p19:0≤(a1_1:Int):=of_decide_eq_true (by first|(with_reducible assumption)|assumption)
     have q19:(a1_1:Int) < ((l0_1.length:Int):Int):=of_decide_eq_true (by first|(with_reducible assumption)|assumption)
     obtain ⟨go19,co19,eo19,gb19,gl19,cl19,HG19⟩:=Kd.R_form HO0_1.out (by omega)
     (first|cases eo19|(injection eo19 with ea_ en_ ec_;(first|subst ea_|(injection ea_ with ea_;subst ea_));subst ec_;clear en_))
     have GB19:=zm gb19
     have GG19:=zm HG19
     have NBG_go19:=zm (show g_≠go19 from fun e_=>by have hx_:=HG19;rw [← e_] at hx_;exact absurd (BK224.out.symm.trans hx_) (by simp))
     clear gb19 gl19 HG19
     have HMgo19:=zm (show ((P0_0_ go19∨P0_1_ go19)∨w.heap.size≤go19) from (HO0_1.out.1 _ rfl))
     (first|simp only [add_plain] at hx227_0|skip)
     obtain ⟨hx19_0,hf19_0⟩:=Kd.R_celln 0 HO0_1.out (a1_1:Int) p19 q19
     replace p19:=eq_true p19
     replace q19:=eq_true q19
     have HP27:=Kd.R_putn HO0_1.out (a1_1:Int) ji18
     rw [← Ny228.out] at HP27
     have HQ27:=zm HP27
     clear HP27
     refine start_ (n:=19) (S:=fun w'=>w'.cell? ⟨g_,0,none⟩=some (.slice Ao20 l0_0.length co20)∧w'.cell? ⟨g_,1,none⟩=some (.slice (some ⟨go19,0,none⟩) l0_1.length co21)∧w'.cell? ⟨g_,2,none⟩=some (.int .i64 a0_2)∧w'.cell? ⟨gb225,0,none⟩=some (.int .i64 a1_0)∧w'.cell? ⟨gb225,1,none⟩=some (.int .i64 a1_1)∧w'.cell? ⟨gb225,2,none⟩=some (.int .i64 a1_2)∧w'.cell? ⟨go19,(a1_1).toNat,none⟩=some (.int .i64 (rd l0_1 a1_1))) (ds:=[18]) #[false,false,false,false,false,false,false,false,false,false,false,false,false,false,false,false,false,false,false] (by kernel_rfl) rfl rfl ⟨(blk_cell BK224.out 0).trans rfl,(blk_cell BK224.out 1).trans rfl,(blk_cell BK224.out 2).trans rfl,(blk_cell BK225.out 0).trans rfl,(blk_cell BK225.out 1).trans rfl,(blk_cell BK225.out 2).trans rfl,hx227_0⟩ (fun hHeld=>?_);refine with_tabW mapjnl_learn.tab6 mapjnl_learn.bits6 (fun HT_ HW_=>?_)
     generalize w23.drew=w26 at HO0_0 HO0_1 BK224 BK225 HK HB GG19 HQ27 hf19_0 hx19_0 hx227_0 hHeld ⊢
     refine pure_ (i:=0) (N:=some 27) (v:=?_) (a':=?_) #[true,false,false,false,false,false,false,false,false,false,false,false,false,false,false,false,false,false,false] rfl rfl (any_of HT_.out (by kernel_rfl)) (fun _ _ _ h=>h) (Or.inl ⟨by rfl,?_⟩) ?_ ?_
     rotate_left
     ·intro w'
      go_simp
      with_reducible rfl
     rotate_left
     ·simp only [Act.put,List.setIfInBounds_toArray,List.set_cons_zero,List.set_cons_succ,i64_w,i32_w]
      rfl
     refine pure_ (i:=1) (N:=some 28) (v:=?_) (a':=?_) #[true,true,false,false,false,false,false,false,false,false,false,false,false,false,false,false,false,false,false] rfl rfl (any_of HT_.out (by kernel_rfl)) (fun _ _ _ h=>h) (Or.inl ⟨by rfl,?_⟩) ?_ ?_
     rotate_left
     ·intro w'
      go_simp
      with_reducible rfl
     rotate_left
     ·simp only [Act.put,List.setIfInBounds_toArray,List.set_cons_zero,List.set_cons_succ,i64_w,i32_w]
      rfl
     refine pure_ (i:=2) (N:=some 29) (v:=?_) (a':=?_) #[true,true,true,false,false,false,false,false,false,false,false,false,false,false,false,false,false,false,false] rfl rfl (any_of HT_.out (by kernel_rfl)) (fun _ _ _ h=>h) (Or.inl ⟨by rfl,?_⟩) ?_ ?_
     rotate_left
     ·intro w'
      go_simp
      with_reducible rfl
     rotate_left
     ·simp only [Act.put,List.setIfInBounds_toArray,List.set_cons_zero,List.set_cons_succ,i64_w,i32_w]
      rfl
     refine pure_ (i:=4) (N:=some 31) (v:=?_) (a':=?_) #[true,true,true,false,true,false,false,false,false,false,false,false,false,false,false,false,false,false,false] rfl rfl (any_of HT_.out (by kernel_rfl)) (fun _ _ _ h=>h) (Or.inl ⟨by rfl,?_⟩) ?_ ?_
     rotate_left
     ·intro w'
      go_simp
      with_reducible rfl
     rotate_left
     ·simp only [Act.put,List.setIfInBounds_toArray,List.set_cons_zero,List.set_cons_succ,i64_w,i32_w]
      rfl
     refine pure_ (i:=6) (N:=some 33) (v:=?_) (a':=?_) #[true,true,true,false,true,false,true,false,false,false,false,false,false,false,false,false,false,false,false] rfl rfl (any_of HT_.out (by kernel_rfl)) (fun _ _ _ h=>h) (Or.inl ⟨by rfl,?_⟩) ?_ ?_
     rotate_left
     ·intro w'
      go_simp
      with_reducible rfl
     rotate_left
     ·simp only [Act.put,List.setIfInBounds_toArray,List.set_cons_zero,List.set_cons_succ,i64_w,i32_w]
      rfl
     refine pure_ (i:=7) (N:=some 34) (v:=?_) (a':=?_) #[true,true,true,false,true,false,true,true,false,false,false,false,false,false,false,false,false,false,false] rfl rfl (any_of HT_.out (by kernel_rfl)) (fun _ _ _ h=>h) (Or.inl ⟨by rfl,?_⟩) ?_ ?_
     rotate_left
     ·intro w'
      go_simp
      with_reducible rfl
     rotate_left
     ·simp only [Act.put,List.setIfInBounds_toArray,List.set_cons_zero,List.set_cons_succ,i64_w,i32_w]
      rfl
     refine pure_ (i:=8) (N:=some 35) (v:=?_) (a':=?_) #[true,true,true,false,true,false,true,true,true,false,false,false,false,false,false,false,false,false,false] rfl rfl (any_of HT_.out (by kernel_rfl)) (fun _ _ _ h=>h) (Or.inl ⟨by rfl,?_⟩) ?_ ?_
     rotate_left
     ·intro w'
      go_simp
      with_reducible rfl
     rotate_left
     ·simp only [Act.put,List.setIfInBounds_toArray,List.set_cons_zero,List.set_cons_succ,i64_w,i32_w]
      rfl
     refine pure_ (i:=10) (N:=some 37) (v:=?_) (a':=?_) #[true,true,true,false,true,false,true,true,true,false,true,false,false,false,false,false,false,false,false] rfl rfl (any_of HT_.out (by kernel_rfl)) (fun _ _ _ h=>h) (Or.inl ⟨by rfl,?_⟩) ?_ ?_
     rotate_left
     ·intro w'
      go_simp
      with_reducible rfl
     rotate_left
     ·simp only [Act.put,List.setIfInBounds_toArray,List.set_cons_zero,List.set_cons_succ,i64_w,i32_w]
      rfl
     refine pure_ (i:=14) (N:=some 41) (v:=?_) (a':=?_) #[true,true,true,false,true,false,true,true,true,false,true,false,false,false,true,false,false,false,false] rfl rfl (any_of HT_.out (by kernel_rfl)) (fun _ _ _ h=>h) (Or.inl ⟨by rfl,?_⟩) ?_ ?_
     rotate_left
     ·intro w'
      go_simp
      with_reducible rfl
     rotate_left
     ·simp only [Act.put,List.setIfInBounds_toArray,List.set_cons_zero,List.set_cons_succ,i64_w,i32_w]
      rfl
     refine take_ (i:=3) (N:=some 30) (v:=?_) (a':=?_) #[true,true,true,true,true,false,true,true,true,false,true,false,false,false,true,false,false,false,false] rfl rfl (take_ofW HT_.out HW_.out (by kernel_rfl)) (fun _ _ _ h=>h) (Or.inl ⟨by rfl,?_⟩) hHeld ?_ ?_
     rotate_left
     ·rintro w' ⟨s0,s1,s2,s3,s4,s5,s6⟩
      go_simp
      with_reducible rfl
     rotate_left
     ·simp only [Act.put,List.setIfInBounds_toArray,List.set_cons_zero,List.set_cons_succ,i64_w,i32_w]
      rfl
     refine take_ (i:=5) (N:=some 32) (v:=?_) (a':=?_) #[true,true,true,true,true,true,true,true,true,false,true,false,false,false,true,false,false,false,false] rfl rfl (take_ofW HT_.out HW_.out (by kernel_rfl)) (fun _ _ _ h=>h) (Or.inl ⟨by rfl,?_⟩) hHeld ?_ ?_
     rotate_left
     ·rintro w' ⟨s0,s1,s2,s3,s4,s5,s6⟩
      go_simp
      with_reducible rfl
     rotate_left
     ·simp only [Act.put,List.setIfInBounds_toArray,List.set_cons_zero,List.set_cons_succ,i64_w,i32_w]
      rfl
     refine take_ (i:=9) (N:=some 36) (v:=?_) (a':=?_) #[true,true,true,true,true,true,true,true,true,true,true,false,false,false,true,false,false,false,false] rfl rfl (take_ofW HT_.out HW_.out (by kernel_rfl)) (fun _ _ _ h=>h) (Or.inl ⟨by rfl,?_⟩) hHeld ?_ ?_
     rotate_left
     ·rintro w' ⟨s0,s1,s2,s3,s4,s5,s6⟩
      go_simp
      with_reducible rfl
     rotate_left
     ·simp only [Act.put,List.setIfInBounds_toArray,List.set_cons_zero,List.set_cons_succ,i64_w,i32_w]
      rfl
     refine take_ (i:=11) (N:=some 38) (v:=?_) (a':=?_) #[true,true,true,true,true,true,true,true,true,true,true,true,false,false,true,false,false,false,false] rfl rfl (take_ofW HT_.out HW_.out (by kernel_rfl)) (fun _ _ _ h=>h) (Or.inl ⟨by rfl,?_⟩) hHeld ?_ ?_
     rotate_left
     ·rintro w' ⟨s0,s1,s2,s3,s4,s5,s6⟩
      go_simp
      with_reducible rfl
     rotate_left
     ·simp only [Act.put,List.setIfInBounds_toArray,List.set_cons_zero,List.set_cons_succ,i64_w,i32_w]
      rfl
     refine pure_ (i:=12) (N:=some 39) (v:=?_) (a':=?_) #[true,true,true,true,true,true,true,true,true,true,true,true,true,false,true,false,false,false,false] rfl rfl (any_of HT_.out (by kernel_rfl)) (fun _ _ _ h=>h) (Or.inl ⟨by rfl,?_⟩) ?_ ?_
     rotate_left
     ·intro w'
      go_simp
      with_reducible rfl
     rotate_left
     ·simp only [Act.put,List.setIfInBounds_toArray,List.set_cons_zero,List.set_cons_succ,i64_w,i32_w]
      rfl
     refine take_ (i:=13) (N:=some 40) (v:=?_) (a':=?_) #[true,true,true,true,true,true,true,true,true,true,true,true,true,true,true,false,false,false,false] rfl rfl (take_ofW HT_.out HW_.out (by kernel_rfl)) (fun _ _ _ h=>h) (Or.inl ⟨by rfl,?_⟩) hHeld ?_ ?_
     rotate_left
     ·rintro w' ⟨s0,s1,s2,s3,s4,s5,s6⟩
      go_simp
      with_reducible rfl
     rotate_left
     ·simp only [Act.put,List.setIfInBounds_toArray,List.set_cons_zero,List.set_cons_succ,i64_w,i32_w]
      rfl
     refine take_ (i:=15) (N:=some 42) (v:=?_) (a':=?_) #[true,true,true,true,true,true,true,true,true,true,true,true,true,true,true,true,false,false,false] rfl rfl (take_ofW HT_.out HW_.out (by kernel_rfl)) (fun _ _ _ h=>h) (Or.inl ⟨by rfl,?_⟩) hHeld ?_ ?_
     rotate_left
     ·rintro w' ⟨s0,s1,s2,s3,s4,s5,s6⟩
      go_simp
      with_reducible rfl
     rotate_left
     ·simp only [Act.put,List.setIfInBounds_toArray,List.set_cons_zero,List.set_cons_succ,i64_w,i32_w]
      rfl
     refine pure_ (i:=16) (N:=some 43) (v:=?_) (a':=?_) #[true,true,true,true,true,true,true,true,true,true,true,true,true,true,true,true,true,false,false] rfl rfl (any_of HT_.out (by kernel_rfl)) (fun _ _ _ h=>h) (Or.inl ⟨by rfl,?_⟩) ?_ ?_
     rotate_left
     ·intro w'
      go_simp
      with_reducible rfl
     rotate_left
     ·simp only [Act.put,List.setIfInBounds_toArray,List.set_cons_zero,List.set_cons_succ,i64_w,i32_w]
      rfl
     refine pure_ (i:=17) (N:=some 44) (v:=?_) (a':=?_) #[true,true,true,true,true,true,true,true,true,true,true,true,true,true,true,true,true,true,false] rfl rfl (any_of HT_.out (by kernel_rfl)) (fun _ _ _ h=>h) (Or.inl ⟨by rfl,?_⟩) ?_ ?_
     rotate_left
     ·intro w'
      go_simp
      with_reducible rfl
     rotate_left
     ·simp only [Act.put,List.setIfInBounds_toArray,List.set_cons_zero,List.set_cons_succ,i64_w,i32_w]
      rfl
     refine last_ (i:=18) (N:=none) #[true,true,true,true,true,true,true,true,true,true,true,true,true,true,true,true,true,true,true] rfl rfl (one_of HT_.out (by kernel_rfl)) (by decide) (fun K hK=>?_)
     refine skip_ (w1:=?_) (by rfl) rfl ?_ ?_
     rotate_left
     ·go_simp
      rfl
     refine hK.out _ _ ?_
     clear hK K
     refine done_ (done_of HT_.out (by kernel_rfl)) ?_
     try go_wp2
     first|go_end0|((try simp only [Exit.inBlock,Exit.then]);refine bodyPost_ret (results_none rfl _ _ _) rfl ?_)
     exact ⟨.slice Ao20 l0_0.length co20,.slice (some ⟨go19,0,none⟩) l0_1.length co21,_,rfl,(Sem.setCell_three (t:=25) (by (with_reducible repeat (first|refine zbN ?_ _|refine zbD ?_|refine zbA ?_ _));refine blk_far ?_ (NBG_go19.out) _;exact BK224.out)).symm,by (with_reducible repeat (first|apply zrA|apply zrN|apply zrD));exact Kd.R_mono (Kd.R_far (p:=⟨go19,(a1_1:Int).toNat,none⟩) (Kd.R_types HO0_0.out GG19.out (by decide)) (fun _ hk=>hk.2) (.int .i64 ji18)) (fun _ hk=>hk.1),by (with_reducible repeat (first|apply zrA|apply zrN|apply zrD));exact HQ27.out,by repeat (first|(with_reducible first|exact HB.out|apply zlA|apply zlN|apply zlD|refine zlS ?_ GB19.out|refine zlS ?_ GE224.out|refine zlS ?_ GE225.out)|exact HB.out),by repeat (first|(with_reducible first|exact HK.out|apply Kept.alloc|apply Kept.drewN|apply Kept.drew|refine Kept.setCell ?_ HMgo19.out _|refine Kept.setCell ?_ (.inr GW224.out) _|refine Kept.setCell ?_ (.inr GW225.out) _)|exact HK.out)⟩
    ·rw [if_neg c17] at H
     exact absurd H (by simp)
   ·rw [if_neg c16] at H
    exact absurd H (by simp)
  ·rw [if_neg c15] at H
   have c15b0:(a1_0 == 2)=false:=beq_eq_false_iff_ne.mpr c15
   have c15b1:(a1_0 != 2)=true:=bne_iff_ne.mpr c15
   obtain ⟨ji28,hji28⟩:∃ j_:Int,(mx a0_2 a1_2)=j_:=⟨_,rfl⟩
   replace H:(some (l0_0,l0_1,ji28))=some (r1,r2,r3):=by first|(rw [hji28] at H;exact H)|(simp only [hji28] at H ⊢;exact H)
   have hji28_:(if a0_2 < a1_2 then a1_2 else a0_2)=ji28:=hji28
   simp only [Option.some.injEq,Prod.mk.injEq] at H
   obtain ⟨rfl,rfl,rfl⟩:=H
   obtain ⟨Ao29,co29,eo29⟩:=Kd.R_slice HO0_0.out
   subst eo29
   obtain ⟨Ao30,co30,eo30⟩:=Kd.R_slice HO0_1.out
   subst eo30
   have BK224:=zm hbox
   clear hbox
   go_enter Try.func62,Try.ntmps62
   try go_wp2_with (first|((with_reducible refine gate_dst (N:=3) rfl ?_);refine box_event ?hg (N:=3) ?hd (cs:=#[.int .i64 a1_0,.int .i64 a1_1,.int .i64 a1_2]) (t:=55) ?hr ?_;(case hd=>rfl);(case hg=>rfl);(case hr=>first|(go_simp;done)|(go_simp;rfl));intro gb225 hg w32 hbox hb;have n0_:=zm (Kd.R_below (by (with_reducible repeat (first|apply zrA|apply zrN|apply zrD));exact HO0_0.out) hb);have n1_:=zm (Kd.R_below (by (with_reducible repeat (first|apply zrA|apply zrN|apply zrD));exact HO0_1.out) hb);have n2_:=zm (zbB (g:=g_) (o:=.cells #[.slice Ao29 l0_0.length co29,.slice Ao30 l0_1.length co30,.int .i64 a0_2] 25 (0,0)) (by (with_reducible repeat (first|refine zbN ?_ _|refine zbD ?_|refine zbA ?_ _));exact BK224.out) hb);have n3_:=zm (Kept.below (S:=(fun k_=>P0_0_ k_∨P0_1_ k_)) (by repeat (first|(with_reducible first|exact HK.out|apply Kept.alloc|apply Kept.drewN|apply Kept.drew|refine Kept.setCell ?_ (.inr GW224.out) _)|exact HK.out)) hb);have n4_:=zm (below_step (by repeat (first|(with_reducible first|exact HB.out|apply zlA|apply zlN|apply zlD|refine zlS ?_ GE224.out)|exact HB.out)) hb);have n5_:=zm (hbox);have n6_:=zm ((by rw [hg];exact (by first|exact HK.out.1|exact (show Kept w _ (fun k_=>P0_0_ k_∨P0_1_ k_) from by repeat (first|(with_reducible first|exact HK.out|apply Kept.alloc|apply Kept.drewN|apply Kept.drew|refine Kept.setCell ?_ (.inr GW224.out) _)|exact HK.out)).1):w.heap.size≤gb225));have n7_:=zm ((by rw [hg];exact (below_size (by repeat (first|(with_reducible first|exact HB.out|apply zlA|apply zlN|apply zlD|refine zlS ?_ GE224.out)|exact HB.out))):w0.heap.size≤gb225));have n8_:=zm ((by rw [hg];exact Nat.ne_of_lt (blk_lt (g:=g_) (o:=.cells #[.slice Ao29 l0_0.length co29,.slice Ao30 l0_1.length co30,.int .i64 a0_2] 25 (0,0)) (by (with_reducible repeat (first|refine zbN ?_ _|refine zbD ?_|refine zbA ?_ _));exact BK224.out)):g_≠gb225));have n9_:=zm ((by rw [hg];exact Nat.ne_of_gt (blk_lt (g:=g_) (o:=.cells #[.slice Ao29 l0_0.length co29,.slice Ao30 l0_1.length co30,.int .i64 a0_2] 25 (0,0)) (by (with_reducible repeat (first|refine zbN ?_ _|refine zbD ?_|refine zbA ?_ _));exact BK224.out)):gb225≠g_));clear HO0_0 HO0_1 BK224 HK HB;have HO0_0:=n0_;have HO0_1:=n1_;have BK224:=n2_;have HK:=n3_;have HB:=n4_;have BK225:=n5_;have GW225:=n6_;have GE225:=n7_;have NB224_225:=n8_;have NB225_224:=n9_;clear n0_ n1_ n2_ n3_ n4_ n5_ n6_ n7_ n8_ n9_;clear hb hbox hg;have hnb33:=NB225_224.out;have hnc33:=NB224_225.out;have hcz34_0:w32.cell? ⟨gb225,0,none⟩=some (.int .i64 a1_0):=(blk_cell BK225.out 0).trans rfl;have hcz34_1:w32.cell? ⟨gb225,1,none⟩=some (.int .i64 a1_1):=(blk_cell BK225.out 1).trans rfl;have hcz34_2:w32.cell? ⟨gb225,2,none⟩=some (.int .i64 a1_2):=(blk_cell BK225.out 2).trans rfl;have hfz34_0:=blk_frozen BK225.out 0;have hfz34_1:=blk_frozen BK225.out 1;have hfz34_2:=blk_frozen BK225.out 2))
   have n0_:=zm (zrD HO0_0.out)
   have n1_:=zm (zrD HO0_1.out)
   have n2_:=zm (zbD BK224.out)
   have n3_:=zm (zbD BK225.out)
   have n4_:=zm (Kept.drew HK.out)
   have n5_:=zm (zlD HB.out)
   clear HO0_0 HO0_1 BK224 BK225 HK HB
   have HO0_0:=n0_
   have HO0_1:=n1_
   have BK224:=n2_
   have BK225:=n3_
   have HK:=n4_
   have HB:=n5_
   clear n0_ n1_ n2_ n3_ n4_ n5_
   refine start_ (n:=11) (S:=fun w'=>w'.cell? ⟨g_,0,none⟩=some (.slice Ao29 l0_0.length co29)∧w'.cell? ⟨g_,1,none⟩=some (.slice Ao30 l0_1.length co30)∧w'.cell? ⟨g_,2,none⟩=some (.int .i64 a0_2)∧w'.cell? ⟨gb225,0,none⟩=some (.int .i64 a1_0)∧w'.cell? ⟨gb225,1,none⟩=some (.int .i64 a1_1)∧w'.cell? ⟨gb225,2,none⟩=some (.int .i64 a1_2)) (ds:=[10]) #[false,false,false,false,false,false,false,false,false,false,false] (by kernel_rfl) rfl rfl ⟨(blk_cell BK224.out 0).trans rfl,(blk_cell BK224.out 1).trans rfl,(blk_cell BK224.out 2).trans rfl,(blk_cell BK225.out 0).trans rfl,(blk_cell BK225.out 1).trans rfl,(blk_cell BK225.out 2).trans rfl⟩ (fun hHeld=>?_);refine with_tabW mapjnl_learn.tab2 mapjnl_learn.bits2 (fun HT_ HW_=>?_)
   generalize w32.drew=w35 at HO0_0 HO0_1 BK224 BK225 HK HB hHeld ⊢
   refine pure_ (i:=0) (N:=some 6) (v:=?_) (a':=?_) #[true,false,false,false,false,false,false,false,false,false,false] rfl rfl (any_of HT_.out (by kernel_rfl)) (fun _ _ _ h=>h) (Or.inl ⟨by rfl,?_⟩) ?_ ?_
   rotate_left
   ·intro w'
    go_simp
    with_reducible rfl
   rotate_left
   ·simp only [Act.put,List.setIfInBounds_toArray,List.set_cons_zero,List.set_cons_succ,i64_w,i32_w]
    rfl
   refine pure_ (i:=1) (N:=some 7) (v:=?_) (a':=?_) #[true,true,false,false,false,false,false,false,false,false,false] rfl rfl (any_of HT_.out (by kernel_rfl)) (fun _ _ _ h=>h) (Or.inl ⟨by rfl,?_⟩) ?_ ?_
   rotate_left
   ·intro w'
    go_simp
    with_reducible rfl
   rotate_left
   ·simp only [Act.put,List.setIfInBounds_toArray,List.set_cons_zero,List.set_cons_succ,i64_w,i32_w]
    rfl
   refine pure_ (i:=2) (N:=some 8) (v:=?_) (a':=?_) #[true,true,true,false,false,false,false,false,false,false,false] rfl rfl (any_of HT_.out (by kernel_rfl)) (fun _ _ _ h=>h) (Or.inl ⟨by rfl,?_⟩) ?_ ?_
   rotate_left
   ·intro w'
    go_simp
    with_reducible rfl
   rotate_left
   ·simp only [Act.put,List.setIfInBounds_toArray,List.set_cons_zero,List.set_cons_succ,i64_w,i32_w]
    rfl
   refine pure_ (i:=3) (N:=some 9) (v:=?_) (a':=?_) #[true,true,true,true,false,false,false,false,false,false,false] rfl rfl (any_of HT_.out (by kernel_rfl)) (fun _ _ _ h=>h) (Or.inl ⟨by rfl,?_⟩) ?_ ?_
   rotate_left
   ·intro w'
    go_simp
    with_reducible rfl
   rotate_left
   ·simp only [Act.put,List.setIfInBounds_toArray,List.set_cons_zero,List.set_cons_succ,i64_w,i32_w]
    rfl
   refine pure_ (i:=5) (N:=some 11) (v:=?_) (a':=?_) #[true,true,true,true,false,true,false,false,false,false,false] rfl rfl (any_of HT_.out (by kernel_rfl)) (fun _ _ _ h=>h) (Or.inl ⟨by rfl,?_⟩) ?_ ?_
   rotate_left
   ·intro w'
    go_simp
    with_reducible rfl
   rotate_left
   ·simp only [Act.put,List.setIfInBounds_toArray,List.set_cons_zero,List.set_cons_succ,i64_w,i32_w]
    rfl
   refine take_ (i:=4) (N:=some 10) (v:=?_) (a':=?_) #[true,true,true,true,true,true,false,false,false,false,false] rfl rfl (take_ofW HT_.out HW_.out (by kernel_rfl)) (fun _ _ _ h=>h) (Or.inl ⟨by rfl,?_⟩) hHeld ?_ ?_
   rotate_left
   ·rintro w' ⟨s0,s1,s2,s3,s4,s5⟩
    go_simp
    with_reducible rfl
   rotate_left
   ·simp only [Act.put,List.setIfInBounds_toArray,List.set_cons_zero,List.set_cons_succ,i64_w,i32_w]
    rfl
   refine take_ (i:=6) (N:=some 12) (v:=?_) (a':=?_) #[true,true,true,true,true,true,true,false,false,false,false] rfl rfl (take_ofW HT_.out HW_.out (by kernel_rfl)) (fun _ _ _ h=>h) (Or.inl ⟨by rfl,?_⟩) hHeld ?_ ?_
   rotate_left
   ·rintro w' ⟨s0,s1,s2,s3,s4,s5⟩
    go_simp
    with_reducible rfl
   rotate_left
   ·simp only [Act.put,List.setIfInBounds_toArray,List.set_cons_zero,List.set_cons_succ,i64_w,i32_w]
    rfl
   refine pure_ (i:=7) (N:=some 13) (v:=?_) (a':=?_) #[true,true,true,true,true,true,true,true,false,false,false] rfl rfl (any_of HT_.out (by kernel_rfl)) (fun _ _ _ h=>h) (Or.inl ⟨by rfl,?_⟩) ?_ ?_
   rotate_left
   ·intro w'
    go_simp
    with_reducible rfl
   rotate_left
   ·simp only [Act.put,List.setIfInBounds_toArray,List.set_cons_zero,List.set_cons_succ,i64_w,i32_w]
    rfl
   refine pure_ (i:=8) (N:=some 14) (v:=?_) (a':=?_) #[true,true,true,true,true,true,true,true,true,false,false] rfl rfl (any_of HT_.out (by kernel_rfl)) (fun _ _ _ h=>h) (Or.inl ⟨by rfl,?_⟩) ?_ ?_
   rotate_left
   ·intro w'
    go_simp
    with_reducible rfl
   rotate_left
   ·simp only [Act.put,List.setIfInBounds_toArray,List.set_cons_zero,List.set_cons_succ,i64_w,i32_w]
    rfl
   refine pure_ (i:=9) (N:=some 15) (v:=?_) (a':=?_) #[true,true,true,true,true,true,true,true,true,true,false] rfl rfl (any_of HT_.out (by kernel_rfl)) (fun _ _ _ h=>h) (Or.inl ⟨by rfl,?_⟩) ?_ ?_
   rotate_left
   ·intro w'
    go_simp
    with_reducible rfl
   rotate_left
   ·simp only [Act.put,List.setIfInBounds_toArray,List.set_cons_zero,List.set_cons_succ,i64_w,i32_w]
    rfl
   refine last_ (i:=10) (N:=none) #[true,true,true,true,true,true,true,true,true,true,true] rfl rfl (one_of HT_.out (by kernel_rfl)) (by decide) (fun K hK=>?_)
   have hs36:w35.cell? ⟨g_,2,none⟩=some (.int .i64 a0_2):=(blk_cell BK224.out 2).trans rfl
   have hfs36:=blk_frozen BK224.out 2
   have hns36_1:=NB225_224.out
   have hms36_1:=NB224_225.out
   refine skip_ (w1:=?_) (by rfl) rfl ?_ ?_
   rotate_left
   ·go_simp
    rfl
   refine hK.out _ _ ?_
   clear hK K
   refine done_ (done_of HT_.out (by kernel_rfl)) ?_
   try go_wp2
   first|go_end0|((try simp only [Exit.inBlock,Exit.then]);refine bodyPost_ret (results_none rfl _ _ _) rfl ?_)
   exact ⟨.slice Ao29 l0_0.length co29,.slice Ao30 l0_1.length co30,_,rfl,(Sem.setCell_two (t:=25) (by (with_reducible repeat (first|refine zbN ?_ _|refine zbD ?_|refine zbA ?_ _));exact BK224.out)).symm,by (with_reducible repeat (first|apply zrA|apply zrN|apply zrD));exact Kd.R_mono HO0_0.out (fun _ hk=>hk),by (with_reducible repeat (first|apply zrA|apply zrN|apply zrD));exact Kd.R_mono HO0_1.out (fun _ hk=>hk),by repeat (first|(with_reducible first|exact HB.out|apply zlA|apply zlN|apply zlD|refine zlS ?_ GE224.out|refine zlS ?_ GE225.out)|exact HB.out),by repeat (first|(with_reducible first|exact HK.out|apply Kept.alloc|apply Kept.drewN|apply Kept.drew|refine Kept.setCell ?_ (.inr GW224.out) _|refine Kept.setCell ?_ (.inr GW225.out) _)|exact HK.out)⟩
end Go.Proofs.Ytkhbmgclklmimaa.Print
end
section
namespace Go.Proofs.Ytkhbmgclklmimaa.Print
open Go.RowKit Go.Proofs.YtkhbmgclklmimaaW.PrintWords Go.Proofs.YtkhbmgclklmimaaW.PrintLast Go.Proofs.YtkhbmgclklmimaaW.PrintMore
attribute [local go_sem] max2_int min2_int max_two min_two max_three min_three max_four min_four   -- for this text's walks alone
attribute [local go_sem ↓] Go.Proofs.Ytkhbmgclklmimaa.Sem.isSome_setCell
attribute [local go_sem] Go.Instr.field Go.asAgg
set_option linter.unusedVariables false
set_option linter.unusedSimpArgs false
def mapjnl_Apply.l0:Nat → List (S55) → Int → Int → List Bool → List Int → Int → List Bool → List Int → Int → Option (List Bool × List Int × Int × Int)
 | 0,_,_,_,_,_,_,_,_,_=>none
 | k + 1,x18,x19,x20,x231000,x231001,x231002,x241000,x241001,x241002=>if x20 < x19 then (if 0≤x20 then (if x20 < (x18.length:Int) then ((mapjnl_record.f k ((rd_T55 x18 x20).f0) ((rd_T55 x18 x20).f1) ((rd_T55 x18 x20).f2)).bind fun t243=>(if t243=true then (if ((rd_T55 x18 x20).f1) ≥ (x231000.length:Int) then (some (([]:List Bool),([]:List Int),0,61)) else ((mapjnl_learn.f x241000 x241001 x241002 ((rd_T55 x18 x20).f0) ((rd_T55 x18 x20).f1) ((rd_T55 x18 x20).f2)).bind fun bt244=>(mapjnl_Apply.l0 k x18 x19 (wrap64 (x20 + 1)) x231000 x231001 x231002 bt244.1 bt244.2.1 bt244.2.2))) else (some (([]:List Bool),([]:List Int),0,61)))) else (none)) else (none)) else (some (x241000,x241001,x241002,0))
def mapjnl_Apply.f (k:Nat) (l0_0:List Bool) (l0_1:List Int) (a0_2:Int) (l1:List (S55)):Option (List Bool × List Int × Int × Int):=(mapjnl_Check.f k l0_0 l0_1 a0_2).bind fun t232=>(if t232=0 then ((mapjnl_clone.f l0_0 l0_1 a0_2).bind fun bt233=>(mapjnl_Apply.l0 k l1 (l1.length:Int) 0 l0_0 l0_1 a0_2 bt233.1 bt233.2.1 bt233.2.2)) else (some (([]:List Bool),([]:List Int),0,t232)))
theorem mapjnl_Apply.mono_l:∀ k,(∀ y0 y1 y2 y3 y4 y5 y6 y7 y8,LeO (mapjnl_Apply.l0 k y0 y1 y2 y3 y4 y5 y6 y7 y8) (mapjnl_Apply.l0 (k + 1) y0 y1 y2 y3 y4 y5 y6 y7 y8))
 | 0=>fun _ _ _ _ _ _ _ _ _ r h=>by simp [mapjnl_Apply.l0] at h
 | k + 1=>by
  have ih0:=mapjnl_Apply.mono_l k
  ·intro y0 y1 y2 y3 y4 y5 y6 y7 y8
   unfold mapjnl_Apply.l0
   repeat' first
   | (with_reducible exact ih0 _ _ _ _ _ _ _ _ _)
   | (with_reducible exact mapjnl_Check.mono _ _ _ _)
   | (with_reducible exact mapjnl_record.mono _ _ _ _)
   | (with_reducible exact LeO.refl _)
   | (with_reducible exact LeO.none _)
   | (with_reducible refine LeO.ite ?_ ?_)
   | (with_reducible refine LeO.bind ?_ (fun _=>?_))
   | exact ih0 _ _ _ _ _ _ _ _ _
   | exact mapjnl_Check.mono _ _ _ _
   | exact mapjnl_record.mono _ _ _ _
   | exact LeO.none _
   | refine LeO.ite ?_ ?_
   | refine LeO.bind ?_ (fun _=>?_)
theorem mapjnl_Apply.mono:∀ a0 a1 a2 a3 k,LeO (mapjnl_Apply.f k a0 a1 a2 a3) (mapjnl_Apply.f (k + 1) a0 a1 a2 a3):=by
 intro a0 a1 a2 a3 k
 have ih0:=mapjnl_Apply.mono_l k
 unfold mapjnl_Apply.f
 repeat' first
   | (with_reducible exact ih0 _ _ _ _ _ _ _ _ _)
   | (with_reducible exact mapjnl_Check.mono _ _ _ _)
   | (with_reducible exact mapjnl_record.mono _ _ _ _)
   | (with_reducible exact LeO.refl _)
   | (with_reducible exact LeO.none _)
   | (with_reducible refine LeO.ite ?_ ?_)
   | (with_reducible refine LeO.bind ?_ (fun _=>?_))
   | exact ih0 _ _ _ _ _ _ _ _ _
   | exact mapjnl_Check.mono _ _ _ _
   | exact mapjnl_record.mono _ _ _ _
   | exact LeO.none _
   | refine LeO.ite ?_ ?_
   | refine LeO.bind ?_ (fun _=>?_)
set_option maxHeartbeats 8000000 in
set_option maxRecDepth 100000 in
theorem mapjnl_Apply.calls (k:Nat) (A0_0:Option Addr) (c0_0:Nat) (l0_0:List Bool) (A0_1:Option Addr) (c0_1:Nat) (l0_1:List Int) (a0_2:Int) (A1:Option Addr) (c1:Nat) (l1:List (S55)) (r1:List Bool) (r2:List Int) (r3:Int) (r4:Int) (w:World) (hr0_0:Kd.C Kd.bool w A0_0 l0_0.length l0_0) (hc0_0:l0_0.length≤c0_0) (hr0_1:Kd.C (Kd.int .i64) w A0_1 l0_1.length l0_1) (hc0_1:l0_1.length≤c0_1) (hr1:Kd.C k55 w A1 l1.length l1) (hc1:l1.length≤c1) (h:mapjnl_Apply.f k l0_0 l0_1 a0_2 l1=some (r1,r2,r3,r4)) :
  Calls Try.prog 22 #[.agg #[.slice A0_0 l0_0.length c0_0,.slice A0_1 l0_1.length c0_1,.int .i64 a0_2],.slice A1 l1.length c1] w fun e w'=>∃ v0_ v1_:Value,e=.returned (.tuple #[.agg #[v0_,v1_,.int .i64 r3],.int .i64 r4])∧Kd.R Kd.bool 4 w' w.heap.size (fun _=>True) v0_ r1∧Kd.R (Kd.int .i64) 2 w' w.heap.size (fun _=>True) v1_ r2∧Below w.heap.size w w':=by
 have hu25:=Try.underlying25
 have hu55:=Try.underlying55
 have HR0_0:=zm hr0_0
 have HC0_0:=zm hc0_0
 clear hr0_0 hc0_0
 have HR0_1:=zm hr0_1
 have HC0_1:=zm hc0_1
 clear hr0_1 hc0_1
 have HR1:=zm hr1
 have HC1:=zm hc1
 clear hr1 hc1
 have HB:=zm (Below.refl w.heap.size w)
 have H:((mapjnl_Check.f k l0_0 l0_1 a0_2).bind fun t232=>(if t232=0 then ((mapjnl_clone.f l0_0 l0_1 a0_2).bind fun bt233=>(mapjnl_Apply.l0 k l1 (l1.length:Int) 0 l0_0 l0_1 a0_2 bt233.1 bt233.2.1 bt233.2.2)) else (some (([]:List Bool),([]:List Int),0,t232))))=some (r1,r2,r3,r4):=h
 clear h
 replace H:=Option.bind_eq_some_iff.mp H
 obtain ⟨t232,A30,H⟩:=H
 replace H:(if t232=0 then ((mapjnl_clone.f l0_0 l0_1 a0_2).bind fun bt233=>(mapjnl_Apply.l0 k l1 (l1.length:Int) 0 l0_0 l0_1 a0_2 bt233.1 bt233.2.1 bt233.2.2)) else (some (([]:List Bool),([]:List Int),0,t232)))=some (r1,r2,r3,r4):=H
 have A3:=zm A30
 clear A30
 by_cases c4:t232=0
 ·rw [if_pos c4] at H
  have c4b0:(t232 == 0)=true:=beq_iff_eq.mpr c4
  have c4b1:(t232 != 0)=false:=bne_eq_false_iff_eq.mpr c4
  clear c4
  replace H:=Option.bind_eq_some_iff.mp H
  obtain ⟨⟨t233,t236,t239⟩,A50,H⟩:=H
  replace H:(mapjnl_Apply.l0 k l1 (l1.length:Int) 0 l0_0 l0_1 a0_2 t233 t236 t239)=some (r1,r2,r3,r4):=H
  have A5:=zm A50
  clear A50
  have H':=zm H
  clear H
  go_enter Try.func22,Try.ntmps22
  go_wp2_with (first|((with_reducible refine gate_dst (N:=2) rfl ?_);(try (refine gate_guard (by rfl) ?_;dsimp only));refine box_event ?hg (N:=2) ?hd (cs:=#[.slice A0_0 l0_0.length c0_0,.slice A0_1 l0_1.length c0_1,.int .i64 a0_2]) (t:=25) ?hr ?_;(case hd=>rfl);(case hg=>rfl);(case hr=>first|(go_simp;done)|(go_simp;rfl));intro gb230 hg w6 hbox hb;have n0_:=zm (below_step (by repeat (first|(with_reducible first|exact HB.out|apply zlA|apply zlN|apply zlD)|exact HB.out)) hb);have n1_:=zm (hbox);have n2_:=zm ((by rw [hg];exact (below_size (by repeat (first|(with_reducible first|exact HB.out|apply zlA|apply zlN|apply zlD)|exact HB.out))):w.heap.size≤gb230));have n3_:=zm ((by rw [hg];exact (below_size (by repeat (first|(with_reducible first|exact HB.out|apply zlA|apply zlN|apply zlD)|exact HB.out))):w.heap.size≤gb230));clear HB;have HB:=n0_;have BK230:=n1_;have GW230:=n2_;have GE230:=n3_;clear n0_ n1_ n2_ n3_;clear hb hbox hg)|((with_reducible refine gate_dst (N:=4) rfl ?_);(try (refine gate_guard (by rfl) ?_;dsimp only));refine box_event ?hg (N:=4) ?hd (cs:=#[.slice none 0 0,.slice none 0 0,.int .i64 0]) (t:=25) ?hr ?_;(case hd=>rfl);(case hg=>rfl);(case hr=>first|(go_simp;done)|(go_simp;rfl));intro gb231 hg w7 hbox hb;have n0_:=zm (zbB (g:=gb230) (o:=.cells #[.slice A0_0 l0_0.length c0_0,.slice A0_1 l0_1.length c0_1,.int .i64 a0_2] 25 (0,0)) (by (with_reducible repeat (first|refine zbN ?_ _|refine zbD ?_|refine zbA ?_ _));exact BK230.out) hb);have n1_:=zm (below_step (by repeat (first|(with_reducible first|exact HB.out|apply zlA|apply zlN|apply zlD|refine zlS ?_ GE230.out)|exact HB.out)) hb);have n2_:=zm (hbox);have n3_:=zm ((by rw [hg];exact (below_size (by repeat (first|(with_reducible first|exact HB.out|apply zlA|apply zlN|apply zlD|refine zlS ?_ GE230.out)|exact HB.out))):w.heap.size≤gb231));have n4_:=zm ((by rw [hg];exact (below_size (by repeat (first|(with_reducible first|exact HB.out|apply zlA|apply zlN|apply zlD|refine zlS ?_ GE230.out)|exact HB.out))):w.heap.size≤gb231));have n5_:=zm ((by rw [hg];exact Nat.ne_of_lt (blk_lt (g:=gb230) (o:=.cells #[.slice A0_0 l0_0.length c0_0,.slice A0_1 l0_1.length c0_1,.int .i64 a0_2] 25 (0,0)) (by (with_reducible repeat (first|refine zbN ?_ _|refine zbD ?_|refine zbA ?_ _));exact BK230.out)):gb230≠gb231));have n6_:=zm ((by rw [hg];exact Nat.ne_of_gt (blk_lt (g:=gb230) (o:=.cells #[.slice A0_0 l0_0.length c0_0,.slice A0_1 l0_1.length c0_1,.int .i64 a0_2] 25 (0,0)) (by (with_reducible repeat (first|refine zbN ?_ _|refine zbD ?_|refine zbA ?_ _));exact BK230.out)):gb231≠gb230));clear BK230 HB;have BK230:=n0_;have HB:=n1_;have BK231:=n2_;have GW231:=n3_;have GE231:=n4_;have NB230_231:=n5_;have NB231_230:=n6_;clear n0_ n1_ n2_ n3_ n4_ n5_ n6_;clear hb hbox hg;have hnb8:=NB230_231.out;have hnc8:=NB231_230.out;have hcz9_0:w7.cell? ⟨gb230,0,none⟩=some (.slice A0_0 l0_0.length c0_0):=(blk_cell BK230.out 0).trans rfl;have hcz9_1:w7.cell? ⟨gb230,1,none⟩=some (.slice A0_1 l0_1.length c0_1):=(blk_cell BK230.out 1).trans rfl;have hcz9_2:w7.cell? ⟨gb230,2,none⟩=some (.int .i64 a0_2):=(blk_cell BK230.out 2).trans rfl;have hfz9_0:=blk_frozen BK230.out 0;have hfz9_1:=blk_frozen BK230.out 1;have hfz9_2:=blk_frozen BK230.out 2)|((with_reducible refine gate_callee (f:=17) rfl ?_);refine goesL_ (some 11) rfl rfl Try.func17 (by kernel_rfl) rfl #[.agg #[.slice A0_0 l0_0.length c0_0,.slice A0_1 l0_1.length c0_1,.int .i64 a0_2]] rfl (by (try simp only [List.map_toArray,List.map_cons,List.map_nil]);first|done|rfl|(simp only [List.length_drop,List.length_take];rfl)) ?_;(with_reducible refine (mapjnl_Check.calls k _ _ l0_0 _ _ l0_1 a0_2 t232 _ ?side1 ?side2 ?side3 ?side4 A3.out).mono ?_);(case side1=>repeat (first|exact (Kd.C_below HR0_0.out HB.out)|(with_reducible refine Kd.C_alloc ?_ _)|(with_reducible refine Kd.C_drewN ?_ _)|(with_reducible refine Kd.C_drew ?_)));(case side2=>exact HC0_0.out);(case side3=>repeat (first|exact (Kd.C_below HR0_1.out HB.out)|(with_reducible refine Kd.C_alloc ?_ _)|(with_reducible refine Kd.C_drewN ?_ _)|(with_reducible refine Kd.C_drew ?_)));(case side4=>exact HC0_1.out);rintro e w10 ⟨rfl,hb⟩;refine ⟨_,rfl,?_⟩;have n0_:=zm (zbB (g:=gb230) (o:=.cells #[.slice A0_0 l0_0.length c0_0,.slice A0_1 l0_1.length c0_1,.int .i64 a0_2] 25 (0,0)) (by (with_reducible repeat (first|refine zbN ?_ _|refine zbD ?_|refine zbA ?_ _));exact BK230.out) hb);have n1_:=zm (zbB (g:=gb231) (o:=.cells #[.slice none 0 0,.slice none 0 0,.int .i64 0] 25 (0,0)) (by (with_reducible repeat (first|refine zbN ?_ _|refine zbD ?_|refine zbA ?_ _));exact BK231.out) hb);have n2_:=zm (below_step (by repeat (first|(with_reducible first|exact HB.out|apply zlA|apply zlN|apply zlD|refine zlS ?_ GE230.out|refine zlS ?_ GE231.out)|exact HB.out)) hb);clear BK230 BK231 HB;have BK230:=n0_;have BK231:=n1_;have HB:=n2_;clear n0_ n1_ n2_;(try clear hb);(try clear hb2);(try clear hk);(try clear hi);have hcz11_0:w10.cell? ⟨gb230,0,none⟩=some (.slice A0_0 l0_0.length c0_0):=(blk_cell BK230.out 0).trans rfl;have hcz11_1:w10.cell? ⟨gb230,1,none⟩=some (.slice A0_1 l0_1.length c0_1):=(blk_cell BK230.out 1).trans rfl;have hcz11_2:w10.cell? ⟨gb230,2,none⟩=some (.int .i64 a0_2):=(blk_cell BK230.out 2).trans rfl;have hfz11_0:=blk_frozen BK230.out 0;have hfz11_1:=blk_frozen BK230.out 1;have hfz11_2:=blk_frozen BK230.out 2)|((with_reducible refine gate_callee (f:=51) rfl ?_);refine goesL_ (some 17) rfl rfl Try.func51 (by kernel_rfl) rfl #[.agg #[.slice A0_0 l0_0.length c0_0,.slice A0_1 l0_1.length c0_1,.int .i64 a0_2]] rfl (by (try simp only [List.map_toArray,List.map_cons,List.map_nil]);first|done|rfl|(simp only [List.length_drop,List.length_take];rfl)) ?_;(with_reducible refine (mapjnl_clone.calls _ _ l0_0 _ _ l0_1 a0_2 t233 t236 t239 _ ?side1 ?side2 ?side3 ?side4 A5.out).mono ?_);(case side1=>repeat (first|exact (Kd.C_below HR0_0.out HB.out)|(with_reducible refine Kd.C_alloc ?_ _)|(with_reducible refine Kd.C_drewN ?_ _)|(with_reducible refine Kd.C_drew ?_)));(case side2=>exact HC0_0.out);(case side3=>repeat (first|exact (Kd.C_below HR0_1.out HB.out)|(with_reducible refine Kd.C_alloc ?_ _)|(with_reducible refine Kd.C_drewN ?_ _)|(with_reducible refine Kd.C_drew ?_)));(case side4=>exact HC0_1.out);rintro e w12 ⟨v234,v237,rfl,ho0,ho1,hb⟩;refine ⟨_,rfl,?_⟩;have n0_:=zm (Kd.R_lower ho0 (below_size (by repeat (first|(with_reducible first|exact HB.out|apply zlA|apply zlN|apply zlD|refine zlS ?_ GE230.out|refine zlS ?_ GE231.out)|exact HB.out))));have n1_:=zm (Kd.R_lower ho1 (below_size (by repeat (first|(with_reducible first|exact HB.out|apply zlA|apply zlN|apply zlD|refine zlS ?_ GE230.out|refine zlS ?_ GE231.out)|exact HB.out))));have n2_:=zm (zbB (g:=gb230) (o:=.cells #[.slice A0_0 l0_0.length c0_0,.slice A0_1 l0_1.length c0_1,.int .i64 a0_2] 25 (0,0)) (by (with_reducible repeat (first|refine zbN ?_ _|refine zbD ?_|refine zbA ?_ _));exact BK230.out) hb);have n3_:=zm (zbB (g:=gb231) (o:=.cells #[.slice none 0 0,.slice none 0 0,.int .i64 0] 25 (0,0)) (by (with_reducible repeat (first|refine zbN ?_ _|refine zbD ?_|refine zbA ?_ _));exact BK231.out) hb);have n4_:=zm (below_step (by repeat (first|(with_reducible first|exact HB.out|apply zlA|apply zlN|apply zlD|refine zlS ?_ GE230.out|refine zlS ?_ GE231.out)|exact HB.out)) hb);clear BK230 BK231 HB;have HO235:=n0_;have HO238:=n1_;have BK230:=n2_;have BK231:=n3_;have HB:=n4_;clear n0_ n1_ n2_ n3_ n4_;(try clear hb);(try clear hb2);(try clear hk);(try clear hi);(try clear ho0);(try clear ho1))|((with_reducible refine gate_dst (N:=7) rfl ?_);(try (refine gate_guard (by rfl) ?_;dsimp only));refine box_event ?hg (N:=7) ?hd (cs:=#[.slice none 0 0,.slice none 0 0,.int .i64 0]) (t:=25) ?hr ?_;(case hd=>rfl);(case hg=>rfl);(case hr=>first|(go_simp;done)|(go_simp;rfl));intro gb240 hg w13 hbox hb;have n0_:=zm (Kd.R_below (by (with_reducible repeat (first|apply zrA|apply zrN|apply zrD));exact HO235.out) hb);have n1_:=zm (Kd.R_below (by (with_reducible repeat (first|apply zrA|apply zrN|apply zrD));exact HO238.out) hb);have n2_:=zm (zbB (g:=gb230) (o:=.cells #[.slice A0_0 l0_0.length c0_0,.slice A0_1 l0_1.length c0_1,.int .i64 a0_2] 25 (0,0)) (by (with_reducible repeat (first|refine zbN ?_ _|refine zbD ?_|refine zbA ?_ _));exact BK230.out) hb);have n3_:=zm (zbB (g:=gb231) (o:=.cells #[.slice none 0 0,.slice none 0 0,.int .i64 0] 25 (0,0)) (by (with_reducible repeat (first|refine zbN ?_ _|refine zbD ?_|refine zbA ?_ _));exact BK231.out) hb);have n4_:=zm (below_step (by repeat (first|(with_reducible first|exact HB.out|apply zlA|apply zlN|apply zlD|refine zlS ?_ GE230.out|refine zlS ?_ GE231.out)|exact HB.out)) hb);have n5_:=zm (hbox);have n6_:=zm ((by rw [hg];exact (below_size (by repeat (first|(with_reducible first|exact HB.out|apply zlA|apply zlN|apply zlD|refine zlS ?_ GE230.out|refine zlS ?_ GE231.out)|exact HB.out))):w.heap.size≤gb240));have n7_:=zm ((by rw [hg];exact (below_size (by repeat (first|(with_reducible first|exact HB.out|apply zlA|apply zlN|apply zlD|refine zlS ?_ GE230.out|refine zlS ?_ GE231.out)|exact HB.out))):w.heap.size≤gb240));have n8_:=zm ((by rw [hg];exact Nat.ne_of_lt (blk_lt (g:=gb230) (o:=.cells #[.slice A0_0 l0_0.length c0_0,.slice A0_1 l0_1.length c0_1,.int .i64 a0_2] 25 (0,0)) (by (with_reducible repeat (first|refine zbN ?_ _|refine zbD ?_|refine zbA ?_ _));exact BK230.out)):gb230≠gb240));have n9_:=zm ((by rw [hg];exact Nat.ne_of_gt (blk_lt (g:=gb230) (o:=.cells #[.slice A0_0 l0_0.length c0_0,.slice A0_1 l0_1.length c0_1,.int .i64 a0_2] 25 (0,0)) (by (with_reducible repeat (first|refine zbN ?_ _|refine zbD ?_|refine zbA ?_ _));exact BK230.out)):gb240≠gb230));have n10_:=zm ((by rw [hg];exact Nat.ne_of_lt (blk_lt (g:=gb231) (o:=.cells #[.slice none 0 0,.slice none 0 0,.int .i64 0] 25 (0,0)) (by (with_reducible repeat (first|refine zbN ?_ _|refine zbD ?_|refine zbA ?_ _));exact BK231.out)):gb231≠gb240));have n11_:=zm ((by rw [hg];exact Nat.ne_of_gt (blk_lt (g:=gb231) (o:=.cells #[.slice none 0 0,.slice none 0 0,.int .i64 0] 25 (0,0)) (by (with_reducible repeat (first|refine zbN ?_ _|refine zbD ?_|refine zbA ?_ _));exact BK231.out)):gb240≠gb231));clear HO235 HO238 BK230 BK231 HB;have HO235:=n0_;have HO238:=n1_;have BK230:=n2_;have BK231:=n3_;have HB:=n4_;have BK240:=n5_;have GW240:=n6_;have GE240:=n7_;have NB230_240:=n8_;have NB240_230:=n9_;have NB231_240:=n10_;have NB240_231:=n11_;clear n0_ n1_ n2_ n3_ n4_ n5_ n6_ n7_ n8_ n9_ n10_ n11_;clear hb hbox hg;obtain ⟨Ao14,co14,eo14⟩:=Kd.R_slice HO235.out;subst eo14;have hnb15:=NB240_230.out;have hnc15:=NB230_240.out;have hnb16:=NB240_231.out;have hnc16:=NB231_240.out;have hcz17_0:w13.cell? ⟨gb240,0,none⟩=some (.slice none 0 0):=(blk_cell BK240.out 0).trans rfl;have hcz17_1:w13.cell? ⟨gb240,1,none⟩=some (.slice none 0 0):=(blk_cell BK240.out 1).trans rfl;have hcz17_2:w13.cell? ⟨gb240,2,none⟩=some (.int .i64 0):=(blk_cell BK240.out 2).trans rfl;have hfz17_0:=blk_frozen BK240.out 0;have hfz17_1:=blk_frozen BK240.out 1;have hfz17_2:=blk_frozen BK240.out 2;obtain ⟨Ao18,co18,eo18⟩:=Kd.R_slice HO238.out;subst eo18))
  go_loopg [20] k (fun kq v20 w'=>∃ (x20_1:Int) (x232002_1:Int) (x241000_1:List Bool) (x241001_1:List Int) (x241002_1:Int) (u241000:Value) (u241001:Value),v20=.int .i64 x20_1∧Aside0 (mapjnl_Apply.l0 kq l1 (l1.length:Int) x20_1 l0_0 l0_1 a0_2 x241000_1 x241001_1 x241002_1=some (r1,r2,r3,r4))∧Aside0 (kq≤k)∧Aside0 (Kd.R Kd.bool 4 w' w.heap.size (fun _=>True) u241000 x241000_1)∧Aside0 (Kd.R (Kd.int .i64) 2 w' w.heap.size (fun _=>True) u241001 x241001_1)∧Aside0 (w'.heap[gb230]?=some (.cells #[(.slice A0_0 l0_0.length c0_0),(.slice A0_1 l0_1.length c0_1),.int .i64 a0_2] 25 (0,0)))∧Aside0 (w'.heap[gb231]?=some (.cells #[(.slice none 0 0),(.slice none 0 0),.int .i64 x232002_1] 25 (0,0)))∧Aside0 (w'.heap[gb240]?=some (.cells #[u241000,u241001,.int .i64 x241002_1] 25 (0,0)))∧Aside0 (Below w.heap.size w w'))
  case atStart=>exact ⟨(0),(0),(t233),(t236),(t239),(.slice Ao14 t233.length co14),(.slice Ao18 t236.length co18),(by first|rfl|(simp;done)|(simp [*];done)),H',⟨Nat.le_refl _⟩,⟨by (with_reducible repeat (first|apply zrA|apply zrN|apply zrD));exact Kd.R_mono (Kd.R_far (p:=⟨gb240,2,none⟩) (Kd.R_far (p:=⟨gb240,1,none⟩) (Kd.R_far (p:=⟨gb240,0,none⟩) (Kd.R_types HO235.out BK240.out (by decide)) (fun _ hk=>hk.2) (.slice Ao14 t233.length co14)) (fun _ hk=>hk.2) (.slice Ao18 t236.length co18)) (fun _ hk=>hk.2) (.int .i64 t239)) (fun _ hk=>trivial)⟩,⟨by (with_reducible repeat (first|apply zrA|apply zrN|apply zrD));exact Kd.R_mono (Kd.R_far (p:=⟨gb240,2,none⟩) (Kd.R_far (p:=⟨gb240,1,none⟩) (Kd.R_far (p:=⟨gb240,0,none⟩) (Kd.R_types HO238.out BK240.out (by decide)) (fun _ hk=>hk.2) (.slice Ao14 t233.length co14)) (fun _ hk=>hk.2) (.slice Ao18 t236.length co18)) (fun _ hk=>hk.2) (.int .i64 t239)) (fun _ hk=>trivial)⟩,⟨by (with_reducible repeat (first|refine zbN ?_ _|refine zbD ?_|refine zbA ?_ _));refine blk_far ?_ NB230_240.out _;(with_reducible repeat (first|refine zbN ?_ _|refine zbD ?_|refine zbA ?_ _));refine blk_far ?_ NB230_240.out _;(with_reducible repeat (first|refine zbN ?_ _|refine zbD ?_|refine zbA ?_ _));refine blk_far ?_ NB230_240.out _;(with_reducible repeat (first|refine zbN ?_ _|refine zbD ?_|refine zbA ?_ _));exact BK230.out⟩,⟨by (with_reducible repeat (first|refine zbN ?_ _|refine zbD ?_|refine zbA ?_ _));refine blk_far ?_ NB231_240.out _;(with_reducible repeat (first|refine zbN ?_ _|refine zbD ?_|refine zbA ?_ _));refine blk_far ?_ NB231_240.out _;(with_reducible repeat (first|refine zbN ?_ _|refine zbD ?_|refine zbA ?_ _));refine blk_far ?_ NB231_240.out _;(with_reducible repeat (first|refine zbN ?_ _|refine zbD ?_|refine zbA ?_ _));exact BK231.out⟩,⟨by (with_reducible repeat (first|refine zbN ?_ _|refine zbD ?_|refine zbA ?_ _));refine blk_put (cs:=#[.slice Ao14 t233.length co14,.slice Ao18 t236.length co18,.int .i64 0]) ?_ 2 _ rfl;(with_reducible repeat (first|refine zbN ?_ _|refine zbD ?_|refine zbA ?_ _));refine blk_put (cs:=#[.slice Ao14 t233.length co14,.slice none 0 0,.int .i64 0]) ?_ 1 _ rfl;(with_reducible repeat (first|refine zbN ?_ _|refine zbD ?_|refine zbA ?_ _));refine blk_put (cs:=#[.slice none 0 0,.slice none 0 0,.int .i64 0]) ?_ 0 _ rfl;(with_reducible repeat (first|refine zbN ?_ _|refine zbD ?_|refine zbA ?_ _));exact BK240.out⟩,⟨by repeat (first|(with_reducible first|exact HB.out|apply zlA|apply zlN|apply zlD|refine zlS ?_ GE230.out|refine zlS ?_ GE231.out|refine zlS ?_ GE240.out)|exact HB.out)⟩⟩
  case round =>
   clear H'
   try clear c1
   try clear c2
   try clear p2
   try clear c4
   try clear c4b0
   try clear c4b1
   try clear c5
   try clear c8
   try clear c15
   try clear c16
   try clear c17
   try clear hcz11_0
   try clear hcz11_1
   try clear hcz11_2
   try clear hcz17_0
   try clear hcz17_1
   try clear hcz17_2
   try clear hcz9_0
   try clear hcz9_1
   try clear hcz9_2
   try clear hfz11_0
   try clear hfz11_1
   try clear hfz11_2
   try clear hfz17_0
   try clear hfz17_1
   try clear hfz17_2
   try clear hfz9_0
   try clear hfz9_1
   try clear hfz9_2
   obtain ⟨x20_1,x232002_1,x241000_1,x241001_1,x241002_1,u241000,u241001,rfl,HA,HK1,HO_241000,HO_241001,BK230,BK231,BK240,HB⟩:=hrel
   cases gk with
   | zero=>exact absurd HA.out (by simp [mapjnl_Apply.l0])
   | succ k1 =>
    have H:=HA.out
    clear HA
    simp only [mapjnl_Apply.l0] at H
    by_cases c19:x20_1 < (l1.length:Int)
    ·rw [if_pos c19] at H
     have c19b0:decide (x20_1 < (l1.length:Int))=true:=decide_eq_true c19
     clear c19
     by_cases c20:0≤x20_1
     ·rw [if_pos c20] at H
      have c20b0:decide (0≤x20_1)=true:=decide_eq_true c20
      clear c20
      by_cases c21:x20_1 < (l1.length:Int)
      ·rw [if_pos c21] at H
       have c21b0:decide (x20_1 < (l1.length:Int))=true:=decide_eq_true c21
       clear c21
       replace H:=Option.bind_eq_some_iff.mp H
       obtain ⟨t243,A220,H⟩:=H
       replace H:(if t243=true then (if ((rd_T55 l1 x20_1).f1) ≥ (l0_0.length:Int) then (some (([]:List Bool),([]:List Int),0,61)) else ((mapjnl_learn.f x241000_1 x241001_1 x241002_1 ((rd_T55 l1 x20_1).f0) ((rd_T55 l1 x20_1).f1) ((rd_T55 l1 x20_1).f2)).bind fun bt244=>(mapjnl_Apply.l0 k1 l1 (l1.length:Int) (wrap64 (x20_1 + 1)) l0_0 l0_1 a0_2 bt244.1 bt244.2.1 bt244.2.2))) else (some (([]:List Bool),([]:List Int),0,61)))=some (r1,r2,r3,r4):=H
       have A22:=zm A220
       clear A220
       by_cases c23:t243=true
       ·subst c23
        have H1:(if ((rd_T55 l1 x20_1).f1) ≥ (l0_0.length:Int) then (some (([]:List Bool),([]:List Int),0,61)) else ((mapjnl_learn.f x241000_1 x241001_1 x241002_1 ((rd_T55 l1 x20_1).f0) ((rd_T55 l1 x20_1).f1) ((rd_T55 l1 x20_1).f2)).bind fun bt244=>(mapjnl_Apply.l0 k1 l1 (l1.length:Int) (wrap64 (x20_1 + 1)) l0_0 l0_1 a0_2 bt244.1 bt244.2.1 bt244.2.2)))=some (r1,r2,r3,r4):=by rw [if_pos rfl] at H;exact H
        clear H
        have H:=H1
        clear H1
        by_cases c24:((rd_T55 l1 x20_1).f1) ≥ (l0_0.length:Int)
        ·rw [if_pos c24] at H
         have c24b0:decide ((l0_0.length:Int)≤((rd_T55 l1 x20_1).f1))=true:=decide_eq_true c24
         clear c24
         simp only [Option.some.injEq,Prod.mk.injEq] at H
         obtain ⟨rfl,rfl,rfl,rfl⟩:=H
         have p241:0≤(x20_1:Int):=of_decide_eq_true (by first|(with_reducible assumption)|assumption)
         have q241:x20_1 < (l1.length:Int):=of_decide_eq_true (by first|(with_reducible assumption)|assumption)
         obtain ⟨ad241,e241,hx241_0,hx241_1,hx241_2⟩:=at_T55 HR1.out x20_1 p241 q241
         cases e241
         replace hx241_0:=(HB.out.cell (World.block_lt_of_cell? w _ hx241_0)).trans hx241_0
         replace hx241_1:=(HB.out.cell (World.block_lt_of_cell? w _ hx241_1)).trans hx241_1
         replace hx241_2:=(HB.out.cell (World.block_lt_of_cell? w _ hx241_2)).trans hx241_2
         replace p241:=eq_true p241
         replace q241:=eq_true q241
         go_wp2_with (first|((with_reducible refine gate_dst (N:=9) rfl ?_);(try (refine gate_guard (by rfl) ?_;dsimp only));refine box_event ?hg (N:=9) ?hd (cs:=#[.int .i64 0,.int .i64 0,.int .i64 0]) (t:=55) ?hr ?_;(case hd=>rfl);(case hg=>rfl);(case hr=>first|(go_simp;done)|(go_simp;rfl));intro gb242 hg w25 hbox hb;have n0_:=zm (Kd.R_below (by (with_reducible repeat (first|apply zrA|apply zrN|apply zrD));exact HO_241000.out) hb);have n1_:=zm (Kd.R_below (by (with_reducible repeat (first|apply zrA|apply zrN|apply zrD));exact HO_241001.out) hb);have n2_:=zm (zbB (g:=gb230) (o:=.cells #[.slice A0_0 l0_0.length c0_0,.slice A0_1 l0_1.length c0_1,.int .i64 a0_2] 25 (0,0)) (by (with_reducible repeat (first|refine zbN ?_ _|refine zbD ?_|refine zbA ?_ _));exact BK230.out) hb);have n3_:=zm (zbB (g:=gb231) (o:=.cells #[.slice none 0 0,.slice none 0 0,.int .i64 x232002_1] 25 (0,0)) (by (with_reducible repeat (first|refine zbN ?_ _|refine zbD ?_|refine zbA ?_ _));exact BK231.out) hb);have n4_:=zm (zbB (g:=gb240) (o:=.cells #[u241000,u241001,.int .i64 x241002_1] 25 (0,0)) (by (with_reducible repeat (first|refine zbN ?_ _|refine zbD ?_|refine zbA ?_ _));exact BK240.out) hb);have n5_:=zm (below_step (by repeat (first|(with_reducible first|exact HB.out|apply zlA|apply zlN|apply zlD|refine zlS ?_ GE230.out|refine zlS ?_ GE231.out|refine zlS ?_ GE240.out)|exact HB.out)) hb);have n6_:=zm (hbox);have n7_:=zm ((by rw [hg];exact (below_size (by repeat (first|(with_reducible first|exact HB.out|apply zlA|apply zlN|apply zlD|refine zlS ?_ GE230.out|refine zlS ?_ GE231.out|refine zlS ?_ GE240.out)|exact HB.out))):w.heap.size≤gb242));have n8_:=zm ((by rw [hg];exact (below_size (by repeat (first|(with_reducible first|exact HB.out|apply zlA|apply zlN|apply zlD|refine zlS ?_ GE230.out|refine zlS ?_ GE231.out|refine zlS ?_ GE240.out)|exact HB.out))):w.heap.size≤gb242));have n9_:=zm ((by rw [hg];exact Nat.ne_of_lt (blk_lt (g:=gb230) (o:=.cells #[.slice A0_0 l0_0.length c0_0,.slice A0_1 l0_1.length c0_1,.int .i64 a0_2] 25 (0,0)) (by (with_reducible repeat (first|refine zbN ?_ _|refine zbD ?_|refine zbA ?_ _));exact BK230.out)):gb230≠gb242));have n10_:=zm ((by rw [hg];exact Nat.ne_of_gt (blk_lt (g:=gb230) (o:=.cells #[.slice A0_0 l0_0.length c0_0,.slice A0_1 l0_1.length c0_1,.int .i64 a0_2] 25 (0,0)) (by (with_reducible repeat (first|refine zbN ?_ _|refine zbD ?_|refine zbA ?_ _));exact BK230.out)):gb242≠gb230));have n11_:=zm ((by rw [hg];exact Nat.ne_of_lt (blk_lt (g:=gb231) (o:=.cells #[.slice none 0 0,.slice none 0 0,.int .i64 x232002_1] 25 (0,0)) (by (with_reducible repeat (first|refine zbN ?_ _|refine zbD ?_|refine zbA ?_ _));exact BK231.out)):gb231≠gb242));have n12_:=zm ((by rw [hg];exact Nat.ne_of_gt (blk_lt (g:=gb231) (o:=.cells #[.slice none 0 0,.slice none 0 0,.int .i64 x232002_1] 25 (0,0)) (by (with_reducible repeat (first|refine zbN ?_ _|refine zbD ?_|refine zbA ?_ _));exact BK231.out)):gb242≠gb231));have n13_:=zm ((by rw [hg];exact Nat.ne_of_lt (blk_lt (g:=gb240) (o:=.cells #[u241000,u241001,.int .i64 x241002_1] 25 (0,0)) (by (with_reducible repeat (first|refine zbN ?_ _|refine zbD ?_|refine zbA ?_ _));exact BK240.out)):gb240≠gb242));have n14_:=zm ((by rw [hg];exact Nat.ne_of_gt (blk_lt (g:=gb240) (o:=.cells #[u241000,u241001,.int .i64 x241002_1] 25 (0,0)) (by (with_reducible repeat (first|refine zbN ?_ _|refine zbD ?_|refine zbA ?_ _));exact BK240.out)):gb242≠gb240));clear HO_241000 HO_241001 BK230 BK231 BK240 HB;have HO_241000:=n0_;have HO_241001:=n1_;have BK230:=n2_;have BK231:=n3_;have BK240:=n4_;have HB:=n5_;have BK242:=n6_;have GW242:=n7_;have GE242:=n8_;have NB230_242:=n9_;have NB242_230:=n10_;have NB231_242:=n11_;have NB242_231:=n12_;have NB240_242:=n13_;have NB242_240:=n14_;clear n0_ n1_ n2_ n3_ n4_ n5_ n6_ n7_ n8_ n9_ n10_ n11_ n12_ n13_ n14_;clear hb hbox hg;have hnb26:=NB242_230.out;have hnc26:=NB230_242.out;have hnb27:=NB242_231.out;have hnc27:=NB231_242.out;have hnb28:=NB242_240.out;have hnc28:=NB240_242.out;have hcz29_0:w25.cell? ⟨gb242,0,none⟩=some (.int .i64 0):=(blk_cell BK242.out 0).trans rfl;have hcz29_1:w25.cell? ⟨gb242,1,none⟩=some (.int .i64 0):=(blk_cell BK242.out 1).trans rfl;have hcz29_2:w25.cell? ⟨gb242,2,none⟩=some (.int .i64 0):=(blk_cell BK242.out 2).trans rfl;have hfz29_0:=blk_frozen BK242.out 0;have hfz29_1:=blk_frozen BK242.out 1;have hfz29_2:=blk_frozen BK242.out 2)|((with_reducible refine gate_callee (f:=61) rfl ?_);refine goesL_ (some 25) rfl rfl Try.func61 (by kernel_rfl) rfl #[.agg #[.int .i64 ((rd_T55 l1 x20_1).f0),.int .i64 ((rd_T55 l1 x20_1).f1),.int .i64 ((rd_T55 l1 x20_1).f2)]] rfl (by (try simp only [List.map_toArray,List.map_cons,List.map_nil]);first|done|rfl|(simp only [List.length_drop,List.length_take];rfl)) ?_;(with_reducible refine (mapjnl_record.calls k1 ((rd_T55 l1 x20_1).f0) ((rd_T55 l1 x20_1).f1) ((rd_T55 l1 x20_1).f2) true _ A22.out).mono ?_);rintro e w30 ⟨rfl,hb⟩;refine ⟨_,rfl,?_⟩;have n0_:=zm (Kd.R_below (by (with_reducible repeat (first|apply zrA|apply zrN|apply zrD));exact (Kd.R_mono (Kd.R_far (p:=⟨gb242,2,none⟩) (Kd.R_far (p:=⟨gb242,1,none⟩) (Kd.R_far (p:=⟨gb242,0,none⟩) (Kd.R_types HO_241000.out BK242.out (by decide)) (fun _ hk=>hk.2) (.int .i64 ((rd_T55 l1 x20_1).f0))) (fun _ hk=>hk.2) (.int .i64 ((rd_T55 l1 x20_1).f1))) (fun _ hk=>hk.2) (.int .i64 ((rd_T55 l1 x20_1).f2))) (fun _ h_=>h_.1))) hb);have n1_:=zm (Kd.R_below (by (with_reducible repeat (first|apply zrA|apply zrN|apply zrD));exact (Kd.R_mono (Kd.R_far (p:=⟨gb242,2,none⟩) (Kd.R_far (p:=⟨gb242,1,none⟩) (Kd.R_far (p:=⟨gb242,0,none⟩) (Kd.R_types HO_241001.out BK242.out (by decide)) (fun _ hk=>hk.2) (.int .i64 ((rd_T55 l1 x20_1).f0))) (fun _ hk=>hk.2) (.int .i64 ((rd_T55 l1 x20_1).f1))) (fun _ hk=>hk.2) (.int .i64 ((rd_T55 l1 x20_1).f2))) (fun _ h_=>h_.1))) hb);have n2_:=zm (zbB (g:=gb230) (o:=.cells #[.slice A0_0 l0_0.length c0_0,.slice A0_1 l0_1.length c0_1,.int .i64 a0_2] 25 (0,0)) (by (with_reducible repeat (first|refine zbN ?_ _|refine zbD ?_|refine zbA ?_ _));refine blk_far ?_ NB230_242.out _;(with_reducible repeat (first|refine zbN ?_ _|refine zbD ?_|refine zbA ?_ _));refine blk_far ?_ NB230_242.out _;(with_reducible repeat (first|refine zbN ?_ _|refine zbD ?_|refine zbA ?_ _));refine blk_far ?_ NB230_242.out _;(with_reducible repeat (first|refine zbN ?_ _|refine zbD ?_|refine zbA ?_ _));exact BK230.out) hb);have n3_:=zm (zbB (g:=gb231) (o:=.cells #[.slice none 0 0,.slice none 0 0,.int .i64 x232002_1] 25 (0,0)) (by (with_reducible repeat (first|refine zbN ?_ _|refine zbD ?_|refine zbA ?_ _));refine blk_far ?_ NB231_242.out _;(with_reducible repeat (first|refine zbN ?_ _|refine zbD ?_|refine zbA ?_ _));refine blk_far ?_ NB231_242.out _;(with_reducible repeat (first|refine zbN ?_ _|refine zbD ?_|refine zbA ?_ _));refine blk_far ?_ NB231_242.out _;(with_reducible repeat (first|refine zbN ?_ _|refine zbD ?_|refine zbA ?_ _));exact BK231.out) hb);have n4_:=zm (zbB (g:=gb240) (o:=.cells #[u241000,u241001,.int .i64 x241002_1] 25 (0,0)) (by (with_reducible repeat (first|refine zbN ?_ _|refine zbD ?_|refine zbA ?_ _));refine blk_far ?_ NB240_242.out _;(with_reducible repeat (first|refine zbN ?_ _|refine zbD ?_|refine zbA ?_ _));refine blk_far ?_ NB240_242.out _;(with_reducible repeat (first|refine zbN ?_ _|refine zbD ?_|refine zbA ?_ _));refine blk_far ?_ NB240_242.out _;(with_reducible repeat (first|refine zbN ?_ _|refine zbD ?_|refine zbA ?_ _));exact BK240.out) hb);have n5_:=zm (zbB (g:=gb242) (o:=.cells #[.int .i64 ((rd_T55 l1 x20_1).f0),.int .i64 ((rd_T55 l1 x20_1).f1),.int .i64 ((rd_T55 l1 x20_1).f2)] 55 (0,0)) (by (with_reducible repeat (first|refine zbN ?_ _|refine zbD ?_|refine zbA ?_ _));refine blk_put (cs:=#[.int .i64 ((rd_T55 l1 x20_1).f0),.int .i64 ((rd_T55 l1 x20_1).f1),.int .i64 0]) ?_ 2 _ rfl;(with_reducible repeat (first|refine zbN ?_ _|refine zbD ?_|refine zbA ?_ _));refine blk_put (cs:=#[.int .i64 ((rd_T55 l1 x20_1).f0),.int .i64 0,.int .i64 0]) ?_ 1 _ rfl;(with_reducible repeat (first|refine zbN ?_ _|refine zbD ?_|refine zbA ?_ _));refine blk_put (cs:=#[.int .i64 0,.int .i64 0,.int .i64 0]) ?_ 0 _ rfl;(with_reducible repeat (first|refine zbN ?_ _|refine zbD ?_|refine zbA ?_ _));exact BK242.out) hb);have n6_:=zm (below_step (by repeat (first|(with_reducible first|exact HB.out|apply zlA|apply zlN|apply zlD|refine zlS ?_ GE230.out|refine zlS ?_ GE231.out|refine zlS ?_ GE240.out|refine zlS ?_ GE242.out)|exact HB.out)) hb);clear HO_241000 HO_241001 BK230 BK231 BK240 BK242 HB;have HO_241000:=n0_;have HO_241001:=n1_;have BK230:=n2_;have BK231:=n3_;have BK240:=n4_;have BK242:=n5_;have HB:=n6_;clear n0_ n1_ n2_ n3_ n4_ n5_ n6_;(try clear hb);(try clear hb2);(try clear hk);(try clear hi);have hcz31_0:w30.cell? ⟨gb242,0,none⟩=some (.int .i64 ((rd_T55 l1 x20_1).f0)):=(blk_cell BK242.out 0).trans rfl;have hcz31_1:w30.cell? ⟨gb242,1,none⟩=some (.int .i64 ((rd_T55 l1 x20_1).f1)):=(blk_cell BK242.out 1).trans rfl;have hcz31_2:w30.cell? ⟨gb242,2,none⟩=some (.int .i64 ((rd_T55 l1 x20_1).f2)):=(blk_cell BK242.out 2).trans rfl;have hfz31_0:=blk_frozen BK242.out 0;have hfz31_1:=blk_frozen BK242.out 1;have hfz31_2:=blk_frozen BK242.out 2;have hnb32:=NB230_231.out;have hnc32:=NB231_230.out;have hnb33:=NB230_240.out;have hnc33:=NB240_230.out;have hcz34_0:w30.cell? ⟨gb230,0,none⟩=some (.slice A0_0 l0_0.length c0_0):=(blk_cell BK230.out 0).trans rfl;have hcz34_1:w30.cell? ⟨gb230,1,none⟩=some (.slice A0_1 l0_1.length c0_1):=(blk_cell BK230.out 1).trans rfl;have hcz34_2:w30.cell? ⟨gb230,2,none⟩=some (.int .i64 a0_2):=(blk_cell BK230.out 2).trans rfl;have hfz34_0:=blk_frozen BK230.out 0;have hfz34_1:=blk_frozen BK230.out 1;have hfz34_2:=blk_frozen BK230.out 2;have hnb35:=NB231_240.out;have hnc35:=NB240_231.out;have hcz36_0:w30.cell? ⟨gb231,0,none⟩=some (.slice none 0 0):=(blk_cell BK231.out 0).trans rfl;have hcz36_1:w30.cell? ⟨gb231,1,none⟩=some (.slice none 0 0):=(blk_cell BK231.out 1).trans rfl;have hcz36_2:w30.cell? ⟨gb231,2,none⟩=some (.int .i64 x232002_1):=(blk_cell BK231.out 2).trans rfl;have hfz36_0:=blk_frozen BK231.out 0;have hfz36_1:=blk_frozen BK231.out 1;have hfz36_2:=blk_frozen BK231.out 2))
         refine bodyPost_ret (results_ct rfl _ _ gb231 25 #[.slice none 0 0,.slice none 0 0,.int .i64 0] (0,0) _ rfl (by (with_reducible repeat (first|refine zbN ?_ _|refine zbD ?_|refine zbA ?_ _));refine blk_put (cs:=#[.slice none 0 0,.slice none 0 0,.int .i64 x232002_1]) ?_ 2 _ rfl;(with_reducible repeat (first|refine zbN ?_ _|refine zbD ?_|refine zbA ?_ _));refine blk_put (cs:=#[.slice none 0 0,.slice none 0 0,.int .i64 x232002_1]) ?_ 1 _ rfl;(with_reducible repeat (first|refine zbN ?_ _|refine zbD ?_|refine zbA ?_ _));refine blk_put (cs:=#[.slice none 0 0,.slice none 0 0,.int .i64 x232002_1]) ?_ 0 _ rfl;(with_reducible repeat (first|refine zbN ?_ _|refine zbD ?_|refine zbA ?_ _));exact BK231.out) Try.underlying25 rfl (by kernel_rfl)) rfl ?_
         exact ⟨_,_,by first|rfl|(simp [errW_none,errW_some] <;> rfl)|(simp [*,errW_none,errW_some] <;> rfl),by first|exact Kd.R_nil _ _ _ _ _|exact Kd.N_nil _ _ _ _ _|exact Kd.V_nil _ _ _ _ _|exact Kd.Q_nil _ _ _ _ _|exact Kd.S_nil _ _ _ _ _,by first|exact Kd.R_nil _ _ _ _ _|exact Kd.N_nil _ _ _ _ _|exact Kd.V_nil _ _ _ _ _|exact Kd.Q_nil _ _ _ _ _|exact Kd.S_nil _ _ _ _ _,by repeat (first|(with_reducible first|exact HB.out|apply zlA|apply zlN|apply zlD|refine zlS ?_ GE230.out|refine zlS ?_ GE231.out|refine zlS ?_ GE240.out|refine zlS ?_ GE242.out)|exact HB.out)⟩
        ·rw [if_neg c24] at H
         have c24b0:decide ((l0_0.length:Int)≤((rd_T55 l1 x20_1).f1))=false:=decide_eq_false c24
         clear c24
         replace H:=Option.bind_eq_some_iff.mp H
         obtain ⟨⟨t244,t247,t250⟩,A370,H⟩:=H
         replace H:(mapjnl_Apply.l0 k1 l1 (l1.length:Int) (wrap64 (x20_1 + 1)) l0_0 l0_1 a0_2 t244 t247 t250)=some (r1,r2,r3,r4):=H
         have A37:=zm A370
         clear A370
         have H':=zm H
         clear H
         have p241:0≤(x20_1:Int):=of_decide_eq_true (by first|(with_reducible assumption)|assumption)
         have q241:x20_1 < (l1.length:Int):=of_decide_eq_true (by first|(with_reducible assumption)|assumption)
         obtain ⟨ad241,e241,hx241_0,hx241_1,hx241_2⟩:=at_T55 HR1.out x20_1 p241 q241
         cases e241
         replace hx241_0:=(HB.out.cell (World.block_lt_of_cell? w _ hx241_0)).trans hx241_0
         replace hx241_1:=(HB.out.cell (World.block_lt_of_cell? w _ hx241_1)).trans hx241_1
         replace hx241_2:=(HB.out.cell (World.block_lt_of_cell? w _ hx241_2)).trans hx241_2
         replace p241:=eq_true p241
         replace q241:=eq_true q241
         go_wp2_with (first|((with_reducible refine gate_dst (N:=9) rfl ?_);(try (refine gate_guard (by rfl) ?_;dsimp only));refine box_event ?hg (N:=9) ?hd (cs:=#[.int .i64 0,.int .i64 0,.int .i64 0]) (t:=55) ?hr ?_;(case hd=>rfl);(case hg=>rfl);(case hr=>first|(go_simp;done)|(go_simp;rfl));intro gb242 hg w38 hbox hb;have n0_:=zm (Kd.R_below (by (with_reducible repeat (first|apply zrA|apply zrN|apply zrD));exact HO_241000.out) hb);have n1_:=zm (Kd.R_below (by (with_reducible repeat (first|apply zrA|apply zrN|apply zrD));exact HO_241001.out) hb);have n2_:=zm (zbB (g:=gb230) (o:=.cells #[.slice A0_0 l0_0.length c0_0,.slice A0_1 l0_1.length c0_1,.int .i64 a0_2] 25 (0,0)) (by (with_reducible repeat (first|refine zbN ?_ _|refine zbD ?_|refine zbA ?_ _));exact BK230.out) hb);have n3_:=zm (zbB (g:=gb231) (o:=.cells #[.slice none 0 0,.slice none 0 0,.int .i64 x232002_1] 25 (0,0)) (by (with_reducible repeat (first|refine zbN ?_ _|refine zbD ?_|refine zbA ?_ _));exact BK231.out) hb);have n4_:=zm (zbB (g:=gb240) (o:=.cells #[u241000,u241001,.int .i64 x241002_1] 25 (0,0)) (by (with_reducible repeat (first|refine zbN ?_ _|refine zbD ?_|refine zbA ?_ _));exact BK240.out) hb);have n5_:=zm (below_step (by repeat (first|(with_reducible first|exact HB.out|apply zlA|apply zlN|apply zlD|refine zlS ?_ GE230.out|refine zlS ?_ GE231.out|refine zlS ?_ GE240.out)|exact HB.out)) hb);have n6_:=zm (hbox);have n7_:=zm ((by rw [hg];exact (below_size (by repeat (first|(with_reducible first|exact HB.out|apply zlA|apply zlN|apply zlD|refine zlS ?_ GE230.out|refine zlS ?_ GE231.out|refine zlS ?_ GE240.out)|exact HB.out))):w.heap.size≤gb242));have n8_:=zm ((by rw [hg];exact (below_size (by repeat (first|(with_reducible first|exact HB.out|apply zlA|apply zlN|apply zlD|refine zlS ?_ GE230.out|refine zlS ?_ GE231.out|refine zlS ?_ GE240.out)|exact HB.out))):w.heap.size≤gb242));have n9_:=zm ((by rw [hg];exact Nat.ne_of_lt (blk_lt (g:=gb230) (o:=.cells #[.slice A0_0 l0_0.length c0_0,.slice A0_1 l0_1.length c0_1,.int .i64 a0_2] 25 (0,0)) (by (with_reducible repeat (first|refine zbN ?_ _|refine zbD ?_|refine zbA ?_ _));exact BK230.out)):gb230≠gb242));have n10_:=zm ((by rw [hg];exact Nat.ne_of_gt (blk_lt (g:=gb230) (o:=.cells #[.slice A0_0 l0_0.length c0_0,.slice A0_1 l0_1.length c0_1,.int .i64 a0_2] 25 (0,0)) (by (with_reducible repeat (first|refine zbN ?_ _|refine zbD ?_|refine zbA ?_ _));exact BK230.out)):gb242≠gb230));have n11_:=zm ((by rw [hg];exact Nat.ne_of_lt (blk_lt (g:=gb231) (o:=.cells #[.slice none 0 0,.slice none 0 0,.int .i64 x232002_1] 25 (0,0)) (by (with_reducible repeat (first|refine zbN ?_ _|refine zbD ?_|refine zbA ?_ _));exact BK231.out)):gb231≠gb242));have n12_:=zm ((by rw [hg];exact Nat.ne_of_gt (blk_lt (g:=gb231) (o:=.cells #[.slice none 0 0,.slice none 0 0,.int .i64 x232002_1] 25 (0,0)) (by (with_reducible repeat (first|refine zbN ?_ _|refine zbD ?_|refine zbA ?_ _));exact BK231.out)):gb242≠gb231));have n13_:=zm ((by rw [hg];exact Nat.ne_of_lt (blk_lt (g:=gb240) (o:=.cells #[u241000,u241001,.int .i64 x241002_1] 25 (0,0)) (by (with_reducible repeat (first|refine zbN ?_ _|refine zbD ?_|refine zbA ?_ _));exact BK240.out)):gb240≠gb242));have n14_:=zm ((by rw [hg];exact Nat.ne_of_gt (blk_lt (g:=gb240) (o:=.cells #[u241000,u241001,.int .i64 x241002_1] 25 (0,0)) (by (with_reducible repeat (first|refine zbN ?_ _|refine zbD ?_|refine zbA ?_ _));exact BK240.out)):gb242≠gb240));clear HO_241000 HO_241001 BK230 BK231 BK240 HB;have HO_241000:=n0_;have HO_241001:=n1_;have BK230:=n2_;have BK231:=n3_;have BK240:=n4_;have HB:=n5_;have BK242:=n6_;have GW242:=n7_;have GE242:=n8_;have NB230_242:=n9_;have NB242_230:=n10_;have NB231_242:=n11_;have NB242_231:=n12_;have NB240_242:=n13_;have NB242_240:=n14_;clear n0_ n1_ n2_ n3_ n4_ n5_ n6_ n7_ n8_ n9_ n10_ n11_ n12_ n13_ n14_;clear hb hbox hg;have hnb39:=NB242_230.out;have hnc39:=NB230_242.out;have hnb40:=NB242_231.out;have hnc40:=NB231_242.out;have hnb41:=NB242_240.out;have hnc41:=NB240_242.out;have hcz42_0:w38.cell? ⟨gb242,0,none⟩=some (.int .i64 0):=(blk_cell BK242.out 0).trans rfl;have hcz42_1:w38.cell? ⟨gb242,1,none⟩=some (.int .i64 0):=(blk_cell BK242.out 1).trans rfl;have hcz42_2:w38.cell? ⟨gb242,2,none⟩=some (.int .i64 0):=(blk_cell BK242.out 2).trans rfl;have hfz42_0:=blk_frozen BK242.out 0;have hfz42_1:=blk_frozen BK242.out 1;have hfz42_2:=blk_frozen BK242.out 2)|((with_reducible refine gate_callee (f:=61) rfl ?_);refine goesL_ (some 25) rfl rfl Try.func61 (by kernel_rfl) rfl #[.agg #[.int .i64 ((rd_T55 l1 x20_1).f0),.int .i64 ((rd_T55 l1 x20_1).f1),.int .i64 ((rd_T55 l1 x20_1).f2)]] rfl (by (try simp only [List.map_toArray,List.map_cons,List.map_nil]);first|done|rfl|(simp only [List.length_drop,List.length_take];rfl)) ?_;(with_reducible refine (mapjnl_record.calls k1 ((rd_T55 l1 x20_1).f0) ((rd_T55 l1 x20_1).f1) ((rd_T55 l1 x20_1).f2) true _ A22.out).mono ?_);rintro e w43 ⟨rfl,hb⟩;refine ⟨_,rfl,?_⟩;have n0_:=zm (Kd.R_below (by (with_reducible repeat (first|apply zrA|apply zrN|apply zrD));exact (Kd.R_mono (Kd.R_far (p:=⟨gb242,2,none⟩) (Kd.R_far (p:=⟨gb242,1,none⟩) (Kd.R_far (p:=⟨gb242,0,none⟩) (Kd.R_types HO_241000.out BK242.out (by decide)) (fun _ hk=>hk.2) (.int .i64 ((rd_T55 l1 x20_1).f0))) (fun _ hk=>hk.2) (.int .i64 ((rd_T55 l1 x20_1).f1))) (fun _ hk=>hk.2) (.int .i64 ((rd_T55 l1 x20_1).f2))) (fun _ h_=>h_.1))) hb);have n1_:=zm (Kd.R_below (by (with_reducible repeat (first|apply zrA|apply zrN|apply zrD));exact (Kd.R_mono (Kd.R_far (p:=⟨gb242,2,none⟩) (Kd.R_far (p:=⟨gb242,1,none⟩) (Kd.R_far (p:=⟨gb242,0,none⟩) (Kd.R_types HO_241001.out BK242.out (by decide)) (fun _ hk=>hk.2) (.int .i64 ((rd_T55 l1 x20_1).f0))) (fun _ hk=>hk.2) (.int .i64 ((rd_T55 l1 x20_1).f1))) (fun _ hk=>hk.2) (.int .i64 ((rd_T55 l1 x20_1).f2))) (fun _ h_=>h_.1))) hb);have n2_:=zm (zbB (g:=gb230) (o:=.cells #[.slice A0_0 l0_0.length c0_0,.slice A0_1 l0_1.length c0_1,.int .i64 a0_2] 25 (0,0)) (by (with_reducible repeat (first|refine zbN ?_ _|refine zbD ?_|refine zbA ?_ _));refine blk_far ?_ NB230_242.out _;(with_reducible repeat (first|refine zbN ?_ _|refine zbD ?_|refine zbA ?_ _));refine blk_far ?_ NB230_242.out _;(with_reducible repeat (first|refine zbN ?_ _|refine zbD ?_|refine zbA ?_ _));refine blk_far ?_ NB230_242.out _;(with_reducible repeat (first|refine zbN ?_ _|refine zbD ?_|refine zbA ?_ _));exact BK230.out) hb);have n3_:=zm (zbB (g:=gb231) (o:=.cells #[.slice none 0 0,.slice none 0 0,.int .i64 x232002_1] 25 (0,0)) (by (with_reducible repeat (first|refine zbN ?_ _|refine zbD ?_|refine zbA ?_ _));refine blk_far ?_ NB231_242.out _;(with_reducible repeat (first|refine zbN ?_ _|refine zbD ?_|refine zbA ?_ _));refine blk_far ?_ NB231_242.out _;(with_reducible repeat (first|refine zbN ?_ _|refine zbD ?_|refine zbA ?_ _));refine blk_far ?_ NB231_242.out _;(with_reducible repeat (first|refine zbN ?_ _|refine zbD ?_|refine zbA ?_ _));exact BK231.out) hb);have n4_:=zm (zbB (g:=gb240) (o:=.cells #[u241000,u241001,.int .i64 x241002_1] 25 (0,0)) (by (with_reducible repeat (first|refine zbN ?_ _|refine zbD ?_|refine zbA ?_ _));refine blk_far ?_ NB240_242.out _;(with_reducible repeat (first|refine zbN ?_ _|refine zbD ?_|refine zbA ?_ _));refine blk_far ?_ NB240_242.out _;(with_reducible repeat (first|refine zbN ?_ _|refine zbD ?_|refine zbA ?_ _));refine blk_far ?_ NB240_242.out _;(with_reducible repeat (first|refine zbN ?_ _|refine zbD ?_|refine zbA ?_ _));exact BK240.out) hb);have n5_:=zm (zbB (g:=gb242) (o:=.cells #[.int .i64 ((rd_T55 l1 x20_1).f0),.int .i64 ((rd_T55 l1 x20_1).f1),.int .i64 ((rd_T55 l1 x20_1).f2)] 55 (0,0)) (by (with_reducible repeat (first|refine zbN ?_ _|refine zbD ?_|refine zbA ?_ _));refine blk_put (cs:=#[.int .i64 ((rd_T55 l1 x20_1).f0),.int .i64 ((rd_T55 l1 x20_1).f1),.int .i64 0]) ?_ 2 _ rfl;(with_reducible repeat (first|refine zbN ?_ _|refine zbD ?_|refine zbA ?_ _));refine blk_put (cs:=#[.int .i64 ((rd_T55 l1 x20_1).f0),.int .i64 0,.int .i64 0]) ?_ 1 _ rfl;(with_reducible repeat (first|refine zbN ?_ _|refine zbD ?_|refine zbA ?_ _));refine blk_put (cs:=#[.int .i64 0,.int .i64 0,.int .i64 0]) ?_ 0 _ rfl;(with_reducible repeat (first|refine zbN ?_ _|refine zbD ?_|refine zbA ?_ _));exact BK242.out) hb);have n6_:=zm (below_step (by repeat (first|(with_reducible first|exact HB.out|apply zlA|apply zlN|apply zlD|refine zlS ?_ GE230.out|refine zlS ?_ GE231.out|refine zlS ?_ GE240.out|refine zlS ?_ GE242.out)|exact HB.out)) hb);clear HO_241000 HO_241001 BK230 BK231 BK240 BK242 HB;have HO_241000:=n0_;have HO_241001:=n1_;have BK230:=n2_;have BK231:=n3_;have BK240:=n4_;have BK242:=n5_;have HB:=n6_;clear n0_ n1_ n2_ n3_ n4_ n5_ n6_;(try clear hb);(try clear hb2);(try clear hk);(try clear hi);have hcz44_0:w43.cell? ⟨gb242,0,none⟩=some (.int .i64 ((rd_T55 l1 x20_1).f0)):=(blk_cell BK242.out 0).trans rfl;have hcz44_1:w43.cell? ⟨gb242,1,none⟩=some (.int .i64 ((rd_T55 l1 x20_1).f1)):=(blk_cell BK242.out 1).trans rfl;have hcz44_2:w43.cell? ⟨gb242,2,none⟩=some (.int .i64 ((rd_T55 l1 x20_1).f2)):=(blk_cell BK242.out 2).trans rfl;have hfz44_0:=blk_frozen BK242.out 0;have hfz44_1:=blk_frozen BK242.out 1;have hfz44_2:=blk_frozen BK242.out 2;have hnb45:=NB230_231.out;have hnc45:=NB231_230.out;have hnb46:=NB230_240.out;have hnc46:=NB240_230.out;have hcz47_0:w43.cell? ⟨gb230,0,none⟩=some (.slice A0_0 l0_0.length c0_0):=(blk_cell BK230.out 0).trans rfl;have hcz47_1:w43.cell? ⟨gb230,1,none⟩=some (.slice A0_1 l0_1.length c0_1):=(blk_cell BK230.out 1).trans rfl;have hcz47_2:w43.cell? ⟨gb230,2,none⟩=some (.int .i64 a0_2):=(blk_cell BK230.out 2).trans rfl;have hfz47_0:=blk_frozen BK230.out 0;have hfz47_1:=blk_frozen BK230.out 1;have hfz47_2:=blk_frozen BK230.out 2;have hnb48:=NB240_231.out;have hnc48:=NB231_240.out;have hcz49_0:w43.cell? ⟨gb240,0,none⟩=some (u241000):=(blk_cell BK240.out 0).trans rfl;have hcz49_1:w43.cell? ⟨gb240,1,none⟩=some (u241001):=(blk_cell BK240.out 1).trans rfl;have hcz49_2:w43.cell? ⟨gb240,2,none⟩=some (.int .i64 x241002_1):=(blk_cell BK240.out 2).trans rfl;have hfz49_0:=blk_frozen BK240.out 0;have hfz49_1:=blk_frozen BK240.out 1;have hfz49_2:=blk_frozen BK240.out 2;obtain ⟨Ao50,co50,eo50⟩:=Kd.R_slice HO_241000.out;subst eo50;obtain ⟨Ao51,co51,eo51⟩:=Kd.R_slice HO_241001.out;subst eo51)|((with_reducible refine gate_callee (f:=62) rfl ?_);refine goesL_ (some 37) rfl rfl Try.func62 (by kernel_rfl) rfl #[.pointer (some ⟨gb240,0,none⟩),.agg #[.int .i64 ((rd_T55 l1 x20_1).f0),.int .i64 ((rd_T55 l1 x20_1).f1),.int .i64 ((rd_T55 l1 x20_1).f2)]] rfl (by (try simp only [List.map_toArray,List.map_cons,List.map_nil]);first|done|rfl|(simp only [List.length_drop,List.length_take];rfl)) ?_;(with_reducible refine (mapjnl_learn.calls gb240 (fun k_=>some k_=(.slice Ao50 x241000_1.length co50:Value).ownBlock) (.slice Ao50 x241000_1.length co50) x241000_1 (fun k_=>some k_=(.slice Ao51 x241001_1.length co51:Value).ownBlock) (.slice Ao51 x241001_1.length co51) x241001_1 x241002_1 ((rd_T55 l1 x20_1).f0) ((rd_T55 l1 x20_1).f1) ((rd_T55 l1 x20_1).f2) t244 t247 t250 w _ ?side1 ?side2 ?side3 ?side4 A37.out).mono ?_);(case side4=>exact (by (with_reducible repeat (first|refine zbN ?_ _|refine zbD ?_|refine zbA ?_ _));exact BK240.out));(case side1=>repeat (first|(with_reducible first|exact HB.out|apply zlA|apply zlN|apply zlD|refine zlS ?_ GE230.out|refine zlS ?_ GE231.out|refine zlS ?_ GE240.out|refine zlS ?_ GE242.out)|exact HB.out));(case side2=>exact Kd.R_tight rfl HO_241000.out);(case side3=>exact Kd.R_tight rfl HO_241001.out);rintro e w_ ⟨v245,v248,w52,rfl,rfl,ho0,ho1,hb,hkp⟩;refine ⟨_,rfl,?_⟩;have n0_:=zm (blk_kept (by (with_reducible repeat (first|refine zbN ?_ _|refine zbD ?_|refine zbA ?_ _));exact BK230.out) hkp (fun hs_=>Or.elim hs_ (fun e_=>(fun e_=>(Kd.R_ne HO_241000.out BK230.out (by decide)) e_) e_) (fun e_=>(fun e_=>(Kd.R_ne HO_241001.out BK230.out (by decide)) e_) e_)));have n1_:=zm (blk_kept (by (with_reducible repeat (first|refine zbN ?_ _|refine zbD ?_|refine zbA ?_ _));exact BK231.out) hkp (fun hs_=>Or.elim hs_ (fun e_=>(fun e_=>(Kd.R_ne HO_241000.out BK231.out (by decide)) e_) e_) (fun e_=>(fun e_=>(Kd.R_ne HO_241001.out BK231.out (by decide)) e_) e_)));have n2_:=zm (blk_kept (by (with_reducible repeat (first|refine zbN ?_ _|refine zbD ?_|refine zbA ?_ _));exact BK240.out) hkp (fun hs_=>Or.elim hs_ (fun e_=>(fun e_=>(Kd.R_ne HO_241000.out BK240.out (by decide)) e_) e_) (fun e_=>(fun e_=>(Kd.R_ne HO_241001.out BK240.out (by decide)) e_) e_)));have n3_:=zm (blk_kept (by (with_reducible repeat (first|refine zbN ?_ _|refine zbD ?_|refine zbA ?_ _));exact BK242.out) hkp (fun hs_=>Or.elim hs_ (fun e_=>(fun e_=>(Kd.R_ne HO_241000.out BK242.out (by decide)) e_) e_) (fun e_=>(fun e_=>(Kd.R_ne HO_241001.out BK242.out (by decide)) e_) e_)));have n4_:=zm (Kd.R_mono (ok':=fun k_=>True) ho0 (fun k_ hk_=>trivial));have n5_:=zm (Kd.R_mono (ok':=fun k_=>True) ho1 (fun k_ hk_=>trivial));have n6_:=zm (hb);clear BK230 BK231 BK240 BK242 HB HO_241000 HO_241001;have BK230:=n0_;have BK231:=n1_;have BK240:=n2_;have BK242:=n3_;have HO246:=n4_;have HO249:=n5_;have HB:=n6_;clear n0_ n1_ n2_ n3_ n4_ n5_ n6_;(try clear hb);(try clear hkp);(try clear ho0);(try clear ho1);obtain ⟨Ao53,co53,eo53⟩:=Kd.R_slice HO246.out;subst eo53;have hcz54_0:w52.cell? ⟨gb240,0,none⟩=some (.slice Ao50 x241000_1.length co50):=(blk_cell BK240.out 0).trans rfl;have hcz54_1:w52.cell? ⟨gb240,1,none⟩=some (.slice Ao51 x241001_1.length co51):=(blk_cell BK240.out 1).trans rfl;have hcz54_2:w52.cell? ⟨gb240,2,none⟩=some (.int .i64 x241002_1):=(blk_cell BK240.out 2).trans rfl;have hfz54_0:=blk_frozen BK240.out 0;have hfz54_1:=blk_frozen BK240.out 1;have hfz54_2:=blk_frozen BK240.out 2;obtain ⟨Ao55,co55,eo55⟩:=Kd.R_slice HO249.out;subst eo55))
         go_roundg k1
         case measure=>have:=HK1.out;omega
         case rel=>exact ⟨(wrap64 (x20_1 + 1)),(x232002_1),(t244),(t247),(t250),(.slice Ao53 t244.length co53),(.slice Ao55 t247.length co55),(by first|rfl|(simp;done)|(simp [*];done)),H',⟨by have:=HK1.out;omega⟩,⟨by (with_reducible repeat (first|apply zrA|apply zrN|apply zrD));exact Kd.R_mono (Kd.R_far (p:=⟨gb240,2,none⟩) (Kd.R_far (p:=⟨gb240,1,none⟩) (Kd.R_far (p:=⟨gb240,0,none⟩) (Kd.R_types HO246.out BK240.out (by decide)) (fun _ hk=>hk.2) (.slice Ao53 t244.length co53)) (fun _ hk=>hk.2) (.slice Ao55 t247.length co55)) (fun _ hk=>hk.2) (.int .i64 t250)) (fun _ hk=>trivial)⟩,⟨by (with_reducible repeat (first|apply zrA|apply zrN|apply zrD));exact Kd.R_mono (Kd.R_far (p:=⟨gb240,2,none⟩) (Kd.R_far (p:=⟨gb240,1,none⟩) (Kd.R_far (p:=⟨gb240,0,none⟩) (Kd.R_types HO249.out BK240.out (by decide)) (fun _ hk=>hk.2) (.slice Ao53 t244.length co53)) (fun _ hk=>hk.2) (.slice Ao55 t247.length co55)) (fun _ hk=>hk.2) (.int .i64 t250)) (fun _ hk=>trivial)⟩,⟨by (with_reducible repeat (first|refine zbN ?_ _|refine zbD ?_|refine zbA ?_ _));refine blk_far ?_ NB230_240.out _;(with_reducible repeat (first|refine zbN ?_ _|refine zbD ?_|refine zbA ?_ _));refine blk_far ?_ NB230_240.out _;(with_reducible repeat (first|refine zbN ?_ _|refine zbD ?_|refine zbA ?_ _));refine blk_far ?_ NB230_240.out _;(with_reducible repeat (first|refine zbN ?_ _|refine zbD ?_|refine zbA ?_ _));exact BK230.out⟩,⟨by (with_reducible repeat (first|refine zbN ?_ _|refine zbD ?_|refine zbA ?_ _));refine blk_far ?_ NB231_240.out _;(with_reducible repeat (first|refine zbN ?_ _|refine zbD ?_|refine zbA ?_ _));refine blk_far ?_ NB231_240.out _;(with_reducible repeat (first|refine zbN ?_ _|refine zbD ?_|refine zbA ?_ _));refine blk_far ?_ NB231_240.out _;(with_reducible repeat (first|refine zbN ?_ _|refine zbD ?_|refine zbA ?_ _));exact BK231.out⟩,⟨by (with_reducible repeat (first|refine zbN ?_ _|refine zbD ?_|refine zbA ?_ _));refine blk_put (cs:=#[.slice Ao53 t244.length co53,.slice Ao55 t247.length co55,.int .i64 x241002_1]) ?_ 2 _ rfl;(with_reducible repeat (first|refine zbN ?_ _|refine zbD ?_|refine zbA ?_ _));refine blk_put (cs:=#[.slice Ao53 t244.length co53,.slice Ao51 x241001_1.length co51,.int .i64 x241002_1]) ?_ 1 _ rfl;(with_reducible repeat (first|refine zbN ?_ _|refine zbD ?_|refine zbA ?_ _));refine blk_put (cs:=#[.slice Ao50 x241000_1.length co50,.slice Ao51 x241001_1.length co51,.int .i64 x241002_1]) ?_ 0 _ rfl;(with_reducible repeat (first|refine zbN ?_ _|refine zbD ?_|refine zbA ?_ _));exact BK240.out⟩,⟨by repeat (first|(with_reducible first|exact HB.out|apply zlA|apply zlN|apply zlD|refine zlS ?_ GE230.out|refine zlS ?_ GE231.out|refine zlS ?_ GE240.out|refine zlS ?_ GE242.out)|exact HB.out)⟩⟩
       ·replace c23:=Bool.eq_false_iff.mpr c23
        subst c23
        have H1:(some (([]:List Bool),([]:List Int),0,61))=some (r1,r2,r3,r4):=by rw [if_neg (show ¬ (false=true) by decide)] at H;exact H
        clear H
        have H:=H1
        clear H1
        simp only [Option.some.injEq,Prod.mk.injEq] at H
        obtain ⟨rfl,rfl,rfl,rfl⟩:=H
        have p241:0≤(x20_1:Int):=of_decide_eq_true (by first|(with_reducible assumption)|assumption)
        have q241:x20_1 < (l1.length:Int):=of_decide_eq_true (by first|(with_reducible assumption)|assumption)
        obtain ⟨ad241,e241,hx241_0,hx241_1,hx241_2⟩:=at_T55 HR1.out x20_1 p241 q241
        cases e241
        replace hx241_0:=(HB.out.cell (World.block_lt_of_cell? w _ hx241_0)).trans hx241_0
        replace hx241_1:=(HB.out.cell (World.block_lt_of_cell? w _ hx241_1)).trans hx241_1
        replace hx241_2:=(HB.out.cell (World.block_lt_of_cell? w _ hx241_2)).trans hx241_2
        replace p241:=eq_true p241
        replace q241:=eq_true q241
        go_wp2_with (first|((with_reducible refine gate_dst (N:=9) rfl ?_);(try (refine gate_guard (by rfl) ?_;dsimp only));refine box_event ?hg (N:=9) ?hd (cs:=#[.int .i64 0,.int .i64 0,.int .i64 0]) (t:=55) ?hr ?_;(case hd=>rfl);(case hg=>rfl);(case hr=>first|(go_simp;done)|(go_simp;rfl));intro gb242 hg w56 hbox hb;have n0_:=zm (Kd.R_below (by (with_reducible repeat (first|apply zrA|apply zrN|apply zrD));exact HO_241000.out) hb);have n1_:=zm (Kd.R_below (by (with_reducible repeat (first|apply zrA|apply zrN|apply zrD));exact HO_241001.out) hb);have n2_:=zm (zbB (g:=gb230) (o:=.cells #[.slice A0_0 l0_0.length c0_0,.slice A0_1 l0_1.length c0_1,.int .i64 a0_2] 25 (0,0)) (by (with_reducible repeat (first|refine zbN ?_ _|refine zbD ?_|refine zbA ?_ _));exact BK230.out) hb);have n3_:=zm (zbB (g:=gb231) (o:=.cells #[.slice none 0 0,.slice none 0 0,.int .i64 x232002_1] 25 (0,0)) (by (with_reducible repeat (first|refine zbN ?_ _|refine zbD ?_|refine zbA ?_ _));exact BK231.out) hb);have n4_:=zm (zbB (g:=gb240) (o:=.cells #[u241000,u241001,.int .i64 x241002_1] 25 (0,0)) (by (with_reducible repeat (first|refine zbN ?_ _|refine zbD ?_|refine zbA ?_ _));exact BK240.out) hb);have n5_:=zm (below_step (by repeat (first|(with_reducible first|exact HB.out|apply zlA|apply zlN|apply zlD|refine zlS ?_ GE230.out|refine zlS ?_ GE231.out|refine zlS ?_ GE240.out)|exact HB.out)) hb);have n6_:=zm (hbox);have n7_:=zm ((by rw [hg];exact (below_size (by repeat (first|(with_reducible first|exact HB.out|apply zlA|apply zlN|apply zlD|refine zlS ?_ GE230.out|refine zlS ?_ GE231.out|refine zlS ?_ GE240.out)|exact HB.out))):w.heap.size≤gb242));have n8_:=zm ((by rw [hg];exact (below_size (by repeat (first|(with_reducible first|exact HB.out|apply zlA|apply zlN|apply zlD|refine zlS ?_ GE230.out|refine zlS ?_ GE231.out|refine zlS ?_ GE240.out)|exact HB.out))):w.heap.size≤gb242));have n9_:=zm ((by rw [hg];exact Nat.ne_of_lt (blk_lt (g:=gb230) (o:=.cells #[.slice A0_0 l0_0.length c0_0,.slice A0_1 l0_1.length c0_1,.int .i64 a0_2] 25 (0,0)) (by (with_reducible repeat (first|refine zbN ?_ _|refine zbD ?_|refine zbA ?_ _));exact BK230.out)):gb230≠gb242));have n10_:=zm ((by rw [hg];exact Nat.ne_of_gt (blk_lt (g:=gb230) (o:=.cells #[.slice A0_0 l0_0.length c0_0,.slice A0_1 l0_1.length c0_1,.int .i64 a0_2] 25 (0,0)) (by (with_reducible repeat (first|refine zbN ?_ _|refine zbD ?_|refine zbA ?_ _));exact BK230.out)):gb242≠gb230));have n11_:=zm ((by rw [hg];exact Nat.ne_of_lt (blk_lt (g:=gb231) (o:=.cells #[.slice none 0 0,.slice none 0 0,.int .i64 x232002_1] 25 (0,0)) (by (with_reducible repeat (first|refine zbN ?_ _|refine zbD ?_|refine zbA ?_ _));exact BK231.out)):gb231≠gb242));have n12_:=zm ((by rw [hg];exact Nat.ne_of_gt (blk_lt (g:=gb231) (o:=.cells #[.slice none 0 0,.slice none 0 0,.int .i64 x232002_1] 25 (0,0)) (by (with_reducible repeat (first|refine zbN ?_ _|refine zbD ?_|refine zbA ?_ _));exact BK231.out)):gb242≠gb231));have n13_:=zm ((by rw [hg];exact Nat.ne_of_lt (blk_lt (g:=gb240) (o:=.cells #[u241000,u241001,.int .i64 x241002_1] 25 (0,0)) (by (with_reducible repeat (first|refine zbN ?_ _|refine zbD ?_|refine zbA ?_ _));exact BK240.out)):gb240≠gb242));have n14_:=zm ((by rw [hg];exact Nat.ne_of_gt (blk_lt (g:=gb240) (o:=.cells #[u241000,u241001,.int .i64 x241002_1] 25 (0,0)) (by (with_reducible repeat (first|refine zbN ?_ _|refine zbD ?_|refine zbA ?_ _));exact BK240.out)):gb242≠gb240));clear HO_241000 HO_241001 BK230 BK231 BK240 HB;have HO_241000:=n0_;have HO_241001:=n1_;have BK230:=n2_;have BK231:=n3_;have BK240:=n4_;have HB:=n5_;have BK242:=n6_;have GW242:=n7_;have GE242:=n8_;have NB230_242:=n9_;have NB242_230:=n10_;have NB231_242:=n11_;have NB242_231:=n12_;have NB240_242:=n13_;have NB242_240:=n14_;clear n0_ n1_ n2_ n3_ n4_ n5_ n6_ n7_ n8_ n9_ n10_ n11_ n12_ n13_ n14_;clear hb hbox hg;have hnb57:=NB242_230.out;have hnc57:=NB230_242.out;have hnb58:=NB242_231.out;have hnc58:=NB231_242.out;have hnb59:=NB242_240.out;have hnc59:=NB240_242.out;have hcz60_0:w56.cell? ⟨gb242,0,none⟩=some (.int .i64 0):=(blk_cell BK242.out 0).trans rfl;have hcz60_1:w56.cell? ⟨gb242,1,none⟩=some (.int .i64 0):=(blk_cell BK242.out 1).trans rfl;have hcz60_2:w56.cell? ⟨gb242,2,none⟩=some (.int .i64 0):=(blk_cell BK242.out 2).trans rfl;have hfz60_0:=blk_frozen BK242.out 0;have hfz60_1:=blk_frozen BK242.out 1;have hfz60_2:=blk_frozen BK242.out 2)|((with_reducible refine gate_callee (f:=61) rfl ?_);refine goesL_ (some 25) rfl rfl Try.func61 (by kernel_rfl) rfl #[.agg #[.int .i64 ((rd_T55 l1 x20_1).f0),.int .i64 ((rd_T55 l1 x20_1).f1),.int .i64 ((rd_T55 l1 x20_1).f2)]] rfl (by (try simp only [List.map_toArray,List.map_cons,List.map_nil]);first|done|rfl|(simp only [List.length_drop,List.length_take];rfl)) ?_;(with_reducible refine (mapjnl_record.calls k1 ((rd_T55 l1 x20_1).f0) ((rd_T55 l1 x20_1).f1) ((rd_T55 l1 x20_1).f2) false _ A22.out).mono ?_);rintro e w61 ⟨rfl,hb⟩;refine ⟨_,rfl,?_⟩;have n0_:=zm (Kd.R_below (by (with_reducible repeat (first|apply zrA|apply zrN|apply zrD));exact (Kd.R_mono (Kd.R_far (p:=⟨gb242,2,none⟩) (Kd.R_far (p:=⟨gb242,1,none⟩) (Kd.R_far (p:=⟨gb242,0,none⟩) (Kd.R_types HO_241000.out BK242.out (by decide)) (fun _ hk=>hk.2) (.int .i64 ((rd_T55 l1 x20_1).f0))) (fun _ hk=>hk.2) (.int .i64 ((rd_T55 l1 x20_1).f1))) (fun _ hk=>hk.2) (.int .i64 ((rd_T55 l1 x20_1).f2))) (fun _ h_=>h_.1))) hb);have n1_:=zm (Kd.R_below (by (with_reducible repeat (first|apply zrA|apply zrN|apply zrD));exact (Kd.R_mono (Kd.R_far (p:=⟨gb242,2,none⟩) (Kd.R_far (p:=⟨gb242,1,none⟩) (Kd.R_far (p:=⟨gb242,0,none⟩) (Kd.R_types HO_241001.out BK242.out (by decide)) (fun _ hk=>hk.2) (.int .i64 ((rd_T55 l1 x20_1).f0))) (fun _ hk=>hk.2) (.int .i64 ((rd_T55 l1 x20_1).f1))) (fun _ hk=>hk.2) (.int .i64 ((rd_T55 l1 x20_1).f2))) (fun _ h_=>h_.1))) hb);have n2_:=zm (zbB (g:=gb230) (o:=.cells #[.slice A0_0 l0_0.length c0_0,.slice A0_1 l0_1.length c0_1,.int .i64 a0_2] 25 (0,0)) (by (with_reducible repeat (first|refine zbN ?_ _|refine zbD ?_|refine zbA ?_ _));refine blk_far ?_ NB230_242.out _;(with_reducible repeat (first|refine zbN ?_ _|refine zbD ?_|refine zbA ?_ _));refine blk_far ?_ NB230_242.out _;(with_reducible repeat (first|refine zbN ?_ _|refine zbD ?_|refine zbA ?_ _));refine blk_far ?_ NB230_242.out _;(with_reducible repeat (first|refine zbN ?_ _|refine zbD ?_|refine zbA ?_ _));exact BK230.out) hb);have n3_:=zm (zbB (g:=gb231) (o:=.cells #[.slice none 0 0,.slice none 0 0,.int .i64 x232002_1] 25 (0,0)) (by (with_reducible repeat (first|refine zbN ?_ _|refine zbD ?_|refine zbA ?_ _));refine blk_far ?_ NB231_242.out _;(with_reducible repeat (first|refine zbN ?_ _|refine zbD ?_|refine zbA ?_ _));refine blk_far ?_ NB231_242.out _;(with_reducible repeat (first|refine zbN ?_ _|refine zbD ?_|refine zbA ?_ _));refine blk_far ?_ NB231_242.out _;(with_reducible repeat (first|refine zbN ?_ _|refine zbD ?_|refine zbA ?_ _));exact BK231.out) hb);have n4_:=zm (zbB (g:=gb240) (o:=.cells #[u241000,u241001,.int .i64 x241002_1] 25 (0,0)) (by (with_reducible repeat (first|refine zbN ?_ _|refine zbD ?_|refine zbA ?_ _));refine blk_far ?_ NB240_242.out _;(with_reducible repeat (first|refine zbN ?_ _|refine zbD ?_|refine zbA ?_ _));refine blk_far ?_ NB240_242.out _;(with_reducible repeat (first|refine zbN ?_ _|refine zbD ?_|refine zbA ?_ _));refine blk_far ?_ NB240_242.out _;(with_reducible repeat (first|refine zbN ?_ _|refine zbD ?_|refine zbA ?_ _));exact BK240.out) hb);have n5_:=zm (zbB (g:=gb242) (o:=.cells #[.int .i64 ((rd_T55 l1 x20_1).f0),.int .i64 ((rd_T55 l1 x20_1).f1),.int .i64 ((rd_T55 l1 x20_1).f2)] 55 (0,0)) (by (with_reducible repeat (first|refine zbN ?_ _|refine zbD ?_|refine zbA ?_ _));refine blk_put (cs:=#[.int .i64 ((rd_T55 l1 x20_1).f0),.int .i64 ((rd_T55 l1 x20_1).f1),.int .i64 0]) ?_ 2 _ rfl;(with_reducible repeat (first|refine zbN ?_ _|refine zbD ?_|refine zbA ?_ _));refine blk_put (cs:=#[.int .i64 ((rd_T55 l1 x20_1).f0),.int .i64 0,.int .i64 0]) ?_ 1 _ rfl;(with_reducible repeat (first|refine zbN ?_ _|refine zbD ?_|refine zbA ?_ _));refine blk_put (cs:=#[.int .i64 0,.int .i64 0,.int .i64 0]) ?_ 0 _ rfl;(with_reducible repeat (first|refine zbN ?_ _|refine zbD ?_|refine zbA ?_ _));exact BK242.out) hb);have n6_:=zm (below_step (by repeat (first|(with_reducible first|exact HB.out|apply zlA|apply zlN|apply zlD|refine zlS ?_ GE230.out|refine zlS ?_ GE231.out|refine zlS ?_ GE240.out|refine zlS ?_ GE242.out)|exact HB.out)) hb);clear HO_241000 HO_241001 BK230 BK231 BK240 BK242 HB;have HO_241000:=n0_;have HO_241001:=n1_;have BK230:=n2_;have BK231:=n3_;have BK240:=n4_;have BK242:=n5_;have HB:=n6_;clear n0_ n1_ n2_ n3_ n4_ n5_ n6_;(try clear hb);(try clear hb2);(try clear hk);(try clear hi);have hnb62:=NB231_230.out;have hnc62:=NB230_231.out;have hnb63:=NB231_240.out;have hnc63:=NB240_231.out;have hcz64_0:w61.cell? ⟨gb231,0,none⟩=some (.slice none 0 0):=(blk_cell BK231.out 0).trans rfl;have hcz64_1:w61.cell? ⟨gb231,1,none⟩=some (.slice none 0 0):=(blk_cell BK231.out 1).trans rfl;have hcz64_2:w61.cell? ⟨gb231,2,none⟩=some (.int .i64 x232002_1):=(blk_cell BK231.out 2).trans rfl;have hfz64_0:=blk_frozen BK231.out 0;have hfz64_1:=blk_frozen BK231.out 1;have hfz64_2:=blk_frozen BK231.out 2))
        refine bodyPost_ret (results_ct rfl _ _ gb231 25 #[.slice none 0 0,.slice none 0 0,.int .i64 0] (0,0) _ rfl (by (with_reducible repeat (first|refine zbN ?_ _|refine zbD ?_|refine zbA ?_ _));refine blk_put (cs:=#[.slice none 0 0,.slice none 0 0,.int .i64 x232002_1]) ?_ 2 _ rfl;(with_reducible repeat (first|refine zbN ?_ _|refine zbD ?_|refine zbA ?_ _));refine blk_put (cs:=#[.slice none 0 0,.slice none 0 0,.int .i64 x232002_1]) ?_ 1 _ rfl;(with_reducible repeat (first|refine zbN ?_ _|refine zbD ?_|refine zbA ?_ _));refine blk_put (cs:=#[.slice none 0 0,.slice none 0 0,.int .i64 x232002_1]) ?_ 0 _ rfl;(with_reducible repeat (first|refine zbN ?_ _|refine zbD ?_|refine zbA ?_ _));exact BK231.out) Try.underlying25 rfl (by kernel_rfl)) rfl ?_
        exact ⟨_,_,by first|rfl|(simp [errW_none,errW_some] <;> rfl)|(simp [*,errW_none,errW_some] <;> rfl),by first|exact Kd.R_nil _ _ _ _ _|exact Kd.N_nil _ _ _ _ _|exact Kd.V_nil _ _ _ _ _|exact Kd.Q_nil _ _ _ _ _|exact Kd.S_nil _ _ _ _ _,by first|exact Kd.R_nil _ _ _ _ _|exact Kd.N_nil _ _ _ _ _|exact Kd.V_nil _ _ _ _ _|exact Kd.Q_nil _ _ _ _ _|exact Kd.S_nil _ _ _ _ _,by repeat (first|(with_reducible first|exact HB.out|apply zlA|apply zlN|apply zlD|refine zlS ?_ GE230.out|refine zlS ?_ GE231.out|refine zlS ?_ GE240.out|refine zlS ?_ GE242.out)|exact HB.out)⟩
      ·rw [if_neg c21] at H
       exact absurd H (by simp)
     ·rw [if_neg c20] at H
      exact absurd H (by simp)
    ·rw [if_neg c19] at H
     have c19b0:decide (x20_1 < (l1.length:Int))=false:=decide_eq_false c19
     clear c19
     simp only [Option.some.injEq,Prod.mk.injEq] at H
     obtain ⟨rfl,rfl,rfl,rfl⟩:=H
     have hnb65:=NB240_230.out
     have hnc65:=NB230_240.out
     have hnb66:=NB240_231.out
     have hnc66:=NB231_240.out
     have hcz67_0:wr.cell? ⟨gb240,0,none⟩=some (u241000):=(blk_cell BK240.out 0).trans rfl
     have hcz67_1:wr.cell? ⟨gb240,1,none⟩=some (u241001):=(blk_cell BK240.out 1).trans rfl
     have hcz67_2:wr.cell? ⟨gb240,2,none⟩=some (.int .i64 x241002_1):=(blk_cell BK240.out 2).trans rfl
     have hfz67_0:=blk_frozen BK240.out 0
     have hfz67_1:=blk_frozen BK240.out 1
     have hfz67_2:=blk_frozen BK240.out 2
     obtain ⟨Ao68,co68,eo68⟩:=Kd.R_slice HO_241000.out
     subst eo68
     have hnb69:=NB231_230.out
     have hnc69:=NB230_231.out
     have hcz70_0:wr.cell? ⟨gb231,0,none⟩=some (.slice none 0 0):=(blk_cell BK231.out 0).trans rfl
     have hcz70_1:wr.cell? ⟨gb231,1,none⟩=some (.slice none 0 0):=(blk_cell BK231.out 1).trans rfl
     have hcz70_2:wr.cell? ⟨gb231,2,none⟩=some (.int .i64 x232002_1):=(blk_cell BK231.out 2).trans rfl
     have hfz70_0:=blk_frozen BK231.out 0
     have hfz70_1:=blk_frozen BK231.out 1
     have hfz70_2:=blk_frozen BK231.out 2
     obtain ⟨Ao71,co71,eo71⟩:=Kd.R_slice HO_241001.out
     subst eo71
     go_wp2
     refine bodyPost_ret (results_ct rfl _ _ gb231 25 #[.slice Ao68 x241000_1.length co68,.slice Ao71 x241001_1.length co71,.int .i64 x241002_1] (0,0) _ rfl (by (with_reducible repeat (first|refine zbN ?_ _|refine zbD ?_|refine zbA ?_ _));refine blk_put (cs:=#[.slice Ao68 x241000_1.length co68,.slice Ao71 x241001_1.length co71,.int .i64 x232002_1]) ?_ 2 _ rfl;(with_reducible repeat (first|refine zbN ?_ _|refine zbD ?_|refine zbA ?_ _));refine blk_put (cs:=#[.slice Ao68 x241000_1.length co68,.slice none 0 0,.int .i64 x232002_1]) ?_ 1 _ rfl;(with_reducible repeat (first|refine zbN ?_ _|refine zbD ?_|refine zbA ?_ _));refine blk_put (cs:=#[.slice none 0 0,.slice none 0 0,.int .i64 x232002_1]) ?_ 0 _ rfl;(with_reducible repeat (first|refine zbN ?_ _|refine zbD ?_|refine zbA ?_ _));exact BK231.out) Try.underlying25 rfl (by kernel_rfl)) rfl ?_
     exact ⟨_,_,by first|rfl|(simp [errW_none,errW_some] <;> rfl)|(simp [*,errW_none,errW_some] <;> rfl),by (with_reducible repeat (first|apply zrA|apply zrN|apply zrD));exact Kd.R_mono (Kd.R_far (p:=⟨gb231,2,none⟩) (Kd.R_far (p:=⟨gb231,1,none⟩) (Kd.R_far (p:=⟨gb231,0,none⟩) (Kd.R_types HO_241000.out BK231.out (by decide)) (fun _ hk=>hk.2) (.slice Ao68 x241000_1.length co68)) (fun _ hk=>hk.2) (.slice Ao71 x241001_1.length co71)) (fun _ hk=>hk.2) (.int .i64 x241002_1)) (fun _ hk=>trivial),by (with_reducible repeat (first|apply zrA|apply zrN|apply zrD));exact Kd.R_mono (Kd.R_far (p:=⟨gb231,2,none⟩) (Kd.R_far (p:=⟨gb231,1,none⟩) (Kd.R_far (p:=⟨gb231,0,none⟩) (Kd.R_types HO_241001.out BK231.out (by decide)) (fun _ hk=>hk.2) (.slice Ao68 x241000_1.length co68)) (fun _ hk=>hk.2) (.slice Ao71 x241001_1.length co71)) (fun _ hk=>hk.2) (.int .i64 x241002_1)) (fun _ hk=>trivial),by repeat (first|(with_reducible first|exact HB.out|apply zlA|apply zlN|apply zlD|refine zlS ?_ GE230.out|refine zlS ?_ GE231.out|refine zlS ?_ GE240.out)|exact HB.out)⟩
 ·rw [if_neg c4] at H
  have c4b0:(t232 == 0)=false:=beq_eq_false_iff_ne.mpr c4
  have c4b1:(t232 != 0)=true:=bne_iff_ne.mpr c4
  simp only [Option.some.injEq,Prod.mk.injEq] at H
  obtain ⟨rfl,rfl,rfl,rfl⟩:=H
  go_enter Try.func22,Try.ntmps22
  go_wp2_with (first|((with_reducible refine gate_dst (N:=2) rfl ?_);(try (refine gate_guard (by rfl) ?_;dsimp only));refine box_event ?hg (N:=2) ?hd (cs:=#[.slice A0_0 l0_0.length c0_0,.slice A0_1 l0_1.length c0_1,.int .i64 a0_2]) (t:=25) ?hr ?_;(case hd=>rfl);(case hg=>rfl);(case hr=>first|(go_simp;done)|(go_simp;rfl));intro gb230 hg w72 hbox hb;have n0_:=zm (below_step (by repeat (first|(with_reducible first|exact HB.out|apply zlA|apply zlN|apply zlD)|exact HB.out)) hb);have n1_:=zm (hbox);have n2_:=zm ((by rw [hg];exact (below_size (by repeat (first|(with_reducible first|exact HB.out|apply zlA|apply zlN|apply zlD)|exact HB.out))):w.heap.size≤gb230));have n3_:=zm ((by rw [hg];exact (below_size (by repeat (first|(with_reducible first|exact HB.out|apply zlA|apply zlN|apply zlD)|exact HB.out))):w.heap.size≤gb230));clear HB;have HB:=n0_;have BK230:=n1_;have GW230:=n2_;have GE230:=n3_;clear n0_ n1_ n2_ n3_;clear hb hbox hg)|((with_reducible refine gate_dst (N:=4) rfl ?_);(try (refine gate_guard (by rfl) ?_;dsimp only));refine box_event ?hg (N:=4) ?hd (cs:=#[.slice none 0 0,.slice none 0 0,.int .i64 0]) (t:=25) ?hr ?_;(case hd=>rfl);(case hg=>rfl);(case hr=>first|(go_simp;done)|(go_simp;rfl));intro gb231 hg w73 hbox hb;have n0_:=zm (zbB (g:=gb230) (o:=.cells #[.slice A0_0 l0_0.length c0_0,.slice A0_1 l0_1.length c0_1,.int .i64 a0_2] 25 (0,0)) (by (with_reducible repeat (first|refine zbN ?_ _|refine zbD ?_|refine zbA ?_ _));exact BK230.out) hb);have n1_:=zm (below_step (by repeat (first|(with_reducible first|exact HB.out|apply zlA|apply zlN|apply zlD|refine zlS ?_ GE230.out)|exact HB.out)) hb);have n2_:=zm (hbox);have n3_:=zm ((by rw [hg];exact (below_size (by repeat (first|(with_reducible first|exact HB.out|apply zlA|apply zlN|apply zlD|refine zlS ?_ GE230.out)|exact HB.out))):w.heap.size≤gb231));have n4_:=zm ((by rw [hg];exact (below_size (by repeat (first|(with_reducible first|exact HB.out|apply zlA|apply zlN|apply zlD|refine zlS ?_ GE230.out)|exact HB.out))):w.heap.size≤gb231));have n5_:=zm ((by rw [hg];exact Nat.ne_of_lt (blk_lt (g:=gb230) (o:=.cells #[.slice A0_0 l0_0.length c0_0,.slice A0_1 l0_1.length c0_1,.int .i64 a0_2] 25 (0,0)) (by (with_reducible repeat (first|refine zbN ?_ _|refine zbD ?_|refine zbA ?_ _));exact BK230.out)):gb230≠gb231));have n6_:=zm ((by rw [hg];exact Nat.ne_of_gt (blk_lt (g:=gb230) (o:=.cells #[.slice A0_0 l0_0.length c0_0,.slice A0_1 l0_1.length c0_1,.int .i64 a0_2] 25 (0,0)) (by (with_reducible repeat (first|refine zbN ?_ _|refine zbD ?_|refine zbA ?_ _));exact BK230.out)):gb231≠gb230));clear BK230 HB;have BK230:=n0_;have HB:=n1_;have BK231:=n2_;have GW231:=n3_;have GE231:=n4_;have NB230_231:=n5_;have NB231_230:=n6_;clear n0_ n1_ n2_ n3_ n4_ n5_ n6_;clear hb hbox hg;have hnb74:=NB230_231.out;have hnc74:=NB231_230.out;have hcz75_0:w73.cell? ⟨gb230,0,none⟩=some (.slice A0_0 l0_0.length c0_0):=(blk_cell BK230.out 0).trans rfl;have hcz75_1:w73.cell? ⟨gb230,1,none⟩=some (.slice A0_1 l0_1.length c0_1):=(blk_cell BK230.out 1).trans rfl;have hcz75_2:w73.cell? ⟨gb230,2,none⟩=some (.int .i64 a0_2):=(blk_cell BK230.out 2).trans rfl;have hfz75_0:=blk_frozen BK230.out 0;have hfz75_1:=blk_frozen BK230.out 1;have hfz75_2:=blk_frozen BK230.out 2)|((with_reducible refine gate_callee (f:=17) rfl ?_);refine goesL_ (some 11) rfl rfl Try.func17 (by kernel_rfl) rfl #[.agg #[.slice A0_0 l0_0.length c0_0,.slice A0_1 l0_1.length c0_1,.int .i64 a0_2]] rfl (by (try simp only [List.map_toArray,List.map_cons,List.map_nil]);first|done|rfl|(simp only [List.length_drop,List.length_take];rfl)) ?_;(with_reducible refine (mapjnl_Check.calls k _ _ l0_0 _ _ l0_1 a0_2 t232 _ ?side1 ?side2 ?side3 ?side4 A3.out).mono ?_);(case side1=>repeat (first|exact (Kd.C_below HR0_0.out HB.out)|(with_reducible refine Kd.C_alloc ?_ _)|(with_reducible refine Kd.C_drewN ?_ _)|(with_reducible refine Kd.C_drew ?_)));(case side2=>exact HC0_0.out);(case side3=>repeat (first|exact (Kd.C_below HR0_1.out HB.out)|(with_reducible refine Kd.C_alloc ?_ _)|(with_reducible refine Kd.C_drewN ?_ _)|(with_reducible refine Kd.C_drew ?_)));(case side4=>exact HC0_1.out);rintro e w76 ⟨rfl,hb⟩;refine ⟨_,rfl,?_⟩;have n0_:=zm (zbB (g:=gb230) (o:=.cells #[.slice A0_0 l0_0.length c0_0,.slice A0_1 l0_1.length c0_1,.int .i64 a0_2] 25 (0,0)) (by (with_reducible repeat (first|refine zbN ?_ _|refine zbD ?_|refine zbA ?_ _));exact BK230.out) hb);have n1_:=zm (zbB (g:=gb231) (o:=.cells #[.slice none 0 0,.slice none 0 0,.int .i64 0] 25 (0,0)) (by (with_reducible repeat (first|refine zbN ?_ _|refine zbD ?_|refine zbA ?_ _));exact BK231.out) hb);have n2_:=zm (below_step (by repeat (first|(with_reducible first|exact HB.out|apply zlA|apply zlN|apply zlD|refine zlS ?_ GE230.out|refine zlS ?_ GE231.out)|exact HB.out)) hb);clear BK230 BK231 HB;have BK230:=n0_;have BK231:=n1_;have HB:=n2_;clear n0_ n1_ n2_;(try clear hb);(try clear hb2);(try clear hk);(try clear hi);have hcz77_0:w76.cell? ⟨gb231,0,none⟩=some (.slice none 0 0):=(blk_cell BK231.out 0).trans rfl;have hcz77_1:w76.cell? ⟨gb231,1,none⟩=some (.slice none 0 0):=(blk_cell BK231.out 1).trans rfl;have hcz77_2:w76.cell? ⟨gb231,2,none⟩=some (.int .i64 0):=(blk_cell BK231.out 2).trans rfl;have hfz77_0:=blk_frozen BK231.out 0;have hfz77_1:=blk_frozen BK231.out 1;have hfz77_2:=blk_frozen BK231.out 2))
  refine bodyPost_ret (results_ct rfl _ _ gb231 25 #[.slice none 0 0,.slice none 0 0,.int .i64 0] (0,0) _ rfl (by (with_reducible repeat (first|refine zbN ?_ _|refine zbD ?_|refine zbA ?_ _));refine blk_put (cs:=#[.slice none 0 0,.slice none 0 0,.int .i64 0]) ?_ 2 _ rfl;(with_reducible repeat (first|refine zbN ?_ _|refine zbD ?_|refine zbA ?_ _));refine blk_put (cs:=#[.slice none 0 0,.slice none 0 0,.int .i64 0]) ?_ 1 _ rfl;(with_reducible repeat (first|refine zbN ?_ _|refine zbD ?_|refine zbA ?_ _));refine blk_put (cs:=#[.slice none 0 0,.slice none 0 0,.int .i64 0]) ?_ 0 _ rfl;(with_reducible repeat (first|refine zbN ?_ _|refine zbD ?_|refine zbA ?_ _));exact BK231.out) Try.underlying25 rfl (by kernel_rfl)) rfl ?_
  exact ⟨_,_,by first|rfl|(simp [errW_none,errW_some] <;> rfl)|(simp [*,errW_none,errW_some] <;> rfl),by first|exact Kd.R_nil _ _ _ _ _|exact Kd.N_nil _ _ _ _ _|exact Kd.V_nil _ _ _ _ _|exact Kd.Q_nil _ _ _ _ _|exact Kd.S_nil _ _ _ _ _,by first|exact Kd.R_nil _ _ _ _ _|exact Kd.N_nil _ _ _ _ _|exact Kd.V_nil _ _ _ _ _|exact Kd.Q_nil _ _ _ _ _|exact Kd.S_nil _ _ _ _ _,by repeat (first|(with_reducible first|exact HB.out|apply zlA|apply zlN|apply zlD|refine zlS ?_ GE230.out|refine zlS ?_ GE231.out)|exact HB.out)⟩
def mapjnl_Parts.f (a0:Int):Option (Int):=(mapjnl_blocks.f a0).bind fun t251=>(if t251=true then (some (wrap64 (Int.tdiv (wrap64 ((wrap64 (a0 + 64)) - 1)) 64))) else (some 0))
set_option maxHeartbeats 8000000 in
set_option maxRecDepth 100000 in
theorem mapjnl_Parts.calls (a0:Int) (r:Int) (w:World) (h:mapjnl_Parts.f a0=some r) :
  Calls Try.prog 33 #[.int .i64 a0] w fun e w'=>e=.returned (.int .i64 r)∧Drawn0 w w':=by
 have H:((mapjnl_blocks.f a0).bind fun t251=>(if t251=true then (some (wrap64 (Int.tdiv (wrap64 ((wrap64 (a0 + 64)) - 1)) 64))) else (some 0)))=some r:=h
 clear h
 replace H:=Option.bind_eq_some_iff.mp H
 obtain ⟨t251,A20,H⟩:=H
 replace H:(if t251=true then (some (wrap64 (Int.tdiv (wrap64 ((wrap64 (a0 + 64)) - 1)) 64))) else (some 0))=some r:=H
 have A2:=zm A20
 clear A20
 by_cases c3:t251=true
 ·subst c3
  have H1:(some (wrap64 (Int.tdiv (wrap64 ((wrap64 (a0 + 64)) - 1)) 64)))=some r:=by rw [if_pos rfl] at H;exact H
  clear H
  have H:=H1
  clear H1
  obtain rfl:=Option.some.inj H
  go_enter Try.func33,Try.ntmps33
  go_wp2_with (first|((with_reducible refine gate_callee (f:=49) rfl ?_);refine goesL_ (some 4) rfl rfl Try.func49 (by kernel_rfl) rfl #[.int .i64 a0] rfl (by (try simp only [List.map_toArray,List.map_cons,List.map_nil]);first|done|rfl|(simp only [List.length_drop,List.length_take];rfl)) ?_;(with_reducible refine (mapjnl_blocks.calls a0 true _ A2.out).mono ?_);rintro e w' ⟨rfl,⟨nd,rfl⟩⟩;refine ⟨_,rfl,?_⟩))
  go_ret
  exact ⟨by first|rfl|(simp;done)|(simp [*];done),by repeat (first|exact Drawn0.refl _|apply Drawn0.step)⟩
 ·replace c3:=Bool.eq_false_iff.mpr c3
  subst c3
  have H1:(some 0)=some r:=by rw [if_neg (show ¬ (false=true) by decide)] at H;exact H
  clear H
  have H:=H1
  clear H1
  obtain rfl:=Option.some.inj H
  go_enter Try.func33,Try.ntmps33
  go_wp2_with (first|((with_reducible refine gate_callee (f:=49) rfl ?_);refine goesL_ (some 4) rfl rfl Try.func49 (by kernel_rfl) rfl #[.int .i64 a0] rfl (by (try simp only [List.map_toArray,List.map_cons,List.map_nil]);first|done|rfl|(simp only [List.length_drop,List.length_take];rfl)) ?_;(with_reducible refine (mapjnl_blocks.calls a0 false _ A2.out).mono ?_);rintro e w' ⟨rfl,⟨nd,rfl⟩⟩;refine ⟨_,rfl,?_⟩))
  go_ret
  exact ⟨by first|rfl|(simp;done)|(simp [*];done),by repeat (first|exact Drawn0.refl _|apply Drawn0.step)⟩
end Go.Proofs.Ytkhbmgclklmimaa.Print
end
section
namespace Go.Proofs.Ytkhbmgclklmimaa.Print
open Go.RowKit Go.Proofs.YtkhbmgclklmimaaW.PrintWords Go.Proofs.YtkhbmgclklmimaaW.PrintLast Go.Proofs.YtkhbmgclklmimaaW.PrintMore
attribute [local go_sem] max2_int min2_int max_two min_two max_three min_three max_four min_four   -- for this text's walks alone
attribute [local go_sem ↓] Go.Proofs.Ytkhbmgclklmimaa.Sem.isSome_setCell
attribute [local go_sem] Go.Instr.field Go.asAgg
set_option linter.unusedVariables false
set_option linter.unusedSimpArgs false
def slipwaylaw06_begun.f (k:Nat) :Option (Bool):=(mapjnl_New.f 16).bind fun bt252=>((mapjnl_Apply.f k bt252.1 bt252.2.1 bt252.2.2.1 (([(⟨2,3,5⟩:S55),(⟨2,3,4⟩:S55)]:List (S55)))).bind fun bt264=>(if bt252.2.2.2=0 then (if bt264.2.2.2=0 then (if (bt264.2.1.length:Int)=16 then (if 3 < (bt264.2.1.length:Int) then (if (rd bt264.2.1 3)=5 then ((mapjnl_Covers.f k bt264.1 bt264.2.1 bt264.2.2.1 bt252.1 bt252.2.1 bt252.2.2.1).bind fun t274=>(if t274=true then ((mapjnl_Covers.f k bt252.1 bt252.2.1 bt252.2.2.1 bt264.1 bt264.2.1 bt264.2.2.1).bind fun t275=>(if t275=true then (none) else ((mapjnl_Parts.f 16).bind fun t276=>(some (t276 == 1))))) else (none))) else (none)) else (none)) else (none)) else (none)) else (none)))
theorem slipwaylaw06_begun.mono:∀ k,LeO (slipwaylaw06_begun.f k ) (slipwaylaw06_begun.f (k + 1) ):=by
 intro  k
 unfold slipwaylaw06_begun.f
 repeat' first
   | (with_reducible exact mapjnl_Apply.mono _ _ _ _ _)
   | (with_reducible exact mapjnl_Covers.mono _ _ _ _ _ _ _)
   | (with_reducible exact LeO.refl _)
   | (with_reducible exact LeO.none _)
   | (with_reducible refine LeO.ite ?_ ?_)
   | (with_reducible refine LeO.bind ?_ (fun _=>?_))
   | exact mapjnl_Apply.mono _ _ _ _ _
   | exact mapjnl_Covers.mono _ _ _ _ _ _ _
   | exact LeO.none _
   | refine LeO.ite ?_ ?_
   | refine LeO.bind ?_ (fun _=>?_)
set_option maxHeartbeats 8000000 in
set_option maxRecDepth 100000 in
theorem slipwaylaw06_begun.calls (k:Nat)  (r:Bool) (w:World) (h:slipwaylaw06_begun.f k =some r) :
  Calls Try.prog 15 #[] w fun e w'=>e=.returned (.bool r)∧Below w.heap.size w w':=by
 have hu25:=Try.underlying25
 have hu55:=Try.underlying55
 have HB:=zm (Below.refl w.heap.size w)
 have H:((mapjnl_New.f 16).bind fun bt252=>((mapjnl_Apply.f k bt252.1 bt252.2.1 bt252.2.2.1 (([(⟨2,3,5⟩:S55),(⟨2,3,4⟩:S55)]:List (S55)))).bind fun bt264=>(if bt252.2.2.2=0 then (if bt264.2.2.2=0 then (if (bt264.2.1.length:Int)=16 then (if 3 < (bt264.2.1.length:Int) then (if (rd bt264.2.1 3)=5 then ((mapjnl_Covers.f k bt264.1 bt264.2.1 bt264.2.2.1 bt252.1 bt252.2.1 bt252.2.2.1).bind fun t274=>(if t274=true then ((mapjnl_Covers.f k bt252.1 bt252.2.1 bt252.2.2.1 bt264.1 bt264.2.1 bt264.2.2.1).bind fun t275=>(if t275=true then (none) else ((mapjnl_Parts.f 16).bind fun t276=>(some (t276 == 1))))) else (none))) else (none)) else (none)) else (none)) else (none)) else (none))))=some r:=h
 clear h
 replace H:=Option.bind_eq_some_iff.mp H
 obtain ⟨⟨t252,t255,t258,t259⟩,A10,H⟩:=H
 replace H:((mapjnl_Apply.f k t252 t255 t258 (([(⟨2,3,5⟩:S55),(⟨2,3,4⟩:S55)]:List (S55)))).bind fun bt264=>(if t259=0 then (if bt264.2.2.2=0 then (if (bt264.2.1.length:Int)=16 then (if 3 < (bt264.2.1.length:Int) then (if (rd bt264.2.1 3)=5 then ((mapjnl_Covers.f k bt264.1 bt264.2.1 bt264.2.2.1 t252 t255 t258).bind fun t274=>(if t274=true then ((mapjnl_Covers.f k t252 t255 t258 bt264.1 bt264.2.1 bt264.2.2.1).bind fun t275=>(if t275=true then (none) else ((mapjnl_Parts.f 16).bind fun t276=>(some (t276 == 1))))) else (none))) else (none)) else (none)) else (none)) else (none)) else (none)))=some r:=H
 have A1:=zm A10
 clear A10
 obtain ⟨y261,hy261⟩:∃ y_:List (S55),y_=(([(⟨2,3,5⟩:S55),(⟨2,3,4⟩:S55)]:List (S55))):=⟨_,rfl⟩
 replace H:((mapjnl_Apply.f k t252 t255 t258 y261).bind fun bt264=>(if t259=0 then (if bt264.2.2.2=0 then (if (bt264.2.1.length:Int)=16 then (if 3 < (bt264.2.1.length:Int) then (if (rd bt264.2.1 3)=5 then ((mapjnl_Covers.f k bt264.1 bt264.2.1 bt264.2.2.1 t252 t255 t258).bind fun t274=>(if t274=true then ((mapjnl_Covers.f k t252 t255 t258 bt264.1 bt264.2.1 bt264.2.2.1).bind fun t275=>(if t275=true then (none) else ((mapjnl_Parts.f 16).bind fun t276=>(some (t276 == 1))))) else (none))) else (none)) else (none)) else (none)) else (none)) else (none)))=some r:=by first|(rw [hy261];with_reducible exact H)|(have H2_:=(Option.bind_some _ _).symm.trans H;rw [hy261];with_reducible exact H2_)|(have H2_:=(Option.bind_some _ _).symm.trans H;with_reducible exact H2_)|with_reducible exact H|(rw [hy261];exact H)|exact H
 have Ny261:=zm hy261
 clear hy261
 replace H:=Option.bind_eq_some_iff.mp H
 obtain ⟨⟨t264,t267,t270,t271⟩,A20,H⟩:=H
 replace H:(if t259=0 then (if t271=0 then (if (t267.length:Int)=16 then (if 3 < (t267.length:Int) then (if (rd t267 3)=5 then ((mapjnl_Covers.f k t264 t267 t270 t252 t255 t258).bind fun t274=>(if t274=true then ((mapjnl_Covers.f k t252 t255 t258 t264 t267 t270).bind fun t275=>(if t275=true then (none) else ((mapjnl_Parts.f 16).bind fun t276=>(some (t276 == 1))))) else (none))) else (none)) else (none)) else (none)) else (none)) else (none))=some r:=H
 have A2:=zm A20
 clear A20
 by_cases c3:t259=0
 ·rw [if_pos c3] at H
  have c3b0:(t259 == 0)=true:=beq_iff_eq.mpr c3
  have c3b1:(t259 != 0)=false:=bne_eq_false_iff_eq.mpr c3
  clear c3
  by_cases c4:t271=0
  ·rw [if_pos c4] at H
   have c4b0:(t271 == 0)=true:=beq_iff_eq.mpr c4
   have c4b1:(t271 != 0)=false:=bne_eq_false_iff_eq.mpr c4
   clear c4
   by_cases c5:(t267.length:Int)=16
   ·rw [if_pos c5] at H
    have c5b0:((t267.length:Int) == 16)=true:=beq_iff_eq.mpr c5
    have c5b1:((t267.length:Int) != 16)=false:=bne_eq_false_iff_eq.mpr c5
    clear c5
    by_cases c6:3 < (t267.length:Int)
    ·rw [if_pos c6] at H
     have c6b0:decide (3 < (t267.length:Int))=true:=decide_eq_true c6
     have c6b1:decide (3 < t267.length)=true:=decide_eq_true (by omega)
     clear c6
     by_cases c7:(rd t267 3)=5
     ·rw [if_pos c7] at H
      have c7b0:((rd t267 3) == 5)=true:=beq_iff_eq.mpr c7
      have c7b1:((rd t267 3) != 5)=false:=bne_eq_false_iff_eq.mpr c7
      clear c7
      replace H:=Option.bind_eq_some_iff.mp H
      obtain ⟨t274,A80,H⟩:=H
      replace H:(if t274=true then ((mapjnl_Covers.f k t252 t255 t258 t264 t267 t270).bind fun t275=>(if t275=true then (none) else ((mapjnl_Parts.f 16).bind fun t276=>(some (t276 == 1))))) else (none))=some r:=H
      have A8:=zm A80
      clear A80
      by_cases c9:t274=true
      ·subst c9
       have H1:((mapjnl_Covers.f k t252 t255 t258 t264 t267 t270).bind fun t275=>(if t275=true then (none) else ((mapjnl_Parts.f 16).bind fun t276=>(some (t276 == 1)))))=some r:=by rw [if_pos rfl] at H;exact H
       clear H
       have H:=H1
       clear H1
       replace H:=Option.bind_eq_some_iff.mp H
       obtain ⟨t275,A100,H⟩:=H
       replace H:(if t275=true then (none) else ((mapjnl_Parts.f 16).bind fun t276=>(some (t276 == 1))))=some r:=H
       have A10:=zm A100
       clear A100
       by_cases c11:t275=true
       ·subst c11
        have H1:(none)=some r:=by rw [if_pos rfl] at H;exact H
        clear H
        have H:=H1
        clear H1
        exact absurd H (by simp)
       ·replace c11:=Bool.eq_false_iff.mpr c11
        subst c11
        have H1:((mapjnl_Parts.f 16).bind fun t276=>(some (t276 == 1)))=some r:=by rw [if_neg (show ¬ (false=true) by decide)] at H;exact H
        clear H
        have H:=H1
        clear H1
        replace H:=Option.bind_eq_some_iff.mp H
        obtain ⟨t276,A120,H⟩:=H
        replace H:(some (t276 == 1))=some r:=H
        have A12:=zm A120
        clear A120
        obtain rfl:=Option.some.inj H
        go_enter Try.func15,Try.ntmps15
        go_wp2_with (first|((with_reducible refine gate_callee (f:=11) rfl ?_);refine goesL_ (some 6) rfl rfl Try.func11 (by kernel_rfl) rfl #[.int .i64 16] rfl (by (try simp only [List.map_toArray,List.map_cons,List.map_nil]);first|done|rfl|(simp only [List.length_drop,List.length_take];rfl)) ?_;(with_reducible refine (mapjnl_New.calls 16 t252 t255 t258 t259 _ A1.out).mono ?_);rintro e w13 ⟨v253,v256,rfl,ho0,ho1,hb⟩;refine ⟨_,rfl,?_⟩;have n0_:=zm (Kd.R_lower ho0 (below_size (by repeat (first|(with_reducible first|exact HB.out|apply zlA|apply zlN|apply zlD)|exact HB.out))));have n1_:=zm (Kd.R_lower ho1 (below_size (by repeat (first|(with_reducible first|exact HB.out|apply zlA|apply zlN|apply zlD)|exact HB.out))));have n2_:=zm (below_step (by repeat (first|(with_reducible first|exact HB.out|apply zlA|apply zlN|apply zlD)|exact HB.out)) hb);clear HB;have HO254:=n0_;have HO257:=n1_;have HB:=n2_;clear n0_ n1_ n2_;(try clear hb);(try clear hb2);(try clear hk);(try clear hi);(try clear ho0);(try clear ho1))|((with_reducible refine gate_dst (N:=1) rfl ?_);(try (refine gate_guard (by rfl) ?_;dsimp only));refine box_event ?hg (N:=1) ?hd (cs:=#[.slice none 0 0,.slice none 0 0,.int .i64 0]) (t:=25) ?hr ?_;(case hd=>rfl);(case hg=>rfl);(case hr=>first|(go_simp;done)|(go_simp;rfl));intro gb260 hg w14 hbox hb;have n0_:=zm (Kd.R_below (by (with_reducible repeat (first|apply zrA|apply zrN|apply zrD));exact HO254.out) hb);have n1_:=zm (Kd.R_below (by (with_reducible repeat (first|apply zrA|apply zrN|apply zrD));exact HO257.out) hb);have n2_:=zm (below_step (by repeat (first|(with_reducible first|exact HB.out|apply zlA|apply zlN|apply zlD)|exact HB.out)) hb);have n3_:=zm (hbox);have n4_:=zm ((by rw [hg];exact (below_size (by repeat (first|(with_reducible first|exact HB.out|apply zlA|apply zlN|apply zlD)|exact HB.out))):w.heap.size≤gb260));have n5_:=zm ((by rw [hg];exact (below_size (by repeat (first|(with_reducible first|exact HB.out|apply zlA|apply zlN|apply zlD)|exact HB.out))):w.heap.size≤gb260));clear HO254 HO257 HB;have HO254:=n0_;have HO257:=n1_;have HB:=n2_;have BK260:=n3_;have GW260:=n4_;have GE260:=n5_;clear n0_ n1_ n2_ n3_ n4_ n5_;clear hb hbox hg;obtain ⟨Ao15,co15,eo15⟩:=Kd.R_slice HO254.out;subst eo15;have hcz16_0:w14.cell? ⟨gb260,0,none⟩=some (.slice none 0 0):=(blk_cell BK260.out 0).trans rfl;have hcz16_1:w14.cell? ⟨gb260,1,none⟩=some (.slice none 0 0):=(blk_cell BK260.out 1).trans rfl;have hcz16_2:w14.cell? ⟨gb260,2,none⟩=some (.int .i64 0):=(blk_cell BK260.out 2).trans rfl;have hfz16_0:=blk_frozen BK260.out 0;have hfz16_1:=blk_frozen BK260.out 1;have hfz16_2:=blk_frozen BK260.out 2;obtain ⟨Ao17,co17,eo17⟩:=Kd.R_slice HO257.out;subst eo17)|((with_reducible refine gate_dst (N:=13) rfl ?_);(try (refine gate_guard (by rfl) ?_;dsimp only));refine Kd.R_lit k55 _ 55 ?hg (N:=13) ?hd (xs:=([(⟨2,3,5⟩:S55),(⟨2,3,4⟩:S55)]:List (S55))) (inner:=[.int .i64 2,.int .i64 3,.int .i64 5,.int .i64 2,.int .i64 3,.int .i64 4]) (ok:=fun _=>True) (okp:=fun _=>True) ?hr ?hp (fun _ hk=>hk) trivial (Below.refl _ _) (Nat.le_refl _) (by simp) ?_;(case hd=>rfl);(case hg=>rfl);(case hr=>first|(go_simp;done)|(go_simp;rfl));(case hp=>exact (Reps.c3 (show Kd.M k55 _ _ _ (⟨2,3,5⟩:S55) [.int .i64 2,.int .i64 3,.int .i64 5] from (k55_mkM _ _ _ (⟨2,3,5⟩:S55) )) (Reps.c3 (show Kd.M k55 _ _ _ (⟨2,3,4⟩:S55) [.int .i64 2,.int .i64 3,.int .i64 4] from (k55_mkM _ _ _ (⟨2,3,4⟩:S55) )) (Reps.none _ _))));intro v262 w18 ho19 hb hg_ hnew_;clear hg_ hnew_;(first|rw [← Ny261.out] at ho19|(simp only [Int.reduceToNat] at ho19;rw [← Ny261.out] at ho19));have n0_:=zm (Kd.R_below (by (with_reducible repeat (first|apply zrA|apply zrN|apply zrD));exact (Kd.R_mono (Kd.R_far (p:=⟨gb260,2,none⟩) (Kd.R_far (p:=⟨gb260,1,none⟩) (Kd.R_far (p:=⟨gb260,0,none⟩) (Kd.R_types HO254.out BK260.out (by decide)) (fun _ hk=>hk.2) (.slice Ao15 t252.length co15)) (fun _ hk=>hk.2) (.slice Ao17 t255.length co17)) (fun _ hk=>hk.2) (.int .i64 t258)) (fun _ h_=>h_.1))) hb);have n1_:=zm (Kd.R_below (by (with_reducible repeat (first|apply zrA|apply zrN|apply zrD));exact (Kd.R_mono (Kd.R_far (p:=⟨gb260,2,none⟩) (Kd.R_far (p:=⟨gb260,1,none⟩) (Kd.R_far (p:=⟨gb260,0,none⟩) (Kd.R_types HO257.out BK260.out (by decide)) (fun _ hk=>hk.2) (.slice Ao15 t252.length co15)) (fun _ hk=>hk.2) (.slice Ao17 t255.length co17)) (fun _ hk=>hk.2) (.int .i64 t258)) (fun _ h_=>h_.1))) hb);have n2_:=zm (Kd.R_lower ho19 (below_size (by repeat (first|(with_reducible first|exact HB.out|apply zlA|apply zlN|apply zlD|refine zlS ?_ GE260.out)|exact HB.out))));have n3_:=zm (zbB (g:=gb260) (o:=.cells #[.slice Ao15 t252.length co15,.slice Ao17 t255.length co17,.int .i64 t258] 25 (0,0)) (by (with_reducible repeat (first|refine zbN ?_ _|refine zbD ?_|refine zbA ?_ _));refine blk_put (cs:=#[.slice Ao15 t252.length co15,.slice Ao17 t255.length co17,.int .i64 0]) ?_ 2 _ rfl;(with_reducible repeat (first|refine zbN ?_ _|refine zbD ?_|refine zbA ?_ _));refine blk_put (cs:=#[.slice Ao15 t252.length co15,.slice none 0 0,.int .i64 0]) ?_ 1 _ rfl;(with_reducible repeat (first|refine zbN ?_ _|refine zbD ?_|refine zbA ?_ _));refine blk_put (cs:=#[.slice none 0 0,.slice none 0 0,.int .i64 0]) ?_ 0 _ rfl;(with_reducible repeat (first|refine zbN ?_ _|refine zbD ?_|refine zbA ?_ _));exact BK260.out) hb);have n4_:=zm (below_step (by repeat (first|(with_reducible first|exact HB.out|apply zlA|apply zlN|apply zlD|refine zlS ?_ GE260.out)|exact HB.out)) hb);clear HO254 HO257 BK260 HB;have HO254:=n0_;have HO257:=n1_;have HO263:=n2_;have BK260:=n3_;have HB:=n4_;clear n0_ n1_ n2_ n3_ n4_;clear hb ho19;obtain ⟨Ao20,co20,eo20⟩:=Kd.R_slice HO263.out;subst eo20)|((with_reducible refine gate_callee (f:=22) rfl ?_);refine goesL_ (some 14) rfl rfl Try.func22 (by kernel_rfl) rfl #[.agg #[.slice Ao15 t252.length co15,.slice Ao17 t255.length co17,.int .i64 t258],.slice Ao20 y261.length co20] rfl (by (try simp only [List.map_toArray,List.map_cons,List.map_nil]);first|done|rfl|(simp only [List.length_drop,List.length_take];rfl)) ?_;(with_reducible refine (mapjnl_Apply.calls k _ _ t252 _ _ t255 t258 _ _ y261 t264 t267 t270 t271 _ ?side1 ?side2 ?side3 ?side4 ?side5 ?side6 A2.out).mono ?_);(case side1=>repeat (first|exact (Kd.R_reads' HO254.out).2.2|(with_reducible refine Kd.C_alloc ?_ _)|(with_reducible refine Kd.C_drewN ?_ _)|(with_reducible refine Kd.C_drew ?_)));(case side2=>exact (Kd.R_reads' HO254.out).2.1);(case side3=>repeat (first|exact (Kd.R_reads' HO257.out).2.2|(with_reducible refine Kd.C_alloc ?_ _)|(with_reducible refine Kd.C_drewN ?_ _)|(with_reducible refine Kd.C_drew ?_)));(case side4=>exact (Kd.R_reads' HO257.out).2.1);(case side5=>repeat (first|exact (Kd.R_reads' HO263.out).2.2|(with_reducible refine Kd.C_alloc ?_ _)|(with_reducible refine Kd.C_drewN ?_ _)|(with_reducible refine Kd.C_drew ?_)));(case side6=>exact (Kd.R_reads' HO263.out).2.1);rintro e w21 ⟨v265,v268,rfl,ho0,ho1,hb⟩;refine ⟨_,rfl,?_⟩;have n0_:=zm (Kd.R_elder' (by (with_reducible repeat (first|apply zrA|apply zrN|apply zrD));exact HO254.out) (Kd.R_base ho0) hb);have n1_:=zm (Kd.R_elder' (by (with_reducible repeat (first|apply zrA|apply zrN|apply zrD));exact HO257.out) (Kd.R_base ho1) hb);have n2_:=zm (Kd.R_below (by (with_reducible repeat (first|apply zrA|apply zrN|apply zrD));exact HO263.out) hb);have n3_:=zm (Kd.R_lower (Kd.R_new' ho0 (Kd.R_lt (by (with_reducible repeat (first|apply zrA|apply zrN|apply zrD));exact HO254.out))) (below_size (by repeat (first|(with_reducible first|exact HB.out|apply zlA|apply zlN|apply zlD|refine zlS ?_ GE260.out)|exact HB.out))));have n4_:=zm (Kd.R_lower (Kd.R_new' ho1 (Kd.R_lt (by (with_reducible repeat (first|apply zrA|apply zrN|apply zrD));exact HO257.out))) (below_size (by repeat (first|(with_reducible first|exact HB.out|apply zlA|apply zlN|apply zlD|refine zlS ?_ GE260.out)|exact HB.out))));have n5_:=zm (zbB (g:=gb260) (o:=.cells #[.slice Ao15 t252.length co15,.slice Ao17 t255.length co17,.int .i64 t258] 25 (0,0)) (by (with_reducible repeat (first|refine zbN ?_ _|refine zbD ?_|refine zbA ?_ _));exact BK260.out) hb);have n6_:=zm (below_step (by repeat (first|(with_reducible first|exact HB.out|apply zlA|apply zlN|apply zlD|refine zlS ?_ GE260.out)|exact HB.out)) hb);clear HO254 HO257 HO263 BK260 HB;have HO254:=n0_;have HO257:=n1_;have HO263:=n2_;have HO266:=n3_;have HO269:=n4_;have BK260:=n5_;have HB:=n6_;clear n0_ n1_ n2_ n3_ n4_ n5_ n6_;(try clear hb);(try clear hb2);(try clear hk);(try clear hi);(try clear ho0);(try clear ho1))|((with_reducible refine gate_dst (N:=3) rfl ?_);(try (refine gate_guard (by rfl) ?_;dsimp only));refine box_event ?hg (N:=3) ?hd (cs:=#[.slice none 0 0,.slice none 0 0,.int .i64 0]) (t:=25) ?hr ?_;(case hd=>rfl);(case hg=>rfl);(case hr=>first|(go_simp;done)|(go_simp;rfl));intro gb272 hg w22 hbox hb;have n0_:=zm (Kd.R_below (by (with_reducible repeat (first|apply zrA|apply zrN|apply zrD));exact HO254.out) hb);have n1_:=zm (Kd.R_below (by (with_reducible repeat (first|apply zrA|apply zrN|apply zrD));exact HO257.out) hb);have n2_:=zm (Kd.R_below (by (with_reducible repeat (first|apply zrA|apply zrN|apply zrD));exact HO263.out) hb);have n3_:=zm (Kd.R_below (by (with_reducible repeat (first|apply zrA|apply zrN|apply zrD));exact HO266.out) hb);have n4_:=zm (Kd.R_below (by (with_reducible repeat (first|apply zrA|apply zrN|apply zrD));exact HO269.out) hb);have n5_:=zm (zbB (g:=gb260) (o:=.cells #[.slice Ao15 t252.length co15,.slice Ao17 t255.length co17,.int .i64 t258] 25 (0,0)) (by (with_reducible repeat (first|refine zbN ?_ _|refine zbD ?_|refine zbA ?_ _));exact BK260.out) hb);have n6_:=zm (below_step (by repeat (first|(with_reducible first|exact HB.out|apply zlA|apply zlN|apply zlD|refine zlS ?_ GE260.out)|exact HB.out)) hb);have n7_:=zm (hbox);have n8_:=zm ((by rw [hg];exact (below_size (by repeat (first|(with_reducible first|exact HB.out|apply zlA|apply zlN|apply zlD|refine zlS ?_ GE260.out)|exact HB.out))):w.heap.size≤gb272));have n9_:=zm ((by rw [hg];exact (below_size (by repeat (first|(with_reducible first|exact HB.out|apply zlA|apply zlN|apply zlD|refine zlS ?_ GE260.out)|exact HB.out))):w.heap.size≤gb272));have n10_:=zm ((by rw [hg];exact Nat.ne_of_lt (blk_lt (g:=gb260) (o:=.cells #[.slice Ao15 t252.length co15,.slice Ao17 t255.length co17,.int .i64 t258] 25 (0,0)) (by (with_reducible repeat (first|refine zbN ?_ _|refine zbD ?_|refine zbA ?_ _));exact BK260.out)):gb260≠gb272));have n11_:=zm ((by rw [hg];exact Nat.ne_of_gt (blk_lt (g:=gb260) (o:=.cells #[.slice Ao15 t252.length co15,.slice Ao17 t255.length co17,.int .i64 t258] 25 (0,0)) (by (with_reducible repeat (first|refine zbN ?_ _|refine zbD ?_|refine zbA ?_ _));exact BK260.out)):gb272≠gb260));clear HO254 HO257 HO263 HO266 HO269 BK260 HB;have HO254:=n0_;have HO257:=n1_;have HO263:=n2_;have HO266:=n3_;have HO269:=n4_;have BK260:=n5_;have HB:=n6_;have BK272:=n7_;have GW272:=n8_;have GE272:=n9_;have NB260_272:=n10_;have NB272_260:=n11_;clear n0_ n1_ n2_ n3_ n4_ n5_ n6_ n7_ n8_ n9_ n10_ n11_;clear hb hbox hg;obtain ⟨Ao23,co23,eo23⟩:=Kd.R_slice HO266.out;subst eo23;have hnb24:=NB272_260.out;have hnc24:=NB260_272.out;have hcz25_0:w22.cell? ⟨gb272,0,none⟩=some (.slice none 0 0):=(blk_cell BK272.out 0).trans rfl;have hcz25_1:w22.cell? ⟨gb272,1,none⟩=some (.slice none 0 0):=(blk_cell BK272.out 1).trans rfl;have hcz25_2:w22.cell? ⟨gb272,2,none⟩=some (.int .i64 0):=(blk_cell BK272.out 2).trans rfl;have hfz25_0:=blk_frozen BK272.out 0;have hfz25_1:=blk_frozen BK272.out 1;have hfz25_2:=blk_frozen BK272.out 2;obtain ⟨Ao26,co26,eo26⟩:=Kd.R_slice HO269.out;subst eo26;have p273:0≤(3:Int):=(by omega);have q273:3 < (t267.length:Int):=of_decide_eq_true (by first|(with_reducible assumption)|assumption);obtain ⟨ad273,e273,hx273_0⟩:=Kd.at_int (Kd.R_reads' HO269.out).2.2 3 p273 q273;cases e273;(try simp only [show (3:Int).toNat=3 from rfl,Nat.reduceMul,Nat.reduceEqDiff,Go.Addr.add,↓reduceIte] at hx273_0);have qi273:(3 < t267.length)=True:=eq_true (by omega);(try rw [show ((3:Int)).toNat=3 from rfl] at hx273_0);have hn273_0:ad273.block≠gb272:=Kd.own_blk (Kd.R_ne HO269.out BK272.out (by decide));have hn273_1:ad273.block≠gb272:=Kd.own_blk (Kd.R_ne HO269.out BK272.out (by decide));have hn273_2:ad273.block≠gb272:=Kd.own_blk (Kd.R_ne HO269.out BK272.out (by decide));replace hx273_0:=(cell_far (p:=⟨gb272,0,none⟩) (by first|(rw [add_block];exact hn273_0)|(show (Addr.add _ _).block≠_;rw [add_block];exact hn273_0)|exact hn273_0) (.slice Ao23 t264.length co23)).trans hx273_0;replace hx273_0:=(cell_far (p:=⟨gb272,1,none⟩) (by first|(rw [add_block];exact hn273_1)|(show (Addr.add _ _).block≠_;rw [add_block];exact hn273_1)|exact hn273_1) (.slice (some ad273) t267.length co26)).trans hx273_0;replace hx273_0:=(cell_far (p:=⟨gb272,2,none⟩) (by first|(rw [add_block];exact hn273_2)|(show (Addr.add _ _).block≠_;rw [add_block];exact hn273_2)|exact hn273_2) (.int .i64 t270)).trans hx273_0;clear hn273_0 hn273_1 hn273_2;replace p273:=eq_true p273;replace q273:=eq_true q273;have hcz27_0:w22.cell? ⟨gb260,0,none⟩=some (.slice Ao15 t252.length co15):=(blk_cell BK260.out 0).trans rfl;have hcz27_1:w22.cell? ⟨gb260,1,none⟩=some (.slice Ao17 t255.length co17):=(blk_cell BK260.out 1).trans rfl;have hcz27_2:w22.cell? ⟨gb260,2,none⟩=some (.int .i64 t258):=(blk_cell BK260.out 2).trans rfl;have hfz27_0:=blk_frozen BK260.out 0;have hfz27_1:=blk_frozen BK260.out 1;have hfz27_2:=blk_frozen BK260.out 2)|(go_at_call 19;(with_reducible refine (mapjnl_Covers.calls k _ _ t264 _ _ t267 t270 _ _ t252 _ _ t255 t258 true _ ?side1 ?side2 ?side3 ?side4 ?side5 ?side6 ?side7 ?side8 A8.out).mono ?_);(case side1=>refine (Kd.R_reads' (e:=4) (base:=w.heap.size) (ok:=fun k_=>(True∧some k_≠(.slice Ao15 t252.length co15:Value).ownBlock)) (n:=t264.length) (c:=co23) ?_).2.2;exact (by (with_reducible repeat (first|apply zrA|apply zrN|apply zrD));exact (Kd.R_mono (Kd.R_far (p:=⟨gb272,2,none⟩) (Kd.R_far (p:=⟨gb272,1,none⟩) (Kd.R_far (p:=⟨gb272,0,none⟩) (Kd.R_types HO266.out BK272.out (by decide)) (fun _ hk=>hk.2) (.slice Ao23 t264.length co23)) (fun _ hk=>hk.2) (.slice (some ad273) t267.length co26)) (fun _ hk=>hk.2) (.int .i64 t270)) (fun _ h_=>h_.1))));(case side2=>exact (Kd.R_reads' HO266.out).2.1);(case side3=>refine (Kd.R_reads' (e:=2) (base:=w.heap.size) (ok:=fun k_=>(True∧some k_≠(.slice Ao17 t255.length co17:Value).ownBlock)) (n:=t267.length) (c:=co26) ?_).2.2;exact (by (with_reducible repeat (first|apply zrA|apply zrN|apply zrD));exact (Kd.R_mono (Kd.R_far (p:=⟨gb272,2,none⟩) (Kd.R_far (p:=⟨gb272,1,none⟩) (Kd.R_far (p:=⟨gb272,0,none⟩) (Kd.R_types HO269.out BK272.out (by decide)) (fun _ hk=>hk.2) (.slice Ao23 t264.length co23)) (fun _ hk=>hk.2) (.slice (some ad273) t267.length co26)) (fun _ hk=>hk.2) (.int .i64 t270)) (fun _ h_=>h_.1))));(case side4=>exact (Kd.R_reads' HO269.out).2.1);(case side5=>refine (Kd.R_reads' (e:=4) (base:=w.heap.size) (ok:=fun k_=>(True∧some k_≠(.slice Ao23 t264.length co23:Value).ownBlock)) (n:=t252.length) (c:=co15) ?_).2.2;exact (by (with_reducible repeat (first|apply zrA|apply zrN|apply zrD));exact (Kd.R_mono (Kd.R_far (p:=⟨gb272,2,none⟩) (Kd.R_far (p:=⟨gb272,1,none⟩) (Kd.R_far (p:=⟨gb272,0,none⟩) (Kd.R_types HO254.out BK272.out (by decide)) (fun _ hk=>hk.2) (.slice Ao23 t264.length co23)) (fun _ hk=>hk.2) (.slice (some ad273) t267.length co26)) (fun _ hk=>hk.2) (.int .i64 t270)) (fun _ h_=>h_.1))));(case side6=>exact (Kd.R_reads' HO254.out).2.1);(case side7=>refine (Kd.R_reads' (e:=2) (base:=w.heap.size) (ok:=fun k_=>(True∧some k_≠(.slice (some ad273) t267.length co26:Value).ownBlock)) (n:=t255.length) (c:=co17) ?_).2.2;exact (by (with_reducible repeat (first|apply zrA|apply zrN|apply zrD));exact (Kd.R_mono (Kd.R_far (p:=⟨gb272,2,none⟩) (Kd.R_far (p:=⟨gb272,1,none⟩) (Kd.R_far (p:=⟨gb272,0,none⟩) (Kd.R_types HO257.out BK272.out (by decide)) (fun _ hk=>hk.2) (.slice Ao23 t264.length co23)) (fun _ hk=>hk.2) (.slice (some ad273) t267.length co26)) (fun _ hk=>hk.2) (.int .i64 t270)) (fun _ h_=>h_.1))));(case side8=>exact (Kd.R_reads' HO257.out).2.1);rintro e w28 ⟨rfl,hb⟩;have n0_:=zm (Kd.R_below (by (with_reducible repeat (first|apply zrA|apply zrN|apply zrD));exact (Kd.R_mono (Kd.R_far (p:=⟨gb272,2,none⟩) (Kd.R_far (p:=⟨gb272,1,none⟩) (Kd.R_far (p:=⟨gb272,0,none⟩) (Kd.R_types HO254.out BK272.out (by decide)) (fun _ hk=>hk.2) (.slice Ao23 t264.length co23)) (fun _ hk=>hk.2) (.slice (some ad273) t267.length co26)) (fun _ hk=>hk.2) (.int .i64 t270)) (fun _ h_=>h_.1))) hb);have n1_:=zm (Kd.R_below (by (with_reducible repeat (first|apply zrA|apply zrN|apply zrD));exact (Kd.R_mono (Kd.R_far (p:=⟨gb272,2,none⟩) (Kd.R_far (p:=⟨gb272,1,none⟩) (Kd.R_far (p:=⟨gb272,0,none⟩) (Kd.R_types HO257.out BK272.out (by decide)) (fun _ hk=>hk.2) (.slice Ao23 t264.length co23)) (fun _ hk=>hk.2) (.slice (some ad273) t267.length co26)) (fun _ hk=>hk.2) (.int .i64 t270)) (fun _ h_=>h_.1))) hb);have n2_:=zm (Kd.R_below (by (with_reducible repeat (first|apply zrA|apply zrN|apply zrD));exact (Kd.R_mono (Kd.R_far (p:=⟨gb272,2,none⟩) (Kd.R_far (p:=⟨gb272,1,none⟩) (Kd.R_far (p:=⟨gb272,0,none⟩) (Kd.R_types HO263.out BK272.out (by decide)) (fun _ hk=>hk.2) (.slice Ao23 t264.length co23)) (fun _ hk=>hk.2) (.slice (some ad273) t267.length co26)) (fun _ hk=>hk.2) (.int .i64 t270)) (fun _ h_=>h_.1))) hb);have n3_:=zm (Kd.R_below (by (with_reducible repeat (first|apply zrA|apply zrN|apply zrD));exact (Kd.R_mono (Kd.R_far (p:=⟨gb272,2,none⟩) (Kd.R_far (p:=⟨gb272,1,none⟩) (Kd.R_far (p:=⟨gb272,0,none⟩) (Kd.R_types HO266.out BK272.out (by decide)) (fun _ hk=>hk.2) (.slice Ao23 t264.length co23)) (fun _ hk=>hk.2) (.slice (some ad273) t267.length co26)) (fun _ hk=>hk.2) (.int .i64 t270)) (fun _ h_=>h_.1))) hb);have n4_:=zm (Kd.R_below (by (with_reducible repeat (first|apply zrA|apply zrN|apply zrD));exact (Kd.R_mono (Kd.R_far (p:=⟨gb272,2,none⟩) (Kd.R_far (p:=⟨gb272,1,none⟩) (Kd.R_far (p:=⟨gb272,0,none⟩) (Kd.R_types HO269.out BK272.out (by decide)) (fun _ hk=>hk.2) (.slice Ao23 t264.length co23)) (fun _ hk=>hk.2) (.slice (some ad273) t267.length co26)) (fun _ hk=>hk.2) (.int .i64 t270)) (fun _ h_=>h_.1))) hb);have n5_:=zm (zbB (g:=gb260) (o:=.cells #[.slice Ao15 t252.length co15,.slice Ao17 t255.length co17,.int .i64 t258] 25 (0,0)) (by (with_reducible repeat (first|refine zbN ?_ _|refine zbD ?_|refine zbA ?_ _));refine blk_far ?_ NB260_272.out _;(with_reducible repeat (first|refine zbN ?_ _|refine zbD ?_|refine zbA ?_ _));refine blk_far ?_ NB260_272.out _;(with_reducible repeat (first|refine zbN ?_ _|refine zbD ?_|refine zbA ?_ _));refine blk_far ?_ NB260_272.out _;(with_reducible repeat (first|refine zbN ?_ _|refine zbD ?_|refine zbA ?_ _));exact BK260.out) hb);have n6_:=zm (zbB (g:=gb272) (o:=.cells #[.slice Ao23 t264.length co23,.slice (some ad273) t267.length co26,.int .i64 t270] 25 (0,0)) (by (with_reducible repeat (first|refine zbN ?_ _|refine zbD ?_|refine zbA ?_ _));refine blk_put (cs:=#[.slice Ao23 t264.length co23,.slice (some ad273) t267.length co26,.int .i64 0]) ?_ 2 _ rfl;(with_reducible repeat (first|refine zbN ?_ _|refine zbD ?_|refine zbA ?_ _));refine blk_put (cs:=#[.slice Ao23 t264.length co23,.slice none 0 0,.int .i64 0]) ?_ 1 _ rfl;(with_reducible repeat (first|refine zbN ?_ _|refine zbD ?_|refine zbA ?_ _));refine blk_put (cs:=#[.slice none 0 0,.slice none 0 0,.int .i64 0]) ?_ 0 _ rfl;(with_reducible repeat (first|refine zbN ?_ _|refine zbD ?_|refine zbA ?_ _));exact BK272.out) hb);have n7_:=zm (below_step (by repeat (first|(with_reducible first|exact HB.out|apply zlA|apply zlN|apply zlD|refine zlS ?_ GE260.out|refine zlS ?_ GE272.out)|exact HB.out)) hb);clear HO254 HO257 HO263 HO266 HO269 BK260 BK272 HB;have HO254:=n0_;have HO257:=n1_;have HO263:=n2_;have HO266:=n3_;have HO269:=n4_;have BK260:=n5_;have BK272:=n6_;have HB:=n7_;clear n0_ n1_ n2_ n3_ n4_ n5_ n6_ n7_;(try clear hb);(try clear hb2);(try clear hk);(try clear hi);have hcz29_0:w28.cell? ⟨gb260,0,none⟩=some (.slice Ao15 t252.length co15):=(blk_cell BK260.out 0).trans rfl;have hcz29_1:w28.cell? ⟨gb260,1,none⟩=some (.slice Ao17 t255.length co17):=(blk_cell BK260.out 1).trans rfl;have hcz29_2:w28.cell? ⟨gb260,2,none⟩=some (.int .i64 t258):=(blk_cell BK260.out 2).trans rfl;have hfz29_0:=blk_frozen BK260.out 0;have hfz29_1:=blk_frozen BK260.out 1;have hfz29_2:=blk_frozen BK260.out 2;have hcz30_0:w28.cell? ⟨gb272,0,none⟩=some (.slice Ao23 t264.length co23):=(blk_cell BK272.out 0).trans rfl;have hcz30_1:w28.cell? ⟨gb272,1,none⟩=some (.slice (some ad273) t267.length co26):=(blk_cell BK272.out 1).trans rfl;have hcz30_2:w28.cell? ⟨gb272,2,none⟩=some (.int .i64 t270):=(blk_cell BK272.out 2).trans rfl;have hfz30_0:=blk_frozen BK272.out 0;have hfz30_1:=blk_frozen BK272.out 1;have hfz30_2:=blk_frozen BK272.out 2)|(go_at_call 19;(with_reducible refine (mapjnl_Covers.calls k _ _ t252 _ _ t255 t258 _ _ t264 _ _ t267 t270 false _ ?side1 ?side2 ?side3 ?side4 ?side5 ?side6 ?side7 ?side8 A10.out).mono ?_);(case side1=>repeat (first|exact (Kd.R_reads' HO254.out).2.2|(with_reducible refine Kd.C_alloc ?_ _)|(with_reducible refine Kd.C_drewN ?_ _)|(with_reducible refine Kd.C_drew ?_)));(case side2=>exact (Kd.R_reads' HO254.out).2.1);(case side3=>repeat (first|exact (Kd.R_reads' HO257.out).2.2|(with_reducible refine Kd.C_alloc ?_ _)|(with_reducible refine Kd.C_drewN ?_ _)|(with_reducible refine Kd.C_drew ?_)));(case side4=>exact (Kd.R_reads' HO257.out).2.1);(case side5=>repeat (first|exact (Kd.R_reads' HO266.out).2.2|(with_reducible refine Kd.C_alloc ?_ _)|(with_reducible refine Kd.C_drewN ?_ _)|(with_reducible refine Kd.C_drew ?_)));(case side6=>exact (Kd.R_reads' HO266.out).2.1);(case side7=>repeat (first|exact (Kd.R_reads' HO269.out).2.2|(with_reducible refine Kd.C_alloc ?_ _)|(with_reducible refine Kd.C_drewN ?_ _)|(with_reducible refine Kd.C_drew ?_)));(case side8=>exact (Kd.R_reads' HO269.out).2.1);rintro e w31 ⟨rfl,hb⟩;have n0_:=zm (Kd.R_below (by (with_reducible repeat (first|apply zrA|apply zrN|apply zrD));exact HO254.out) hb);have n1_:=zm (Kd.R_below (by (with_reducible repeat (first|apply zrA|apply zrN|apply zrD));exact HO257.out) hb);have n2_:=zm (Kd.R_below (by (with_reducible repeat (first|apply zrA|apply zrN|apply zrD));exact HO263.out) hb);have n3_:=zm (Kd.R_below (by (with_reducible repeat (first|apply zrA|apply zrN|apply zrD));exact HO266.out) hb);have n4_:=zm (Kd.R_below (by (with_reducible repeat (first|apply zrA|apply zrN|apply zrD));exact HO269.out) hb);have n5_:=zm (zbB (g:=gb260) (o:=.cells #[.slice Ao15 t252.length co15,.slice Ao17 t255.length co17,.int .i64 t258] 25 (0,0)) (by (with_reducible repeat (first|refine zbN ?_ _|refine zbD ?_|refine zbA ?_ _));exact BK260.out) hb);have n6_:=zm (zbB (g:=gb272) (o:=.cells #[.slice Ao23 t264.length co23,.slice (some ad273) t267.length co26,.int .i64 t270] 25 (0,0)) (by (with_reducible repeat (first|refine zbN ?_ _|refine zbD ?_|refine zbA ?_ _));exact BK272.out) hb);have n7_:=zm (below_step (by repeat (first|(with_reducible first|exact HB.out|apply zlA|apply zlN|apply zlD|refine zlS ?_ GE260.out|refine zlS ?_ GE272.out)|exact HB.out)) hb);clear HO254 HO257 HO263 HO266 HO269 BK260 BK272 HB;have HO254:=n0_;have HO257:=n1_;have HO263:=n2_;have HO266:=n3_;have HO269:=n4_;have BK260:=n5_;have BK272:=n6_;have HB:=n7_;clear n0_ n1_ n2_ n3_ n4_ n5_ n6_ n7_;(try clear hb);(try clear hb2);(try clear hk);(try clear hi))|(go_at_call 33;(with_reducible refine (mapjnl_Parts.calls 16 t276 _ A12.out).mono ?_);rintro e w' ⟨rfl,⟨nd,rfl⟩⟩))
        go_ret
        exact ⟨by first|rfl|(simp [errW_none,errW_some] <;> rfl)|(simp [*,errW_none,errW_some] <;> rfl),by repeat (first|(with_reducible first|exact HB.out|apply zlA|apply zlN|apply zlD|refine zlS ?_ GE260.out|refine zlS ?_ GE272.out)|exact HB.out)⟩
      ·replace c9:=Bool.eq_false_iff.mpr c9
       subst c9
       have H1:(none)=some r:=by rw [if_neg (show ¬ (false=true) by decide)] at H;exact H
       clear H
       have H:=H1
       clear H1
       exact absurd H (by simp)
     ·rw [if_neg c7] at H
      exact absurd H (by simp)
    ·rw [if_neg c6] at H
     exact absurd H (by simp)
   ·rw [if_neg c5] at H
    exact absurd H (by simp)
  ·rw [if_neg c4] at H
   exact absurd H (by simp)
 ·rw [if_neg c3] at H
  exact absurd H (by simp)
def slipwayref06_bools.l0:Nat → List Bool → List Bool → Int → Option (Bool)
 | 0,_,_,_=>none
 | k + 1,x0,x1,x5=>if x5 < (x0.length:Int) then (if 0≤x5 then (if x5 < (x1.length:Int) then (if ((rdOf false x0 x5) != (rdOf false x1 x5))=true then (some false) else (slipwayref06_bools.l0 k x0 x1 (wrap64 (x5 + 1)))) else (none)) else (none)) else (some true)
def slipwayref06_bools.f (k:Nat) (l0:List Bool) (l1:List Bool):Option (Bool):=if (l0.length:Int)=(l1.length:Int) then (slipwayref06_bools.l0 k l0 l1 0) else (some false)
set_option maxHeartbeats 8000000 in
set_option maxRecDepth 100000 in
theorem slipwayref06_bools.calls (k:Nat) (A0:Option Addr) (c0:Nat) (l0:List Bool) (A1:Option Addr) (c1:Nat) (l1:List Bool) (r:Bool) (w:World) (hr0:Kd.C Kd.bool w A0 l0.length l0) (hc0:l0.length≤c0) (hr1:Kd.C Kd.bool w A1 l1.length l1) (hc1:l1.length≤c1) (h:slipwayref06_bools.f k l0 l1=some r) :
  Calls Try.prog 53 #[.slice A0 l0.length c0,.slice A1 l1.length c1] w fun e w'=>e=.returned (.bool r)∧Drawn0 w w':=by
 have HR0:=zm hr0
 have HC0:=zm hc0
 clear hr0 hc0
 have HR1:=zm hr1
 have HC1:=zm hc1
 clear hr1 hc1
 have H:(if (l0.length:Int)=(l1.length:Int) then (slipwayref06_bools.l0 k l0 l1 0) else (some false))=some r:=h
 clear h
 by_cases c3:(l0.length:Int)=(l1.length:Int)
 ·rw [if_pos c3] at H
  have c3b0:((l0.length:Int) == (l1.length:Int))=true:=beq_iff_eq.mpr c3
  have c3b1:((l0.length:Int) != (l1.length:Int))=false:=bne_eq_false_iff_eq.mpr c3
  have c3b2:(l0.length == l1.length)=true:=by first|simpa using c3|(simp at c3 ⊢;omega)
  clear c3
  have H':=zm H
  clear H
  go_enter Try.func53,Try.ntmps53
  go_wp2
  repeat (go_quiet (fail);try go_wp2)
  go_loopg [5] k (fun kq v5 w'=>∃ (x5_1:Int),v5=.int .i64 x5_1∧Aside0 (slipwayref06_bools.l0 kq l0 l1 x5_1=some r)∧Aside0 (kq≤k)∧Drawn0 w w')
  case atStart=>exact ⟨(0),(by first|rfl|(simp;done)|(simp [*];done)),H',⟨Nat.le_refl _⟩,by repeat (first|exact Drawn0.refl _|apply Drawn0.step)⟩
  case round =>
   clear H'
   try clear c1
   try clear p2
   try clear c3
   try clear c3b0
   try clear c3b1
   try clear c3b2
   obtain ⟨x5_1,rfl,HA,HK1,⟨m1,rfl⟩⟩:=hrel
   cases gk with
   | zero=>exact absurd HA.out (by simp [slipwayref06_bools.l0])
   | succ k1 =>
    have H:=HA.out
    clear HA
    simp only [slipwayref06_bools.l0] at H
    by_cases c4:x5_1 < (l0.length:Int)
    ·rw [if_pos c4] at H
     have c4b0:decide (x5_1 < (l0.length:Int))=true:=decide_eq_true c4
     clear c4
     by_cases c5:0≤x5_1
     ·rw [if_pos c5] at H
      have c5b0:decide (0≤x5_1)=true:=decide_eq_true c5
      clear c5
      by_cases c6:x5_1 < (l1.length:Int)
      ·rw [if_pos c6] at H
       have c6b0:decide (x5_1 < (l1.length:Int))=true:=decide_eq_true c6
       clear c6
       by_cases c7:((rdOf false l0 x5_1) != (rdOf false l1 x5_1))=true
       ·rw [if_pos c7] at H
        have c7b0:((rdOf false l0 x5_1) != (rdOf false l1 x5_1))=true:=c7
        (try (have c7b1:decide ((rdOf false l0 x5_1)=(rdOf false l1 x5_1))=false:=by simpa using c7))
        (try (have c7b2:((rdOf false l0 x5_1) == (rdOf false l1 x5_1))=false:=by simpa using c7))
        (try (have c7b3:¬ ((rdOf false l0 x5_1)=(rdOf false l1 x5_1)):=by simpa using c7))
        clear c7
        obtain rfl:=Option.some.inj H
        have p277:0≤(x5_1:Int):=of_decide_eq_true (by first|(with_reducible assumption)|assumption)
        have q277:x5_1 < (l0.length:Int):=of_decide_eq_true (by first|(with_reducible assumption)|assumption)
        obtain ⟨ad277,e277,hx277_0⟩:=Kd.at_bool HR0.out x5_1 p277 q277
        cases e277
        replace p277:=eq_true p277
        replace q277:=eq_true q277
        have p278:0≤(x5_1:Int):=of_decide_eq_true (by first|(with_reducible assumption)|assumption)
        have q278:x5_1 < (l1.length:Int):=of_decide_eq_true (by first|(with_reducible assumption)|assumption)
        obtain ⟨ad278,e278,hx278_0⟩:=Kd.at_bool HR1.out x5_1 p278 q278
        cases e278
        replace p278:=eq_true p278
        replace q278:=eq_true q278
        go_wp2
        repeat (go_quiet (fail);try go_wp2)
        go_ret
        exact ⟨by first|rfl|(simp;done)|(simp [*];done),by repeat (first|exact Drawn0.refl _|apply Drawn0.step)⟩
       ·rw [if_neg c7] at H
        have c7b0:((rdOf false l0 x5_1) != (rdOf false l1 x5_1))=false:=by simpa using c7
        (try (have c7b1:decide ((rdOf false l0 x5_1)=(rdOf false l1 x5_1))=true:=by simpa using c7))
        (try (have c7b2:((rdOf false l0 x5_1) == (rdOf false l1 x5_1))=true:=by simpa using c7))
        clear c7
        have H':=zm H
        clear H
        have p277:0≤(x5_1:Int):=of_decide_eq_true (by first|(with_reducible assumption)|assumption)
        have q277:x5_1 < (l0.length:Int):=of_decide_eq_true (by first|(with_reducible assumption)|assumption)
        obtain ⟨ad277,e277,hx277_0⟩:=Kd.at_bool HR0.out x5_1 p277 q277
        cases e277
        replace p277:=eq_true p277
        replace q277:=eq_true q277
        have p278:0≤(x5_1:Int):=of_decide_eq_true (by first|(with_reducible assumption)|assumption)
        have q278:x5_1 < (l1.length:Int):=of_decide_eq_true (by first|(with_reducible assumption)|assumption)
        obtain ⟨ad278,e278,hx278_0⟩:=Kd.at_bool HR1.out x5_1 p278 q278
        cases e278
        replace p278:=eq_true p278
        replace q278:=eq_true q278
        go_wp2
        repeat (go_quiet (fail);try go_wp2)
        go_roundg k1
        case measure=>have:=HK1.out;omega
        case rel=>exact ⟨(wrap64 (x5_1 + 1)),(by first|rfl|(simp;done)|(simp [*];done)),H',⟨by have:=HK1.out;omega⟩,by repeat (first|exact Drawn0.refl _|apply Drawn0.step)⟩
      ·rw [if_neg c6] at H
       exact absurd H (by simp)
     ·rw [if_neg c5] at H
      exact absurd H (by simp)
    ·rw [if_neg c4] at H
     have c4b0:decide (x5_1 < (l0.length:Int))=false:=decide_eq_false c4
     clear c4
     obtain rfl:=Option.some.inj H
     go_wp2
     repeat (go_quiet (fail);try go_wp2)
     go_ret
     exact ⟨by first|rfl|(simp;done)|(simp [*];done),by repeat (first|exact Drawn0.refl _|apply Drawn0.step)⟩
 ·rw [if_neg c3] at H
  have c3b0:((l0.length:Int) == (l1.length:Int))=false:=beq_eq_false_iff_ne.mpr c3
  have c3b1:((l0.length:Int) != (l1.length:Int))=true:=bne_iff_ne.mpr c3
  have c3b2:(l0.length == l1.length)=false:=by first|simpa using c3|(simp at c3 ⊢;omega)
  obtain rfl:=Option.some.inj H
  go_enter Try.func53,Try.ntmps53
  go_wp2
  repeat (go_quiet (fail);try go_wp2)
  go_ret
  exact ⟨by first|rfl|(simp;done)|(simp [*];done),by repeat (first|exact Drawn0.refl _|apply Drawn0.step)⟩
end Go.Proofs.Ytkhbmgclklmimaa.Print
end
section
namespace Go.Proofs.Ytkhbmgclklmimaa.Print
open Go.RowKit Go.Proofs.YtkhbmgclklmimaaW.PrintWords Go.Proofs.YtkhbmgclklmimaaW.PrintLast Go.Proofs.YtkhbmgclklmimaaW.PrintMore
attribute [local go_sem] max2_int min2_int max_two min_two max_three min_three max_four min_four   -- for this text's walks alone
attribute [local go_sem ↓] Go.Proofs.Ytkhbmgclklmimaa.Sem.isSome_setCell
attribute [local go_sem] Go.Instr.field Go.asAgg
set_option linter.unusedVariables false
set_option linter.unusedSimpArgs false
def slipwayref06_nums.l0:Nat → List Int → List Int → Int → Option (Bool)
 | 0,_,_,_=>none
 | k + 1,x0,x1,x5=>if x5 < (x0.length:Int) then (if 0≤x5 then (if x5 < (x1.length:Int) then (if (rd x0 x5)=(rd x1 x5) then (slipwayref06_nums.l0 k x0 x1 (wrap64 (x5 + 1))) else (some false)) else (none)) else (none)) else (some true)
def slipwayref06_nums.f (k:Nat) (l0:List Int) (l1:List Int):Option (Bool):=if (l0.length:Int)=(l1.length:Int) then (slipwayref06_nums.l0 k l0 l1 0) else (some false)
set_option maxHeartbeats 8000000 in
set_option maxRecDepth 100000 in
theorem slipwayref06_nums.calls (k:Nat) (A0:Option Addr) (c0:Nat) (l0:List Int) (A1:Option Addr) (c1:Nat) (l1:List Int) (r:Bool) (w:World) (hr0:Kd.C (Kd.int .i64) w A0 l0.length l0) (hc0:l0.length≤c0) (hr1:Kd.C (Kd.int .i64) w A1 l1.length l1) (hc1:l1.length≤c1) (h:slipwayref06_nums.f k l0 l1=some r) :
  Calls Try.prog 54 #[.slice A0 l0.length c0,.slice A1 l1.length c1] w fun e w'=>e=.returned (.bool r)∧Drawn0 w w':=by
 have HR0:=zm hr0
 have HC0:=zm hc0
 clear hr0 hc0
 have HR1:=zm hr1
 have HC1:=zm hc1
 clear hr1 hc1
 have H:(if (l0.length:Int)=(l1.length:Int) then (slipwayref06_nums.l0 k l0 l1 0) else (some false))=some r:=h
 clear h
 by_cases c3:(l0.length:Int)=(l1.length:Int)
 ·rw [if_pos c3] at H
  have c3b0:((l0.length:Int) == (l1.length:Int))=true:=beq_iff_eq.mpr c3
  have c3b1:((l0.length:Int) != (l1.length:Int))=false:=bne_eq_false_iff_eq.mpr c3
  have c3b2:(l0.length == l1.length)=true:=by first|simpa using c3|(simp at c3 ⊢;omega)
  clear c3
  have H':=zm H
  clear H
  go_enter Try.func54,Try.ntmps54
  go_wp2
  repeat (go_quiet (fail);try go_wp2)
  go_loopg [5] k (fun kq v5 w'=>∃ (x5_1:Int),v5=.int .i64 x5_1∧Aside0 (slipwayref06_nums.l0 kq l0 l1 x5_1=some r)∧Aside0 (kq≤k)∧Drawn0 w w')
  case atStart=>exact ⟨(0),(by first|rfl|(simp;done)|(simp [*];done)),H',⟨Nat.le_refl _⟩,by repeat (first|exact Drawn0.refl _|apply Drawn0.step)⟩
  case round =>
   clear H'
   try clear c1
   try clear p2
   try clear c3
   try clear c3b0
   try clear c3b1
   try clear c3b2
   obtain ⟨x5_1,rfl,HA,HK1,⟨m1,rfl⟩⟩:=hrel
   cases gk with
   | zero=>exact absurd HA.out (by simp [slipwayref06_nums.l0])
   | succ k1 =>
    have H:=HA.out
    clear HA
    simp only [slipwayref06_nums.l0] at H
    by_cases c4:x5_1 < (l0.length:Int)
    ·rw [if_pos c4] at H
     have c4b0:decide (x5_1 < (l0.length:Int))=true:=decide_eq_true c4
     clear c4
     by_cases c5:0≤x5_1
     ·rw [if_pos c5] at H
      have c5b0:decide (0≤x5_1)=true:=decide_eq_true c5
      clear c5
      by_cases c6:x5_1 < (l1.length:Int)
      ·rw [if_pos c6] at H
       have c6b0:decide (x5_1 < (l1.length:Int))=true:=decide_eq_true c6
       clear c6
       by_cases c7:(rd l0 x5_1)=(rd l1 x5_1)
       ·rw [if_pos c7] at H
        have c7b0:((rd l0 x5_1) == (rd l1 x5_1))=true:=beq_iff_eq.mpr c7
        have c7b1:((rd l0 x5_1) != (rd l1 x5_1))=false:=bne_eq_false_iff_eq.mpr c7
        clear c7
        have H':=zm H
        clear H
        have p279:0≤(x5_1:Int):=of_decide_eq_true (by first|(with_reducible assumption)|assumption)
        have q279:x5_1 < (l0.length:Int):=of_decide_eq_true (by first|(with_reducible assumption)|assumption)
        obtain ⟨ad279,e279,hx279_0⟩:=Kd.at_int HR0.out x5_1 p279 q279
        cases e279
        replace p279:=eq_true p279
        replace q279:=eq_true q279
        have p280:0≤(x5_1:Int):=of_decide_eq_true (by first|(with_reducible assumption)|assumption)
        have q280:x5_1 < (l1.length:Int):=of_decide_eq_true (by first|(with_reducible assumption)|assumption)
        obtain ⟨ad280,e280,hx280_0⟩:=Kd.at_int HR1.out x5_1 p280 q280
        cases e280
        replace p280:=eq_true p280
        replace q280:=eq_true q280
        go_wp2
        repeat (go_quiet (fail);try go_wp2)
        go_roundg k1
        case measure=>have:=HK1.out;omega
        case rel=>exact ⟨(wrap64 (x5_1 + 1)),(by first|rfl|(simp;done)|(simp [*];done)),H',⟨by have:=HK1.out;omega⟩,by repeat (first|exact Drawn0.refl _|apply Drawn0.step)⟩
       ·rw [if_neg c7] at H
        have c7b0:((rd l0 x5_1) == (rd l1 x5_1))=false:=beq_eq_false_iff_ne.mpr c7
        have c7b1:((rd l0 x5_1) != (rd l1 x5_1))=true:=bne_iff_ne.mpr c7
        obtain rfl:=Option.some.inj H
        have p279:0≤(x5_1:Int):=of_decide_eq_true (by first|(with_reducible assumption)|assumption)
        have q279:x5_1 < (l0.length:Int):=of_decide_eq_true (by first|(with_reducible assumption)|assumption)
        obtain ⟨ad279,e279,hx279_0⟩:=Kd.at_int HR0.out x5_1 p279 q279
        cases e279
        replace p279:=eq_true p279
        replace q279:=eq_true q279
        have p280:0≤(x5_1:Int):=of_decide_eq_true (by first|(with_reducible assumption)|assumption)
        have q280:x5_1 < (l1.length:Int):=of_decide_eq_true (by first|(with_reducible assumption)|assumption)
        obtain ⟨ad280,e280,hx280_0⟩:=Kd.at_int HR1.out x5_1 p280 q280
        cases e280
        replace p280:=eq_true p280
        replace q280:=eq_true q280
        go_wp2
        repeat (go_quiet (fail);try go_wp2)
        go_ret
        exact ⟨by first|rfl|(simp;done)|(simp [*];done),by repeat (first|exact Drawn0.refl _|apply Drawn0.step)⟩
      ·rw [if_neg c6] at H
       exact absurd H (by simp)
     ·rw [if_neg c5] at H
      exact absurd H (by simp)
    ·rw [if_neg c4] at H
     have c4b0:decide (x5_1 < (l0.length:Int))=false:=decide_eq_false c4
     clear c4
     obtain rfl:=Option.some.inj H
     go_wp2
     repeat (go_quiet (fail);try go_wp2)
     go_ret
     exact ⟨by first|rfl|(simp;done)|(simp [*];done),by repeat (first|exact Drawn0.refl _|apply Drawn0.step)⟩
 ·rw [if_neg c3] at H
  have c3b0:((l0.length:Int) == (l1.length:Int))=false:=beq_eq_false_iff_ne.mpr c3
  have c3b1:((l0.length:Int) != (l1.length:Int))=true:=bne_iff_ne.mpr c3
  have c3b2:(l0.length == l1.length)=false:=by first|simpa using c3|(simp at c3 ⊢;omega)
  obtain rfl:=Option.some.inj H
  go_enter Try.func54,Try.ntmps54
  go_wp2
  repeat (go_quiet (fail);try go_wp2)
  go_ret
  exact ⟨by first|rfl|(simp;done)|(simp [*];done),by repeat (first|exact Drawn0.refl _|apply Drawn0.step)⟩
end Go.Proofs.Ytkhbmgclklmimaa.Print
end
section
namespace Go.Proofs.Ytkhbmgclklmimaa.Print
open Go.RowKit Go.Proofs.YtkhbmgclklmimaaW.PrintWords Go.Proofs.YtkhbmgclklmimaaW.PrintLast Go.Proofs.YtkhbmgclklmimaaW.PrintMore
attribute [local go_sem] max2_int min2_int max_two min_two max_three min_three max_four min_four   -- for this text's walks alone
attribute [local go_sem ↓] Go.Proofs.Ytkhbmgclklmimaa.Sem.isSome_setCell
attribute [local go_sem] Go.Instr.field Go.asAgg
set_option linter.unusedVariables false
set_option linter.unusedSimpArgs false
theorem eqA55 (d:Nat) (w:World) (x0 y0:Int) (x1 y1:Int) (x2 y2:Int) :
  (Op.equalIn (d + 2) 55 (.agg #[.int .i64 x0,.int .i64 x1,.int .i64 x2]) (.agg #[.int .i64 y0,.int .i64 y1,.int .i64 y2])).run Try.prog w=.ok (x0 == y0 && (x1 == y1 && (x2 == y2))) w:=by
 refine eqA_of Try.underlying55 (by kernel_rfl) ?_
 refine eqf_cons (by rfl) (by go_simp;rfl) (by go_simp;rfl) (by go_simp) ?_
 refine eqf_cons (by rfl) (by go_simp;rfl) (by go_simp;rfl) (by go_simp) ?_
 exact eqf_last (by rfl) (by go_simp;rfl) (by go_simp;rfl) (by go_simp)
end Go.Proofs.Ytkhbmgclklmimaa.Print
end
section
namespace Go.Proofs.Ytkhbmgclklmimaa.Print
open Go.RowKit Go.Proofs.YtkhbmgclklmimaaW.PrintWords Go.Proofs.YtkhbmgclklmimaaW.PrintLast Go.Proofs.YtkhbmgclklmimaaW.PrintMore
attribute [local go_sem] max2_int min2_int max_two min_two max_three min_three max_four min_four   -- for this text's walks alone
attribute [local go_sem ↓] Go.Proofs.Ytkhbmgclklmimaa.Sem.isSome_setCell
attribute [local go_sem] Go.Instr.field Go.asAgg
set_option linter.unusedVariables false
set_option linter.unusedSimpArgs false
def slipwayref06_may.j0:Nat → Bool → Int → Int → Int → Option (Bool)
 | 0,_,_,_,_=>none
 | k + 1,x3,x346000,x346001,x346002=>if x346000=1 then (if x3=true then (some (x346002 == 0)) else (some false)) else (if x346000=2 then (if x3=true then (if x346002 ≥ 0 then (some (decide (x346002≤16777215))) else (some false)) else (some false)) else (if x346000=3 then (if x346001=0 then (if x346002 ≥ 0 then (some (decide (x346002≤1152921504606846976))) else (some false)) else (some false)) else (some false)))
def slipwayref06_may.f (k:Nat) (a0_0:Int) (a0_1:Int) (a0_2:Int):Option (Bool):=if a0_1 ≥ 0 then (slipwayref06_may.j0 k (decide (a0_1 < 256)) a0_0 a0_1 a0_2) else (slipwayref06_may.j0 k false a0_0 a0_1 a0_2)
set_option maxHeartbeats 8000000 in
set_option maxRecDepth 100000 in
theorem slipwayref06_may.calls (k:Nat) (a0_0:Int) (a0_1:Int) (a0_2:Int) (r:Bool) (w:World) (h:slipwayref06_may.f k a0_0 a0_1 a0_2=some r) :
  Calls Try.prog 63 #[.agg #[.int .i64 a0_0,.int .i64 a0_1,.int .i64 a0_2]] w fun e w'=>e=.returned (.bool r)∧Below w.heap.size w w':=by
 have hu55:=Try.underlying55
 have HB:=zm (Below.refl w.heap.size w)
 have H:(if a0_1 ≥ 0 then (slipwayref06_may.j0 k (decide (a0_1 < 256)) a0_0 a0_1 a0_2) else (slipwayref06_may.j0 k false a0_0 a0_1 a0_2))=some r:=h
 clear h
 have HC2:=zm H
 clear H
 go_enter Try.func63,Try.ntmps63
 go_upto_region 1 with (first|((with_reducible refine gate_dst (N:=1) rfl ?_);refine box_event ?hg (N:=1) ?hd (cs:=#[.int .i64 a0_0,.int .i64 a0_1,.int .i64 a0_2]) (t:=55) ?hr ?_;(case hd=>rfl);(case hg=>rfl);(case hr=>first|(go_simp;done)|(go_simp;rfl));intro gb345 hg w3 hbox hb;have n0_:=zm (below_step (by repeat (first|(with_reducible first|exact HB.out|apply zlA|apply zlN|apply zlD)|exact HB.out)) hb);have n1_:=zm (hbox);have n2_:=zm ((by rw [hg];exact (below_size (by repeat (first|(with_reducible first|exact HB.out|apply zlA|apply zlN|apply zlD)|exact HB.out))):w.heap.size≤gb345));have n3_:=zm ((by rw [hg];exact (below_size (by repeat (first|(with_reducible first|exact HB.out|apply zlA|apply zlN|apply zlD)|exact HB.out))):w.heap.size≤gb345));clear HB;have HB:=n0_;have BK345:=n1_;have GW345:=n2_;have GE345:=n3_;clear n0_ n1_ n2_ n3_;clear hb hbox hg))
 (try simp only [Act.put,List.setIfInBounds_toArray,List.set_cons_zero,List.set_cons_succ])
 go_cut [3] (fun v3 wc=>∃ (kq:Nat) (x3_1:Bool),v3=.bool x3_1∧Aside0 (slipwayref06_may.j0 kq x3_1 a0_0 a0_1 a0_2=some r)∧Aside0 (kq≤k)∧Aside0 (wc.heap[gb345]?=some (.cells #[.int .i64 a0_0,.int .i64 a0_1,.int .i64 a0_2] 55 (0,0)))∧Aside0 (Below w.heap.size w wc))
 case first =>
  have H:=HC2.out
  clear HC2
  by_cases c4:a0_1 ≥ 0
  ·rw [if_pos c4] at H
   have c4b0:decide (0≤a0_1)=true:=decide_eq_true c4
   clear c4
   (first|rw [c4b0]|(simp only [i64_w,i32_w];rw [c4b0])|skip)
   have H':=zm H
   clear H
   have hcz5_0:w3.cell? ⟨gb345,0,none⟩=some (.int .i64 a0_0):=(blk_cell BK345.out 0).trans rfl
   have hcz5_1:w3.cell? ⟨gb345,1,none⟩=some (.int .i64 a0_1):=(blk_cell BK345.out 1).trans rfl
   have hcz5_2:w3.cell? ⟨gb345,2,none⟩=some (.int .i64 a0_2):=(blk_cell BK345.out 2).trans rfl
   have hfz5_0:=blk_frozen BK345.out 0
   have hfz5_1:=blk_frozen BK345.out 1
   have hfz5_2:=blk_frozen BK345.out 2
   go_wp2
   go_meet
   case rel=>exact ⟨_,(decide (a0_1 < 256)),(by first|rfl|(simp;done)|(simp [*];done)),H',⟨by first|omega|exact Nat.le_refl _⟩,⟨by (with_reducible repeat (first|refine zbN ?_ _|refine zbD ?_|refine zbA ?_ _));exact BK345.out⟩,⟨by repeat (first|(with_reducible first|exact HB.out|apply zlA|apply zlN|apply zlD|refine zlS ?_ GE345.out)|exact HB.out)⟩⟩
  ·rw [if_neg c4] at H
   have c4b0:decide (0≤a0_1)=false:=decide_eq_false c4
   clear c4
   (first|rw [c4b0]|(simp only [i64_w,i32_w];rw [c4b0])|skip)
   have H':=zm H
   clear H
   have hcz6_0:w3.cell? ⟨gb345,0,none⟩=some (.int .i64 a0_0):=(blk_cell BK345.out 0).trans rfl
   have hcz6_1:w3.cell? ⟨gb345,1,none⟩=some (.int .i64 a0_1):=(blk_cell BK345.out 1).trans rfl
   have hcz6_2:w3.cell? ⟨gb345,2,none⟩=some (.int .i64 a0_2):=(blk_cell BK345.out 2).trans rfl
   have hfz6_0:=blk_frozen BK345.out 0
   have hfz6_1:=blk_frozen BK345.out 1
   have hfz6_2:=blk_frozen BK345.out 2
   go_wp2
   go_meet
   case rel=>exact ⟨_,(false),(by first|rfl|(simp;done)|(simp [*];done)),H',⟨by first|omega|exact Nat.le_refl _⟩,⟨by (with_reducible repeat (first|refine zbN ?_ _|refine zbD ?_|refine zbA ?_ _));exact BK345.out⟩,⟨by repeat (first|(with_reducible first|exact HB.out|apply zlA|apply zlN|apply zlD|refine zlS ?_ GE345.out)|exact HB.out)⟩⟩
 case rest =>
  clear HC2
  try clear p2
  try clear c4
  try clear c4b0
  try clear c6
  try clear hcz5_0
  try clear hcz5_1
  try clear hcz5_2
  try clear hcz6_0
  try clear hcz6_1
  try clear hcz6_2
  try clear hfz5_0
  try clear hfz5_1
  try clear hfz5_2
  try clear hfz6_0
  try clear hfz6_1
  try clear hfz6_2
  obtain ⟨kq,x3_1,rfl,HA,HJ1,BK345,HB⟩:=hcut
  cases kq with
  | zero=>exact absurd HA.out (by simp [slipwayref06_may.j0])
  | succ kj1 =>
   have H:=HA.out
   clear HA
   simp only [slipwayref06_may.j0] at H
   by_cases c7:a0_0=1
   ·rw [if_pos c7] at H
    have c7b0:(a0_0 == 1)=true:=beq_iff_eq.mpr c7
    have c7b1:(a0_0 != 1)=false:=bne_eq_false_iff_eq.mpr c7
    clear c7
    by_cases c8:x3_1=true
    ·subst c8
     have H1:(some (a0_2 == 0))=some r:=by rw [if_pos rfl] at H;exact H
     clear H
     have H:=H1
     clear H1
     obtain rfl:=Option.some.inj H
     have hcz9_0:wc.cell? ⟨gb345,0,none⟩=some (.int .i64 a0_0):=(blk_cell BK345.out 0).trans rfl
     have hcz9_1:wc.cell? ⟨gb345,1,none⟩=some (.int .i64 a0_1):=(blk_cell BK345.out 1).trans rfl
     have hcz9_2:wc.cell? ⟨gb345,2,none⟩=some (.int .i64 a0_2):=(blk_cell BK345.out 2).trans rfl
     have hfz9_0:=blk_frozen BK345.out 0
     have hfz9_1:=blk_frozen BK345.out 1
     have hfz9_2:=blk_frozen BK345.out 2
     go_wp2
     go_ret
     exact ⟨by first|rfl|(simp [errW_none,errW_some] <;> rfl)|(simp [*,errW_none,errW_some] <;> rfl),by repeat (first|(with_reducible first|exact HB.out|apply zlA|apply zlN|apply zlD|refine zlS ?_ GE345.out)|exact HB.out)⟩
    ·replace c8:=Bool.eq_false_iff.mpr c8
     subst c8
     have H1:(some false)=some r:=by rw [if_neg (show ¬ (false=true) by decide)] at H;exact H
     clear H
     have H:=H1
     clear H1
     obtain rfl:=Option.some.inj H
     have hcz10_0:wc.cell? ⟨gb345,0,none⟩=some (.int .i64 a0_0):=(blk_cell BK345.out 0).trans rfl
     have hcz10_1:wc.cell? ⟨gb345,1,none⟩=some (.int .i64 a0_1):=(blk_cell BK345.out 1).trans rfl
     have hcz10_2:wc.cell? ⟨gb345,2,none⟩=some (.int .i64 a0_2):=(blk_cell BK345.out 2).trans rfl
     have hfz10_0:=blk_frozen BK345.out 0
     have hfz10_1:=blk_frozen BK345.out 1
     have hfz10_2:=blk_frozen BK345.out 2
     go_wp2
     go_ret
     exact ⟨by first|rfl|(simp [errW_none,errW_some] <;> rfl)|(simp [*,errW_none,errW_some] <;> rfl),by repeat (first|(with_reducible first|exact HB.out|apply zlA|apply zlN|apply zlD|refine zlS ?_ GE345.out)|exact HB.out)⟩
   ·rw [if_neg c7] at H
    have c7b0:(a0_0 == 1)=false:=beq_eq_false_iff_ne.mpr c7
    have c7b1:(a0_0 != 1)=true:=bne_iff_ne.mpr c7
    by_cases c11:a0_0=2
    ·rw [if_pos c11] at H
     have c11b0:(a0_0 == 2)=true:=beq_iff_eq.mpr c11
     have c11b1:(a0_0 != 2)=false:=bne_eq_false_iff_eq.mpr c11
     clear c11
     by_cases c12:x3_1=true
     ·subst c12
      have H1:(if a0_2 ≥ 0 then (some (decide (a0_2≤16777215))) else (some false))=some r:=by rw [if_pos rfl] at H;exact H
      clear H
      have H:=H1
      clear H1
      by_cases c13:a0_2 ≥ 0
      ·rw [if_pos c13] at H
       have c13b0:decide (0≤a0_2)=true:=decide_eq_true c13
       clear c13
       obtain rfl:=Option.some.inj H
       have hcz14_0:wc.cell? ⟨gb345,0,none⟩=some (.int .i64 a0_0):=(blk_cell BK345.out 0).trans rfl
       have hcz14_1:wc.cell? ⟨gb345,1,none⟩=some (.int .i64 a0_1):=(blk_cell BK345.out 1).trans rfl
       have hcz14_2:wc.cell? ⟨gb345,2,none⟩=some (.int .i64 a0_2):=(blk_cell BK345.out 2).trans rfl
       have hfz14_0:=blk_frozen BK345.out 0
       have hfz14_1:=blk_frozen BK345.out 1
       have hfz14_2:=blk_frozen BK345.out 2
       go_wp2
       go_ret
       exact ⟨by first|rfl|(simp [errW_none,errW_some] <;> rfl)|(simp [*,errW_none,errW_some] <;> rfl),by repeat (first|(with_reducible first|exact HB.out|apply zlA|apply zlN|apply zlD|refine zlS ?_ GE345.out)|exact HB.out)⟩
      ·rw [if_neg c13] at H
       have c13b0:decide (0≤a0_2)=false:=decide_eq_false c13
       clear c13
       obtain rfl:=Option.some.inj H
       have hcz15_0:wc.cell? ⟨gb345,0,none⟩=some (.int .i64 a0_0):=(blk_cell BK345.out 0).trans rfl
       have hcz15_1:wc.cell? ⟨gb345,1,none⟩=some (.int .i64 a0_1):=(blk_cell BK345.out 1).trans rfl
       have hcz15_2:wc.cell? ⟨gb345,2,none⟩=some (.int .i64 a0_2):=(blk_cell BK345.out 2).trans rfl
       have hfz15_0:=blk_frozen BK345.out 0
       have hfz15_1:=blk_frozen BK345.out 1
       have hfz15_2:=blk_frozen BK345.out 2
       go_wp2
       go_ret
       exact ⟨by first|rfl|(simp [errW_none,errW_some] <;> rfl)|(simp [*,errW_none,errW_some] <;> rfl),by repeat (first|(with_reducible first|exact HB.out|apply zlA|apply zlN|apply zlD|refine zlS ?_ GE345.out)|exact HB.out)⟩
     ·replace c12:=Bool.eq_false_iff.mpr c12
      subst c12
      have H1:(some false)=some r:=by rw [if_neg (show ¬ (false=true) by decide)] at H;exact H
      clear H
      have H:=H1
      clear H1
      obtain rfl:=Option.some.inj H
      have hcz16_0:wc.cell? ⟨gb345,0,none⟩=some (.int .i64 a0_0):=(blk_cell BK345.out 0).trans rfl
      have hcz16_1:wc.cell? ⟨gb345,1,none⟩=some (.int .i64 a0_1):=(blk_cell BK345.out 1).trans rfl
      have hcz16_2:wc.cell? ⟨gb345,2,none⟩=some (.int .i64 a0_2):=(blk_cell BK345.out 2).trans rfl
      have hfz16_0:=blk_frozen BK345.out 0
      have hfz16_1:=blk_frozen BK345.out 1
      have hfz16_2:=blk_frozen BK345.out 2
      go_wp2
      go_ret
      exact ⟨by first|rfl|(simp [errW_none,errW_some] <;> rfl)|(simp [*,errW_none,errW_some] <;> rfl),by repeat (first|(with_reducible first|exact HB.out|apply zlA|apply zlN|apply zlD|refine zlS ?_ GE345.out)|exact HB.out)⟩
    ·rw [if_neg c11] at H
     have c11b0:(a0_0 == 2)=false:=beq_eq_false_iff_ne.mpr c11
     have c11b1:(a0_0 != 2)=true:=bne_iff_ne.mpr c11
     by_cases c17:a0_0=3
     ·rw [if_pos c17] at H
      have c17b0:(a0_0 == 3)=true:=beq_iff_eq.mpr c17
      have c17b1:(a0_0 != 3)=false:=bne_eq_false_iff_eq.mpr c17
      clear c17
      by_cases c18:a0_1=0
      ·rw [if_pos c18] at H
       have c18b0:(a0_1 == 0)=true:=beq_iff_eq.mpr c18
       have c18b1:(a0_1 != 0)=false:=bne_eq_false_iff_eq.mpr c18
       clear c18
       by_cases c19:a0_2 ≥ 0
       ·rw [if_pos c19] at H
        have c19b0:decide (0≤a0_2)=true:=decide_eq_true c19
        clear c19
        obtain rfl:=Option.some.inj H
        have hcz20_0:wc.cell? ⟨gb345,0,none⟩=some (.int .i64 a0_0):=(blk_cell BK345.out 0).trans rfl
        have hcz20_1:wc.cell? ⟨gb345,1,none⟩=some (.int .i64 a0_1):=(blk_cell BK345.out 1).trans rfl
        have hcz20_2:wc.cell? ⟨gb345,2,none⟩=some (.int .i64 a0_2):=(blk_cell BK345.out 2).trans rfl
        have hfz20_0:=blk_frozen BK345.out 0
        have hfz20_1:=blk_frozen BK345.out 1
        have hfz20_2:=blk_frozen BK345.out 2
        go_wp2
        go_ret
        exact ⟨by first|rfl|(simp [errW_none,errW_some] <;> rfl)|(simp [*,errW_none,errW_some] <;> rfl),by repeat (first|(with_reducible first|exact HB.out|apply zlA|apply zlN|apply zlD|refine zlS ?_ GE345.out)|exact HB.out)⟩
       ·rw [if_neg c19] at H
        have c19b0:decide (0≤a0_2)=false:=decide_eq_false c19
        clear c19
        obtain rfl:=Option.some.inj H
        have hcz21_0:wc.cell? ⟨gb345,0,none⟩=some (.int .i64 a0_0):=(blk_cell BK345.out 0).trans rfl
        have hcz21_1:wc.cell? ⟨gb345,1,none⟩=some (.int .i64 a0_1):=(blk_cell BK345.out 1).trans rfl
        have hcz21_2:wc.cell? ⟨gb345,2,none⟩=some (.int .i64 a0_2):=(blk_cell BK345.out 2).trans rfl
        have hfz21_0:=blk_frozen BK345.out 0
        have hfz21_1:=blk_frozen BK345.out 1
        have hfz21_2:=blk_frozen BK345.out 2
        go_wp2
        go_ret
        exact ⟨by first|rfl|(simp [errW_none,errW_some] <;> rfl)|(simp [*,errW_none,errW_some] <;> rfl),by repeat (first|(with_reducible first|exact HB.out|apply zlA|apply zlN|apply zlD|refine zlS ?_ GE345.out)|exact HB.out)⟩
      ·rw [if_neg c18] at H
       have c18b0:(a0_1 == 0)=false:=beq_eq_false_iff_ne.mpr c18
       have c18b1:(a0_1 != 0)=true:=bne_iff_ne.mpr c18
       obtain rfl:=Option.some.inj H
       have hcz22_0:wc.cell? ⟨gb345,0,none⟩=some (.int .i64 a0_0):=(blk_cell BK345.out 0).trans rfl
       have hcz22_1:wc.cell? ⟨gb345,1,none⟩=some (.int .i64 a0_1):=(blk_cell BK345.out 1).trans rfl
       have hcz22_2:wc.cell? ⟨gb345,2,none⟩=some (.int .i64 a0_2):=(blk_cell BK345.out 2).trans rfl
       have hfz22_0:=blk_frozen BK345.out 0
       have hfz22_1:=blk_frozen BK345.out 1
       have hfz22_2:=blk_frozen BK345.out 2
       go_wp2
       go_ret
       exact ⟨by first|rfl|(simp [errW_none,errW_some] <;> rfl)|(simp [*,errW_none,errW_some] <;> rfl),by repeat (first|(with_reducible first|exact HB.out|apply zlA|apply zlN|apply zlD|refine zlS ?_ GE345.out)|exact HB.out)⟩
     ·rw [if_neg c17] at H
      have c17b0:(a0_0 == 3)=false:=beq_eq_false_iff_ne.mpr c17
      have c17b1:(a0_0 != 3)=true:=bne_iff_ne.mpr c17
      obtain rfl:=Option.some.inj H
      have hcz23_0:wc.cell? ⟨gb345,0,none⟩=some (.int .i64 a0_0):=(blk_cell BK345.out 0).trans rfl
      have hcz23_1:wc.cell? ⟨gb345,1,none⟩=some (.int .i64 a0_1):=(blk_cell BK345.out 1).trans rfl
      have hcz23_2:wc.cell? ⟨gb345,2,none⟩=some (.int .i64 a0_2):=(blk_cell BK345.out 2).trans rfl
      have hfz23_0:=blk_frozen BK345.out 0
      have hfz23_1:=blk_frozen BK345.out 1
      have hfz23_2:=blk_frozen BK345.out 2
      go_wp2
      go_ret
      exact ⟨by first|rfl|(simp [errW_none,errW_some] <;> rfl)|(simp [*,errW_none,errW_some] <;> rfl),by repeat (first|(with_reducible first|exact HB.out|apply zlA|apply zlN|apply zlD|refine zlS ?_ GE345.out)|exact HB.out)⟩
end Go.Proofs.Ytkhbmgclklmimaa.Print
end
section
namespace Go.Proofs.Ytkhbmgclklmimaa.Print
open Go.RowKit Go.Proofs.YtkhbmgclklmimaaW.PrintWords Go.Proofs.YtkhbmgclklmimaaW.PrintLast Go.Proofs.YtkhbmgclklmimaaW.PrintMore
attribute [local go_sem] max2_int min2_int max_two min_two max_three min_three max_four min_four   -- for this text's walks alone
attribute [local go_sem ↓] Go.Proofs.Ytkhbmgclklmimaa.Sem.isSome_setCell
attribute [local go_sem] Go.Instr.field Go.asAgg
set_option linter.unusedVariables false
set_option linter.unusedSimpArgs false
attribute [local go_sem high] eqA55
def slipwayref06_SameRecords.l0:Nat → List (S55) → List (S55) → Int → Option (Bool)
 | 0,_,_,_=>none
 | k + 1,x0,x1,x5=>if x5 < (x0.length:Int) then (if 0≤x5 then (if x5 < (x1.length:Int) then (if (!(((rd_T55 x0 x5).f0) == ((rd_T55 x1 x5).f0)) || (!(((rd_T55 x0 x5).f1) == ((rd_T55 x1 x5).f1)) || (!(((rd_T55 x0 x5).f2) == ((rd_T55 x1 x5).f2)))))=true then (some false) else (slipwayref06_SameRecords.l0 k x0 x1 (wrap64 (x5 + 1)))) else (none)) else (none)) else (some true)
def slipwayref06_SameRecords.f (k:Nat) (l0:List (S55)) (l1:List (S55)):Option (Bool):=if (l0.length:Int)=(l1.length:Int) then (slipwayref06_SameRecords.l0 k l0 l1 0) else (some false)
set_option maxHeartbeats 8000000 in
set_option maxRecDepth 100000 in
theorem slipwayref06_SameRecords.calls (k:Nat) (A0:Option Addr) (c0:Nat) (l0:List (S55)) (A1:Option Addr) (c1:Nat) (l1:List (S55)) (r:Bool) (w:World) (hr0:Kd.C k55 w A0 l0.length l0) (hc0:l0.length≤c0) (hr1:Kd.C k55 w A1 l1.length l1) (hc1:l1.length≤c1) (h:slipwayref06_SameRecords.f k l0 l1=some r) :
  Calls Try.prog 26 #[.slice A0 l0.length c0,.slice A1 l1.length c1] w fun e w'=>e=.returned (.bool r)∧Drawn0 w w':=by
 have hu55:=Try.underlying55
 have HR0:=zm hr0
 have HC0:=zm hc0
 clear hr0 hc0
 have HR1:=zm hr1
 have HC1:=zm hc1
 clear hr1 hc1
 have H:(if (l0.length:Int)=(l1.length:Int) then (slipwayref06_SameRecords.l0 k l0 l1 0) else (some false))=some r:=h
 clear h
 by_cases c3:(l0.length:Int)=(l1.length:Int)
 ·rw [if_pos c3] at H
  have c3b0:((l0.length:Int) == (l1.length:Int))=true:=beq_iff_eq.mpr c3
  have c3b1:((l0.length:Int) != (l1.length:Int))=false:=bne_eq_false_iff_eq.mpr c3
  have c3b2:(l0.length == l1.length)=true:=by first|simpa using c3|(simp at c3 ⊢;omega)
  clear c3
  have H':=zm H
  clear H
  go_enter Try.func26,Try.ntmps26
  go_wp2
  repeat (go_quiet (fail);try go_wp2)
  go_loopg [5] k (fun kq v5 w'=>∃ (x5_1:Int),v5=.int .i64 x5_1∧Aside0 (slipwayref06_SameRecords.l0 kq l0 l1 x5_1=some r)∧Aside0 (kq≤k)∧Drawn0 w w')
  case atStart=>exact ⟨(0),(by first|rfl|(simp;done)|(simp [*];done)),H',⟨Nat.le_refl _⟩,by repeat (first|exact Drawn0.refl _|apply Drawn0.step)⟩
  case round =>
   clear H'
   try clear c1
   try clear c2
   try clear p2
   try clear c3
   try clear c3b0
   try clear c3b1
   try clear c3b2
   obtain ⟨x5_1,rfl,HA,HK1,⟨m1,rfl⟩⟩:=hrel
   cases gk with
   | zero=>exact absurd HA.out (by simp [slipwayref06_SameRecords.l0])
   | succ k1 =>
    have H:=HA.out
    clear HA
    simp only [slipwayref06_SameRecords.l0] at H
    by_cases c4:x5_1 < (l0.length:Int)
    ·rw [if_pos c4] at H
     have c4b0:decide (x5_1 < (l0.length:Int))=true:=decide_eq_true c4
     clear c4
     by_cases c5:0≤x5_1
     ·rw [if_pos c5] at H
      have c5b0:decide (0≤x5_1)=true:=decide_eq_true c5
      clear c5
      by_cases c6:x5_1 < (l1.length:Int)
      ·rw [if_pos c6] at H
       have c6b0:decide (x5_1 < (l1.length:Int))=true:=decide_eq_true c6
       clear c6
       by_cases c7:(!(((rd_T55 l0 x5_1).f0) == ((rd_T55 l1 x5_1).f0)) || (!(((rd_T55 l0 x5_1).f1) == ((rd_T55 l1 x5_1).f1)) || (!(((rd_T55 l0 x5_1).f2) == ((rd_T55 l1 x5_1).f2)))))=true
       ·rw [if_pos c7] at H
        have c7b0:(!(((rd_T55 l0 x5_1).f0) == ((rd_T55 l1 x5_1).f0)) || (!(((rd_T55 l0 x5_1).f1) == ((rd_T55 l1 x5_1).f1)) || (!(((rd_T55 l0 x5_1).f2) == ((rd_T55 l1 x5_1).f2)))))=true:=c7
        clear c7
        obtain rfl:=Option.some.inj H
        have p423:0≤(x5_1:Int):=of_decide_eq_true (by first|(with_reducible assumption)|assumption)
        have q423:x5_1 < (l0.length:Int):=of_decide_eq_true (by first|(with_reducible assumption)|assumption)
        obtain ⟨ad423,e423,hx423_0,hx423_1,hx423_2⟩:=at_T55 HR0.out x5_1 p423 q423
        cases e423
        replace p423:=eq_true p423
        replace q423:=eq_true q423
        have p424:0≤(x5_1:Int):=of_decide_eq_true (by first|(with_reducible assumption)|assumption)
        have q424:x5_1 < (l1.length:Int):=of_decide_eq_true (by first|(with_reducible assumption)|assumption)
        obtain ⟨ad424,e424,hx424_0,hx424_1,hx424_2⟩:=at_T55 HR1.out x5_1 p424 q424
        cases e424
        replace p424:=eq_true p424
        replace q424:=eq_true q424
        go_wp2
        repeat (go_quiet (fail);try go_wp2)
        go_ret
        exact ⟨by first|rfl|(simp;done)|(simp [*];done),by repeat (first|exact Drawn0.refl _|apply Drawn0.step)⟩
       ·rw [if_neg c7] at H
        have c7b0:(!(((rd_T55 l0 x5_1).f0) == ((rd_T55 l1 x5_1).f0)) || (!(((rd_T55 l0 x5_1).f1) == ((rd_T55 l1 x5_1).f1)) || (!(((rd_T55 l0 x5_1).f2) == ((rd_T55 l1 x5_1).f2)))))=false:=by simpa using c7
        clear c7
        have H':=zm H
        clear H
        have p423:0≤(x5_1:Int):=of_decide_eq_true (by first|(with_reducible assumption)|assumption)
        have q423:x5_1 < (l0.length:Int):=of_decide_eq_true (by first|(with_reducible assumption)|assumption)
        obtain ⟨ad423,e423,hx423_0,hx423_1,hx423_2⟩:=at_T55 HR0.out x5_1 p423 q423
        cases e423
        replace p423:=eq_true p423
        replace q423:=eq_true q423
        have p424:0≤(x5_1:Int):=of_decide_eq_true (by first|(with_reducible assumption)|assumption)
        have q424:x5_1 < (l1.length:Int):=of_decide_eq_true (by first|(with_reducible assumption)|assumption)
        obtain ⟨ad424,e424,hx424_0,hx424_1,hx424_2⟩:=at_T55 HR1.out x5_1 p424 q424
        cases e424
        replace p424:=eq_true p424
        replace q424:=eq_true q424
        go_wp2
        repeat (go_quiet (fail);try go_wp2)
        go_roundg k1
        case measure=>have:=HK1.out;omega
        case rel=>exact ⟨(wrap64 (x5_1 + 1)),(by first|rfl|(simp;done)|(simp [*];done)),H',⟨by have:=HK1.out;omega⟩,by repeat (first|exact Drawn0.refl _|apply Drawn0.step)⟩
      ·rw [if_neg c6] at H
       exact absurd H (by simp)
     ·rw [if_neg c5] at H
      exact absurd H (by simp)
    ·rw [if_neg c4] at H
     have c4b0:decide (x5_1 < (l0.length:Int))=false:=decide_eq_false c4
     clear c4
     obtain rfl:=Option.some.inj H
     go_wp2
     repeat (go_quiet (fail);try go_wp2)
     go_ret
     exact ⟨by first|rfl|(simp;done)|(simp [*];done),by repeat (first|exact Drawn0.refl _|apply Drawn0.step)⟩
 ·rw [if_neg c3] at H
  have c3b0:((l0.length:Int) == (l1.length:Int))=false:=beq_eq_false_iff_ne.mpr c3
  have c3b1:((l0.length:Int) != (l1.length:Int))=true:=bne_iff_ne.mpr c3
  have c3b2:(l0.length == l1.length)=false:=by first|simpa using c3|(simp at c3 ⊢;omega)
  obtain rfl:=Option.some.inj H
  go_enter Try.func26,Try.ntmps26
  go_wp2
  repeat (go_quiet (fail);try go_wp2)
  go_ret
  exact ⟨by first|rfl|(simp;done)|(simp [*];done),by repeat (first|exact Drawn0.refl _|apply Drawn0.step)⟩
def mapjnl_gen.f (a0:Int):Option (Bool):=if a0 ≥ 0 then (some (decide (a0≤1152921504606846976))) else (some false)
set_option maxHeartbeats 8000000 in
set_option maxRecDepth 100000 in
theorem mapjnl_gen.calls (a0:Int) (r:Bool) (w:World) (h:mapjnl_gen.f a0=some r) :
  Calls Try.prog 65 #[.int .i64 a0] w fun e w'=>e=.returned (.bool r)∧Drawn0 w w':=by
 have H:(if a0 ≥ 0 then (some (decide (a0≤1152921504606846976))) else (some false))=some r:=h
 clear h
 by_cases c2:a0 ≥ 0
 ·rw [if_pos c2] at H
  have c2b0:decide (0≤a0)=true:=decide_eq_true c2
  clear c2
  obtain rfl:=Option.some.inj H
  go_enter Try.func65,Try.ntmps65
  go_wp2
  go_ret
  exact ⟨by first|rfl|(simp;done)|(simp [*];done),by repeat (first|exact Drawn0.refl _|apply Drawn0.step)⟩
 ·rw [if_neg c2] at H
  have c2b0:decide (0≤a0)=false:=decide_eq_false c2
  clear c2
  obtain rfl:=Option.some.inj H
  go_enter Try.func65,Try.ntmps65
  go_wp2
  go_ret
  exact ⟨by first|rfl|(simp;done)|(simp [*];done),by repeat (first|exact Drawn0.refl _|apply Drawn0.step)⟩
end Go.Proofs.Ytkhbmgclklmimaa.Print
end
