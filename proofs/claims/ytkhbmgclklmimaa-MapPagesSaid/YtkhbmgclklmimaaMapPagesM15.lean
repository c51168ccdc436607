/- Texts of the proof of MapPages, part 15. -/
import Derived.Test.YtkhbmgclklmimaaMapPagesMA
import Derived.Test.YtkhbmgclklmimaaMapPagesM14
section
namespace Go.Proofs.Ytkhbmgclklmimaa.Print
open Go.RowKit Go.Proofs.YtkhbmgclklmimaaW.PrintWords Go.Proofs.YtkhbmgclklmimaaW.PrintLast Go.Proofs.YtkhbmgclklmimaaW.PrintMore
attribute [local go_sem] max2_int min2_int max_two min_two max_three min_three max_four min_four   -- for this text's walks alone
attribute [local go_sem ↓] Go.Proofs.Ytkhbmgclklmimaa.Sem.isSome_setCell
attribute [local go_sem] Go.Instr.field Go.asAgg
set_option linter.unusedVariables false
set_option linter.unusedSimpArgs false
def mapjnl_Join.l0:Nat → Int → Int → List Bool → List Int → Int → List Bool → List Int → Int → Option (List Bool × List Int × Int × Int)
 | 0,_,_,_,_,_,_,_,_=>none
 | k + 1,x20,x21,x153000,x153001,x153002,x163000,x163001,x163002=>if x21 < x20 then (if 0≤x21 then (if x21 < (x163000.length:Int) then (if rdOf false x163000 x21=true then (if x21 < (x163001.length:Int) then (if x21 < (x153001.length:Int) then (mapjnl_Join.l0 k x20 (wrap64 (x21 + 1)) x153000 x153001 x153002 (x163000.set (x21:Int).toNat true) (x163001.set (x21:Int).toNat (mx (rd x163001 x21) (rd x153001 x21))) x163002) else (none)) else (none)) else (if x21 < (x153000.length:Int) then (if x21 < (x163001.length:Int) then (if x21 < (x153001.length:Int) then (mapjnl_Join.l0 k x20 (wrap64 (x21 + 1)) x153000 x153001 x153002 (x163000.set (x21:Int).toNat (rdOf false x153000 x21)) (x163001.set (x21:Int).toNat (mx (rd x163001 x21) (rd x153001 x21))) x163002) else (none)) else (none)) else (none))) else (none)) else (none)) else (some (x163000,x163001,mx x163002 x153002,0))
def mapjnl_Join.f (k:Nat) (l0_0:List Bool) (l0_1:List Int) (a0_2:Int) (l1_0:List Bool) (l1_1:List Int) (a1_2:Int):Option (List Bool × List Int × Int × Int):=(mapjnl_both.f k l0_0 l0_1 a0_2 l1_0 l1_1 a1_2).bind fun t154=>(if t154=0 then ((mapjnl_clone.f l0_0 l0_1 a0_2).bind fun bt155=>(mapjnl_Join.l0 k (bt155.1.length:Int) 0 l1_0 l1_1 a1_2 bt155.1 bt155.2.1 bt155.2.2)) else (some (([]:List Bool),([]:List Int),0,t154)))
theorem mapjnl_Join.mono_l:∀ k,(∀ y0 y1 y2 y3 y4 y5 y6 y7,LeO (mapjnl_Join.l0 k y0 y1 y2 y3 y4 y5 y6 y7) (mapjnl_Join.l0 (k + 1) y0 y1 y2 y3 y4 y5 y6 y7))
 | 0=>fun _ _ _ _ _ _ _ _ r h=>by simp [mapjnl_Join.l0] at h
 | k + 1=>by
  have ih0:=mapjnl_Join.mono_l k
  ·intro y0 y1 y2 y3 y4 y5 y6 y7
   unfold mapjnl_Join.l0
   repeat' first
   | (with_reducible exact ih0 _ _ _ _ _ _ _ _)
   | (with_reducible exact mapjnl_both.mono _ _ _ _ _ _ _)
   | (with_reducible exact LeO.refl _)
   | (with_reducible exact LeO.none _)
   | (with_reducible refine LeO.ite ?_ ?_)
   | (with_reducible refine LeO.bind ?_ (fun _=>?_))
   | exact ih0 _ _ _ _ _ _ _ _
   | exact mapjnl_both.mono _ _ _ _ _ _ _
   | exact LeO.none _
   | refine LeO.ite ?_ ?_
   | refine LeO.bind ?_ (fun _=>?_)
theorem mapjnl_Join.mono:∀ a0 a1 a2 a3 a4 a5 k,LeO (mapjnl_Join.f k a0 a1 a2 a3 a4 a5) (mapjnl_Join.f (k + 1) a0 a1 a2 a3 a4 a5):=by
 intro a0 a1 a2 a3 a4 a5 k
 have ih0:=mapjnl_Join.mono_l k
 unfold mapjnl_Join.f
 repeat' first
   | (with_reducible exact ih0 _ _ _ _ _ _ _ _)
   | (with_reducible exact mapjnl_both.mono _ _ _ _ _ _ _)
   | (with_reducible exact LeO.refl _)
   | (with_reducible exact LeO.none _)
   | (with_reducible refine LeO.ite ?_ ?_)
   | (with_reducible refine LeO.bind ?_ (fun _=>?_))
   | exact ih0 _ _ _ _ _ _ _ _
   | exact mapjnl_both.mono _ _ _ _ _ _ _
   | exact LeO.none _
   | refine LeO.ite ?_ ?_
   | refine LeO.bind ?_ (fun _=>?_)
def mapjnl_Join.T8:Bool × List (List Nat × List Nat):=(true,[([],[]),([0],[0]),([],[]),([],[]),([3],[3]),([],[]),([4,5],[4,5]),([6],[6]),([7],[7]),([8],[8]),([9,8],[8,9]),([8],[8]),([10,11,8],[8,10,11]),([12,8],[8,12]),([8,13],[8,13]),([1,2,0,1,2,3,4,5,6,7,8,9,10,11,12,13,14],[1,2]),([15,14,8,0,1,2,3,4,5,6,7,8,9,10,11,12,13,14],[14,15])])
def mapjnl_Join.B8:List Nat:=[0,1,0,0,8,0,56,120,248,504,1016,504,4088,8184,16376,32767,65535]
theorem mapjnl_Join.tab8:rtab .any (opsOf Try.f13 8)=mapjnl_Join.T8:=by kernel_rfl
theorem mapjnl_Join.bits8:waitsOk mapjnl_Join.T8.2 mapjnl_Join.B8=true:=by kernel_rfl
def mapjnl_Join.T9:Bool × List (List Nat × List Nat):=(true,[([],[]),([0],[0]),([],[]),([],[]),([3],[3]),([],[]),([4,5],[4,5]),([6],[6]),([],[]),([8],[8]),([],[]),([9,10],[9,10]),([11],[11]),([7,12],[7,12]),([1,2,0,1,2,3,4,5,6,7,8,9,10,11,12,13],[1,2]),([14,13,0,1,2,3,4,5,6,7,8,9,10,11,12,13],[13,14])])
def mapjnl_Join.B9:List Nat:=[0,1,0,0,8,0,56,120,0,256,0,1792,3840,8184,16383,32767]
theorem mapjnl_Join.tab9:rtab .any (opsOf Try.f13 9)=mapjnl_Join.T9:=by kernel_rfl
theorem mapjnl_Join.bits9:waitsOk mapjnl_Join.T9.2 mapjnl_Join.B9=true:=by kernel_rfl
set_option maxHeartbeats 8000000 in
set_option maxRecDepth 100000 in
theorem mapjnl_Join.calls (k:Nat) (A0_0:Option Addr) (c0_0:Nat) (l0_0:List Bool) (A0_1:Option Addr) (c0_1:Nat) (l0_1:List Int) (a0_2:Int) (A1_0:Option Addr) (c1_0:Nat) (l1_0:List Bool) (A1_1:Option Addr) (c1_1:Nat) (l1_1:List Int) (a1_2:Int) (r1:List Bool) (r2:List Int) (r3:Int) (r4:Int) (w:World) (hr0_0:Kd.C Kd.bool w A0_0 l0_0.length l0_0) (hc0_0:l0_0.length≤c0_0) (hr0_1:Kd.C (Kd.int .i64) w A0_1 l0_1.length l0_1) (hc0_1:l0_1.length≤c0_1) (hr1_0:Kd.C Kd.bool w A1_0 l1_0.length l1_0) (hc1_0:l1_0.length≤c1_0) (hr1_1:Kd.C (Kd.int .i64) w A1_1 l1_1.length l1_1) (hc1_1:l1_1.length≤c1_1) (h:mapjnl_Join.f k l0_0 l0_1 a0_2 l1_0 l1_1 a1_2=some (r1,r2,r3,r4)) :
  Calls Try.prog 13 #[.agg #[.slice A0_0 l0_0.length c0_0,.slice A0_1 l0_1.length c0_1,.int .i64 a0_2],.agg #[.slice A1_0 l1_0.length c1_0,.slice A1_1 l1_1.length c1_1,.int .i64 a1_2]] w fun e w'=>∃ v0_ v1_:Value,e=.returned (.tuple #[.agg #[v0_,v1_,.int .i64 r3],.int .i64 r4])∧Kd.R Kd.bool 4 w' w.heap.size (fun _=>True) v0_ r1∧Kd.R (Kd.int .i64) 2 w' w.heap.size (fun _=>True) v1_ r2∧Below w.heap.size w w':=by
 have hu25:=Try.underlying25
 have HR0_0:=zm hr0_0
 have HC0_0:=zm hc0_0
 clear hr0_0 hc0_0
 have HR0_1:=zm hr0_1
 have HC0_1:=zm hc0_1
 clear hr0_1 hc0_1
 have HR1_0:=zm hr1_0
 have HC1_0:=zm hc1_0
 clear hr1_0 hc1_0
 have HR1_1:=zm hr1_1
 have HC1_1:=zm hc1_1
 clear hr1_1 hc1_1
 have HB:=zm (Below.refl w.heap.size w)
 have H:((mapjnl_both.f k l0_0 l0_1 a0_2 l1_0 l1_1 a1_2).bind fun t154=>(if t154=0 then ((mapjnl_clone.f l0_0 l0_1 a0_2).bind fun bt155=>(mapjnl_Join.l0 k (bt155.1.length:Int) 0 l1_0 l1_1 a1_2 bt155.1 bt155.2.1 bt155.2.2)) else (some (([]:List Bool),([]:List Int),0,t154))))=some (r1,r2,r3,r4):=h
 clear h
 replace H:=Option.bind_eq_some_iff.mp H
 obtain ⟨t154,A30,H⟩:=H
 replace H:(if t154=0 then ((mapjnl_clone.f l0_0 l0_1 a0_2).bind fun bt155=>(mapjnl_Join.l0 k (bt155.1.length:Int) 0 l1_0 l1_1 a1_2 bt155.1 bt155.2.1 bt155.2.2)) else (some (([]:List Bool),([]:List Int),0,t154)))=some (r1,r2,r3,r4):=H
 have A3:=zm A30
 clear A30
 by_cases c4:t154=0
 ·rw [if_pos c4] at H
  have c4b0:(t154 == 0)=true:=beq_iff_eq.mpr c4
  have c4b1:(t154 != 0)=false:=bne_eq_false_iff_eq.mpr c4
  clear c4
  replace H:=Option.bind_eq_some_iff.mp H
  obtain ⟨⟨t155,t158,t161⟩,A50,H⟩:=H
  replace H:(mapjnl_Join.l0 k (t155.length:Int) 0 l1_0 l1_1 a1_2 t155 t158 t161)=some (r1,r2,r3,r4):=H
  have A5:=zm A50
  clear A50
  have H':=zm H
  clear H
  go_enter Try.func13,Try.ntmps13
  go_wp2_with (first|((with_reducible refine gate_dst (N:=2) rfl ?_);refine box_event ?hg (N:=2) ?hd (cs:=#[.slice A0_0 l0_0.length c0_0,.slice A0_1 l0_1.length c0_1,.int .i64 a0_2]) (t:=25) ?hr ?_;(case hd=>rfl);(case hg=>rfl);(case hr=>first|(go_simp;done)|(go_simp;rfl));intro gb151 hg w6 hbox hb;have n0_:=zm (below_step (by repeat (first|(with_reducible first|exact HB.out|apply zlA|apply zlN|apply zlD)|exact HB.out)) hb);have n1_:=zm (hbox);have n2_:=zm ((by rw [hg];exact (below_size (by repeat (first|(with_reducible first|exact HB.out|apply zlA|apply zlN|apply zlD)|exact HB.out))):w.heap.size≤gb151));have n3_:=zm ((by rw [hg];exact (below_size (by repeat (first|(with_reducible first|exact HB.out|apply zlA|apply zlN|apply zlD)|exact HB.out))):w.heap.size≤gb151));clear HB;have HB:=n0_;have BK151:=n1_;have GW151:=n2_;have GE151:=n3_;clear n0_ n1_ n2_ n3_;clear hb hbox hg)|((with_reducible refine gate_dst (N:=3) rfl ?_);refine box_event ?hg (N:=3) ?hd (cs:=#[.slice A1_0 l1_0.length c1_0,.slice A1_1 l1_1.length c1_1,.int .i64 a1_2]) (t:=25) ?hr ?_;(case hd=>rfl);(case hg=>rfl);(case hr=>first|(go_simp;done)|(go_simp;rfl));intro gb152 hg w7 hbox hb;have n0_:=zm (zbB (g:=gb151) (o:=.cells #[.slice A0_0 l0_0.length c0_0,.slice A0_1 l0_1.length c0_1,.int .i64 a0_2] 25 (0,0)) (by (with_reducible repeat (first|refine zbN ?_ _|refine zbD ?_|refine zbA ?_ _));exact BK151.out) hb);have n1_:=zm (below_step (by repeat (first|(with_reducible first|exact HB.out|apply zlA|apply zlN|apply zlD|refine zlS ?_ GE151.out)|exact HB.out)) hb);have n2_:=zm (hbox);have n3_:=zm ((by rw [hg];exact (below_size (by repeat (first|(with_reducible first|exact HB.out|apply zlA|apply zlN|apply zlD|refine zlS ?_ GE151.out)|exact HB.out))):w.heap.size≤gb152));have n4_:=zm ((by rw [hg];exact (below_size (by repeat (first|(with_reducible first|exact HB.out|apply zlA|apply zlN|apply zlD|refine zlS ?_ GE151.out)|exact HB.out))):w.heap.size≤gb152));have n5_:=zm ((by rw [hg];exact Nat.ne_of_lt (blk_lt (g:=gb151) (o:=.cells #[.slice A0_0 l0_0.length c0_0,.slice A0_1 l0_1.length c0_1,.int .i64 a0_2] 25 (0,0)) (by (with_reducible repeat (first|refine zbN ?_ _|refine zbD ?_|refine zbA ?_ _));exact BK151.out)):gb151≠gb152));have n6_:=zm ((by rw [hg];exact Nat.ne_of_gt (blk_lt (g:=gb151) (o:=.cells #[.slice A0_0 l0_0.length c0_0,.slice A0_1 l0_1.length c0_1,.int .i64 a0_2] 25 (0,0)) (by (with_reducible repeat (first|refine zbN ?_ _|refine zbD ?_|refine zbA ?_ _));exact BK151.out)):gb152≠gb151));clear BK151 HB;have BK151:=n0_;have HB:=n1_;have BK152:=n2_;have GW152:=n3_;have GE152:=n4_;have NB151_152:=n5_;have NB152_151:=n6_;clear n0_ n1_ n2_ n3_ n4_ n5_ n6_;clear hb hbox hg)|((with_reducible refine gate_dst (N:=4) rfl ?_);refine box_event ?hg (N:=4) ?hd (cs:=#[.slice none 0 0,.slice none 0 0,.int .i64 0]) (t:=25) ?hr ?_;(case hd=>rfl);(case hg=>rfl);(case hr=>first|(go_simp;done)|(go_simp;rfl));intro gb153 hg w8 hbox hb;have n0_:=zm (zbB (g:=gb151) (o:=.cells #[.slice A0_0 l0_0.length c0_0,.slice A0_1 l0_1.length c0_1,.int .i64 a0_2] 25 (0,0)) (by (with_reducible repeat (first|refine zbN ?_ _|refine zbD ?_|refine zbA ?_ _));exact BK151.out) hb);have n1_:=zm (zbB (g:=gb152) (o:=.cells #[.slice A1_0 l1_0.length c1_0,.slice A1_1 l1_1.length c1_1,.int .i64 a1_2] 25 (0,0)) (by (with_reducible repeat (first|refine zbN ?_ _|refine zbD ?_|refine zbA ?_ _));exact BK152.out) hb);have n2_:=zm (below_step (by repeat (first|(with_reducible first|exact HB.out|apply zlA|apply zlN|apply zlD|refine zlS ?_ GE151.out|refine zlS ?_ GE152.out)|exact HB.out)) hb);have n3_:=zm (hbox);have n4_:=zm ((by rw [hg];exact (below_size (by repeat (first|(with_reducible first|exact HB.out|apply zlA|apply zlN|apply zlD|refine zlS ?_ GE151.out|refine zlS ?_ GE152.out)|exact HB.out))):w.heap.size≤gb153));have n5_:=zm ((by rw [hg];exact (below_size (by repeat (first|(with_reducible first|exact HB.out|apply zlA|apply zlN|apply zlD|refine zlS ?_ GE151.out|refine zlS ?_ GE152.out)|exact HB.out))):w.heap.size≤gb153));have n6_:=zm ((by rw [hg];exact Nat.ne_of_lt (blk_lt (g:=gb151) (o:=.cells #[.slice A0_0 l0_0.length c0_0,.slice A0_1 l0_1.length c0_1,.int .i64 a0_2] 25 (0,0)) (by (with_reducible repeat (first|refine zbN ?_ _|refine zbD ?_|refine zbA ?_ _));exact BK151.out)):gb151≠gb153));have n7_:=zm ((by rw [hg];exact Nat.ne_of_gt (blk_lt (g:=gb151) (o:=.cells #[.slice A0_0 l0_0.length c0_0,.slice A0_1 l0_1.length c0_1,.int .i64 a0_2] 25 (0,0)) (by (with_reducible repeat (first|refine zbN ?_ _|refine zbD ?_|refine zbA ?_ _));exact BK151.out)):gb153≠gb151));have n8_:=zm ((by rw [hg];exact Nat.ne_of_lt (blk_lt (g:=gb152) (o:=.cells #[.slice A1_0 l1_0.length c1_0,.slice A1_1 l1_1.length c1_1,.int .i64 a1_2] 25 (0,0)) (by (with_reducible repeat (first|refine zbN ?_ _|refine zbD ?_|refine zbA ?_ _));exact BK152.out)):gb152≠gb153));have n9_:=zm ((by rw [hg];exact Nat.ne_of_gt (blk_lt (g:=gb152) (o:=.cells #[.slice A1_0 l1_0.length c1_0,.slice A1_1 l1_1.length c1_1,.int .i64 a1_2] 25 (0,0)) (by (with_reducible repeat (first|refine zbN ?_ _|refine zbD ?_|refine zbA ?_ _));exact BK152.out)):gb153≠gb152));clear BK151 BK152 HB;have BK151:=n0_;have BK152:=n1_;have HB:=n2_;have BK153:=n3_;have GW153:=n4_;have GE153:=n5_;have NB151_153:=n6_;have NB153_151:=n7_;have NB152_153:=n8_;have NB153_152:=n9_;clear n0_ n1_ n2_ n3_ n4_ n5_ n6_ n7_ n8_ n9_;clear hb hbox hg;have hnb9:=NB151_152.out;have hnc9:=NB152_151.out;have hnb10:=NB151_153.out;have hnc10:=NB153_151.out;have hcz11_0:w8.cell? ⟨gb151,0,none⟩=some (.slice A0_0 l0_0.length c0_0):=(blk_cell BK151.out 0).trans rfl;have hcz11_1:w8.cell? ⟨gb151,1,none⟩=some (.slice A0_1 l0_1.length c0_1):=(blk_cell BK151.out 1).trans rfl;have hcz11_2:w8.cell? ⟨gb151,2,none⟩=some (.int .i64 a0_2):=(blk_cell BK151.out 2).trans rfl;have hfz11_0:=blk_frozen BK151.out 0;have hfz11_1:=blk_frozen BK151.out 1;have hfz11_2:=blk_frozen BK151.out 2;have hnb12:=NB152_153.out;have hnc12:=NB153_152.out;have hcz13_0:w8.cell? ⟨gb152,0,none⟩=some (.slice A1_0 l1_0.length c1_0):=(blk_cell BK152.out 0).trans rfl;have hcz13_1:w8.cell? ⟨gb152,1,none⟩=some (.slice A1_1 l1_1.length c1_1):=(blk_cell BK152.out 1).trans rfl;have hcz13_2:w8.cell? ⟨gb152,2,none⟩=some (.int .i64 a1_2):=(blk_cell BK152.out 2).trans rfl;have hfz13_0:=blk_frozen BK152.out 0;have hfz13_1:=blk_frozen BK152.out 1;have hfz13_2:=blk_frozen BK152.out 2)|((with_reducible refine gate_callee (f:=50) rfl ?_);refine goesL_ (some 11) rfl rfl Try.func50 (by kernel_rfl) rfl #[.agg #[.slice A0_0 l0_0.length c0_0,.slice A0_1 l0_1.length c0_1,.int .i64 a0_2],.agg #[.slice A1_0 l1_0.length c1_0,.slice A1_1 l1_1.length c1_1,.int .i64 a1_2]] rfl (by (try simp only [List.map_toArray,List.map_cons,List.map_nil]);first|done|rfl|(simp only [List.length_drop,List.length_take];rfl)) ?_;(with_reducible refine (mapjnl_both.calls k _ _ l0_0 _ _ l0_1 a0_2 _ _ l1_0 _ _ l1_1 a1_2 t154 _ ?side1 ?side2 ?side3 ?side4 ?side5 ?side6 ?side7 ?side8 A3.out).mono ?_);(case side1=>repeat (first|exact (Kd.C_below HR0_0.out HB.out)|(with_reducible refine Kd.C_alloc ?_ _)|(with_reducible refine Kd.C_drewN ?_ _)|(with_reducible refine Kd.C_drew ?_)));(case side2=>exact HC0_0.out);(case side3=>repeat (first|exact (Kd.C_below HR0_1.out HB.out)|(with_reducible refine Kd.C_alloc ?_ _)|(with_reducible refine Kd.C_drewN ?_ _)|(with_reducible refine Kd.C_drew ?_)));(case side4=>exact HC0_1.out);(case side5=>repeat (first|exact (Kd.C_below HR1_0.out HB.out)|(with_reducible refine Kd.C_alloc ?_ _)|(with_reducible refine Kd.C_drewN ?_ _)|(with_reducible refine Kd.C_drew ?_)));(case side6=>exact HC1_0.out);(case side7=>repeat (first|exact (Kd.C_below HR1_1.out HB.out)|(with_reducible refine Kd.C_alloc ?_ _)|(with_reducible refine Kd.C_drewN ?_ _)|(with_reducible refine Kd.C_drew ?_)));(case side8=>exact HC1_1.out);rintro e w14 ⟨rfl,hb⟩;refine ⟨_,rfl,?_⟩;have n0_:=zm (zbB (g:=gb151) (o:=.cells #[.slice A0_0 l0_0.length c0_0,.slice A0_1 l0_1.length c0_1,.int .i64 a0_2] 25 (0,0)) (by (with_reducible repeat (first|refine zbN ?_ _|refine zbD ?_|refine zbA ?_ _));exact BK151.out) hb);have n1_:=zm (zbB (g:=gb152) (o:=.cells #[.slice A1_0 l1_0.length c1_0,.slice A1_1 l1_1.length c1_1,.int .i64 a1_2] 25 (0,0)) (by (with_reducible repeat (first|refine zbN ?_ _|refine zbD ?_|refine zbA ?_ _));exact BK152.out) hb);have n2_:=zm (zbB (g:=gb153) (o:=.cells #[.slice none 0 0,.slice none 0 0,.int .i64 0] 25 (0,0)) (by (with_reducible repeat (first|refine zbN ?_ _|refine zbD ?_|refine zbA ?_ _));exact BK153.out) hb);have n3_:=zm (below_step (by repeat (first|(with_reducible first|exact HB.out|apply zlA|apply zlN|apply zlD|refine zlS ?_ GE151.out|refine zlS ?_ GE152.out|refine zlS ?_ GE153.out)|exact HB.out)) hb);clear BK151 BK152 BK153 HB;have BK151:=n0_;have BK152:=n1_;have BK153:=n2_;have HB:=n3_;clear n0_ n1_ n2_ n3_;(try clear hb);(try clear hb2);(try clear hk);(try clear hi);have hcz15_0:w14.cell? ⟨gb151,0,none⟩=some (.slice A0_0 l0_0.length c0_0):=(blk_cell BK151.out 0).trans rfl;have hcz15_1:w14.cell? ⟨gb151,1,none⟩=some (.slice A0_1 l0_1.length c0_1):=(blk_cell BK151.out 1).trans rfl;have hcz15_2:w14.cell? ⟨gb151,2,none⟩=some (.int .i64 a0_2):=(blk_cell BK151.out 2).trans rfl;have hfz15_0:=blk_frozen BK151.out 0;have hfz15_1:=blk_frozen BK151.out 1;have hfz15_2:=blk_frozen BK151.out 2)|((with_reducible refine gate_callee (f:=51) rfl ?_);refine goesL_ (some 17) rfl rfl Try.func51 (by kernel_rfl) rfl #[.agg #[.slice A0_0 l0_0.length c0_0,.slice A0_1 l0_1.length c0_1,.int .i64 a0_2]] rfl (by (try simp only [List.map_toArray,List.map_cons,List.map_nil]);first|done|rfl|(simp only [List.length_drop,List.length_take];rfl)) ?_;(with_reducible refine (mapjnl_clone.calls _ _ l0_0 _ _ l0_1 a0_2 t155 t158 t161 _ ?side1 ?side2 ?side3 ?side4 A5.out).mono ?_);(case side1=>repeat (first|exact (Kd.C_below HR0_0.out HB.out)|(with_reducible refine Kd.C_alloc ?_ _)|(with_reducible refine Kd.C_drewN ?_ _)|(with_reducible refine Kd.C_drew ?_)));(case side2=>exact HC0_0.out);(case side3=>repeat (first|exact (Kd.C_below HR0_1.out HB.out)|(with_reducible refine Kd.C_alloc ?_ _)|(with_reducible refine Kd.C_drewN ?_ _)|(with_reducible refine Kd.C_drew ?_)));(case side4=>exact HC0_1.out);rintro e w16 ⟨v156,v159,rfl,ho0,ho1,hb⟩;refine ⟨_,rfl,?_⟩;have n0_:=zm (Kd.R_lower ho0 (below_size (by repeat (first|(with_reducible first|exact HB.out|apply zlA|apply zlN|apply zlD|refine zlS ?_ GE151.out|refine zlS ?_ GE152.out|refine zlS ?_ GE153.out)|exact HB.out))));have n1_:=zm (Kd.R_lower ho1 (below_size (by repeat (first|(with_reducible first|exact HB.out|apply zlA|apply zlN|apply zlD|refine zlS ?_ GE151.out|refine zlS ?_ GE152.out|refine zlS ?_ GE153.out)|exact HB.out))));have n2_:=zm (zbB (g:=gb151) (o:=.cells #[.slice A0_0 l0_0.length c0_0,.slice A0_1 l0_1.length c0_1,.int .i64 a0_2] 25 (0,0)) (by (with_reducible repeat (first|refine zbN ?_ _|refine zbD ?_|refine zbA ?_ _));exact BK151.out) hb);have n3_:=zm (zbB (g:=gb152) (o:=.cells #[.slice A1_0 l1_0.length c1_0,.slice A1_1 l1_1.length c1_1,.int .i64 a1_2] 25 (0,0)) (by (with_reducible repeat (first|refine zbN ?_ _|refine zbD ?_|refine zbA ?_ _));exact BK152.out) hb);have n4_:=zm (zbB (g:=gb153) (o:=.cells #[.slice none 0 0,.slice none 0 0,.int .i64 0] 25 (0,0)) (by (with_reducible repeat (first|refine zbN ?_ _|refine zbD ?_|refine zbA ?_ _));exact BK153.out) hb);have n5_:=zm (below_step (by repeat (first|(with_reducible first|exact HB.out|apply zlA|apply zlN|apply zlD|refine zlS ?_ GE151.out|refine zlS ?_ GE152.out|refine zlS ?_ GE153.out)|exact HB.out)) hb);clear BK151 BK152 BK153 HB;have HO157:=n0_;have HO160:=n1_;have BK151:=n2_;have BK152:=n3_;have BK153:=n4_;have HB:=n5_;clear n0_ n1_ n2_ n3_ n4_ n5_;(try clear hb);(try clear hb2);(try clear hk);(try clear hi);(try clear ho0);(try clear ho1))|((with_reducible refine gate_dst (N:=7) rfl ?_);refine box_event ?hg (N:=7) ?hd (cs:=#[.slice none 0 0,.slice none 0 0,.int .i64 0]) (t:=25) ?hr ?_;(case hd=>rfl);(case hg=>rfl);(case hr=>first|(go_simp;done)|(go_simp;rfl));intro gb162 hg w17 hbox hb;have n0_:=zm (Kd.R_below (by (with_reducible repeat (first|apply zrA|apply zrN|apply zrD));exact HO157.out) hb);have n1_:=zm (Kd.R_below (by (with_reducible repeat (first|apply zrA|apply zrN|apply zrD));exact HO160.out) hb);have n2_:=zm (zbB (g:=gb151) (o:=.cells #[.slice A0_0 l0_0.length c0_0,.slice A0_1 l0_1.length c0_1,.int .i64 a0_2] 25 (0,0)) (by (with_reducible repeat (first|refine zbN ?_ _|refine zbD ?_|refine zbA ?_ _));exact BK151.out) hb);have n3_:=zm (zbB (g:=gb152) (o:=.cells #[.slice A1_0 l1_0.length c1_0,.slice A1_1 l1_1.length c1_1,.int .i64 a1_2] 25 (0,0)) (by (with_reducible repeat (first|refine zbN ?_ _|refine zbD ?_|refine zbA ?_ _));exact BK152.out) hb);have n4_:=zm (zbB (g:=gb153) (o:=.cells #[.slice none 0 0,.slice none 0 0,.int .i64 0] 25 (0,0)) (by (with_reducible repeat (first|refine zbN ?_ _|refine zbD ?_|refine zbA ?_ _));exact BK153.out) hb);have n5_:=zm (below_step (by repeat (first|(with_reducible first|exact HB.out|apply zlA|apply zlN|apply zlD|refine zlS ?_ GE151.out|refine zlS ?_ GE152.out|refine zlS ?_ GE153.out)|exact HB.out)) hb);have n6_:=zm (hbox);have n7_:=zm ((by rw [hg];exact (below_size (by repeat (first|(with_reducible first|exact HB.out|apply zlA|apply zlN|apply zlD|refine zlS ?_ GE151.out|refine zlS ?_ GE152.out|refine zlS ?_ GE153.out)|exact HB.out))):w.heap.size≤gb162));have n8_:=zm ((by rw [hg];exact (below_size (by repeat (first|(with_reducible first|exact HB.out|apply zlA|apply zlN|apply zlD|refine zlS ?_ GE151.out|refine zlS ?_ GE152.out|refine zlS ?_ GE153.out)|exact HB.out))):w.heap.size≤gb162));have n9_:=zm ((by rw [hg];exact Nat.ne_of_lt (blk_lt (g:=gb151) (o:=.cells #[.slice A0_0 l0_0.length c0_0,.slice A0_1 l0_1.length c0_1,.int .i64 a0_2] 25 (0,0)) (by (with_reducible repeat (first|refine zbN ?_ _|refine zbD ?_|refine zbA ?_ _));exact BK151.out)):gb151≠gb162));have n10_:=zm ((by rw [hg];exact Nat.ne_of_gt (blk_lt (g:=gb151) (o:=.cells #[.slice A0_0 l0_0.length c0_0,.slice A0_1 l0_1.length c0_1,.int .i64 a0_2] 25 (0,0)) (by (with_reducible repeat (first|refine zbN ?_ _|refine zbD ?_|refine zbA ?_ _));exact BK151.out)):gb162≠gb151));have n11_:=zm ((by rw [hg];exact Nat.ne_of_lt (blk_lt (g:=gb152) (o:=.cells #[.slice A1_0 l1_0.length c1_0,.slice A1_1 l1_1.length c1_1,.int .i64 a1_2] 25 (0,0)) (by (with_reducible repeat (first|refine zbN ?_ _|refine zbD ?_|refine zbA ?_ _));exact BK152.out)):gb152≠gb162));have n12_:=zm ((by rw [hg];exact Nat.ne_of_gt (blk_lt (g:=gb152) (o:=.cells #[.slice A1_0 l1_0.length c1_0,.slice A1_1 l1_1.length c1_1,.int .i64 a1_2] 25 (0,0)) (by (with_reducible repeat (first|refine zbN ?_ _|refine zbD ?_|refine zbA ?_ _));exact BK152.out)):gb162≠gb152));have n13_:=zm ((by rw [hg];exact Nat.ne_of_lt (blk_lt (g:=gb153) (o:=.cells #[.slice none 0 0,.slice none 0 0,.int .i64 0] 25 (0,0)) (by (with_reducible repeat (first|refine zbN ?_ _|refine zbD ?_|refine zbA ?_ _));exact BK153.out)):gb153≠gb162));have n14_:=zm ((by rw [hg];exact Nat.ne_of_gt (blk_lt (g:=gb153) (o:=.cells #[.slice none 0 0,.slice none 0 0,.int .i64 0] 25 (0,0)) (by (with_reducible repeat (first|refine zbN ?_ _|refine zbD ?_|refine zbA ?_ _));exact BK153.out)):gb162≠gb153));clear HO157 HO160 BK151 BK152 BK153 HB;have HO157:=n0_;have HO160:=n1_;have BK151:=n2_;have BK152:=n3_;have BK153:=n4_;have HB:=n5_;have BK162:=n6_;have GW162:=n7_;have GE162:=n8_;have NB151_162:=n9_;have NB162_151:=n10_;have NB152_162:=n11_;have NB162_152:=n12_;have NB153_162:=n13_;have NB162_153:=n14_;clear n0_ n1_ n2_ n3_ n4_ n5_ n6_ n7_ n8_ n9_ n10_ n11_ n12_ n13_ n14_;clear hb hbox hg;obtain ⟨Ao18,co18,eo18⟩:=Kd.R_slice HO157.out;subst eo18;have hnb19:=NB162_151.out;have hnc19:=NB151_162.out;have hnb20:=NB162_152.out;have hnc20:=NB152_162.out;have hnb21:=NB162_153.out;have hnc21:=NB153_162.out;have hcz22_0:w17.cell? ⟨gb162,0,none⟩=some (.slice none 0 0):=(blk_cell BK162.out 0).trans rfl;have hcz22_1:w17.cell? ⟨gb162,1,none⟩=some (.slice none 0 0):=(blk_cell BK162.out 1).trans rfl;have hcz22_2:w17.cell? ⟨gb162,2,none⟩=some (.int .i64 0):=(blk_cell BK162.out 2).trans rfl;have hfz22_0:=blk_frozen BK162.out 0;have hfz22_1:=blk_frozen BK162.out 1;have hfz22_2:=blk_frozen BK162.out 2;obtain ⟨Ao23,co23,eo23⟩:=Kd.R_slice HO160.out;subst eo23))
  go_loopg [21] k (fun kq v21 w'=>∃ (x21_1:Int) (x163000_1:List Bool) (x163001_1:List Int) (u163000:Value) (u163001:Value),v21=.int .i64 x21_1∧Aside0 (mapjnl_Join.l0 kq (t155.length:Int) x21_1 l1_0 l1_1 a1_2 x163000_1 x163001_1 t161=some (r1,r2,r3,r4))∧Aside0 (kq≤k)∧Aside0 (Kd.R Kd.bool 4 w' w.heap.size (fun _=>True) u163000 x163000_1)∧Aside0 (Kd.R (Kd.int .i64) 2 w' w.heap.size (fun _=>True) u163001 x163001_1)∧Aside0 (w'.heap[gb151]?=some (.cells #[(.slice A0_0 l0_0.length c0_0),(.slice A0_1 l0_1.length c0_1),.int .i64 a0_2] 25 (0,0)))∧Aside0 (w'.heap[gb152]?=some (.cells #[(.slice A1_0 l1_0.length c1_0),(.slice A1_1 l1_1.length c1_1),.int .i64 a1_2] 25 (0,0)))∧Aside0 (w'.heap[gb153]?=some (.cells #[(.slice none 0 0),(.slice none 0 0),.int .i64 0] 25 (0,0)))∧Aside0 (w'.heap[gb162]?=some (.cells #[u163000,u163001,.int .i64 t161] 25 (0,0)))∧Aside0 (Below w.heap.size w w'))
  case atStart=>exact ⟨(0),(t155),(t158),(.slice Ao18 t155.length co18),(.slice Ao23 t158.length co23),(by first|rfl|(simp;done)|(simp [*];done)),H',⟨Nat.le_refl _⟩,⟨by (with_reducible repeat (first|apply zrA|apply zrN|apply zrD));exact Kd.R_mono (Kd.R_far (p:=⟨gb162,2,none⟩) (Kd.R_far (p:=⟨gb162,1,none⟩) (Kd.R_far (p:=⟨gb162,0,none⟩) (Kd.R_types HO157.out BK162.out (by decide)) (fun _ hk=>hk.2) (.slice Ao18 t155.length co18)) (fun _ hk=>hk.2) (.slice Ao23 t158.length co23)) (fun _ hk=>hk.2) (.int .i64 t161)) (fun _ hk=>trivial)⟩,⟨by (with_reducible repeat (first|apply zrA|apply zrN|apply zrD));exact Kd.R_mono (Kd.R_far (p:=⟨gb162,2,none⟩) (Kd.R_far (p:=⟨gb162,1,none⟩) (Kd.R_far (p:=⟨gb162,0,none⟩) (Kd.R_types HO160.out BK162.out (by decide)) (fun _ hk=>hk.2) (.slice Ao18 t155.length co18)) (fun _ hk=>hk.2) (.slice Ao23 t158.length co23)) (fun _ hk=>hk.2) (.int .i64 t161)) (fun _ hk=>trivial)⟩,⟨by (with_reducible repeat (first|refine zbN ?_ _|refine zbD ?_|refine zbA ?_ _));refine blk_far ?_ NB151_162.out _;(with_reducible repeat (first|refine zbN ?_ _|refine zbD ?_|refine zbA ?_ _));refine blk_far ?_ NB151_162.out _;(with_reducible repeat (first|refine zbN ?_ _|refine zbD ?_|refine zbA ?_ _));refine blk_far ?_ NB151_162.out _;(with_reducible repeat (first|refine zbN ?_ _|refine zbD ?_|refine zbA ?_ _));exact BK151.out⟩,⟨by (with_reducible repeat (first|refine zbN ?_ _|refine zbD ?_|refine zbA ?_ _));refine blk_far ?_ NB152_162.out _;(with_reducible repeat (first|refine zbN ?_ _|refine zbD ?_|refine zbA ?_ _));refine blk_far ?_ NB152_162.out _;(with_reducible repeat (first|refine zbN ?_ _|refine zbD ?_|refine zbA ?_ _));refine blk_far ?_ NB152_162.out _;(with_reducible repeat (first|refine zbN ?_ _|refine zbD ?_|refine zbA ?_ _));exact BK152.out⟩,⟨by (with_reducible repeat (first|refine zbN ?_ _|refine zbD ?_|refine zbA ?_ _));refine blk_far ?_ NB153_162.out _;(with_reducible repeat (first|refine zbN ?_ _|refine zbD ?_|refine zbA ?_ _));refine blk_far ?_ NB153_162.out _;(with_reducible repeat (first|refine zbN ?_ _|refine zbD ?_|refine zbA ?_ _));refine blk_far ?_ NB153_162.out _;(with_reducible repeat (first|refine zbN ?_ _|refine zbD ?_|refine zbA ?_ _));exact BK153.out⟩,⟨by (with_reducible repeat (first|refine zbN ?_ _|refine zbD ?_|refine zbA ?_ _));refine blk_put (cs:=#[.slice Ao18 t155.length co18,.slice Ao23 t158.length co23,.int .i64 0]) ?_ 2 _ rfl;(with_reducible repeat (first|refine zbN ?_ _|refine zbD ?_|refine zbA ?_ _));refine blk_put (cs:=#[.slice Ao18 t155.length co18,.slice none 0 0,.int .i64 0]) ?_ 1 _ rfl;(with_reducible repeat (first|refine zbN ?_ _|refine zbD ?_|refine zbA ?_ _));refine blk_put (cs:=#[.slice none 0 0,.slice none 0 0,.int .i64 0]) ?_ 0 _ rfl;(with_reducible repeat (first|refine zbN ?_ _|refine zbD ?_|refine zbA ?_ _));exact BK162.out⟩,⟨by repeat (first|(with_reducible first|exact HB.out|apply zlA|apply zlN|apply zlD|refine zlS ?_ GE151.out|refine zlS ?_ GE152.out|refine zlS ?_ GE153.out|refine zlS ?_ GE162.out)|exact HB.out)⟩⟩
  case round =>
   clear H'
   try clear c1
   try clear c2
   try clear p2
   try clear c4
   try clear c4b0
   try clear c4b1
   try clear c5
   try clear c9
   try clear c10
   try clear c12
   try clear c13
   try clear c19
   try clear c20
   try clear c21
   try clear hcz11_0
   try clear hcz11_1
   try clear hcz11_2
   try clear hcz13_0
   try clear hcz13_1
   try clear hcz13_2
   try clear hcz15_0
   try clear hcz15_1
   try clear hcz15_2
   try clear hcz22_0
   try clear hcz22_1
   try clear hcz22_2
   try clear hfz11_0
   try clear hfz11_1
   try clear hfz11_2
   try clear hfz13_0
   try clear hfz13_1
   try clear hfz13_2
   try clear hfz15_0
   try clear hfz15_1
   try clear hfz15_2
   try clear hfz22_0
   try clear hfz22_1
   try clear hfz22_2
   obtain ⟨x21_1,x163000_1,x163001_1,u163000,u163001,rfl,HA,HK1,HO_163000,HO_163001,BK151,BK152,BK153,BK162,HB⟩:=hrel
   cases gk with
   | zero=>exact absurd HA.out (by simp [mapjnl_Join.l0])
   | succ k1 =>
    have H:=HA.out
    clear HA
    simp only [mapjnl_Join.l0] at H
    by_cases c24:x21_1 < (t155.length:Int)
    ·rw [if_pos c24] at H
     have c24b0:decide (x21_1 < (t155.length:Int))=true:=decide_eq_true c24
     clear c24
     by_cases c25:0≤x21_1
     ·rw [if_pos c25] at H
      have c25b0:decide (0≤x21_1)=true:=decide_eq_true c25
      clear c25
      by_cases c26:x21_1 < (x163000_1.length:Int)
      ·rw [if_pos c26] at H
       have c26b0:decide (x21_1 < (x163000_1.length:Int))=true:=decide_eq_true c26
       clear c26
       obtain ⟨bq27,hbq27⟩:∃ b_:Bool,b_=(rdOf false x163000_1 x21_1):=⟨_,rfl⟩
       replace H:(if bq27=true then (if x21_1 < (x163001_1.length:Int) then (if x21_1 < (l1_1.length:Int) then (mapjnl_Join.l0 k1 (t155.length:Int) (wrap64 (x21_1 + 1)) l1_0 l1_1 a1_2 (x163000_1.set (x21_1:Int).toNat true) (x163001_1.set (x21_1:Int).toNat (mx (rd x163001_1 x21_1) (rd l1_1 x21_1))) t161) else (none)) else (none)) else (if x21_1 < (l1_0.length:Int) then (if x21_1 < (x163001_1.length:Int) then (if x21_1 < (l1_1.length:Int) then (mapjnl_Join.l0 k1 (t155.length:Int) (wrap64 (x21_1 + 1)) l1_0 l1_1 a1_2 (x163000_1.set (x21_1:Int).toNat (rdOf false l1_0 x21_1)) (x163001_1.set (x21_1:Int).toNat (mx (rd x163001_1 x21_1) (rd l1_1 x21_1))) t161) else (none)) else (none)) else (none)))=some (r1,r2,r3,r4):=by rw [← hbq27] at H;exact H
       have Nbq27:=zm hbq27
       clear hbq27
       by_cases c28:bq27=true
       ·subst c28
        have H1:(if x21_1 < (x163001_1.length:Int) then (if x21_1 < (l1_1.length:Int) then (mapjnl_Join.l0 k1 (t155.length:Int) (wrap64 (x21_1 + 1)) l1_0 l1_1 a1_2 (x163000_1.set (x21_1:Int).toNat true) (x163001_1.set (x21_1:Int).toNat (mx (rd x163001_1 x21_1) (rd l1_1 x21_1))) t161) else (none)) else (none))=some (r1,r2,r3,r4):=by rw [if_pos rfl] at H;exact H
        clear H
        have H:=H1
        clear H1
        obtain ⟨y164,hy164⟩:∃ y_:List Bool,y_=(x163000_1.set (x21_1:Int).toNat true):=⟨_,rfl⟩
        replace H:(if x21_1 < (x163001_1.length:Int) then (if x21_1 < (l1_1.length:Int) then (mapjnl_Join.l0 k1 (t155.length:Int) (wrap64 (x21_1 + 1)) l1_0 l1_1 a1_2 y164 (x163001_1.set (x21_1:Int).toNat (mx (rd x163001_1 x21_1) (rd l1_1 x21_1))) t161) else (none)) else (none))=some (r1,r2,r3,r4):=by first|(rw [hy164];with_reducible exact H)|(have H2_:=(Option.bind_some _ _).symm.trans H;rw [hy164];with_reducible exact H2_)|(have H2_:=(Option.bind_some _ _).symm.trans H;with_reducible exact H2_)|with_reducible exact H|(rw [hy164];exact H)|exact H
        have Ny164:=zm hy164
        clear hy164
        by_cases c30:x21_1 < (x163001_1.length:Int)
        ·rw [if_pos c30] at H
         have c30b0:decide (x21_1 < (x163001_1.length:Int))=true:=decide_eq_true c30
         clear c30
         by_cases c31:x21_1 < (l1_1.length:Int)
         ·rw [if_pos c31] at H
          have c31b0:decide (x21_1 < (l1_1.length:Int))=true:=decide_eq_true c31
          clear c31
          obtain ⟨ji32,hji32⟩:∃ j_:Int,(mx (rd x163001_1 x21_1) (rd l1_1 x21_1))=j_:=⟨_,rfl⟩
          replace H:(mapjnl_Join.l0 k1 (t155.length:Int) (wrap64 (x21_1 + 1)) l1_0 l1_1 a1_2 y164 (x163001_1.set (x21_1:Int).toNat (ji32)) t161)=some (r1,r2,r3,r4):=by first|(rw [hji32] at H;exact H)|(simp only [hji32] at H ⊢;exact H)
          have hji32_:(if (rd x163001_1 x21_1) < (rd l1_1 x21_1) then (rd l1_1 x21_1) else (rd x163001_1 x21_1))=ji32:=hji32
          obtain ⟨y167,hy167⟩:∃ y_:List Int,y_=(x163001_1.set (x21_1:Int).toNat (ji32)):=⟨_,rfl⟩
          replace H:(mapjnl_Join.l0 k1 (t155.length:Int) (wrap64 (x21_1 + 1)) l1_0 l1_1 a1_2 y164 y167 t161)=some (r1,r2,r3,r4):=by first|(rw [hy167];with_reducible exact H)|(have H2_:=(Option.bind_some _ _).symm.trans H;rw [hy167];with_reducible exact H2_)|(have H2_:=(Option.bind_some _ _).symm.trans H;with_reducible exact H2_)|with_reducible exact H|(rw [hy167];exact H)|exact H
          have Ny167:=zm hy167
          clear hy167
          have H':=zm H
          clear H
          try go_wp2
          have n0_:=zm (zrD HO_163000.out)
          have n1_:=zm (zrD HO_163001.out)
          have n2_:=zm (zbD BK151.out)
          have n3_:=zm (zbD BK152.out)
          have n4_:=zm (zbD BK153.out)
          have n5_:=zm (zbD BK162.out)
          have n6_:=zm (zlD HB.out)
          clear HO_163000 HO_163001 BK151 BK152 BK153 BK162 HB
          have HO_163000:=n0_
          have HO_163001:=n1_
          have BK151:=n2_
          have BK152:=n3_
          have BK153:=n4_
          have BK162:=n5_
          have HB:=n6_
          clear n0_ n1_ n2_ n3_ n4_ n5_ n6_
          obtain ⟨Ao35,co35,eo35⟩:=Kd.R_slice HO_163000.out
          (first|subst eo35|(injection eo35 with f1_ f2_ f3_;have f4_:=f1_.symm;have f5_:=f3_.symm;clear f1_ f2_ f3_;subst f4_;subst f5_))
          have p163:0≤(x21_1:Int):=of_decide_eq_true (by first|(with_reducible assumption)|assumption)
          have q163:x21_1 < (x163000_1.length:Int):=of_decide_eq_true (by first|(with_reducible assumption)|assumption)
          obtain ⟨ad163,e163,hx163_0⟩:=Kd.at_bool (Kd.R_reads' HO_163000.out).2.2 x21_1 p163 q163
          (try rw [← Nbq27.out] at hx163_0)
          cases e163
          replace p163:=eq_true p163
          replace q163:=eq_true q163
          have p29:0≤(x21_1:Int):=of_decide_eq_true (by first|(with_reducible assumption)|assumption)
          have q29:(x21_1:Int) < ((x163000_1.length:Int):Int):=of_decide_eq_true (by first|(with_reducible assumption)|assumption)
          obtain ⟨go29,co29,eo29,gb29,gl29,cl29,HG29⟩:=Kd.R_form HO_163000.out (by omega)
          (first|cases eo29|(injection eo29 with ea_ en_ ec_;(first|subst ea_|(injection ea_ with ea_;subst ea_));subst ec_;clear en_))
          have GB29:=zm gb29
          have GG29:=zm HG29
          clear gb29 gl29 HG29
          (first|simp only [add_plain] at hx163_0|skip)
          obtain ⟨hx29_0,hf29_0⟩:=Kd.R_celln false HO_163000.out (x21_1:Int) p29 q29
          replace p29:=eq_true p29
          replace q29:=eq_true q29
          have HP36:=Kd.R_putn HO_163000.out (x21_1:Int) true
          rw [← Ny164.out] at HP36
          have HQ36:=zm HP36
          clear HP36
          refine start_ (n:=17) (S:=fun w'=>w'.cell? ⟨gb162,0,none⟩=some (.slice (some ⟨go29,0,none⟩) x163000_1.length co35)∧w'.cell? ⟨gb162,1,none⟩=some (u163001)∧w'.cell? ⟨gb162,2,none⟩=some (.int .i64 t161)∧w'.cell? ⟨go29,(x21_1).toNat,none⟩=some (.bool true)) (ds:=[16]) #[false,false,false,false,false,false,false,false,false,false,false,false,false,false,false,false,false] (by kernel_rfl) rfl rfl ⟨(blk_cell BK162.out 0).trans rfl,(blk_cell BK162.out 1).trans rfl,(blk_cell BK162.out 2).trans rfl,hx163_0⟩ (fun hHeld=>?_);refine with_tabW mapjnl_Join.tab8 mapjnl_Join.bits8 (fun HT_ HW_=>?_)
          generalize wr.drew=w34 at HO_163000 HO_163001 BK151 BK152 BK153 BK162 HB GG29 HQ36 hf29_0 hx163_0 hx29_0 hHeld ⊢
          refine pure_ (i:=0) (N:=some 24) (v:=?_) (a':=?_) #[true,false,false,false,false,false,false,false,false,false,false,false,false,false,false,false,false] rfl rfl (any_of HT_.out (by kernel_rfl)) (fun _ _ _ h=>h) (Or.inl ⟨by rfl,?_⟩) ?_ ?_
          rotate_left
          ·intro w'
           go_simp
           with_reducible rfl
          rotate_left
          ·simp only [Act.put,List.setIfInBounds_toArray,List.set_cons_zero,List.set_cons_succ,i64_w,i32_w]
           rfl
          refine pure_ (i:=2) (N:=some 26) (v:=?_) (a':=?_) #[true,false,true,false,false,false,false,false,false,false,false,false,false,false,false,false,false] rfl rfl (any_of HT_.out (by kernel_rfl)) (fun _ _ _ h=>h) (Or.inl ⟨by rfl,?_⟩) ?_ ?_
          rotate_left
          ·intro w'
           go_simp
           with_reducible rfl
          rotate_left
          ·simp only [Act.put,List.setIfInBounds_toArray,List.set_cons_zero,List.set_cons_succ,i64_w,i32_w]
           rfl
          refine pure_ (i:=3) (N:=some 27) (v:=?_) (a':=?_) #[true,false,true,true,false,false,false,false,false,false,false,false,false,false,false,false,false] rfl rfl (any_of HT_.out (by kernel_rfl)) (fun _ _ _ h=>h) (Or.inl ⟨by rfl,?_⟩) ?_ ?_
          rotate_left
          ·intro w'
           go_simp
           with_reducible rfl
          rotate_left
          ·simp only [Act.put,List.setIfInBounds_toArray,List.set_cons_zero,List.set_cons_succ,i64_w,i32_w]
           rfl
          refine pure_ (i:=5) (N:=some 29) (v:=?_) (a':=?_) #[true,false,true,true,false,true,false,false,false,false,false,false,false,false,false,false,false] rfl rfl (any_of HT_.out (by kernel_rfl)) (fun _ _ _ h=>h) (Or.inl ⟨by rfl,?_⟩) ?_ ?_
          rotate_left
          ·intro w'
           go_simp
           with_reducible rfl
          rotate_left
          ·simp only [Act.put,List.setIfInBounds_toArray,List.set_cons_zero,List.set_cons_succ,i64_w,i32_w]
           rfl
          refine take_ (i:=1) (N:=some 25) (v:=?_) (a':=?_) #[true,true,true,true,false,true,false,false,false,false,false,false,false,false,false,false,false] rfl rfl (take_ofW HT_.out HW_.out (by kernel_rfl)) (fun _ _ _ h=>h) (Or.inl ⟨by rfl,?_⟩) hHeld ?_ ?_
          rotate_left
          ·rintro w' ⟨s0,s1,s2,s3⟩
           go_simp
           with_reducible rfl
          rotate_left
          ·simp only [Act.put,List.setIfInBounds_toArray,List.set_cons_zero,List.set_cons_succ,i64_w,i32_w]
           rfl
          refine take_ (i:=4) (N:=some 28) (v:=?_) (a':=?_) #[true,true,true,true,true,true,false,false,false,false,false,false,false,false,false,false,false] rfl rfl (take_ofW HT_.out HW_.out (by kernel_rfl)) (fun _ _ _ h=>h) (Or.inl ⟨by rfl,?_⟩) hHeld ?_ ?_
          rotate_left
          ·rintro w' ⟨s0,s1,s2,s3⟩
           go_simp
           with_reducible rfl
          rotate_left
          ·simp only [Act.put,List.setIfInBounds_toArray,List.set_cons_zero,List.set_cons_succ,i64_w,i32_w]
           rfl
          refine pure_ (i:=6) (N:=some 30) (v:=?_) (a':=?_) #[true,true,true,true,true,true,true,false,false,false,false,false,false,false,false,false,false] rfl rfl (any_of HT_.out (by kernel_rfl)) (fun _ _ _ h=>h) (Or.inl ⟨by rfl,?_⟩) ?_ ?_
          rotate_left
          ·intro w'
           go_simp
           with_reducible rfl
          rotate_left
          ·simp only [Act.put,List.setIfInBounds_toArray,List.set_cons_zero,List.set_cons_succ,i64_w,i32_w]
           rfl
          refine take_ (i:=7) (N:=some 31) (v:=?_) (a':=?_) #[true,true,true,true,true,true,true,true,false,false,false,false,false,false,false,false,false] rfl rfl (take_ofW HT_.out HW_.out (by kernel_rfl)) (fun _ _ _ h=>h) (Or.inl ⟨by rfl,?_⟩) hHeld ?_ ?_
          rotate_left
          ·rintro w' ⟨s0,s1,s2,s3⟩
           go_simp
           with_reducible rfl
          rotate_left
          ·simp only [Act.put,List.setIfInBounds_toArray,List.set_cons_zero,List.set_cons_succ,i64_w,i32_w]
           rfl
          refine pure_ (i:=8) (N:=some 32) (v:=?_) (a':=?_) #[true,true,true,true,true,true,true,true,true,false,false,false,false,false,false,false,false] rfl rfl (any_of HT_.out (by kernel_rfl)) (fun _ _ _ h=>h) (Or.inl ⟨by rfl,?_⟩) ?_ ?_
          rotate_left
          ·intro w'
           go_simp
           with_reducible rfl
          rotate_left
          ·simp only [Act.put,List.setIfInBounds_toArray,List.set_cons_zero,List.set_cons_succ,i64_w,i32_w]
           rfl
          refine pure_ (i:=9) (N:=some 33) (v:=undef) (a':=?_) #[true,true,true,true,true,true,true,true,true,true,false,false,false,false,false,false,false] rfl rfl (any_of HT_.out (by kernel_rfl)) (fun _ _ _ h=>h) (Or.inr ⟨by rfl,rfl⟩) ?_ ?_
          rotate_left
          ·simp only [Act.put,List.setIfInBounds_toArray,List.set_cons_zero,List.set_cons_succ,i64_w,i32_w]
           rfl
          refine pure_ (i:=10) (N:=some 34) (v:=undef) (a':=?_) #[true,true,true,true,true,true,true,true,true,true,true,false,false,false,false,false,false] rfl rfl (any_of HT_.out (by kernel_rfl)) (fun _ _ _ h=>h) (Or.inr ⟨by rfl,rfl⟩) ?_ ?_
          rotate_left
          ·simp only [Act.put,List.setIfInBounds_toArray,List.set_cons_zero,List.set_cons_succ,i64_w,i32_w]
           rfl
          refine pure_ (i:=11) (N:=some 35) (v:=undef) (a':=?_) #[true,true,true,true,true,true,true,true,true,true,true,true,false,false,false,false,false] rfl rfl (any_of HT_.out (by kernel_rfl)) (fun _ _ _ h=>h) (Or.inr ⟨by rfl,rfl⟩) ?_ ?_
          rotate_left
          ·simp only [Act.put,List.setIfInBounds_toArray,List.set_cons_zero,List.set_cons_succ,i64_w,i32_w]
           rfl
          refine pure_ (i:=12) (N:=some 36) (v:=undef) (a':=?_) #[true,true,true,true,true,true,true,true,true,true,true,true,true,false,false,false,false] rfl rfl (any_of HT_.out (by kernel_rfl)) (fun _ _ _ h=>h) (Or.inr ⟨by rfl,rfl⟩) ?_ ?_
          rotate_left
          ·simp only [Act.put,List.setIfInBounds_toArray,List.set_cons_zero,List.set_cons_succ,i64_w,i32_w]
           rfl
          refine pure_ (i:=13) (N:=some 37) (v:=undef) (a':=?_) #[true,true,true,true,true,true,true,true,true,true,true,true,true,true,false,false,false] rfl rfl (any_of HT_.out (by kernel_rfl)) (fun _ _ _ h=>h) (Or.inr ⟨by rfl,rfl⟩) ?_ ?_
          rotate_left
          ·simp only [Act.put,List.setIfInBounds_toArray,List.set_cons_zero,List.set_cons_succ,i64_w,i32_w]
           rfl
          refine pure_ (i:=14) (N:=some 38) (v:=?_) (a':=?_) #[true,true,true,true,true,true,true,true,true,true,true,true,true,true,true,false,false] rfl rfl (any_of HT_.out (by kernel_rfl)) (fun _ _ _ h=>h) (Or.inl ⟨by rfl,?_⟩) ?_ ?_
          rotate_left
          ·intro w'
           go_simp
           with_reducible rfl
          rotate_left
          ·simp only [Act.put,List.setIfInBounds_toArray,List.set_cons_zero,List.set_cons_succ,i64_w,i32_w]
           rfl
          refine pure_ (i:=15) (N:=some 39) (v:=?_) (a':=?_) #[true,true,true,true,true,true,true,true,true,true,true,true,true,true,true,true,false] rfl rfl (any_of HT_.out (by kernel_rfl)) (fun _ _ _ h=>h) (Or.inl ⟨by rfl,?_⟩) ?_ ?_
          rotate_left
          ·intro w'
           go_simp
           with_reducible rfl
          rotate_left
          ·simp only [Act.put,List.setIfInBounds_toArray,List.set_cons_zero,List.set_cons_succ,i64_w,i32_w]
           rfl
          refine last_ (i:=16) (N:=none) #[true,true,true,true,true,true,true,true,true,true,true,true,true,true,true,true,true] rfl rfl (one_of HT_.out (by kernel_rfl)) (by decide) (fun K hK=>?_)
          refine skip_ (w1:=?_) (by rfl) rfl ?_ ?_
          rotate_left
          ·go_simp
           rfl
          refine hK.out _ _ ?_
          clear hK K
          refine done_ (done_of HT_.out (by kernel_rfl)) ?_
          try go_wp2
          have n0_:Aside0 (Kd.R Kd.bool 4 (w34.setCell ⟨go29,(x21_1:Int).toNat,none⟩ (.bool true)) w.heap.size (fun _=>True) (.slice (some ⟨go29,0,none⟩) x163000_1.length co35) y164):=⟨by (with_reducible repeat (first|apply zrA|apply zrN|apply zrD));exact HQ36.out⟩
          have n1_:Aside0 (Kd.R (Kd.int .i64) 2 (w34.setCell ⟨go29,(x21_1:Int).toNat,none⟩ (.bool true)) w.heap.size (fun _=>True) u163001 x163001_1):=⟨by (with_reducible repeat (first|apply zrA|apply zrN|apply zrD));exact Kd.R_mono (Kd.R_far (p:=⟨go29,(x21_1:Int).toNat,none⟩) (Kd.R_types HO_163001.out GG29.out (by decide)) (fun _ hk=>hk.2) (.bool true)) (fun _ hk=>trivial)⟩
          have n2_:Aside0 ((w34.setCell ⟨go29,(x21_1:Int).toNat,none⟩ (.bool true)).heap[gb151]?=some (.cells #[.slice A0_0 l0_0.length c0_0,.slice A0_1 l0_1.length c0_1,.int .i64 a0_2] 25 (0,0))):=⟨by (with_reducible repeat (first|refine zbN ?_ _|refine zbD ?_|refine zbA ?_ _));refine blk_far ?_ (by have h_:=Kd.R_ne HO_163000.out BK151.out (by decide);intro e_;exact h_ (by rw [e_];rfl)) _;(with_reducible repeat (first|refine zbN ?_ _|refine zbD ?_|refine zbA ?_ _));exact BK151.out⟩
          have n3_:Aside0 ((w34.setCell ⟨go29,(x21_1:Int).toNat,none⟩ (.bool true)).heap[gb152]?=some (.cells #[.slice A1_0 l1_0.length c1_0,.slice A1_1 l1_1.length c1_1,.int .i64 a1_2] 25 (0,0))):=⟨by (with_reducible repeat (first|refine zbN ?_ _|refine zbD ?_|refine zbA ?_ _));refine blk_far ?_ (by have h_:=Kd.R_ne HO_163000.out BK152.out (by decide);intro e_;exact h_ (by rw [e_];rfl)) _;(with_reducible repeat (first|refine zbN ?_ _|refine zbD ?_|refine zbA ?_ _));exact BK152.out⟩
          have n4_:Aside0 ((w34.setCell ⟨go29,(x21_1:Int).toNat,none⟩ (.bool true)).heap[gb153]?=some (.cells #[.slice none 0 0,.slice none 0 0,.int .i64 0] 25 (0,0))):=⟨by (with_reducible repeat (first|refine zbN ?_ _|refine zbD ?_|refine zbA ?_ _));refine blk_far ?_ (by have h_:=Kd.R_ne HO_163000.out BK153.out (by decide);intro e_;exact h_ (by rw [e_];rfl)) _;(with_reducible repeat (first|refine zbN ?_ _|refine zbD ?_|refine zbA ?_ _));exact BK153.out⟩
          have n5_:Aside0 ((w34.setCell ⟨go29,(x21_1:Int).toNat,none⟩ (.bool true)).heap[gb162]?=some (.cells #[.slice (some ⟨go29,0,none⟩) x163000_1.length co35,u163001,.int .i64 t161] 25 (0,0))):=⟨by (with_reducible repeat (first|refine zbN ?_ _|refine zbD ?_|refine zbA ?_ _));refine blk_far ?_ (by have h_:=Kd.R_ne HO_163000.out BK162.out (by decide);intro e_;exact h_ (by rw [e_];rfl)) _;(with_reducible repeat (first|refine zbN ?_ _|refine zbD ?_|refine zbA ?_ _));exact BK162.out⟩
          have n6_:Aside0 (Below w.heap.size w (w34.setCell ⟨go29,(x21_1:Int).toNat,none⟩ (.bool true))):=⟨by repeat (first|(with_reducible first|exact HB.out|apply zlA|apply zlN|apply zlD|refine zlS ?_ GB29.out|refine zlS ?_ GE151.out|refine zlS ?_ GE152.out|refine zlS ?_ GE153.out|refine zlS ?_ GE162.out)|exact HB.out)⟩
          (try clear HO_163000)
          (try clear HO_163001)
          (try clear BK151)
          (try clear BK152)
          (try clear BK153)
          (try clear BK162)
          (try clear HB)
          generalize (w34.setCell ⟨go29,(x21_1:Int).toNat,none⟩ (.bool true))=w37 at n0_ n1_ n2_ n3_ n4_ n5_ n6_ ⊢
          have HO_163000:=n0_
          have HO_163001:=n1_
          have BK151:=n2_
          have BK152:=n3_
          have BK153:=n4_
          have BK162:=n5_
          have HB:=n6_
          clear n0_ n1_ n2_ n3_ n4_ n5_ n6_
          have n0_:=zm (zrD HO_163000.out)
          have n1_:=zm (zrD HO_163001.out)
          have n2_:=zm (zbD BK151.out)
          have n3_:=zm (zbD BK152.out)
          have n4_:=zm (zbD BK153.out)
          have n5_:=zm (zbD BK162.out)
          have n6_:=zm (zlD HB.out)
          clear HO_163000 HO_163001 BK151 BK152 BK153 BK162 HB
          have HO_163000:=n0_
          have HO_163001:=n1_
          have BK151:=n2_
          have BK152:=n3_
          have BK153:=n4_
          have BK162:=n5_
          have HB:=n6_
          clear n0_ n1_ n2_ n3_ n4_ n5_ n6_
          obtain ⟨Ao39,co39,eo39⟩:=Kd.R_slice HO_163001.out
          (first|subst eo39|(injection eo39 with f1_ f2_ f3_;have f4_:=f1_.symm;have f5_:=f3_.symm;clear f1_ f2_ f3_;subst f4_;subst f5_))
          have p165:0≤(x21_1:Int):=of_decide_eq_true (by first|(with_reducible assumption)|assumption)
          have q165:x21_1 < (x163001_1.length:Int):=of_decide_eq_true (by first|(with_reducible assumption)|assumption)
          obtain ⟨ad165,e165,hx165_0⟩:=Kd.at_int (Kd.R_reads' HO_163001.out).2.2 x21_1 p165 q165
          cases e165
          replace p165:=eq_true p165
          replace q165:=eq_true q165
          have p166:0≤(x21_1:Int):=of_decide_eq_true (by first|(with_reducible assumption)|assumption)
          have q166:x21_1 < (l1_1.length:Int):=of_decide_eq_true (by first|(with_reducible assumption)|assumption)
          obtain ⟨ad166,e166,hx166_0⟩:=Kd.at_int HR1_1.out x21_1 p166 q166
          have hw166_0:=hx166_0
          cases e166
          replace hx166_0:=(HB.out.cell (World.block_lt_of_cell? w _ hx166_0)).trans hx166_0
          replace p166:=eq_true p166
          replace q166:=eq_true q166
          have p33:0≤(x21_1:Int):=of_decide_eq_true (by first|(with_reducible assumption)|assumption)
          have q33:(x21_1:Int) < ((x163001_1.length:Int):Int):=of_decide_eq_true (by first|(with_reducible assumption)|assumption)
          obtain ⟨go33,co33,eo33,gb33,gl33,cl33,HG33⟩:=Kd.R_form HO_163001.out (by omega)
          (first|cases eo33|(injection eo33 with ea_ en_ ec_;(first|subst ea_|(injection ea_ with ea_;subst ea_));subst ec_;clear en_))
          have GB33:=zm gb33
          have GG33:=zm HG33
          clear gb33 gl33 HG33
          (first|simp only [add_plain] at hx165_0|skip)
          obtain ⟨hx33_0,hf33_0⟩:=Kd.R_celln 0 HO_163001.out (x21_1:Int) p33 q33
          replace p33:=eq_true p33
          replace q33:=eq_true q33
          have HP40:=Kd.R_putn HO_163001.out (x21_1:Int) ji32
          rw [← Ny167.out] at HP40
          have HQ40:=zm HP40
          clear HP40
          refine start_ (n:=16) (S:=fun w'=>w'.cell? ⟨gb162,0,none⟩=some (.slice (some ⟨go29,0,none⟩) x163000_1.length co35)∧w'.cell? ⟨gb162,1,none⟩=some (.slice (some ⟨go33,0,none⟩) x163001_1.length co39)∧w'.cell? ⟨gb162,2,none⟩=some (.int .i64 t161)∧w'.cell? ⟨gb152,0,none⟩=some (.slice A1_0 l1_0.length c1_0)∧w'.cell? ⟨gb152,1,none⟩=some (.slice (some ad166) l1_1.length c1_1)∧w'.cell? ⟨gb152,2,none⟩=some (.int .i64 a1_2)∧w'.cell? ⟨go33,(x21_1).toNat,none⟩=some (.int .i64 (rd x163001_1 x21_1))∧w'.cell? (ad166.add (x21_1).toNat)=some (.int .i64 (rd l1_1 x21_1))) (ds:=[15]) #[false,false,false,false,false,false,false,false,false,false,false,false,false,false,false,false] (by kernel_rfl) rfl rfl ⟨(blk_cell BK162.out 0).trans rfl,(blk_cell BK162.out 1).trans rfl,(blk_cell BK162.out 2).trans rfl,(blk_cell BK152.out 0).trans rfl,(blk_cell BK152.out 1).trans rfl,(blk_cell BK152.out 2).trans rfl,hx165_0,((HB.out.cell (World.block_lt_of_cell? w _ hw166_0)).trans hw166_0)⟩ (fun hHeld=>?_);refine with_tabW mapjnl_Join.tab9 mapjnl_Join.bits9 (fun HT_ HW_=>?_)
          generalize w37.drew=w38 at HO_163000 HO_163001 BK151 BK152 BK153 BK162 HB GG33 HQ36 HQ40 hf33_0 hx165_0 hx166_0 hx33_0 hHeld ⊢
          refine pure_ (i:=0) (N:=some 40) (v:=?_) (a':=?_) #[true,false,false,false,false,false,false,false,false,false,false,false,false,false,false,false] rfl rfl (any_of HT_.out (by kernel_rfl)) (fun _ _ _ h=>h) (Or.inl ⟨by rfl,?_⟩) ?_ ?_
          rotate_left
          ·intro w'
           go_simp
           with_reducible rfl
          rotate_left
          ·simp only [Act.put,List.setIfInBounds_toArray,List.set_cons_zero,List.set_cons_succ,i64_w,i32_w]
           rfl
          refine pure_ (i:=2) (N:=some 42) (v:=?_) (a':=?_) #[true,false,true,false,false,false,false,false,false,false,false,false,false,false,false,false] rfl rfl (any_of HT_.out (by kernel_rfl)) (fun _ _ _ h=>h) (Or.inl ⟨by rfl,?_⟩) ?_ ?_
          rotate_left
          ·intro w'
           go_simp
           with_reducible rfl
          rotate_left
          ·simp only [Act.put,List.setIfInBounds_toArray,List.set_cons_zero,List.set_cons_succ,i64_w,i32_w]
           rfl
          refine pure_ (i:=3) (N:=some 43) (v:=?_) (a':=?_) #[true,false,true,true,false,false,false,false,false,false,false,false,false,false,false,false] rfl rfl (any_of HT_.out (by kernel_rfl)) (fun _ _ _ h=>h) (Or.inl ⟨by rfl,?_⟩) ?_ ?_
          rotate_left
          ·intro w'
           go_simp
           with_reducible rfl
          rotate_left
          ·simp only [Act.put,List.setIfInBounds_toArray,List.set_cons_zero,List.set_cons_succ,i64_w,i32_w]
           rfl
          refine pure_ (i:=5) (N:=some 45) (v:=?_) (a':=?_) #[true,false,true,true,false,true,false,false,false,false,false,false,false,false,false,false] rfl rfl (any_of HT_.out (by kernel_rfl)) (fun _ _ _ h=>h) (Or.inl ⟨by rfl,?_⟩) ?_ ?_
          rotate_left
          ·intro w'
           go_simp
           with_reducible rfl
          rotate_left
          ·simp only [Act.put,List.setIfInBounds_toArray,List.set_cons_zero,List.set_cons_succ,i64_w,i32_w]
           rfl
          refine pure_ (i:=8) (N:=some 48) (v:=?_) (a':=?_) #[true,false,true,true,false,true,false,false,true,false,false,false,false,false,false,false] rfl rfl (any_of HT_.out (by kernel_rfl)) (fun _ _ _ h=>h) (Or.inl ⟨by rfl,?_⟩) ?_ ?_
          rotate_left
          ·intro w'
           go_simp
           with_reducible rfl
          rotate_left
          ·simp only [Act.put,List.setIfInBounds_toArray,List.set_cons_zero,List.set_cons_succ,i64_w,i32_w]
           rfl
          refine pure_ (i:=10) (N:=some 50) (v:=?_) (a':=?_) #[true,false,true,true,false,true,false,false,true,false,true,false,false,false,false,false] rfl rfl (any_of HT_.out (by kernel_rfl)) (fun _ _ _ h=>h) (Or.inl ⟨by rfl,?_⟩) ?_ ?_
          rotate_left
          ·intro w'
           go_simp
           with_reducible rfl
          rotate_left
          ·simp only [Act.put,List.setIfInBounds_toArray,List.set_cons_zero,List.set_cons_succ,i64_w,i32_w]
           rfl
          refine take_ (i:=1) (N:=some 41) (v:=?_) (a':=?_) #[true,true,true,true,false,true,false,false,true,false,true,false,false,false,false,false] rfl rfl (take_ofW HT_.out HW_.out (by kernel_rfl)) (fun _ _ _ h=>h) (Or.inl ⟨by rfl,?_⟩) hHeld ?_ ?_
          rotate_left
          ·rintro w' ⟨s0,s1,s2,s3,s4,s5,s6,s7⟩
           go_simp
           with_reducible rfl
          rotate_left
          ·simp only [Act.put,List.setIfInBounds_toArray,List.set_cons_zero,List.set_cons_succ,i64_w,i32_w]
           rfl
          refine take_ (i:=4) (N:=some 44) (v:=?_) (a':=?_) #[true,true,true,true,true,true,false,false,true,false,true,false,false,false,false,false] rfl rfl (take_ofW HT_.out HW_.out (by kernel_rfl)) (fun _ _ _ h=>h) (Or.inl ⟨by rfl,?_⟩) hHeld ?_ ?_
          rotate_left
          ·rintro w' ⟨s0,s1,s2,s3,s4,s5,s6,s7⟩
           go_simp
           with_reducible rfl
          rotate_left
          ·simp only [Act.put,List.setIfInBounds_toArray,List.set_cons_zero,List.set_cons_succ,i64_w,i32_w]
           rfl
          refine pure_ (i:=6) (N:=some 46) (v:=?_) (a':=?_) #[true,true,true,true,true,true,true,false,true,false,true,false,false,false,false,false] rfl rfl (any_of HT_.out (by kernel_rfl)) (fun _ _ _ h=>h) (Or.inl ⟨by rfl,?_⟩) ?_ ?_
          rotate_left
          ·intro w'
           go_simp
           with_reducible rfl
          rotate_left
          ·simp only [Act.put,List.setIfInBounds_toArray,List.set_cons_zero,List.set_cons_succ,i64_w,i32_w]
           rfl
          refine take_ (i:=7) (N:=some 47) (v:=?_) (a':=?_) #[true,true,true,true,true,true,true,true,true,false,true,false,false,false,false,false] rfl rfl (take_ofW HT_.out HW_.out (by kernel_rfl)) (fun _ _ _ h=>h) (Or.inl ⟨by rfl,?_⟩) hHeld ?_ ?_
          rotate_left
          ·rintro w' ⟨s0,s1,s2,s3,s4,s5,s6,s7⟩
           go_simp
           with_reducible rfl
          rotate_left
          ·simp only [Act.put,List.setIfInBounds_toArray,List.set_cons_zero,List.set_cons_succ,i64_w,i32_w]
           rfl
          refine take_ (i:=9) (N:=some 49) (v:=?_) (a':=?_) #[true,true,true,true,true,true,true,true,true,true,true,false,false,false,false,false] rfl rfl (take_ofW HT_.out HW_.out (by kernel_rfl)) (fun _ _ _ h=>h) (Or.inl ⟨by rfl,?_⟩) hHeld ?_ ?_
          rotate_left
          ·rintro w' ⟨s0,s1,s2,s3,s4,s5,s6,s7⟩
           go_simp
           with_reducible rfl
          rotate_left
          ·simp only [Act.put,List.setIfInBounds_toArray,List.set_cons_zero,List.set_cons_succ,i64_w,i32_w]
           rfl
          refine pure_ (i:=11) (N:=some 51) (v:=?_) (a':=?_) #[true,true,true,true,true,true,true,true,true,true,true,true,false,false,false,false] rfl rfl (any_of HT_.out (by kernel_rfl)) (fun _ _ _ h=>h) (Or.inl ⟨by rfl,?_⟩) ?_ ?_
          rotate_left
          ·intro w'
           go_simp
           with_reducible rfl
          rotate_left
          ·simp only [Act.put,List.setIfInBounds_toArray,List.set_cons_zero,List.set_cons_succ,i64_w,i32_w]
           rfl
          refine take_ (i:=12) (N:=some 52) (v:=?_) (a':=?_) #[true,true,true,true,true,true,true,true,true,true,true,true,true,false,false,false] rfl rfl (take_ofW HT_.out HW_.out (by kernel_rfl)) (fun _ _ _ h=>h) (Or.inl ⟨by rfl,?_⟩) hHeld ?_ ?_
          rotate_left
          ·rintro w' ⟨s0,s1,s2,s3,s4,s5,s6,s7⟩
           go_simp
           with_reducible rfl
          rotate_left
          ·simp only [Act.put,List.setIfInBounds_toArray,List.set_cons_zero,List.set_cons_succ,i64_w,i32_w]
           rfl
          refine pure_ (i:=13) (N:=some 53) (v:=?_) (a':=?_) #[true,true,true,true,true,true,true,true,true,true,true,true,true,true,false,false] rfl rfl (any_of HT_.out (by kernel_rfl)) (fun _ _ _ h=>h) (Or.inl ⟨by rfl,?_⟩) ?_ ?_
          rotate_left
          ·intro w'
           go_simp
           with_reducible rfl
          rotate_left
          ·simp only [Act.put,List.setIfInBounds_toArray,List.set_cons_zero,List.set_cons_succ,i64_w,i32_w]
           rfl
          refine pure_ (i:=14) (N:=some 54) (v:=?_) (a':=?_) #[true,true,true,true,true,true,true,true,true,true,true,true,true,true,true,false] rfl rfl (any_of HT_.out (by kernel_rfl)) (fun _ _ _ h=>h) (Or.inl ⟨by rfl,?_⟩) ?_ ?_
          rotate_left
          ·intro w'
           go_simp
           with_reducible rfl
          rotate_left
          ·simp only [Act.put,List.setIfInBounds_toArray,List.set_cons_zero,List.set_cons_succ,i64_w,i32_w]
           rfl
          refine last_ (i:=15) (N:=none) #[true,true,true,true,true,true,true,true,true,true,true,true,true,true,true,true] rfl rfl (one_of HT_.out (by kernel_rfl)) (by decide) (fun K hK=>?_)
          refine skip_ (w1:=?_) (by rfl) rfl ?_ ?_
          rotate_left
          ·go_simp
           rfl
          refine hK.out _ _ ?_
          clear hK K
          refine done_ (done_of HT_.out (by kernel_rfl)) ?_
          try go_wp2
          go_roundg k1
          case measure=>have:=HK1.out;omega
          case rel=>exact ⟨(wrap64 (x21_1 + 1)),(y164),(y167),(.slice (some ⟨go29,0,none⟩) x163000_1.length co35),(.slice (some ⟨go33,0,none⟩) x163001_1.length co39),(by first|rfl|(simp;done)|(simp [*];done)),H',⟨by have:=HK1.out;omega⟩,⟨by (with_reducible repeat (first|apply zrA|apply zrN|apply zrD));exact Kd.R_mono (Kd.R_far (p:=⟨go33,(x21_1:Int).toNat,none⟩) (Kd.R_types HO_163000.out GG33.out (by decide)) (fun _ hk=>hk.2) (.int .i64 ji32)) (fun _ hk=>trivial)⟩,⟨by (with_reducible repeat (first|apply zrA|apply zrN|apply zrD));exact HQ40.out⟩,⟨by (with_reducible repeat (first|refine zbN ?_ _|refine zbD ?_|refine zbA ?_ _));refine blk_far ?_ (by have h_:=Kd.R_ne HO_163001.out BK151.out (by decide);intro e_;exact h_ (by rw [e_];rfl)) _;(with_reducible repeat (first|refine zbN ?_ _|refine zbD ?_|refine zbA ?_ _));exact BK151.out⟩,⟨by (with_reducible repeat (first|refine zbN ?_ _|refine zbD ?_|refine zbA ?_ _));refine blk_far ?_ (by have h_:=Kd.R_ne HO_163001.out BK152.out (by decide);intro e_;exact h_ (by rw [e_];rfl)) _;(with_reducible repeat (first|refine zbN ?_ _|refine zbD ?_|refine zbA ?_ _));exact BK152.out⟩,⟨by (with_reducible repeat (first|refine zbN ?_ _|refine zbD ?_|refine zbA ?_ _));refine blk_far ?_ (by have h_:=Kd.R_ne HO_163001.out BK153.out (by decide);intro e_;exact h_ (by rw [e_];rfl)) _;(with_reducible repeat (first|refine zbN ?_ _|refine zbD ?_|refine zbA ?_ _));exact BK153.out⟩,⟨by (with_reducible repeat (first|refine zbN ?_ _|refine zbD ?_|refine zbA ?_ _));refine blk_far ?_ (by have h_:=Kd.R_ne HO_163001.out BK162.out (by decide);intro e_;exact h_ (by rw [e_];rfl)) _;(with_reducible repeat (first|refine zbN ?_ _|refine zbD ?_|refine zbA ?_ _));exact BK162.out⟩,⟨by repeat (first|(with_reducible first|exact HB.out|apply zlA|apply zlN|apply zlD|refine zlS ?_ GB33.out|refine zlS ?_ GE151.out|refine zlS ?_ GE152.out|refine zlS ?_ GE153.out|refine zlS ?_ GE162.out)|exact HB.out)⟩⟩
         ·rw [if_neg c31] at H
          exact absurd H (by simp)
        ·rw [if_neg c30] at H
         exact absurd H (by simp)
       ·replace c28:=Bool.eq_false_iff.mpr c28
        subst c28
        have H1:(if x21_1 < (l1_0.length:Int) then (if x21_1 < (x163001_1.length:Int) then (if x21_1 < (l1_1.length:Int) then (mapjnl_Join.l0 k1 (t155.length:Int) (wrap64 (x21_1 + 1)) l1_0 l1_1 a1_2 (x163000_1.set (x21_1:Int).toNat (rdOf false l1_0 x21_1)) (x163001_1.set (x21_1:Int).toNat (mx (rd x163001_1 x21_1) (rd l1_1 x21_1))) t161) else (none)) else (none)) else (none))=some (r1,r2,r3,r4):=by rw [if_neg (show ¬ (false=true) by decide)] at H;exact H
        clear H
        have H:=H1
        clear H1
        by_cases c41:x21_1 < (l1_0.length:Int)
        ·rw [if_pos c41] at H
         have c41b0:decide (x21_1 < (l1_0.length:Int))=true:=decide_eq_true c41
         clear c41
         obtain ⟨y169,hy169⟩:∃ y_:List Bool,y_=(x163000_1.set (x21_1:Int).toNat (rdOf false l1_0 x21_1)):=⟨_,rfl⟩
         replace H:(if x21_1 < (x163001_1.length:Int) then (if x21_1 < (l1_1.length:Int) then (mapjnl_Join.l0 k1 (t155.length:Int) (wrap64 (x21_1 + 1)) l1_0 l1_1 a1_2 y169 (x163001_1.set (x21_1:Int).toNat (mx (rd x163001_1 x21_1) (rd l1_1 x21_1))) t161) else (none)) else (none))=some (r1,r2,r3,r4):=by first|(rw [hy169];with_reducible exact H)|(have H2_:=(Option.bind_some _ _).symm.trans H;rw [hy169];with_reducible exact H2_)|(have H2_:=(Option.bind_some _ _).symm.trans H;with_reducible exact H2_)|with_reducible exact H|(rw [hy169];exact H)|exact H
         have Ny169:=zm hy169
         clear hy169
         by_cases c43:x21_1 < (x163001_1.length:Int)
         ·rw [if_pos c43] at H
          have c43b0:decide (x21_1 < (x163001_1.length:Int))=true:=decide_eq_true c43
          clear c43
          by_cases c44:x21_1 < (l1_1.length:Int)
          ·rw [if_pos c44] at H
           have c44b0:decide (x21_1 < (l1_1.length:Int))=true:=decide_eq_true c44
           clear c44
           obtain ⟨ji45,hji45⟩:∃ j_:Int,(mx (rd x163001_1 x21_1) (rd l1_1 x21_1))=j_:=⟨_,rfl⟩
           replace H:(mapjnl_Join.l0 k1 (t155.length:Int) (wrap64 (x21_1 + 1)) l1_0 l1_1 a1_2 y169 (x163001_1.set (x21_1:Int).toNat (ji45)) t161)=some (r1,r2,r3,r4):=by first|(rw [hji45] at H;exact H)|(simp only [hji45] at H ⊢;exact H)
           have hji45_:(if (rd x163001_1 x21_1) < (rd l1_1 x21_1) then (rd l1_1 x21_1) else (rd x163001_1 x21_1))=ji45:=hji45
           obtain ⟨y172,hy172⟩:∃ y_:List Int,y_=(x163001_1.set (x21_1:Int).toNat (ji45)):=⟨_,rfl⟩
           replace H:(mapjnl_Join.l0 k1 (t155.length:Int) (wrap64 (x21_1 + 1)) l1_0 l1_1 a1_2 y169 y172 t161)=some (r1,r2,r3,r4):=by first|(rw [hy172];with_reducible exact H)|(have H2_:=(Option.bind_some _ _).symm.trans H;rw [hy172];with_reducible exact H2_)|(have H2_:=(Option.bind_some _ _).symm.trans H;with_reducible exact H2_)|with_reducible exact H|(rw [hy172];exact H)|exact H
           have Ny172:=zm hy172
           clear hy172
           have H':=zm H
           clear H
           try go_wp2
           have n0_:=zm (zrD HO_163000.out)
           have n1_:=zm (zrD HO_163001.out)
           have n2_:=zm (zbD BK151.out)
           have n3_:=zm (zbD BK152.out)
           have n4_:=zm (zbD BK153.out)
           have n5_:=zm (zbD BK162.out)
           have n6_:=zm (zlD HB.out)
           clear HO_163000 HO_163001 BK151 BK152 BK153 BK162 HB
           have HO_163000:=n0_
           have HO_163001:=n1_
           have BK151:=n2_
           have BK152:=n3_
           have BK153:=n4_
           have BK162:=n5_
           have HB:=n6_
           clear n0_ n1_ n2_ n3_ n4_ n5_ n6_
           obtain ⟨Ao48,co48,eo48⟩:=Kd.R_slice HO_163000.out
           (first|subst eo48|(injection eo48 with f1_ f2_ f3_;have f4_:=f1_.symm;have f5_:=f3_.symm;clear f1_ f2_ f3_;subst f4_;subst f5_))
           have p163:0≤(x21_1:Int):=of_decide_eq_true (by first|(with_reducible assumption)|assumption)
           have q163:x21_1 < (x163000_1.length:Int):=of_decide_eq_true (by first|(with_reducible assumption)|assumption)
           obtain ⟨ad163,e163,hx163_0⟩:=Kd.at_bool (Kd.R_reads' HO_163000.out).2.2 x21_1 p163 q163
           (try rw [← Nbq27.out] at hx163_0)
           cases e163
           replace p163:=eq_true p163
           replace q163:=eq_true q163
           have p168:0≤(x21_1:Int):=of_decide_eq_true (by first|(with_reducible assumption)|assumption)
           have q168:x21_1 < (l1_0.length:Int):=of_decide_eq_true (by first|(with_reducible assumption)|assumption)
           obtain ⟨ad168,e168,hx168_0⟩:=Kd.at_bool HR1_0.out x21_1 p168 q168
           have hw168_0:=hx168_0
           (try rw [← Nbq27.out] at hx168_0)
           cases e168
           replace hx168_0:=(HB.out.cell (World.block_lt_of_cell? w _ hx168_0)).trans hx168_0
           replace p168:=eq_true p168
           replace q168:=eq_true q168
           have p42:0≤(x21_1:Int):=of_decide_eq_true (by first|(with_reducible assumption)|assumption)
           have q42:(x21_1:Int) < ((x163000_1.length:Int):Int):=of_decide_eq_true (by first|(with_reducible assumption)|assumption)
           obtain ⟨go42,co42,eo42,gb42,gl42,cl42,HG42⟩:=Kd.R_form HO_163000.out (by omega)
           (first|cases eo42|(injection eo42 with ea_ en_ ec_;(first|subst ea_|(injection ea_ with ea_;subst ea_));subst ec_;clear en_))
           have GB42:=zm gb42
           have GG42:=zm HG42
           clear gb42 gl42 HG42
           (first|simp only [add_plain] at hx163_0|skip)
           obtain ⟨hx42_0,hf42_0⟩:=Kd.R_celln false HO_163000.out (x21_1:Int) p42 q42
           replace p42:=eq_true p42
           replace q42:=eq_true q42
           have HP49:=Kd.R_putn HO_163000.out (x21_1:Int) (rdOf false l1_0 x21_1)
           rw [← Ny169.out] at HP49
           have HQ49:=zm HP49
           clear HP49
           refine start_ (n:=17) (S:=fun w'=>w'.cell? ⟨gb162,0,none⟩=some (.slice (some ⟨go42,0,none⟩) x163000_1.length co48)∧w'.cell? ⟨gb162,1,none⟩=some (u163001)∧w'.cell? ⟨gb162,2,none⟩=some (.int .i64 t161)∧w'.cell? ⟨gb152,0,none⟩=some (.slice (some ad168) l1_0.length c1_0)∧w'.cell? ⟨gb152,1,none⟩=some (.slice A1_1 l1_1.length c1_1)∧w'.cell? ⟨gb152,2,none⟩=some (.int .i64 a1_2)∧w'.cell? ⟨go42,(x21_1).toNat,none⟩=some (.bool false)∧w'.cell? (ad168.add (x21_1).toNat)=some (.bool (rdOf false l1_0 x21_1))) (ds:=[16]) #[false,false,false,false,false,false,false,false,false,false,false,false,false,false,false,false,false] (by kernel_rfl) rfl rfl ⟨(blk_cell BK162.out 0).trans rfl,(blk_cell BK162.out 1).trans rfl,(blk_cell BK162.out 2).trans rfl,(blk_cell BK152.out 0).trans rfl,(blk_cell BK152.out 1).trans rfl,(blk_cell BK152.out 2).trans rfl,hx163_0,((HB.out.cell (World.block_lt_of_cell? w _ hw168_0)).trans hw168_0)⟩ (fun hHeld=>?_);refine with_tabW mapjnl_Join.tab8 mapjnl_Join.bits8 (fun HT_ HW_=>?_)
           generalize wr.drew=w47 at HO_163000 HO_163001 BK151 BK152 BK153 BK162 HB GG42 HQ49 hf42_0 hx163_0 hx168_0 hx42_0 hHeld ⊢
           refine pure_ (i:=0) (N:=some 24) (v:=?_) (a':=?_) #[true,false,false,false,false,false,false,false,false,false,false,false,false,false,false,false,false] rfl rfl (any_of HT_.out (by kernel_rfl)) (fun _ _ _ h=>h) (Or.inl ⟨by rfl,?_⟩) ?_ ?_
           rotate_left
           ·intro w'
            go_simp
            with_reducible rfl
           rotate_left
           ·simp only [Act.put,List.setIfInBounds_toArray,List.set_cons_zero,List.set_cons_succ,i64_w,i32_w]
            rfl
           refine pure_ (i:=2) (N:=some 26) (v:=?_) (a':=?_) #[true,false,true,false,false,false,false,false,false,false,false,false,false,false,false,false,false] rfl rfl (any_of HT_.out (by kernel_rfl)) (fun _ _ _ h=>h) (Or.inl ⟨by rfl,?_⟩) ?_ ?_
           rotate_left
           ·intro w'
            go_simp
            with_reducible rfl
           rotate_left
           ·simp only [Act.put,List.setIfInBounds_toArray,List.set_cons_zero,List.set_cons_succ,i64_w,i32_w]
            rfl
           refine pure_ (i:=3) (N:=some 27) (v:=?_) (a':=?_) #[true,false,true,true,false,false,false,false,false,false,false,false,false,false,false,false,false] rfl rfl (any_of HT_.out (by kernel_rfl)) (fun _ _ _ h=>h) (Or.inl ⟨by rfl,?_⟩) ?_ ?_
           rotate_left
           ·intro w'
            go_simp
            with_reducible rfl
           rotate_left
           ·simp only [Act.put,List.setIfInBounds_toArray,List.set_cons_zero,List.set_cons_succ,i64_w,i32_w]
            rfl
           refine pure_ (i:=5) (N:=some 29) (v:=?_) (a':=?_) #[true,false,true,true,false,true,false,false,false,false,false,false,false,false,false,false,false] rfl rfl (any_of HT_.out (by kernel_rfl)) (fun _ _ _ h=>h) (Or.inl ⟨by rfl,?_⟩) ?_ ?_
           rotate_left
           ·intro w'
            go_simp
            with_reducible rfl
           rotate_left
           ·simp only [Act.put,List.setIfInBounds_toArray,List.set_cons_zero,List.set_cons_succ,i64_w,i32_w]
            rfl
           refine take_ (i:=1) (N:=some 25) (v:=?_) (a':=?_) #[true,true,true,true,false,true,false,false,false,false,false,false,false,false,false,false,false] rfl rfl (take_ofW HT_.out HW_.out (by kernel_rfl)) (fun _ _ _ h=>h) (Or.inl ⟨by rfl,?_⟩) hHeld ?_ ?_
           rotate_left
           ·rintro w' ⟨s0,s1,s2,s3,s4,s5,s6,s7⟩
            go_simp
            with_reducible rfl
           rotate_left
           ·simp only [Act.put,List.setIfInBounds_toArray,List.set_cons_zero,List.set_cons_succ,i64_w,i32_w]
            rfl
           refine take_ (i:=4) (N:=some 28) (v:=?_) (a':=?_) #[true,true,true,true,true,true,false,false,false,false,false,false,false,false,false,false,false] rfl rfl (take_ofW HT_.out HW_.out (by kernel_rfl)) (fun _ _ _ h=>h) (Or.inl ⟨by rfl,?_⟩) hHeld ?_ ?_
           rotate_left
           ·rintro w' ⟨s0,s1,s2,s3,s4,s5,s6,s7⟩
            go_simp
            with_reducible rfl
           rotate_left
           ·simp only [Act.put,List.setIfInBounds_toArray,List.set_cons_zero,List.set_cons_succ,i64_w,i32_w]
            rfl
           refine pure_ (i:=6) (N:=some 30) (v:=?_) (a':=?_) #[true,true,true,true,true,true,true,false,false,false,false,false,false,false,false,false,false] rfl rfl (any_of HT_.out (by kernel_rfl)) (fun _ _ _ h=>h) (Or.inl ⟨by rfl,?_⟩) ?_ ?_
           rotate_left
           ·intro w'
            go_simp
            with_reducible rfl
           rotate_left
           ·simp only [Act.put,List.setIfInBounds_toArray,List.set_cons_zero,List.set_cons_succ,i64_w,i32_w]
            rfl
           refine take_ (i:=7) (N:=some 31) (v:=?_) (a':=?_) #[true,true,true,true,true,true,true,true,false,false,false,false,false,false,false,false,false] rfl rfl (take_ofW HT_.out HW_.out (by kernel_rfl)) (fun _ _ _ h=>h) (Or.inl ⟨by rfl,?_⟩) hHeld ?_ ?_
           rotate_left
           ·rintro w' ⟨s0,s1,s2,s3,s4,s5,s6,s7⟩
            go_simp
            with_reducible rfl
           rotate_left
           ·simp only [Act.put,List.setIfInBounds_toArray,List.set_cons_zero,List.set_cons_succ,i64_w,i32_w]
            rfl
           refine pure_ (i:=8) (N:=some 32) (v:=?_) (a':=?_) #[true,true,true,true,true,true,true,true,true,false,false,false,false,false,false,false,false] rfl rfl (any_of HT_.out (by kernel_rfl)) (fun _ _ _ h=>h) (Or.inl ⟨by rfl,?_⟩) ?_ ?_
           rotate_left
           ·intro w'
            go_simp
            with_reducible rfl
           rotate_left
           ·simp only [Act.put,List.setIfInBounds_toArray,List.set_cons_zero,List.set_cons_succ,i64_w,i32_w]
            rfl
           refine pure_ (i:=9) (N:=some 33) (v:=?_) (a':=?_) #[true,true,true,true,true,true,true,true,true,true,false,false,false,false,false,false,false] rfl rfl (any_of HT_.out (by kernel_rfl)) (fun _ _ _ h=>h) (Or.inl ⟨by rfl,?_⟩) ?_ ?_
           rotate_left
           ·intro w'
            go_simp
            with_reducible rfl
           rotate_left
           ·simp only [Act.put,List.setIfInBounds_toArray,List.set_cons_zero,List.set_cons_succ,i64_w,i32_w]
            rfl
           refine pure_ (i:=11) (N:=some 35) (v:=?_) (a':=?_) #[true,true,true,true,true,true,true,true,true,true,false,true,false,false,false,false,false] rfl rfl (any_of HT_.out (by kernel_rfl)) (fun _ _ _ h=>h) (Or.inl ⟨by rfl,?_⟩) ?_ ?_
           rotate_left
           ·intro w'
            go_simp
            with_reducible rfl
           rotate_left
           ·simp only [Act.put,List.setIfInBounds_toArray,List.set_cons_zero,List.set_cons_succ,i64_w,i32_w]
            rfl
           refine take_ (i:=10) (N:=some 34) (v:=?_) (a':=?_) #[true,true,true,true,true,true,true,true,true,true,true,true,false,false,false,false,false] rfl rfl (take_ofW HT_.out HW_.out (by kernel_rfl)) (fun _ _ _ h=>h) (Or.inl ⟨by rfl,?_⟩) hHeld ?_ ?_
           rotate_left
           ·rintro w' ⟨s0,s1,s2,s3,s4,s5,s6,s7⟩
            go_simp
            with_reducible rfl
           rotate_left
           ·simp only [Act.put,List.setIfInBounds_toArray,List.set_cons_zero,List.set_cons_succ,i64_w,i32_w]
            rfl
           refine pure_ (i:=12) (N:=some 36) (v:=?_) (a':=?_) #[true,true,true,true,true,true,true,true,true,true,true,true,true,false,false,false,false] rfl rfl (any_of HT_.out (by kernel_rfl)) (fun _ _ _ h=>h) (Or.inl ⟨by rfl,?_⟩) ?_ ?_
           rotate_left
           ·intro w'
            go_simp
            with_reducible rfl
           rotate_left
           ·simp only [Act.put,List.setIfInBounds_toArray,List.set_cons_zero,List.set_cons_succ,i64_w,i32_w]
            rfl
           refine take_ (i:=13) (N:=some 37) (v:=?_) (a':=?_) #[true,true,true,true,true,true,true,true,true,true,true,true,true,true,false,false,false] rfl rfl (take_ofW HT_.out HW_.out (by kernel_rfl)) (fun _ _ _ h=>h) (Or.inl ⟨by rfl,?_⟩) hHeld ?_ ?_
           rotate_left
           ·rintro w' ⟨s0,s1,s2,s3,s4,s5,s6,s7⟩
            go_simp
            with_reducible rfl
           rotate_left
           ·simp only [Act.put,List.setIfInBounds_toArray,List.set_cons_zero,List.set_cons_succ,i64_w,i32_w]
            rfl
           refine pure_ (i:=14) (N:=some 38) (v:=?_) (a':=?_) #[true,true,true,true,true,true,true,true,true,true,true,true,true,true,true,false,false] rfl rfl (any_of HT_.out (by kernel_rfl)) (fun _ _ _ h=>h) (Or.inl ⟨by rfl,?_⟩) ?_ ?_
           rotate_left
           ·intro w'
            go_simp
            with_reducible rfl
           rotate_left
           ·simp only [Act.put,List.setIfInBounds_toArray,List.set_cons_zero,List.set_cons_succ,i64_w,i32_w]
            rfl
           refine pure_ (i:=15) (N:=some 39) (v:=?_) (a':=?_) #[true,true,true,true,true,true,true,true,true,true,true,true,true,true,true,true,false] rfl rfl (any_of HT_.out (by kernel_rfl)) (fun _ _ _ h=>h) (Or.inl ⟨by rfl,?_⟩) ?_ ?_
           rotate_left
           ·intro w'
            go_simp
            with_reducible rfl
           rotate_left
           ·simp only [Act.put,List.setIfInBounds_toArray,List.set_cons_zero,List.set_cons_succ,i64_w,i32_w]
            rfl
           refine last_ (i:=16) (N:=none) #[true,true,true,true,true,true,true,true,true,true,true,true,true,true,true,true,true] rfl rfl (one_of HT_.out (by kernel_rfl)) (by decide) (fun K hK=>?_)
           refine skip_ (w1:=?_) (by rfl) rfl ?_ ?_
           rotate_left
           ·go_simp
            rfl
           refine hK.out _ _ ?_
           clear hK K
           refine done_ (done_of HT_.out (by kernel_rfl)) ?_
           try go_wp2
           have n0_:Aside0 (Kd.R Kd.bool 4 (w47.setCell ⟨go42,(x21_1:Int).toNat,none⟩ (.bool (rdOf false l1_0 x21_1))) w.heap.size (fun _=>True) (.slice (some ⟨go42,0,none⟩) x163000_1.length co48) y169):=⟨by (with_reducible repeat (first|apply zrA|apply zrN|apply zrD));exact HQ49.out⟩
           have n1_:Aside0 (Kd.R (Kd.int .i64) 2 (w47.setCell ⟨go42,(x21_1:Int).toNat,none⟩ (.bool (rdOf false l1_0 x21_1))) w.heap.size (fun _=>True) u163001 x163001_1):=⟨by (with_reducible repeat (first|apply zrA|apply zrN|apply zrD));exact Kd.R_mono (Kd.R_far (p:=⟨go42,(x21_1:Int).toNat,none⟩) (Kd.R_types HO_163001.out GG42.out (by decide)) (fun _ hk=>hk.2) (.bool (rdOf false l1_0 x21_1))) (fun _ hk=>trivial)⟩
           have n2_:Aside0 ((w47.setCell ⟨go42,(x21_1:Int).toNat,none⟩ (.bool (rdOf false l1_0 x21_1))).heap[gb151]?=some (.cells #[.slice A0_0 l0_0.length c0_0,.slice A0_1 l0_1.length c0_1,.int .i64 a0_2] 25 (0,0))):=⟨by (with_reducible repeat (first|refine zbN ?_ _|refine zbD ?_|refine zbA ?_ _));refine blk_far ?_ (by have h_:=Kd.R_ne HO_163000.out BK151.out (by decide);intro e_;exact h_ (by rw [e_];rfl)) _;(with_reducible repeat (first|refine zbN ?_ _|refine zbD ?_|refine zbA ?_ _));exact BK151.out⟩
           have n3_:Aside0 ((w47.setCell ⟨go42,(x21_1:Int).toNat,none⟩ (.bool (rdOf false l1_0 x21_1))).heap[gb152]?=some (.cells #[.slice (some ad168) l1_0.length c1_0,.slice A1_1 l1_1.length c1_1,.int .i64 a1_2] 25 (0,0))):=⟨by (with_reducible repeat (first|refine zbN ?_ _|refine zbD ?_|refine zbA ?_ _));refine blk_far ?_ (by have h_:=Kd.R_ne HO_163000.out BK152.out (by decide);intro e_;exact h_ (by rw [e_];rfl)) _;(with_reducible repeat (first|refine zbN ?_ _|refine zbD ?_|refine zbA ?_ _));exact BK152.out⟩
           have n4_:Aside0 ((w47.setCell ⟨go42,(x21_1:Int).toNat,none⟩ (.bool (rdOf false l1_0 x21_1))).heap[gb153]?=some (.cells #[.slice none 0 0,.slice none 0 0,.int .i64 0] 25 (0,0))):=⟨by (with_reducible repeat (first|refine zbN ?_ _|refine zbD ?_|refine zbA ?_ _));refine blk_far ?_ (by have h_:=Kd.R_ne HO_163000.out BK153.out (by decide);intro e_;exact h_ (by rw [e_];rfl)) _;(with_reducible repeat (first|refine zbN ?_ _|refine zbD ?_|refine zbA ?_ _));exact BK153.out⟩
           have n5_:Aside0 ((w47.setCell ⟨go42,(x21_1:Int).toNat,none⟩ (.bool (rdOf false l1_0 x21_1))).heap[gb162]?=some (.cells #[.slice (some ⟨go42,0,none⟩) x163000_1.length co48,u163001,.int .i64 t161] 25 (0,0))):=⟨by (with_reducible repeat (first|refine zbN ?_ _|refine zbD ?_|refine zbA ?_ _));refine blk_far ?_ (by have h_:=Kd.R_ne HO_163000.out BK162.out (by decide);intro e_;exact h_ (by rw [e_];rfl)) _;(with_reducible repeat (first|refine zbN ?_ _|refine zbD ?_|refine zbA ?_ _));exact BK162.out⟩
           have n6_:Aside0 (Below w.heap.size w (w47.setCell ⟨go42,(x21_1:Int).toNat,none⟩ (.bool (rdOf false l1_0 x21_1)))):=⟨by repeat (first|(with_reducible first|exact HB.out|apply zlA|apply zlN|apply zlD|refine zlS ?_ GB42.out|refine zlS ?_ GE151.out|refine zlS ?_ GE152.out|refine zlS ?_ GE153.out|refine zlS ?_ GE162.out)|exact HB.out)⟩
           (try clear HO_163000)
           (try clear HO_163001)
           (try clear BK151)
           (try clear BK152)
           (try clear BK153)
           (try clear BK162)
           (try clear HB)
           generalize (w47.setCell ⟨go42,(x21_1:Int).toNat,none⟩ (.bool (rdOf false l1_0 x21_1)))=w50 at n0_ n1_ n2_ n3_ n4_ n5_ n6_ ⊢
           have HO_163000:=n0_
           have HO_163001:=n1_
           have BK151:=n2_
           have BK152:=n3_
           have BK153:=n4_
           have BK162:=n5_
           have HB:=n6_
           clear n0_ n1_ n2_ n3_ n4_ n5_ n6_
           have n0_:=zm (zrD HO_163000.out)
           have n1_:=zm (zrD HO_163001.out)
           have n2_:=zm (zbD BK151.out)
           have n3_:=zm (zbD BK152.out)
           have n4_:=zm (zbD BK153.out)
           have n5_:=zm (zbD BK162.out)
           have n6_:=zm (zlD HB.out)
           clear HO_163000 HO_163001 BK151 BK152 BK153 BK162 HB
           have HO_163000:=n0_
           have HO_163001:=n1_
           have BK151:=n2_
           have BK152:=n3_
           have BK153:=n4_
           have BK162:=n5_
           have HB:=n6_
           clear n0_ n1_ n2_ n3_ n4_ n5_ n6_
           obtain ⟨Ao52,co52,eo52⟩:=Kd.R_slice HO_163001.out
           (first|subst eo52|(injection eo52 with f1_ f2_ f3_;have f4_:=f1_.symm;have f5_:=f3_.symm;clear f1_ f2_ f3_;subst f4_;subst f5_))
           have p170:0≤(x21_1:Int):=of_decide_eq_true (by first|(with_reducible assumption)|assumption)
           have q170:x21_1 < (x163001_1.length:Int):=of_decide_eq_true (by first|(with_reducible assumption)|assumption)
           obtain ⟨ad170,e170,hx170_0⟩:=Kd.at_int (Kd.R_reads' HO_163001.out).2.2 x21_1 p170 q170
           cases e170
           replace p170:=eq_true p170
           replace q170:=eq_true q170
           have p171:0≤(x21_1:Int):=of_decide_eq_true (by first|(with_reducible assumption)|assumption)
           have q171:x21_1 < (l1_1.length:Int):=of_decide_eq_true (by first|(with_reducible assumption)|assumption)
           obtain ⟨ad171,e171,hx171_0⟩:=Kd.at_int HR1_1.out x21_1 p171 q171
           have hw171_0:=hx171_0
           cases e171
           replace hx171_0:=(HB.out.cell (World.block_lt_of_cell? w _ hx171_0)).trans hx171_0
           replace p171:=eq_true p171
           replace q171:=eq_true q171
           have p46:0≤(x21_1:Int):=of_decide_eq_true (by first|(with_reducible assumption)|assumption)
           have q46:(x21_1:Int) < ((x163001_1.length:Int):Int):=of_decide_eq_true (by first|(with_reducible assumption)|assumption)
           obtain ⟨go46,co46,eo46,gb46,gl46,cl46,HG46⟩:=Kd.R_form HO_163001.out (by omega)
           (first|cases eo46|(injection eo46 with ea_ en_ ec_;(first|subst ea_|(injection ea_ with ea_;subst ea_));subst ec_;clear en_))
           have GB46:=zm gb46
           have GG46:=zm HG46
           clear gb46 gl46 HG46
           (first|simp only [add_plain] at hx170_0|skip)
           obtain ⟨hx46_0,hf46_0⟩:=Kd.R_celln 0 HO_163001.out (x21_1:Int) p46 q46
           replace p46:=eq_true p46
           replace q46:=eq_true q46
           have HP53:=Kd.R_putn HO_163001.out (x21_1:Int) ji45
           rw [← Ny172.out] at HP53
           have HQ53:=zm HP53
           clear HP53
           refine start_ (n:=16) (S:=fun w'=>w'.cell? ⟨gb162,0,none⟩=some (.slice (some ⟨go42,0,none⟩) x163000_1.length co48)∧w'.cell? ⟨gb162,1,none⟩=some (.slice (some ⟨go46,0,none⟩) x163001_1.length co52)∧w'.cell? ⟨gb162,2,none⟩=some (.int .i64 t161)∧w'.cell? ⟨gb152,0,none⟩=some (.slice (some ad168) l1_0.length c1_0)∧w'.cell? ⟨gb152,1,none⟩=some (.slice (some ad171) l1_1.length c1_1)∧w'.cell? ⟨gb152,2,none⟩=some (.int .i64 a1_2)∧w'.cell? ⟨go46,(x21_1).toNat,none⟩=some (.int .i64 (rd x163001_1 x21_1))∧w'.cell? (ad171.add (x21_1).toNat)=some (.int .i64 (rd l1_1 x21_1))) (ds:=[15]) #[false,false,false,false,false,false,false,false,false,false,false,false,false,false,false,false] (by kernel_rfl) rfl rfl ⟨(blk_cell BK162.out 0).trans rfl,(blk_cell BK162.out 1).trans rfl,(blk_cell BK162.out 2).trans rfl,(blk_cell BK152.out 0).trans rfl,(blk_cell BK152.out 1).trans rfl,(blk_cell BK152.out 2).trans rfl,hx170_0,((HB.out.cell (World.block_lt_of_cell? w _ hw171_0)).trans hw171_0)⟩ (fun hHeld=>?_);refine with_tabW mapjnl_Join.tab9 mapjnl_Join.bits9 (fun HT_ HW_=>?_)
           generalize w50.drew=w51 at HO_163000 HO_163001 BK151 BK152 BK153 BK162 HB GG46 HQ49 HQ53 hf46_0 hx170_0 hx171_0 hx46_0 hHeld ⊢
           refine pure_ (i:=0) (N:=some 40) (v:=?_) (a':=?_) #[true,false,false,false,false,false,false,false,false,false,false,false,false,false,false,false] rfl rfl (any_of HT_.out (by kernel_rfl)) (fun _ _ _ h=>h) (Or.inl ⟨by rfl,?_⟩) ?_ ?_
           rotate_left
           ·intro w'
            go_simp
            with_reducible rfl
           rotate_left
           ·simp only [Act.put,List.setIfInBounds_toArray,List.set_cons_zero,List.set_cons_succ,i64_w,i32_w]
            rfl
           refine pure_ (i:=2) (N:=some 42) (v:=?_) (a':=?_) #[true,false,true,false,false,false,false,false,false,false,false,false,false,false,false,false] rfl rfl (any_of HT_.out (by kernel_rfl)) (fun _ _ _ h=>h) (Or.inl ⟨by rfl,?_⟩) ?_ ?_
           rotate_left
           ·intro w'
            go_simp
            with_reducible rfl
           rotate_left
           ·simp only [Act.put,List.setIfInBounds_toArray,List.set_cons_zero,List.set_cons_succ,i64_w,i32_w]
            rfl
           refine pure_ (i:=3) (N:=some 43) (v:=?_) (a':=?_) #[true,false,true,true,false,false,false,false,false,false,false,false,false,false,false,false] rfl rfl (any_of HT_.out (by kernel_rfl)) (fun _ _ _ h=>h) (Or.inl ⟨by rfl,?_⟩) ?_ ?_
           rotate_left
           ·intro w'
            go_simp
            with_reducible rfl
           rotate_left
           ·simp only [Act.put,List.setIfInBounds_toArray,List.set_cons_zero,List.set_cons_succ,i64_w,i32_w]
            rfl
           refine pure_ (i:=5) (N:=some 45) (v:=?_) (a':=?_) #[true,false,true,true,false,true,false,false,false,false,false,false,false,false,false,false] rfl rfl (any_of HT_.out (by kernel_rfl)) (fun _ _ _ h=>h) (Or.inl ⟨by rfl,?_⟩) ?_ ?_
           rotate_left
           ·intro w'
            go_simp
            with_reducible rfl
           rotate_left
           ·simp only [Act.put,List.setIfInBounds_toArray,List.set_cons_zero,List.set_cons_succ,i64_w,i32_w]
            rfl
           refine pure_ (i:=8) (N:=some 48) (v:=?_) (a':=?_) #[true,false,true,true,false,true,false,false,true,false,false,false,false,false,false,false] rfl rfl (any_of HT_.out (by kernel_rfl)) (fun _ _ _ h=>h) (Or.inl ⟨by rfl,?_⟩) ?_ ?_
           rotate_left
           ·intro w'
            go_simp
            with_reducible rfl
           rotate_left
           ·simp only [Act.put,List.setIfInBounds_toArray,List.set_cons_zero,List.set_cons_succ,i64_w,i32_w]
            rfl
           refine pure_ (i:=10) (N:=some 50) (v:=?_) (a':=?_) #[true,false,true,true,false,true,false,false,true,false,true,false,false,false,false,false] rfl rfl (any_of HT_.out (by kernel_rfl)) (fun _ _ _ h=>h) (Or.inl ⟨by rfl,?_⟩) ?_ ?_
           rotate_left
           ·intro w'
            go_simp
            with_reducible rfl
           rotate_left
           ·simp only [Act.put,List.setIfInBounds_toArray,List.set_cons_zero,List.set_cons_succ,i64_w,i32_w]
            rfl
           refine take_ (i:=1) (N:=some 41) (v:=?_) (a':=?_) #[true,true,true,true,false,true,false,false,true,false,true,false,false,false,false,false] rfl rfl (take_ofW HT_.out HW_.out (by kernel_rfl)) (fun _ _ _ h=>h) (Or.inl ⟨by rfl,?_⟩) hHeld ?_ ?_
           rotate_left
           ·rintro w' ⟨s0,s1,s2,s3,s4,s5,s6,s7⟩
            go_simp
            with_reducible rfl
           rotate_left
           ·simp only [Act.put,List.setIfInBounds_toArray,List.set_cons_zero,List.set_cons_succ,i64_w,i32_w]
            rfl
           refine take_ (i:=4) (N:=some 44) (v:=?_) (a':=?_) #[true,true,true,true,true,true,false,false,true,false,true,false,false,false,false,false] rfl rfl (take_ofW HT_.out HW_.out (by kernel_rfl)) (fun _ _ _ h=>h) (Or.inl ⟨by rfl,?_⟩) hHeld ?_ ?_
           rotate_left
           ·rintro w' ⟨s0,s1,s2,s3,s4,s5,s6,s7⟩
            go_simp
            with_reducible rfl
           rotate_left
           ·simp only [Act.put,List.setIfInBounds_toArray,List.set_cons_zero,List.set_cons_succ,i64_w,i32_w]
            rfl
           refine pure_ (i:=6) (N:=some 46) (v:=?_) (a':=?_) #[true,true,true,true,true,true,true,false,true,false,true,false,false,false,false,false] rfl rfl (any_of HT_.out (by kernel_rfl)) (fun _ _ _ h=>h) (Or.inl ⟨by rfl,?_⟩) ?_ ?_
           rotate_left
           ·intro w'
            go_simp
            with_reducible rfl
           rotate_left
           ·simp only [Act.put,List.setIfInBounds_toArray,List.set_cons_zero,List.set_cons_succ,i64_w,i32_w]
            rfl
           refine take_ (i:=7) (N:=some 47) (v:=?_) (a':=?_) #[true,true,true,true,true,true,true,true,true,false,true,false,false,false,false,false] rfl rfl (take_ofW HT_.out HW_.out (by kernel_rfl)) (fun _ _ _ h=>h) (Or.inl ⟨by rfl,?_⟩) hHeld ?_ ?_
           rotate_left
           ·rintro w' ⟨s0,s1,s2,s3,s4,s5,s6,s7⟩
            go_simp
            with_reducible rfl
           rotate_left
           ·simp only [Act.put,List.setIfInBounds_toArray,List.set_cons_zero,List.set_cons_succ,i64_w,i32_w]
            rfl
           refine take_ (i:=9) (N:=some 49) (v:=?_) (a':=?_) #[true,true,true,true,true,true,true,true,true,true,true,false,false,false,false,false] rfl rfl (take_ofW HT_.out HW_.out (by kernel_rfl)) (fun _ _ _ h=>h) (Or.inl ⟨by rfl,?_⟩) hHeld ?_ ?_
           rotate_left
           ·rintro w' ⟨s0,s1,s2,s3,s4,s5,s6,s7⟩
            go_simp
            with_reducible rfl
           rotate_left
           ·simp only [Act.put,List.setIfInBounds_toArray,List.set_cons_zero,List.set_cons_succ,i64_w,i32_w]
            rfl
           refine pure_ (i:=11) (N:=some 51) (v:=?_) (a':=?_) #[true,true,true,true,true,true,true,true,true,true,true,true,false,false,false,false] rfl rfl (any_of HT_.out (by kernel_rfl)) (fun _ _ _ h=>h) (Or.inl ⟨by rfl,?_⟩) ?_ ?_
           rotate_left
           ·intro w'
            go_simp
            with_reducible rfl
           rotate_left
           ·simp only [Act.put,List.setIfInBounds_toArray,List.set_cons_zero,List.set_cons_succ,i64_w,i32_w]
            rfl
           refine take_ (i:=12) (N:=some 52) (v:=?_) (a':=?_) #[true,true,true,true,true,true,true,true,true,true,true,true,true,false,false,false] rfl rfl (take_ofW HT_.out HW_.out (by kernel_rfl)) (fun _ _ _ h=>h) (Or.inl ⟨by rfl,?_⟩) hHeld ?_ ?_
           rotate_left
           ·rintro w' ⟨s0,s1,s2,s3,s4,s5,s6,s7⟩
            go_simp
            with_reducible rfl
           rotate_left
           ·simp only [Act.put,List.setIfInBounds_toArray,List.set_cons_zero,List.set_cons_succ,i64_w,i32_w]
            rfl
           refine pure_ (i:=13) (N:=some 53) (v:=?_) (a':=?_) #[true,true,true,true,true,true,true,true,true,true,true,true,true,true,false,false] rfl rfl (any_of HT_.out (by kernel_rfl)) (fun _ _ _ h=>h) (Or.inl ⟨by rfl,?_⟩) ?_ ?_
           rotate_left
           ·intro w'
            go_simp
            with_reducible rfl
           rotate_left
           ·simp only [Act.put,List.setIfInBounds_toArray,List.set_cons_zero,List.set_cons_succ,i64_w,i32_w]
            rfl
           refine pure_ (i:=14) (N:=some 54) (v:=?_) (a':=?_) #[true,true,true,true,true,true,true,true,true,true,true,true,true,true,true,false] rfl rfl (any_of HT_.out (by kernel_rfl)) (fun _ _ _ h=>h) (Or.inl ⟨by rfl,?_⟩) ?_ ?_
           rotate_left
           ·intro w'
            go_simp
            with_reducible rfl
           rotate_left
           ·simp only [Act.put,List.setIfInBounds_toArray,List.set_cons_zero,List.set_cons_succ,i64_w,i32_w]
            rfl
           refine last_ (i:=15) (N:=none) #[true,true,true,true,true,true,true,true,true,true,true,true,true,true,true,true] rfl rfl (one_of HT_.out (by kernel_rfl)) (by decide) (fun K hK=>?_)
           refine skip_ (w1:=?_) (by rfl) rfl ?_ ?_
           rotate_left
           ·go_simp
            rfl
           refine hK.out _ _ ?_
           clear hK K
           refine done_ (done_of HT_.out (by kernel_rfl)) ?_
           try go_wp2
           go_roundg k1
           case measure=>have:=HK1.out;omega
           case rel=>exact ⟨(wrap64 (x21_1 + 1)),(y169),(y172),(.slice (some ⟨go42,0,none⟩) x163000_1.length co48),(.slice (some ⟨go46,0,none⟩) x163001_1.length co52),(by first|rfl|(simp;done)|(simp [*];done)),H',⟨by have:=HK1.out;omega⟩,⟨by (with_reducible repeat (first|apply zrA|apply zrN|apply zrD));exact Kd.R_mono (Kd.R_far (p:=⟨go46,(x21_1:Int).toNat,none⟩) (Kd.R_types HO_163000.out GG46.out (by decide)) (fun _ hk=>hk.2) (.int .i64 ji45)) (fun _ hk=>trivial)⟩,⟨by (with_reducible repeat (first|apply zrA|apply zrN|apply zrD));exact HQ53.out⟩,⟨by (with_reducible repeat (first|refine zbN ?_ _|refine zbD ?_|refine zbA ?_ _));refine blk_far ?_ (by have h_:=Kd.R_ne HO_163001.out BK151.out (by decide);intro e_;exact h_ (by rw [e_];rfl)) _;(with_reducible repeat (first|refine zbN ?_ _|refine zbD ?_|refine zbA ?_ _));exact BK151.out⟩,⟨by (with_reducible repeat (first|refine zbN ?_ _|refine zbD ?_|refine zbA ?_ _));refine blk_far ?_ (by have h_:=Kd.R_ne HO_163001.out BK152.out (by decide);intro e_;exact h_ (by rw [e_];rfl)) _;(with_reducible repeat (first|refine zbN ?_ _|refine zbD ?_|refine zbA ?_ _));exact BK152.out⟩,⟨by (with_reducible repeat (first|refine zbN ?_ _|refine zbD ?_|refine zbA ?_ _));refine blk_far ?_ (by have h_:=Kd.R_ne HO_163001.out BK153.out (by decide);intro e_;exact h_ (by rw [e_];rfl)) _;(with_reducible repeat (first|refine zbN ?_ _|refine zbD ?_|refine zbA ?_ _));exact BK153.out⟩,⟨by (with_reducible repeat (first|refine zbN ?_ _|refine zbD ?_|refine zbA ?_ _));refine blk_far ?_ (by have h_:=Kd.R_ne HO_163001.out BK162.out (by decide);intro e_;exact h_ (by rw [e_];rfl)) _;(with_reducible repeat (first|refine zbN ?_ _|refine zbD ?_|refine zbA ?_ _));exact BK162.out⟩,⟨by repeat (first|(with_reducible first|exact HB.out|apply zlA|apply zlN|apply zlD|refine zlS ?_ GB46.out|refine zlS ?_ GE151.out|refine zlS ?_ GE152.out|refine zlS ?_ GE153.out|refine zlS ?_ GE162.out)|exact HB.out)⟩⟩
          ·rw [if_neg c44] at H
           exact absurd H (by simp)
         ·rw [if_neg c43] at H
          exact absurd H (by simp)
        ·rw [if_neg c41] at H
         exact absurd H (by simp)
      ·rw [if_neg c26] at H
       exact absurd H (by simp)
     ·rw [if_neg c25] at H
      exact absurd H (by simp)
    ·rw [if_neg c24] at H
     have c24b0:decide (x21_1 < (t155.length:Int))=false:=decide_eq_false c24
     clear c24
     obtain ⟨ji54,hji54⟩:∃ j_:Int,(mx t161 a1_2)=j_:=⟨_,rfl⟩
     replace H:(some (x163000_1,x163001_1,ji54,0))=some (r1,r2,r3,r4):=by first|(rw [hji54] at H;exact H)|(simp only [hji54] at H ⊢;exact H)
     have hji54_:(if t161 < a1_2 then a1_2 else t161)=ji54:=hji54
     simp only [Option.some.injEq,Prod.mk.injEq] at H
     obtain ⟨rfl,rfl,rfl,rfl⟩:=H
     have hnb55:=NB162_151.out
     have hnc55:=NB151_162.out
     have hnb56:=NB162_152.out
     have hnc56:=NB152_162.out
     have hnb57:=NB162_153.out
     have hnc57:=NB153_162.out
     have hcz58_0:wr.cell? ⟨gb162,0,none⟩=some (u163000):=(blk_cell BK162.out 0).trans rfl
     have hcz58_1:wr.cell? ⟨gb162,1,none⟩=some (u163001):=(blk_cell BK162.out 1).trans rfl
     have hcz58_2:wr.cell? ⟨gb162,2,none⟩=some (.int .i64 t161):=(blk_cell BK162.out 2).trans rfl
     have hfz58_0:=blk_frozen BK162.out 0
     have hfz58_1:=blk_frozen BK162.out 1
     have hfz58_2:=blk_frozen BK162.out 2
     have hnb59:=NB152_151.out
     have hnc59:=NB151_152.out
     have hnb60:=NB152_153.out
     have hnc60:=NB153_152.out
     have hcz61_0:wr.cell? ⟨gb152,0,none⟩=some (.slice A1_0 l1_0.length c1_0):=(blk_cell BK152.out 0).trans rfl
     have hcz61_1:wr.cell? ⟨gb152,1,none⟩=some (.slice A1_1 l1_1.length c1_1):=(blk_cell BK152.out 1).trans rfl
     have hcz61_2:wr.cell? ⟨gb152,2,none⟩=some (.int .i64 a1_2):=(blk_cell BK152.out 2).trans rfl
     have hfz61_0:=blk_frozen BK152.out 0
     have hfz61_1:=blk_frozen BK152.out 1
     have hfz61_2:=blk_frozen BK152.out 2
     obtain ⟨Ao62,co62,eo62⟩:=Kd.R_slice HO_163000.out
     subst eo62
     have hnb63:=NB153_151.out
     have hnc63:=NB151_153.out
     have hcz64_0:wr.cell? ⟨gb153,0,none⟩=some (.slice none 0 0):=(blk_cell BK153.out 0).trans rfl
     have hcz64_1:wr.cell? ⟨gb153,1,none⟩=some (.slice none 0 0):=(blk_cell BK153.out 1).trans rfl
     have hcz64_2:wr.cell? ⟨gb153,2,none⟩=some (.int .i64 0):=(blk_cell BK153.out 2).trans rfl
     have hfz64_0:=blk_frozen BK153.out 0
     have hfz64_1:=blk_frozen BK153.out 1
     have hfz64_2:=blk_frozen BK153.out 2
     obtain ⟨Ao65,co65,eo65⟩:=Kd.R_slice HO_163001.out
     subst eo65
     go_wp2
     refine bodyPost_ret (results_ct rfl _ _ gb153 25 #[.slice Ao62 x163000_1.length co62,.slice Ao65 x163001_1.length co65,.int .i64 ji54] (0,0) _ rfl (by (with_reducible repeat (first|refine zbN ?_ _|refine zbD ?_|refine zbA ?_ _));refine blk_put (cs:=#[.slice Ao62 x163000_1.length co62,.slice Ao65 x163001_1.length co65,.int .i64 0]) ?_ 2 _ rfl;(with_reducible repeat (first|refine zbN ?_ _|refine zbD ?_|refine zbA ?_ _));refine blk_put (cs:=#[.slice Ao62 x163000_1.length co62,.slice none 0 0,.int .i64 0]) ?_ 1 _ rfl;(with_reducible repeat (first|refine zbN ?_ _|refine zbD ?_|refine zbA ?_ _));refine blk_put (cs:=#[.slice none 0 0,.slice none 0 0,.int .i64 0]) ?_ 0 _ rfl;(with_reducible repeat (first|refine zbN ?_ _|refine zbD ?_|refine zbA ?_ _));refine blk_far ?_ NB153_162.out _;(with_reducible repeat (first|refine zbN ?_ _|refine zbD ?_|refine zbA ?_ _));exact BK153.out) Try.underlying25 rfl (by kernel_rfl)) rfl ?_
     exact ⟨_,_,by first|rfl|(simp [errW_none,errW_some] <;> rfl)|(simp only [← hji54];first|rfl|(simp [errW_none,errW_some] <;> rfl))|(simp [*,errW_none,errW_some] <;> rfl),by (with_reducible repeat (first|apply zrA|apply zrN|apply zrD));exact Kd.R_mono (Kd.R_far (p:=⟨gb153,2,none⟩) (Kd.R_far (p:=⟨gb153,1,none⟩) (Kd.R_far (p:=⟨gb153,0,none⟩) (Kd.R_far (p:=⟨gb162,2,none⟩) (Kd.R_types (Kd.R_types HO_163000.out BK162.out (by decide)) BK153.out (by decide)) (fun _ hk=>hk.1.2) (.int .i64 ji54)) (fun _ hk=>hk.2) (.slice Ao62 x163000_1.length co62)) (fun _ hk=>hk.2) (.slice Ao65 x163001_1.length co65)) (fun _ hk=>hk.2) (.int .i64 ji54)) (fun _ hk=>trivial),by (with_reducible repeat (first|apply zrA|apply zrN|apply zrD));exact Kd.R_mono (Kd.R_far (p:=⟨gb153,2,none⟩) (Kd.R_far (p:=⟨gb153,1,none⟩) (Kd.R_far (p:=⟨gb153,0,none⟩) (Kd.R_far (p:=⟨gb162,2,none⟩) (Kd.R_types (Kd.R_types HO_163001.out BK162.out (by decide)) BK153.out (by decide)) (fun _ hk=>hk.1.2) (.int .i64 ji54)) (fun _ hk=>hk.2) (.slice Ao62 x163000_1.length co62)) (fun _ hk=>hk.2) (.slice Ao65 x163001_1.length co65)) (fun _ hk=>hk.2) (.int .i64 ji54)) (fun _ hk=>trivial),by repeat (first|(with_reducible first|exact HB.out|apply zlA|apply zlN|apply zlD|refine zlS ?_ GE151.out|refine zlS ?_ GE152.out|refine zlS ?_ GE153.out|refine zlS ?_ GE162.out)|exact HB.out)⟩
 ·rw [if_neg c4] at H
  have c4b0:(t154 == 0)=false:=beq_eq_false_iff_ne.mpr c4
  have c4b1:(t154 != 0)=true:=bne_iff_ne.mpr c4
  simp only [Option.some.injEq,Prod.mk.injEq] at H
  obtain ⟨rfl,rfl,rfl,rfl⟩:=H
  go_enter Try.func13,Try.ntmps13
  go_wp2_with (first|((with_reducible refine gate_dst (N:=2) rfl ?_);refine box_event ?hg (N:=2) ?hd (cs:=#[.slice A0_0 l0_0.length c0_0,.slice A0_1 l0_1.length c0_1,.int .i64 a0_2]) (t:=25) ?hr ?_;(case hd=>rfl);(case hg=>rfl);(case hr=>first|(go_simp;done)|(go_simp;rfl));intro gb151 hg w66 hbox hb;have n0_:=zm (below_step (by repeat (first|(with_reducible first|exact HB.out|apply zlA|apply zlN|apply zlD)|exact HB.out)) hb);have n1_:=zm (hbox);have n2_:=zm ((by rw [hg];exact (below_size (by repeat (first|(with_reducible first|exact HB.out|apply zlA|apply zlN|apply zlD)|exact HB.out))):w.heap.size≤gb151));have n3_:=zm ((by rw [hg];exact (below_size (by repeat (first|(with_reducible first|exact HB.out|apply zlA|apply zlN|apply zlD)|exact HB.out))):w.heap.size≤gb151));clear HB;have HB:=n0_;have BK151:=n1_;have GW151:=n2_;have GE151:=n3_;clear n0_ n1_ n2_ n3_;clear hb hbox hg)|((with_reducible refine gate_dst (N:=3) rfl ?_);refine box_event ?hg (N:=3) ?hd (cs:=#[.slice A1_0 l1_0.length c1_0,.slice A1_1 l1_1.length c1_1,.int .i64 a1_2]) (t:=25) ?hr ?_;(case hd=>rfl);(case hg=>rfl);(case hr=>first|(go_simp;done)|(go_simp;rfl));intro gb152 hg w67 hbox hb;have n0_:=zm (zbB (g:=gb151) (o:=.cells #[.slice A0_0 l0_0.length c0_0,.slice A0_1 l0_1.length c0_1,.int .i64 a0_2] 25 (0,0)) (by (with_reducible repeat (first|refine zbN ?_ _|refine zbD ?_|refine zbA ?_ _));exact BK151.out) hb);have n1_:=zm (below_step (by repeat (first|(with_reducible first|exact HB.out|apply zlA|apply zlN|apply zlD|refine zlS ?_ GE151.out)|exact HB.out)) hb);have n2_:=zm (hbox);have n3_:=zm ((by rw [hg];exact (below_size (by repeat (first|(with_reducible first|exact HB.out|apply zlA|apply zlN|apply zlD|refine zlS ?_ GE151.out)|exact HB.out))):w.heap.size≤gb152));have n4_:=zm ((by rw [hg];exact (below_size (by repeat (first|(with_reducible first|exact HB.out|apply zlA|apply zlN|apply zlD|refine zlS ?_ GE151.out)|exact HB.out))):w.heap.size≤gb152));have n5_:=zm ((by rw [hg];exact Nat.ne_of_lt (blk_lt (g:=gb151) (o:=.cells #[.slice A0_0 l0_0.length c0_0,.slice A0_1 l0_1.length c0_1,.int .i64 a0_2] 25 (0,0)) (by (with_reducible repeat (first|refine zbN ?_ _|refine zbD ?_|refine zbA ?_ _));exact BK151.out)):gb151≠gb152));have n6_:=zm ((by rw [hg];exact Nat.ne_of_gt (blk_lt (g:=gb151) (o:=.cells #[.slice A0_0 l0_0.length c0_0,.slice A0_1 l0_1.length c0_1,.int .i64 a0_2] 25 (0,0)) (by (with_reducible repeat (first|refine zbN ?_ _|refine zbD ?_|refine zbA ?_ _));exact BK151.out)):gb152≠gb151));clear BK151 HB;have BK151:=n0_;have HB:=n1_;have BK152:=n2_;have GW152:=n3_;have GE152:=n4_;have NB151_152:=n5_;have NB152_151:=n6_;clear n0_ n1_ n2_ n3_ n4_ n5_ n6_;clear hb hbox hg)|((with_reducible refine gate_dst (N:=4) rfl ?_);refine box_event ?hg (N:=4) ?hd (cs:=#[.slice none 0 0,.slice none 0 0,.int .i64 0]) (t:=25) ?hr ?_;(case hd=>rfl);(case hg=>rfl);(case hr=>first|(go_simp;done)|(go_simp;rfl));intro gb153 hg w68 hbox hb;have n0_:=zm (zbB (g:=gb151) (o:=.cells #[.slice A0_0 l0_0.length c0_0,.slice A0_1 l0_1.length c0_1,.int .i64 a0_2] 25 (0,0)) (by (with_reducible repeat (first|refine zbN ?_ _|refine zbD ?_|refine zbA ?_ _));exact BK151.out) hb);have n1_:=zm (zbB (g:=gb152) (o:=.cells #[.slice A1_0 l1_0.length c1_0,.slice A1_1 l1_1.length c1_1,.int .i64 a1_2] 25 (0,0)) (by (with_reducible repeat (first|refine zbN ?_ _|refine zbD ?_|refine zbA ?_ _));exact BK152.out) hb);have n2_:=zm (below_step (by repeat (first|(with_reducible first|exact HB.out|apply zlA|apply zlN|apply zlD|refine zlS ?_ GE151.out|refine zlS ?_ GE152.out)|exact HB.out)) hb);have n3_:=zm (hbox);have n4_:=zm ((by rw [hg];exact (below_size (by repeat (first|(with_reducible first|exact HB.out|apply zlA|apply zlN|apply zlD|refine zlS ?_ GE151.out|refine zlS ?_ GE152.out)|exact HB.out))):w.heap.size≤gb153));have n5_:=zm ((by rw [hg];exact (below_size (by repeat (first|(with_reducible first|exact HB.out|apply zlA|apply zlN|apply zlD|refine zlS ?_ GE151.out|refine zlS ?_ GE152.out)|exact HB.out))):w.heap.size≤gb153));have n6_:=zm ((by rw [hg];exact Nat.ne_of_lt (blk_lt (g:=gb151) (o:=.cells #[.slice A0_0 l0_0.length c0_0,.slice A0_1 l0_1.length c0_1,.int .i64 a0_2] 25 (0,0)) (by (with_reducible repeat (first|refine zbN ?_ _|refine zbD ?_|refine zbA ?_ _));exact BK151.out)):gb151≠gb153));have n7_:=zm ((by rw [hg];exact Nat.ne_of_gt (blk_lt (g:=gb151) (o:=.cells #[.slice A0_0 l0_0.length c0_0,.slice A0_1 l0_1.length c0_1,.int .i64 a0_2] 25 (0,0)) (by (with_reducible repeat (first|refine zbN ?_ _|refine zbD ?_|refine zbA ?_ _));exact BK151.out)):gb153≠gb151));have n8_:=zm ((by rw [hg];exact Nat.ne_of_lt (blk_lt (g:=gb152) (o:=.cells #[.slice A1_0 l1_0.length c1_0,.slice A1_1 l1_1.length c1_1,.int .i64 a1_2] 25 (0,0)) (by (with_reducible repeat (first|refine zbN ?_ _|refine zbD ?_|refine zbA ?_ _));exact BK152.out)):gb152≠gb153));have n9_:=zm ((by rw [hg];exact Nat.ne_of_gt (blk_lt (g:=gb152) (o:=.cells #[.slice A1_0 l1_0.length c1_0,.slice A1_1 l1_1.length c1_1,.int .i64 a1_2] 25 (0,0)) (by (with_reducible repeat (first|refine zbN ?_ _|refine zbD ?_|refine zbA ?_ _));exact BK152.out)):gb153≠gb152));clear BK151 BK152 HB;have BK151:=n0_;have BK152:=n1_;have HB:=n2_;have BK153:=n3_;have GW153:=n4_;have GE153:=n5_;have NB151_153:=n6_;have NB153_151:=n7_;have NB152_153:=n8_;have NB153_152:=n9_;clear n0_ n1_ n2_ n3_ n4_ n5_ n6_ n7_ n8_ n9_;clear hb hbox hg;have hnb69:=NB151_152.out;have hnc69:=NB152_151.out;have hnb70:=NB151_153.out;have hnc70:=NB153_151.out;have hcz71_0:w68.cell? ⟨gb151,0,none⟩=some (.slice A0_0 l0_0.length c0_0):=(blk_cell BK151.out 0).trans rfl;have hcz71_1:w68.cell? ⟨gb151,1,none⟩=some (.slice A0_1 l0_1.length c0_1):=(blk_cell BK151.out 1).trans rfl;have hcz71_2:w68.cell? ⟨gb151,2,none⟩=some (.int .i64 a0_2):=(blk_cell BK151.out 2).trans rfl;have hfz71_0:=blk_frozen BK151.out 0;have hfz71_1:=blk_frozen BK151.out 1;have hfz71_2:=blk_frozen BK151.out 2;have hnb72:=NB152_153.out;have hnc72:=NB153_152.out;have hcz73_0:w68.cell? ⟨gb152,0,none⟩=some (.slice A1_0 l1_0.length c1_0):=(blk_cell BK152.out 0).trans rfl;have hcz73_1:w68.cell? ⟨gb152,1,none⟩=some (.slice A1_1 l1_1.length c1_1):=(blk_cell BK152.out 1).trans rfl;have hcz73_2:w68.cell? ⟨gb152,2,none⟩=some (.int .i64 a1_2):=(blk_cell BK152.out 2).trans rfl;have hfz73_0:=blk_frozen BK152.out 0;have hfz73_1:=blk_frozen BK152.out 1;have hfz73_2:=blk_frozen BK152.out 2)|((with_reducible refine gate_callee (f:=50) rfl ?_);refine goesL_ (some 11) rfl rfl Try.func50 (by kernel_rfl) rfl #[.agg #[.slice A0_0 l0_0.length c0_0,.slice A0_1 l0_1.length c0_1,.int .i64 a0_2],.agg #[.slice A1_0 l1_0.length c1_0,.slice A1_1 l1_1.length c1_1,.int .i64 a1_2]] rfl (by (try simp only [List.map_toArray,List.map_cons,List.map_nil]);first|done|rfl|(simp only [List.length_drop,List.length_take];rfl)) ?_;(with_reducible refine (mapjnl_both.calls k _ _ l0_0 _ _ l0_1 a0_2 _ _ l1_0 _ _ l1_1 a1_2 t154 _ ?side1 ?side2 ?side3 ?side4 ?side5 ?side6 ?side7 ?side8 A3.out).mono ?_);(case side1=>repeat (first|exact (Kd.C_below HR0_0.out HB.out)|(with_reducible refine Kd.C_alloc ?_ _)|(with_reducible refine Kd.C_drewN ?_ _)|(with_reducible refine Kd.C_drew ?_)));(case side2=>exact HC0_0.out);(case side3=>repeat (first|exact (Kd.C_below HR0_1.out HB.out)|(with_reducible refine Kd.C_alloc ?_ _)|(with_reducible refine Kd.C_drewN ?_ _)|(with_reducible refine Kd.C_drew ?_)));(case side4=>exact HC0_1.out);(case side5=>repeat (first|exact (Kd.C_below HR1_0.out HB.out)|(with_reducible refine Kd.C_alloc ?_ _)|(with_reducible refine Kd.C_drewN ?_ _)|(with_reducible refine Kd.C_drew ?_)));(case side6=>exact HC1_0.out);(case side7=>repeat (first|exact (Kd.C_below HR1_1.out HB.out)|(with_reducible refine Kd.C_alloc ?_ _)|(with_reducible refine Kd.C_drewN ?_ _)|(with_reducible refine Kd.C_drew ?_)));(case side8=>exact HC1_1.out);rintro e w74 ⟨rfl,hb⟩;refine ⟨_,rfl,?_⟩;have n0_:=zm (zbB (g:=gb151) (o:=.cells #[.slice A0_0 l0_0.length c0_0,.slice A0_1 l0_1.length c0_1,.int .i64 a0_2] 25 (0,0)) (by (with_reducible repeat (first|refine zbN ?_ _|refine zbD ?_|refine zbA ?_ _));exact BK151.out) hb);have n1_:=zm (zbB (g:=gb152) (o:=.cells #[.slice A1_0 l1_0.length c1_0,.slice A1_1 l1_1.length c1_1,.int .i64 a1_2] 25 (0,0)) (by (with_reducible repeat (first|refine zbN ?_ _|refine zbD ?_|refine zbA ?_ _));exact BK152.out) hb);have n2_:=zm (zbB (g:=gb153) (o:=.cells #[.slice none 0 0,.slice none 0 0,.int .i64 0] 25 (0,0)) (by (with_reducible repeat (first|refine zbN ?_ _|refine zbD ?_|refine zbA ?_ _));exact BK153.out) hb);have n3_:=zm (below_step (by repeat (first|(with_reducible first|exact HB.out|apply zlA|apply zlN|apply zlD|refine zlS ?_ GE151.out|refine zlS ?_ GE152.out|refine zlS ?_ GE153.out)|exact HB.out)) hb);clear BK151 BK152 BK153 HB;have BK151:=n0_;have BK152:=n1_;have BK153:=n2_;have HB:=n3_;clear n0_ n1_ n2_ n3_;(try clear hb);(try clear hb2);(try clear hk);(try clear hi);have hcz75_0:w74.cell? ⟨gb153,0,none⟩=some (.slice none 0 0):=(blk_cell BK153.out 0).trans rfl;have hcz75_1:w74.cell? ⟨gb153,1,none⟩=some (.slice none 0 0):=(blk_cell BK153.out 1).trans rfl;have hcz75_2:w74.cell? ⟨gb153,2,none⟩=some (.int .i64 0):=(blk_cell BK153.out 2).trans rfl;have hfz75_0:=blk_frozen BK153.out 0;have hfz75_1:=blk_frozen BK153.out 1;have hfz75_2:=blk_frozen BK153.out 2))
  refine bodyPost_ret (results_ct rfl _ _ gb153 25 #[.slice none 0 0,.slice none 0 0,.int .i64 0] (0,0) _ rfl (by (with_reducible repeat (first|refine zbN ?_ _|refine zbD ?_|refine zbA ?_ _));refine blk_put (cs:=#[.slice none 0 0,.slice none 0 0,.int .i64 0]) ?_ 2 _ rfl;(with_reducible repeat (first|refine zbN ?_ _|refine zbD ?_|refine zbA ?_ _));refine blk_put (cs:=#[.slice none 0 0,.slice none 0 0,.int .i64 0]) ?_ 1 _ rfl;(with_reducible repeat (first|refine zbN ?_ _|refine zbD ?_|refine zbA ?_ _));refine blk_put (cs:=#[.slice none 0 0,.slice none 0 0,.int .i64 0]) ?_ 0 _ rfl;(with_reducible repeat (first|refine zbN ?_ _|refine zbD ?_|refine zbA ?_ _));exact BK153.out) Try.underlying25 rfl (by kernel_rfl)) rfl ?_
  exact ⟨_,_,by first|rfl|(simp [errW_none,errW_some] <;> rfl)|(simp [*,errW_none,errW_some] <;> rfl),by first|exact Kd.R_nil _ _ _ _ _|exact Kd.N_nil _ _ _ _ _|exact Kd.V_nil _ _ _ _ _|exact Kd.Q_nil _ _ _ _ _|exact Kd.S_nil _ _ _ _ _,by first|exact Kd.R_nil _ _ _ _ _|exact Kd.N_nil _ _ _ _ _|exact Kd.V_nil _ _ _ _ _|exact Kd.Q_nil _ _ _ _ _|exact Kd.S_nil _ _ _ _ _,by repeat (first|(with_reducible first|exact HB.out|apply zlA|apply zlN|apply zlD|refine zlS ?_ GE151.out|refine zlS ?_ GE152.out|refine zlS ?_ GE153.out)|exact HB.out)⟩
end Go.Proofs.Ytkhbmgclklmimaa.Print
end
section
namespace Go.Proofs.Ytkhbmgclklmimaa.Print
open Go.RowKit Go.Proofs.YtkhbmgclklmimaaW.PrintWords Go.Proofs.YtkhbmgclklmimaaW.PrintLast Go.Proofs.YtkhbmgclklmimaaW.PrintMore
attribute [local go_sem] max2_int min2_int max_two min_two max_three min_three max_four min_four   -- for this text's walks alone
attribute [local go_sem ↓] Go.Proofs.Ytkhbmgclklmimaa.Sem.isSome_setCell
attribute [local go_sem] Go.Instr.field Go.asAgg
set_option linter.unusedVariables false
set_option linter.unusedSimpArgs false
def slices_Equal_bool_bool.l0:Nat → List Bool → List Bool → Int → Int → Option (Bool)
 | 0,_,_,_,_=>none
 | k + 1,x0,x1,x12,x13=>if x13 < x12 then (if 0≤x13 then (if x13 < (x0.length:Int) then (if x13 < (x1.length:Int) then (if ((rdOf false x0 x13) != (rdOf false x1 x13))=true then (some false) else (slices_Equal_bool_bool.l0 k x0 x1 x12 (wrap64 (x13 + 1)))) else (none)) else (none)) else (none)) else (some true)
def slices_Equal_bool_bool.f (k:Nat) (l0:List Bool) (l1:List Bool):Option (Bool):=if (l0.length:Int)=(l1.length:Int) then (slices_Equal_bool_bool.l0 k l0 l1 (l0.length:Int) 0) else (some false)
theorem slices_Equal_bool_bool.mono_l:∀ k,(∀ y0 y1 y2 y3,LeO (slices_Equal_bool_bool.l0 k y0 y1 y2 y3) (slices_Equal_bool_bool.l0 (k + 1) y0 y1 y2 y3))
 | 0=>fun _ _ _ _ r h=>by simp [slices_Equal_bool_bool.l0] at h
 | k + 1=>by
  have ih0:=slices_Equal_bool_bool.mono_l k
  ·intro y0 y1 y2 y3
   unfold slices_Equal_bool_bool.l0
   repeat' first
   | (with_reducible exact ih0 _ _ _ _)
   | (with_reducible exact LeO.refl _)
   | (with_reducible exact LeO.none _)
   | (with_reducible refine LeO.ite ?_ ?_)
   | (with_reducible refine LeO.bind ?_ (fun _=>?_))
   | exact ih0 _ _ _ _
   | exact LeO.none _
   | refine LeO.ite ?_ ?_
   | refine LeO.bind ?_ (fun _=>?_)
theorem slices_Equal_bool_bool.mono:∀ a0 a1 k,LeO (slices_Equal_bool_bool.f k a0 a1) (slices_Equal_bool_bool.f (k + 1) a0 a1):=by
 intro a0 a1 k
 have ih0:=slices_Equal_bool_bool.mono_l k
 unfold slices_Equal_bool_bool.f
 repeat' first
   | (with_reducible exact ih0 _ _ _ _)
   | (with_reducible exact LeO.refl _)
   | (with_reducible exact LeO.none _)
   | (with_reducible refine LeO.ite ?_ ?_)
   | (with_reducible refine LeO.bind ?_ (fun _=>?_))
   | exact ih0 _ _ _ _
   | exact LeO.none _
   | refine LeO.ite ?_ ?_
   | refine LeO.bind ?_ (fun _=>?_)
set_option maxHeartbeats 8000000 in
set_option maxRecDepth 100000 in
theorem slices_Equal_bool_bool.calls (k:Nat) (A0:Option Addr) (c0:Nat) (l0:List Bool) (A1:Option Addr) (c1:Nat) (l1:List Bool) (r:Bool) (w:World) (hr0:Kd.C Kd.bool w A0 l0.length l0) (hc0:l0.length≤c0) (hr1:Kd.C Kd.bool w A1 l1.length l1) (hc1:l1.length≤c1) (h:slices_Equal_bool_bool.f k l0 l1=some r) :
  Calls Try.prog 59 #[.slice A0 l0.length c0,.slice A1 l1.length c1] w fun e w'=>e=.returned (.bool r)∧Drawn0 w w':=by
 have HR0:=zm hr0
 have HC0:=zm hc0
 clear hr0 hc0
 have HR1:=zm hr1
 have HC1:=zm hc1
 clear hr1 hc1
 have H:(if (l0.length:Int)=(l1.length:Int) then (slices_Equal_bool_bool.l0 k l0 l1 (l0.length:Int) 0) else (some false))=some r:=h
 clear h
 by_cases c3:(l0.length:Int)=(l1.length:Int)
 ·rw [if_pos c3] at H
  have c3b0:((l0.length:Int) == (l1.length:Int))=true:=beq_iff_eq.mpr c3
  have c3b1:((l0.length:Int) != (l1.length:Int))=false:=bne_eq_false_iff_eq.mpr c3
  have c3b2:(l0.length == l1.length)=true:=by first|simpa using c3|(simp at c3 ⊢;omega)
  clear c3
  have H':=zm H
  clear H
  go_enter Try.func59,Try.ntmps59
  go_wp2
  repeat (go_quiet (fail);try go_wp2)
  go_loopg [13] k (fun kq v13 w'=>∃ (x13_1:Int),v13=.int .i64 x13_1∧Aside0 (slices_Equal_bool_bool.l0 kq l0 l1 (l0.length:Int) x13_1=some r)∧Aside0 (kq≤k)∧Drawn0 w w')
  case atStart=>exact ⟨(0),(by first|rfl|(simp;done)|(simp [*];done)),H',⟨Nat.le_refl _⟩,by repeat (first|exact Drawn0.refl _|apply Drawn0.step)⟩
  case round =>
   clear H'
   try clear c1
   try clear p2
   try clear c3
   try clear c3b0
   try clear c3b1
   try clear c3b2
   obtain ⟨x13_1,rfl,HA,HK1,⟨m1,rfl⟩⟩:=hrel
   cases gk with
   | zero=>exact absurd HA.out (by simp [slices_Equal_bool_bool.l0])
   | succ k1 =>
    have H:=HA.out
    clear HA
    simp only [slices_Equal_bool_bool.l0] at H
    by_cases c4:x13_1 < (l0.length:Int)
    ·rw [if_pos c4] at H
     have c4b0:decide (x13_1 < (l0.length:Int))=true:=decide_eq_true c4
     clear c4
     by_cases c5:0≤x13_1
     ·rw [if_pos c5] at H
      have c5b0:decide (0≤x13_1)=true:=decide_eq_true c5
      clear c5
      by_cases c6:x13_1 < (l0.length:Int)
      ·rw [if_pos c6] at H
       have c6b0:decide (x13_1 < (l0.length:Int))=true:=decide_eq_true c6
       clear c6
       by_cases c7:x13_1 < (l1.length:Int)
       ·rw [if_pos c7] at H
        have c7b0:decide (x13_1 < (l1.length:Int))=true:=decide_eq_true c7
        clear c7
        by_cases c8:((rdOf false l0 x13_1) != (rdOf false l1 x13_1))=true
        ·rw [if_pos c8] at H
         have c8b0:((rdOf false l0 x13_1) != (rdOf false l1 x13_1))=true:=c8
         (try (have c8b1:decide ((rdOf false l0 x13_1)=(rdOf false l1 x13_1))=false:=by simpa using c8))
         (try (have c8b2:((rdOf false l0 x13_1) == (rdOf false l1 x13_1))=false:=by simpa using c8))
         (try (have c8b3:¬ ((rdOf false l0 x13_1)=(rdOf false l1 x13_1)):=by simpa using c8))
         clear c8
         obtain rfl:=Option.some.inj H
         have p204:0≤(x13_1:Int):=of_decide_eq_true (by first|(with_reducible assumption)|assumption)
         have q204:x13_1 < (l0.length:Int):=of_decide_eq_true (by first|(with_reducible assumption)|assumption)
         obtain ⟨ad204,e204,hx204_0⟩:=Kd.at_bool HR0.out x13_1 p204 q204
         cases e204
         replace p204:=eq_true p204
         replace q204:=eq_true q204
         have p205:0≤(x13_1:Int):=of_decide_eq_true (by first|(with_reducible assumption)|assumption)
         have q205:x13_1 < (l1.length:Int):=of_decide_eq_true (by first|(with_reducible assumption)|assumption)
         obtain ⟨ad205,e205,hx205_0⟩:=Kd.at_bool HR1.out x13_1 p205 q205
         cases e205
         replace p205:=eq_true p205
         replace q205:=eq_true q205
         go_wp2
         repeat (go_quiet (fail);try go_wp2)
         go_ret
         exact ⟨by first|rfl|(simp;done)|(simp [*];done),by repeat (first|exact Drawn0.refl _|apply Drawn0.step)⟩
        ·rw [if_neg c8] at H
         have c8b0:((rdOf false l0 x13_1) != (rdOf false l1 x13_1))=false:=by simpa using c8
         (try (have c8b1:decide ((rdOf false l0 x13_1)=(rdOf false l1 x13_1))=true:=by simpa using c8))
         (try (have c8b2:((rdOf false l0 x13_1) == (rdOf false l1 x13_1))=true:=by simpa using c8))
         clear c8
         have H':=zm H
         clear H
         have p204:0≤(x13_1:Int):=of_decide_eq_true (by first|(with_reducible assumption)|assumption)
         have q204:x13_1 < (l0.length:Int):=of_decide_eq_true (by first|(with_reducible assumption)|assumption)
         obtain ⟨ad204,e204,hx204_0⟩:=Kd.at_bool HR0.out x13_1 p204 q204
         cases e204
         replace p204:=eq_true p204
         replace q204:=eq_true q204
         have p205:0≤(x13_1:Int):=of_decide_eq_true (by first|(with_reducible assumption)|assumption)
         have q205:x13_1 < (l1.length:Int):=of_decide_eq_true (by first|(with_reducible assumption)|assumption)
         obtain ⟨ad205,e205,hx205_0⟩:=Kd.at_bool HR1.out x13_1 p205 q205
         cases e205
         replace p205:=eq_true p205
         replace q205:=eq_true q205
         go_wp2
         repeat (go_quiet (fail);try go_wp2)
         go_roundg k1
         case measure=>have:=HK1.out;omega
         case rel=>exact ⟨(wrap64 (x13_1 + 1)),(by first|rfl|(simp;done)|(simp [*];done)),H',⟨by have:=HK1.out;omega⟩,by repeat (first|exact Drawn0.refl _|apply Drawn0.step)⟩
       ·rw [if_neg c7] at H
        exact absurd H (by simp)
      ·rw [if_neg c6] at H
       exact absurd H (by simp)
     ·rw [if_neg c5] at H
      exact absurd H (by simp)
    ·rw [if_neg c4] at H
     have c4b0:decide (x13_1 < (l0.length:Int))=false:=decide_eq_false c4
     clear c4
     obtain rfl:=Option.some.inj H
     go_wp2
     repeat (go_quiet (fail);try go_wp2)
     go_ret
     exact ⟨by first|rfl|(simp;done)|(simp [*];done),by repeat (first|exact Drawn0.refl _|apply Drawn0.step)⟩
 ·rw [if_neg c3] at H
  have c3b0:((l0.length:Int) == (l1.length:Int))=false:=beq_eq_false_iff_ne.mpr c3
  have c3b1:((l0.length:Int) != (l1.length:Int))=true:=bne_iff_ne.mpr c3
  have c3b2:(l0.length == l1.length)=false:=by first|simpa using c3|(simp at c3 ⊢;omega)
  obtain rfl:=Option.some.inj H
  go_enter Try.func59,Try.ntmps59
  go_wp2
  repeat (go_quiet (fail);try go_wp2)
  go_ret
  exact ⟨by first|rfl|(simp;done)|(simp [*];done),by repeat (first|exact Drawn0.refl _|apply Drawn0.step)⟩
def slices_Equal_int64_int64.l0:Nat → List Int → List Int → Int → Int → Option (Bool)
 | 0,_,_,_,_=>none
 | k + 1,x0,x1,x12,x13=>if x13 < x12 then (if 0≤x13 then (if x13 < (x0.length:Int) then (if x13 < (x1.length:Int) then (if (rd x0 x13)=(rd x1 x13) then (slices_Equal_int64_int64.l0 k x0 x1 x12 (wrap64 (x13 + 1))) else (some false)) else (none)) else (none)) else (none)) else (some true)
def slices_Equal_int64_int64.f (k:Nat) (l0:List Int) (l1:List Int):Option (Bool):=if (l0.length:Int)=(l1.length:Int) then (slices_Equal_int64_int64.l0 k l0 l1 (l0.length:Int) 0) else (some false)
theorem slices_Equal_int64_int64.mono_l:∀ k,(∀ y0 y1 y2 y3,LeO (slices_Equal_int64_int64.l0 k y0 y1 y2 y3) (slices_Equal_int64_int64.l0 (k + 1) y0 y1 y2 y3))
 | 0=>fun _ _ _ _ r h=>by simp [slices_Equal_int64_int64.l0] at h
 | k + 1=>by
  have ih0:=slices_Equal_int64_int64.mono_l k
  ·intro y0 y1 y2 y3
   unfold slices_Equal_int64_int64.l0
   repeat' first
   | (with_reducible exact ih0 _ _ _ _)
   | (with_reducible exact LeO.refl _)
   | (with_reducible exact LeO.none _)
   | (with_reducible refine LeO.ite ?_ ?_)
   | (with_reducible refine LeO.bind ?_ (fun _=>?_))
   | exact ih0 _ _ _ _
   | exact LeO.none _
   | refine LeO.ite ?_ ?_
   | refine LeO.bind ?_ (fun _=>?_)
theorem slices_Equal_int64_int64.mono:∀ a0 a1 k,LeO (slices_Equal_int64_int64.f k a0 a1) (slices_Equal_int64_int64.f (k + 1) a0 a1):=by
 intro a0 a1 k
 have ih0:=slices_Equal_int64_int64.mono_l k
 unfold slices_Equal_int64_int64.f
 repeat' first
   | (with_reducible exact ih0 _ _ _ _)
   | (with_reducible exact LeO.refl _)
   | (with_reducible exact LeO.none _)
   | (with_reducible refine LeO.ite ?_ ?_)
   | (with_reducible refine LeO.bind ?_ (fun _=>?_))
   | exact ih0 _ _ _ _
   | exact LeO.none _
   | refine LeO.ite ?_ ?_
   | refine LeO.bind ?_ (fun _=>?_)
set_option maxHeartbeats 8000000 in
set_option maxRecDepth 100000 in
theorem slices_Equal_int64_int64.calls (k:Nat) (A0:Option Addr) (c0:Nat) (l0:List Int) (A1:Option Addr) (c1:Nat) (l1:List Int) (r:Bool) (w:World) (hr0:Kd.C (Kd.int .i64) w A0 l0.length l0) (hc0:l0.length≤c0) (hr1:Kd.C (Kd.int .i64) w A1 l1.length l1) (hc1:l1.length≤c1) (h:slices_Equal_int64_int64.f k l0 l1=some r) :
  Calls Try.prog 60 #[.slice A0 l0.length c0,.slice A1 l1.length c1] w fun e w'=>e=.returned (.bool r)∧Drawn0 w w':=by
 have HR0:=zm hr0
 have HC0:=zm hc0
 clear hr0 hc0
 have HR1:=zm hr1
 have HC1:=zm hc1
 clear hr1 hc1
 have H:(if (l0.length:Int)=(l1.length:Int) then (slices_Equal_int64_int64.l0 k l0 l1 (l0.length:Int) 0) else (some false))=some r:=h
 clear h
 by_cases c3:(l0.length:Int)=(l1.length:Int)
 ·rw [if_pos c3] at H
  have c3b0:((l0.length:Int) == (l1.length:Int))=true:=beq_iff_eq.mpr c3
  have c3b1:((l0.length:Int) != (l1.length:Int))=false:=bne_eq_false_iff_eq.mpr c3
  have c3b2:(l0.length == l1.length)=true:=by first|simpa using c3|(simp at c3 ⊢;omega)
  clear c3
  have H':=zm H
  clear H
  go_enter Try.func60,Try.ntmps60
  go_wp2
  repeat (go_quiet (fail);try go_wp2)
  go_loopg [13] k (fun kq v13 w'=>∃ (x13_1:Int),v13=.int .i64 x13_1∧Aside0 (slices_Equal_int64_int64.l0 kq l0 l1 (l0.length:Int) x13_1=some r)∧Aside0 (kq≤k)∧Drawn0 w w')
  case atStart=>exact ⟨(0),(by first|rfl|(simp;done)|(simp [*];done)),H',⟨Nat.le_refl _⟩,by repeat (first|exact Drawn0.refl _|apply Drawn0.step)⟩
  case round =>
   clear H'
   try clear c1
   try clear p2
   try clear c3
   try clear c3b0
   try clear c3b1
   try clear c3b2
   obtain ⟨x13_1,rfl,HA,HK1,⟨m1,rfl⟩⟩:=hrel
   cases gk with
   | zero=>exact absurd HA.out (by simp [slices_Equal_int64_int64.l0])
   | succ k1 =>
    have H:=HA.out
    clear HA
    simp only [slices_Equal_int64_int64.l0] at H
    by_cases c4:x13_1 < (l0.length:Int)
    ·rw [if_pos c4] at H
     have c4b0:decide (x13_1 < (l0.length:Int))=true:=decide_eq_true c4
     clear c4
     by_cases c5:0≤x13_1
     ·rw [if_pos c5] at H
      have c5b0:decide (0≤x13_1)=true:=decide_eq_true c5
      clear c5
      by_cases c6:x13_1 < (l0.length:Int)
      ·rw [if_pos c6] at H
       have c6b0:decide (x13_1 < (l0.length:Int))=true:=decide_eq_true c6
       clear c6
       by_cases c7:x13_1 < (l1.length:Int)
       ·rw [if_pos c7] at H
        have c7b0:decide (x13_1 < (l1.length:Int))=true:=decide_eq_true c7
        clear c7
        by_cases c8:(rd l0 x13_1)=(rd l1 x13_1)
        ·rw [if_pos c8] at H
         have c8b0:((rd l0 x13_1) == (rd l1 x13_1))=true:=beq_iff_eq.mpr c8
         have c8b1:((rd l0 x13_1) != (rd l1 x13_1))=false:=bne_eq_false_iff_eq.mpr c8
         clear c8
         have H':=zm H
         clear H
         have p206:0≤(x13_1:Int):=of_decide_eq_true (by first|(with_reducible assumption)|assumption)
         have q206:x13_1 < (l0.length:Int):=of_decide_eq_true (by first|(with_reducible assumption)|assumption)
         obtain ⟨ad206,e206,hx206_0⟩:=Kd.at_int HR0.out x13_1 p206 q206
         cases e206
         replace p206:=eq_true p206
         replace q206:=eq_true q206
         have p207:0≤(x13_1:Int):=of_decide_eq_true (by first|(with_reducible assumption)|assumption)
         have q207:x13_1 < (l1.length:Int):=of_decide_eq_true (by first|(with_reducible assumption)|assumption)
         obtain ⟨ad207,e207,hx207_0⟩:=Kd.at_int HR1.out x13_1 p207 q207
         cases e207
         replace p207:=eq_true p207
         replace q207:=eq_true q207
         go_wp2
         repeat (go_quiet (fail);try go_wp2)
         go_roundg k1
         case measure=>have:=HK1.out;omega
         case rel=>exact ⟨(wrap64 (x13_1 + 1)),(by first|rfl|(simp;done)|(simp [*];done)),H',⟨by have:=HK1.out;omega⟩,by repeat (first|exact Drawn0.refl _|apply Drawn0.step)⟩
        ·rw [if_neg c8] at H
         have c8b0:((rd l0 x13_1) == (rd l1 x13_1))=false:=beq_eq_false_iff_ne.mpr c8
         have c8b1:((rd l0 x13_1) != (rd l1 x13_1))=true:=bne_iff_ne.mpr c8
         obtain rfl:=Option.some.inj H
         have p206:0≤(x13_1:Int):=of_decide_eq_true (by first|(with_reducible assumption)|assumption)
         have q206:x13_1 < (l0.length:Int):=of_decide_eq_true (by first|(with_reducible assumption)|assumption)
         obtain ⟨ad206,e206,hx206_0⟩:=Kd.at_int HR0.out x13_1 p206 q206
         cases e206
         replace p206:=eq_true p206
         replace q206:=eq_true q206
         have p207:0≤(x13_1:Int):=of_decide_eq_true (by first|(with_reducible assumption)|assumption)
         have q207:x13_1 < (l1.length:Int):=of_decide_eq_true (by first|(with_reducible assumption)|assumption)
         obtain ⟨ad207,e207,hx207_0⟩:=Kd.at_int HR1.out x13_1 p207 q207
         cases e207
         replace p207:=eq_true p207
         replace q207:=eq_true q207
         go_wp2
         repeat (go_quiet (fail);try go_wp2)
         go_ret
         exact ⟨by first|rfl|(simp;done)|(simp [*];done),by repeat (first|exact Drawn0.refl _|apply Drawn0.step)⟩
       ·rw [if_neg c7] at H
        exact absurd H (by simp)
      ·rw [if_neg c6] at H
       exact absurd H (by simp)
     ·rw [if_neg c5] at H
      exact absurd H (by simp)
    ·rw [if_neg c4] at H
     have c4b0:decide (x13_1 < (l0.length:Int))=false:=decide_eq_false c4
     clear c4
     obtain rfl:=Option.some.inj H
     go_wp2
     repeat (go_quiet (fail);try go_wp2)
     go_ret
     exact ⟨by first|rfl|(simp;done)|(simp [*];done),by repeat (first|exact Drawn0.refl _|apply Drawn0.step)⟩
 ·rw [if_neg c3] at H
  have c3b0:((l0.length:Int) == (l1.length:Int))=false:=beq_eq_false_iff_ne.mpr c3
  have c3b1:((l0.length:Int) != (l1.length:Int))=true:=bne_iff_ne.mpr c3
  have c3b2:(l0.length == l1.length)=false:=by first|simpa using c3|(simp at c3 ⊢;omega)
  obtain rfl:=Option.some.inj H
  go_enter Try.func60,Try.ntmps60
  go_wp2
  repeat (go_quiet (fail);try go_wp2)
  go_ret
  exact ⟨by first|rfl|(simp;done)|(simp [*];done),by repeat (first|exact Drawn0.refl _|apply Drawn0.step)⟩
end Go.Proofs.Ytkhbmgclklmimaa.Print
end
section
namespace Go.Proofs.Ytkhbmgclklmimaa.Print
open Go.RowKit Go.Proofs.YtkhbmgclklmimaaW.PrintWords Go.Proofs.YtkhbmgclklmimaaW.PrintLast Go.Proofs.YtkhbmgclklmimaaW.PrintMore
attribute [local go_sem] max2_int min2_int max_two min_two max_three min_three max_four min_four   -- for this text's walks alone
attribute [local go_sem ↓] Go.Proofs.Ytkhbmgclklmimaa.Sem.isSome_setCell
attribute [local go_sem] Go.Instr.field Go.asAgg
set_option linter.unusedVariables false
set_option linter.unusedSimpArgs false
def mapjnl_Same.f (k:Nat) (l0_0:List Bool) (l0_1:List Int) (a0_2:Int) (l1_0:List Bool) (l1_1:List Int) (a1_2:Int):Option (Bool):=(slices_Equal_bool_bool.f k l0_0 l1_0).bind fun t210=>(if t210=true then ((slices_Equal_int64_int64.f k l0_1 l1_1).bind fun t211=>(if t211=true then (some (a0_2 == a1_2)) else (some false))) else (some false))
theorem mapjnl_Same.mono:∀ a0 a1 a2 a3 a4 a5 k,LeO (mapjnl_Same.f k a0 a1 a2 a3 a4 a5) (mapjnl_Same.f (k + 1) a0 a1 a2 a3 a4 a5):=by
 intro a0 a1 a2 a3 a4 a5 k
 unfold mapjnl_Same.f
 repeat' first
   | (with_reducible exact slices_Equal_bool_bool.mono _ _ _)
   | (with_reducible exact slices_Equal_int64_int64.mono _ _ _)
   | (with_reducible exact LeO.refl _)
   | (with_reducible exact LeO.none _)
   | (with_reducible refine LeO.ite ?_ ?_)
   | (with_reducible refine LeO.bind ?_ (fun _=>?_))
   | exact slices_Equal_bool_bool.mono _ _ _
   | exact slices_Equal_int64_int64.mono _ _ _
   | exact LeO.none _
   | refine LeO.ite ?_ ?_
   | refine LeO.bind ?_ (fun _=>?_)
set_option maxHeartbeats 8000000 in
set_option maxRecDepth 100000 in
theorem mapjnl_Same.calls (k:Nat) (A0_0:Option Addr) (c0_0:Nat) (l0_0:List Bool) (A0_1:Option Addr) (c0_1:Nat) (l0_1:List Int) (a0_2:Int) (A1_0:Option Addr) (c1_0:Nat) (l1_0:List Bool) (A1_1:Option Addr) (c1_1:Nat) (l1_1:List Int) (a1_2:Int) (r:Bool) (w:World) (hr0_0:Kd.C Kd.bool w A0_0 l0_0.length l0_0) (hc0_0:l0_0.length≤c0_0) (hr0_1:Kd.C (Kd.int .i64) w A0_1 l0_1.length l0_1) (hc0_1:l0_1.length≤c0_1) (hr1_0:Kd.C Kd.bool w A1_0 l1_0.length l1_0) (hc1_0:l1_0.length≤c1_0) (hr1_1:Kd.C (Kd.int .i64) w A1_1 l1_1.length l1_1) (hc1_1:l1_1.length≤c1_1) (h:mapjnl_Same.f k l0_0 l0_1 a0_2 l1_0 l1_1 a1_2=some r) :
  Calls Try.prog 21 #[.agg #[.slice A0_0 l0_0.length c0_0,.slice A0_1 l0_1.length c0_1,.int .i64 a0_2],.agg #[.slice A1_0 l1_0.length c1_0,.slice A1_1 l1_1.length c1_1,.int .i64 a1_2]] w fun e w'=>e=.returned (.bool r)∧Below w.heap.size w w':=by
 have hu25:=Try.underlying25
 have HR0_0:=zm hr0_0
 have HC0_0:=zm hc0_0
 clear hr0_0 hc0_0
 have HR0_1:=zm hr0_1
 have HC0_1:=zm hc0_1
 clear hr0_1 hc0_1
 have HR1_0:=zm hr1_0
 have HC1_0:=zm hc1_0
 clear hr1_0 hc1_0
 have HR1_1:=zm hr1_1
 have HC1_1:=zm hc1_1
 clear hr1_1 hc1_1
 have HB:=zm (Below.refl w.heap.size w)
 have H:((slices_Equal_bool_bool.f k l0_0 l1_0).bind fun t210=>(if t210=true then ((slices_Equal_int64_int64.f k l0_1 l1_1).bind fun t211=>(if t211=true then (some (a0_2 == a1_2)) else (some false))) else (some false)))=some r:=h
 clear h
 replace H:=Option.bind_eq_some_iff.mp H
 obtain ⟨t210,A30,H⟩:=H
 replace H:(if t210=true then ((slices_Equal_int64_int64.f k l0_1 l1_1).bind fun t211=>(if t211=true then (some (a0_2 == a1_2)) else (some false))) else (some false))=some r:=H
 have A3:=zm A30
 clear A30
 by_cases c4:t210=true
 ·subst c4
  have H1:((slices_Equal_int64_int64.f k l0_1 l1_1).bind fun t211=>(if t211=true then (some (a0_2 == a1_2)) else (some false)))=some r:=by rw [if_pos rfl] at H;exact H
  clear H
  have H:=H1
  clear H1
  replace H:=Option.bind_eq_some_iff.mp H
  obtain ⟨t211,A50,H⟩:=H
  replace H:(if t211=true then (some (a0_2 == a1_2)) else (some false))=some r:=H
  have A5:=zm A50
  clear A50
  by_cases c6:t211=true
  ·subst c6
   have H1:(some (a0_2 == a1_2))=some r:=by rw [if_pos rfl] at H;exact H
   clear H
   have H:=H1
   clear H1
   obtain rfl:=Option.some.inj H
   go_enter Try.func21,Try.ntmps21
   go_wp2_with (first|((with_reducible refine gate_dst (N:=2) rfl ?_);refine box_event ?hg (N:=2) ?hd (cs:=#[.slice A0_0 l0_0.length c0_0,.slice A0_1 l0_1.length c0_1,.int .i64 a0_2]) (t:=25) ?hr ?_;(case hd=>rfl);(case hg=>rfl);(case hr=>first|(go_simp;done)|(go_simp;rfl));intro gb208 hg w7 hbox hb;have n0_:=zm (below_step (by repeat (first|(with_reducible first|exact HB.out|apply zlA|apply zlN|apply zlD)|exact HB.out)) hb);have n1_:=zm (hbox);have n2_:=zm ((by rw [hg];exact (below_size (by repeat (first|(with_reducible first|exact HB.out|apply zlA|apply zlN|apply zlD)|exact HB.out))):w.heap.size≤gb208));have n3_:=zm ((by rw [hg];exact (below_size (by repeat (first|(with_reducible first|exact HB.out|apply zlA|apply zlN|apply zlD)|exact HB.out))):w.heap.size≤gb208));clear HB;have HB:=n0_;have BK208:=n1_;have GW208:=n2_;have GE208:=n3_;clear n0_ n1_ n2_ n3_;clear hb hbox hg)|((with_reducible refine gate_dst (N:=3) rfl ?_);refine box_event ?hg (N:=3) ?hd (cs:=#[.slice A1_0 l1_0.length c1_0,.slice A1_1 l1_1.length c1_1,.int .i64 a1_2]) (t:=25) ?hr ?_;(case hd=>rfl);(case hg=>rfl);(case hr=>first|(go_simp;done)|(go_simp;rfl));intro gb209 hg w8 hbox hb;have n0_:=zm (zbB (g:=gb208) (o:=.cells #[.slice A0_0 l0_0.length c0_0,.slice A0_1 l0_1.length c0_1,.int .i64 a0_2] 25 (0,0)) (by (with_reducible repeat (first|refine zbN ?_ _|refine zbD ?_|refine zbA ?_ _));exact BK208.out) hb);have n1_:=zm (below_step (by repeat (first|(with_reducible first|exact HB.out|apply zlA|apply zlN|apply zlD|refine zlS ?_ GE208.out)|exact HB.out)) hb);have n2_:=zm (hbox);have n3_:=zm ((by rw [hg];exact (below_size (by repeat (first|(with_reducible first|exact HB.out|apply zlA|apply zlN|apply zlD|refine zlS ?_ GE208.out)|exact HB.out))):w.heap.size≤gb209));have n4_:=zm ((by rw [hg];exact (below_size (by repeat (first|(with_reducible first|exact HB.out|apply zlA|apply zlN|apply zlD|refine zlS ?_ GE208.out)|exact HB.out))):w.heap.size≤gb209));have n5_:=zm ((by rw [hg];exact Nat.ne_of_lt (blk_lt (g:=gb208) (o:=.cells #[.slice A0_0 l0_0.length c0_0,.slice A0_1 l0_1.length c0_1,.int .i64 a0_2] 25 (0,0)) (by (with_reducible repeat (first|refine zbN ?_ _|refine zbD ?_|refine zbA ?_ _));exact BK208.out)):gb208≠gb209));have n6_:=zm ((by rw [hg];exact Nat.ne_of_gt (blk_lt (g:=gb208) (o:=.cells #[.slice A0_0 l0_0.length c0_0,.slice A0_1 l0_1.length c0_1,.int .i64 a0_2] 25 (0,0)) (by (with_reducible repeat (first|refine zbN ?_ _|refine zbD ?_|refine zbA ?_ _));exact BK208.out)):gb209≠gb208));clear BK208 HB;have BK208:=n0_;have HB:=n1_;have BK209:=n2_;have GW209:=n3_;have GE209:=n4_;have NB208_209:=n5_;have NB209_208:=n6_;clear n0_ n1_ n2_ n3_ n4_ n5_ n6_;clear hb hbox hg;have hnb9:=NB208_209.out;have hnc9:=NB209_208.out;have hcz10_0:w8.cell? ⟨gb208,0,none⟩=some (.slice A0_0 l0_0.length c0_0):=(blk_cell BK208.out 0).trans rfl;have hcz10_1:w8.cell? ⟨gb208,1,none⟩=some (.slice A0_1 l0_1.length c0_1):=(blk_cell BK208.out 1).trans rfl;have hcz10_2:w8.cell? ⟨gb208,2,none⟩=some (.int .i64 a0_2):=(blk_cell BK208.out 2).trans rfl;have hfz10_0:=blk_frozen BK208.out 0;have hfz10_1:=blk_frozen BK208.out 1;have hfz10_2:=blk_frozen BK208.out 2;have hcz11_0:w8.cell? ⟨gb209,0,none⟩=some (.slice A1_0 l1_0.length c1_0):=(blk_cell BK209.out 0).trans rfl;have hcz11_1:w8.cell? ⟨gb209,1,none⟩=some (.slice A1_1 l1_1.length c1_1):=(blk_cell BK209.out 1).trans rfl;have hcz11_2:w8.cell? ⟨gb209,2,none⟩=some (.int .i64 a1_2):=(blk_cell BK209.out 2).trans rfl;have hfz11_0:=blk_frozen BK209.out 0;have hfz11_1:=blk_frozen BK209.out 1;have hfz11_2:=blk_frozen BK209.out 2)|((with_reducible refine gate_callee (f:=59) rfl ?_);refine goesL_ (some 9) rfl rfl Try.func59 (by kernel_rfl) rfl #[.slice A0_0 l0_0.length c0_0,.slice A1_0 l1_0.length c1_0] rfl (by (try simp only [List.map_toArray,List.map_cons,List.map_nil]);first|done|rfl|(simp only [List.length_drop,List.length_take];rfl)) ?_;(with_reducible refine (slices_Equal_bool_bool.calls k _ _ l0_0 _ _ l1_0 true _ ?side1 ?side2 ?side3 ?side4 A3.out).mono ?_);(case side1=>repeat (first|exact (Kd.C_below HR0_0.out HB.out)|(with_reducible refine Kd.C_alloc ?_ _)|(with_reducible refine Kd.C_drewN ?_ _)|(with_reducible refine Kd.C_drew ?_)));(case side2=>exact HC0_0.out);(case side3=>repeat (first|exact (Kd.C_below HR1_0.out HB.out)|(with_reducible refine Kd.C_alloc ?_ _)|(with_reducible refine Kd.C_drewN ?_ _)|(with_reducible refine Kd.C_drew ?_)));(case side4=>exact HC1_0.out);rintro e w' ⟨rfl,⟨nd,rfl⟩⟩;refine ⟨_,rfl,?_⟩)|(go_at_call 60;(with_reducible refine (slices_Equal_int64_int64.calls k _ _ l0_1 _ _ l1_1 true _ ?side1 ?side2 ?side3 ?side4 A5.out).mono ?_);(case side1=>repeat (first|exact (Kd.C_below HR0_1.out (by repeat (first|(with_reducible first|exact HB.out|apply zlA|apply zlN|apply zlD|refine zlS ?_ GE208.out|refine zlS ?_ GE209.out)|exact HB.out)))|(with_reducible refine Kd.C_alloc ?_ _)|(with_reducible refine Kd.C_drewN ?_ _)|(with_reducible refine Kd.C_drew ?_)));(case side2=>exact HC0_1.out);(case side3=>repeat (first|exact (Kd.C_below HR1_1.out (by repeat (first|(with_reducible first|exact HB.out|apply zlA|apply zlN|apply zlD|refine zlS ?_ GE208.out|refine zlS ?_ GE209.out)|exact HB.out)))|(with_reducible refine Kd.C_alloc ?_ _)|(with_reducible refine Kd.C_drewN ?_ _)|(with_reducible refine Kd.C_drew ?_)));(case side4=>exact HC1_1.out);rintro e w' ⟨rfl,⟨nd,rfl⟩⟩))
   go_ret
   exact ⟨by first|rfl|(simp [errW_none,errW_some] <;> rfl)|(simp [*,errW_none,errW_some] <;> rfl),by repeat (first|(with_reducible first|exact HB.out|apply zlA|apply zlN|apply zlD|refine zlS ?_ GE208.out|refine zlS ?_ GE209.out)|exact HB.out)⟩
  ·replace c6:=Bool.eq_false_iff.mpr c6
   subst c6
   have H1:(some false)=some r:=by rw [if_neg (show ¬ (false=true) by decide)] at H;exact H
   clear H
   have H:=H1
   clear H1
   obtain rfl:=Option.some.inj H
   go_enter Try.func21,Try.ntmps21
   go_wp2_with (first|((with_reducible refine gate_dst (N:=2) rfl ?_);refine box_event ?hg (N:=2) ?hd (cs:=#[.slice A0_0 l0_0.length c0_0,.slice A0_1 l0_1.length c0_1,.int .i64 a0_2]) (t:=25) ?hr ?_;(case hd=>rfl);(case hg=>rfl);(case hr=>first|(go_simp;done)|(go_simp;rfl));intro gb208 hg w12 hbox hb;have n0_:=zm (below_step (by repeat (first|(with_reducible first|exact HB.out|apply zlA|apply zlN|apply zlD)|exact HB.out)) hb);have n1_:=zm (hbox);have n2_:=zm ((by rw [hg];exact (below_size (by repeat (first|(with_reducible first|exact HB.out|apply zlA|apply zlN|apply zlD)|exact HB.out))):w.heap.size≤gb208));have n3_:=zm ((by rw [hg];exact (below_size (by repeat (first|(with_reducible first|exact HB.out|apply zlA|apply zlN|apply zlD)|exact HB.out))):w.heap.size≤gb208));clear HB;have HB:=n0_;have BK208:=n1_;have GW208:=n2_;have GE208:=n3_;clear n0_ n1_ n2_ n3_;clear hb hbox hg)|((with_reducible refine gate_dst (N:=3) rfl ?_);refine box_event ?hg (N:=3) ?hd (cs:=#[.slice A1_0 l1_0.length c1_0,.slice A1_1 l1_1.length c1_1,.int .i64 a1_2]) (t:=25) ?hr ?_;(case hd=>rfl);(case hg=>rfl);(case hr=>first|(go_simp;done)|(go_simp;rfl));intro gb209 hg w13 hbox hb;have n0_:=zm (zbB (g:=gb208) (o:=.cells #[.slice A0_0 l0_0.length c0_0,.slice A0_1 l0_1.length c0_1,.int .i64 a0_2] 25 (0,0)) (by (with_reducible repeat (first|refine zbN ?_ _|refine zbD ?_|refine zbA ?_ _));exact BK208.out) hb);have n1_:=zm (below_step (by repeat (first|(with_reducible first|exact HB.out|apply zlA|apply zlN|apply zlD|refine zlS ?_ GE208.out)|exact HB.out)) hb);have n2_:=zm (hbox);have n3_:=zm ((by rw [hg];exact (below_size (by repeat (first|(with_reducible first|exact HB.out|apply zlA|apply zlN|apply zlD|refine zlS ?_ GE208.out)|exact HB.out))):w.heap.size≤gb209));have n4_:=zm ((by rw [hg];exact (below_size (by repeat (first|(with_reducible first|exact HB.out|apply zlA|apply zlN|apply zlD|refine zlS ?_ GE208.out)|exact HB.out))):w.heap.size≤gb209));have n5_:=zm ((by rw [hg];exact Nat.ne_of_lt (blk_lt (g:=gb208) (o:=.cells #[.slice A0_0 l0_0.length c0_0,.slice A0_1 l0_1.length c0_1,.int .i64 a0_2] 25 (0,0)) (by (with_reducible repeat (first|refine zbN ?_ _|refine zbD ?_|refine zbA ?_ _));exact BK208.out)):gb208≠gb209));have n6_:=zm ((by rw [hg];exact Nat.ne_of_gt (blk_lt (g:=gb208) (o:=.cells #[.slice A0_0 l0_0.length c0_0,.slice A0_1 l0_1.length c0_1,.int .i64 a0_2] 25 (0,0)) (by (with_reducible repeat (first|refine zbN ?_ _|refine zbD ?_|refine zbA ?_ _));exact BK208.out)):gb209≠gb208));clear BK208 HB;have BK208:=n0_;have HB:=n1_;have BK209:=n2_;have GW209:=n3_;have GE209:=n4_;have NB208_209:=n5_;have NB209_208:=n6_;clear n0_ n1_ n2_ n3_ n4_ n5_ n6_;clear hb hbox hg;have hnb14:=NB208_209.out;have hnc14:=NB209_208.out;have hcz15_0:w13.cell? ⟨gb208,0,none⟩=some (.slice A0_0 l0_0.length c0_0):=(blk_cell BK208.out 0).trans rfl;have hcz15_1:w13.cell? ⟨gb208,1,none⟩=some (.slice A0_1 l0_1.length c0_1):=(blk_cell BK208.out 1).trans rfl;have hcz15_2:w13.cell? ⟨gb208,2,none⟩=some (.int .i64 a0_2):=(blk_cell BK208.out 2).trans rfl;have hfz15_0:=blk_frozen BK208.out 0;have hfz15_1:=blk_frozen BK208.out 1;have hfz15_2:=blk_frozen BK208.out 2;have hcz16_0:w13.cell? ⟨gb209,0,none⟩=some (.slice A1_0 l1_0.length c1_0):=(blk_cell BK209.out 0).trans rfl;have hcz16_1:w13.cell? ⟨gb209,1,none⟩=some (.slice A1_1 l1_1.length c1_1):=(blk_cell BK209.out 1).trans rfl;have hcz16_2:w13.cell? ⟨gb209,2,none⟩=some (.int .i64 a1_2):=(blk_cell BK209.out 2).trans rfl;have hfz16_0:=blk_frozen BK209.out 0;have hfz16_1:=blk_frozen BK209.out 1;have hfz16_2:=blk_frozen BK209.out 2)|((with_reducible refine gate_callee (f:=59) rfl ?_);refine goesL_ (some 9) rfl rfl Try.func59 (by kernel_rfl) rfl #[.slice A0_0 l0_0.length c0_0,.slice A1_0 l1_0.length c1_0] rfl (by (try simp only [List.map_toArray,List.map_cons,List.map_nil]);first|done|rfl|(simp only [List.length_drop,List.length_take];rfl)) ?_;(with_reducible refine (slices_Equal_bool_bool.calls k _ _ l0_0 _ _ l1_0 true _ ?side1 ?side2 ?side3 ?side4 A3.out).mono ?_);(case side1=>repeat (first|exact (Kd.C_below HR0_0.out HB.out)|(with_reducible refine Kd.C_alloc ?_ _)|(with_reducible refine Kd.C_drewN ?_ _)|(with_reducible refine Kd.C_drew ?_)));(case side2=>exact HC0_0.out);(case side3=>repeat (first|exact (Kd.C_below HR1_0.out HB.out)|(with_reducible refine Kd.C_alloc ?_ _)|(with_reducible refine Kd.C_drewN ?_ _)|(with_reducible refine Kd.C_drew ?_)));(case side4=>exact HC1_0.out);rintro e w' ⟨rfl,⟨nd,rfl⟩⟩;refine ⟨_,rfl,?_⟩)|(go_at_call 60;(with_reducible refine (slices_Equal_int64_int64.calls k _ _ l0_1 _ _ l1_1 false _ ?side1 ?side2 ?side3 ?side4 A5.out).mono ?_);(case side1=>repeat (first|exact (Kd.C_below HR0_1.out (by repeat (first|(with_reducible first|exact HB.out|apply zlA|apply zlN|apply zlD|refine zlS ?_ GE208.out|refine zlS ?_ GE209.out)|exact HB.out)))|(with_reducible refine Kd.C_alloc ?_ _)|(with_reducible refine Kd.C_drewN ?_ _)|(with_reducible refine Kd.C_drew ?_)));(case side2=>exact HC0_1.out);(case side3=>repeat (first|exact (Kd.C_below HR1_1.out (by repeat (first|(with_reducible first|exact HB.out|apply zlA|apply zlN|apply zlD|refine zlS ?_ GE208.out|refine zlS ?_ GE209.out)|exact HB.out)))|(with_reducible refine Kd.C_alloc ?_ _)|(with_reducible refine Kd.C_drewN ?_ _)|(with_reducible refine Kd.C_drew ?_)));(case side4=>exact HC1_1.out);rintro e w' ⟨rfl,⟨nd,rfl⟩⟩))
   go_ret
   exact ⟨by first|rfl|(simp [errW_none,errW_some] <;> rfl)|(simp [*,errW_none,errW_some] <;> rfl),by repeat (first|(with_reducible first|exact HB.out|apply zlA|apply zlN|apply zlD|refine zlS ?_ GE208.out|refine zlS ?_ GE209.out)|exact HB.out)⟩
 ·replace c4:=Bool.eq_false_iff.mpr c4
  subst c4
  have H1:(some false)=some r:=by rw [if_neg (show ¬ (false=true) by decide)] at H;exact H
  clear H
  have H:=H1
  clear H1
  obtain rfl:=Option.some.inj H
  go_enter Try.func21,Try.ntmps21
  go_wp2_with (first|((with_reducible refine gate_dst (N:=2) rfl ?_);refine box_event ?hg (N:=2) ?hd (cs:=#[.slice A0_0 l0_0.length c0_0,.slice A0_1 l0_1.length c0_1,.int .i64 a0_2]) (t:=25) ?hr ?_;(case hd=>rfl);(case hg=>rfl);(case hr=>first|(go_simp;done)|(go_simp;rfl));intro gb208 hg w17 hbox hb;have n0_:=zm (below_step (by repeat (first|(with_reducible first|exact HB.out|apply zlA|apply zlN|apply zlD)|exact HB.out)) hb);have n1_:=zm (hbox);have n2_:=zm ((by rw [hg];exact (below_size (by repeat (first|(with_reducible first|exact HB.out|apply zlA|apply zlN|apply zlD)|exact HB.out))):w.heap.size≤gb208));have n3_:=zm ((by rw [hg];exact (below_size (by repeat (first|(with_reducible first|exact HB.out|apply zlA|apply zlN|apply zlD)|exact HB.out))):w.heap.size≤gb208));clear HB;have HB:=n0_;have BK208:=n1_;have GW208:=n2_;have GE208:=n3_;clear n0_ n1_ n2_ n3_;clear hb hbox hg)|((with_reducible refine gate_dst (N:=3) rfl ?_);refine box_event ?hg (N:=3) ?hd (cs:=#[.slice A1_0 l1_0.length c1_0,.slice A1_1 l1_1.length c1_1,.int .i64 a1_2]) (t:=25) ?hr ?_;(case hd=>rfl);(case hg=>rfl);(case hr=>first|(go_simp;done)|(go_simp;rfl));intro gb209 hg w18 hbox hb;have n0_:=zm (zbB (g:=gb208) (o:=.cells #[.slice A0_0 l0_0.length c0_0,.slice A0_1 l0_1.length c0_1,.int .i64 a0_2] 25 (0,0)) (by (with_reducible repeat (first|refine zbN ?_ _|refine zbD ?_|refine zbA ?_ _));exact BK208.out) hb);have n1_:=zm (below_step (by repeat (first|(with_reducible first|exact HB.out|apply zlA|apply zlN|apply zlD|refine zlS ?_ GE208.out)|exact HB.out)) hb);have n2_:=zm (hbox);have n3_:=zm ((by rw [hg];exact (below_size (by repeat (first|(with_reducible first|exact HB.out|apply zlA|apply zlN|apply zlD|refine zlS ?_ GE208.out)|exact HB.out))):w.heap.size≤gb209));have n4_:=zm ((by rw [hg];exact (below_size (by repeat (first|(with_reducible first|exact HB.out|apply zlA|apply zlN|apply zlD|refine zlS ?_ GE208.out)|exact HB.out))):w.heap.size≤gb209));have n5_:=zm ((by rw [hg];exact Nat.ne_of_lt (blk_lt (g:=gb208) (o:=.cells #[.slice A0_0 l0_0.length c0_0,.slice A0_1 l0_1.length c0_1,.int .i64 a0_2] 25 (0,0)) (by (with_reducible repeat (first|refine zbN ?_ _|refine zbD ?_|refine zbA ?_ _));exact BK208.out)):gb208≠gb209));have n6_:=zm ((by rw [hg];exact Nat.ne_of_gt (blk_lt (g:=gb208) (o:=.cells #[.slice A0_0 l0_0.length c0_0,.slice A0_1 l0_1.length c0_1,.int .i64 a0_2] 25 (0,0)) (by (with_reducible repeat (first|refine zbN ?_ _|refine zbD ?_|refine zbA ?_ _));exact BK208.out)):gb209≠gb208));clear BK208 HB;have BK208:=n0_;have HB:=n1_;have BK209:=n2_;have GW209:=n3_;have GE209:=n4_;have NB208_209:=n5_;have NB209_208:=n6_;clear n0_ n1_ n2_ n3_ n4_ n5_ n6_;clear hb hbox hg;have hnb19:=NB208_209.out;have hnc19:=NB209_208.out;have hcz20_0:w18.cell? ⟨gb208,0,none⟩=some (.slice A0_0 l0_0.length c0_0):=(blk_cell BK208.out 0).trans rfl;have hcz20_1:w18.cell? ⟨gb208,1,none⟩=some (.slice A0_1 l0_1.length c0_1):=(blk_cell BK208.out 1).trans rfl;have hcz20_2:w18.cell? ⟨gb208,2,none⟩=some (.int .i64 a0_2):=(blk_cell BK208.out 2).trans rfl;have hfz20_0:=blk_frozen BK208.out 0;have hfz20_1:=blk_frozen BK208.out 1;have hfz20_2:=blk_frozen BK208.out 2;have hcz21_0:w18.cell? ⟨gb209,0,none⟩=some (.slice A1_0 l1_0.length c1_0):=(blk_cell BK209.out 0).trans rfl;have hcz21_1:w18.cell? ⟨gb209,1,none⟩=some (.slice A1_1 l1_1.length c1_1):=(blk_cell BK209.out 1).trans rfl;have hcz21_2:w18.cell? ⟨gb209,2,none⟩=some (.int .i64 a1_2):=(blk_cell BK209.out 2).trans rfl;have hfz21_0:=blk_frozen BK209.out 0;have hfz21_1:=blk_frozen BK209.out 1;have hfz21_2:=blk_frozen BK209.out 2)|((with_reducible refine gate_callee (f:=59) rfl ?_);refine goesL_ (some 9) rfl rfl Try.func59 (by kernel_rfl) rfl #[.slice A0_0 l0_0.length c0_0,.slice A1_0 l1_0.length c1_0] rfl (by (try simp only [List.map_toArray,List.map_cons,List.map_nil]);first|done|rfl|(simp only [List.length_drop,List.length_take];rfl)) ?_;(with_reducible refine (slices_Equal_bool_bool.calls k _ _ l0_0 _ _ l1_0 false _ ?side1 ?side2 ?side3 ?side4 A3.out).mono ?_);(case side1=>repeat (first|exact (Kd.C_below HR0_0.out HB.out)|(with_reducible refine Kd.C_alloc ?_ _)|(with_reducible refine Kd.C_drewN ?_ _)|(with_reducible refine Kd.C_drew ?_)));(case side2=>exact HC0_0.out);(case side3=>repeat (first|exact (Kd.C_below HR1_0.out HB.out)|(with_reducible refine Kd.C_alloc ?_ _)|(with_reducible refine Kd.C_drewN ?_ _)|(with_reducible refine Kd.C_drew ?_)));(case side4=>exact HC1_0.out);rintro e w' ⟨rfl,⟨nd,rfl⟩⟩;refine ⟨_,rfl,?_⟩))
  go_ret
  exact ⟨by first|rfl|(simp [errW_none,errW_some] <;> rfl)|(simp [*,errW_none,errW_some] <;> rfl),by repeat (first|(with_reducible first|exact HB.out|apply zlA|apply zlN|apply zlD|refine zlS ?_ GE208.out|refine zlS ?_ GE209.out)|exact HB.out)⟩
def mapjnl_Covers.f (k:Nat) (l0_0:List Bool) (l0_1:List Int) (a0_2:Int) (l1_0:List Bool) (l1_1:List Int) (a1_2:Int):Option (Bool):=(mapjnl_Join.f k l0_0 l0_1 a0_2 l1_0 l1_1 a1_2).bind fun bt214=>(if bt214.2.2.2=0 then ((mapjnl_Same.f k bt214.1 bt214.2.1 bt214.2.2.1 l0_0 l0_1 a0_2).bind fun t223=>(some t223)) else (some false))
theorem mapjnl_Covers.mono:∀ a0 a1 a2 a3 a4 a5 k,LeO (mapjnl_Covers.f k a0 a1 a2 a3 a4 a5) (mapjnl_Covers.f (k + 1) a0 a1 a2 a3 a4 a5):=by
 intro a0 a1 a2 a3 a4 a5 k
 unfold mapjnl_Covers.f
 repeat' first
   | (with_reducible exact mapjnl_Join.mono _ _ _ _ _ _ _)
   | (with_reducible exact mapjnl_Same.mono _ _ _ _ _ _ _)
   | (with_reducible exact LeO.refl _)
   | (with_reducible exact LeO.none _)
   | (with_reducible refine LeO.ite ?_ ?_)
   | (with_reducible refine LeO.bind ?_ (fun _=>?_))
   | exact mapjnl_Join.mono _ _ _ _ _ _ _
   | exact mapjnl_Same.mono _ _ _ _ _ _ _
   | exact LeO.none _
   | refine LeO.ite ?_ ?_
   | refine LeO.bind ?_ (fun _=>?_)
set_option maxHeartbeats 8000000 in
set_option maxRecDepth 100000 in
theorem mapjnl_Covers.calls (k:Nat) (A0_0:Option Addr) (c0_0:Nat) (l0_0:List Bool) (A0_1:Option Addr) (c0_1:Nat) (l0_1:List Int) (a0_2:Int) (A1_0:Option Addr) (c1_0:Nat) (l1_0:List Bool) (A1_1:Option Addr) (c1_1:Nat) (l1_1:List Int) (a1_2:Int) (r:Bool) (w:World) (hr0_0:Kd.C Kd.bool w A0_0 l0_0.length l0_0) (hc0_0:l0_0.length≤c0_0) (hr0_1:Kd.C (Kd.int .i64) w A0_1 l0_1.length l0_1) (hc0_1:l0_1.length≤c0_1) (hr1_0:Kd.C Kd.bool w A1_0 l1_0.length l1_0) (hc1_0:l1_0.length≤c1_0) (hr1_1:Kd.C (Kd.int .i64) w A1_1 l1_1.length l1_1) (hc1_1:l1_1.length≤c1_1) (h:mapjnl_Covers.f k l0_0 l0_1 a0_2 l1_0 l1_1 a1_2=some r) :
  Calls Try.prog 19 #[.agg #[.slice A0_0 l0_0.length c0_0,.slice A0_1 l0_1.length c0_1,.int .i64 a0_2],.agg #[.slice A1_0 l1_0.length c1_0,.slice A1_1 l1_1.length c1_1,.int .i64 a1_2]] w fun e w'=>e=.returned (.bool r)∧Below w.heap.size w w':=by
 have hu25:=Try.underlying25
 have HR0_0:=zm hr0_0
 have HC0_0:=zm hc0_0
 clear hr0_0 hc0_0
 have HR0_1:=zm hr0_1
 have HC0_1:=zm hc0_1
 clear hr0_1 hc0_1
 have HR1_0:=zm hr1_0
 have HC1_0:=zm hc1_0
 clear hr1_0 hc1_0
 have HR1_1:=zm hr1_1
 have HC1_1:=zm hc1_1
 clear hr1_1 hc1_1
 have HB:=zm (Below.refl w.heap.size w)
 have H:((mapjnl_Join.f k l0_0 l0_1 a0_2 l1_0 l1_1 a1_2).bind fun bt214=>(if bt214.2.2.2=0 then ((mapjnl_Same.f k bt214.1 bt214.2.1 bt214.2.2.1 l0_0 l0_1 a0_2).bind fun t223=>(some t223)) else (some false)))=some r:=h
 clear h
 replace H:=Option.bind_eq_some_iff.mp H
 obtain ⟨⟨t214,t217,t220,t221⟩,A30,H⟩:=H
 replace H:(if t221=0 then ((mapjnl_Same.f k t214 t217 t220 l0_0 l0_1 a0_2).bind fun t223=>(some t223)) else (some false))=some r:=H
 have A3:=zm A30
 clear A30
 by_cases c4:t221=0
 ·rw [if_pos c4] at H
  have c4b0:(t221 == 0)=true:=beq_iff_eq.mpr c4
  have c4b1:(t221 != 0)=false:=bne_eq_false_iff_eq.mpr c4
  clear c4
  replace H:=Option.bind_eq_some_iff.mp H
  obtain ⟨t223,A50,H⟩:=H
  replace H:(some t223)=some r:=H
  have A5:=zm A50
  clear A50
  obtain rfl:=Option.some.inj H
  go_enter Try.func19,Try.ntmps19
  go_wp2_with (first|((with_reducible refine gate_dst (N:=2) rfl ?_);refine box_event ?hg (N:=2) ?hd (cs:=#[.slice A0_0 l0_0.length c0_0,.slice A0_1 l0_1.length c0_1,.int .i64 a0_2]) (t:=25) ?hr ?_;(case hd=>rfl);(case hg=>rfl);(case hr=>first|(go_simp;done)|(go_simp;rfl));intro gb212 hg w6 hbox hb;have n0_:=zm (below_step (by repeat (first|(with_reducible first|exact HB.out|apply zlA|apply zlN|apply zlD)|exact HB.out)) hb);have n1_:=zm (hbox);have n2_:=zm ((by rw [hg];exact (below_size (by repeat (first|(with_reducible first|exact HB.out|apply zlA|apply zlN|apply zlD)|exact HB.out))):w.heap.size≤gb212));have n3_:=zm ((by rw [hg];exact (below_size (by repeat (first|(with_reducible first|exact HB.out|apply zlA|apply zlN|apply zlD)|exact HB.out))):w.heap.size≤gb212));clear HB;have HB:=n0_;have BK212:=n1_;have GW212:=n2_;have GE212:=n3_;clear n0_ n1_ n2_ n3_;clear hb hbox hg)|((with_reducible refine gate_dst (N:=3) rfl ?_);refine box_event ?hg (N:=3) ?hd (cs:=#[.slice A1_0 l1_0.length c1_0,.slice A1_1 l1_1.length c1_1,.int .i64 a1_2]) (t:=25) ?hr ?_;(case hd=>rfl);(case hg=>rfl);(case hr=>first|(go_simp;done)|(go_simp;rfl));intro gb213 hg w7 hbox hb;have n0_:=zm (zbB (g:=gb212) (o:=.cells #[.slice A0_0 l0_0.length c0_0,.slice A0_1 l0_1.length c0_1,.int .i64 a0_2] 25 (0,0)) (by (with_reducible repeat (first|refine zbN ?_ _|refine zbD ?_|refine zbA ?_ _));exact BK212.out) hb);have n1_:=zm (below_step (by repeat (first|(with_reducible first|exact HB.out|apply zlA|apply zlN|apply zlD|refine zlS ?_ GE212.out)|exact HB.out)) hb);have n2_:=zm (hbox);have n3_:=zm ((by rw [hg];exact (below_size (by repeat (first|(with_reducible first|exact HB.out|apply zlA|apply zlN|apply zlD|refine zlS ?_ GE212.out)|exact HB.out))):w.heap.size≤gb213));have n4_:=zm ((by rw [hg];exact (below_size (by repeat (first|(with_reducible first|exact HB.out|apply zlA|apply zlN|apply zlD|refine zlS ?_ GE212.out)|exact HB.out))):w.heap.size≤gb213));have n5_:=zm ((by rw [hg];exact Nat.ne_of_lt (blk_lt (g:=gb212) (o:=.cells #[.slice A0_0 l0_0.length c0_0,.slice A0_1 l0_1.length c0_1,.int .i64 a0_2] 25 (0,0)) (by (with_reducible repeat (first|refine zbN ?_ _|refine zbD ?_|refine zbA ?_ _));exact BK212.out)):gb212≠gb213));have n6_:=zm ((by rw [hg];exact Nat.ne_of_gt (blk_lt (g:=gb212) (o:=.cells #[.slice A0_0 l0_0.length c0_0,.slice A0_1 l0_1.length c0_1,.int .i64 a0_2] 25 (0,0)) (by (with_reducible repeat (first|refine zbN ?_ _|refine zbD ?_|refine zbA ?_ _));exact BK212.out)):gb213≠gb212));clear BK212 HB;have BK212:=n0_;have HB:=n1_;have BK213:=n2_;have GW213:=n3_;have GE213:=n4_;have NB212_213:=n5_;have NB213_212:=n6_;clear n0_ n1_ n2_ n3_ n4_ n5_ n6_;clear hb hbox hg;have hnb8:=NB212_213.out;have hnc8:=NB213_212.out;have hcz9_0:w7.cell? ⟨gb212,0,none⟩=some (.slice A0_0 l0_0.length c0_0):=(blk_cell BK212.out 0).trans rfl;have hcz9_1:w7.cell? ⟨gb212,1,none⟩=some (.slice A0_1 l0_1.length c0_1):=(blk_cell BK212.out 1).trans rfl;have hcz9_2:w7.cell? ⟨gb212,2,none⟩=some (.int .i64 a0_2):=(blk_cell BK212.out 2).trans rfl;have hfz9_0:=blk_frozen BK212.out 0;have hfz9_1:=blk_frozen BK212.out 1;have hfz9_2:=blk_frozen BK212.out 2;have hcz10_0:w7.cell? ⟨gb213,0,none⟩=some (.slice A1_0 l1_0.length c1_0):=(blk_cell BK213.out 0).trans rfl;have hcz10_1:w7.cell? ⟨gb213,1,none⟩=some (.slice A1_1 l1_1.length c1_1):=(blk_cell BK213.out 1).trans rfl;have hcz10_2:w7.cell? ⟨gb213,2,none⟩=some (.int .i64 a1_2):=(blk_cell BK213.out 2).trans rfl;have hfz10_0:=blk_frozen BK213.out 0;have hfz10_1:=blk_frozen BK213.out 1;have hfz10_2:=blk_frozen BK213.out 2)|((with_reducible refine gate_callee (f:=13) rfl ?_);refine goesL_ (some 10) rfl rfl Try.func13 (by kernel_rfl) rfl #[.agg #[.slice A0_0 l0_0.length c0_0,.slice A0_1 l0_1.length c0_1,.int .i64 a0_2],.agg #[.slice A1_0 l1_0.length c1_0,.slice A1_1 l1_1.length c1_1,.int .i64 a1_2]] rfl (by (try simp only [List.map_toArray,List.map_cons,List.map_nil]);first|done|rfl|(simp only [List.length_drop,List.length_take];rfl)) ?_;(with_reducible refine (mapjnl_Join.calls k _ _ l0_0 _ _ l0_1 a0_2 _ _ l1_0 _ _ l1_1 a1_2 t214 t217 t220 t221 _ ?side1 ?side2 ?side3 ?side4 ?side5 ?side6 ?side7 ?side8 A3.out).mono ?_);(case side1=>repeat (first|exact (Kd.C_below HR0_0.out HB.out)|(with_reducible refine Kd.C_alloc ?_ _)|(with_reducible refine Kd.C_drewN ?_ _)|(with_reducible refine Kd.C_drew ?_)));(case side2=>exact HC0_0.out);(case side3=>repeat (first|exact (Kd.C_below HR0_1.out HB.out)|(with_reducible refine Kd.C_alloc ?_ _)|(with_reducible refine Kd.C_drewN ?_ _)|(with_reducible refine Kd.C_drew ?_)));(case side4=>exact HC0_1.out);(case side5=>repeat (first|exact (Kd.C_below HR1_0.out HB.out)|(with_reducible refine Kd.C_alloc ?_ _)|(with_reducible refine Kd.C_drewN ?_ _)|(with_reducible refine Kd.C_drew ?_)));(case side6=>exact HC1_0.out);(case side7=>repeat (first|exact (Kd.C_below HR1_1.out HB.out)|(with_reducible refine Kd.C_alloc ?_ _)|(with_reducible refine Kd.C_drewN ?_ _)|(with_reducible refine Kd.C_drew ?_)));(case side8=>exact HC1_1.out);rintro e w11 ⟨v215,v218,rfl,ho0,ho1,hb⟩;refine ⟨_,rfl,?_⟩;have n0_:=zm (Kd.R_lower ho0 (below_size (by repeat (first|(with_reducible first|exact HB.out|apply zlA|apply zlN|apply zlD|refine zlS ?_ GE212.out|refine zlS ?_ GE213.out)|exact HB.out))));have n1_:=zm (Kd.R_lower ho1 (below_size (by repeat (first|(with_reducible first|exact HB.out|apply zlA|apply zlN|apply zlD|refine zlS ?_ GE212.out|refine zlS ?_ GE213.out)|exact HB.out))));have n2_:=zm (zbB (g:=gb212) (o:=.cells #[.slice A0_0 l0_0.length c0_0,.slice A0_1 l0_1.length c0_1,.int .i64 a0_2] 25 (0,0)) (by (with_reducible repeat (first|refine zbN ?_ _|refine zbD ?_|refine zbA ?_ _));exact BK212.out) hb);have n3_:=zm (zbB (g:=gb213) (o:=.cells #[.slice A1_0 l1_0.length c1_0,.slice A1_1 l1_1.length c1_1,.int .i64 a1_2] 25 (0,0)) (by (with_reducible repeat (first|refine zbN ?_ _|refine zbD ?_|refine zbA ?_ _));exact BK213.out) hb);have n4_:=zm (below_step (by repeat (first|(with_reducible first|exact HB.out|apply zlA|apply zlN|apply zlD|refine zlS ?_ GE212.out|refine zlS ?_ GE213.out)|exact HB.out)) hb);clear BK212 BK213 HB;have HO216:=n0_;have HO219:=n1_;have BK212:=n2_;have BK213:=n3_;have HB:=n4_;clear n0_ n1_ n2_ n3_ n4_;(try clear hb);(try clear hb2);(try clear hk);(try clear hi);(try clear ho0);(try clear ho1))|((with_reducible refine gate_dst (N:=5) rfl ?_);refine box_event ?hg (N:=5) ?hd (cs:=#[.slice none 0 0,.slice none 0 0,.int .i64 0]) (t:=25) ?hr ?_;(case hd=>rfl);(case hg=>rfl);(case hr=>first|(go_simp;done)|(go_simp;rfl));intro gb222 hg w12 hbox hb;have n0_:=zm (Kd.R_below (by (with_reducible repeat (first|apply zrA|apply zrN|apply zrD));exact HO216.out) hb);have n1_:=zm (Kd.R_below (by (with_reducible repeat (first|apply zrA|apply zrN|apply zrD));exact HO219.out) hb);have n2_:=zm (zbB (g:=gb212) (o:=.cells #[.slice A0_0 l0_0.length c0_0,.slice A0_1 l0_1.length c0_1,.int .i64 a0_2] 25 (0,0)) (by (with_reducible repeat (first|refine zbN ?_ _|refine zbD ?_|refine zbA ?_ _));exact BK212.out) hb);have n3_:=zm (zbB (g:=gb213) (o:=.cells #[.slice A1_0 l1_0.length c1_0,.slice A1_1 l1_1.length c1_1,.int .i64 a1_2] 25 (0,0)) (by (with_reducible repeat (first|refine zbN ?_ _|refine zbD ?_|refine zbA ?_ _));exact BK213.out) hb);have n4_:=zm (below_step (by repeat (first|(with_reducible first|exact HB.out|apply zlA|apply zlN|apply zlD|refine zlS ?_ GE212.out|refine zlS ?_ GE213.out)|exact HB.out)) hb);have n5_:=zm (hbox);have n6_:=zm ((by rw [hg];exact (below_size (by repeat (first|(with_reducible first|exact HB.out|apply zlA|apply zlN|apply zlD|refine zlS ?_ GE212.out|refine zlS ?_ GE213.out)|exact HB.out))):w.heap.size≤gb222));have n7_:=zm ((by rw [hg];exact (below_size (by repeat (first|(with_reducible first|exact HB.out|apply zlA|apply zlN|apply zlD|refine zlS ?_ GE212.out|refine zlS ?_ GE213.out)|exact HB.out))):w.heap.size≤gb222));have n8_:=zm ((by rw [hg];exact Nat.ne_of_lt (blk_lt (g:=gb212) (o:=.cells #[.slice A0_0 l0_0.length c0_0,.slice A0_1 l0_1.length c0_1,.int .i64 a0_2] 25 (0,0)) (by (with_reducible repeat (first|refine zbN ?_ _|refine zbD ?_|refine zbA ?_ _));exact BK212.out)):gb212≠gb222));have n9_:=zm ((by rw [hg];exact Nat.ne_of_gt (blk_lt (g:=gb212) (o:=.cells #[.slice A0_0 l0_0.length c0_0,.slice A0_1 l0_1.length c0_1,.int .i64 a0_2] 25 (0,0)) (by (with_reducible repeat (first|refine zbN ?_ _|refine zbD ?_|refine zbA ?_ _));exact BK212.out)):gb222≠gb212));have n10_:=zm ((by rw [hg];exact Nat.ne_of_lt (blk_lt (g:=gb213) (o:=.cells #[.slice A1_0 l1_0.length c1_0,.slice A1_1 l1_1.length c1_1,.int .i64 a1_2] 25 (0,0)) (by (with_reducible repeat (first|refine zbN ?_ _|refine zbD ?_|refine zbA ?_ _));exact BK213.out)):gb213≠gb222));have n11_:=zm ((by rw [hg];exact Nat.ne_of_gt (blk_lt (g:=gb213) (o:=.cells #[.slice A1_0 l1_0.length c1_0,.slice A1_1 l1_1.length c1_1,.int .i64 a1_2] 25 (0,0)) (by (with_reducible repeat (first|refine zbN ?_ _|refine zbD ?_|refine zbA ?_ _));exact BK213.out)):gb222≠gb213));clear HO216 HO219 BK212 BK213 HB;have HO216:=n0_;have HO219:=n1_;have BK212:=n2_;have BK213:=n3_;have HB:=n4_;have BK222:=n5_;have GW222:=n6_;have GE222:=n7_;have NB212_222:=n8_;have NB222_212:=n9_;have NB213_222:=n10_;have NB222_213:=n11_;clear n0_ n1_ n2_ n3_ n4_ n5_ n6_ n7_ n8_ n9_ n10_ n11_;clear hb hbox hg;obtain ⟨Ao13,co13,eo13⟩:=Kd.R_slice HO216.out;subst eo13;have hnb14:=NB222_212.out;have hnc14:=NB212_222.out;have hnb15:=NB222_213.out;have hnc15:=NB213_222.out;have hcz16_0:w12.cell? ⟨gb222,0,none⟩=some (.slice none 0 0):=(blk_cell BK222.out 0).trans rfl;have hcz16_1:w12.cell? ⟨gb222,1,none⟩=some (.slice none 0 0):=(blk_cell BK222.out 1).trans rfl;have hcz16_2:w12.cell? ⟨gb222,2,none⟩=some (.int .i64 0):=(blk_cell BK222.out 2).trans rfl;have hfz16_0:=blk_frozen BK222.out 0;have hfz16_1:=blk_frozen BK222.out 1;have hfz16_2:=blk_frozen BK222.out 2;obtain ⟨Ao17,co17,eo17⟩:=Kd.R_slice HO219.out;subst eo17;have hcz18_0:w12.cell? ⟨gb212,0,none⟩=some (.slice A0_0 l0_0.length c0_0):=(blk_cell BK212.out 0).trans rfl;have hcz18_1:w12.cell? ⟨gb212,1,none⟩=some (.slice A0_1 l0_1.length c0_1):=(blk_cell BK212.out 1).trans rfl;have hcz18_2:w12.cell? ⟨gb212,2,none⟩=some (.int .i64 a0_2):=(blk_cell BK212.out 2).trans rfl;have hfz18_0:=blk_frozen BK212.out 0;have hfz18_1:=blk_frozen BK212.out 1;have hfz18_2:=blk_frozen BK212.out 2)|(go_at_call 21;(with_reducible refine (mapjnl_Same.calls k _ _ t214 _ _ t217 t220 _ _ l0_0 _ _ l0_1 a0_2 t223 _ ?side1 ?side2 ?side3 ?side4 ?side5 ?side6 ?side7 ?side8 A5.out).mono ?_);(case side1=>refine (Kd.R_reads' (e:=4) (base:=w.heap.size) (ok:=fun k_=>True) (n:=t214.length) (c:=co13) ?_).2.2;exact (by (with_reducible repeat (first|apply zrA|apply zrN|apply zrD));exact (Kd.R_mono (Kd.R_far (p:=⟨gb222,2,none⟩) (Kd.R_far (p:=⟨gb222,1,none⟩) (Kd.R_far (p:=⟨gb222,0,none⟩) (Kd.R_types HO216.out BK222.out (by decide)) (fun _ hk=>hk.2) (.slice Ao13 t214.length co13)) (fun _ hk=>hk.2) (.slice Ao17 t217.length co17)) (fun _ hk=>hk.2) (.int .i64 t220)) (fun _ h_=>h_.1))));(case side2=>exact (Kd.R_reads' HO216.out).2.1);(case side3=>refine (Kd.R_reads' (e:=2) (base:=w.heap.size) (ok:=fun k_=>True) (n:=t217.length) (c:=co17) ?_).2.2;exact (by (with_reducible repeat (first|apply zrA|apply zrN|apply zrD));exact (Kd.R_mono (Kd.R_far (p:=⟨gb222,2,none⟩) (Kd.R_far (p:=⟨gb222,1,none⟩) (Kd.R_far (p:=⟨gb222,0,none⟩) (Kd.R_types HO219.out BK222.out (by decide)) (fun _ hk=>hk.2) (.slice Ao13 t214.length co13)) (fun _ hk=>hk.2) (.slice Ao17 t217.length co17)) (fun _ hk=>hk.2) (.int .i64 t220)) (fun _ h_=>h_.1))));(case side4=>exact (Kd.R_reads' HO219.out).2.1);(case side5=>exact Kd.C_below HR0_0.out (by repeat (first|(with_reducible first|exact HB.out|apply zlA|apply zlN|apply zlD|refine zlS ?_ GE212.out|refine zlS ?_ GE213.out|refine zlS ?_ GE222.out)|exact HB.out)));(case side6=>exact HC0_0.out);(case side7=>exact Kd.C_below HR0_1.out (by repeat (first|(with_reducible first|exact HB.out|apply zlA|apply zlN|apply zlD|refine zlS ?_ GE212.out|refine zlS ?_ GE213.out|refine zlS ?_ GE222.out)|exact HB.out)));(case side8=>exact HC0_1.out);rintro e w19 ⟨rfl,hb⟩;have n0_:=zm (Kd.R_below (by (with_reducible repeat (first|apply zrA|apply zrN|apply zrD));exact (Kd.R_mono (Kd.R_far (p:=⟨gb222,2,none⟩) (Kd.R_far (p:=⟨gb222,1,none⟩) (Kd.R_far (p:=⟨gb222,0,none⟩) (Kd.R_types HO216.out BK222.out (by decide)) (fun _ hk=>hk.2) (.slice Ao13 t214.length co13)) (fun _ hk=>hk.2) (.slice Ao17 t217.length co17)) (fun _ hk=>hk.2) (.int .i64 t220)) (fun _ h_=>h_.1))) hb);have n1_:=zm (Kd.R_below (by (with_reducible repeat (first|apply zrA|apply zrN|apply zrD));exact (Kd.R_mono (Kd.R_far (p:=⟨gb222,2,none⟩) (Kd.R_far (p:=⟨gb222,1,none⟩) (Kd.R_far (p:=⟨gb222,0,none⟩) (Kd.R_types HO219.out BK222.out (by decide)) (fun _ hk=>hk.2) (.slice Ao13 t214.length co13)) (fun _ hk=>hk.2) (.slice Ao17 t217.length co17)) (fun _ hk=>hk.2) (.int .i64 t220)) (fun _ h_=>h_.1))) hb);have n2_:=zm (zbB (g:=gb212) (o:=.cells #[.slice A0_0 l0_0.length c0_0,.slice A0_1 l0_1.length c0_1,.int .i64 a0_2] 25 (0,0)) (by (with_reducible repeat (first|refine zbN ?_ _|refine zbD ?_|refine zbA ?_ _));refine blk_far ?_ NB212_222.out _;(with_reducible repeat (first|refine zbN ?_ _|refine zbD ?_|refine zbA ?_ _));refine blk_far ?_ NB212_222.out _;(with_reducible repeat (first|refine zbN ?_ _|refine zbD ?_|refine zbA ?_ _));refine blk_far ?_ NB212_222.out _;(with_reducible repeat (first|refine zbN ?_ _|refine zbD ?_|refine zbA ?_ _));exact BK212.out) hb);have n3_:=zm (zbB (g:=gb213) (o:=.cells #[.slice A1_0 l1_0.length c1_0,.slice A1_1 l1_1.length c1_1,.int .i64 a1_2] 25 (0,0)) (by (with_reducible repeat (first|refine zbN ?_ _|refine zbD ?_|refine zbA ?_ _));refine blk_far ?_ NB213_222.out _;(with_reducible repeat (first|refine zbN ?_ _|refine zbD ?_|refine zbA ?_ _));refine blk_far ?_ NB213_222.out _;(with_reducible repeat (first|refine zbN ?_ _|refine zbD ?_|refine zbA ?_ _));refine blk_far ?_ NB213_222.out _;(with_reducible repeat (first|refine zbN ?_ _|refine zbD ?_|refine zbA ?_ _));exact BK213.out) hb);have n4_:=zm (zbB (g:=gb222) (o:=.cells #[.slice Ao13 t214.length co13,.slice Ao17 t217.length co17,.int .i64 t220] 25 (0,0)) (by (with_reducible repeat (first|refine zbN ?_ _|refine zbD ?_|refine zbA ?_ _));refine blk_put (cs:=#[.slice Ao13 t214.length co13,.slice Ao17 t217.length co17,.int .i64 0]) ?_ 2 _ rfl;(with_reducible repeat (first|refine zbN ?_ _|refine zbD ?_|refine zbA ?_ _));refine blk_put (cs:=#[.slice Ao13 t214.length co13,.slice none 0 0,.int .i64 0]) ?_ 1 _ rfl;(with_reducible repeat (first|refine zbN ?_ _|refine zbD ?_|refine zbA ?_ _));refine blk_put (cs:=#[.slice none 0 0,.slice none 0 0,.int .i64 0]) ?_ 0 _ rfl;(with_reducible repeat (first|refine zbN ?_ _|refine zbD ?_|refine zbA ?_ _));exact BK222.out) hb);have n5_:=zm (below_step (by repeat (first|(with_reducible first|exact HB.out|apply zlA|apply zlN|apply zlD|refine zlS ?_ GE212.out|refine zlS ?_ GE213.out|refine zlS ?_ GE222.out)|exact HB.out)) hb);clear HO216 HO219 BK212 BK213 BK222 HB;have HO216:=n0_;have HO219:=n1_;have BK212:=n2_;have BK213:=n3_;have BK222:=n4_;have HB:=n5_;clear n0_ n1_ n2_ n3_ n4_ n5_;(try clear hb);(try clear hb2);(try clear hk);(try clear hi)))
  go_ret
  exact ⟨by first|rfl|(simp [errW_none,errW_some] <;> rfl)|(simp [*,errW_none,errW_some] <;> rfl),by repeat (first|(with_reducible first|exact HB.out|apply zlA|apply zlN|apply zlD|refine zlS ?_ GE212.out|refine zlS ?_ GE213.out|refine zlS ?_ GE222.out)|exact HB.out)⟩
 ·rw [if_neg c4] at H
  have c4b0:(t221 == 0)=false:=beq_eq_false_iff_ne.mpr c4
  have c4b1:(t221 != 0)=true:=bne_iff_ne.mpr c4
  obtain rfl:=Option.some.inj H
  go_enter Try.func19,Try.ntmps19
  go_wp2_with (first|((with_reducible refine gate_dst (N:=2) rfl ?_);refine box_event ?hg (N:=2) ?hd (cs:=#[.slice A0_0 l0_0.length c0_0,.slice A0_1 l0_1.length c0_1,.int .i64 a0_2]) (t:=25) ?hr ?_;(case hd=>rfl);(case hg=>rfl);(case hr=>first|(go_simp;done)|(go_simp;rfl));intro gb212 hg w20 hbox hb;have n0_:=zm (below_step (by repeat (first|(with_reducible first|exact HB.out|apply zlA|apply zlN|apply zlD)|exact HB.out)) hb);have n1_:=zm (hbox);have n2_:=zm ((by rw [hg];exact (below_size (by repeat (first|(with_reducible first|exact HB.out|apply zlA|apply zlN|apply zlD)|exact HB.out))):w.heap.size≤gb212));have n3_:=zm ((by rw [hg];exact (below_size (by repeat (first|(with_reducible first|exact HB.out|apply zlA|apply zlN|apply zlD)|exact HB.out))):w.heap.size≤gb212));clear HB;have HB:=n0_;have BK212:=n1_;have GW212:=n2_;have GE212:=n3_;clear n0_ n1_ n2_ n3_;clear hb hbox hg)|((with_reducible refine gate_dst (N:=3) rfl ?_);refine box_event ?hg (N:=3) ?hd (cs:=#[.slice A1_0 l1_0.length c1_0,.slice A1_1 l1_1.length c1_1,.int .i64 a1_2]) (t:=25) ?hr ?_;(case hd=>rfl);(case hg=>rfl);(case hr=>first|(go_simp;done)|(go_simp;rfl));intro gb213 hg w21 hbox hb;have n0_:=zm (zbB (g:=gb212) (o:=.cells #[.slice A0_0 l0_0.length c0_0,.slice A0_1 l0_1.length c0_1,.int .i64 a0_2] 25 (0,0)) (by (with_reducible repeat (first|refine zbN ?_ _|refine zbD ?_|refine zbA ?_ _));exact BK212.out) hb);have n1_:=zm (below_step (by repeat (first|(with_reducible first|exact HB.out|apply zlA|apply zlN|apply zlD|refine zlS ?_ GE212.out)|exact HB.out)) hb);have n2_:=zm (hbox);have n3_:=zm ((by rw [hg];exact (below_size (by repeat (first|(with_reducible first|exact HB.out|apply zlA|apply zlN|apply zlD|refine zlS ?_ GE212.out)|exact HB.out))):w.heap.size≤gb213));have n4_:=zm ((by rw [hg];exact (below_size (by repeat (first|(with_reducible first|exact HB.out|apply zlA|apply zlN|apply zlD|refine zlS ?_ GE212.out)|exact HB.out))):w.heap.size≤gb213));have n5_:=zm ((by rw [hg];exact Nat.ne_of_lt (blk_lt (g:=gb212) (o:=.cells #[.slice A0_0 l0_0.length c0_0,.slice A0_1 l0_1.length c0_1,.int .i64 a0_2] 25 (0,0)) (by (with_reducible repeat (first|refine zbN ?_ _|refine zbD ?_|refine zbA ?_ _));exact BK212.out)):gb212≠gb213));have n6_:=zm ((by rw [hg];exact Nat.ne_of_gt (blk_lt (g:=gb212) (o:=.cells #[.slice A0_0 l0_0.length c0_0,.slice A0_1 l0_1.length c0_1,.int .i64 a0_2] 25 (0,0)) (by (with_reducible repeat (first|refine zbN ?_ _|refine zbD ?_|refine zbA ?_ _));exact BK212.out)):gb213≠gb212));clear BK212 HB;have BK212:=n0_;have HB:=n1_;have BK213:=n2_;have GW213:=n3_;have GE213:=n4_;have NB212_213:=n5_;have NB213_212:=n6_;clear n0_ n1_ n2_ n3_ n4_ n5_ n6_;clear hb hbox hg;have hnb22:=NB212_213.out;have hnc22:=NB213_212.out;have hcz23_0:w21.cell? ⟨gb212,0,none⟩=some (.slice A0_0 l0_0.length c0_0):=(blk_cell BK212.out 0).trans rfl;have hcz23_1:w21.cell? ⟨gb212,1,none⟩=some (.slice A0_1 l0_1.length c0_1):=(blk_cell BK212.out 1).trans rfl;have hcz23_2:w21.cell? ⟨gb212,2,none⟩=some (.int .i64 a0_2):=(blk_cell BK212.out 2).trans rfl;have hfz23_0:=blk_frozen BK212.out 0;have hfz23_1:=blk_frozen BK212.out 1;have hfz23_2:=blk_frozen BK212.out 2;have hcz24_0:w21.cell? ⟨gb213,0,none⟩=some (.slice A1_0 l1_0.length c1_0):=(blk_cell BK213.out 0).trans rfl;have hcz24_1:w21.cell? ⟨gb213,1,none⟩=some (.slice A1_1 l1_1.length c1_1):=(blk_cell BK213.out 1).trans rfl;have hcz24_2:w21.cell? ⟨gb213,2,none⟩=some (.int .i64 a1_2):=(blk_cell BK213.out 2).trans rfl;have hfz24_0:=blk_frozen BK213.out 0;have hfz24_1:=blk_frozen BK213.out 1;have hfz24_2:=blk_frozen BK213.out 2)|((with_reducible refine gate_callee (f:=13) rfl ?_);refine goesL_ (some 10) rfl rfl Try.func13 (by kernel_rfl) rfl #[.agg #[.slice A0_0 l0_0.length c0_0,.slice A0_1 l0_1.length c0_1,.int .i64 a0_2],.agg #[.slice A1_0 l1_0.length c1_0,.slice A1_1 l1_1.length c1_1,.int .i64 a1_2]] rfl (by (try simp only [List.map_toArray,List.map_cons,List.map_nil]);first|done|rfl|(simp only [List.length_drop,List.length_take];rfl)) ?_;(with_reducible refine (mapjnl_Join.calls k _ _ l0_0 _ _ l0_1 a0_2 _ _ l1_0 _ _ l1_1 a1_2 t214 t217 t220 t221 _ ?side1 ?side2 ?side3 ?side4 ?side5 ?side6 ?side7 ?side8 A3.out).mono ?_);(case side1=>repeat (first|exact (Kd.C_below HR0_0.out HB.out)|(with_reducible refine Kd.C_alloc ?_ _)|(with_reducible refine Kd.C_drewN ?_ _)|(with_reducible refine Kd.C_drew ?_)));(case side2=>exact HC0_0.out);(case side3=>repeat (first|exact (Kd.C_below HR0_1.out HB.out)|(with_reducible refine Kd.C_alloc ?_ _)|(with_reducible refine Kd.C_drewN ?_ _)|(with_reducible refine Kd.C_drew ?_)));(case side4=>exact HC0_1.out);(case side5=>repeat (first|exact (Kd.C_below HR1_0.out HB.out)|(with_reducible refine Kd.C_alloc ?_ _)|(with_reducible refine Kd.C_drewN ?_ _)|(with_reducible refine Kd.C_drew ?_)));(case side6=>exact HC1_0.out);(case side7=>repeat (first|exact (Kd.C_below HR1_1.out HB.out)|(with_reducible refine Kd.C_alloc ?_ _)|(with_reducible refine Kd.C_drewN ?_ _)|(with_reducible refine Kd.C_drew ?_)));(case side8=>exact HC1_1.out);rintro e w25 ⟨v215,v218,rfl,ho0,ho1,hb⟩;refine ⟨_,rfl,?_⟩;have n0_:=zm (Kd.R_lower ho0 (below_size (by repeat (first|(with_reducible first|exact HB.out|apply zlA|apply zlN|apply zlD|refine zlS ?_ GE212.out|refine zlS ?_ GE213.out)|exact HB.out))));have n1_:=zm (Kd.R_lower ho1 (below_size (by repeat (first|(with_reducible first|exact HB.out|apply zlA|apply zlN|apply zlD|refine zlS ?_ GE212.out|refine zlS ?_ GE213.out)|exact HB.out))));have n2_:=zm (zbB (g:=gb212) (o:=.cells #[.slice A0_0 l0_0.length c0_0,.slice A0_1 l0_1.length c0_1,.int .i64 a0_2] 25 (0,0)) (by (with_reducible repeat (first|refine zbN ?_ _|refine zbD ?_|refine zbA ?_ _));exact BK212.out) hb);have n3_:=zm (zbB (g:=gb213) (o:=.cells #[.slice A1_0 l1_0.length c1_0,.slice A1_1 l1_1.length c1_1,.int .i64 a1_2] 25 (0,0)) (by (with_reducible repeat (first|refine zbN ?_ _|refine zbD ?_|refine zbA ?_ _));exact BK213.out) hb);have n4_:=zm (below_step (by repeat (first|(with_reducible first|exact HB.out|apply zlA|apply zlN|apply zlD|refine zlS ?_ GE212.out|refine zlS ?_ GE213.out)|exact HB.out)) hb);clear BK212 BK213 HB;have HO216:=n0_;have HO219:=n1_;have BK212:=n2_;have BK213:=n3_;have HB:=n4_;clear n0_ n1_ n2_ n3_ n4_;(try clear hb);(try clear hb2);(try clear hk);(try clear hi);(try clear ho0);(try clear ho1))|((with_reducible refine gate_dst (N:=5) rfl ?_);refine box_event ?hg (N:=5) ?hd (cs:=#[.slice none 0 0,.slice none 0 0,.int .i64 0]) (t:=25) ?hr ?_;(case hd=>rfl);(case hg=>rfl);(case hr=>first|(go_simp;done)|(go_simp;rfl));intro gb222 hg w26 hbox hb;have n0_:=zm (Kd.R_below (by (with_reducible repeat (first|apply zrA|apply zrN|apply zrD));exact HO216.out) hb);have n1_:=zm (Kd.R_below (by (with_reducible repeat (first|apply zrA|apply zrN|apply zrD));exact HO219.out) hb);have n2_:=zm (zbB (g:=gb212) (o:=.cells #[.slice A0_0 l0_0.length c0_0,.slice A0_1 l0_1.length c0_1,.int .i64 a0_2] 25 (0,0)) (by (with_reducible repeat (first|refine zbN ?_ _|refine zbD ?_|refine zbA ?_ _));exact BK212.out) hb);have n3_:=zm (zbB (g:=gb213) (o:=.cells #[.slice A1_0 l1_0.length c1_0,.slice A1_1 l1_1.length c1_1,.int .i64 a1_2] 25 (0,0)) (by (with_reducible repeat (first|refine zbN ?_ _|refine zbD ?_|refine zbA ?_ _));exact BK213.out) hb);have n4_:=zm (below_step (by repeat (first|(with_reducible first|exact HB.out|apply zlA|apply zlN|apply zlD|refine zlS ?_ GE212.out|refine zlS ?_ GE213.out)|exact HB.out)) hb);have n5_:=zm (hbox);have n6_:=zm ((by rw [hg];exact (below_size (by repeat (first|(with_reducible first|exact HB.out|apply zlA|apply zlN|apply zlD|refine zlS ?_ GE212.out|refine zlS ?_ GE213.out)|exact HB.out))):w.heap.size≤gb222));have n7_:=zm ((by rw [hg];exact (below_size (by repeat (first|(with_reducible first|exact HB.out|apply zlA|apply zlN|apply zlD|refine zlS ?_ GE212.out|refine zlS ?_ GE213.out)|exact HB.out))):w.heap.size≤gb222));have n8_:=zm ((by rw [hg];exact Nat.ne_of_lt (blk_lt (g:=gb212) (o:=.cells #[.slice A0_0 l0_0.length c0_0,.slice A0_1 l0_1.length c0_1,.int .i64 a0_2] 25 (0,0)) (by (with_reducible repeat (first|refine zbN ?_ _|refine zbD ?_|refine zbA ?_ _));exact BK212.out)):gb212≠gb222));have n9_:=zm ((by rw [hg];exact Nat.ne_of_gt (blk_lt (g:=gb212) (o:=.cells #[.slice A0_0 l0_0.length c0_0,.slice A0_1 l0_1.length c0_1,.int .i64 a0_2] 25 (0,0)) (by (with_reducible repeat (first|refine zbN ?_ _|refine zbD ?_|refine zbA ?_ _));exact BK212.out)):gb222≠gb212));have n10_:=zm ((by rw [hg];exact Nat.ne_of_lt (blk_lt (g:=gb213) (o:=.cells #[.slice A1_0 l1_0.length c1_0,.slice A1_1 l1_1.length c1_1,.int .i64 a1_2] 25 (0,0)) (by (with_reducible repeat (first|refine zbN ?_ _|refine zbD ?_|refine zbA ?_ _));exact BK213.out)):gb213≠gb222));have n11_:=zm ((by rw [hg];exact Nat.ne_of_gt (blk_lt (g:=gb213) (o:=.cells #[.slice A1_0 l1_0.length c1_0,.slice A1_1 l1_1.length c1_1,.int .i64 a1_2] 25 (0,0)) (by (with_reducible repeat (first|refine zbN ?_ _|refine zbD ?_|refine zbA ?_ _));exact BK213.out)):gb222≠gb213));clear HO216 HO219 BK212 BK213 HB;have HO216:=n0_;have HO219:=n1_;have BK212:=n2_;have BK213:=n3_;have HB:=n4_;have BK222:=n5_;have GW222:=n6_;have GE222:=n7_;have NB212_222:=n8_;have NB222_212:=n9_;have NB213_222:=n10_;have NB222_213:=n11_;clear n0_ n1_ n2_ n3_ n4_ n5_ n6_ n7_ n8_ n9_ n10_ n11_;clear hb hbox hg;obtain ⟨Ao27,co27,eo27⟩:=Kd.R_slice HO216.out;subst eo27;have hnb28:=NB222_212.out;have hnc28:=NB212_222.out;have hnb29:=NB222_213.out;have hnc29:=NB213_222.out;have hcz30_0:w26.cell? ⟨gb222,0,none⟩=some (.slice none 0 0):=(blk_cell BK222.out 0).trans rfl;have hcz30_1:w26.cell? ⟨gb222,1,none⟩=some (.slice none 0 0):=(blk_cell BK222.out 1).trans rfl;have hcz30_2:w26.cell? ⟨gb222,2,none⟩=some (.int .i64 0):=(blk_cell BK222.out 2).trans rfl;have hfz30_0:=blk_frozen BK222.out 0;have hfz30_1:=blk_frozen BK222.out 1;have hfz30_2:=blk_frozen BK222.out 2;obtain ⟨Ao31,co31,eo31⟩:=Kd.R_slice HO219.out;subst eo31))
  go_ret
  exact ⟨by first|rfl|(simp [errW_none,errW_some] <;> rfl)|(simp [*,errW_none,errW_some] <;> rfl),by repeat (first|(with_reducible first|exact HB.out|apply zlA|apply zlN|apply zlD|refine zlS ?_ GE212.out|refine zlS ?_ GE213.out|refine zlS ?_ GE222.out)|exact HB.out)⟩
end Go.Proofs.Ytkhbmgclklmimaa.Print
end
section
namespace Go.Proofs.Ytkhbmgclklmimaa.Print
open Go.RowKit Go.Proofs.YtkhbmgclklmimaaW.PrintWords Go.Proofs.YtkhbmgclklmimaaW.PrintLast Go.Proofs.YtkhbmgclklmimaaW.PrintMore
attribute [local go_sem] max2_int min2_int max_two min_two max_three min_three max_four min_four   -- for this text's walks alone
attribute [local go_sem ↓] Go.Proofs.Ytkhbmgclklmimaa.Sem.isSome_setCell
attribute [local go_sem] Go.Instr.field Go.asAgg
set_option linter.unusedVariables false
set_option linter.unusedSimpArgs false
def slipwaylaw06_begun.f (k:Nat) :Option (Bool):=(mapjnl_New.f 16).bind fun bt252=>((mapjnl_Apply.f k bt252.1 bt252.2.1 bt252.2.2.1 (([(⟨2,3,5⟩:S55),(⟨2,3,4⟩:S55)]:List (S55)))).bind fun bt264=>(if bt252.2.2.2=0 then (if bt264.2.2.2=0 then (if (bt264.2.1.length:Int)=16 then (if 3 < (bt264.2.1.length:Int) then (if (rd bt264.2.1 3)=5 then ((mapjnl_Covers.f k bt264.1 bt264.2.1 bt264.2.2.1 bt252.1 bt252.2.1 bt252.2.2.1).bind fun t274=>(if t274=true then ((mapjnl_Covers.f k bt252.1 bt252.2.1 bt252.2.2.1 bt264.1 bt264.2.1 bt264.2.2.1).bind fun t275=>(if t275=true then (none) else ((mapjnl_Parts.f 16).bind fun t276=>(some (t276 == 1))))) else (none))) else (none)) else (none)) else (none)) else (none)) else (none)))
theorem slipwaylaw06_begun.mono:∀ k,LeO (slipwaylaw06_begun.f k ) (slipwaylaw06_begun.f (k + 1) ):=by
 intro  k
 unfold slipwaylaw06_begun.f
 repeat' first
   | (with_reducible exact mapjnl_Apply.mono _ _ _ _ _)
   | (with_reducible exact mapjnl_Covers.mono _ _ _ _ _ _ _)
   | (with_reducible exact LeO.refl _)
   | (with_reducible exact LeO.none _)
   | (with_reducible refine LeO.ite ?_ ?_)
   | (with_reducible refine LeO.bind ?_ (fun _=>?_))
   | exact mapjnl_Apply.mono _ _ _ _ _
   | exact mapjnl_Covers.mono _ _ _ _ _ _ _
   | exact LeO.none _
   | refine LeO.ite ?_ ?_
   | refine LeO.bind ?_ (fun _=>?_)
set_option maxHeartbeats 8000000 in
set_option maxRecDepth 100000 in
theorem slipwaylaw06_begun.calls (k:Nat)  (r:Bool) (w:World) (h:slipwaylaw06_begun.f k =some r) :
  Calls Try.prog 15 #[] w fun e w'=>e=.returned (.bool r)∧Below w.heap.size w w':=by
 have hu25:=Try.underlying25
 have hu55:=Try.underlying55
 have HB:=zm (Below.refl w.heap.size w)
 have H:((mapjnl_New.f 16).bind fun bt252=>((mapjnl_Apply.f k bt252.1 bt252.2.1 bt252.2.2.1 (([(⟨2,3,5⟩:S55),(⟨2,3,4⟩:S55)]:List (S55)))).bind fun bt264=>(if bt252.2.2.2=0 then (if bt264.2.2.2=0 then (if (bt264.2.1.length:Int)=16 then (if 3 < (bt264.2.1.length:Int) then (if (rd bt264.2.1 3)=5 then ((mapjnl_Covers.f k bt264.1 bt264.2.1 bt264.2.2.1 bt252.1 bt252.2.1 bt252.2.2.1).bind fun t274=>(if t274=true then ((mapjnl_Covers.f k bt252.1 bt252.2.1 bt252.2.2.1 bt264.1 bt264.2.1 bt264.2.2.1).bind fun t275=>(if t275=true then (none) else ((mapjnl_Parts.f 16).bind fun t276=>(some (t276 == 1))))) else (none))) else (none)) else (none)) else (none)) else (none)) else (none))))=some r:=h
 clear h
 replace H:=Option.bind_eq_some_iff.mp H
 obtain ⟨⟨t252,t255,t258,t259⟩,A10,H⟩:=H
 replace H:((mapjnl_Apply.f k t252 t255 t258 (([(⟨2,3,5⟩:S55),(⟨2,3,4⟩:S55)]:List (S55)))).bind fun bt264=>(if t259=0 then (if bt264.2.2.2=0 then (if (bt264.2.1.length:Int)=16 then (if 3 < (bt264.2.1.length:Int) then (if (rd bt264.2.1 3)=5 then ((mapjnl_Covers.f k bt264.1 bt264.2.1 bt264.2.2.1 t252 t255 t258).bind fun t274=>(if t274=true then ((mapjnl_Covers.f k t252 t255 t258 bt264.1 bt264.2.1 bt264.2.2.1).bind fun t275=>(if t275=true then (none) else ((mapjnl_Parts.f 16).bind fun t276=>(some (t276 == 1))))) else (none))) else (none)) else (none)) else (none)) else (none)) else (none)))=some r:=H
 have A1:=zm A10
 clear A10
 obtain ⟨y261,hy261⟩:∃ y_:List (S55),y_=(([(⟨2,3,5⟩:S55),(⟨2,3,4⟩:S55)]:List (S55))):=⟨_,rfl⟩
 replace H:((mapjnl_Apply.f k t252 t255 t258 y261).bind fun bt264=>(if t259=0 then (if bt264.2.2.2=0 then (if (bt264.2.1.length:Int)=16 then (if 3 < (bt264.2.1.length:Int) then (if (rd bt264.2.1 3)=5 then ((mapjnl_Covers.f k bt264.1 bt264.2.1 bt264.2.2.1 t252 t255 t258).bind fun t274=>(if t274=true then ((mapjnl_Covers.f k t252 t255 t258 bt264.1 bt264.2.1 bt264.2.2.1).bind fun t275=>(if t275=true then (none) else ((mapjnl_Parts.f 16).bind fun t276=>(some (t276 == 1))))) else (none))) else (none)) else (none)) else (none)) else (none)) else (none)))=some r:=by first|(rw [hy261];with_reducible exact H)|(have H2_:=(Option.bind_some _ _).symm.trans H;rw [hy261];with_reducible exact H2_)|(have H2_:=(Option.bind_some _ _).symm.trans H;with_reducible exact H2_)|with_reducible exact H|(rw [hy261];exact H)|exact H
 have Ny261:=zm hy261
 clear hy261
 replace H:=Option.bind_eq_some_iff.mp H
 obtain ⟨⟨t264,t267,t270,t271⟩,A20,H⟩:=H
 replace H:(if t259=0 then (if t271=0 then (if (t267.length:Int)=16 then (if 3 < (t267.length:Int) then (if (rd t267 3)=5 then ((mapjnl_Covers.f k t264 t267 t270 t252 t255 t258).bind fun t274=>(if t274=true then ((mapjnl_Covers.f k t252 t255 t258 t264 t267 t270).bind fun t275=>(if t275=true then (none) else ((mapjnl_Parts.f 16).bind fun t276=>(some (t276 == 1))))) else (none))) else (none)) else (none)) else (none)) else (none)) else (none))=some r:=H
 have A2:=zm A20
 clear A20
 by_cases c3:t259=0
 ·rw [if_pos c3] at H
  have c3b0:(t259 == 0)=true:=beq_iff_eq.mpr c3
  have c3b1:(t259 != 0)=false:=bne_eq_false_iff_eq.mpr c3
  clear c3
  by_cases c4:t271=0
  ·rw [if_pos c4] at H
   have c4b0:(t271 == 0)=true:=beq_iff_eq.mpr c4
   have c4b1:(t271 != 0)=false:=bne_eq_false_iff_eq.mpr c4
   clear c4
   by_cases c5:(t267.length:Int)=16
   ·rw [if_pos c5] at H
    have c5b0:((t267.length:Int) == 16)=true:=beq_iff_eq.mpr c5
    have c5b1:((t267.length:Int) != 16)=false:=bne_eq_false_iff_eq.mpr c5
    clear c5
    by_cases c6:3 < (t267.length:Int)
    ·rw [if_pos c6] at H
     have c6b0:decide (3 < (t267.length:Int))=true:=decide_eq_true c6
     have c6b1:decide (3 < t267.length)=true:=decide_eq_true (by omega)
     clear c6
     by_cases c7:(rd t267 3)=5
     ·rw [if_pos c7] at H
      have c7b0:((rd t267 3) == 5)=true:=beq_iff_eq.mpr c7
      have c7b1:((rd t267 3) != 5)=false:=bne_eq_false_iff_eq.mpr c7
      clear c7
      replace H:=Option.bind_eq_some_iff.mp H
      obtain ⟨t274,A80,H⟩:=H
      replace H:(if t274=true then ((mapjnl_Covers.f k t252 t255 t258 t264 t267 t270).bind fun t275=>(if t275=true then (none) else ((mapjnl_Parts.f 16).bind fun t276=>(some (t276 == 1))))) else (none))=some r:=H
      have A8:=zm A80
      clear A80
      by_cases c9:t274=true
      ·subst c9
       have H1:((mapjnl_Covers.f k t252 t255 t258 t264 t267 t270).bind fun t275=>(if t275=true then (none) else ((mapjnl_Parts.f 16).bind fun t276=>(some (t276 == 1)))))=some r:=by rw [if_pos rfl] at H;exact H
       clear H
       have H:=H1
       clear H1
       replace H:=Option.bind_eq_some_iff.mp H
       obtain ⟨t275,A100,H⟩:=H
       replace H:(if t275=true then (none) else ((mapjnl_Parts.f 16).bind fun t276=>(some (t276 == 1))))=some r:=H
       have A10:=zm A100
       clear A100
       by_cases c11:t275=true
       ·subst c11
        have H1:(none)=some r:=by rw [if_pos rfl] at H;exact H
        clear H
        have H:=H1
        clear H1
        exact absurd H (by simp)
       ·replace c11:=Bool.eq_false_iff.mpr c11
        subst c11
        have H1:((mapjnl_Parts.f 16).bind fun t276=>(some (t276 == 1)))=some r:=by rw [if_neg (show ¬ (false=true) by decide)] at H;exact H
        clear H
        have H:=H1
        clear H1
        replace H:=Option.bind_eq_some_iff.mp H
        obtain ⟨t276,A120,H⟩:=H
        replace H:(some (t276 == 1))=some r:=H
        have A12:=zm A120
        clear A120
        obtain rfl:=Option.some.inj H
        go_enter Try.func15,Try.ntmps15
        go_wp2_with (first|((with_reducible refine gate_callee (f:=11) rfl ?_);refine goesL_ (some 6) rfl rfl Try.func11 (by kernel_rfl) rfl #[.int .i64 16] rfl (by (try simp only [List.map_toArray,List.map_cons,List.map_nil]);first|done|rfl|(simp only [List.length_drop,List.length_take];rfl)) ?_;(with_reducible refine (mapjnl_New.calls 16 t252 t255 t258 t259 _ A1.out).mono ?_);rintro e w13 ⟨v253,v256,rfl,ho0,ho1,hb⟩;refine ⟨_,rfl,?_⟩;have n0_:=zm (Kd.R_lower ho0 (below_size (by repeat (first|(with_reducible first|exact HB.out|apply zlA|apply zlN|apply zlD)|exact HB.out))));have n1_:=zm (Kd.R_lower ho1 (below_size (by repeat (first|(with_reducible first|exact HB.out|apply zlA|apply zlN|apply zlD)|exact HB.out))));have n2_:=zm (below_step (by repeat (first|(with_reducible first|exact HB.out|apply zlA|apply zlN|apply zlD)|exact HB.out)) hb);clear HB;have HO254:=n0_;have HO257:=n1_;have HB:=n2_;clear n0_ n1_ n2_;(try clear hb);(try clear hb2);(try clear hk);(try clear hi);(try clear ho0);(try clear ho1))|((with_reducible refine gate_dst (N:=1) rfl ?_);(try (refine gate_guard (by rfl) ?_;dsimp only));refine box_event ?hg (N:=1) ?hd (cs:=#[.slice none 0 0,.slice none 0 0,.int .i64 0]) (t:=25) ?hr ?_;(case hd=>rfl);(case hg=>rfl);(case hr=>first|(go_simp;done)|(go_simp;rfl));intro gb260 hg w14 hbox hb;have n0_:=zm (Kd.R_below (by (with_reducible repeat (first|apply zrA|apply zrN|apply zrD));exact HO254.out) hb);have n1_:=zm (Kd.R_below (by (with_reducible repeat (first|apply zrA|apply zrN|apply zrD));exact HO257.out) hb);have n2_:=zm (below_step (by repeat (first|(with_reducible first|exact HB.out|apply zlA|apply zlN|apply zlD)|exact HB.out)) hb);have n3_:=zm (hbox);have n4_:=zm ((by rw [hg];exact (below_size (by repeat (first|(with_reducible first|exact HB.out|apply zlA|apply zlN|apply zlD)|exact HB.out))):w.heap.size≤gb260));have n5_:=zm ((by rw [hg];exact (below_size (by repeat (first|(with_reducible first|exact HB.out|apply zlA|apply zlN|apply zlD)|exact HB.out))):w.heap.size≤gb260));clear HO254 HO257 HB;have HO254:=n0_;have HO257:=n1_;have HB:=n2_;have BK260:=n3_;have GW260:=n4_;have GE260:=n5_;clear n0_ n1_ n2_ n3_ n4_ n5_;clear hb hbox hg;obtain ⟨Ao15,co15,eo15⟩:=Kd.R_slice HO254.out;subst eo15;have hcz16_0:w14.cell? ⟨gb260,0,none⟩=some (.slice none 0 0):=(blk_cell BK260.out 0).trans rfl;have hcz16_1:w14.cell? ⟨gb260,1,none⟩=some (.slice none 0 0):=(blk_cell BK260.out 1).trans rfl;have hcz16_2:w14.cell? ⟨gb260,2,none⟩=some (.int .i64 0):=(blk_cell BK260.out 2).trans rfl;have hfz16_0:=blk_frozen BK260.out 0;have hfz16_1:=blk_frozen BK260.out 1;have hfz16_2:=blk_frozen BK260.out 2;obtain ⟨Ao17,co17,eo17⟩:=Kd.R_slice HO257.out;subst eo17)|((with_reducible refine gate_dst (N:=13) rfl ?_);(try (refine gate_guard (by rfl) ?_;dsimp only));refine Kd.R_lit k55 _ 55 ?hg (N:=13) ?hd (xs:=([(⟨2,3,5⟩:S55),(⟨2,3,4⟩:S55)]:List (S55))) (inner:=[.int .i64 2,.int .i64 3,.int .i64 5,.int .i64 2,.int .i64 3,.int .i64 4]) (ok:=fun _=>True) (okp:=fun _=>True) ?hr ?hp (fun _ hk=>hk) trivial (Below.refl _ _) (Nat.le_refl _) (by simp) ?_;(case hd=>rfl);(case hg=>rfl);(case hr=>first|(go_simp;done)|(go_simp;rfl));(case hp=>exact (Reps.c3 (show Kd.M k55 _ _ _ (⟨2,3,5⟩:S55) [.int .i64 2,.int .i64 3,.int .i64 5] from (k55_mkM _ _ _ (⟨2,3,5⟩:S55) )) (Reps.c3 (show Kd.M k55 _ _ _ (⟨2,3,4⟩:S55) [.int .i64 2,.int .i64 3,.int .i64 4] from (k55_mkM _ _ _ (⟨2,3,4⟩:S55) )) (Reps.none _ _))));intro v262 w18 ho19 hb hg_ hnew_;clear hg_ hnew_;(first|rw [← Ny261.out] at ho19|(simp only [Int.reduceToNat] at ho19;rw [← Ny261.out] at ho19));have n0_:=zm (Kd.R_below (by (with_reducible repeat (first|apply zrA|apply zrN|apply zrD));exact (Kd.R_mono (Kd.R_far (p:=⟨gb260,2,none⟩) (Kd.R_far (p:=⟨gb260,1,none⟩) (Kd.R_far (p:=⟨gb260,0,none⟩) (Kd.R_types HO254.out BK260.out (by decide)) (fun _ hk=>hk.2) (.slice Ao15 t252.length co15)) (fun _ hk=>hk.2) (.slice Ao17 t255.length co17)) (fun _ hk=>hk.2) (.int .i64 t258)) (fun _ h_=>h_.1))) hb);have n1_:=zm (Kd.R_below (by (with_reducible repeat (first|apply zrA|apply zrN|apply zrD));exact (Kd.R_mono (Kd.R_far (p:=⟨gb260,2,none⟩) (Kd.R_far (p:=⟨gb260,1,none⟩) (Kd.R_far (p:=⟨gb260,0,none⟩) (Kd.R_types HO257.out BK260.out (by decide)) (fun _ hk=>hk.2) (.slice Ao15 t252.length co15)) (fun _ hk=>hk.2) (.slice Ao17 t255.length co17)) (fun _ hk=>hk.2) (.int .i64 t258)) (fun _ h_=>h_.1))) hb);have n2_:=zm (Kd.R_lower ho19 (below_size (by repeat (first|(with_reducible first|exact HB.out|apply zlA|apply zlN|apply zlD|refine zlS ?_ GE260.out)|exact HB.out))));have n3_:=zm (zbB (g:=gb260) (o:=.cells #[.slice Ao15 t252.length co15,.slice Ao17 t255.length co17,.int .i64 t258] 25 (0,0)) (by (with_reducible repeat (first|refine zbN ?_ _|refine zbD ?_|refine zbA ?_ _));refine blk_put (cs:=#[.slice Ao15 t252.length co15,.slice Ao17 t255.length co17,.int .i64 0]) ?_ 2 _ rfl;(with_reducible repeat (first|refine zbN ?_ _|refine zbD ?_|refine zbA ?_ _));refine blk_put (cs:=#[.slice Ao15 t252.length co15,.slice none 0 0,.int .i64 0]) ?_ 1 _ rfl;(with_reducible repeat (first|refine zbN ?_ _|refine zbD ?_|refine zbA ?_ _));refine blk_put (cs:=#[.slice none 0 0,.slice none 0 0,.int .i64 0]) ?_ 0 _ rfl;(with_reducible repeat (first|refine zbN ?_ _|refine zbD ?_|refine zbA ?_ _));exact BK260.out) hb);have n4_:=zm (below_step (by repeat (first|(with_reducible first|exact HB.out|apply zlA|apply zlN|apply zlD|refine zlS ?_ GE260.out)|exact HB.out)) hb);clear HO254 HO257 BK260 HB;have HO254:=n0_;have HO257:=n1_;have HO263:=n2_;have BK260:=n3_;have HB:=n4_;clear n0_ n1_ n2_ n3_ n4_;clear hb ho19;obtain ⟨Ao20,co20,eo20⟩:=Kd.R_slice HO263.out;subst eo20)|((with_reducible refine gate_callee (f:=22) rfl ?_);refine goesL_ (some 14) rfl rfl Try.func22 (by kernel_rfl) rfl #[.agg #[.slice Ao15 t252.length co15,.slice Ao17 t255.length co17,.int .i64 t258],.slice Ao20 y261.length co20] rfl (by (try simp only [List.map_toArray,List.map_cons,List.map_nil]);first|done|rfl|(simp only [List.length_drop,List.length_take];rfl)) ?_;(with_reducible refine (mapjnl_Apply.calls k _ _ t252 _ _ t255 t258 _ _ y261 t264 t267 t270 t271 _ ?side1 ?side2 ?side3 ?side4 ?side5 ?side6 A2.out).mono ?_);(case side1=>repeat (first|exact (Kd.R_reads' HO254.out).2.2|(with_reducible refine Kd.C_alloc ?_ _)|(with_reducible refine Kd.C_drewN ?_ _)|(with_reducible refine Kd.C_drew ?_)));(case side2=>exact (Kd.R_reads' HO254.out).2.1);(case side3=>repeat (first|exact (Kd.R_reads' HO257.out).2.2|(with_reducible refine Kd.C_alloc ?_ _)|(with_reducible refine Kd.C_drewN ?_ _)|(with_reducible refine Kd.C_drew ?_)));(case side4=>exact (Kd.R_reads' HO257.out).2.1);(case side5=>repeat (first|exact (Kd.R_reads' HO263.out).2.2|(with_reducible refine Kd.C_alloc ?_ _)|(with_reducible refine Kd.C_drewN ?_ _)|(with_reducible refine Kd.C_drew ?_)));(case side6=>exact (Kd.R_reads' HO263.out).2.1);rintro e w21 ⟨v265,v268,rfl,ho0,ho1,hb⟩;refine ⟨_,rfl,?_⟩;have n0_:=zm (Kd.R_elder' (by (with_reducible repeat (first|apply zrA|apply zrN|apply zrD));exact HO254.out) (Kd.R_base ho0) hb);have n1_:=zm (Kd.R_elder' (by (with_reducible repeat (first|apply zrA|apply zrN|apply zrD));exact HO257.out) (Kd.R_base ho1) hb);have n2_:=zm (Kd.R_below (by (with_reducible repeat (first|apply zrA|apply zrN|apply zrD));exact HO263.out) hb);have n3_:=zm (Kd.R_lower (Kd.R_new' ho0 (Kd.R_lt (by (with_reducible repeat (first|apply zrA|apply zrN|apply zrD));exact HO254.out))) (below_size (by repeat (first|(with_reducible first|exact HB.out|apply zlA|apply zlN|apply zlD|refine zlS ?_ GE260.out)|exact HB.out))));have n4_:=zm (Kd.R_lower (Kd.R_new' ho1 (Kd.R_lt (by (with_reducible repeat (first|apply zrA|apply zrN|apply zrD));exact HO257.out))) (below_size (by repeat (first|(with_reducible first|exact HB.out|apply zlA|apply zlN|apply zlD|refine zlS ?_ GE260.out)|exact HB.out))));have n5_:=zm (zbB (g:=gb260) (o:=.cells #[.slice Ao15 t252.length co15,.slice Ao17 t255.length co17,.int .i64 t258] 25 (0,0)) (by (with_reducible repeat (first|refine zbN ?_ _|refine zbD ?_|refine zbA ?_ _));exact BK260.out) hb);have n6_:=zm (below_step (by repeat (first|(with_reducible first|exact HB.out|apply zlA|apply zlN|apply zlD|refine zlS ?_ GE260.out)|exact HB.out)) hb);clear HO254 HO257 HO263 BK260 HB;have HO254:=n0_;have HO257:=n1_;have HO263:=n2_;have HO266:=n3_;have HO269:=n4_;have BK260:=n5_;have HB:=n6_;clear n0_ n1_ n2_ n3_ n4_ n5_ n6_;(try clear hb);(try clear hb2);(try clear hk);(try clear hi);(try clear ho0);(try clear ho1))|((with_reducible refine gate_dst (N:=3) rfl ?_);(try (refine gate_guard (by rfl) ?_;dsimp only));refine box_event ?hg (N:=3) ?hd (cs:=#[.slice none 0 0,.slice none 0 0,.int .i64 0]) (t:=25) ?hr ?_;(case hd=>rfl);(case hg=>rfl);(case hr=>first|(go_simp;done)|(go_simp;rfl));intro gb272 hg w22 hbox hb;have n0_:=zm (Kd.R_below (by (with_reducible repeat (first|apply zrA|apply zrN|apply zrD));exact HO254.out) hb);have n1_:=zm (Kd.R_below (by (with_reducible repeat (first|apply zrA|apply zrN|apply zrD));exact HO257.out) hb);have n2_:=zm (Kd.R_below (by (with_reducible repeat (first|apply zrA|apply zrN|apply zrD));exact HO263.out) hb);have n3_:=zm (Kd.R_below (by (with_reducible repeat (first|apply zrA|apply zrN|apply zrD));exact HO266.out) hb);have n4_:=zm (Kd.R_below (by (with_reducible repeat (first|apply zrA|apply zrN|apply zrD));exact HO269.out) hb);have n5_:=zm (zbB (g:=gb260) (o:=.cells #[.slice Ao15 t252.length co15,.slice Ao17 t255.length co17,.int .i64 t258] 25 (0,0)) (by (with_reducible repeat (first|refine zbN ?_ _|refine zbD ?_|refine zbA ?_ _));exact BK260.out) hb);have n6_:=zm (below_step (by repeat (first|(with_reducible first|exact HB.out|apply zlA|apply zlN|apply zlD|refine zlS ?_ GE260.out)|exact HB.out)) hb);have n7_:=zm (hbox);have n8_:=zm ((by rw [hg];exact (below_size (by repeat (first|(with_reducible first|exact HB.out|apply zlA|apply zlN|apply zlD|refine zlS ?_ GE260.out)|exact HB.out))):w.heap.size≤gb272));have n9_:=zm ((by rw [hg];exact (below_size (by repeat (first|(with_reducible first|exact HB.out|apply zlA|apply zlN|apply zlD|refine zlS ?_ GE260.out)|exact HB.out))):w.heap.size≤gb272));have n10_:=zm ((by rw [hg];exact Nat.ne_of_lt (blk_lt (g:=gb260) (o:=.cells #[.slice Ao15 t252.length co15,.slice Ao17 t255.length co17,.int .i64 t258] 25 (0,0)) (by (with_reducible repeat (first|refine zbN ?_ _|refine zbD ?_|refine zbA ?_ _));exact BK260.out)):gb260≠gb272));have n11_:=zm ((by rw [hg];exact Nat.ne_of_gt (blk_lt (g:=gb260) (o:=.cells #[.slice Ao15 t252.length co15,.slice Ao17 t255.length co17,.int .i64 t258] 25 (0,0)) (by (with_reducible repeat (first|refine zbN ?_ _|refine zbD ?_|refine zbA ?_ _));exact BK260.out)):gb272≠gb260));clear HO254 HO257 HO263 HO266 HO269 BK260 HB;have HO254:=n0_;have HO257:=n1_;have HO263:=n2_;have HO266:=n3_;have HO269:=n4_;have BK260:=n5_;have HB:=n6_;have BK272:=n7_;have GW272:=n8_;have GE272:=n9_;have NB260_272:=n10_;have NB272_260:=n11_;clear n0_ n1_ n2_ n3_ n4_ n5_ n6_ n7_ n8_ n9_ n10_ n11_;clear hb hbox hg;obtain ⟨Ao23,co23,eo23⟩:=Kd.R_slice HO266.out;subst eo23;have hnb24:=NB272_260.out;have hnc24:=NB260_272.out;have hcz25_0:w22.cell? ⟨gb272,0,none⟩=some (.slice none 0 0):=(blk_cell BK272.out 0).trans rfl;have hcz25_1:w22.cell? ⟨gb272,1,none⟩=some (.slice none 0 0):=(blk_cell BK272.out 1).trans rfl;have hcz25_2:w22.cell? ⟨gb272,2,none⟩=some (.int .i64 0):=(blk_cell BK272.out 2).trans rfl;have hfz25_0:=blk_frozen BK272.out 0;have hfz25_1:=blk_frozen BK272.out 1;have hfz25_2:=blk_frozen BK272.out 2;obtain ⟨Ao26,co26,eo26⟩:=Kd.R_slice HO269.out;subst eo26;have p273:0≤(3:Int):=(by omega);have q273:3 < (t267.length:Int):=of_decide_eq_true (by first|(with_reducible assumption)|assumption);obtain ⟨ad273,e273,hx273_0⟩:=Kd.at_int (Kd.R_reads' HO269.out).2.2 3 p273 q273;cases e273;(try simp only [show (3:Int).toNat=3 from rfl,Nat.reduceMul,Nat.reduceEqDiff,Go.Addr.add,↓reduceIte] at hx273_0);have qi273:(3 < t267.length)=True:=eq_true (by omega);(try rw [show ((3:Int)).toNat=3 from rfl] at hx273_0);have hn273_0:ad273.block≠gb272:=Kd.own_blk (Kd.R_ne HO269.out BK272.out (by decide));have hn273_1:ad273.block≠gb272:=Kd.own_blk (Kd.R_ne HO269.out BK272.out (by decide));have hn273_2:ad273.block≠gb272:=Kd.own_blk (Kd.R_ne HO269.out BK272.out (by decide));replace hx273_0:=(cell_far (p:=⟨gb272,0,none⟩) (by first|(rw [add_block];exact hn273_0)|(show (Addr.add _ _).block≠_;rw [add_block];exact hn273_0)|exact hn273_0) (.slice Ao23 t264.length co23)).trans hx273_0;replace hx273_0:=(cell_far (p:=⟨gb272,1,none⟩) (by first|(rw [add_block];exact hn273_1)|(show (Addr.add _ _).block≠_;rw [add_block];exact hn273_1)|exact hn273_1) (.slice (some ad273) t267.length co26)).trans hx273_0;replace hx273_0:=(cell_far (p:=⟨gb272,2,none⟩) (by first|(rw [add_block];exact hn273_2)|(show (Addr.add _ _).block≠_;rw [add_block];exact hn273_2)|exact hn273_2) (.int .i64 t270)).trans hx273_0;clear hn273_0 hn273_1 hn273_2;replace p273:=eq_true p273;replace q273:=eq_true q273;have hcz27_0:w22.cell? ⟨gb260,0,none⟩=some (.slice Ao15 t252.length co15):=(blk_cell BK260.out 0).trans rfl;have hcz27_1:w22.cell? ⟨gb260,1,none⟩=some (.slice Ao17 t255.length co17):=(blk_cell BK260.out 1).trans rfl;have hcz27_2:w22.cell? ⟨gb260,2,none⟩=some (.int .i64 t258):=(blk_cell BK260.out 2).trans rfl;have hfz27_0:=blk_frozen BK260.out 0;have hfz27_1:=blk_frozen BK260.out 1;have hfz27_2:=blk_frozen BK260.out 2)|(go_at_call 19;(with_reducible refine (mapjnl_Covers.calls k _ _ t264 _ _ t267 t270 _ _ t252 _ _ t255 t258 true _ ?side1 ?side2 ?side3 ?side4 ?side5 ?side6 ?side7 ?side8 A8.out).mono ?_);(case side1=>refine (Kd.R_reads' (e:=4) (base:=w.heap.size) (ok:=fun k_=>(True∧some k_≠(.slice Ao15 t252.length co15:Value).ownBlock)) (n:=t264.length) (c:=co23) ?_).2.2;exact (by (with_reducible repeat (first|apply zrA|apply zrN|apply zrD));exact (Kd.R_mono (Kd.R_far (p:=⟨gb272,2,none⟩) (Kd.R_far (p:=⟨gb272,1,none⟩) (Kd.R_far (p:=⟨gb272,0,none⟩) (Kd.R_types HO266.out BK272.out (by decide)) (fun _ hk=>hk.2) (.slice Ao23 t264.length co23)) (fun _ hk=>hk.2) (.slice (some ad273) t267.length co26)) (fun _ hk=>hk.2) (.int .i64 t270)) (fun _ h_=>h_.1))));(case side2=>exact (Kd.R_reads' HO266.out).2.1);(case side3=>refine (Kd.R_reads' (e:=2) (base:=w.heap.size) (ok:=fun k_=>(True∧some k_≠(.slice Ao17 t255.length co17:Value).ownBlock)) (n:=t267.length) (c:=co26) ?_).2.2;exact (by (with_reducible repeat (first|apply zrA|apply zrN|apply zrD));exact (Kd.R_mono (Kd.R_far (p:=⟨gb272,2,none⟩) (Kd.R_far (p:=⟨gb272,1,none⟩) (Kd.R_far (p:=⟨gb272,0,none⟩) (Kd.R_types HO269.out BK272.out (by decide)) (fun _ hk=>hk.2) (.slice Ao23 t264.length co23)) (fun _ hk=>hk.2) (.slice (some ad273) t267.length co26)) (fun _ hk=>hk.2) (.int .i64 t270)) (fun _ h_=>h_.1))));(case side4=>exact (Kd.R_reads' HO269.out).2.1);(case side5=>refine (Kd.R_reads' (e:=4) (base:=w.heap.size) (ok:=fun k_=>(True∧some k_≠(.slice Ao23 t264.length co23:Value).ownBlock)) (n:=t252.length) (c:=co15) ?_).2.2;exact (by (with_reducible repeat (first|apply zrA|apply zrN|apply zrD));exact (Kd.R_mono (Kd.R_far (p:=⟨gb272,2,none⟩) (Kd.R_far (p:=⟨gb272,1,none⟩) (Kd.R_far (p:=⟨gb272,0,none⟩) (Kd.R_types HO254.out BK272.out (by decide)) (fun _ hk=>hk.2) (.slice Ao23 t264.length co23)) (fun _ hk=>hk.2) (.slice (some ad273) t267.length co26)) (fun _ hk=>hk.2) (.int .i64 t270)) (fun _ h_=>h_.1))));(case side6=>exact (Kd.R_reads' HO254.out).2.1);(case side7=>refine (Kd.R_reads' (e:=2) (base:=w.heap.size) (ok:=fun k_=>(True∧some k_≠(.slice (some ad273) t267.length co26:Value).ownBlock)) (n:=t255.length) (c:=co17) ?_).2.2;exact (by (with_reducible repeat (first|apply zrA|apply zrN|apply zrD));exact (Kd.R_mono (Kd.R_far (p:=⟨gb272,2,none⟩) (Kd.R_far (p:=⟨gb272,1,none⟩) (Kd.R_far (p:=⟨gb272,0,none⟩) (Kd.R_types HO257.out BK272.out (by decide)) (fun _ hk=>hk.2) (.slice Ao23 t264.length co23)) (fun _ hk=>hk.2) (.slice (some ad273) t267.length co26)) (fun _ hk=>hk.2) (.int .i64 t270)) (fun _ h_=>h_.1))));(case side8=>exact (Kd.R_reads' HO257.out).2.1);rintro e w28 ⟨rfl,hb⟩;have n0_:=zm (Kd.R_below (by (with_reducible repeat (first|apply zrA|apply zrN|apply zrD));exact (Kd.R_mono (Kd.R_far (p:=⟨gb272,2,none⟩) (Kd.R_far (p:=⟨gb272,1,none⟩) (Kd.R_far (p:=⟨gb272,0,none⟩) (Kd.R_types HO254.out BK272.out (by decide)) (fun _ hk=>hk.2) (.slice Ao23 t264.length co23)) (fun _ hk=>hk.2) (.slice (some ad273) t267.length co26)) (fun _ hk=>hk.2) (.int .i64 t270)) (fun _ h_=>h_.1))) hb);have n1_:=zm (Kd.R_below (by (with_reducible repeat (first|apply zrA|apply zrN|apply zrD));exact (Kd.R_mono (Kd.R_far (p:=⟨gb272,2,none⟩) (Kd.R_far (p:=⟨gb272,1,none⟩) (Kd.R_far (p:=⟨gb272,0,none⟩) (Kd.R_types HO257.out BK272.out (by decide)) (fun _ hk=>hk.2) (.slice Ao23 t264.length co23)) (fun _ hk=>hk.2) (.slice (some ad273) t267.length co26)) (fun _ hk=>hk.2) (.int .i64 t270)) (fun _ h_=>h_.1))) hb);have n2_:=zm (Kd.R_below (by (with_reducible repeat (first|apply zrA|apply zrN|apply zrD));exact (Kd.R_mono (Kd.R_far (p:=⟨gb272,2,none⟩) (Kd.R_far (p:=⟨gb272,1,none⟩) (Kd.R_far (p:=⟨gb272,0,none⟩) (Kd.R_types HO263.out BK272.out (by decide)) (fun _ hk=>hk.2) (.slice Ao23 t264.length co23)) (fun _ hk=>hk.2) (.slice (some ad273) t267.length co26)) (fun _ hk=>hk.2) (.int .i64 t270)) (fun _ h_=>h_.1))) hb);have n3_:=zm (Kd.R_below (by (with_reducible repeat (first|apply zrA|apply zrN|apply zrD));exact (Kd.R_mono (Kd.R_far (p:=⟨gb272,2,none⟩) (Kd.R_far (p:=⟨gb272,1,none⟩) (Kd.R_far (p:=⟨gb272,0,none⟩) (Kd.R_types HO266.out BK272.out (by decide)) (fun _ hk=>hk.2) (.slice Ao23 t264.length co23)) (fun _ hk=>hk.2) (.slice (some ad273) t267.length co26)) (fun _ hk=>hk.2) (.int .i64 t270)) (fun _ h_=>h_.1))) hb);have n4_:=zm (Kd.R_below (by (with_reducible repeat (first|apply zrA|apply zrN|apply zrD));exact (Kd.R_mono (Kd.R_far (p:=⟨gb272,2,none⟩) (Kd.R_far (p:=⟨gb272,1,none⟩) (Kd.R_far (p:=⟨gb272,0,none⟩) (Kd.R_types HO269.out BK272.out (by decide)) (fun _ hk=>hk.2) (.slice Ao23 t264.length co23)) (fun _ hk=>hk.2) (.slice (some ad273) t267.length co26)) (fun _ hk=>hk.2) (.int .i64 t270)) (fun _ h_=>h_.1))) hb);have n5_:=zm (zbB (g:=gb260) (o:=.cells #[.slice Ao15 t252.length co15,.slice Ao17 t255.length co17,.int .i64 t258] 25 (0,0)) (by (with_reducible repeat (first|refine zbN ?_ _|refine zbD ?_|refine zbA ?_ _));refine blk_far ?_ NB260_272.out _;(with_reducible repeat (first|refine zbN ?_ _|refine zbD ?_|refine zbA ?_ _));refine blk_far ?_ NB260_272.out _;(with_reducible repeat (first|refine zbN ?_ _|refine zbD ?_|refine zbA ?_ _));refine blk_far ?_ NB260_272.out _;(with_reducible repeat (first|refine zbN ?_ _|refine zbD ?_|refine zbA ?_ _));exact BK260.out) hb);have n6_:=zm (zbB (g:=gb272) (o:=.cells #[.slice Ao23 t264.length co23,.slice (some ad273) t267.length co26,.int .i64 t270] 25 (0,0)) (by (with_reducible repeat (first|refine zbN ?_ _|refine zbD ?_|refine zbA ?_ _));refine blk_put (cs:=#[.slice Ao23 t264.length co23,.slice (some ad273) t267.length co26,.int .i64 0]) ?_ 2 _ rfl;(with_reducible repeat (first|refine zbN ?_ _|refine zbD ?_|refine zbA ?_ _));refine blk_put (cs:=#[.slice Ao23 t264.length co23,.slice none 0 0,.int .i64 0]) ?_ 1 _ rfl;(with_reducible repeat (first|refine zbN ?_ _|refine zbD ?_|refine zbA ?_ _));refine blk_put (cs:=#[.slice none 0 0,.slice none 0 0,.int .i64 0]) ?_ 0 _ rfl;(with_reducible repeat (first|refine zbN ?_ _|refine zbD ?_|refine zbA ?_ _));exact BK272.out) hb);have n7_:=zm (below_step (by repeat (first|(with_reducible first|exact HB.out|apply zlA|apply zlN|apply zlD|refine zlS ?_ GE260.out|refine zlS ?_ GE272.out)|exact HB.out)) hb);clear HO254 HO257 HO263 HO266 HO269 BK260 BK272 HB;have HO254:=n0_;have HO257:=n1_;have HO263:=n2_;have HO266:=n3_;have HO269:=n4_;have BK260:=n5_;have BK272:=n6_;have HB:=n7_;clear n0_ n1_ n2_ n3_ n4_ n5_ n6_ n7_;(try clear hb);(try clear hb2);(try clear hk);(try clear hi);have hcz29_0:w28.cell? ⟨gb260,0,none⟩=some (.slice Ao15 t252.length co15):=(blk_cell BK260.out 0).trans rfl;have hcz29_1:w28.cell? ⟨gb260,1,none⟩=some (.slice Ao17 t255.length co17):=(blk_cell BK260.out 1).trans rfl;have hcz29_2:w28.cell? ⟨gb260,2,none⟩=some (.int .i64 t258):=(blk_cell BK260.out 2).trans rfl;have hfz29_0:=blk_frozen BK260.out 0;have hfz29_1:=blk_frozen BK260.out 1;have hfz29_2:=blk_frozen BK260.out 2;have hcz30_0:w28.cell? ⟨gb272,0,none⟩=some (.slice Ao23 t264.length co23):=(blk_cell BK272.out 0).trans rfl;have hcz30_1:w28.cell? ⟨gb272,1,none⟩=some (.slice (some ad273) t267.length co26):=(blk_cell BK272.out 1).trans rfl;have hcz30_2:w28.cell? ⟨gb272,2,none⟩=some (.int .i64 t270):=(blk_cell BK272.out 2).trans rfl;have hfz30_0:=blk_frozen BK272.out 0;have hfz30_1:=blk_frozen BK272.out 1;have hfz30_2:=blk_frozen BK272.out 2)|(go_at_call 19;(with_reducible refine (mapjnl_Covers.calls k _ _ t252 _ _ t255 t258 _ _ t264 _ _ t267 t270 false _ ?side1 ?side2 ?side3 ?side4 ?side5 ?side6 ?side7 ?side8 A10.out).mono ?_);(case side1=>repeat (first|exact (Kd.R_reads' HO254.out).2.2|(with_reducible refine Kd.C_alloc ?_ _)|(with_reducible refine Kd.C_drewN ?_ _)|(with_reducible refine Kd.C_drew ?_)));(case side2=>exact (Kd.R_reads' HO254.out).2.1);(case side3=>repeat (first|exact (Kd.R_reads' HO257.out).2.2|(with_reducible refine Kd.C_alloc ?_ _)|(with_reducible refine Kd.C_drewN ?_ _)|(with_reducible refine Kd.C_drew ?_)));(case side4=>exact (Kd.R_reads' HO257.out).2.1);(case side5=>repeat (first|exact (Kd.R_reads' HO266.out).2.2|(with_reducible refine Kd.C_alloc ?_ _)|(with_reducible refine Kd.C_drewN ?_ _)|(with_reducible refine Kd.C_drew ?_)));(case side6=>exact (Kd.R_reads' HO266.out).2.1);(case side7=>repeat (first|exact (Kd.R_reads' HO269.out).2.2|(with_reducible refine Kd.C_alloc ?_ _)|(with_reducible refine Kd.C_drewN ?_ _)|(with_reducible refine Kd.C_drew ?_)));(case side8=>exact (Kd.R_reads' HO269.out).2.1);rintro e w31 ⟨rfl,hb⟩;have n0_:=zm (Kd.R_below (by (with_reducible repeat (first|apply zrA|apply zrN|apply zrD));exact HO254.out) hb);have n1_:=zm (Kd.R_below (by (with_reducible repeat (first|apply zrA|apply zrN|apply zrD));exact HO257.out) hb);have n2_:=zm (Kd.R_below (by (with_reducible repeat (first|apply zrA|apply zrN|apply zrD));exact HO263.out) hb);have n3_:=zm (Kd.R_below (by (with_reducible repeat (first|apply zrA|apply zrN|apply zrD));exact HO266.out) hb);have n4_:=zm (Kd.R_below (by (with_reducible repeat (first|apply zrA|apply zrN|apply zrD));exact HO269.out) hb);have n5_:=zm (zbB (g:=gb260) (o:=.cells #[.slice Ao15 t252.length co15,.slice Ao17 t255.length co17,.int .i64 t258] 25 (0,0)) (by (with_reducible repeat (first|refine zbN ?_ _|refine zbD ?_|refine zbA ?_ _));exact BK260.out) hb);have n6_:=zm (zbB (g:=gb272) (o:=.cells #[.slice Ao23 t264.length co23,.slice (some ad273) t267.length co26,.int .i64 t270] 25 (0,0)) (by (with_reducible repeat (first|refine zbN ?_ _|refine zbD ?_|refine zbA ?_ _));exact BK272.out) hb);have n7_:=zm (below_step (by repeat (first|(with_reducible first|exact HB.out|apply zlA|apply zlN|apply zlD|refine zlS ?_ GE260.out|refine zlS ?_ GE272.out)|exact HB.out)) hb);clear HO254 HO257 HO263 HO266 HO269 BK260 BK272 HB;have HO254:=n0_;have HO257:=n1_;have HO263:=n2_;have HO266:=n3_;have HO269:=n4_;have BK260:=n5_;have BK272:=n6_;have HB:=n7_;clear n0_ n1_ n2_ n3_ n4_ n5_ n6_ n7_;(try clear hb);(try clear hb2);(try clear hk);(try clear hi))|(go_at_call 33;(with_reducible refine (mapjnl_Parts.calls 16 t276 _ A12.out).mono ?_);rintro e w' ⟨rfl,⟨nd,rfl⟩⟩))
        go_ret
        exact ⟨by first|rfl|(simp [errW_none,errW_some] <;> rfl)|(simp [*,errW_none,errW_some] <;> rfl),by repeat (first|(with_reducible first|exact HB.out|apply zlA|apply zlN|apply zlD|refine zlS ?_ GE260.out|refine zlS ?_ GE272.out)|exact HB.out)⟩
      ·replace c9:=Bool.eq_false_iff.mpr c9
       subst c9
       have H1:(none)=some r:=by rw [if_neg (show ¬ (false=true) by decide)] at H;exact H
       clear H
       have H:=H1
       clear H1
       exact absurd H (by simp)
     ·rw [if_neg c7] at H
      exact absurd H (by simp)
    ·rw [if_neg c6] at H
     exact absurd H (by simp)
   ·rw [if_neg c5] at H
    exact absurd H (by simp)
  ·rw [if_neg c4] at H
   exact absurd H (by simp)
 ·rw [if_neg c3] at H
  exact absurd H (by simp)
def slipwayref06_bools.l0:Nat → List Bool → List Bool → Int → Option (Bool)
 | 0,_,_,_=>none
 | k + 1,x0,x1,x5=>if x5 < (x0.length:Int) then (if 0≤x5 then (if x5 < (x1.length:Int) then (if ((rdOf false x0 x5) != (rdOf false x1 x5))=true then (some false) else (slipwayref06_bools.l0 k x0 x1 (wrap64 (x5 + 1)))) else (none)) else (none)) else (some true)
def slipwayref06_bools.f (k:Nat) (l0:List Bool) (l1:List Bool):Option (Bool):=if (l0.length:Int)=(l1.length:Int) then (slipwayref06_bools.l0 k l0 l1 0) else (some false)
set_option maxHeartbeats 8000000 in
set_option maxRecDepth 100000 in
theorem slipwayref06_bools.calls (k:Nat) (A0:Option Addr) (c0:Nat) (l0:List Bool) (A1:Option Addr) (c1:Nat) (l1:List Bool) (r:Bool) (w:World) (hr0:Kd.C Kd.bool w A0 l0.length l0) (hc0:l0.length≤c0) (hr1:Kd.C Kd.bool w A1 l1.length l1) (hc1:l1.length≤c1) (h:slipwayref06_bools.f k l0 l1=some r) :
  Calls Try.prog 53 #[.slice A0 l0.length c0,.slice A1 l1.length c1] w fun e w'=>e=.returned (.bool r)∧Drawn0 w w':=by
 have HR0:=zm hr0
 have HC0:=zm hc0
 clear hr0 hc0
 have HR1:=zm hr1
 have HC1:=zm hc1
 clear hr1 hc1
 have H:(if (l0.length:Int)=(l1.length:Int) then (slipwayref06_bools.l0 k l0 l1 0) else (some false))=some r:=h
 clear h
 by_cases c3:(l0.length:Int)=(l1.length:Int)
 ·rw [if_pos c3] at H
  have c3b0:((l0.length:Int) == (l1.length:Int))=true:=beq_iff_eq.mpr c3
  have c3b1:((l0.length:Int) != (l1.length:Int))=false:=bne_eq_false_iff_eq.mpr c3
  have c3b2:(l0.length == l1.length)=true:=by first|simpa using c3|(simp at c3 ⊢;omega)
  clear c3
  have H':=zm H
  clear H
  go_enter Try.func53,Try.ntmps53
  go_wp2
  repeat (go_quiet (fail);try go_wp2)
  go_loopg [5] k (fun kq v5 w'=>∃ (x5_1:Int),v5=.int .i64 x5_1∧Aside0 (slipwayref06_bools.l0 kq l0 l1 x5_1=some r)∧Aside0 (kq≤k)∧Drawn0 w w')
  case atStart=>exact ⟨(0),(by first|rfl|(simp;done)|(simp [*];done)),H',⟨Nat.le_refl _⟩,by repeat (first|exact Drawn0.refl _|apply Drawn0.step)⟩
  case round =>
   clear H'
   try clear c1
   try clear p2
   try clear c3
   try clear c3b0
   try clear c3b1
   try clear c3b2
   obtain ⟨x5_1,rfl,HA,HK1,⟨m1,rfl⟩⟩:=hrel
   cases gk with
   | zero=>exact absurd HA.out (by simp [slipwayref06_bools.l0])
   | succ k1 =>
    have H:=HA.out
    clear HA
    simp only [slipwayref06_bools.l0] at H
    by_cases c4:x5_1 < (l0.length:Int)
    ·rw [if_pos c4] at H
     have c4b0:decide (x5_1 < (l0.length:Int))=true:=decide_eq_true c4
     clear c4
     by_cases c5:0≤x5_1
     ·rw [if_pos c5] at H
      have c5b0:decide (0≤x5_1)=true:=decide_eq_true c5
      clear c5
      by_cases c6:x5_1 < (l1.length:Int)
      ·rw [if_pos c6] at H
       have c6b0:decide (x5_1 < (l1.length:Int))=true:=decide_eq_true c6
       clear c6
       by_cases c7:((rdOf false l0 x5_1) != (rdOf false l1 x5_1))=true
       ·rw [if_pos c7] at H
        have c7b0:((rdOf false l0 x5_1) != (rdOf false l1 x5_1))=true:=c7
        (try (have c7b1:decide ((rdOf false l0 x5_1)=(rdOf false l1 x5_1))=false:=by simpa using c7))
        (try (have c7b2:((rdOf false l0 x5_1) == (rdOf false l1 x5_1))=false:=by simpa using c7))
        (try (have c7b3:¬ ((rdOf false l0 x5_1)=(rdOf false l1 x5_1)):=by simpa using c7))
        clear c7
        obtain rfl:=Option.some.inj H
        have p277:0≤(x5_1:Int):=of_decide_eq_true (by first|(with_reducible assumption)|assumption)
        have q277:x5_1 < (l0.length:Int):=of_decide_eq_true (by first|(with_reducible assumption)|assumption)
        obtain ⟨ad277,e277,hx277_0⟩:=Kd.at_bool HR0.out x5_1 p277 q277
        cases e277
        replace p277:=eq_true p277
        replace q277:=eq_true q277
        have p278:0≤(x5_1:Int):=of_decide_eq_true (by first|(with_reducible assumption)|assumption)
        have q278:x5_1 < (l1.length:Int):=of_decide_eq_true (by first|(with_reducible assumption)|assumption)
        obtain ⟨ad278,e278,hx278_0⟩:=Kd.at_bool HR1.out x5_1 p278 q278
        cases e278
        replace p278:=eq_true p278
        replace q278:=eq_true q278
        go_wp2
        repeat (go_quiet (fail);try go_wp2)
        go_ret
        exact ⟨by first|rfl|(simp;done)|(simp [*];done),by repeat (first|exact Drawn0.refl _|apply Drawn0.step)⟩
       ·rw [if_neg c7] at H
        have c7b0:((rdOf false l0 x5_1) != (rdOf false l1 x5_1))=false:=by simpa using c7
        (try (have c7b1:decide ((rdOf false l0 x5_1)=(rdOf false l1 x5_1))=true:=by simpa using c7))
        (try (have c7b2:((rdOf false l0 x5_1) == (rdOf false l1 x5_1))=true:=by simpa using c7))
        clear c7
        have H':=zm H
        clear H
        have p277:0≤(x5_1:Int):=of_decide_eq_true (by first|(with_reducible assumption)|assumption)
        have q277:x5_1 < (l0.length:Int):=of_decide_eq_true (by first|(with_reducible assumption)|assumption)
        obtain ⟨ad277,e277,hx277_0⟩:=Kd.at_bool HR0.out x5_1 p277 q277
        cases e277
        replace p277:=eq_true p277
        replace q277:=eq_true q277
        have p278:0≤(x5_1:Int):=of_decide_eq_true (by first|(with_reducible assumption)|assumption)
        have q278:x5_1 < (l1.length:Int):=of_decide_eq_true (by first|(with_reducible assumption)|assumption)
        obtain ⟨ad278,e278,hx278_0⟩:=Kd.at_bool HR1.out x5_1 p278 q278
        cases e278
        replace p278:=eq_true p278
        replace q278:=eq_true q278
        go_wp2
        repeat (go_quiet (fail);try go_wp2)
        go_roundg k1
        case measure=>have:=HK1.out;omega
        case rel=>exact ⟨(wrap64 (x5_1 + 1)),(by first|rfl|(simp;done)|(simp [*];done)),H',⟨by have:=HK1.out;omega⟩,by repeat (first|exact Drawn0.refl _|apply Drawn0.step)⟩
      ·rw [if_neg c6] at H
       exact absurd H (by simp)
     ·rw [if_neg c5] at H
      exact absurd H (by simp)
    ·rw [if_neg c4] at H
     have c4b0:decide (x5_1 < (l0.length:Int))=false:=decide_eq_false c4
     clear c4
     obtain rfl:=Option.some.inj H
     go_wp2
     repeat (go_quiet (fail);try go_wp2)
     go_ret
     exact ⟨by first|rfl|(simp;done)|(simp [*];done),by repeat (first|exact Drawn0.refl _|apply Drawn0.step)⟩
 ·rw [if_neg c3] at H
  have c3b0:((l0.length:Int) == (l1.length:Int))=false:=beq_eq_false_iff_ne.mpr c3
  have c3b1:((l0.length:Int) != (l1.length:Int))=true:=bne_iff_ne.mpr c3
  have c3b2:(l0.length == l1.length)=false:=by first|simpa using c3|(simp at c3 ⊢;omega)
  obtain rfl:=Option.some.inj H
  go_enter Try.func53,Try.ntmps53
  go_wp2
  repeat (go_quiet (fail);try go_wp2)
  go_ret
  exact ⟨by first|rfl|(simp;done)|(simp [*];done),by repeat (first|exact Drawn0.refl _|apply Drawn0.step)⟩
end Go.Proofs.Ytkhbmgclklmimaa.Print
end
section
namespace Go.Proofs.Ytkhbmgclklmimaa.Print
open Go.RowKit Go.Proofs.YtkhbmgclklmimaaW.PrintWords Go.Proofs.YtkhbmgclklmimaaW.PrintLast Go.Proofs.YtkhbmgclklmimaaW.PrintMore
attribute [local go_sem] max2_int min2_int max_two min_two max_three min_three max_four min_four   -- for this text's walks alone
attribute [local go_sem ↓] Go.Proofs.Ytkhbmgclklmimaa.Sem.isSome_setCell
attribute [local go_sem] Go.Instr.field Go.asAgg
set_option linter.unusedVariables false
set_option linter.unusedSimpArgs false
theorem eqA55 (d:Nat) (w:World) (x0 y0:Int) (x1 y1:Int) (x2 y2:Int) :
  (Op.equalIn (d + 2) 55 (.agg #[.int .i64 x0,.int .i64 x1,.int .i64 x2]) (.agg #[.int .i64 y0,.int .i64 y1,.int .i64 y2])).run Try.prog w=.ok (x0 == y0 && (x1 == y1 && (x2 == y2))) w:=by
 refine eqA_of Try.underlying55 (by kernel_rfl) ?_
 refine eqf_cons (by rfl) (by go_simp;rfl) (by go_simp;rfl) (by go_simp) ?_
 refine eqf_cons (by rfl) (by go_simp;rfl) (by go_simp;rfl) (by go_simp) ?_
 exact eqf_last (by rfl) (by go_simp;rfl) (by go_simp;rfl) (by go_simp)
end Go.Proofs.Ytkhbmgclklmimaa.Print
end
section
namespace Go.Proofs.Ytkhbmgclklmimaa.Print
open Go.RowKit Go.Proofs.YtkhbmgclklmimaaW.PrintWords Go.Proofs.YtkhbmgclklmimaaW.PrintLast Go.Proofs.YtkhbmgclklmimaaW.PrintMore
attribute [local go_sem] max2_int min2_int max_two min_two max_three min_three max_four min_four   -- for this text's walks alone
attribute [local go_sem ↓] Go.Proofs.Ytkhbmgclklmimaa.Sem.isSome_setCell
attribute [local go_sem] Go.Instr.field Go.asAgg
set_option linter.unusedVariables false
set_option linter.unusedSimpArgs false
mutual
def slipwayref06_Check.j0:Nat → Bool → List Bool → List Int → Int → Option (Int)
 | 0,_,_,_,_=>none
 | k + 1,x30,x174000,x174001,x174002=>if x30=true then (some 60) else (slipwayref06_Check.l0 k 0 x174000 x174001 x174002)
def slipwayref06_Check.l0:Nat → Int → List Bool → List Int → Int → Option (Int)
 | 0,_,_,_,_=>none
 | k + 1,x4,x174000,x174001,x174002=>if x4 < (x174001.length:Int) then (if 0≤x4 then (if (rd x174001 x4) < 0 then (some 60) else (if (rd x174001 x4) > 16777215 then (some 60) else (slipwayref06_Check.l0 k (wrap64 (x4 + 1)) x174000 x174001 x174002))) else (none)) else (some 0)
end
def slipwayref06_Check.f (k:Nat) (l0_0:List Bool) (l0_1:List Int) (a0_2:Int):Option (Int):=if (l0_0.length:Int) < 16 then (slipwayref06_Check.j0 k true l0_0 l0_1 a0_2) else (if (l0_0.length:Int) > 256 then (slipwayref06_Check.j0 k true l0_0 l0_1 a0_2) else (if (l0_1.length:Int)=(l0_0.length:Int) then (if a0_2 < 0 then (slipwayref06_Check.j0 k true l0_0 l0_1 a0_2) else (slipwayref06_Check.j0 k (decide (a0_2 > 1152921504606846976)) l0_0 l0_1 a0_2)) else (slipwayref06_Check.j0 k true l0_0 l0_1 a0_2)))
set_option maxHeartbeats 8000000 in
set_option maxRecDepth 100000 in
theorem slipwayref06_Check.calls (k:Nat) (A0_0:Option Addr) (c0_0:Nat) (l0_0:List Bool) (A0_1:Option Addr) (c0_1:Nat) (l0_1:List Int) (a0_2:Int) (r:Int) (w:World) (hr0_0:Kd.C Kd.bool w A0_0 l0_0.length l0_0) (hc0_0:l0_0.length≤c0_0) (hr0_1:Kd.C (Kd.int .i64) w A0_1 l0_1.length l0_1) (hc0_1:l0_1.length≤c0_1) (h:slipwayref06_Check.f k l0_0 l0_1 a0_2=some r) :
  Calls Try.prog 18 #[.agg #[.slice A0_0 l0_0.length c0_0,.slice A0_1 l0_1.length c0_1,.int .i64 a0_2]] w fun e w'=>e=.returned (.int .i64 r)∧Below w.heap.size w w':=by
 have hu25:=Try.underlying25
 have HR0_0:=zm hr0_0
 have HC0_0:=zm hc0_0
 clear hr0_0 hc0_0
 have HR0_1:=zm hr0_1
 have HC0_1:=zm hc0_1
 clear hr0_1 hc0_1
 have HB:=zm (Below.refl w.heap.size w)
 have H:(if (l0_0.length:Int) < 16 then (slipwayref06_Check.j0 k true l0_0 l0_1 a0_2) else (if (l0_0.length:Int) > 256 then (slipwayref06_Check.j0 k true l0_0 l0_1 a0_2) else (if (l0_1.length:Int)=(l0_0.length:Int) then (if a0_2 < 0 then (slipwayref06_Check.j0 k true l0_0 l0_1 a0_2) else (slipwayref06_Check.j0 k (decide (a0_2 > 1152921504606846976)) l0_0 l0_1 a0_2)) else (slipwayref06_Check.j0 k true l0_0 l0_1 a0_2))))=some r:=h
 clear h
 have HC2:=zm H
 clear H
 go_enter Try.func18,Try.ntmps18
 go_upto_region 2 with (first|((with_reducible refine gate_dst (N:=1) rfl ?_);(try (refine gate_guard (by rfl) ?_;dsimp only));refine box_event ?hg (N:=1) ?hd (cs:=#[.slice A0_0 l0_0.length c0_0,.slice A0_1 l0_1.length c0_1,.int .i64 a0_2]) (t:=25) ?hr ?_;(case hd=>rfl);(case hg=>rfl);(case hr=>first|(go_simp;done)|(go_simp;rfl));intro gb173 hg w3 hbox hb;have n0_:=zm (below_step (by repeat (first|(with_reducible first|exact HB.out|apply zlA|apply zlN|apply zlD)|exact HB.out)) hb);have n1_:=zm (hbox);have n2_:=zm ((by rw [hg];exact (below_size (by repeat (first|(with_reducible first|exact HB.out|apply zlA|apply zlN|apply zlD)|exact HB.out))):w.heap.size≤gb173));have n3_:=zm ((by rw [hg];exact (below_size (by repeat (first|(with_reducible first|exact HB.out|apply zlA|apply zlN|apply zlD)|exact HB.out))):w.heap.size≤gb173));clear HB;have HB:=n0_;have BK173:=n1_;have GW173:=n2_;have GE173:=n3_;clear n0_ n1_ n2_ n3_;clear hb hbox hg;have hcz4_0:w3.cell? ⟨gb173,0,none⟩=some (.slice A0_0 l0_0.length c0_0):=(blk_cell BK173.out 0).trans rfl;have hcz4_1:w3.cell? ⟨gb173,1,none⟩=some (.slice A0_1 l0_1.length c0_1):=(blk_cell BK173.out 1).trans rfl;have hcz4_2:w3.cell? ⟨gb173,2,none⟩=some (.int .i64 a0_2):=(blk_cell BK173.out 2).trans rfl;have hfz4_0:=blk_frozen BK173.out 0;have hfz4_1:=blk_frozen BK173.out 1;have hfz4_2:=blk_frozen BK173.out 2))
 (try simp only [Act.put,List.setIfInBounds_toArray,List.set_cons_zero,List.set_cons_succ])
 go_cut [30] (fun v30 wc=>∃ (kq:Nat) (x30_1:Bool),v30=.bool x30_1∧Aside0 (slipwayref06_Check.j0 kq x30_1 l0_0 l0_1 a0_2=some r)∧Aside0 (kq≤k)∧Aside0 (wc.heap[gb173]?=some (.cells #[(.slice A0_0 l0_0.length c0_0),(.slice A0_1 l0_1.length c0_1),.int .i64 a0_2] 25 (0,0)))∧Aside0 (Below w.heap.size w wc))
 case first =>
  have H:=HC2.out
  clear HC2
  by_cases c5:(l0_0.length:Int) < 16
  ·rw [if_pos c5] at H
   have c5b0:decide ((l0_0.length:Int) < 16)=true:=decide_eq_true c5
   have c5b1:decide (l0_0.length < 16)=true:=decide_eq_true (by omega)
   clear c5
   (first|rw [c5b0]|(simp only [i64_w,i32_w];rw [c5b0])|skip)
   have H':=zm H
   clear H
   go_wp2
   go_meet
   case rel=>exact ⟨_,(true),(by first|rfl|(simp;done)|(simp [*];done)),H',⟨by first|omega|exact Nat.le_refl _⟩,⟨by (with_reducible repeat (first|refine zbN ?_ _|refine zbD ?_|refine zbA ?_ _));exact BK173.out⟩,⟨by repeat (first|(with_reducible first|exact HB.out|apply zlA|apply zlN|apply zlD|refine zlS ?_ GE173.out)|exact HB.out)⟩⟩
  ·rw [if_neg c5] at H
   have c5b0:decide ((l0_0.length:Int) < 16)=false:=decide_eq_false c5
   have c5b1:decide (l0_0.length < 16)=false:=decide_eq_false (by omega)
   clear c5
   (first|rw [c5b0]|(simp only [i64_w,i32_w];rw [c5b0])|skip)
   by_cases c6:(l0_0.length:Int) > 256
   ·rw [if_pos c6] at H
    have c6b0:decide (256 < (l0_0.length:Int))=true:=decide_eq_true c6
    have c6b1:decide (256 < l0_0.length)=true:=decide_eq_true (by omega)
    clear c6
    have H':=zm H
    clear H
    go_wp2
    go_meet
    case rel=>exact ⟨_,(true),(by first|rfl|(simp;done)|(simp [*];done)),H',⟨by first|omega|exact Nat.le_refl _⟩,⟨by (with_reducible repeat (first|refine zbN ?_ _|refine zbD ?_|refine zbA ?_ _));exact BK173.out⟩,⟨by repeat (first|(with_reducible first|exact HB.out|apply zlA|apply zlN|apply zlD|refine zlS ?_ GE173.out)|exact HB.out)⟩⟩
   ·rw [if_neg c6] at H
    have c6b0:decide (256 < (l0_0.length:Int))=false:=decide_eq_false c6
    have c6b1:decide (256 < l0_0.length)=false:=decide_eq_false (by omega)
    clear c6
    by_cases c7:(l0_1.length:Int)=(l0_0.length:Int)
    ·rw [if_pos c7] at H
     have c7b0:((l0_1.length:Int) == (l0_0.length:Int))=true:=beq_iff_eq.mpr c7
     have c7b1:((l0_1.length:Int) != (l0_0.length:Int))=false:=bne_eq_false_iff_eq.mpr c7
     have c7b2:(l0_1.length == l0_0.length)=true:=by first|simpa using c7|(simp at c7 ⊢;omega)
     clear c7
     by_cases c8:a0_2 < 0
     ·rw [if_pos c8] at H
      have c8b0:decide (a0_2 < 0)=true:=decide_eq_true c8
      clear c8
      have H':=zm H
      clear H
      have hcz9_0:w3.cell? ⟨gb173,0,none⟩=some (.slice A0_0 l0_0.length c0_0):=(blk_cell BK173.out 0).trans rfl
      have hcz9_1:w3.cell? ⟨gb173,1,none⟩=some (.slice A0_1 l0_1.length c0_1):=(blk_cell BK173.out 1).trans rfl
      have hcz9_2:w3.cell? ⟨gb173,2,none⟩=some (.int .i64 a0_2):=(blk_cell BK173.out 2).trans rfl
      have hfz9_0:=blk_frozen BK173.out 0
      have hfz9_1:=blk_frozen BK173.out 1
      have hfz9_2:=blk_frozen BK173.out 2
      go_wp2
      go_meet
      case rel=>exact ⟨_,(true),(by first|rfl|(simp;done)|(simp [*];done)),H',⟨by first|omega|exact Nat.le_refl _⟩,⟨by (with_reducible repeat (first|refine zbN ?_ _|refine zbD ?_|refine zbA ?_ _));exact BK173.out⟩,⟨by repeat (first|(with_reducible first|exact HB.out|apply zlA|apply zlN|apply zlD|refine zlS ?_ GE173.out)|exact HB.out)⟩⟩
     ·rw [if_neg c8] at H
      have c8b0:decide (a0_2 < 0)=false:=decide_eq_false c8
      clear c8
      have H':=zm H
      clear H
      have hcz10_0:w3.cell? ⟨gb173,0,none⟩=some (.slice A0_0 l0_0.length c0_0):=(blk_cell BK173.out 0).trans rfl
      have hcz10_1:w3.cell? ⟨gb173,1,none⟩=some (.slice A0_1 l0_1.length c0_1):=(blk_cell BK173.out 1).trans rfl
      have hcz10_2:w3.cell? ⟨gb173,2,none⟩=some (.int .i64 a0_2):=(blk_cell BK173.out 2).trans rfl
      have hfz10_0:=blk_frozen BK173.out 0
      have hfz10_1:=blk_frozen BK173.out 1
      have hfz10_2:=blk_frozen BK173.out 2
      go_wp2
      go_meet
      case rel=>exact ⟨_,(decide (a0_2 > 1152921504606846976)),(by first|rfl|(simp;done)|(simp [*];done)),H',⟨by first|omega|exact Nat.le_refl _⟩,⟨by (with_reducible repeat (first|refine zbN ?_ _|refine zbD ?_|refine zbA ?_ _));exact BK173.out⟩,⟨by repeat (first|(with_reducible first|exact HB.out|apply zlA|apply zlN|apply zlD|refine zlS ?_ GE173.out)|exact HB.out)⟩⟩
    ·rw [if_neg c7] at H
     have c7b0:((l0_1.length:Int) == (l0_0.length:Int))=false:=beq_eq_false_iff_ne.mpr c7
     have c7b1:((l0_1.length:Int) != (l0_0.length:Int))=true:=bne_iff_ne.mpr c7
     have c7b2:(l0_1.length == l0_0.length)=false:=by first|simpa using c7|(simp at c7 ⊢;omega)
     have H':=zm H
     clear H
     have hcz11_0:w3.cell? ⟨gb173,0,none⟩=some (.slice A0_0 l0_0.length c0_0):=(blk_cell BK173.out 0).trans rfl
     have hcz11_1:w3.cell? ⟨gb173,1,none⟩=some (.slice A0_1 l0_1.length c0_1):=(blk_cell BK173.out 1).trans rfl
     have hcz11_2:w3.cell? ⟨gb173,2,none⟩=some (.int .i64 a0_2):=(blk_cell BK173.out 2).trans rfl
     have hfz11_0:=blk_frozen BK173.out 0
     have hfz11_1:=blk_frozen BK173.out 1
     have hfz11_2:=blk_frozen BK173.out 2
     go_wp2
     go_meet
     case rel=>exact ⟨_,(true),(by first|rfl|(simp;done)|(simp [*];done)),H',⟨by first|omega|exact Nat.le_refl _⟩,⟨by (with_reducible repeat (first|refine zbN ?_ _|refine zbD ?_|refine zbA ?_ _));exact BK173.out⟩,⟨by repeat (first|(with_reducible first|exact HB.out|apply zlA|apply zlN|apply zlD|refine zlS ?_ GE173.out)|exact HB.out)⟩⟩
 case rest =>
  clear HC2
  try clear c1
  try clear p2
  try clear c5
  try clear c5b0
  try clear c5b1
  try clear c6
  try clear c6b0
  try clear c6b1
  try clear c7
  try clear c7b0
  try clear c7b1
  try clear c7b2
  try clear c8
  try clear c8b0
  try clear hcz10_0
  try clear hcz10_1
  try clear hcz10_2
  try clear hcz11_0
  try clear hcz11_1
  try clear hcz11_2
  try clear hcz4_0
  try clear hcz4_1
  try clear hcz4_2
  try clear hcz9_0
  try clear hcz9_1
  try clear hcz9_2
  try clear hfz10_0
  try clear hfz10_1
  try clear hfz10_2
  try clear hfz11_0
  try clear hfz11_1
  try clear hfz11_2
  try clear hfz4_0
  try clear hfz4_1
  try clear hfz4_2
  try clear hfz9_0
  try clear hfz9_1
  try clear hfz9_2
  obtain ⟨kq,x30_1,rfl,HA,HJ1,BK173,HB⟩:=hcut
  cases kq with
  | zero=>exact absurd HA.out (by simp [slipwayref06_Check.j0])
  | succ kj1 =>
   have H:=HA.out
   clear HA
   simp only [slipwayref06_Check.j0] at H
   by_cases c12:x30_1=true
   ·subst c12
    have H1:(some 60)=some r:=by rw [if_pos rfl] at H;exact H
    clear H
    have H:=H1
    clear H1
    obtain rfl:=Option.some.inj H
    go_wp2
    go_ret
    exact ⟨by first|rfl|(simp [errW_none,errW_some] <;> rfl)|(simp [*,errW_none,errW_some] <;> rfl),by repeat (first|(with_reducible first|exact HB.out|apply zlA|apply zlN|apply zlD|refine zlS ?_ GE173.out)|exact HB.out)⟩
   ·replace c12:=Bool.eq_false_iff.mpr c12
    subst c12
    have H1:(slipwayref06_Check.l0 kj1 0 l0_0 l0_1 a0_2)=some r:=by rw [if_neg (show ¬ (false=true) by decide)] at H;exact H
    clear H
    have H:=H1
    clear H1
    have H':=zm H
    clear H
    go_wp2
    go_loopg [4] kj1 (fun kq v4 w'=>∃ (x4_2:Int),v4=.int .i64 x4_2∧Aside0 (slipwayref06_Check.l0 kq x4_2 l0_0 l0_1 a0_2=some r)∧Aside0 (kq≤kj1)∧Aside0 (w'.heap[gb173]?=some (.cells #[(.slice A0_0 l0_0.length c0_0),(.slice A0_1 l0_1.length c0_1),.int .i64 a0_2] 25 (0,0)))∧Aside0 (Below w.heap.size w w'))
    case atStart=>exact ⟨(0),(by first|rfl|(simp;done)|(simp [*];done)),H',⟨Nat.le_refl _⟩,⟨by (with_reducible repeat (first|refine zbN ?_ _|refine zbD ?_|refine zbA ?_ _));exact BK173.out⟩,⟨by repeat (first|(with_reducible first|exact HB.out|apply zlA|apply zlN|apply zlD|refine zlS ?_ GE173.out)|exact HB.out)⟩⟩
    case round =>
     clear H'
     try clear c1
     try clear p2
     try clear c5
     try clear c5b0
     try clear c5b1
     try clear c6
     try clear c6b0
     try clear c6b1
     try clear c7
     try clear c7b0
     try clear c7b1
     try clear c7b2
     try clear c8
     try clear c8b0
     try clear c12
     try clear hcz10_0
     try clear hcz10_1
     try clear hcz10_2
     try clear hcz11_0
     try clear hcz11_1
     try clear hcz11_2
     try clear hcz4_0
     try clear hcz4_1
     try clear hcz4_2
     try clear hcz9_0
     try clear hcz9_1
     try clear hcz9_2
     try clear hfz10_0
     try clear hfz10_1
     try clear hfz10_2
     try clear hfz11_0
     try clear hfz11_1
     try clear hfz11_2
     try clear hfz4_0
     try clear hfz4_1
     try clear hfz4_2
     try clear hfz9_0
     try clear hfz9_1
     try clear hfz9_2
     try clear p2
     obtain ⟨x4_2,rfl,HA,HK2,BK173,HB⟩:=hrel
     cases gk with
     | zero=>exact absurd HA.out (by simp [slipwayref06_Check.l0])
     | succ k2 =>
      have H:=HA.out
      clear HA
      simp only [slipwayref06_Check.l0] at H
      by_cases c13:x4_2 < (l0_1.length:Int)
      ·rw [if_pos c13] at H
       have c13b0:decide (x4_2 < (l0_1.length:Int))=true:=decide_eq_true c13
       clear c13
       by_cases c14:0≤x4_2
       ·rw [if_pos c14] at H
        have c14b0:decide (0≤x4_2)=true:=decide_eq_true c14
        clear c14
        by_cases c15:(rd l0_1 x4_2) < 0
        ·rw [if_pos c15] at H
         have c15b0:decide ((rd l0_1 x4_2) < 0)=true:=decide_eq_true c15
         clear c15
         obtain rfl:=Option.some.inj H
         have hcz16_0:wr.cell? ⟨gb173,0,none⟩=some (.slice A0_0 l0_0.length c0_0):=(blk_cell BK173.out 0).trans rfl
         have hcz16_1:wr.cell? ⟨gb173,1,none⟩=some (.slice A0_1 l0_1.length c0_1):=(blk_cell BK173.out 1).trans rfl
         have hcz16_2:wr.cell? ⟨gb173,2,none⟩=some (.int .i64 a0_2):=(blk_cell BK173.out 2).trans rfl
         have hfz16_0:=blk_frozen BK173.out 0
         have hfz16_1:=blk_frozen BK173.out 1
         have hfz16_2:=blk_frozen BK173.out 2
         have p174:0≤(x4_2:Int):=of_decide_eq_true (by first|(with_reducible assumption)|assumption)
         have q174:x4_2 < (l0_1.length:Int):=of_decide_eq_true (by first|(with_reducible assumption)|assumption)
         obtain ⟨ad174,e174,hx174_0⟩:=Kd.at_int HR0_1.out x4_2 p174 q174
         cases e174
         replace hx174_0:=(HB.out.cell (World.block_lt_of_cell? w _ hx174_0)).trans hx174_0
         replace p174:=eq_true p174
         replace q174:=eq_true q174
         go_wp2
         go_ret
         exact ⟨by first|rfl|(simp [errW_none,errW_some] <;> rfl)|(simp [*,errW_none,errW_some] <;> rfl),by repeat (first|(with_reducible first|exact HB.out|apply zlA|apply zlN|apply zlD|refine zlS ?_ GE173.out)|exact HB.out)⟩
        ·rw [if_neg c15] at H
         have c15b0:decide ((rd l0_1 x4_2) < 0)=false:=decide_eq_false c15
         clear c15
         by_cases c17:(rd l0_1 x4_2) > 16777215
         ·rw [if_pos c17] at H
          have c17b0:decide (16777215 < (rd l0_1 x4_2))=true:=decide_eq_true c17
          clear c17
          obtain rfl:=Option.some.inj H
          have hcz18_0:wr.cell? ⟨gb173,0,none⟩=some (.slice A0_0 l0_0.length c0_0):=(blk_cell BK173.out 0).trans rfl
          have hcz18_1:wr.cell? ⟨gb173,1,none⟩=some (.slice A0_1 l0_1.length c0_1):=(blk_cell BK173.out 1).trans rfl
          have hcz18_2:wr.cell? ⟨gb173,2,none⟩=some (.int .i64 a0_2):=(blk_cell BK173.out 2).trans rfl
          have hfz18_0:=blk_frozen BK173.out 0
          have hfz18_1:=blk_frozen BK173.out 1
          have hfz18_2:=blk_frozen BK173.out 2
          have p174:0≤(x4_2:Int):=of_decide_eq_true (by first|(with_reducible assumption)|assumption)
          have q174:x4_2 < (l0_1.length:Int):=of_decide_eq_true (by first|(with_reducible assumption)|assumption)
          obtain ⟨ad174,e174,hx174_0⟩:=Kd.at_int HR0_1.out x4_2 p174 q174
          cases e174
          replace hx174_0:=(HB.out.cell (World.block_lt_of_cell? w _ hx174_0)).trans hx174_0
          replace p174:=eq_true p174
          replace q174:=eq_true q174
          have p175:0≤(x4_2:Int):=of_decide_eq_true (by first|(with_reducible assumption)|assumption)
          have q175:x4_2 < (l0_1.length:Int):=of_decide_eq_true (by first|(with_reducible assumption)|assumption)
          obtain ⟨ad175,e175,hx175_0⟩:=Kd.at_int HR0_1.out x4_2 p175 q175
          obtain rfl:ad174=ad175:=(by injection e175)
          replace hx175_0:=(HB.out.cell (World.block_lt_of_cell? w _ hx175_0)).trans hx175_0
          replace p175:=eq_true p175
          replace q175:=eq_true q175
          go_wp2
          go_ret
          exact ⟨by first|rfl|(simp [errW_none,errW_some] <;> rfl)|(simp [*,errW_none,errW_some] <;> rfl),by repeat (first|(with_reducible first|exact HB.out|apply zlA|apply zlN|apply zlD|refine zlS ?_ GE173.out)|exact HB.out)⟩
         ·rw [if_neg c17] at H
          have c17b0:decide (16777215 < (rd l0_1 x4_2))=false:=decide_eq_false c17
          clear c17
          have H':=zm H
          clear H
          have hcz19_0:wr.cell? ⟨gb173,0,none⟩=some (.slice A0_0 l0_0.length c0_0):=(blk_cell BK173.out 0).trans rfl
          have hcz19_1:wr.cell? ⟨gb173,1,none⟩=some (.slice A0_1 l0_1.length c0_1):=(blk_cell BK173.out 1).trans rfl
          have hcz19_2:wr.cell? ⟨gb173,2,none⟩=some (.int .i64 a0_2):=(blk_cell BK173.out 2).trans rfl
          have hfz19_0:=blk_frozen BK173.out 0
          have hfz19_1:=blk_frozen BK173.out 1
          have hfz19_2:=blk_frozen BK173.out 2
          have p174:0≤(x4_2:Int):=of_decide_eq_true (by first|(with_reducible assumption)|assumption)
          have q174:x4_2 < (l0_1.length:Int):=of_decide_eq_true (by first|(with_reducible assumption)|assumption)
          obtain ⟨ad174,e174,hx174_0⟩:=Kd.at_int HR0_1.out x4_2 p174 q174
          cases e174
          replace hx174_0:=(HB.out.cell (World.block_lt_of_cell? w _ hx174_0)).trans hx174_0
          replace p174:=eq_true p174
          replace q174:=eq_true q174
          have p175:0≤(x4_2:Int):=of_decide_eq_true (by first|(with_reducible assumption)|assumption)
          have q175:x4_2 < (l0_1.length:Int):=of_decide_eq_true (by first|(with_reducible assumption)|assumption)
          obtain ⟨ad175,e175,hx175_0⟩:=Kd.at_int HR0_1.out x4_2 p175 q175
          obtain rfl:ad174=ad175:=(by injection e175)
          replace hx175_0:=(HB.out.cell (World.block_lt_of_cell? w _ hx175_0)).trans hx175_0
          replace p175:=eq_true p175
          replace q175:=eq_true q175
          go_wp2
          go_roundg k2
          case measure=>have:=HJ1.out;have:=HK2.out;omega
          case rel=>exact ⟨(wrap64 (x4_2 + 1)),(by first|rfl|(simp;done)|(simp [*];done)),H',⟨by have:=HJ1.out;have:=HK2.out;omega⟩,⟨by (with_reducible repeat (first|refine zbN ?_ _|refine zbD ?_|refine zbA ?_ _));exact BK173.out⟩,⟨by repeat (first|(with_reducible first|exact HB.out|apply zlA|apply zlN|apply zlD|refine zlS ?_ GE173.out)|exact HB.out)⟩⟩
       ·rw [if_neg c14] at H
        exact absurd H (by simp)
      ·rw [if_neg c13] at H
       have c13b0:decide (x4_2 < (l0_1.length:Int))=false:=decide_eq_false c13
       clear c13
       obtain rfl:=Option.some.inj H
       have hcz20_0:wr.cell? ⟨gb173,0,none⟩=some (.slice A0_0 l0_0.length c0_0):=(blk_cell BK173.out 0).trans rfl
       have hcz20_1:wr.cell? ⟨gb173,1,none⟩=some (.slice A0_1 l0_1.length c0_1):=(blk_cell BK173.out 1).trans rfl
       have hcz20_2:wr.cell? ⟨gb173,2,none⟩=some (.int .i64 a0_2):=(blk_cell BK173.out 2).trans rfl
       have hfz20_0:=blk_frozen BK173.out 0
       have hfz20_1:=blk_frozen BK173.out 1
       have hfz20_2:=blk_frozen BK173.out 2
       go_wp2
       go_ret
       exact ⟨by first|rfl|(simp [errW_none,errW_some] <;> rfl)|(simp [*,errW_none,errW_some] <;> rfl),by repeat (first|(with_reducible first|exact HB.out|apply zlA|apply zlN|apply zlD|refine zlS ?_ GE173.out)|exact HB.out)⟩
end Go.Proofs.Ytkhbmgclklmimaa.Print
end
section
namespace Go.Proofs.Ytkhbmgclklmimaa.Print
open Go.RowKit Go.Proofs.YtkhbmgclklmimaaW.PrintWords Go.Proofs.YtkhbmgclklmimaaW.PrintLast Go.Proofs.YtkhbmgclklmimaaW.PrintMore
attribute [local go_sem] max2_int min2_int max_two min_two max_three min_three max_four min_four   -- for this text's walks alone
attribute [local go_sem ↓] Go.Proofs.Ytkhbmgclklmimaa.Sem.isSome_setCell
attribute [local go_sem] Go.Instr.field Go.asAgg
set_option linter.unusedVariables false
set_option linter.unusedSimpArgs false
def slipwayref06_nums.l0:Nat → List Int → List Int → Int → Option (Bool)
 | 0,_,_,_=>none
 | k + 1,x0,x1,x5=>if x5 < (x0.length:Int) then (if 0≤x5 then (if x5 < (x1.length:Int) then (if (rd x0 x5)=(rd x1 x5) then (slipwayref06_nums.l0 k x0 x1 (wrap64 (x5 + 1))) else (some false)) else (none)) else (none)) else (some true)
def slipwayref06_nums.f (k:Nat) (l0:List Int) (l1:List Int):Option (Bool):=if (l0.length:Int)=(l1.length:Int) then (slipwayref06_nums.l0 k l0 l1 0) else (some false)
set_option maxHeartbeats 8000000 in
set_option maxRecDepth 100000 in
theorem slipwayref06_nums.calls (k:Nat) (A0:Option Addr) (c0:Nat) (l0:List Int) (A1:Option Addr) (c1:Nat) (l1:List Int) (r:Bool) (w:World) (hr0:Kd.C (Kd.int .i64) w A0 l0.length l0) (hc0:l0.length≤c0) (hr1:Kd.C (Kd.int .i64) w A1 l1.length l1) (hc1:l1.length≤c1) (h:slipwayref06_nums.f k l0 l1=some r) :
  Calls Try.prog 54 #[.slice A0 l0.length c0,.slice A1 l1.length c1] w fun e w'=>e=.returned (.bool r)∧Drawn0 w w':=by
 have HR0:=zm hr0
 have HC0:=zm hc0
 clear hr0 hc0
 have HR1:=zm hr1
 have HC1:=zm hc1
 clear hr1 hc1
 have H:(if (l0.length:Int)=(l1.length:Int) then (slipwayref06_nums.l0 k l0 l1 0) else (some false))=some r:=h
 clear h
 by_cases c3:(l0.length:Int)=(l1.length:Int)
 ·rw [if_pos c3] at H
  have c3b0:((l0.length:Int) == (l1.length:Int))=true:=beq_iff_eq.mpr c3
  have c3b1:((l0.length:Int) != (l1.length:Int))=false:=bne_eq_false_iff_eq.mpr c3
  have c3b2:(l0.length == l1.length)=true:=by first|simpa using c3|(simp at c3 ⊢;omega)
  clear c3
  have H':=zm H
  clear H
  go_enter Try.func54,Try.ntmps54
  go_wp2
  repeat (go_quiet (fail);try go_wp2)
  go_loopg [5] k (fun kq v5 w'=>∃ (x5_1:Int),v5=.int .i64 x5_1∧Aside0 (slipwayref06_nums.l0 kq l0 l1 x5_1=some r)∧Aside0 (kq≤k)∧Drawn0 w w')
  case atStart=>exact ⟨(0),(by first|rfl|(simp;done)|(simp [*];done)),H',⟨Nat.le_refl _⟩,by repeat (first|exact Drawn0.refl _|apply Drawn0.step)⟩
  case round =>
   clear H'
   try clear c1
   try clear p2
   try clear c3
   try clear c3b0
   try clear c3b1
   try clear c3b2
   obtain ⟨x5_1,rfl,HA,HK1,⟨m1,rfl⟩⟩:=hrel
   cases gk with
   | zero=>exact absurd HA.out (by simp [slipwayref06_nums.l0])
   | succ k1 =>
    have H:=HA.out
    clear HA
    simp only [slipwayref06_nums.l0] at H
    by_cases c4:x5_1 < (l0.length:Int)
    ·rw [if_pos c4] at H
     have c4b0:decide (x5_1 < (l0.length:Int))=true:=decide_eq_true c4
     clear c4
     by_cases c5:0≤x5_1
     ·rw [if_pos c5] at H
      have c5b0:decide (0≤x5_1)=true:=decide_eq_true c5
      clear c5
      by_cases c6:x5_1 < (l1.length:Int)
      ·rw [if_pos c6] at H
       have c6b0:decide (x5_1 < (l1.length:Int))=true:=decide_eq_true c6
       clear c6
       by_cases c7:(rd l0 x5_1)=(rd l1 x5_1)
       ·rw [if_pos c7] at H
        have c7b0:((rd l0 x5_1) == (rd l1 x5_1))=true:=beq_iff_eq.mpr c7
        have c7b1:((rd l0 x5_1) != (rd l1 x5_1))=false:=bne_eq_false_iff_eq.mpr c7
        clear c7
        have H':=zm H
        clear H
        have p279:0≤(x5_1:Int):=of_decide_eq_true (by first|(with_reducible assumption)|assumption)
        have q279:x5_1 < (l0.length:Int):=of_decide_eq_true (by first|(with_reducible assumption)|assumption)
        obtain ⟨ad279,e279,hx279_0⟩:=Kd.at_int HR0.out x5_1 p279 q279
        cases e279
        replace p279:=eq_true p279
        replace q279:=eq_true q279
        have p280:0≤(x5_1:Int):=of_decide_eq_true (by first|(with_reducible assumption)|assumption)
        have q280:x5_1 < (l1.length:Int):=of_decide_eq_true (by first|(with_reducible assumption)|assumption)
        obtain ⟨ad280,e280,hx280_0⟩:=Kd.at_int HR1.out x5_1 p280 q280
        cases e280
        replace p280:=eq_true p280
        replace q280:=eq_true q280
        go_wp2
        repeat (go_quiet (fail);try go_wp2)
        go_roundg k1
        case measure=>have:=HK1.out;omega
        case rel=>exact ⟨(wrap64 (x5_1 + 1)),(by first|rfl|(simp;done)|(simp [*];done)),H',⟨by have:=HK1.out;omega⟩,by repeat (first|exact Drawn0.refl _|apply Drawn0.step)⟩
       ·rw [if_neg c7] at H
        have c7b0:((rd l0 x5_1) == (rd l1 x5_1))=false:=beq_eq_false_iff_ne.mpr c7
        have c7b1:((rd l0 x5_1) != (rd l1 x5_1))=true:=bne_iff_ne.mpr c7
        obtain rfl:=Option.some.inj H
        have p279:0≤(x5_1:Int):=of_decide_eq_true (by first|(with_reducible assumption)|assumption)
        have q279:x5_1 < (l0.length:Int):=of_decide_eq_true (by first|(with_reducible assumption)|assumption)
        obtain ⟨ad279,e279,hx279_0⟩:=Kd.at_int HR0.out x5_1 p279 q279
        cases e279
        replace p279:=eq_true p279
        replace q279:=eq_true q279
        have p280:0≤(x5_1:Int):=of_decide_eq_true (by first|(with_reducible assumption)|assumption)
        have q280:x5_1 < (l1.length:Int):=of_decide_eq_true (by first|(with_reducible assumption)|assumption)
        obtain ⟨ad280,e280,hx280_0⟩:=Kd.at_int HR1.out x5_1 p280 q280
        cases e280
        replace p280:=eq_true p280
        replace q280:=eq_true q280
        go_wp2
        repeat (go_quiet (fail);try go_wp2)
        go_ret
        exact ⟨by first|rfl|(simp;done)|(simp [*];done),by repeat (first|exact Drawn0.refl _|apply Drawn0.step)⟩
      ·rw [if_neg c6] at H
       exact absurd H (by simp)
     ·rw [if_neg c5] at H
      exact absurd H (by simp)
    ·rw [if_neg c4] at H
     have c4b0:decide (x5_1 < (l0.length:Int))=false:=decide_eq_false c4
     clear c4
     obtain rfl:=Option.some.inj H
     go_wp2
     repeat (go_quiet (fail);try go_wp2)
     go_ret
     exact ⟨by first|rfl|(simp;done)|(simp [*];done),by repeat (first|exact Drawn0.refl _|apply Drawn0.step)⟩
 ·rw [if_neg c3] at H
  have c3b0:((l0.length:Int) == (l1.length:Int))=false:=beq_eq_false_iff_ne.mpr c3
  have c3b1:((l0.length:Int) != (l1.length:Int))=true:=bne_iff_ne.mpr c3
  have c3b2:(l0.length == l1.length)=false:=by first|simpa using c3|(simp at c3 ⊢;omega)
  obtain rfl:=Option.some.inj H
  go_enter Try.func54,Try.ntmps54
  go_wp2
  repeat (go_quiet (fail);try go_wp2)
  go_ret
  exact ⟨by first|rfl|(simp;done)|(simp [*];done),by repeat (first|exact Drawn0.refl _|apply Drawn0.step)⟩
end Go.Proofs.Ytkhbmgclklmimaa.Print
end
section
namespace Go.Proofs.Ytkhbmgclklmimaa.Print
open Go.RowKit Go.Proofs.YtkhbmgclklmimaaW.PrintWords Go.Proofs.YtkhbmgclklmimaaW.PrintLast Go.Proofs.YtkhbmgclklmimaaW.PrintMore
attribute [local go_sem] max2_int min2_int max_two min_two max_three min_three max_four min_four   -- for this text's walks alone
attribute [local go_sem ↓] Go.Proofs.Ytkhbmgclklmimaa.Sem.isSome_setCell
attribute [local go_sem] Go.Instr.field Go.asAgg
set_option linter.unusedVariables false
set_option linter.unusedSimpArgs false
def slipwayref06_may.j0:Nat → Bool → Int → Int → Int → Option (Bool)
 | 0,_,_,_,_=>none
 | k + 1,x3,x346000,x346001,x346002=>if x346000=1 then (if x3=true then (some (x346002 == 0)) else (some false)) else (if x346000=2 then (if x3=true then (if x346002 ≥ 0 then (some (decide (x346002≤16777215))) else (some false)) else (some false)) else (if x346000=3 then (if x346001=0 then (if x346002 ≥ 0 then (some (decide (x346002≤1152921504606846976))) else (some false)) else (some false)) else (some false)))
def slipwayref06_may.f (k:Nat) (a0_0:Int) (a0_1:Int) (a0_2:Int):Option (Bool):=if a0_1 ≥ 0 then (slipwayref06_may.j0 k (decide (a0_1 < 256)) a0_0 a0_1 a0_2) else (slipwayref06_may.j0 k false a0_0 a0_1 a0_2)
set_option maxHeartbeats 8000000 in
set_option maxRecDepth 100000 in
theorem slipwayref06_may.calls (k:Nat) (a0_0:Int) (a0_1:Int) (a0_2:Int) (r:Bool) (w:World) (h:slipwayref06_may.f k a0_0 a0_1 a0_2=some r) :
  Calls Try.prog 63 #[.agg #[.int .i64 a0_0,.int .i64 a0_1,.int .i64 a0_2]] w fun e w'=>e=.returned (.bool r)∧Below w.heap.size w w':=by
 have hu55:=Try.underlying55
 have HB:=zm (Below.refl w.heap.size w)
 have H:(if a0_1 ≥ 0 then (slipwayref06_may.j0 k (decide (a0_1 < 256)) a0_0 a0_1 a0_2) else (slipwayref06_may.j0 k false a0_0 a0_1 a0_2))=some r:=h
 clear h
 have HC2:=zm H
 clear H
 go_enter Try.func63,Try.ntmps63
 go_upto_region 1 with (first|((with_reducible refine gate_dst (N:=1) rfl ?_);refine box_event ?hg (N:=1) ?hd (cs:=#[.int .i64 a0_0,.int .i64 a0_1,.int .i64 a0_2]) (t:=55) ?hr ?_;(case hd=>rfl);(case hg=>rfl);(case hr=>first|(go_simp;done)|(go_simp;rfl));intro gb345 hg w3 hbox hb;have n0_:=zm (below_step (by repeat (first|(with_reducible first|exact HB.out|apply zlA|apply zlN|apply zlD)|exact HB.out)) hb);have n1_:=zm (hbox);have n2_:=zm ((by rw [hg];exact (below_size (by repeat (first|(with_reducible first|exact HB.out|apply zlA|apply zlN|apply zlD)|exact HB.out))):w.heap.size≤gb345));have n3_:=zm ((by rw [hg];exact (below_size (by repeat (first|(with_reducible first|exact HB.out|apply zlA|apply zlN|apply zlD)|exact HB.out))):w.heap.size≤gb345));clear HB;have HB:=n0_;have BK345:=n1_;have GW345:=n2_;have GE345:=n3_;clear n0_ n1_ n2_ n3_;clear hb hbox hg))
 (try simp only [Act.put,List.setIfInBounds_toArray,List.set_cons_zero,List.set_cons_succ])
 go_cut [3] (fun v3 wc=>∃ (kq:Nat) (x3_1:Bool),v3=.bool x3_1∧Aside0 (slipwayref06_may.j0 kq x3_1 a0_0 a0_1 a0_2=some r)∧Aside0 (kq≤k)∧Aside0 (wc.heap[gb345]?=some (.cells #[.int .i64 a0_0,.int .i64 a0_1,.int .i64 a0_2] 55 (0,0)))∧Aside0 (Below w.heap.size w wc))
 case first =>
  have H:=HC2.out
  clear HC2
  by_cases c4:a0_1 ≥ 0
  ·rw [if_pos c4] at H
   have c4b0:decide (0≤a0_1)=true:=decide_eq_true c4
   clear c4
   (first|rw [c4b0]|(simp only [i64_w,i32_w];rw [c4b0])|skip)
   have H':=zm H
   clear H
   have hcz5_0:w3.cell? ⟨gb345,0,none⟩=some (.int .i64 a0_0):=(blk_cell BK345.out 0).trans rfl
   have hcz5_1:w3.cell? ⟨gb345,1,none⟩=some (.int .i64 a0_1):=(blk_cell BK345.out 1).trans rfl
   have hcz5_2:w3.cell? ⟨gb345,2,none⟩=some (.int .i64 a0_2):=(blk_cell BK345.out 2).trans rfl
   have hfz5_0:=blk_frozen BK345.out 0
   have hfz5_1:=blk_frozen BK345.out 1
   have hfz5_2:=blk_frozen BK345.out 2
   go_wp2
   go_meet
   case rel=>exact ⟨_,(decide (a0_1 < 256)),(by first|rfl|(simp;done)|(simp [*];done)),H',⟨by first|omega|exact Nat.le_refl _⟩,⟨by (with_reducible repeat (first|refine zbN ?_ _|refine zbD ?_|refine zbA ?_ _));exact BK345.out⟩,⟨by repeat (first|(with_reducible first|exact HB.out|apply zlA|apply zlN|apply zlD|refine zlS ?_ GE345.out)|exact HB.out)⟩⟩
  ·rw [if_neg c4] at H
   have c4b0:decide (0≤a0_1)=false:=decide_eq_false c4
   clear c4
   (first|rw [c4b0]|(simp only [i64_w,i32_w];rw [c4b0])|skip)
   have H':=zm H
   clear H
   have hcz6_0:w3.cell? ⟨gb345,0,none⟩=some (.int .i64 a0_0):=(blk_cell BK345.out 0).trans rfl
   have hcz6_1:w3.cell? ⟨gb345,1,none⟩=some (.int .i64 a0_1):=(blk_cell BK345.out 1).trans rfl
   have hcz6_2:w3.cell? ⟨gb345,2,none⟩=some (.int .i64 a0_2):=(blk_cell BK345.out 2).trans rfl
   have hfz6_0:=blk_frozen BK345.out 0
   have hfz6_1:=blk_frozen BK345.out 1
   have hfz6_2:=blk_frozen BK345.out 2
   go_wp2
   go_meet
   case rel=>exact ⟨_,(false),(by first|rfl|(simp;done)|(simp [*];done)),H',⟨by first|omega|exact Nat.le_refl _⟩,⟨by (with_reducible repeat (first|refine zbN ?_ _|refine zbD ?_|refine zbA ?_ _));exact BK345.out⟩,⟨by repeat (first|(with_reducible first|exact HB.out|apply zlA|apply zlN|apply zlD|refine zlS ?_ GE345.out)|exact HB.out)⟩⟩
 case rest =>
  clear HC2
  try clear p2
  try clear c4
  try clear c4b0
  try clear c6
  try clear hcz5_0
  try clear hcz5_1
  try clear hcz5_2
  try clear hcz6_0
  try clear hcz6_1
  try clear hcz6_2
  try clear hfz5_0
  try clear hfz5_1
  try clear hfz5_2
  try clear hfz6_0
  try clear hfz6_1
  try clear hfz6_2
  obtain ⟨kq,x3_1,rfl,HA,HJ1,BK345,HB⟩:=hcut
  cases kq with
  | zero=>exact absurd HA.out (by simp [slipwayref06_may.j0])
  | succ kj1 =>
   have H:=HA.out
   clear HA
   simp only [slipwayref06_may.j0] at H
   by_cases c7:a0_0=1
   ·rw [if_pos c7] at H
    have c7b0:(a0_0 == 1)=true:=beq_iff_eq.mpr c7
    have c7b1:(a0_0 != 1)=false:=bne_eq_false_iff_eq.mpr c7
    clear c7
    by_cases c8:x3_1=true
    ·subst c8
     have H1:(some (a0_2 == 0))=some r:=by rw [if_pos rfl] at H;exact H
     clear H
     have H:=H1
     clear H1
     obtain rfl:=Option.some.inj H
     have hcz9_0:wc.cell? ⟨gb345,0,none⟩=some (.int .i64 a0_0):=(blk_cell BK345.out 0).trans rfl
     have hcz9_1:wc.cell? ⟨gb345,1,none⟩=some (.int .i64 a0_1):=(blk_cell BK345.out 1).trans rfl
     have hcz9_2:wc.cell? ⟨gb345,2,none⟩=some (.int .i64 a0_2):=(blk_cell BK345.out 2).trans rfl
     have hfz9_0:=blk_frozen BK345.out 0
     have hfz9_1:=blk_frozen BK345.out 1
     have hfz9_2:=blk_frozen BK345.out 2
     go_wp2
     go_ret
     exact ⟨by first|rfl|(simp [errW_none,errW_some] <;> rfl)|(simp [*,errW_none,errW_some] <;> rfl),by repeat (first|(with_reducible first|exact HB.out|apply zlA|apply zlN|apply zlD|refine zlS ?_ GE345.out)|exact HB.out)⟩
    ·replace c8:=Bool.eq_false_iff.mpr c8
     subst c8
     have H1:(some false)=some r:=by rw [if_neg (show ¬ (false=true) by decide)] at H;exact H
     clear H
     have H:=H1
     clear H1
     obtain rfl:=Option.some.inj H
     have hcz10_0:wc.cell? ⟨gb345,0,none⟩=some (.int .i64 a0_0):=(blk_cell BK345.out 0).trans rfl
     have hcz10_1:wc.cell? ⟨gb345,1,none⟩=some (.int .i64 a0_1):=(blk_cell BK345.out 1).trans rfl
     have hcz10_2:wc.cell? ⟨gb345,2,none⟩=some (.int .i64 a0_2):=(blk_cell BK345.out 2).trans rfl
     have hfz10_0:=blk_frozen BK345.out 0
     have hfz10_1:=blk_frozen BK345.out 1
     have hfz10_2:=blk_frozen BK345.out 2
     go_wp2
     go_ret
     exact ⟨by first|rfl|(simp [errW_none,errW_some] <;> rfl)|(simp [*,errW_none,errW_some] <;> rfl),by repeat (first|(with_reducible first|exact HB.out|apply zlA|apply zlN|apply zlD|refine zlS ?_ GE345.out)|exact HB.out)⟩
   ·rw [if_neg c7] at H
    have c7b0:(a0_0 == 1)=false:=beq_eq_false_iff_ne.mpr c7
    have c7b1:(a0_0 != 1)=true:=bne_iff_ne.mpr c7
    by_cases c11:a0_0=2
    ·rw [if_pos c11] at H
     have c11b0:(a0_0 == 2)=true:=beq_iff_eq.mpr c11
     have c11b1:(a0_0 != 2)=false:=bne_eq_false_iff_eq.mpr c11
     clear c11
     by_cases c12:x3_1=true
     ·subst c12
      have H1:(if a0_2 ≥ 0 then (some (decide (a0_2≤16777215))) else (some false))=some r:=by rw [if_pos rfl] at H;exact H
      clear H
      have H:=H1
      clear H1
      by_cases c13:a0_2 ≥ 0
      ·rw [if_pos c13] at H
       have c13b0:decide (0≤a0_2)=true:=decide_eq_true c13
       clear c13
       obtain rfl:=Option.some.inj H
       have hcz14_0:wc.cell? ⟨gb345,0,none⟩=some (.int .i64 a0_0):=(blk_cell BK345.out 0).trans rfl
       have hcz14_1:wc.cell? ⟨gb345,1,none⟩=some (.int .i64 a0_1):=(blk_cell BK345.out 1).trans rfl
       have hcz14_2:wc.cell? ⟨gb345,2,none⟩=some (.int .i64 a0_2):=(blk_cell BK345.out 2).trans rfl
       have hfz14_0:=blk_frozen BK345.out 0
       have hfz14_1:=blk_frozen BK345.out 1
       have hfz14_2:=blk_frozen BK345.out 2
       go_wp2
       go_ret
       exact ⟨by first|rfl|(simp [errW_none,errW_some] <;> rfl)|(simp [*,errW_none,errW_some] <;> rfl),by repeat (first|(with_reducible first|exact HB.out|apply zlA|apply zlN|apply zlD|refine zlS ?_ GE345.out)|exact HB.out)⟩
      ·rw [if_neg c13] at H
       have c13b0:decide (0≤a0_2)=false:=decide_eq_false c13
       clear c13
       obtain rfl:=Option.some.inj H
       have hcz15_0:wc.cell? ⟨gb345,0,none⟩=some (.int .i64 a0_0):=(blk_cell BK345.out 0).trans rfl
       have hcz15_1:wc.cell? ⟨gb345,1,none⟩=some (.int .i64 a0_1):=(blk_cell BK345.out 1).trans rfl
       have hcz15_2:wc.cell? ⟨gb345,2,none⟩=some (.int .i64 a0_2):=(blk_cell BK345.out 2).trans rfl
       have hfz15_0:=blk_frozen BK345.out 0
       have hfz15_1:=blk_frozen BK345.out 1
       have hfz15_2:=blk_frozen BK345.out 2
       go_wp2
       go_ret
       exact ⟨by first|rfl|(simp [errW_none,errW_some] <;> rfl)|(simp [*,errW_none,errW_some] <;> rfl),by repeat (first|(with_reducible first|exact HB.out|apply zlA|apply zlN|apply zlD|refine zlS ?_ GE345.out)|exact HB.out)⟩
     ·replace c12:=Bool.eq_false_iff.mpr c12
      subst c12
      have H1:(some false)=some r:=by rw [if_neg (show ¬ (false=true) by decide)] at H;exact H
      clear H
      have H:=H1
      clear H1
      obtain rfl:=Option.some.inj H
      have hcz16_0:wc.cell? ⟨gb345,0,none⟩=some (.int .i64 a0_0):=(blk_cell BK345.out 0).trans rfl
      have hcz16_1:wc.cell? ⟨gb345,1,none⟩=some (.int .i64 a0_1):=(blk_cell BK345.out 1).trans rfl
      have hcz16_2:wc.cell? ⟨gb345,2,none⟩=some (.int .i64 a0_2):=(blk_cell BK345.out 2).trans rfl
      have hfz16_0:=blk_frozen BK345.out 0
      have hfz16_1:=blk_frozen BK345.out 1
      have hfz16_2:=blk_frozen BK345.out 2
      go_wp2
      go_ret
      exact ⟨by first|rfl|(simp [errW_none,errW_some] <;> rfl)|(simp [*,errW_none,errW_some] <;> rfl),by repeat (first|(with_reducible first|exact HB.out|apply zlA|apply zlN|apply zlD|refine zlS ?_ GE345.out)|exact HB.out)⟩
    ·rw [if_neg c11] at H
     have c11b0:(a0_0 == 2)=false:=beq_eq_false_iff_ne.mpr c11
     have c11b1:(a0_0 != 2)=true:=bne_iff_ne.mpr c11
     by_cases c17:a0_0=3
     ·rw [if_pos c17] at H
      have c17b0:(a0_0 == 3)=true:=beq_iff_eq.mpr c17
      have c17b1:(a0_0 != 3)=false:=bne_eq_false_iff_eq.mpr c17
      clear c17
      by_cases c18:a0_1=0
      ·rw [if_pos c18] at H
       have c18b0:(a0_1 == 0)=true:=beq_iff_eq.mpr c18
       have c18b1:(a0_1 != 0)=false:=bne_eq_false_iff_eq.mpr c18
       clear c18
       by_cases c19:a0_2 ≥ 0
       ·rw [if_pos c19] at H
        have c19b0:decide (0≤a0_2)=true:=decide_eq_true c19
        clear c19
        obtain rfl:=Option.some.inj H
        have hcz20_0:wc.cell? ⟨gb345,0,none⟩=some (.int .i64 a0_0):=(blk_cell BK345.out 0).trans rfl
        have hcz20_1:wc.cell? ⟨gb345,1,none⟩=some (.int .i64 a0_1):=(blk_cell BK345.out 1).trans rfl
        have hcz20_2:wc.cell? ⟨gb345,2,none⟩=some (.int .i64 a0_2):=(blk_cell BK345.out 2).trans rfl
        have hfz20_0:=blk_frozen BK345.out 0
        have hfz20_1:=blk_frozen BK345.out 1
        have hfz20_2:=blk_frozen BK345.out 2
        go_wp2
        go_ret
        exact ⟨by first|rfl|(simp [errW_none,errW_some] <;> rfl)|(simp [*,errW_none,errW_some] <;> rfl),by repeat (first|(with_reducible first|exact HB.out|apply zlA|apply zlN|apply zlD|refine zlS ?_ GE345.out)|exact HB.out)⟩
       ·rw [if_neg c19] at H
        have c19b0:decide (0≤a0_2)=false:=decide_eq_false c19
        clear c19
        obtain rfl:=Option.some.inj H
        have hcz21_0:wc.cell? ⟨gb345,0,none⟩=some (.int .i64 a0_0):=(blk_cell BK345.out 0).trans rfl
        have hcz21_1:wc.cell? ⟨gb345,1,none⟩=some (.int .i64 a0_1):=(blk_cell BK345.out 1).trans rfl
        have hcz21_2:wc.cell? ⟨gb345,2,none⟩=some (.int .i64 a0_2):=(blk_cell BK345.out 2).trans rfl
        have hfz21_0:=blk_frozen BK345.out 0
        have hfz21_1:=blk_frozen BK345.out 1
        have hfz21_2:=blk_frozen BK345.out 2
        go_wp2
        go_ret
        exact ⟨by first|rfl|(simp [errW_none,errW_some] <;> rfl)|(simp [*,errW_none,errW_some] <;> rfl),by repeat (first|(with_reducible first|exact HB.out|apply zlA|apply zlN|apply zlD|refine zlS ?_ GE345.out)|exact HB.out)⟩
      ·rw [if_neg c18] at H
       have c18b0:(a0_1 == 0)=false:=beq_eq_false_iff_ne.mpr c18
       have c18b1:(a0_1 != 0)=true:=bne_iff_ne.mpr c18
       obtain rfl:=Option.some.inj H
       have hcz22_0:wc.cell? ⟨gb345,0,none⟩=some (.int .i64 a0_0):=(blk_cell BK345.out 0).trans rfl
       have hcz22_1:wc.cell? ⟨gb345,1,none⟩=some (.int .i64 a0_1):=(blk_cell BK345.out 1).trans rfl
       have hcz22_2:wc.cell? ⟨gb345,2,none⟩=some (.int .i64 a0_2):=(blk_cell BK345.out 2).trans rfl
       have hfz22_0:=blk_frozen BK345.out 0
       have hfz22_1:=blk_frozen BK345.out 1
       have hfz22_2:=blk_frozen BK345.out 2
       go_wp2
       go_ret
       exact ⟨by first|rfl|(simp [errW_none,errW_some] <;> rfl)|(simp [*,errW_none,errW_some] <;> rfl),by repeat (first|(with_reducible first|exact HB.out|apply zlA|apply zlN|apply zlD|refine zlS ?_ GE345.out)|exact HB.out)⟩
     ·rw [if_neg c17] at H
      have c17b0:(a0_0 == 3)=false:=beq_eq_false_iff_ne.mpr c17
      have c17b1:(a0_0 != 3)=true:=bne_iff_ne.mpr c17
      obtain rfl:=Option.some.inj H
      have hcz23_0:wc.cell? ⟨gb345,0,none⟩=some (.int .i64 a0_0):=(blk_cell BK345.out 0).trans rfl
      have hcz23_1:wc.cell? ⟨gb345,1,none⟩=some (.int .i64 a0_1):=(blk_cell BK345.out 1).trans rfl
      have hcz23_2:wc.cell? ⟨gb345,2,none⟩=some (.int .i64 a0_2):=(blk_cell BK345.out 2).trans rfl
      have hfz23_0:=blk_frozen BK345.out 0
      have hfz23_1:=blk_frozen BK345.out 1
      have hfz23_2:=blk_frozen BK345.out 2
      go_wp2
      go_ret
      exact ⟨by first|rfl|(simp [errW_none,errW_some] <;> rfl)|(simp [*,errW_none,errW_some] <;> rfl),by repeat (first|(with_reducible first|exact HB.out|apply zlA|apply zlN|apply zlD|refine zlS ?_ GE345.out)|exact HB.out)⟩
end Go.Proofs.Ytkhbmgclklmimaa.Print
end
section
namespace Go.Proofs.Ytkhbmgclklmimaa.Print
open Go.RowKit Go.Proofs.YtkhbmgclklmimaaW.PrintWords Go.Proofs.YtkhbmgclklmimaaW.PrintLast Go.Proofs.YtkhbmgclklmimaaW.PrintMore
attribute [local go_sem] max2_int min2_int max_two min_two max_three min_three max_four min_four   -- for this text's walks alone
attribute [local go_sem ↓] Go.Proofs.Ytkhbmgclklmimaa.Sem.isSome_setCell
attribute [local go_sem] Go.Instr.field Go.asAgg
set_option linter.unusedVariables false
set_option linter.unusedSimpArgs false
attribute [local go_sem high] eqA55
def slipwayref06_SameRecords.l0:Nat → List (S55) → List (S55) → Int → Option (Bool)
 | 0,_,_,_=>none
 | k + 1,x0,x1,x5=>if x5 < (x0.length:Int) then (if 0≤x5 then (if x5 < (x1.length:Int) then (if (!(((rd_T55 x0 x5).f0) == ((rd_T55 x1 x5).f0)) || (!(((rd_T55 x0 x5).f1) == ((rd_T55 x1 x5).f1)) || (!(((rd_T55 x0 x5).f2) == ((rd_T55 x1 x5).f2)))))=true then (some false) else (slipwayref06_SameRecords.l0 k x0 x1 (wrap64 (x5 + 1)))) else (none)) else (none)) else (some true)
def slipwayref06_SameRecords.f (k:Nat) (l0:List (S55)) (l1:List (S55)):Option (Bool):=if (l0.length:Int)=(l1.length:Int) then (slipwayref06_SameRecords.l0 k l0 l1 0) else (some false)
set_option maxHeartbeats 8000000 in
set_option maxRecDepth 100000 in
theorem slipwayref06_SameRecords.calls (k:Nat) (A0:Option Addr) (c0:Nat) (l0:List (S55)) (A1:Option Addr) (c1:Nat) (l1:List (S55)) (r:Bool) (w:World) (hr0:Kd.C k55 w A0 l0.length l0) (hc0:l0.length≤c0) (hr1:Kd.C k55 w A1 l1.length l1) (hc1:l1.length≤c1) (h:slipwayref06_SameRecords.f k l0 l1=some r) :
  Calls Try.prog 26 #[.slice A0 l0.length c0,.slice A1 l1.length c1] w fun e w'=>e=.returned (.bool r)∧Drawn0 w w':=by
 have hu55:=Try.underlying55
 have HR0:=zm hr0
 have HC0:=zm hc0
 clear hr0 hc0
 have HR1:=zm hr1
 have HC1:=zm hc1
 clear hr1 hc1
 have H:(if (l0.length:Int)=(l1.length:Int) then (slipwayref06_SameRecords.l0 k l0 l1 0) else (some false))=some r:=h
 clear h
 by_cases c3:(l0.length:Int)=(l1.length:Int)
 ·rw [if_pos c3] at H
  have c3b0:((l0.length:Int) == (l1.length:Int))=true:=beq_iff_eq.mpr c3
  have c3b1:((l0.length:Int) != (l1.length:Int))=false:=bne_eq_false_iff_eq.mpr c3
  have c3b2:(l0.length == l1.length)=true:=by first|simpa using c3|(simp at c3 ⊢;omega)
  clear c3
  have H':=zm H
  clear H
  go_enter Try.func26,Try.ntmps26
  go_wp2
  repeat (go_quiet (fail);try go_wp2)
  go_loopg [5] k (fun kq v5 w'=>∃ (x5_1:Int),v5=.int .i64 x5_1∧Aside0 (slipwayref06_SameRecords.l0 kq l0 l1 x5_1=some r)∧Aside0 (kq≤k)∧Drawn0 w w')
  case atStart=>exact ⟨(0),(by first|rfl|(simp;done)|(simp [*];done)),H',⟨Nat.le_refl _⟩,by repeat (first|exact Drawn0.refl _|apply Drawn0.step)⟩
  case round =>
   clear H'
   try clear c1
   try clear c2
   try clear p2
   try clear c3
   try clear c3b0
   try clear c3b1
   try clear c3b2
   obtain ⟨x5_1,rfl,HA,HK1,⟨m1,rfl⟩⟩:=hrel
   cases gk with
   | zero=>exact absurd HA.out (by simp [slipwayref06_SameRecords.l0])
   | succ k1 =>
    have H:=HA.out
    clear HA
    simp only [slipwayref06_SameRecords.l0] at H
    by_cases c4:x5_1 < (l0.length:Int)
    ·rw [if_pos c4] at H
     have c4b0:decide (x5_1 < (l0.length:Int))=true:=decide_eq_true c4
     clear c4
     by_cases c5:0≤x5_1
     ·rw [if_pos c5] at H
      have c5b0:decide (0≤x5_1)=true:=decide_eq_true c5
      clear c5
      by_cases c6:x5_1 < (l1.length:Int)
      ·rw [if_pos c6] at H
       have c6b0:decide (x5_1 < (l1.length:Int))=true:=decide_eq_true c6
       clear c6
       by_cases c7:(!(((rd_T55 l0 x5_1).f0) == ((rd_T55 l1 x5_1).f0)) || (!(((rd_T55 l0 x5_1).f1) == ((rd_T55 l1 x5_1).f1)) || (!(((rd_T55 l0 x5_1).f2) == ((rd_T55 l1 x5_1).f2)))))=true
       ·rw [if_pos c7] at H
        have c7b0:(!(((rd_T55 l0 x5_1).f0) == ((rd_T55 l1 x5_1).f0)) || (!(((rd_T55 l0 x5_1).f1) == ((rd_T55 l1 x5_1).f1)) || (!(((rd_T55 l0 x5_1).f2) == ((rd_T55 l1 x5_1).f2)))))=true:=c7
        clear c7
        obtain rfl:=Option.some.inj H
        have p423:0≤(x5_1:Int):=of_decide_eq_true (by first|(with_reducible assumption)|assumption)
        have q423:x5_1 < (l0.length:Int):=of_decide_eq_true (by first|(with_reducible assumption)|assumption)
        obtain ⟨ad423,e423,hx423_0,hx423_1,hx423_2⟩:=at_T55 HR0.out x5_1 p423 q423
        cases e423
        replace p423:=eq_true p423
        replace q423:=eq_true q423
        have p424:0≤(x5_1:Int):=of_decide_eq_true (by first|(with_reducible assumption)|assumption)
        have q424:x5_1 < (l1.length:Int):=of_decide_eq_true (by first|(with_reducible assumption)|assumption)
        obtain ⟨ad424,e424,hx424_0,hx424_1,hx424_2⟩:=at_T55 HR1.out x5_1 p424 q424
        cases e424
        replace p424:=eq_true p424
        replace q424:=eq_true q424
        go_wp2
        repeat (go_quiet (fail);try go_wp2)
        go_ret
        exact ⟨by first|rfl|(simp;done)|(simp [*];done),by repeat (first|exact Drawn0.refl _|apply Drawn0.step)⟩
       ·rw [if_neg c7] at H
        have c7b0:(!(((rd_T55 l0 x5_1).f0) == ((rd_T55 l1 x5_1).f0)) || (!(((rd_T55 l0 x5_1).f1) == ((rd_T55 l1 x5_1).f1)) || (!(((rd_T55 l0 x5_1).f2) == ((rd_T55 l1 x5_1).f2)))))=false:=by simpa using c7
        clear c7
        have H':=zm H
        clear H
        have p423:0≤(x5_1:Int):=of_decide_eq_true (by first|(with_reducible assumption)|assumption)
        have q423:x5_1 < (l0.length:Int):=of_decide_eq_true (by first|(with_reducible assumption)|assumption)
        obtain ⟨ad423,e423,hx423_0,hx423_1,hx423_2⟩:=at_T55 HR0.out x5_1 p423 q423
        cases e423
        replace p423:=eq_true p423
        replace q423:=eq_true q423
        have p424:0≤(x5_1:Int):=of_decide_eq_true (by first|(with_reducible assumption)|assumption)
        have q424:x5_1 < (l1.length:Int):=of_decide_eq_true (by first|(with_reducible assumption)|assumption)
        obtain ⟨ad424,e424,hx424_0,hx424_1,hx424_2⟩:=at_T55 HR1.out x5_1 p424 q424
        cases e424
        replace p424:=eq_true p424
        replace q424:=eq_true q424
        go_wp2
        repeat (go_quiet (fail);try go_wp2)
        go_roundg k1
        case measure=>have:=HK1.out;omega
        case rel=>exact ⟨(wrap64 (x5_1 + 1)),(by first|rfl|(simp;done)|(simp [*];done)),H',⟨by have:=HK1.out;omega⟩,by repeat (first|exact Drawn0.refl _|apply Drawn0.step)⟩
      ·rw [if_neg c6] at H
       exact absurd H (by simp)
     ·rw [if_neg c5] at H
      exact absurd H (by simp)
    ·rw [if_neg c4] at H
     have c4b0:decide (x5_1 < (l0.length:Int))=false:=decide_eq_false c4
     clear c4
     obtain rfl:=Option.some.inj H
     go_wp2
     repeat (go_quiet (fail);try go_wp2)
     go_ret
     exact ⟨by first|rfl|(simp;done)|(simp [*];done),by repeat (first|exact Drawn0.refl _|apply Drawn0.step)⟩
 ·rw [if_neg c3] at H
  have c3b0:((l0.length:Int) == (l1.length:Int))=false:=beq_eq_false_iff_ne.mpr c3
  have c3b1:((l0.length:Int) != (l1.length:Int))=true:=bne_iff_ne.mpr c3
  have c3b2:(l0.length == l1.length)=false:=by first|simpa using c3|(simp at c3 ⊢;omega)
  obtain rfl:=Option.some.inj H
  go_enter Try.func26,Try.ntmps26
  go_wp2
  repeat (go_quiet (fail);try go_wp2)
  go_ret
  exact ⟨by first|rfl|(simp;done)|(simp [*];done),by repeat (first|exact Drawn0.refl _|apply Drawn0.step)⟩
def mapjnl_gen.f (a0:Int):Option (Bool):=if a0 ≥ 0 then (some (decide (a0≤1152921504606846976))) else (some false)
set_option maxHeartbeats 8000000 in
set_option maxRecDepth 100000 in
theorem mapjnl_gen.calls (a0:Int) (r:Bool) (w:World) (h:mapjnl_gen.f a0=some r) :
  Calls Try.prog 65 #[.int .i64 a0] w fun e w'=>e=.returned (.bool r)∧Drawn0 w w':=by
 have H:(if a0 ≥ 0 then (some (decide (a0≤1152921504606846976))) else (some false))=some r:=h
 clear h
 by_cases c2:a0 ≥ 0
 ·rw [if_pos c2] at H
  have c2b0:decide (0≤a0)=true:=decide_eq_true c2
  clear c2
  obtain rfl:=Option.some.inj H
  go_enter Try.func65,Try.ntmps65
  go_wp2
  go_ret
  exact ⟨by first|rfl|(simp;done)|(simp [*];done),by repeat (first|exact Drawn0.refl _|apply Drawn0.step)⟩
 ·rw [if_neg c2] at H
  have c2b0:decide (0≤a0)=false:=decide_eq_false c2
  clear c2
  obtain rfl:=Option.some.inj H
  go_enter Try.func65,Try.ntmps65
  go_wp2
  go_ret
  exact ⟨by first|rfl|(simp;done)|(simp [*];done),by repeat (first|exact Drawn0.refl _|apply Drawn0.step)⟩
end Go.Proofs.Ytkhbmgclklmimaa.Print
end
