/- Texts of the proof of MapChanges, part 17. -/
import Derived.Test.YtkhbmgclklmimaaMapChangesM14
import Derived.Test.YtkhbmgclklmimaaMapChangesM15
import Derived.Test.YtkhbmgclklmimaaMapChangesM16
section
namespace Go.Proofs.Ytkhbmgclklmimaa.Print
open Go.RowKit Go.Proofs.YtkhbmgclklmimaaW.PrintWords Go.Proofs.YtkhbmgclklmimaaW.PrintLast Go.Proofs.YtkhbmgclklmimaaW.PrintMore
attribute [local go_sem] max2_int min2_int max_two min_two max_three min_three max_four min_four   -- for this text's walks alone
attribute [local go_sem ↓] Go.Proofs.Ytkhbmgclklmimaa.Sem.isSome_setCell
attribute [local go_sem] Go.Instr.field Go.asAgg
set_option linter.unusedVariables false
set_option linter.unusedSimpArgs false
def slipwayref06_Apply.l0:Nat → List (S55) → Int → List Bool → List Int → Int → Option (List Bool × List Int × Int × Int)
 | 0,_,_,_,_,_=>none
 | k + 1,x1,x7,x353000,x353001,x353002=>if x7 < (x1.length:Int) then (if 0≤x7 then ((slipwayref06_may.f k ((rd_T55 x1 x7).f0) ((rd_T55 x1 x7).f1) ((rd_T55 x1 x7).f2)).bind fun t363=>(if t363=true then (if ((rd_T55 x1 x7).f1) ≥ (x353000.length:Int) then (some (([]:List Bool),([]:List Int),0,61)) else ((slipwayref06_one.f x353000 x353001 x353002 ((rd_T55 x1 x7).f0) ((rd_T55 x1 x7).f1) ((rd_T55 x1 x7).f2)).bind fun bt366=>(slipwayref06_Apply.l0 k x1 (wrap64 (x7 + 1)) bt366.1 bt366.2.1 bt366.2.2))) else (some (([]:List Bool),([]:List Int),0,61)))) else (none)) else (some (x353000,x353001,x353002,0))
def slipwayref06_Apply.f (k:Nat) (l0_0:List Bool) (l0_1:List Int) (a0_2:Int) (l1:List (S55)):Option (List Bool × List Int × Int × Int):=(slipwayref06_Check.f k l0_0 l0_1 a0_2).bind fun t354=>(if t354=0 then ((slipwayref06_Clone.f l0_0 l0_1 a0_2).bind fun bt355=>(slipwayref06_Apply.l0 k l1 0 bt355.1 bt355.2.1 bt355.2.2)) else (some (([]:List Bool),([]:List Int),0,t354)))
def slipwayref06_Apply.T8:Bool × List (List Nat × List Nat):=(true,[([],[]),([],[]),([0,1],[0,1]),([2],[2]),([3],[3]),([4],[4]),([5,4],[5]),([6],[6]),([6],[6]),([7,8,6],[6,7,8]),([9,6],[6,9]),([10,6],[6,10]),([6],[6]),([12,6],[6,12]),([13,6],[6,13]),([11,14,6],[6,11,14]),([6,15],[6,15])])
def slipwayref06_Apply.B8:List Nat:=[0,0,3,7,15,31,63,127,127,511,1023,2047,127,4223,12415,32767,65535]
theorem slipwayref06_Apply.tab8:rtab .any (opsOf Try.f23 8)=slipwayref06_Apply.T8:=by kernel_rfl
theorem slipwayref06_Apply.bits8:waitsOk slipwayref06_Apply.T8.2 slipwayref06_Apply.B8=true:=by kernel_rfl
set_option maxHeartbeats 8000000 in
set_option maxRecDepth 100000 in
theorem slipwayref06_Apply.calls (k:Nat) (A0_0:Option Addr) (c0_0:Nat) (l0_0:List Bool) (A0_1:Option Addr) (c0_1:Nat) (l0_1:List Int) (a0_2:Int) (A1:Option Addr) (c1:Nat) (l1:List (S55)) (r1:List Bool) (r2:List Int) (r3:Int) (r4:Int) (w:World) (hr0_0:Kd.C Kd.bool w A0_0 l0_0.length l0_0) (hc0_0:l0_0.length≤c0_0) (hr0_1:Kd.C (Kd.int .i64) w A0_1 l0_1.length l0_1) (hc0_1:l0_1.length≤c0_1) (hr1:Kd.C k55 w A1 l1.length l1) (hc1:l1.length≤c1) (h:slipwayref06_Apply.f k l0_0 l0_1 a0_2 l1=some (r1,r2,r3,r4)) :
  Calls Try.prog 23 #[.agg #[.slice A0_0 l0_0.length c0_0,.slice A0_1 l0_1.length c0_1,.int .i64 a0_2],.slice A1 l1.length c1] w fun e w'=>∃ v0_ v1_:Value,e=.returned (.tuple #[.agg #[v0_,v1_,.int .i64 r3],.int .i64 r4])∧Kd.R Kd.bool 4 w' w.heap.size (fun _=>True) v0_ r1∧Kd.R (Kd.int .i64) 2 w' w.heap.size (fun _=>True) v1_ r2∧Below w.heap.size w w':=by
 have hu25:=Try.underlying25
 have hu55:=Try.underlying55
 have HR0_0:=Aside0.mk hr0_0
 have HC0_0:=Aside0.mk hc0_0
 clear hr0_0 hc0_0
 have HR0_1:=Aside0.mk hr0_1
 have HC0_1:=Aside0.mk hc0_1
 clear hr0_1 hc0_1
 have HR1:=Aside0.mk hr1
 have HC1:=Aside0.mk hc1
 clear hr1 hc1
 have HB:=Aside0.mk (Below.refl w.heap.size w)
 have H:((slipwayref06_Check.f k l0_0 l0_1 a0_2).bind fun t354=>(if t354=0 then ((slipwayref06_Clone.f l0_0 l0_1 a0_2).bind fun bt355=>(slipwayref06_Apply.l0 k l1 0 bt355.1 bt355.2.1 bt355.2.2)) else (some (([]:List Bool),([]:List Int),0,t354))))=some (r1,r2,r3,r4):=h
 clear h
 replace H:=Option.bind_eq_some_iff.mp H
 obtain ⟨t354,A30,H⟩:=H
 replace H:(if t354=0 then ((slipwayref06_Clone.f l0_0 l0_1 a0_2).bind fun bt355=>(slipwayref06_Apply.l0 k l1 0 bt355.1 bt355.2.1 bt355.2.2)) else (some (([]:List Bool),([]:List Int),0,t354)))=some (r1,r2,r3,r4):=H
 have A3:=Aside0.mk A30
 clear A30
 by_cases c4:t354=0
 ·rw [if_pos c4] at H
  have c4b0:(t354 == 0)=true:=beq_iff_eq.mpr c4
  have c4b1:(t354 != 0)=false:=bne_eq_false_iff_eq.mpr c4
  clear c4
  replace H:=Option.bind_eq_some_iff.mp H
  obtain ⟨⟨t355,t358,t361⟩,A50,H⟩:=H
  replace H:(slipwayref06_Apply.l0 k l1 0 t355 t358 t361)=some (r1,r2,r3,r4):=H
  have A5:=Aside0.mk A50
  clear A50
  have H':=Aside0.mk H
  clear H
  go_enter Try.func23,Try.ntmps23
  go_wp2_with (first|((with_reducible refine gate_dst (N:=2) rfl ?_);(try (refine gate_guard (by rfl) ?_;dsimp only));refine box_event ?hg (N:=2) ?hd (cs:=#[.slice A0_0 l0_0.length c0_0,.slice A0_1 l0_1.length c0_1,.int .i64 a0_2]) (t:=25) ?hr ?_;(case hd=>rfl);(case hg=>rfl);(case hr=>first|(go_simp;done)|(go_simp;rfl));intro gb352 hg w6 hbox hb;have n0_:=Aside0.mk (below_step (by repeat (first|(with_reducible first|exact HB.out|apply below_alloc|apply pw_below_drewN|apply below_drew1)|exact HB.out)) hb);have n1_:=Aside0.mk (hbox);have n2_:=Aside0.mk ((by rw [hg];exact (below_size (by repeat (first|(with_reducible first|exact HB.out|apply below_alloc|apply pw_below_drewN|apply below_drew1)|exact HB.out))):w.heap.size≤gb352));have n3_:=Aside0.mk ((by rw [hg];exact (below_size (by repeat (first|(with_reducible first|exact HB.out|apply below_alloc|apply pw_below_drewN|apply below_drew1)|exact HB.out))):w.heap.size≤gb352));clear HB;have HB:=n0_;have BK352:=n1_;have GW352:=n2_;have GE352:=n3_;clear n0_ n1_ n2_ n3_;clear hb hbox hg)|((with_reducible refine gate_dst (N:=4) rfl ?_);(try (refine gate_guard (by rfl) ?_;dsimp only));refine box_event ?hg (N:=4) ?hd (cs:=#[.slice none 0 0,.slice none 0 0,.int .i64 0]) (t:=25) ?hr ?_;(case hd=>rfl);(case hg=>rfl);(case hr=>first|(go_simp;done)|(go_simp;rfl));intro gb353 hg w7 hbox hb;have n0_:=Aside0.mk (blk_below (g:=gb352) (o:=.cells #[.slice A0_0 l0_0.length c0_0,.slice A0_1 l0_1.length c0_1,.int .i64 a0_2] 25 (0,0)) (by (with_reducible repeat (first|refine blk_drewN ?_ _|refine blk_drew ?_|refine blk_alloc ?_ _));exact BK352.out) hb);have n1_:=Aside0.mk (below_step (by repeat (first|(with_reducible first|exact HB.out|apply below_alloc|apply pw_below_drewN|apply below_drew1|refine below_set ?_ GE352.out)|exact HB.out)) hb);have n2_:=Aside0.mk (hbox);have n3_:=Aside0.mk ((by rw [hg];exact (below_size (by repeat (first|(with_reducible first|exact HB.out|apply below_alloc|apply pw_below_drewN|apply below_drew1|refine below_set ?_ GE352.out)|exact HB.out))):w.heap.size≤gb353));have n4_:=Aside0.mk ((by rw [hg];exact (below_size (by repeat (first|(with_reducible first|exact HB.out|apply below_alloc|apply pw_below_drewN|apply below_drew1|refine below_set ?_ GE352.out)|exact HB.out))):w.heap.size≤gb353));have n5_:=Aside0.mk ((by rw [hg];exact Nat.ne_of_lt (blk_lt (g:=gb352) (o:=.cells #[.slice A0_0 l0_0.length c0_0,.slice A0_1 l0_1.length c0_1,.int .i64 a0_2] 25 (0,0)) (by (with_reducible repeat (first|refine blk_drewN ?_ _|refine blk_drew ?_|refine blk_alloc ?_ _));exact BK352.out)):gb352≠gb353));have n6_:=Aside0.mk ((by rw [hg];exact Nat.ne_of_gt (blk_lt (g:=gb352) (o:=.cells #[.slice A0_0 l0_0.length c0_0,.slice A0_1 l0_1.length c0_1,.int .i64 a0_2] 25 (0,0)) (by (with_reducible repeat (first|refine blk_drewN ?_ _|refine blk_drew ?_|refine blk_alloc ?_ _));exact BK352.out)):gb353≠gb352));clear BK352 HB;have BK352:=n0_;have HB:=n1_;have BK353:=n2_;have GW353:=n3_;have GE353:=n4_;have NB352_353:=n5_;have NB353_352:=n6_;clear n0_ n1_ n2_ n3_ n4_ n5_ n6_;clear hb hbox hg;have hnb8:=NB352_353.out;have hnc8:=NB353_352.out;have hcz9_0:w7.cell? ⟨gb352,0,none⟩=some (.slice A0_0 l0_0.length c0_0):=(blk_cell BK352.out 0).trans rfl;have hcz9_1:w7.cell? ⟨gb352,1,none⟩=some (.slice A0_1 l0_1.length c0_1):=(blk_cell BK352.out 1).trans rfl;have hcz9_2:w7.cell? ⟨gb352,2,none⟩=some (.int .i64 a0_2):=(blk_cell BK352.out 2).trans rfl;have hfz9_0:=blk_frozen BK352.out 0;have hfz9_1:=blk_frozen BK352.out 1;have hfz9_2:=blk_frozen BK352.out 2)|((with_reducible refine gate_callee (f:=18) rfl ?_);refine goesL_ (some 9) rfl rfl Try.func18 (by kernel_rfl) rfl #[.agg #[.slice A0_0 l0_0.length c0_0,.slice A0_1 l0_1.length c0_1,.int .i64 a0_2]] rfl (by (try simp only [List.map_toArray,List.map_cons,List.map_nil]);first|done|rfl|(simp only [List.length_drop,List.length_take];rfl)) ?_;(with_reducible refine (slipwayref06_Check.calls k _ _ l0_0 _ _ l0_1 a0_2 t354 _ ?side1 ?side2 ?side3 ?side4 A3.out).mono ?_);(case side1=>repeat (first|exact (Kd.C_below HR0_0.out HB.out)|(with_reducible refine Kd.C_alloc ?_ _)|(with_reducible refine Kd.C_drewN ?_ _)|(with_reducible refine Kd.C_drew ?_)));(case side2=>exact HC0_0.out);(case side3=>repeat (first|exact (Kd.C_below HR0_1.out HB.out)|(with_reducible refine Kd.C_alloc ?_ _)|(with_reducible refine Kd.C_drewN ?_ _)|(with_reducible refine Kd.C_drew ?_)));(case side4=>exact HC0_1.out);rintro e w10 ⟨rfl,hb⟩;refine ⟨_,rfl,?_⟩;have n0_:=Aside0.mk (blk_below (g:=gb352) (o:=.cells #[.slice A0_0 l0_0.length c0_0,.slice A0_1 l0_1.length c0_1,.int .i64 a0_2] 25 (0,0)) (by (with_reducible repeat (first|refine blk_drewN ?_ _|refine blk_drew ?_|refine blk_alloc ?_ _));exact BK352.out) hb);have n1_:=Aside0.mk (blk_below (g:=gb353) (o:=.cells #[.slice none 0 0,.slice none 0 0,.int .i64 0] 25 (0,0)) (by (with_reducible repeat (first|refine blk_drewN ?_ _|refine blk_drew ?_|refine blk_alloc ?_ _));exact BK353.out) hb);have n2_:=Aside0.mk (below_step (by repeat (first|(with_reducible first|exact HB.out|apply below_alloc|apply pw_below_drewN|apply below_drew1|refine below_set ?_ GE352.out|refine below_set ?_ GE353.out)|exact HB.out)) hb);clear BK352 BK353 HB;have BK352:=n0_;have BK353:=n1_;have HB:=n2_;clear n0_ n1_ n2_;(try clear hb);(try clear hb2);(try clear hk);(try clear hi);have hcz11_0:w10.cell? ⟨gb352,0,none⟩=some (.slice A0_0 l0_0.length c0_0):=(blk_cell BK352.out 0).trans rfl;have hcz11_1:w10.cell? ⟨gb352,1,none⟩=some (.slice A0_1 l0_1.length c0_1):=(blk_cell BK352.out 1).trans rfl;have hcz11_2:w10.cell? ⟨gb352,2,none⟩=some (.int .i64 a0_2):=(blk_cell BK352.out 2).trans rfl;have hfz11_0:=blk_frozen BK352.out 0;have hfz11_1:=blk_frozen BK352.out 1;have hfz11_2:=blk_frozen BK352.out 2)|((with_reducible refine gate_callee (f:=52) rfl ?_);refine goesL_ (some 15) rfl rfl Try.func52 (by kernel_rfl) rfl #[.agg #[.slice A0_0 l0_0.length c0_0,.slice A0_1 l0_1.length c0_1,.int .i64 a0_2]] rfl (by (try simp only [List.map_toArray,List.map_cons,List.map_nil]);first|done|rfl|(simp only [List.length_drop,List.length_take];rfl)) ?_;(with_reducible refine (slipwayref06_Clone.calls _ _ l0_0 _ _ l0_1 a0_2 t355 t358 t361 _ ?side1 ?side2 ?side3 ?side4 A5.out).mono ?_);(case side1=>repeat (first|exact (Kd.C_below HR0_0.out HB.out)|(with_reducible refine Kd.C_alloc ?_ _)|(with_reducible refine Kd.C_drewN ?_ _)|(with_reducible refine Kd.C_drew ?_)));(case side2=>exact HC0_0.out);(case side3=>repeat (first|exact (Kd.C_below HR0_1.out HB.out)|(with_reducible refine Kd.C_alloc ?_ _)|(with_reducible refine Kd.C_drewN ?_ _)|(with_reducible refine Kd.C_drew ?_)));(case side4=>exact HC0_1.out);rintro e w12 ⟨v356,v359,rfl,ho0,ho1,hb⟩;refine ⟨_,rfl,?_⟩;have n0_:=Aside0.mk (Kd.R_lower ho0 (below_size (by repeat (first|(with_reducible first|exact HB.out|apply below_alloc|apply pw_below_drewN|apply below_drew1|refine below_set ?_ GE352.out|refine below_set ?_ GE353.out)|exact HB.out))));have n1_:=Aside0.mk (Kd.R_lower ho1 (below_size (by repeat (first|(with_reducible first|exact HB.out|apply below_alloc|apply pw_below_drewN|apply below_drew1|refine below_set ?_ GE352.out|refine below_set ?_ GE353.out)|exact HB.out))));have n2_:=Aside0.mk (blk_below (g:=gb352) (o:=.cells #[.slice A0_0 l0_0.length c0_0,.slice A0_1 l0_1.length c0_1,.int .i64 a0_2] 25 (0,0)) (by (with_reducible repeat (first|refine blk_drewN ?_ _|refine blk_drew ?_|refine blk_alloc ?_ _));exact BK352.out) hb);have n3_:=Aside0.mk (blk_below (g:=gb353) (o:=.cells #[.slice none 0 0,.slice none 0 0,.int .i64 0] 25 (0,0)) (by (with_reducible repeat (first|refine blk_drewN ?_ _|refine blk_drew ?_|refine blk_alloc ?_ _));exact BK353.out) hb);have n4_:=Aside0.mk (below_step (by repeat (first|(with_reducible first|exact HB.out|apply below_alloc|apply pw_below_drewN|apply below_drew1|refine below_set ?_ GE352.out|refine below_set ?_ GE353.out)|exact HB.out)) hb);clear BK352 BK353 HB;have HO357:=n0_;have HO360:=n1_;have BK352:=n2_;have BK353:=n3_;have HB:=n4_;clear n0_ n1_ n2_ n3_ n4_;(try clear hb);(try clear hb2);(try clear hk);(try clear hi);(try clear ho0);(try clear ho1);obtain ⟨Ao13,co13,eo13⟩:=Kd.R_slice HO357.out;subst eo13;have hcz14_0:w12.cell? ⟨gb352,0,none⟩=some (.slice A0_0 l0_0.length c0_0):=(blk_cell BK352.out 0).trans rfl;have hcz14_1:w12.cell? ⟨gb352,1,none⟩=some (.slice A0_1 l0_1.length c0_1):=(blk_cell BK352.out 1).trans rfl;have hcz14_2:w12.cell? ⟨gb352,2,none⟩=some (.int .i64 a0_2):=(blk_cell BK352.out 2).trans rfl;have hfz14_0:=blk_frozen BK352.out 0;have hfz14_1:=blk_frozen BK352.out 1;have hfz14_2:=blk_frozen BK352.out 2;obtain ⟨Ao15,co15,eo15⟩:=Kd.R_slice HO360.out;subst eo15))
  go_loopg [7] k (fun kq v7 w'=>∃ (x7_1:Int) (x353000_1:List Bool) (x353001_1:List Int) (x353002_1:Int) (x354002_1:Int) (u353000:Value) (u353001:Value),v7=.int .i64 x7_1∧Aside0 (slipwayref06_Apply.l0 kq l1 x7_1 x353000_1 x353001_1 x353002_1=some (r1,r2,r3,r4))∧Aside0 (kq≤k)∧Aside0 (Kd.R Kd.bool 4 w' w.heap.size (fun _=>True) u353000 x353000_1)∧Aside0 (Kd.R (Kd.int .i64) 2 w' w.heap.size (fun _=>True) u353001 x353001_1)∧Aside0 (w'.heap[gb352]?=some (.cells #[u353000,u353001,.int .i64 x353002_1] 25 (0,0)))∧Aside0 (w'.heap[gb353]?=some (.cells #[(.slice none 0 0),(.slice none 0 0),.int .i64 x354002_1] 25 (0,0)))∧Aside0 (Below w.heap.size w w'))
  case atStart=>exact ⟨(0),(t355),(t358),(t361),(0),(.slice Ao13 t355.length co13),(.slice Ao15 t358.length co15),(by first|rfl|(simp;done)|(simp [*];done)),H',⟨Nat.le_refl _⟩,⟨by (with_reducible repeat (first|apply Kd.R_alloc|apply Kd.R_drewN|apply Kd.R_drew));exact Kd.R_mono (Kd.R_far (p:=⟨gb352,2,none⟩) (Kd.R_far (p:=⟨gb352,1,none⟩) (Kd.R_far (p:=⟨gb352,0,none⟩) (Kd.R_types HO357.out BK352.out (by decide)) (fun _ hk=>hk.2) (.slice Ao13 t355.length co13)) (fun _ hk=>hk.2) (.slice Ao15 t358.length co15)) (fun _ hk=>hk.2) (.int .i64 t361)) (fun _ hk=>trivial)⟩,⟨by (with_reducible repeat (first|apply Kd.R_alloc|apply Kd.R_drewN|apply Kd.R_drew));exact Kd.R_mono (Kd.R_far (p:=⟨gb352,2,none⟩) (Kd.R_far (p:=⟨gb352,1,none⟩) (Kd.R_far (p:=⟨gb352,0,none⟩) (Kd.R_types HO360.out BK352.out (by decide)) (fun _ hk=>hk.2) (.slice Ao13 t355.length co13)) (fun _ hk=>hk.2) (.slice Ao15 t358.length co15)) (fun _ hk=>hk.2) (.int .i64 t361)) (fun _ hk=>trivial)⟩,⟨by (with_reducible repeat (first|refine blk_drewN ?_ _|refine blk_drew ?_|refine blk_alloc ?_ _));refine blk_put (cs:=#[.slice Ao13 t355.length co13,.slice Ao15 t358.length co15,.int .i64 a0_2]) ?_ 2 _ rfl;(with_reducible repeat (first|refine blk_drewN ?_ _|refine blk_drew ?_|refine blk_alloc ?_ _));refine blk_put (cs:=#[.slice Ao13 t355.length co13,.slice A0_1 l0_1.length c0_1,.int .i64 a0_2]) ?_ 1 _ rfl;(with_reducible repeat (first|refine blk_drewN ?_ _|refine blk_drew ?_|refine blk_alloc ?_ _));refine blk_put (cs:=#[.slice A0_0 l0_0.length c0_0,.slice A0_1 l0_1.length c0_1,.int .i64 a0_2]) ?_ 0 _ rfl;(with_reducible repeat (first|refine blk_drewN ?_ _|refine blk_drew ?_|refine blk_alloc ?_ _));exact BK352.out⟩,⟨by (with_reducible repeat (first|refine blk_drewN ?_ _|refine blk_drew ?_|refine blk_alloc ?_ _));refine blk_far ?_ NB353_352.out _;(with_reducible repeat (first|refine blk_drewN ?_ _|refine blk_drew ?_|refine blk_alloc ?_ _));refine blk_far ?_ NB353_352.out _;(with_reducible repeat (first|refine blk_drewN ?_ _|refine blk_drew ?_|refine blk_alloc ?_ _));refine blk_far ?_ NB353_352.out _;(with_reducible repeat (first|refine blk_drewN ?_ _|refine blk_drew ?_|refine blk_alloc ?_ _));exact BK353.out⟩,⟨by repeat (first|(with_reducible first|exact HB.out|apply below_alloc|apply pw_below_drewN|apply below_drew1|refine below_set ?_ GE352.out|refine below_set ?_ GE353.out)|exact HB.out)⟩⟩
  case round =>
   clear H'
   try clear c1
   try clear c2
   try clear p2
   try clear c4
   try clear c4b0
   try clear c4b1
   try clear c5
   try clear c8
   try clear hcz11_0
   try clear hcz11_1
   try clear hcz11_2
   try clear hcz14_0
   try clear hcz14_1
   try clear hcz14_2
   try clear hcz9_0
   try clear hcz9_1
   try clear hcz9_2
   try clear hfz11_0
   try clear hfz11_1
   try clear hfz11_2
   try clear hfz14_0
   try clear hfz14_1
   try clear hfz14_2
   try clear hfz9_0
   try clear hfz9_1
   try clear hfz9_2
   obtain ⟨x7_1,x353000_1,x353001_1,x353002_1,x354002_1,u353000,u353001,rfl,HA,HK1,HO_353000,HO_353001,BK352,BK353,HB⟩:=hrel
   cases gk with
   | zero=>exact absurd HA.out (by simp [slipwayref06_Apply.l0])
   | succ k1 =>
    have H:=HA.out
    clear HA
    simp only [slipwayref06_Apply.l0] at H
    by_cases c16:x7_1 < (l1.length:Int)
    ·rw [if_pos c16] at H
     have c16b0:decide (x7_1 < (l1.length:Int))=true:=decide_eq_true c16
     clear c16
     by_cases c17:0≤x7_1
     ·rw [if_pos c17] at H
      have c17b0:decide (0≤x7_1)=true:=decide_eq_true c17
      clear c17
      replace H:=Option.bind_eq_some_iff.mp H
      obtain ⟨t363,A180,H⟩:=H
      replace H:(if t363=true then (if ((rd_T55 l1 x7_1).f1) ≥ (x353000_1.length:Int) then (some (([]:List Bool),([]:List Int),0,61)) else ((slipwayref06_one.f x353000_1 x353001_1 x353002_1 ((rd_T55 l1 x7_1).f0) ((rd_T55 l1 x7_1).f1) ((rd_T55 l1 x7_1).f2)).bind fun bt366=>(slipwayref06_Apply.l0 k1 l1 (wrap64 (x7_1 + 1)) bt366.1 bt366.2.1 bt366.2.2))) else (some (([]:List Bool),([]:List Int),0,61)))=some (r1,r2,r3,r4):=H
      have A18:=Aside0.mk A180
      clear A180
      by_cases c19:t363=true
      ·subst c19
       have H1:(if ((rd_T55 l1 x7_1).f1) ≥ (x353000_1.length:Int) then (some (([]:List Bool),([]:List Int),0,61)) else ((slipwayref06_one.f x353000_1 x353001_1 x353002_1 ((rd_T55 l1 x7_1).f0) ((rd_T55 l1 x7_1).f1) ((rd_T55 l1 x7_1).f2)).bind fun bt366=>(slipwayref06_Apply.l0 k1 l1 (wrap64 (x7_1 + 1)) bt366.1 bt366.2.1 bt366.2.2)))=some (r1,r2,r3,r4):=by rw [if_pos rfl] at H;exact H
       clear H
       have H:=H1
       clear H1
       by_cases c20:((rd_T55 l1 x7_1).f1) ≥ (x353000_1.length:Int)
       ·rw [if_pos c20] at H
        have c20b0:decide ((x353000_1.length:Int)≤((rd_T55 l1 x7_1).f1))=true:=decide_eq_true c20
        clear c20
        simp only [Option.some.injEq,Prod.mk.injEq] at H
        obtain ⟨rfl,rfl,rfl,rfl⟩:=H
        try go_wp2
        have n0_:=Aside0.mk (Kd.R_drew HO_353000.out)
        have n1_:=Aside0.mk (Kd.R_drew HO_353001.out)
        have n2_:=Aside0.mk (blk_drew BK352.out)
        have n3_:=Aside0.mk (blk_drew BK353.out)
        have n4_:=Aside0.mk (below_drew1 HB.out)
        clear HO_353000 HO_353001 BK352 BK353 HB
        have HO_353000:=n0_
        have HO_353001:=n1_
        have BK352:=n2_
        have BK353:=n3_
        have HB:=n4_
        clear n0_ n1_ n2_ n3_ n4_
        have p362:0≤(x7_1:Int):=of_decide_eq_true (by first|(with_reducible assumption)|assumption)
        have q362:x7_1 < (l1.length:Int):=of_decide_eq_true (by first|(with_reducible assumption)|assumption)
        obtain ⟨ad362,e362,hx362_0,hx362_1,hx362_2⟩:=at_T55 HR1.out x7_1 p362 q362
        have hw362_2:=hx362_2
        have hw362_1:=hx362_1
        have hw362_0:=hx362_0
        cases e362
        replace hx362_0:=(HB.out.cell (World.block_lt_of_cell? w _ hx362_0)).trans hx362_0
        replace hx362_1:=(HB.out.cell (World.block_lt_of_cell? w _ hx362_1)).trans hx362_1
        replace hx362_2:=(HB.out.cell (World.block_lt_of_cell? w _ hx362_2)).trans hx362_2
        replace p362:=eq_true p362
        replace q362:=eq_true q362
        have p364:0≤(x7_1:Int):=of_decide_eq_true (by first|(with_reducible assumption)|assumption)
        have q364:x7_1 < (l1.length:Int):=of_decide_eq_true (by first|(with_reducible assumption)|assumption)
        obtain ⟨ad364,e364,hx364_0,hx364_1,hx364_2⟩:=at_T55 HR1.out x7_1 p364 q364
        have hw364_2:=hx364_2
        have hw364_1:=hx364_1
        have hw364_0:=hx364_0
        obtain rfl:ad362=ad364:=(by injection e364)
        replace hx364_0:=(HB.out.cell (World.block_lt_of_cell? w _ hx364_0)).trans hx364_0
        replace hx364_1:=(HB.out.cell (World.block_lt_of_cell? w _ hx364_1)).trans hx364_1
        replace hx364_2:=(HB.out.cell (World.block_lt_of_cell? w _ hx364_2)).trans hx364_2
        replace p364:=eq_true p364
        replace q364:=eq_true q364
        refine start_ (n:=17) (S:=fun w'=>w'.cell? ⟨gb352,0,none⟩=some (u353000)∧w'.cell? ⟨gb352,1,none⟩=some (u353001)∧w'.cell? ⟨gb352,2,none⟩=some (.int .i64 x353002_1)∧w'.cell? (ad362.add ((x7_1).toNat * 3))=some (.int .i64 ((rd_T55 l1 x7_1).f0))∧w'.cell? ⟨(ad362.add ((x7_1).toNat * 3)).block,(ad362.add ((x7_1).toNat * 3)).off + 1,none⟩=some (.int .i64 ((rd_T55 l1 x7_1).f1))∧w'.cell? ⟨(ad362.add ((x7_1).toNat * 3)).block,(ad362.add ((x7_1).toNat * 3)).off + 2,none⟩=some (.int .i64 ((rd_T55 l1 x7_1).f2))∧w'.cell? (ad362.add ((x7_1).toNat * 3))=some (.int .i64 ((rd_T55 l1 x7_1).f0))∧w'.cell? ⟨(ad362.add ((x7_1).toNat * 3)).block,(ad362.add ((x7_1).toNat * 3)).off + 1,none⟩=some (.int .i64 ((rd_T55 l1 x7_1).f1))∧w'.cell? ⟨(ad362.add ((x7_1).toNat * 3)).block,(ad362.add ((x7_1).toNat * 3)).off + 2,none⟩=some (.int .i64 ((rd_T55 l1 x7_1).f2))) (ds:=[]) #[false,false,false,false,false,false,false,false,false,false,false,false,false,false,false,false,false] (by kernel_rfl) rfl rfl ⟨(blk_cell BK352.out 0).trans rfl,(blk_cell BK352.out 1).trans rfl,(blk_cell BK352.out 2).trans rfl,((HB.out.cell (World.block_lt_of_cell? w _ hw362_0)).trans hw362_0),((HB.out.cell (World.block_lt_of_cell? w _ hw362_1)).trans hw362_1),((HB.out.cell (World.block_lt_of_cell? w _ hw362_2)).trans hw362_2),((HB.out.cell (World.block_lt_of_cell? w _ hw364_0)).trans hw364_0),((HB.out.cell (World.block_lt_of_cell? w _ hw364_1)).trans hw364_1),((HB.out.cell (World.block_lt_of_cell? w _ hw364_2)).trans hw364_2)⟩ (fun hHeld=>?_);refine with_tabW slipwayref06_Apply.tab8 slipwayref06_Apply.bits8 (fun HT_ HW_=>?_)
        generalize wr.drew=w21 at HO_353000 HO_353001 BK352 BK353 HB hx362_0 hx362_1 hx362_2 hx364_0 hx364_1 hx364_2 hHeld ⊢
        refine pure_ (i:=0) (N:=some 22) (v:=?_) (a':=?_) #[true,false,false,false,false,false,false,false,false,false,false,false,false,false,false,false,false] rfl rfl (any_of HT_.out (by kernel_rfl)) (fun _ _ _ h=>h) (Or.inl ⟨by rfl,?_⟩) ?_ ?_
        rotate_left
        ·intro w'
         go_simp
         with_reducible rfl
        rotate_left
        ·simp only [Act.put,List.setIfInBounds_toArray,List.set_cons_zero,List.set_cons_succ,i64_w,i32_w]
         rfl
        refine pure_ (i:=1) (N:=some 23) (v:=?_) (a':=?_) #[true,true,false,false,false,false,false,false,false,false,false,false,false,false,false,false,false] rfl rfl (any_of HT_.out (by kernel_rfl)) (fun _ _ _ h=>h) (Or.inl ⟨by rfl,?_⟩) ?_ ?_
        rotate_left
        ·intro w'
         go_simp
         with_reducible rfl
        rotate_left
        ·simp only [Act.put,List.setIfInBounds_toArray,List.set_cons_zero,List.set_cons_succ,i64_w,i32_w]
         rfl
        refine pure_ (i:=2) (N:=some 24) (v:=?_) (a':=?_) #[true,true,true,false,false,false,false,false,false,false,false,false,false,false,false,false,false] rfl rfl (any_of HT_.out (by kernel_rfl)) (fun _ _ _ h=>h) (Or.inl ⟨by rfl,?_⟩) ?_ ?_
        rotate_left
        ·intro w'
         go_simp
         with_reducible rfl
        rotate_left
        ·simp only [Act.put,List.setIfInBounds_toArray,List.set_cons_zero,List.set_cons_succ,i64_w,i32_w]
         rfl
        refine take_ (i:=3) (N:=some 25) (v:=?_) (a':=?_) #[true,true,true,true,false,false,false,false,false,false,false,false,false,false,false,false,false] rfl rfl (take_ofW HT_.out HW_.out (by kernel_rfl)) (fun _ _ _ h=>h) (Or.inl ⟨by rfl,?_⟩) hHeld ?_ ?_
        rotate_left
        ·rintro w' ⟨s0,s1,s2,s3,s4,s5,s6,s7,s8⟩
         go_simp
         with_reducible rfl
        rotate_left
        ·simp only [Act.put,List.setIfInBounds_toArray,List.set_cons_zero,List.set_cons_succ,i64_w,i32_w]
         rfl
        refine one_ (i:=4) (N:=some 26) #[true,true,true,true,true,false,false,false,false,false,false,false,false,false,false,false,false] rfl rfl (one_of HT_.out (by kernel_rfl)) (by decide) (fun K hK=>?_)
        refine goes_ Try.func63 (by kernel_rfl) rfl #[.agg #[.int .i64 ((rd_T55 l1 x7_1).f0),.int .i64 ((rd_T55 l1 x7_1).f1),.int .i64 ((rd_T55 l1 x7_1).f2)]] (by rfl) rfl rfl (by (try simp only [List.map_toArray,List.map_cons,List.map_nil]);first|done|rfl|(simp only [List.length_drop,List.length_take];rfl)) ?_
        with_reducible refine (slipwayref06_may.calls k1 ((rd_T55 l1 x7_1).f0) ((rd_T55 l1 x7_1).f1) ((rd_T55 l1 x7_1).f2) true _ A18.out).mono ?_
        rintro e w22 ⟨rfl,hb⟩
        refine ⟨_,rfl,?_⟩
        have n0_:=Aside0.mk (Kd.R_below (by (with_reducible repeat (first|apply Kd.R_alloc|apply Kd.R_drewN|apply Kd.R_drew));exact HO_353000.out) hb)
        have n1_:=Aside0.mk (Kd.R_below (by (with_reducible repeat (first|apply Kd.R_alloc|apply Kd.R_drewN|apply Kd.R_drew));exact HO_353001.out) hb)
        have n2_:=Aside0.mk (blk_below (g:=gb352) (o:=.cells #[u353000,u353001,.int .i64 x353002_1] 25 (0,0)) (by (with_reducible repeat (first|refine blk_drewN ?_ _|refine blk_drew ?_|refine blk_alloc ?_ _));exact BK352.out) hb)
        have n3_:=Aside0.mk (blk_below (g:=gb353) (o:=.cells #[.slice none 0 0,.slice none 0 0,.int .i64 x354002_1] 25 (0,0)) (by (with_reducible repeat (first|refine blk_drewN ?_ _|refine blk_drew ?_|refine blk_alloc ?_ _));exact BK353.out) hb)
        have n4_:=Aside0.mk (below_step (by repeat (first|(with_reducible first|exact HB.out|apply below_alloc|apply pw_below_drewN|apply below_drew1|refine below_set ?_ GE352.out|refine below_set ?_ GE353.out)|exact HB.out)) hb)
        clear HO_353000 HO_353001 BK352 BK353 HB
        have HO_353000:=n0_
        have HO_353001:=n1_
        have BK352:=n2_
        have BK353:=n3_
        have HB:=n4_
        clear n0_ n1_ n2_ n3_ n4_
        (try clear hb)
        (try clear hb2)
        (try clear hk)
        (try clear hi)
        obtain ⟨Ao23,co23,eo23⟩:=Kd.R_slice HO_353000.out
        (first|subst eo23|(injection eo23 with f1_ f2_ f3_;have f4_:=f1_.symm;have f5_:=f3_.symm;clear f1_ f2_ f3_;subst f4_;subst f5_))
        refine hK.out _ _ ⟨(blk_cell BK352.out 0).trans rfl,(blk_cell BK352.out 1).trans rfl,(blk_cell BK352.out 2).trans rfl,((HB.out.cell (World.block_lt_of_cell? w _ hw362_0)).trans hw362_0),((HB.out.cell (World.block_lt_of_cell? w _ hw362_1)).trans hw362_1),((HB.out.cell (World.block_lt_of_cell? w _ hw362_2)).trans hw362_2),((HB.out.cell (World.block_lt_of_cell? w _ hw364_0)).trans hw364_0),((HB.out.cell (World.block_lt_of_cell? w _ hw364_1)).trans hw364_1),((HB.out.cell (World.block_lt_of_cell? w _ hw364_2)).trans hw364_2)⟩ (fun hHeld=>?_)
        clear hK K
        refine norm_ (a':=?_) ?_ ?_
        rotate_left
        ·show Act.put _ (some 26) _=_
         simp only [Act.put,List.setIfInBounds_toArray,List.set_cons_zero,List.set_cons_succ,i64_w,i32_w]
         rfl
        refine pure_ (i:=5) (N:=some 27) (v:=?_) (a':=?_) #[true,true,true,true,true,true,false,false,false,false,false,false,false,false,false,false,false] rfl rfl (any_of HT_.out (by kernel_rfl)) (fun _ _ _ h=>h) (Or.inl ⟨by rfl,?_⟩) ?_ ?_
        rotate_left
        ·intro w'
         go_simp
         with_reducible rfl
        rotate_left
        ·simp only [Act.put,List.setIfInBounds_toArray,List.set_cons_zero,List.set_cons_succ,i64_w,i32_w]
         rfl
        refine pure_ (i:=6) (N:=some 28) (v:=?_) (a':=?_) #[true,true,true,true,true,true,true,false,false,false,false,false,false,false,false,false,false] rfl rfl (any_of HT_.out (by kernel_rfl)) (fun _ _ _ h=>h) (Or.inl ⟨by rfl,?_⟩) ?_ ?_
        rotate_left
        ·intro w'
         go_simp
         with_reducible rfl
        rotate_left
        ·simp only [Act.put,List.setIfInBounds_toArray,List.set_cons_zero,List.set_cons_succ,i64_w,i32_w]
         rfl
        refine pure_ (i:=7) (N:=some 29) (v:=?_) (a':=?_) #[true,true,true,true,true,true,true,true,false,false,false,false,false,false,false,false,false] rfl rfl (any_of HT_.out (by kernel_rfl)) (fun _ _ _ h=>h) (Or.inl ⟨by rfl,?_⟩) ?_ ?_
        rotate_left
        ·intro w'
         go_simp
         with_reducible rfl
        rotate_left
        ·simp only [Act.put,List.setIfInBounds_toArray,List.set_cons_zero,List.set_cons_succ,i64_w,i32_w]
         rfl
        refine pure_ (i:=8) (N:=some 30) (v:=?_) (a':=?_) #[true,true,true,true,true,true,true,true,true,false,false,false,false,false,false,false,false] rfl rfl (any_of HT_.out (by kernel_rfl)) (fun _ _ _ h=>h) (Or.inl ⟨by rfl,?_⟩) ?_ ?_
        rotate_left
        ·intro w'
         go_simp
         with_reducible rfl
        rotate_left
        ·simp only [Act.put,List.setIfInBounds_toArray,List.set_cons_zero,List.set_cons_succ,i64_w,i32_w]
         rfl
        refine pure_ (i:=9) (N:=some 31) (v:=?_) (a':=?_) #[true,true,true,true,true,true,true,true,true,true,false,false,false,false,false,false,false] rfl rfl (any_of HT_.out (by kernel_rfl)) (fun _ _ _ h=>h) (Or.inl ⟨by rfl,?_⟩) ?_ ?_
        rotate_left
        ·intro w'
         go_simp
         with_reducible rfl
        rotate_left
        ·simp only [Act.put,List.setIfInBounds_toArray,List.set_cons_zero,List.set_cons_succ,i64_w,i32_w]
         rfl
        refine pure_ (i:=10) (N:=some 32) (v:=?_) (a':=?_) #[true,true,true,true,true,true,true,true,true,true,true,false,false,false,false,false,false] rfl rfl (any_of HT_.out (by kernel_rfl)) (fun _ _ _ h=>h) (Or.inl ⟨by rfl,?_⟩) ?_ ?_
        rotate_left
        ·intro w'
         go_simp
         with_reducible rfl
        rotate_left
        ·simp only [Act.put,List.setIfInBounds_toArray,List.set_cons_zero,List.set_cons_succ,i64_w,i32_w]
         rfl
        refine pure_ (i:=12) (N:=some 34) (v:=?_) (a':=?_) #[true,true,true,true,true,true,true,true,true,true,true,false,true,false,false,false,false] rfl rfl (any_of HT_.out (by kernel_rfl)) (fun _ _ _ h=>h) (Or.inl ⟨by rfl,?_⟩) ?_ ?_
        rotate_left
        ·intro w'
         go_simp
         with_reducible rfl
        rotate_left
        ·simp only [Act.put,List.setIfInBounds_toArray,List.set_cons_zero,List.set_cons_succ,i64_w,i32_w]
         rfl
        refine take_ (i:=11) (N:=some 33) (v:=?_) (a':=?_) #[true,true,true,true,true,true,true,true,true,true,true,true,true,false,false,false,false] rfl rfl (take_ofW HT_.out HW_.out (by kernel_rfl)) (fun _ _ _ h=>h) (Or.inl ⟨by rfl,?_⟩) hHeld ?_ ?_
        rotate_left
        ·rintro w' ⟨s0,s1,s2,s3,s4,s5,s6,s7,s8⟩
         go_simp
         with_reducible rfl
        rotate_left
        ·simp only [Act.put,List.setIfInBounds_toArray,List.set_cons_zero,List.set_cons_succ,i64_w,i32_w]
         rfl
        refine take_ (i:=13) (N:=some 35) (v:=?_) (a':=?_) #[true,true,true,true,true,true,true,true,true,true,true,true,true,true,false,false,false] rfl rfl (take_ofW HT_.out HW_.out (by kernel_rfl)) (fun _ _ _ h=>h) (Or.inl ⟨by rfl,?_⟩) hHeld ?_ ?_
        rotate_left
        ·rintro w' ⟨s0,s1,s2,s3,s4,s5,s6,s7,s8⟩
         go_simp
         with_reducible rfl
        rotate_left
        ·simp only [Act.put,List.setIfInBounds_toArray,List.set_cons_zero,List.set_cons_succ,i64_w,i32_w]
         rfl
        refine pure_ (i:=14) (N:=some 36) (v:=?_) (a':=?_) #[true,true,true,true,true,true,true,true,true,true,true,true,true,true,true,false,false] rfl rfl (any_of HT_.out (by kernel_rfl)) (fun _ _ _ h=>h) (Or.inl ⟨by rfl,?_⟩) ?_ ?_
        rotate_left
        ·intro w'
         go_simp
         with_reducible rfl
        rotate_left
        ·simp only [Act.put,List.setIfInBounds_toArray,List.set_cons_zero,List.set_cons_succ,i64_w,i32_w]
         rfl
        refine pure_ (i:=15) (N:=some 37) (v:=?_) (a':=?_) #[true,true,true,true,true,true,true,true,true,true,true,true,true,true,true,true,false] rfl rfl (any_of HT_.out (by kernel_rfl)) (fun _ _ _ h=>h) (Or.inl ⟨by rfl,?_⟩) ?_ ?_
        rotate_left
        ·intro w'
         go_simp
         with_reducible rfl
        rotate_left
        ·simp only [Act.put,List.setIfInBounds_toArray,List.set_cons_zero,List.set_cons_succ,i64_w,i32_w]
         rfl
        refine pure_ (i:=16) (N:=some 38) (v:=?_) (a':=?_) #[true,true,true,true,true,true,true,true,true,true,true,true,true,true,true,true,true] rfl rfl (any_of HT_.out (by kernel_rfl)) (fun _ _ _ h=>h) (Or.inl ⟨by rfl,?_⟩) ?_ ?_
        rotate_left
        ·intro w'
         go_simp
         with_reducible rfl
        rotate_left
        ·simp only [Act.put,List.setIfInBounds_toArray,List.set_cons_zero,List.set_cons_succ,i64_w,i32_w]
         rfl
        refine done_ (done_of HT_.out (by kernel_rfl)) ?_
        have hnb24:=NB353_352.out
        have hnc24:=NB352_353.out
        have hcz25_0:w22.cell? ⟨gb353,0,none⟩=some (.slice none 0 0):=(blk_cell BK353.out 0).trans rfl
        have hcz25_1:w22.cell? ⟨gb353,1,none⟩=some (.slice none 0 0):=(blk_cell BK353.out 1).trans rfl
        have hcz25_2:w22.cell? ⟨gb353,2,none⟩=some (.int .i64 x354002_1):=(blk_cell BK353.out 2).trans rfl
        have hfz25_0:=blk_frozen BK353.out 0
        have hfz25_1:=blk_frozen BK353.out 1
        have hfz25_2:=blk_frozen BK353.out 2
        try go_wp2
        refine bodyPost_ret (results_ct rfl _ _ gb353 25 #[.slice none 0 0,.slice none 0 0,.int .i64 0] (0,0) _ rfl (by (with_reducible repeat (first|refine blk_drewN ?_ _|refine blk_drew ?_|refine blk_alloc ?_ _));refine blk_put (cs:=#[.slice none 0 0,.slice none 0 0,.int .i64 x354002_1]) ?_ 2 _ rfl;(with_reducible repeat (first|refine blk_drewN ?_ _|refine blk_drew ?_|refine blk_alloc ?_ _));refine blk_put (cs:=#[.slice none 0 0,.slice none 0 0,.int .i64 x354002_1]) ?_ 1 _ rfl;(with_reducible repeat (first|refine blk_drewN ?_ _|refine blk_drew ?_|refine blk_alloc ?_ _));refine blk_put (cs:=#[.slice none 0 0,.slice none 0 0,.int .i64 x354002_1]) ?_ 0 _ rfl;(with_reducible repeat (first|refine blk_drewN ?_ _|refine blk_drew ?_|refine blk_alloc ?_ _));exact BK353.out) Try.underlying25 rfl (by kernel_rfl)) rfl ?_
        exact ⟨_,_,by first|rfl|(simp [errW_none,errW_some] <;> rfl)|(simp [*,errW_none,errW_some] <;> rfl),by first|exact Kd.R_nil _ _ _ _ _|exact Kd.N_nil _ _ _ _ _|exact Kd.V_nil _ _ _ _ _|exact Kd.Q_nil _ _ _ _ _|exact Kd.S_nil _ _ _ _ _,by first|exact Kd.R_nil _ _ _ _ _|exact Kd.N_nil _ _ _ _ _|exact Kd.V_nil _ _ _ _ _|exact Kd.Q_nil _ _ _ _ _|exact Kd.S_nil _ _ _ _ _,by repeat (first|(with_reducible first|exact HB.out|apply below_alloc|apply pw_below_drewN|apply below_drew1|refine below_set ?_ GE352.out|refine below_set ?_ GE353.out)|exact HB.out)⟩
       ·rw [if_neg c20] at H
        have c20b0:decide ((x353000_1.length:Int)≤((rd_T55 l1 x7_1).f1))=false:=decide_eq_false c20
        clear c20
        replace H:=Option.bind_eq_some_iff.mp H
        obtain ⟨⟨t366,t369,t372⟩,A260,H⟩:=H
        replace H:(slipwayref06_Apply.l0 k1 l1 (wrap64 (x7_1 + 1)) t366 t369 t372)=some (r1,r2,r3,r4):=H
        have A26:=Aside0.mk A260
        clear A260
        have H':=Aside0.mk H
        clear H
        try go_wp2
        have n0_:=Aside0.mk (Kd.R_drew HO_353000.out)
        have n1_:=Aside0.mk (Kd.R_drew HO_353001.out)
        have n2_:=Aside0.mk (blk_drew BK352.out)
        have n3_:=Aside0.mk (blk_drew BK353.out)
        have n4_:=Aside0.mk (below_drew1 HB.out)
        clear HO_353000 HO_353001 BK352 BK353 HB
        have HO_353000:=n0_
        have HO_353001:=n1_
        have BK352:=n2_
        have BK353:=n3_
        have HB:=n4_
        clear n0_ n1_ n2_ n3_ n4_
        have p362:0≤(x7_1:Int):=of_decide_eq_true (by first|(with_reducible assumption)|assumption)
        have q362:x7_1 < (l1.length:Int):=of_decide_eq_true (by first|(with_reducible assumption)|assumption)
        obtain ⟨ad362,e362,hx362_0,hx362_1,hx362_2⟩:=at_T55 HR1.out x7_1 p362 q362
        have hw362_2:=hx362_2
        have hw362_1:=hx362_1
        have hw362_0:=hx362_0
        cases e362
        replace hx362_0:=(HB.out.cell (World.block_lt_of_cell? w _ hx362_0)).trans hx362_0
        replace hx362_1:=(HB.out.cell (World.block_lt_of_cell? w _ hx362_1)).trans hx362_1
        replace hx362_2:=(HB.out.cell (World.block_lt_of_cell? w _ hx362_2)).trans hx362_2
        replace p362:=eq_true p362
        replace q362:=eq_true q362
        have p364:0≤(x7_1:Int):=of_decide_eq_true (by first|(with_reducible assumption)|assumption)
        have q364:x7_1 < (l1.length:Int):=of_decide_eq_true (by first|(with_reducible assumption)|assumption)
        obtain ⟨ad364,e364,hx364_0,hx364_1,hx364_2⟩:=at_T55 HR1.out x7_1 p364 q364
        have hw364_2:=hx364_2
        have hw364_1:=hx364_1
        have hw364_0:=hx364_0
        obtain rfl:ad362=ad364:=(by injection e364)
        replace hx364_0:=(HB.out.cell (World.block_lt_of_cell? w _ hx364_0)).trans hx364_0
        replace hx364_1:=(HB.out.cell (World.block_lt_of_cell? w _ hx364_1)).trans hx364_1
        replace hx364_2:=(HB.out.cell (World.block_lt_of_cell? w _ hx364_2)).trans hx364_2
        replace p364:=eq_true p364
        replace q364:=eq_true q364
        refine start_ (n:=17) (S:=fun w'=>w'.cell? ⟨gb352,0,none⟩=some (u353000)∧w'.cell? ⟨gb352,1,none⟩=some (u353001)∧w'.cell? ⟨gb352,2,none⟩=some (.int .i64 x353002_1)∧w'.cell? (ad362.add ((x7_1).toNat * 3))=some (.int .i64 ((rd_T55 l1 x7_1).f0))∧w'.cell? ⟨(ad362.add ((x7_1).toNat * 3)).block,(ad362.add ((x7_1).toNat * 3)).off + 1,none⟩=some (.int .i64 ((rd_T55 l1 x7_1).f1))∧w'.cell? ⟨(ad362.add ((x7_1).toNat * 3)).block,(ad362.add ((x7_1).toNat * 3)).off + 2,none⟩=some (.int .i64 ((rd_T55 l1 x7_1).f2))∧w'.cell? (ad362.add ((x7_1).toNat * 3))=some (.int .i64 ((rd_T55 l1 x7_1).f0))∧w'.cell? ⟨(ad362.add ((x7_1).toNat * 3)).block,(ad362.add ((x7_1).toNat * 3)).off + 1,none⟩=some (.int .i64 ((rd_T55 l1 x7_1).f1))∧w'.cell? ⟨(ad362.add ((x7_1).toNat * 3)).block,(ad362.add ((x7_1).toNat * 3)).off + 2,none⟩=some (.int .i64 ((rd_T55 l1 x7_1).f2))) (ds:=[]) #[false,false,false,false,false,false,false,false,false,false,false,false,false,false,false,false,false] (by kernel_rfl) rfl rfl ⟨(blk_cell BK352.out 0).trans rfl,(blk_cell BK352.out 1).trans rfl,(blk_cell BK352.out 2).trans rfl,((HB.out.cell (World.block_lt_of_cell? w _ hw362_0)).trans hw362_0),((HB.out.cell (World.block_lt_of_cell? w _ hw362_1)).trans hw362_1),((HB.out.cell (World.block_lt_of_cell? w _ hw362_2)).trans hw362_2),((HB.out.cell (World.block_lt_of_cell? w _ hw364_0)).trans hw364_0),((HB.out.cell (World.block_lt_of_cell? w _ hw364_1)).trans hw364_1),((HB.out.cell (World.block_lt_of_cell? w _ hw364_2)).trans hw364_2)⟩ (fun hHeld=>?_);refine with_tabW slipwayref06_Apply.tab8 slipwayref06_Apply.bits8 (fun HT_ HW_=>?_)
        generalize wr.drew=w27 at HO_353000 HO_353001 BK352 BK353 HB hx362_0 hx362_1 hx362_2 hx364_0 hx364_1 hx364_2 hHeld ⊢
        refine pure_ (i:=0) (N:=some 22) (v:=?_) (a':=?_) #[true,false,false,false,false,false,false,false,false,false,false,false,false,false,false,false,false] rfl rfl (any_of HT_.out (by kernel_rfl)) (fun _ _ _ h=>h) (Or.inl ⟨by rfl,?_⟩) ?_ ?_
        rotate_left
        ·intro w'
         go_simp
         with_reducible rfl
        rotate_left
        ·simp only [Act.put,List.setIfInBounds_toArray,List.set_cons_zero,List.set_cons_succ,i64_w,i32_w]
         rfl
        refine pure_ (i:=1) (N:=some 23) (v:=?_) (a':=?_) #[true,true,false,false,false,false,false,false,false,false,false,false,false,false,false,false,false] rfl rfl (any_of HT_.out (by kernel_rfl)) (fun _ _ _ h=>h) (Or.inl ⟨by rfl,?_⟩) ?_ ?_
        rotate_left
        ·intro w'
         go_simp
         with_reducible rfl
        rotate_left
        ·simp only [Act.put,List.setIfInBounds_toArray,List.set_cons_zero,List.set_cons_succ,i64_w,i32_w]
         rfl
        refine pure_ (i:=2) (N:=some 24) (v:=?_) (a':=?_) #[true,true,true,false,false,false,false,false,false,false,false,false,false,false,false,false,false] rfl rfl (any_of HT_.out (by kernel_rfl)) (fun _ _ _ h=>h) (Or.inl ⟨by rfl,?_⟩) ?_ ?_
        rotate_left
        ·intro w'
         go_simp
         with_reducible rfl
        rotate_left
        ·simp only [Act.put,List.setIfInBounds_toArray,List.set_cons_zero,List.set_cons_succ,i64_w,i32_w]
         rfl
        refine take_ (i:=3) (N:=some 25) (v:=?_) (a':=?_) #[true,true,true,true,false,false,false,false,false,false,false,false,false,false,false,false,false] rfl rfl (take_ofW HT_.out HW_.out (by kernel_rfl)) (fun _ _ _ h=>h) (Or.inl ⟨by rfl,?_⟩) hHeld ?_ ?_
        rotate_left
        ·rintro w' ⟨s0,s1,s2,s3,s4,s5,s6,s7,s8⟩
         go_simp
         with_reducible rfl
        rotate_left
        ·simp only [Act.put,List.setIfInBounds_toArray,List.set_cons_zero,List.set_cons_succ,i64_w,i32_w]
         rfl
        refine one_ (i:=4) (N:=some 26) #[true,true,true,true,true,false,false,false,false,false,false,false,false,false,false,false,false] rfl rfl (one_of HT_.out (by kernel_rfl)) (by decide) (fun K hK=>?_)
        refine goes_ Try.func63 (by kernel_rfl) rfl #[.agg #[.int .i64 ((rd_T55 l1 x7_1).f0),.int .i64 ((rd_T55 l1 x7_1).f1),.int .i64 ((rd_T55 l1 x7_1).f2)]] (by rfl) rfl rfl (by (try simp only [List.map_toArray,List.map_cons,List.map_nil]);first|done|rfl|(simp only [List.length_drop,List.length_take];rfl)) ?_
        with_reducible refine (slipwayref06_may.calls k1 ((rd_T55 l1 x7_1).f0) ((rd_T55 l1 x7_1).f1) ((rd_T55 l1 x7_1).f2) true _ A18.out).mono ?_
        rintro e w28 ⟨rfl,hb⟩
        refine ⟨_,rfl,?_⟩
        have n0_:=Aside0.mk (Kd.R_below (by (with_reducible repeat (first|apply Kd.R_alloc|apply Kd.R_drewN|apply Kd.R_drew));exact HO_353000.out) hb)
        have n1_:=Aside0.mk (Kd.R_below (by (with_reducible repeat (first|apply Kd.R_alloc|apply Kd.R_drewN|apply Kd.R_drew));exact HO_353001.out) hb)
        have n2_:=Aside0.mk (blk_below (g:=gb352) (o:=.cells #[u353000,u353001,.int .i64 x353002_1] 25 (0,0)) (by (with_reducible repeat (first|refine blk_drewN ?_ _|refine blk_drew ?_|refine blk_alloc ?_ _));exact BK352.out) hb)
        have n3_:=Aside0.mk (blk_below (g:=gb353) (o:=.cells #[.slice none 0 0,.slice none 0 0,.int .i64 x354002_1] 25 (0,0)) (by (with_reducible repeat (first|refine blk_drewN ?_ _|refine blk_drew ?_|refine blk_alloc ?_ _));exact BK353.out) hb)
        have n4_:=Aside0.mk (below_step (by repeat (first|(with_reducible first|exact HB.out|apply below_alloc|apply pw_below_drewN|apply below_drew1|refine below_set ?_ GE352.out|refine below_set ?_ GE353.out)|exact HB.out)) hb)
        clear HO_353000 HO_353001 BK352 BK353 HB
        have HO_353000:=n0_
        have HO_353001:=n1_
        have BK352:=n2_
        have BK353:=n3_
        have HB:=n4_
        clear n0_ n1_ n2_ n3_ n4_
        (try clear hb)
        (try clear hb2)
        (try clear hk)
        (try clear hi)
        obtain ⟨Ao29,co29,eo29⟩:=Kd.R_slice HO_353000.out
        (first|subst eo29|(injection eo29 with f1_ f2_ f3_;have f4_:=f1_.symm;have f5_:=f3_.symm;clear f1_ f2_ f3_;subst f4_;subst f5_))
        refine hK.out _ _ ⟨(blk_cell BK352.out 0).trans rfl,(blk_cell BK352.out 1).trans rfl,(blk_cell BK352.out 2).trans rfl,((HB.out.cell (World.block_lt_of_cell? w _ hw362_0)).trans hw362_0),((HB.out.cell (World.block_lt_of_cell? w _ hw362_1)).trans hw362_1),((HB.out.cell (World.block_lt_of_cell? w _ hw362_2)).trans hw362_2),((HB.out.cell (World.block_lt_of_cell? w _ hw364_0)).trans hw364_0),((HB.out.cell (World.block_lt_of_cell? w _ hw364_1)).trans hw364_1),((HB.out.cell (World.block_lt_of_cell? w _ hw364_2)).trans hw364_2)⟩ (fun hHeld=>?_)
        clear hK K
        refine norm_ (a':=?_) ?_ ?_
        rotate_left
        ·show Act.put _ (some 26) _=_
         simp only [Act.put,List.setIfInBounds_toArray,List.set_cons_zero,List.set_cons_succ,i64_w,i32_w]
         rfl
        refine pure_ (i:=5) (N:=some 27) (v:=?_) (a':=?_) #[true,true,true,true,true,true,false,false,false,false,false,false,false,false,false,false,false] rfl rfl (any_of HT_.out (by kernel_rfl)) (fun _ _ _ h=>h) (Or.inl ⟨by rfl,?_⟩) ?_ ?_
        rotate_left
        ·intro w'
         go_simp
         with_reducible rfl
        rotate_left
        ·simp only [Act.put,List.setIfInBounds_toArray,List.set_cons_zero,List.set_cons_succ,i64_w,i32_w]
         rfl
        refine pure_ (i:=6) (N:=some 28) (v:=?_) (a':=?_) #[true,true,true,true,true,true,true,false,false,false,false,false,false,false,false,false,false] rfl rfl (any_of HT_.out (by kernel_rfl)) (fun _ _ _ h=>h) (Or.inl ⟨by rfl,?_⟩) ?_ ?_
        rotate_left
        ·intro w'
         go_simp
         with_reducible rfl
        rotate_left
        ·simp only [Act.put,List.setIfInBounds_toArray,List.set_cons_zero,List.set_cons_succ,i64_w,i32_w]
         rfl
        refine pure_ (i:=7) (N:=some 29) (v:=?_) (a':=?_) #[true,true,true,true,true,true,true,true,false,false,false,false,false,false,false,false,false] rfl rfl (any_of HT_.out (by kernel_rfl)) (fun _ _ _ h=>h) (Or.inl ⟨by rfl,?_⟩) ?_ ?_
        rotate_left
        ·intro w'
         go_simp
         with_reducible rfl
        rotate_left
        ·simp only [Act.put,List.setIfInBounds_toArray,List.set_cons_zero,List.set_cons_succ,i64_w,i32_w]
         rfl
        refine pure_ (i:=8) (N:=some 30) (v:=?_) (a':=?_) #[true,true,true,true,true,true,true,true,true,false,false,false,false,false,false,false,false] rfl rfl (any_of HT_.out (by kernel_rfl)) (fun _ _ _ h=>h) (Or.inl ⟨by rfl,?_⟩) ?_ ?_
        rotate_left
        ·intro w'
         go_simp
         with_reducible rfl
        rotate_left
        ·simp only [Act.put,List.setIfInBounds_toArray,List.set_cons_zero,List.set_cons_succ,i64_w,i32_w]
         rfl
        refine pure_ (i:=9) (N:=some 31) (v:=?_) (a':=?_) #[true,true,true,true,true,true,true,true,true,true,false,false,false,false,false,false,false] rfl rfl (any_of HT_.out (by kernel_rfl)) (fun _ _ _ h=>h) (Or.inl ⟨by rfl,?_⟩) ?_ ?_
        rotate_left
        ·intro w'
         go_simp
         with_reducible rfl
        rotate_left
        ·simp only [Act.put,List.setIfInBounds_toArray,List.set_cons_zero,List.set_cons_succ,i64_w,i32_w]
         rfl
        refine pure_ (i:=10) (N:=some 32) (v:=?_) (a':=?_) #[true,true,true,true,true,true,true,true,true,true,true,false,false,false,false,false,false] rfl rfl (any_of HT_.out (by kernel_rfl)) (fun _ _ _ h=>h) (Or.inl ⟨by rfl,?_⟩) ?_ ?_
        rotate_left
        ·intro w'
         go_simp
         with_reducible rfl
        rotate_left
        ·simp only [Act.put,List.setIfInBounds_toArray,List.set_cons_zero,List.set_cons_succ,i64_w,i32_w]
         rfl
        refine pure_ (i:=12) (N:=some 34) (v:=?_) (a':=?_) #[true,true,true,true,true,true,true,true,true,true,true,false,true,false,false,false,false] rfl rfl (any_of HT_.out (by kernel_rfl)) (fun _ _ _ h=>h) (Or.inl ⟨by rfl,?_⟩) ?_ ?_
        rotate_left
        ·intro w'
         go_simp
         with_reducible rfl
        rotate_left
        ·simp only [Act.put,List.setIfInBounds_toArray,List.set_cons_zero,List.set_cons_succ,i64_w,i32_w]
         rfl
        refine take_ (i:=11) (N:=some 33) (v:=?_) (a':=?_) #[true,true,true,true,true,true,true,true,true,true,true,true,true,false,false,false,false] rfl rfl (take_ofW HT_.out HW_.out (by kernel_rfl)) (fun _ _ _ h=>h) (Or.inl ⟨by rfl,?_⟩) hHeld ?_ ?_
        rotate_left
        ·rintro w' ⟨s0,s1,s2,s3,s4,s5,s6,s7,s8⟩
         go_simp
         with_reducible rfl
        rotate_left
        ·simp only [Act.put,List.setIfInBounds_toArray,List.set_cons_zero,List.set_cons_succ,i64_w,i32_w]
         rfl
        refine take_ (i:=13) (N:=some 35) (v:=?_) (a':=?_) #[true,true,true,true,true,true,true,true,true,true,true,true,true,true,false,false,false] rfl rfl (take_ofW HT_.out HW_.out (by kernel_rfl)) (fun _ _ _ h=>h) (Or.inl ⟨by rfl,?_⟩) hHeld ?_ ?_
        rotate_left
        ·rintro w' ⟨s0,s1,s2,s3,s4,s5,s6,s7,s8⟩
         go_simp
         with_reducible rfl
        rotate_left
        ·simp only [Act.put,List.setIfInBounds_toArray,List.set_cons_zero,List.set_cons_succ,i64_w,i32_w]
         rfl
        refine pure_ (i:=14) (N:=some 36) (v:=?_) (a':=?_) #[true,true,true,true,true,true,true,true,true,true,true,true,true,true,true,false,false] rfl rfl (any_of HT_.out (by kernel_rfl)) (fun _ _ _ h=>h) (Or.inl ⟨by rfl,?_⟩) ?_ ?_
        rotate_left
        ·intro w'
         go_simp
         with_reducible rfl
        rotate_left
        ·simp only [Act.put,List.setIfInBounds_toArray,List.set_cons_zero,List.set_cons_succ,i64_w,i32_w]
         rfl
        refine pure_ (i:=15) (N:=some 37) (v:=?_) (a':=?_) #[true,true,true,true,true,true,true,true,true,true,true,true,true,true,true,true,false] rfl rfl (any_of HT_.out (by kernel_rfl)) (fun _ _ _ h=>h) (Or.inl ⟨by rfl,?_⟩) ?_ ?_
        rotate_left
        ·intro w'
         go_simp
         with_reducible rfl
        rotate_left
        ·simp only [Act.put,List.setIfInBounds_toArray,List.set_cons_zero,List.set_cons_succ,i64_w,i32_w]
         rfl
        refine pure_ (i:=16) (N:=some 38) (v:=?_) (a':=?_) #[true,true,true,true,true,true,true,true,true,true,true,true,true,true,true,true,true] rfl rfl (any_of HT_.out (by kernel_rfl)) (fun _ _ _ h=>h) (Or.inl ⟨by rfl,?_⟩) ?_ ?_
        rotate_left
        ·intro w'
         go_simp
         with_reducible rfl
        rotate_left
        ·simp only [Act.put,List.setIfInBounds_toArray,List.set_cons_zero,List.set_cons_succ,i64_w,i32_w]
         rfl
        refine done_ (done_of HT_.out (by kernel_rfl)) ?_
        try go_wp2
        have n0_:=Aside0.mk (Kd.R_drew HO_353000.out)
        have n1_:=Aside0.mk (Kd.R_drew HO_353001.out)
        have n2_:=Aside0.mk (blk_drew BK352.out)
        have n3_:=Aside0.mk (blk_drew BK353.out)
        have n4_:=Aside0.mk (below_drew1 HB.out)
        clear HO_353000 HO_353001 BK352 BK353 HB
        have HO_353000:=n0_
        have HO_353001:=n1_
        have BK352:=n2_
        have BK353:=n3_
        have HB:=n4_
        clear n0_ n1_ n2_ n3_ n4_
        have p365:0≤(x7_1:Int):=of_decide_eq_true (by first|(with_reducible assumption)|assumption)
        have q365:x7_1 < (l1.length:Int):=of_decide_eq_true (by first|(with_reducible assumption)|assumption)
        obtain ⟨ad365,e365,hx365_0,hx365_1,hx365_2⟩:=at_T55 HR1.out x7_1 p365 q365
        have hw365_2:=hx365_2
        have hw365_1:=hx365_1
        have hw365_0:=hx365_0
        obtain rfl:ad362=ad365:=(by injection e365)
        replace hx365_0:=(HB.out.cell (World.block_lt_of_cell? w _ hx365_0)).trans hx365_0
        replace hx365_1:=(HB.out.cell (World.block_lt_of_cell? w _ hx365_1)).trans hx365_1
        replace hx365_2:=(HB.out.cell (World.block_lt_of_cell? w _ hx365_2)).trans hx365_2
        replace p365:=eq_true p365
        replace q365:=eq_true q365
        obtain ⟨Ao31,co31,eo31⟩:=Kd.R_slice HO_353001.out
        (first|subst eo31|(injection eo31 with f1_ f2_ f3_;have f4_:=f1_.symm;have f5_:=f3_.symm;clear f1_ f2_ f3_;subst f4_;subst f5_))
        refine start_ (n:=7) (S:=fun w'=>w'.cell? ⟨gb352,0,none⟩=some (.slice Ao29 x353000_1.length co29)∧w'.cell? ⟨gb352,1,none⟩=some (.slice Ao31 x353001_1.length co31)∧w'.cell? ⟨gb352,2,none⟩=some (.int .i64 x353002_1)∧w'.cell? (ad362.add ((x7_1).toNat * 3))=some (.int .i64 ((rd_T55 l1 x7_1).f0))∧w'.cell? ⟨(ad362.add ((x7_1).toNat * 3)).block,(ad362.add ((x7_1).toNat * 3)).off + 1,none⟩=some (.int .i64 ((rd_T55 l1 x7_1).f1))∧w'.cell? ⟨(ad362.add ((x7_1).toNat * 3)).block,(ad362.add ((x7_1).toNat * 3)).off + 2,none⟩=some (.int .i64 ((rd_T55 l1 x7_1).f2))) (ds:=[6]) #[false,false,false,false,false,false,false] (by kernel_rfl) rfl rfl ⟨(blk_cell BK352.out 0).trans rfl,(blk_cell BK352.out 1).trans rfl,(blk_cell BK352.out 2).trans rfl,((HB.out.cell (World.block_lt_of_cell? w _ hw365_0)).trans hw365_0),((HB.out.cell (World.block_lt_of_cell? w _ hw365_1)).trans hw365_1),((HB.out.cell (World.block_lt_of_cell? w _ hw365_2)).trans hw365_2)⟩ (fun hHeld=>?_)
        generalize w28.drew=w30 at HO_353000 HO_353001 BK352 BK353 HB hx365_0 hx365_1 hx365_2 hHeld ⊢
        refine pure_ (i:=1) (N:=some 41) (v:=?_) (a':=?_) #[false,true,false,false,false,false,false] rfl rfl (by kernel_rfl) (fun _ _ _ h=>h) (Or.inl ⟨by rfl,?_⟩) ?_ ?_
        rotate_left
        ·intro w'
         go_simp
         with_reducible rfl
        rotate_left
        ·simp only [Act.put,List.setIfInBounds_toArray,List.set_cons_zero,List.set_cons_succ,i64_w,i32_w]
         rfl
        refine pure_ (i:=2) (N:=some 42) (v:=?_) (a':=?_) #[false,true,true,false,false,false,false] rfl rfl (by kernel_rfl) (fun _ _ _ h=>h) (Or.inl ⟨by rfl,?_⟩) ?_ ?_
        rotate_left
        ·intro w'
         go_simp
         with_reducible rfl
        rotate_left
        ·simp only [Act.put,List.setIfInBounds_toArray,List.set_cons_zero,List.set_cons_succ,i64_w,i32_w]
         rfl
        refine pure_ (i:=3) (N:=some 43) (v:=?_) (a':=?_) #[false,true,true,true,false,false,false] rfl rfl (by kernel_rfl) (fun _ _ _ h=>h) (Or.inl ⟨by rfl,?_⟩) ?_ ?_
        rotate_left
        ·intro w'
         go_simp
         with_reducible rfl
        rotate_left
        ·simp only [Act.put,List.setIfInBounds_toArray,List.set_cons_zero,List.set_cons_succ,i64_w,i32_w]
         rfl
        refine take_ (i:=0) (N:=some 40) (v:=?_) (a':=?_) #[true,true,true,true,false,false,false] rfl rfl (by kernel_rfl) (fun _ _ _ h=>h) (Or.inl ⟨by rfl,?_⟩) hHeld ?_ ?_
        rotate_left
        ·rintro w' ⟨s0,s1,s2,s3,s4,s5⟩
         go_simp
         with_reducible rfl
        rotate_left
        ·simp only [Act.put,List.setIfInBounds_toArray,List.set_cons_zero,List.set_cons_succ,i64_w,i32_w]
         rfl
        refine take_ (i:=4) (N:=some 44) (v:=?_) (a':=?_) #[true,true,true,true,true,false,false] rfl rfl (by kernel_rfl) (fun _ _ _ h=>h) (Or.inl ⟨by rfl,?_⟩) hHeld ?_ ?_
        rotate_left
        ·rintro w' ⟨s0,s1,s2,s3,s4,s5⟩
         go_simp
         with_reducible rfl
        rotate_left
        ·simp only [Act.put,List.setIfInBounds_toArray,List.set_cons_zero,List.set_cons_succ,i64_w,i32_w]
         rfl
        refine one_ (i:=5) (N:=some 45) #[true,true,true,true,true,true,false] rfl rfl (by kernel_rfl) (by decide) (fun K hK=>?_)
        refine goes_ Try.func64 (by kernel_rfl) rfl #[.agg #[.slice Ao29 x353000_1.length co29,.slice Ao31 x353001_1.length co31,.int .i64 x353002_1],.agg #[.int .i64 ((rd_T55 l1 x7_1).f0),.int .i64 ((rd_T55 l1 x7_1).f1),.int .i64 ((rd_T55 l1 x7_1).f2)]] (by rfl) rfl rfl (by (try simp only [List.map_toArray,List.map_cons,List.map_nil]);first|done|rfl|(simp only [List.length_drop,List.length_take];rfl)) ?_
        with_reducible refine (slipwayref06_one.calls (fun k_=>some k_=(.slice Ao29 x353000_1.length co29:Value).ownBlock) (.slice Ao29 x353000_1.length co29) x353000_1 (fun k_=>some k_=(.slice Ao31 x353001_1.length co31:Value).ownBlock) (.slice Ao31 x353001_1.length co31) x353001_1 x353002_1 ((rd_T55 l1 x7_1).f0) ((rd_T55 l1 x7_1).f1) ((rd_T55 l1 x7_1).f2) t366 t369 t372 w _ ?side1 ?side2 ?side3 A26.out).mono ?_
        (case side1=>repeat (first|(with_reducible first|exact HB.out|apply below_alloc|apply pw_below_drewN|apply below_drew1|refine below_set ?_ GE352.out|refine below_set ?_ GE353.out)|exact HB.out))
        (case side2=>exact Kd.R_tight rfl HO_353000.out)
        (case side3=>exact Kd.R_tight rfl HO_353001.out)
        rintro e w32 ⟨v367,v370,rfl,ho0,ho1,hb,hkp⟩
        refine ⟨_,rfl,?_⟩
        have n0_:=Aside0.mk (blk_kept (by (with_reducible repeat (first|refine blk_drewN ?_ _|refine blk_drew ?_|refine blk_alloc ?_ _));exact BK352.out) hkp (fun hs_=>Or.elim hs_ (fun e_=>(fun e_=>(Kd.R_ne HO_353000.out BK352.out (by decide)) e_) e_) (fun e_=>(fun e_=>(Kd.R_ne HO_353001.out BK352.out (by decide)) e_) e_)))
        have n1_:=Aside0.mk (blk_kept (by (with_reducible repeat (first|refine blk_drewN ?_ _|refine blk_drew ?_|refine blk_alloc ?_ _));exact BK353.out) hkp (fun hs_=>Or.elim hs_ (fun e_=>(fun e_=>(Kd.R_ne HO_353000.out BK353.out (by decide)) e_) e_) (fun e_=>(fun e_=>(Kd.R_ne HO_353001.out BK353.out (by decide)) e_) e_)))
        have n2_:=Aside0.mk (Kd.R_mono (ok':=fun k_=>True) ho0 (fun k_ hk_=>trivial))
        have n3_:=Aside0.mk (Kd.R_mono (ok':=fun k_=>True) ho1 (fun k_ hk_=>trivial))
        have n4_:=Aside0.mk (hb)
        clear BK352 BK353 HB HO_353000 HO_353001
        have BK352:=n0_
        have BK353:=n1_
        have HO368:=n2_
        have HO371:=n3_
        have HB:=n4_
        clear n0_ n1_ n2_ n3_ n4_
        (try clear hb)
        (try clear hkp)
        (try clear ho0)
        (try clear ho1)
        obtain ⟨Ao33,co33,eo33⟩:=Kd.R_slice HO368.out
        (first|subst eo33|(injection eo33 with f1_ f2_ f3_;have f4_:=f1_.symm;have f5_:=f3_.symm;clear f1_ f2_ f3_;subst f4_;subst f5_))
        obtain ⟨Ao35,co35,eo35⟩:=Kd.R_slice HO371.out
        (first|subst eo35|(injection eo35 with f1_ f2_ f3_;have f4_:=f1_.symm;have f5_:=f3_.symm;clear f1_ f2_ f3_;subst f4_;subst f5_))
        refine hK.out _ _ ⟨(blk_cell BK352.out 0).trans rfl,(blk_cell BK352.out 1).trans rfl,(blk_cell BK352.out 2).trans rfl,((HB.out.cell (World.block_lt_of_cell? w _ hw365_0)).trans hw365_0),((HB.out.cell (World.block_lt_of_cell? w _ hw365_1)).trans hw365_1),((HB.out.cell (World.block_lt_of_cell? w _ hw365_2)).trans hw365_2)⟩ (fun hHeld=>?_)
        clear hK K
        refine norm_ (a':=?_) ?_ ?_
        rotate_left
        ·show Act.put _ (some 45) _=_
         simp only [Act.put,List.setIfInBounds_toArray,List.set_cons_zero,List.set_cons_succ,i64_w,i32_w]
         rfl
        refine last_ (i:=6) (N:=none) #[true,true,true,true,true,true,true] rfl rfl (by kernel_rfl) (by decide) (fun K hK=>?_)
        have hs34:w32.cell? ⟨gb352,0,none⟩=some (.slice Ao29 x353000_1.length co29):=(blk_cell BK352.out 0).trans rfl
        have hfs34:=blk_frozen BK352.out 0
        have hns34_1:=NB353_352.out
        have hms34_1:=NB352_353.out
        have hs36:w32.cell? ⟨gb352,1,none⟩=some (.slice Ao31 x353001_1.length co31):=(blk_cell BK352.out 1).trans rfl
        have hfs36:=blk_frozen BK352.out 1
        have hns36_1:=NB353_352.out
        have hms36_1:=NB352_353.out
        have hs37:w32.cell? ⟨gb352,2,none⟩=some (.int .i64 x353002_1):=(blk_cell BK352.out 2).trans rfl
        have hfs37:=blk_frozen BK352.out 2
        have hns37_1:=NB353_352.out
        have hms37_1:=NB352_353.out
        refine skip_ (w1:=?_) (by rfl) rfl ?_ ?_
        rotate_left
        ·go_simp
         rfl
        refine hK.out _ _ ?_
        clear hK K
        refine done_ (by kernel_rfl) ?_
        try go_wp2
        go_roundg k1
        case measure=>have:=HK1.out;omega
        case rel=>exact ⟨(wrap64 (x7_1 + 1)),(t366),(t369),(t372),(x354002_1),(.slice Ao33 t366.length co33),(.slice Ao35 t369.length co35),(by first|rfl|(simp;done)|(simp [*];done)),H',⟨by have:=HK1.out;omega⟩,⟨by (with_reducible repeat (first|apply Kd.R_alloc|apply Kd.R_drewN|apply Kd.R_drew));exact Kd.R_mono (Kd.R_far (p:=⟨gb352,2,none⟩) (Kd.R_far (p:=⟨gb352,1,none⟩) (Kd.R_far (p:=⟨gb352,0,none⟩) (Kd.R_types HO368.out BK352.out (by decide)) (fun _ hk=>hk.2) (.slice Ao33 t366.length co33)) (fun _ hk=>hk.2) (.slice Ao35 t369.length co35)) (fun _ hk=>hk.2) (.int .i64 t372)) (fun _ hk=>trivial)⟩,⟨by (with_reducible repeat (first|apply Kd.R_alloc|apply Kd.R_drewN|apply Kd.R_drew));exact Kd.R_mono (Kd.R_far (p:=⟨gb352,2,none⟩) (Kd.R_far (p:=⟨gb352,1,none⟩) (Kd.R_far (p:=⟨gb352,0,none⟩) (Kd.R_types HO371.out BK352.out (by decide)) (fun _ hk=>hk.2) (.slice Ao33 t366.length co33)) (fun _ hk=>hk.2) (.slice Ao35 t369.length co35)) (fun _ hk=>hk.2) (.int .i64 t372)) (fun _ hk=>trivial)⟩,⟨by (with_reducible repeat (first|refine blk_drewN ?_ _|refine blk_drew ?_|refine blk_alloc ?_ _));refine blk_put (cs:=#[.slice Ao33 t366.length co33,.slice Ao35 t369.length co35,.int .i64 x353002_1]) ?_ 2 _ rfl;(with_reducible repeat (first|refine blk_drewN ?_ _|refine blk_drew ?_|refine blk_alloc ?_ _));refine blk_put (cs:=#[.slice Ao33 t366.length co33,.slice Ao31 x353001_1.length co31,.int .i64 x353002_1]) ?_ 1 _ rfl;(with_reducible repeat (first|refine blk_drewN ?_ _|refine blk_drew ?_|refine blk_alloc ?_ _));refine blk_put (cs:=#[.slice Ao29 x353000_1.length co29,.slice Ao31 x353001_1.length co31,.int .i64 x353002_1]) ?_ 0 _ rfl;(with_reducible repeat (first|refine blk_drewN ?_ _|refine blk_drew ?_|refine blk_alloc ?_ _));exact BK352.out⟩,⟨by (with_reducible repeat (first|refine blk_drewN ?_ _|refine blk_drew ?_|refine blk_alloc ?_ _));refine blk_far ?_ NB353_352.out _;(with_reducible repeat (first|refine blk_drewN ?_ _|refine blk_drew ?_|refine blk_alloc ?_ _));refine blk_far ?_ NB353_352.out _;(with_reducible repeat (first|refine blk_drewN ?_ _|refine blk_drew ?_|refine blk_alloc ?_ _));refine blk_far ?_ NB353_352.out _;(with_reducible repeat (first|refine blk_drewN ?_ _|refine blk_drew ?_|refine blk_alloc ?_ _));exact BK353.out⟩,⟨by repeat (first|(with_reducible first|exact HB.out|apply below_alloc|apply pw_below_drewN|apply below_drew1|refine below_set ?_ GE352.out|refine below_set ?_ GE353.out)|exact HB.out)⟩⟩
      ·replace c19:=Bool.eq_false_iff.mpr c19
       subst c19
       have H1:(some (([]:List Bool),([]:List Int),0,61))=some (r1,r2,r3,r4):=by rw [if_neg (show ¬ (false=true) by decide)] at H;exact H
       clear H
       have H:=H1
       clear H1
       simp only [Option.some.injEq,Prod.mk.injEq] at H
       obtain ⟨rfl,rfl,rfl,rfl⟩:=H
       try go_wp2
       have n0_:=Aside0.mk (Kd.R_drew HO_353000.out)
       have n1_:=Aside0.mk (Kd.R_drew HO_353001.out)
       have n2_:=Aside0.mk (blk_drew BK352.out)
       have n3_:=Aside0.mk (blk_drew BK353.out)
       have n4_:=Aside0.mk (below_drew1 HB.out)
       clear HO_353000 HO_353001 BK352 BK353 HB
       have HO_353000:=n0_
       have HO_353001:=n1_
       have BK352:=n2_
       have BK353:=n3_
       have HB:=n4_
       clear n0_ n1_ n2_ n3_ n4_
       have p362:0≤(x7_1:Int):=of_decide_eq_true (by first|(with_reducible assumption)|assumption)
       have q362:x7_1 < (l1.length:Int):=of_decide_eq_true (by first|(with_reducible assumption)|assumption)
       obtain ⟨ad362,e362,hx362_0,hx362_1,hx362_2⟩:=at_T55 HR1.out x7_1 p362 q362
       have hw362_2:=hx362_2
       have hw362_1:=hx362_1
       have hw362_0:=hx362_0
       cases e362
       replace hx362_0:=(HB.out.cell (World.block_lt_of_cell? w _ hx362_0)).trans hx362_0
       replace hx362_1:=(HB.out.cell (World.block_lt_of_cell? w _ hx362_1)).trans hx362_1
       replace hx362_2:=(HB.out.cell (World.block_lt_of_cell? w _ hx362_2)).trans hx362_2
       replace p362:=eq_true p362
       replace q362:=eq_true q362
       refine start_ (n:=17) (S:=fun w'=>w'.cell? (ad362.add ((x7_1).toNat * 3))=some (.int .i64 ((rd_T55 l1 x7_1).f0))∧w'.cell? ⟨(ad362.add ((x7_1).toNat * 3)).block,(ad362.add ((x7_1).toNat * 3)).off + 1,none⟩=some (.int .i64 ((rd_T55 l1 x7_1).f1))∧w'.cell? ⟨(ad362.add ((x7_1).toNat * 3)).block,(ad362.add ((x7_1).toNat * 3)).off + 2,none⟩=some (.int .i64 ((rd_T55 l1 x7_1).f2))) (ds:=[]) #[false,false,false,false,false,false,false,false,false,false,false,false,false,false,false,false,false] (by kernel_rfl) rfl rfl ⟨((HB.out.cell (World.block_lt_of_cell? w _ hw362_0)).trans hw362_0),((HB.out.cell (World.block_lt_of_cell? w _ hw362_1)).trans hw362_1),((HB.out.cell (World.block_lt_of_cell? w _ hw362_2)).trans hw362_2)⟩ (fun hHeld=>?_);refine with_tabW slipwayref06_Apply.tab8 slipwayref06_Apply.bits8 (fun HT_ HW_=>?_)
       generalize wr.drew=w38 at HO_353000 HO_353001 BK352 BK353 HB hx362_0 hx362_1 hx362_2 hHeld ⊢
       refine pure_ (i:=0) (N:=some 22) (v:=?_) (a':=?_) #[true,false,false,false,false,false,false,false,false,false,false,false,false,false,false,false,false] rfl rfl (any_of HT_.out (by kernel_rfl)) (fun _ _ _ h=>h) (Or.inl ⟨by rfl,?_⟩) ?_ ?_
       rotate_left
       ·intro w'
        go_simp
        with_reducible rfl
       rotate_left
       ·simp only [Act.put,List.setIfInBounds_toArray,List.set_cons_zero,List.set_cons_succ,i64_w,i32_w]
        rfl
       refine pure_ (i:=1) (N:=some 23) (v:=?_) (a':=?_) #[true,true,false,false,false,false,false,false,false,false,false,false,false,false,false,false,false] rfl rfl (any_of HT_.out (by kernel_rfl)) (fun _ _ _ h=>h) (Or.inl ⟨by rfl,?_⟩) ?_ ?_
       rotate_left
       ·intro w'
        go_simp
        with_reducible rfl
       rotate_left
       ·simp only [Act.put,List.setIfInBounds_toArray,List.set_cons_zero,List.set_cons_succ,i64_w,i32_w]
        rfl
       refine pure_ (i:=2) (N:=some 24) (v:=?_) (a':=?_) #[true,true,true,false,false,false,false,false,false,false,false,false,false,false,false,false,false] rfl rfl (any_of HT_.out (by kernel_rfl)) (fun _ _ _ h=>h) (Or.inl ⟨by rfl,?_⟩) ?_ ?_
       rotate_left
       ·intro w'
        go_simp
        with_reducible rfl
       rotate_left
       ·simp only [Act.put,List.setIfInBounds_toArray,List.set_cons_zero,List.set_cons_succ,i64_w,i32_w]
        rfl
       refine take_ (i:=3) (N:=some 25) (v:=?_) (a':=?_) #[true,true,true,true,false,false,false,false,false,false,false,false,false,false,false,false,false] rfl rfl (take_ofW HT_.out HW_.out (by kernel_rfl)) (fun _ _ _ h=>h) (Or.inl ⟨by rfl,?_⟩) hHeld ?_ ?_
       rotate_left
       ·rintro w' ⟨s0,s1,s2⟩
        go_simp
        with_reducible rfl
       rotate_left
       ·simp only [Act.put,List.setIfInBounds_toArray,List.set_cons_zero,List.set_cons_succ,i64_w,i32_w]
        rfl
       refine one_ (i:=4) (N:=some 26) #[true,true,true,true,true,false,false,false,false,false,false,false,false,false,false,false,false] rfl rfl (one_of HT_.out (by kernel_rfl)) (by decide) (fun K hK=>?_)
       refine goes_ Try.func63 (by kernel_rfl) rfl #[.agg #[.int .i64 ((rd_T55 l1 x7_1).f0),.int .i64 ((rd_T55 l1 x7_1).f1),.int .i64 ((rd_T55 l1 x7_1).f2)]] (by rfl) rfl rfl (by (try simp only [List.map_toArray,List.map_cons,List.map_nil]);first|done|rfl|(simp only [List.length_drop,List.length_take];rfl)) ?_
       with_reducible refine (slipwayref06_may.calls k1 ((rd_T55 l1 x7_1).f0) ((rd_T55 l1 x7_1).f1) ((rd_T55 l1 x7_1).f2) false _ A18.out).mono ?_
       rintro e w39 ⟨rfl,hb⟩
       refine ⟨_,rfl,?_⟩
       have n0_:=Aside0.mk (Kd.R_below (by (with_reducible repeat (first|apply Kd.R_alloc|apply Kd.R_drewN|apply Kd.R_drew));exact HO_353000.out) hb)
       have n1_:=Aside0.mk (Kd.R_below (by (with_reducible repeat (first|apply Kd.R_alloc|apply Kd.R_drewN|apply Kd.R_drew));exact HO_353001.out) hb)
       have n2_:=Aside0.mk (blk_below (g:=gb352) (o:=.cells #[u353000,u353001,.int .i64 x353002_1] 25 (0,0)) (by (with_reducible repeat (first|refine blk_drewN ?_ _|refine blk_drew ?_|refine blk_alloc ?_ _));exact BK352.out) hb)
       have n3_:=Aside0.mk (blk_below (g:=gb353) (o:=.cells #[.slice none 0 0,.slice none 0 0,.int .i64 x354002_1] 25 (0,0)) (by (with_reducible repeat (first|refine blk_drewN ?_ _|refine blk_drew ?_|refine blk_alloc ?_ _));exact BK353.out) hb)
       have n4_:=Aside0.mk (below_step (by repeat (first|(with_reducible first|exact HB.out|apply below_alloc|apply pw_below_drewN|apply below_drew1|refine below_set ?_ GE352.out|refine below_set ?_ GE353.out)|exact HB.out)) hb)
       clear HO_353000 HO_353001 BK352 BK353 HB
       have HO_353000:=n0_
       have HO_353001:=n1_
       have BK352:=n2_
       have BK353:=n3_
       have HB:=n4_
       clear n0_ n1_ n2_ n3_ n4_
       (try clear hb)
       (try clear hb2)
       (try clear hk)
       (try clear hi)
       refine hK.out _ _ ⟨((HB.out.cell (World.block_lt_of_cell? w _ hw362_0)).trans hw362_0),((HB.out.cell (World.block_lt_of_cell? w _ hw362_1)).trans hw362_1),((HB.out.cell (World.block_lt_of_cell? w _ hw362_2)).trans hw362_2)⟩ (fun hHeld=>?_)
       clear hK K
       refine norm_ (a':=?_) ?_ ?_
       rotate_left
       ·show Act.put _ (some 26) _=_
        simp only [Act.put,List.setIfInBounds_toArray,List.set_cons_zero,List.set_cons_succ,i64_w,i32_w]
        rfl
       refine pure_ (i:=5) (N:=some 27) (v:=?_) (a':=?_) #[true,true,true,true,true,true,false,false,false,false,false,false,false,false,false,false,false] rfl rfl (any_of HT_.out (by kernel_rfl)) (fun _ _ _ h=>h) (Or.inl ⟨by rfl,?_⟩) ?_ ?_
       rotate_left
       ·intro w'
        go_simp
        with_reducible rfl
       rotate_left
       ·simp only [Act.put,List.setIfInBounds_toArray,List.set_cons_zero,List.set_cons_succ,i64_w,i32_w]
        rfl
       refine pure_ (i:=6) (N:=some 28) (v:=?_) (a':=?_) #[true,true,true,true,true,true,true,false,false,false,false,false,false,false,false,false,false] rfl rfl (any_of HT_.out (by kernel_rfl)) (fun _ _ _ h=>h) (Or.inl ⟨by rfl,?_⟩) ?_ ?_
       rotate_left
       ·intro w'
        go_simp
        with_reducible rfl
       rotate_left
       ·simp only [Act.put,List.setIfInBounds_toArray,List.set_cons_zero,List.set_cons_succ,i64_w,i32_w]
        rfl
       refine pure_ (i:=7) (N:=some 29) (v:=undef) (a':=?_) #[true,true,true,true,true,true,true,true,false,false,false,false,false,false,false,false,false] rfl rfl (any_of HT_.out (by kernel_rfl)) (fun _ _ _ h=>h) (Or.inr ⟨by rfl,rfl⟩) ?_ ?_
       rotate_left
       ·simp only [Act.put,List.setIfInBounds_toArray,List.set_cons_zero,List.set_cons_succ,i64_w,i32_w]
        rfl
       refine pure_ (i:=8) (N:=some 30) (v:=undef) (a':=?_) #[true,true,true,true,true,true,true,true,true,false,false,false,false,false,false,false,false] rfl rfl (any_of HT_.out (by kernel_rfl)) (fun _ _ _ h=>h) (Or.inr ⟨by rfl,rfl⟩) ?_ ?_
       rotate_left
       ·simp only [Act.put,List.setIfInBounds_toArray,List.set_cons_zero,List.set_cons_succ,i64_w,i32_w]
        rfl
       refine pure_ (i:=9) (N:=some 31) (v:=undef) (a':=?_) #[true,true,true,true,true,true,true,true,true,true,false,false,false,false,false,false,false] rfl rfl (any_of HT_.out (by kernel_rfl)) (fun _ _ _ h=>h) (Or.inr ⟨by rfl,rfl⟩) ?_ ?_
       rotate_left
       ·simp only [Act.put,List.setIfInBounds_toArray,List.set_cons_zero,List.set_cons_succ,i64_w,i32_w]
        rfl
       refine pure_ (i:=10) (N:=some 32) (v:=undef) (a':=?_) #[true,true,true,true,true,true,true,true,true,true,true,false,false,false,false,false,false] rfl rfl (any_of HT_.out (by kernel_rfl)) (fun _ _ _ h=>h) (Or.inr ⟨by rfl,rfl⟩) ?_ ?_
       rotate_left
       ·simp only [Act.put,List.setIfInBounds_toArray,List.set_cons_zero,List.set_cons_succ,i64_w,i32_w]
        rfl
       refine pure_ (i:=11) (N:=some 33) (v:=undef) (a':=?_) #[true,true,true,true,true,true,true,true,true,true,true,true,false,false,false,false,false] rfl rfl (any_of HT_.out (by kernel_rfl)) (fun _ _ _ h=>h) (Or.inr ⟨by rfl,rfl⟩) ?_ ?_
       rotate_left
       ·simp only [Act.put,List.setIfInBounds_toArray,List.set_cons_zero,List.set_cons_succ,i64_w,i32_w]
        rfl
       refine pure_ (i:=12) (N:=some 34) (v:=undef) (a':=?_) #[true,true,true,true,true,true,true,true,true,true,true,true,true,false,false,false,false] rfl rfl (any_of HT_.out (by kernel_rfl)) (fun _ _ _ h=>h) (Or.inr ⟨by rfl,rfl⟩) ?_ ?_
       rotate_left
       ·simp only [Act.put,List.setIfInBounds_toArray,List.set_cons_zero,List.set_cons_succ,i64_w,i32_w]
        rfl
       refine pure_ (i:=13) (N:=some 35) (v:=undef) (a':=?_) #[true,true,true,true,true,true,true,true,true,true,true,true,true,true,false,false,false] rfl rfl (any_of HT_.out (by kernel_rfl)) (fun _ _ _ h=>h) (Or.inr ⟨by rfl,rfl⟩) ?_ ?_
       rotate_left
       ·simp only [Act.put,List.setIfInBounds_toArray,List.set_cons_zero,List.set_cons_succ,i64_w,i32_w]
        rfl
       refine pure_ (i:=14) (N:=some 36) (v:=undef) (a':=?_) #[true,true,true,true,true,true,true,true,true,true,true,true,true,true,true,false,false] rfl rfl (any_of HT_.out (by kernel_rfl)) (fun _ _ _ h=>h) (Or.inr ⟨by rfl,rfl⟩) ?_ ?_
       rotate_left
       ·simp only [Act.put,List.setIfInBounds_toArray,List.set_cons_zero,List.set_cons_succ,i64_w,i32_w]
        rfl
       refine pure_ (i:=15) (N:=some 37) (v:=undef) (a':=?_) #[true,true,true,true,true,true,true,true,true,true,true,true,true,true,true,true,false] rfl rfl (any_of HT_.out (by kernel_rfl)) (fun _ _ _ h=>h) (Or.inr ⟨by rfl,rfl⟩) ?_ ?_
       rotate_left
       ·simp only [Act.put,List.setIfInBounds_toArray,List.set_cons_zero,List.set_cons_succ,i64_w,i32_w]
        rfl
       refine pure_ (i:=16) (N:=some 38) (v:=?_) (a':=?_) #[true,true,true,true,true,true,true,true,true,true,true,true,true,true,true,true,true] rfl rfl (any_of HT_.out (by kernel_rfl)) (fun _ _ _ h=>h) (Or.inl ⟨by rfl,?_⟩) ?_ ?_
       rotate_left
       ·intro w'
        go_simp
        with_reducible rfl
       rotate_left
       ·simp only [Act.put,List.setIfInBounds_toArray,List.set_cons_zero,List.set_cons_succ,i64_w,i32_w]
        rfl
       refine done_ (done_of HT_.out (by kernel_rfl)) ?_
       have hnb40:=NB353_352.out
       have hnc40:=NB352_353.out
       have hcz41_0:w39.cell? ⟨gb353,0,none⟩=some (.slice none 0 0):=(blk_cell BK353.out 0).trans rfl
       have hcz41_1:w39.cell? ⟨gb353,1,none⟩=some (.slice none 0 0):=(blk_cell BK353.out 1).trans rfl
       have hcz41_2:w39.cell? ⟨gb353,2,none⟩=some (.int .i64 x354002_1):=(blk_cell BK353.out 2).trans rfl
       have hfz41_0:=blk_frozen BK353.out 0
       have hfz41_1:=blk_frozen BK353.out 1
       have hfz41_2:=blk_frozen BK353.out 2
       try go_wp2
       refine bodyPost_ret (results_ct rfl _ _ gb353 25 #[.slice none 0 0,.slice none 0 0,.int .i64 0] (0,0) _ rfl (by (with_reducible repeat (first|refine blk_drewN ?_ _|refine blk_drew ?_|refine blk_alloc ?_ _));refine blk_put (cs:=#[.slice none 0 0,.slice none 0 0,.int .i64 x354002_1]) ?_ 2 _ rfl;(with_reducible repeat (first|refine blk_drewN ?_ _|refine blk_drew ?_|refine blk_alloc ?_ _));refine blk_put (cs:=#[.slice none 0 0,.slice none 0 0,.int .i64 x354002_1]) ?_ 1 _ rfl;(with_reducible repeat (first|refine blk_drewN ?_ _|refine blk_drew ?_|refine blk_alloc ?_ _));refine blk_put (cs:=#[.slice none 0 0,.slice none 0 0,.int .i64 x354002_1]) ?_ 0 _ rfl;(with_reducible repeat (first|refine blk_drewN ?_ _|refine blk_drew ?_|refine blk_alloc ?_ _));exact BK353.out) Try.underlying25 rfl (by kernel_rfl)) rfl ?_
       exact ⟨_,_,by first|rfl|(simp [errW_none,errW_some] <;> rfl)|(simp [*,errW_none,errW_some] <;> rfl),by first|exact Kd.R_nil _ _ _ _ _|exact Kd.N_nil _ _ _ _ _|exact Kd.V_nil _ _ _ _ _|exact Kd.Q_nil _ _ _ _ _|exact Kd.S_nil _ _ _ _ _,by first|exact Kd.R_nil _ _ _ _ _|exact Kd.N_nil _ _ _ _ _|exact Kd.V_nil _ _ _ _ _|exact Kd.Q_nil _ _ _ _ _|exact Kd.S_nil _ _ _ _ _,by repeat (first|(with_reducible first|exact HB.out|apply below_alloc|apply pw_below_drewN|apply below_drew1|refine below_set ?_ GE352.out|refine below_set ?_ GE353.out)|exact HB.out)⟩
     ·rw [if_neg c17] at H
      exact absurd H (by simp)
    ·rw [if_neg c16] at H
     have c16b0:decide (x7_1 < (l1.length:Int))=false:=decide_eq_false c16
     clear c16
     simp only [Option.some.injEq,Prod.mk.injEq] at H
     obtain ⟨rfl,rfl,rfl,rfl⟩:=H
     have hnb42:=NB352_353.out
     have hnc42:=NB353_352.out
     have hcz43_0:wr.cell? ⟨gb352,0,none⟩=some (u353000):=(blk_cell BK352.out 0).trans rfl
     have hcz43_1:wr.cell? ⟨gb352,1,none⟩=some (u353001):=(blk_cell BK352.out 1).trans rfl
     have hcz43_2:wr.cell? ⟨gb352,2,none⟩=some (.int .i64 x353002_1):=(blk_cell BK352.out 2).trans rfl
     have hfz43_0:=blk_frozen BK352.out 0
     have hfz43_1:=blk_frozen BK352.out 1
     have hfz43_2:=blk_frozen BK352.out 2
     obtain ⟨Ao44,co44,eo44⟩:=Kd.R_slice HO_353000.out
     subst eo44
     have hcz45_0:wr.cell? ⟨gb353,0,none⟩=some (.slice none 0 0):=(blk_cell BK353.out 0).trans rfl
     have hcz45_1:wr.cell? ⟨gb353,1,none⟩=some (.slice none 0 0):=(blk_cell BK353.out 1).trans rfl
     have hcz45_2:wr.cell? ⟨gb353,2,none⟩=some (.int .i64 x354002_1):=(blk_cell BK353.out 2).trans rfl
     have hfz45_0:=blk_frozen BK353.out 0
     have hfz45_1:=blk_frozen BK353.out 1
     have hfz45_2:=blk_frozen BK353.out 2
     obtain ⟨Ao46,co46,eo46⟩:=Kd.R_slice HO_353001.out
     subst eo46
     go_wp2
     refine bodyPost_ret (results_ct rfl _ _ gb353 25 #[.slice Ao44 x353000_1.length co44,.slice Ao46 x353001_1.length co46,.int .i64 x353002_1] (0,0) _ rfl (by (with_reducible repeat (first|refine blk_drewN ?_ _|refine blk_drew ?_|refine blk_alloc ?_ _));refine blk_put (cs:=#[.slice Ao44 x353000_1.length co44,.slice Ao46 x353001_1.length co46,.int .i64 x354002_1]) ?_ 2 _ rfl;(with_reducible repeat (first|refine blk_drewN ?_ _|refine blk_drew ?_|refine blk_alloc ?_ _));refine blk_put (cs:=#[.slice Ao44 x353000_1.length co44,.slice none 0 0,.int .i64 x354002_1]) ?_ 1 _ rfl;(with_reducible repeat (first|refine blk_drewN ?_ _|refine blk_drew ?_|refine blk_alloc ?_ _));refine blk_put (cs:=#[.slice none 0 0,.slice none 0 0,.int .i64 x354002_1]) ?_ 0 _ rfl;(with_reducible repeat (first|refine blk_drewN ?_ _|refine blk_drew ?_|refine blk_alloc ?_ _));exact BK353.out) Try.underlying25 rfl (by kernel_rfl)) rfl ?_
     exact ⟨_,_,by first|rfl|(simp [errW_none,errW_some] <;> rfl)|(simp [*,errW_none,errW_some] <;> rfl),by (with_reducible repeat (first|apply Kd.R_alloc|apply Kd.R_drewN|apply Kd.R_drew));exact Kd.R_mono (Kd.R_far (p:=⟨gb353,2,none⟩) (Kd.R_far (p:=⟨gb353,1,none⟩) (Kd.R_far (p:=⟨gb353,0,none⟩) (Kd.R_types HO_353000.out BK353.out (by decide)) (fun _ hk=>hk.2) (.slice Ao44 x353000_1.length co44)) (fun _ hk=>hk.2) (.slice Ao46 x353001_1.length co46)) (fun _ hk=>hk.2) (.int .i64 x353002_1)) (fun _ hk=>trivial),by (with_reducible repeat (first|apply Kd.R_alloc|apply Kd.R_drewN|apply Kd.R_drew));exact Kd.R_mono (Kd.R_far (p:=⟨gb353,2,none⟩) (Kd.R_far (p:=⟨gb353,1,none⟩) (Kd.R_far (p:=⟨gb353,0,none⟩) (Kd.R_types HO_353001.out BK353.out (by decide)) (fun _ hk=>hk.2) (.slice Ao44 x353000_1.length co44)) (fun _ hk=>hk.2) (.slice Ao46 x353001_1.length co46)) (fun _ hk=>hk.2) (.int .i64 x353002_1)) (fun _ hk=>trivial),by repeat (first|(with_reducible first|exact HB.out|apply below_alloc|apply pw_below_drewN|apply below_drew1|refine below_set ?_ GE352.out|refine below_set ?_ GE353.out)|exact HB.out)⟩
 ·rw [if_neg c4] at H
  have c4b0:(t354 == 0)=false:=beq_eq_false_iff_ne.mpr c4
  have c4b1:(t354 != 0)=true:=bne_iff_ne.mpr c4
  simp only [Option.some.injEq,Prod.mk.injEq] at H
  obtain ⟨rfl,rfl,rfl,rfl⟩:=H
  go_enter Try.func23,Try.ntmps23
  go_wp2_with (first|((with_reducible refine gate_dst (N:=2) rfl ?_);(try (refine gate_guard (by rfl) ?_;dsimp only));refine box_event ?hg (N:=2) ?hd (cs:=#[.slice A0_0 l0_0.length c0_0,.slice A0_1 l0_1.length c0_1,.int .i64 a0_2]) (t:=25) ?hr ?_;(case hd=>rfl);(case hg=>rfl);(case hr=>first|(go_simp;done)|(go_simp;rfl));intro gb352 hg w47 hbox hb;have n0_:=Aside0.mk (below_step (by repeat (first|(with_reducible first|exact HB.out|apply below_alloc|apply pw_below_drewN|apply below_drew1)|exact HB.out)) hb);have n1_:=Aside0.mk (hbox);have n2_:=Aside0.mk ((by rw [hg];exact (below_size (by repeat (first|(with_reducible first|exact HB.out|apply below_alloc|apply pw_below_drewN|apply below_drew1)|exact HB.out))):w.heap.size≤gb352));have n3_:=Aside0.mk ((by rw [hg];exact (below_size (by repeat (first|(with_reducible first|exact HB.out|apply below_alloc|apply pw_below_drewN|apply below_drew1)|exact HB.out))):w.heap.size≤gb352));clear HB;have HB:=n0_;have BK352:=n1_;have GW352:=n2_;have GE352:=n3_;clear n0_ n1_ n2_ n3_;clear hb hbox hg)|((with_reducible refine gate_dst (N:=4) rfl ?_);(try (refine gate_guard (by rfl) ?_;dsimp only));refine box_event ?hg (N:=4) ?hd (cs:=#[.slice none 0 0,.slice none 0 0,.int .i64 0]) (t:=25) ?hr ?_;(case hd=>rfl);(case hg=>rfl);(case hr=>first|(go_simp;done)|(go_simp;rfl));intro gb353 hg w48 hbox hb;have n0_:=Aside0.mk (blk_below (g:=gb352) (o:=.cells #[.slice A0_0 l0_0.length c0_0,.slice A0_1 l0_1.length c0_1,.int .i64 a0_2] 25 (0,0)) (by (with_reducible repeat (first|refine blk_drewN ?_ _|refine blk_drew ?_|refine blk_alloc ?_ _));exact BK352.out) hb);have n1_:=Aside0.mk (below_step (by repeat (first|(with_reducible first|exact HB.out|apply below_alloc|apply pw_below_drewN|apply below_drew1|refine below_set ?_ GE352.out)|exact HB.out)) hb);have n2_:=Aside0.mk (hbox);have n3_:=Aside0.mk ((by rw [hg];exact (below_size (by repeat (first|(with_reducible first|exact HB.out|apply below_alloc|apply pw_below_drewN|apply below_drew1|refine below_set ?_ GE352.out)|exact HB.out))):w.heap.size≤gb353));have n4_:=Aside0.mk ((by rw [hg];exact (below_size (by repeat (first|(with_reducible first|exact HB.out|apply below_alloc|apply pw_below_drewN|apply below_drew1|refine below_set ?_ GE352.out)|exact HB.out))):w.heap.size≤gb353));have n5_:=Aside0.mk ((by rw [hg];exact Nat.ne_of_lt (blk_lt (g:=gb352) (o:=.cells #[.slice A0_0 l0_0.length c0_0,.slice A0_1 l0_1.length c0_1,.int .i64 a0_2] 25 (0,0)) (by (with_reducible repeat (first|refine blk_drewN ?_ _|refine blk_drew ?_|refine blk_alloc ?_ _));exact BK352.out)):gb352≠gb353));have n6_:=Aside0.mk ((by rw [hg];exact Nat.ne_of_gt (blk_lt (g:=gb352) (o:=.cells #[.slice A0_0 l0_0.length c0_0,.slice A0_1 l0_1.length c0_1,.int .i64 a0_2] 25 (0,0)) (by (with_reducible repeat (first|refine blk_drewN ?_ _|refine blk_drew ?_|refine blk_alloc ?_ _));exact BK352.out)):gb353≠gb352));clear BK352 HB;have BK352:=n0_;have HB:=n1_;have BK353:=n2_;have GW353:=n3_;have GE353:=n4_;have NB352_353:=n5_;have NB353_352:=n6_;clear n0_ n1_ n2_ n3_ n4_ n5_ n6_;clear hb hbox hg;have hnb49:=NB352_353.out;have hnc49:=NB353_352.out;have hcz50_0:w48.cell? ⟨gb352,0,none⟩=some (.slice A0_0 l0_0.length c0_0):=(blk_cell BK352.out 0).trans rfl;have hcz50_1:w48.cell? ⟨gb352,1,none⟩=some (.slice A0_1 l0_1.length c0_1):=(blk_cell BK352.out 1).trans rfl;have hcz50_2:w48.cell? ⟨gb352,2,none⟩=some (.int .i64 a0_2):=(blk_cell BK352.out 2).trans rfl;have hfz50_0:=blk_frozen BK352.out 0;have hfz50_1:=blk_frozen BK352.out 1;have hfz50_2:=blk_frozen BK352.out 2)|((with_reducible refine gate_callee (f:=18) rfl ?_);refine goesL_ (some 9) rfl rfl Try.func18 (by kernel_rfl) rfl #[.agg #[.slice A0_0 l0_0.length c0_0,.slice A0_1 l0_1.length c0_1,.int .i64 a0_2]] rfl (by (try simp only [List.map_toArray,List.map_cons,List.map_nil]);first|done|rfl|(simp only [List.length_drop,List.length_take];rfl)) ?_;(with_reducible refine (slipwayref06_Check.calls k _ _ l0_0 _ _ l0_1 a0_2 t354 _ ?side1 ?side2 ?side3 ?side4 A3.out).mono ?_);(case side1=>repeat (first|exact (Kd.C_below HR0_0.out HB.out)|(with_reducible refine Kd.C_alloc ?_ _)|(with_reducible refine Kd.C_drewN ?_ _)|(with_reducible refine Kd.C_drew ?_)));(case side2=>exact HC0_0.out);(case side3=>repeat (first|exact (Kd.C_below HR0_1.out HB.out)|(with_reducible refine Kd.C_alloc ?_ _)|(with_reducible refine Kd.C_drewN ?_ _)|(with_reducible refine Kd.C_drew ?_)));(case side4=>exact HC0_1.out);rintro e w51 ⟨rfl,hb⟩;refine ⟨_,rfl,?_⟩;have n0_:=Aside0.mk (blk_below (g:=gb352) (o:=.cells #[.slice A0_0 l0_0.length c0_0,.slice A0_1 l0_1.length c0_1,.int .i64 a0_2] 25 (0,0)) (by (with_reducible repeat (first|refine blk_drewN ?_ _|refine blk_drew ?_|refine blk_alloc ?_ _));exact BK352.out) hb);have n1_:=Aside0.mk (blk_below (g:=gb353) (o:=.cells #[.slice none 0 0,.slice none 0 0,.int .i64 0] 25 (0,0)) (by (with_reducible repeat (first|refine blk_drewN ?_ _|refine blk_drew ?_|refine blk_alloc ?_ _));exact BK353.out) hb);have n2_:=Aside0.mk (below_step (by repeat (first|(with_reducible first|exact HB.out|apply below_alloc|apply pw_below_drewN|apply below_drew1|refine below_set ?_ GE352.out|refine below_set ?_ GE353.out)|exact HB.out)) hb);clear BK352 BK353 HB;have BK352:=n0_;have BK353:=n1_;have HB:=n2_;clear n0_ n1_ n2_;(try clear hb);(try clear hb2);(try clear hk);(try clear hi);have hcz52_0:w51.cell? ⟨gb353,0,none⟩=some (.slice none 0 0):=(blk_cell BK353.out 0).trans rfl;have hcz52_1:w51.cell? ⟨gb353,1,none⟩=some (.slice none 0 0):=(blk_cell BK353.out 1).trans rfl;have hcz52_2:w51.cell? ⟨gb353,2,none⟩=some (.int .i64 0):=(blk_cell BK353.out 2).trans rfl;have hfz52_0:=blk_frozen BK353.out 0;have hfz52_1:=blk_frozen BK353.out 1;have hfz52_2:=blk_frozen BK353.out 2))
  refine bodyPost_ret (results_ct rfl _ _ gb353 25 #[.slice none 0 0,.slice none 0 0,.int .i64 0] (0,0) _ rfl (by (with_reducible repeat (first|refine blk_drewN ?_ _|refine blk_drew ?_|refine blk_alloc ?_ _));refine blk_put (cs:=#[.slice none 0 0,.slice none 0 0,.int .i64 0]) ?_ 2 _ rfl;(with_reducible repeat (first|refine blk_drewN ?_ _|refine blk_drew ?_|refine blk_alloc ?_ _));refine blk_put (cs:=#[.slice none 0 0,.slice none 0 0,.int .i64 0]) ?_ 1 _ rfl;(with_reducible repeat (first|refine blk_drewN ?_ _|refine blk_drew ?_|refine blk_alloc ?_ _));refine blk_put (cs:=#[.slice none 0 0,.slice none 0 0,.int .i64 0]) ?_ 0 _ rfl;(with_reducible repeat (first|refine blk_drewN ?_ _|refine blk_drew ?_|refine blk_alloc ?_ _));exact BK353.out) Try.underlying25 rfl (by kernel_rfl)) rfl ?_
  exact ⟨_,_,by first|rfl|(simp [errW_none,errW_some] <;> rfl)|(simp [*,errW_none,errW_some] <;> rfl),by first|exact Kd.R_nil _ _ _ _ _|exact Kd.N_nil _ _ _ _ _|exact Kd.V_nil _ _ _ _ _|exact Kd.Q_nil _ _ _ _ _|exact Kd.S_nil _ _ _ _ _,by first|exact Kd.R_nil _ _ _ _ _|exact Kd.N_nil _ _ _ _ _|exact Kd.V_nil _ _ _ _ _|exact Kd.Q_nil _ _ _ _ _|exact Kd.S_nil _ _ _ _ _,by repeat (first|(with_reducible first|exact HB.out|apply below_alloc|apply pw_below_drewN|apply below_drew1|refine below_set ?_ GE352.out|refine below_set ?_ GE353.out)|exact HB.out)⟩
end Go.Proofs.Ytkhbmgclklmimaa.Print
end
section
namespace Go.Proofs.Ytkhbmgclklmimaa.Print
open Go.RowKit Go.Proofs.YtkhbmgclklmimaaW.PrintWords Go.Proofs.YtkhbmgclklmimaaW.PrintLast Go.Proofs.YtkhbmgclklmimaaW.PrintMore
attribute [local go_sem] max2_int min2_int max_two min_two max_three min_three max_four min_four   -- for this text's walks alone
attribute [local go_sem ↓] Go.Proofs.Ytkhbmgclklmimaa.Sem.isSome_setCell
attribute [local go_sem] Go.Instr.field Go.asAgg
set_option linter.unusedVariables false
set_option linter.unusedSimpArgs false
mutual
def mapjnl_Diff.j0:Nat → Bool → List Bool → List Int → Int → List Bool → List Int → Int → Option ((List (S55)) × Int)
 | 0,_,_,_,_,_,_,_=>none
 | k + 1,x15,x374000,x374001,x374002,x375000,x375001,x375002=>if x15=true then (some (([]:List (S55)),60)) else ((mapjnl_Covers.f k x375000 x375001 x375002 x374000 x374001 x374002).bind fun t377=>(if t377=true then (if x375002 > x374002 then (if ([]:List (S55)).length < 5864062014805 then (mapjnl_Diff.j1 k (([]:List (S55)) ++ [(⟨3,0,x375002⟩:S55)]) x374000 x374001 x374002 x375000 x375001 x375002) else (none)) else (mapjnl_Diff.j1 k ([]:List (S55)) x374000 x374001 x374002 x375000 x375001 x375002)) else (some (([]:List (S55)),1))))
def mapjnl_Diff.j1:Nat → List (S55) → List Bool → List Int → Int → List Bool → List Int → Int → Option ((List (S55)) × Int)
 | 0,_,_,_,_,_,_,_=>none
 | k + 1,x6,x374000,x374001,x374002,x375000,x375001,x375002=>mapjnl_Diff.l0 k x6 (x374000.length:Int) 0 x374000 x374001 x374002 x375000 x375001 x375002
def mapjnl_Diff.l0:Nat → List (S55) → Int → Int → List Bool → List Int → Int → List Bool → List Int → Int → Option ((List (S55)) × Int)
 | 0,_,_,_,_,_,_,_,_,_=>none
 | k + 1,x6,x33,x34,x374000,x374001,x374002,x375000,x375001,x375002=>if x34 < x33 then (if 0≤x34 then (if x34 < (x375000.length:Int) then (if rdOf false x375000 x34=true then (if x34 < (x374000.length:Int) then (mapjnl_Diff.j3 k x6 x34 x33 x34 (!(rdOf false x374000 x34)) x374000 x374001 x374002 x375000 x375001 x375002) else (none)) else (mapjnl_Diff.j3 k x6 x34 x33 x34 false x374000 x374001 x374002 x375000 x375001 x375002)) else (none)) else (none)) else (some (x6,0))
def mapjnl_Diff.j3:Nat → List (S55) → Int → Int → Int → Bool → List Bool → List Int → Int → List Bool → List Int → Int → Option ((List (S55)) × Int)
 | 0,_,_,_,_,_,_,_,_,_,_,_=>none
 | k + 1,x6,x7,x33,x34,x49,x374000,x374001,x374002,x375000,x375001,x375002=>if x49=true then (if x6.length < 5864062014805 then ((some (x6 ++ [(⟨1,x7,0⟩:S55)]:List (S55))).bind fun y383=>(if 0≤x7 then (if x7 < (x375001.length:Int) then (if x7 < (x374001.length:Int) then (if (rd x375001 x7) > (rd x374001 x7) then (if y383.length < 5864062014805 then (mapjnl_Diff.l0 k (y383 ++ [(⟨2,x7,rd x375001 x7⟩:S55)]) x33 (wrap64 (x34 + 1)) x374000 x374001 x374002 x375000 x375001 x375002) else (none)) else (mapjnl_Diff.l0 k y383 x33 (wrap64 (x34 + 1)) x374000 x374001 x374002 x375000 x375001 x375002)) else (none)) else (none)) else (none))) else (none)) else (if 0≤x7 then (if x7 < (x375001.length:Int) then (if x7 < (x374001.length:Int) then (if (rd x375001 x7) > (rd x374001 x7) then (if x6.length < 5864062014805 then (mapjnl_Diff.l0 k (x6 ++ [(⟨2,x7,rd x375001 x7⟩:S55)]) x33 (wrap64 (x34 + 1)) x374000 x374001 x374002 x375000 x375001 x375002) else (none)) else (mapjnl_Diff.l0 k x6 x33 (wrap64 (x34 + 1)) x374000 x374001 x374002 x375000 x375001 x375002)) else (none)) else (none)) else (none))
end
def mapjnl_Diff.f (k:Nat) (l0_0:List Bool) (l0_1:List Int) (a0_2:Int) (l1_0:List Bool) (l1_1:List Int) (a1_2:Int):Option ((List (S55)) × Int):=(mapjnl_Check.f k l0_0 l0_1 a0_2).bind fun t375=>(if t375=0 then ((mapjnl_Check.f k l1_0 l1_1 a1_2).bind fun t376=>(mapjnl_Diff.j0 k (t376 != 0) l0_0 l0_1 a0_2 l1_0 l1_1 a1_2)) else (mapjnl_Diff.j0 k true l0_0 l0_1 a0_2 l1_0 l1_1 a1_2))
set_option maxHeartbeats 8000000 in
set_option maxRecDepth 100000 in
theorem mapjnl_Diff.calls (k:Nat) (A0_0:Option Addr) (c0_0:Nat) (l0_0:List Bool) (A0_1:Option Addr) (c0_1:Nat) (l0_1:List Int) (a0_2:Int) (A1_0:Option Addr) (c1_0:Nat) (l1_0:List Bool) (A1_1:Option Addr) (c1_1:Nat) (l1_1:List Int) (a1_2:Int) (r1:List (S55)) (r2:Int) (w:World) (hr0_0:Kd.C Kd.bool w A0_0 l0_0.length l0_0) (hc0_0:l0_0.length≤c0_0) (hr0_1:Kd.C (Kd.int .i64) w A0_1 l0_1.length l0_1) (hc0_1:l0_1.length≤c0_1) (hr1_0:Kd.C Kd.bool w A1_0 l1_0.length l1_0) (hc1_0:l1_0.length≤c1_0) (hr1_1:Kd.C (Kd.int .i64) w A1_1 l1_1.length l1_1) (hc1_1:l1_1.length≤c1_1) (h:mapjnl_Diff.f k l0_0 l0_1 a0_2 l1_0 l1_1 a1_2=some (r1,r2)) :
  Calls Try.prog 24 #[.agg #[.slice A0_0 l0_0.length c0_0,.slice A0_1 l0_1.length c0_1,.int .i64 a0_2],.agg #[.slice A1_0 l1_0.length c1_0,.slice A1_1 l1_1.length c1_1,.int .i64 a1_2]] w fun e w'=>∃ v0_:Value,e=.returned (.tuple #[v0_,.int .i64 r2])∧Kd.R k55 55 w' w.heap.size (fun _=>True) v0_ r1∧Below w.heap.size w w':=by
 have hu25:=Try.underlying25
 have hu55:=Try.underlying55
 have HR0_0:=Aside0.mk hr0_0
 have HC0_0:=Aside0.mk hc0_0
 clear hr0_0 hc0_0
 have HR0_1:=Aside0.mk hr0_1
 have HC0_1:=Aside0.mk hc0_1
 clear hr0_1 hc0_1
 have HR1_0:=Aside0.mk hr1_0
 have HC1_0:=Aside0.mk hc1_0
 clear hr1_0 hc1_0
 have HR1_1:=Aside0.mk hr1_1
 have HC1_1:=Aside0.mk hc1_1
 clear hr1_1 hc1_1
 have HB:=Aside0.mk (Below.refl w.heap.size w)
 have H:((mapjnl_Check.f k l0_0 l0_1 a0_2).bind fun t375=>(if t375=0 then ((mapjnl_Check.f k l1_0 l1_1 a1_2).bind fun t376=>(mapjnl_Diff.j0 k (t376 != 0) l0_0 l0_1 a0_2 l1_0 l1_1 a1_2)) else (mapjnl_Diff.j0 k true l0_0 l0_1 a0_2 l1_0 l1_1 a1_2)))=some (r1,r2):=h
 clear h
 have HC3:=Aside0.mk H
 clear H
 go_enter Try.func24,Try.ntmps24
 go_upto_region 1 with (first|((with_reducible refine gate_dst (N:=2) rfl ?_);refine box_event ?hg (N:=2) ?hd (cs:=#[.slice A0_0 l0_0.length c0_0,.slice A0_1 l0_1.length c0_1,.int .i64 a0_2]) (t:=25) ?hr ?_;(case hd=>rfl);(case hg=>rfl);(case hr=>first|(go_simp;done)|(go_simp;rfl));intro gb373 hg w4 hbox hb;have n0_:=Aside0.mk (below_step (by repeat (first|(with_reducible first|exact HB.out|apply below_alloc|apply pw_below_drewN|apply below_drew1)|exact HB.out)) hb);have n1_:=Aside0.mk (hbox);have n2_:=Aside0.mk ((by rw [hg];exact (below_size (by repeat (first|(with_reducible first|exact HB.out|apply below_alloc|apply pw_below_drewN|apply below_drew1)|exact HB.out))):w.heap.size≤gb373));have n3_:=Aside0.mk ((by rw [hg];exact (below_size (by repeat (first|(with_reducible first|exact HB.out|apply below_alloc|apply pw_below_drewN|apply below_drew1)|exact HB.out))):w.heap.size≤gb373));clear HB;have HB:=n0_;have BK373:=n1_;have GW373:=n2_;have GE373:=n3_;clear n0_ n1_ n2_ n3_;clear hb hbox hg)|((with_reducible refine gate_dst (N:=3) rfl ?_);refine box_event ?hg (N:=3) ?hd (cs:=#[.slice A1_0 l1_0.length c1_0,.slice A1_1 l1_1.length c1_1,.int .i64 a1_2]) (t:=25) ?hr ?_;(case hd=>rfl);(case hg=>rfl);(case hr=>first|(go_simp;done)|(go_simp;rfl));intro gb374 hg w5 hbox hb;have n0_:=Aside0.mk (blk_below (g:=gb373) (o:=.cells #[.slice A0_0 l0_0.length c0_0,.slice A0_1 l0_1.length c0_1,.int .i64 a0_2] 25 (0,0)) (by (with_reducible repeat (first|refine blk_drewN ?_ _|refine blk_drew ?_|refine blk_alloc ?_ _));exact BK373.out) hb);have n1_:=Aside0.mk (below_step (by repeat (first|(with_reducible first|exact HB.out|apply below_alloc|apply pw_below_drewN|apply below_drew1|refine below_set ?_ GE373.out)|exact HB.out)) hb);have n2_:=Aside0.mk (hbox);have n3_:=Aside0.mk ((by rw [hg];exact (below_size (by repeat (first|(with_reducible first|exact HB.out|apply below_alloc|apply pw_below_drewN|apply below_drew1|refine below_set ?_ GE373.out)|exact HB.out))):w.heap.size≤gb374));have n4_:=Aside0.mk ((by rw [hg];exact (below_size (by repeat (first|(with_reducible first|exact HB.out|apply below_alloc|apply pw_below_drewN|apply below_drew1|refine below_set ?_ GE373.out)|exact HB.out))):w.heap.size≤gb374));have n5_:=Aside0.mk ((by rw [hg];exact Nat.ne_of_lt (blk_lt (g:=gb373) (o:=.cells #[.slice A0_0 l0_0.length c0_0,.slice A0_1 l0_1.length c0_1,.int .i64 a0_2] 25 (0,0)) (by (with_reducible repeat (first|refine blk_drewN ?_ _|refine blk_drew ?_|refine blk_alloc ?_ _));exact BK373.out)):gb373≠gb374));have n6_:=Aside0.mk ((by rw [hg];exact Nat.ne_of_gt (blk_lt (g:=gb373) (o:=.cells #[.slice A0_0 l0_0.length c0_0,.slice A0_1 l0_1.length c0_1,.int .i64 a0_2] 25 (0,0)) (by (with_reducible repeat (first|refine blk_drewN ?_ _|refine blk_drew ?_|refine blk_alloc ?_ _));exact BK373.out)):gb374≠gb373));clear BK373 HB;have BK373:=n0_;have HB:=n1_;have BK374:=n2_;have GW374:=n3_;have GE374:=n4_;have NB373_374:=n5_;have NB374_373:=n6_;clear n0_ n1_ n2_ n3_ n4_ n5_ n6_;clear hb hbox hg))
 repeat (go_quiet (first|((with_reducible refine gate_dst (N:=2) rfl ?_);refine box_event ?hg (N:=2) ?hd (cs:=#[.slice A0_0 l0_0.length c0_0,.slice A0_1 l0_1.length c0_1,.int .i64 a0_2]) (t:=25) ?hr ?_;(case hd=>rfl);(case hg=>rfl);(case hr=>first|(go_simp;done)|(go_simp;rfl));intro gb373 hg w4 hbox hb;have n0_:=Aside0.mk (below_step (by repeat (first|(with_reducible first|exact HB.out|apply below_alloc|apply pw_below_drewN|apply below_drew1)|exact HB.out)) hb);have n1_:=Aside0.mk (hbox);have n2_:=Aside0.mk ((by rw [hg];exact (below_size (by repeat (first|(with_reducible first|exact HB.out|apply below_alloc|apply pw_below_drewN|apply below_drew1)|exact HB.out))):w.heap.size≤gb373));have n3_:=Aside0.mk ((by rw [hg];exact (below_size (by repeat (first|(with_reducible first|exact HB.out|apply below_alloc|apply pw_below_drewN|apply below_drew1)|exact HB.out))):w.heap.size≤gb373));clear HB;have HB:=n0_;have BK373:=n1_;have GW373:=n2_;have GE373:=n3_;clear n0_ n1_ n2_ n3_;clear hb hbox hg)|((with_reducible refine gate_dst (N:=3) rfl ?_);refine box_event ?hg (N:=3) ?hd (cs:=#[.slice A1_0 l1_0.length c1_0,.slice A1_1 l1_1.length c1_1,.int .i64 a1_2]) (t:=25) ?hr ?_;(case hd=>rfl);(case hg=>rfl);(case hr=>first|(go_simp;done)|(go_simp;rfl));intro gb374 hg w5 hbox hb;have n0_:=Aside0.mk (blk_below (g:=gb373) (o:=.cells #[.slice A0_0 l0_0.length c0_0,.slice A0_1 l0_1.length c0_1,.int .i64 a0_2] 25 (0,0)) (by (with_reducible repeat (first|refine blk_drewN ?_ _|refine blk_drew ?_|refine blk_alloc ?_ _));exact BK373.out) hb);have n1_:=Aside0.mk (below_step (by repeat (first|(with_reducible first|exact HB.out|apply below_alloc|apply pw_below_drewN|apply below_drew1|refine below_set ?_ GE373.out)|exact HB.out)) hb);have n2_:=Aside0.mk (hbox);have n3_:=Aside0.mk ((by rw [hg];exact (below_size (by repeat (first|(with_reducible first|exact HB.out|apply below_alloc|apply pw_below_drewN|apply below_drew1|refine below_set ?_ GE373.out)|exact HB.out))):w.heap.size≤gb374));have n4_:=Aside0.mk ((by rw [hg];exact (below_size (by repeat (first|(with_reducible first|exact HB.out|apply below_alloc|apply pw_below_drewN|apply below_drew1|refine below_set ?_ GE373.out)|exact HB.out))):w.heap.size≤gb374));have n5_:=Aside0.mk ((by rw [hg];exact Nat.ne_of_lt (blk_lt (g:=gb373) (o:=.cells #[.slice A0_0 l0_0.length c0_0,.slice A0_1 l0_1.length c0_1,.int .i64 a0_2] 25 (0,0)) (by (with_reducible repeat (first|refine blk_drewN ?_ _|refine blk_drew ?_|refine blk_alloc ?_ _));exact BK373.out)):gb373≠gb374));have n6_:=Aside0.mk ((by rw [hg];exact Nat.ne_of_gt (blk_lt (g:=gb373) (o:=.cells #[.slice A0_0 l0_0.length c0_0,.slice A0_1 l0_1.length c0_1,.int .i64 a0_2] 25 (0,0)) (by (with_reducible repeat (first|refine blk_drewN ?_ _|refine blk_drew ?_|refine blk_alloc ?_ _));exact BK373.out)):gb374≠gb373));clear BK373 HB;have BK373:=n0_;have HB:=n1_;have BK374:=n2_;have GW374:=n3_;have GE374:=n4_;have NB373_374:=n5_;have NB374_373:=n6_;clear n0_ n1_ n2_ n3_ n4_ n5_ n6_;clear hb hbox hg));go_upto_region 1 with (first|((with_reducible refine gate_dst (N:=2) rfl ?_);refine box_event ?hg (N:=2) ?hd (cs:=#[.slice A0_0 l0_0.length c0_0,.slice A0_1 l0_1.length c0_1,.int .i64 a0_2]) (t:=25) ?hr ?_;(case hd=>rfl);(case hg=>rfl);(case hr=>first|(go_simp;done)|(go_simp;rfl));intro gb373 hg w4 hbox hb;have n0_:=Aside0.mk (below_step (by repeat (first|(with_reducible first|exact HB.out|apply below_alloc|apply pw_below_drewN|apply below_drew1)|exact HB.out)) hb);have n1_:=Aside0.mk (hbox);have n2_:=Aside0.mk ((by rw [hg];exact (below_size (by repeat (first|(with_reducible first|exact HB.out|apply below_alloc|apply pw_below_drewN|apply below_drew1)|exact HB.out))):w.heap.size≤gb373));have n3_:=Aside0.mk ((by rw [hg];exact (below_size (by repeat (first|(with_reducible first|exact HB.out|apply below_alloc|apply pw_below_drewN|apply below_drew1)|exact HB.out))):w.heap.size≤gb373));clear HB;have HB:=n0_;have BK373:=n1_;have GW373:=n2_;have GE373:=n3_;clear n0_ n1_ n2_ n3_;clear hb hbox hg)|((with_reducible refine gate_dst (N:=3) rfl ?_);refine box_event ?hg (N:=3) ?hd (cs:=#[.slice A1_0 l1_0.length c1_0,.slice A1_1 l1_1.length c1_1,.int .i64 a1_2]) (t:=25) ?hr ?_;(case hd=>rfl);(case hg=>rfl);(case hr=>first|(go_simp;done)|(go_simp;rfl));intro gb374 hg w5 hbox hb;have n0_:=Aside0.mk (blk_below (g:=gb373) (o:=.cells #[.slice A0_0 l0_0.length c0_0,.slice A0_1 l0_1.length c0_1,.int .i64 a0_2] 25 (0,0)) (by (with_reducible repeat (first|refine blk_drewN ?_ _|refine blk_drew ?_|refine blk_alloc ?_ _));exact BK373.out) hb);have n1_:=Aside0.mk (below_step (by repeat (first|(with_reducible first|exact HB.out|apply below_alloc|apply pw_below_drewN|apply below_drew1|refine below_set ?_ GE373.out)|exact HB.out)) hb);have n2_:=Aside0.mk (hbox);have n3_:=Aside0.mk ((by rw [hg];exact (below_size (by repeat (first|(with_reducible first|exact HB.out|apply below_alloc|apply pw_below_drewN|apply below_drew1|refine below_set ?_ GE373.out)|exact HB.out))):w.heap.size≤gb374));have n4_:=Aside0.mk ((by rw [hg];exact (below_size (by repeat (first|(with_reducible first|exact HB.out|apply below_alloc|apply pw_below_drewN|apply below_drew1|refine below_set ?_ GE373.out)|exact HB.out))):w.heap.size≤gb374));have n5_:=Aside0.mk ((by rw [hg];exact Nat.ne_of_lt (blk_lt (g:=gb373) (o:=.cells #[.slice A0_0 l0_0.length c0_0,.slice A0_1 l0_1.length c0_1,.int .i64 a0_2] 25 (0,0)) (by (with_reducible repeat (first|refine blk_drewN ?_ _|refine blk_drew ?_|refine blk_alloc ?_ _));exact BK373.out)):gb373≠gb374));have n6_:=Aside0.mk ((by rw [hg];exact Nat.ne_of_gt (blk_lt (g:=gb373) (o:=.cells #[.slice A0_0 l0_0.length c0_0,.slice A0_1 l0_1.length c0_1,.int .i64 a0_2] 25 (0,0)) (by (with_reducible repeat (first|refine blk_drewN ?_ _|refine blk_drew ?_|refine blk_alloc ?_ _));exact BK373.out)):gb374≠gb373));clear BK373 HB;have BK373:=n0_;have HB:=n1_;have BK374:=n2_;have GW374:=n3_;have GE374:=n4_;have NB373_374:=n5_;have NB374_373:=n6_;clear n0_ n1_ n2_ n3_ n4_ n5_ n6_;clear hb hbox hg)))
 (try simp only [Act.put,List.setIfInBounds_toArray,List.set_cons_zero,List.set_cons_succ])
 go_cut [15] (fun v15 wc=>∃ (kq:Nat) (x15_2:Bool),v15=.bool x15_2∧Aside0 (mapjnl_Diff.j0 kq x15_2 l0_0 l0_1 a0_2 l1_0 l1_1 a1_2=some (r1,r2))∧Aside0 (kq≤k)∧Aside0 (wc.heap[gb373]?=some (.cells #[(.slice A0_0 l0_0.length c0_0),(.slice A0_1 l0_1.length c0_1),.int .i64 a0_2] 25 (0,0)))∧Aside0 (wc.heap[gb374]?=some (.cells #[(.slice A1_0 l1_0.length c1_0),(.slice A1_1 l1_1.length c1_1),.int .i64 a1_2] 25 (0,0)))∧Aside0 (Below w.heap.size w wc))
 case first =>
  have H:=HC3.out
  clear HC3
  replace H:=Option.bind_eq_some_iff.mp H
  obtain ⟨t375,A60,H⟩:=H
  replace H:(if t375=0 then ((mapjnl_Check.f k l1_0 l1_1 a1_2).bind fun t376=>(mapjnl_Diff.j0 k (t376 != 0) l0_0 l0_1 a0_2 l1_0 l1_1 a1_2)) else (mapjnl_Diff.j0 k true l0_0 l0_1 a0_2 l1_0 l1_1 a1_2))=some (r1,r2):=H
  have A6:=Aside0.mk A60
  clear A60
  by_cases c7:t375=0
  ·rw [if_pos c7] at H
   have c7b0:(t375 == 0)=true:=beq_iff_eq.mpr c7
   have c7b1:(t375 != 0)=false:=bne_eq_false_iff_eq.mpr c7
   clear c7
   (first|rw [c7b0]|(simp only [i64_w,i32_w];rw [c7b0])|skip)
   replace H:=Option.bind_eq_some_iff.mp H
   obtain ⟨t376,A80,H⟩:=H
   replace H:(mapjnl_Diff.j0 k (t376 != 0) l0_0 l0_1 a0_2 l1_0 l1_1 a1_2)=some (r1,r2):=H
   have A8:=Aside0.mk A80
   clear A80
   have H':=Aside0.mk H
   clear H
   have hnb9:=NB373_374.out
   have hnc9:=NB374_373.out
   have hcz10_0:w5.cell? ⟨gb373,0,none⟩=some (.slice A0_0 l0_0.length c0_0):=(blk_cell BK373.out 0).trans rfl
   have hcz10_1:w5.cell? ⟨gb373,1,none⟩=some (.slice A0_1 l0_1.length c0_1):=(blk_cell BK373.out 1).trans rfl
   have hcz10_2:w5.cell? ⟨gb373,2,none⟩=some (.int .i64 a0_2):=(blk_cell BK373.out 2).trans rfl
   have hfz10_0:=blk_frozen BK373.out 0
   have hfz10_1:=blk_frozen BK373.out 1
   have hfz10_2:=blk_frozen BK373.out 2
   go_wp2_with (first|(go_at_call 17;(with_reducible refine (mapjnl_Check.calls k _ _ l0_0 _ _ l0_1 a0_2 t375 _ ?side1 ?side2 ?side3 ?side4 A6.out).mono ?_);(case side1=>repeat (first|exact (Kd.C_below HR0_0.out HB.out)|(with_reducible refine Kd.C_alloc ?_ _)|(with_reducible refine Kd.C_drewN ?_ _)|(with_reducible refine Kd.C_drew ?_)));(case side2=>exact HC0_0.out);(case side3=>repeat (first|exact (Kd.C_below HR0_1.out HB.out)|(with_reducible refine Kd.C_alloc ?_ _)|(with_reducible refine Kd.C_drewN ?_ _)|(with_reducible refine Kd.C_drew ?_)));(case side4=>exact HC0_1.out);rintro e w11 ⟨rfl,hb⟩;have n0_:=Aside0.mk (blk_below (g:=gb373) (o:=.cells #[.slice A0_0 l0_0.length c0_0,.slice A0_1 l0_1.length c0_1,.int .i64 a0_2] 25 (0,0)) (by (with_reducible repeat (first|refine blk_drewN ?_ _|refine blk_drew ?_|refine blk_alloc ?_ _));exact BK373.out) hb);have n1_:=Aside0.mk (blk_below (g:=gb374) (o:=.cells #[.slice A1_0 l1_0.length c1_0,.slice A1_1 l1_1.length c1_1,.int .i64 a1_2] 25 (0,0)) (by (with_reducible repeat (first|refine blk_drewN ?_ _|refine blk_drew ?_|refine blk_alloc ?_ _));exact BK374.out) hb);have n2_:=Aside0.mk (below_step (by repeat (first|(with_reducible first|exact HB.out|apply below_alloc|apply pw_below_drewN|apply below_drew1|refine below_set ?_ GE373.out|refine below_set ?_ GE374.out)|exact HB.out)) hb);clear BK373 BK374 HB;have BK373:=n0_;have BK374:=n1_;have HB:=n2_;clear n0_ n1_ n2_;(try clear hb);(try clear hb2);(try clear hk);(try clear hi);have hcz12_0:w11.cell? ⟨gb374,0,none⟩=some (.slice A1_0 l1_0.length c1_0):=(blk_cell BK374.out 0).trans rfl;have hcz12_1:w11.cell? ⟨gb374,1,none⟩=some (.slice A1_1 l1_1.length c1_1):=(blk_cell BK374.out 1).trans rfl;have hcz12_2:w11.cell? ⟨gb374,2,none⟩=some (.int .i64 a1_2):=(blk_cell BK374.out 2).trans rfl;have hfz12_0:=blk_frozen BK374.out 0;have hfz12_1:=blk_frozen BK374.out 1;have hfz12_2:=blk_frozen BK374.out 2)|(go_at_call 17;(with_reducible refine (mapjnl_Check.calls k _ _ l1_0 _ _ l1_1 a1_2 t376 _ ?side1 ?side2 ?side3 ?side4 A8.out).mono ?_);(case side1=>repeat (first|exact (Kd.C_below HR1_0.out HB.out)|(with_reducible refine Kd.C_alloc ?_ _)|(with_reducible refine Kd.C_drewN ?_ _)|(with_reducible refine Kd.C_drew ?_)));(case side2=>exact HC1_0.out);(case side3=>repeat (first|exact (Kd.C_below HR1_1.out HB.out)|(with_reducible refine Kd.C_alloc ?_ _)|(with_reducible refine Kd.C_drewN ?_ _)|(with_reducible refine Kd.C_drew ?_)));(case side4=>exact HC1_1.out);rintro e w13 ⟨rfl,hb⟩;have n0_:=Aside0.mk (blk_below (g:=gb373) (o:=.cells #[.slice A0_0 l0_0.length c0_0,.slice A0_1 l0_1.length c0_1,.int .i64 a0_2] 25 (0,0)) (by (with_reducible repeat (first|refine blk_drewN ?_ _|refine blk_drew ?_|refine blk_alloc ?_ _));exact BK373.out) hb);have n1_:=Aside0.mk (blk_below (g:=gb374) (o:=.cells #[.slice A1_0 l1_0.length c1_0,.slice A1_1 l1_1.length c1_1,.int .i64 a1_2] 25 (0,0)) (by (with_reducible repeat (first|refine blk_drewN ?_ _|refine blk_drew ?_|refine blk_alloc ?_ _));exact BK374.out) hb);have n2_:=Aside0.mk (below_step (by repeat (first|(with_reducible first|exact HB.out|apply below_alloc|apply pw_below_drewN|apply below_drew1|refine below_set ?_ GE373.out|refine below_set ?_ GE374.out)|exact HB.out)) hb);clear BK373 BK374 HB;have BK373:=n0_;have BK374:=n1_;have HB:=n2_;clear n0_ n1_ n2_;(try clear hb);(try clear hb2);(try clear hk);(try clear hi)))
   repeat (go_quiet (first|(go_at_call 17;(with_reducible refine (mapjnl_Check.calls k _ _ l0_0 _ _ l0_1 a0_2 t375 _ ?side1 ?side2 ?side3 ?side4 A6.out).mono ?_);(case side1=>repeat (first|exact (Kd.C_below HR0_0.out HB.out)|(with_reducible refine Kd.C_alloc ?_ _)|(with_reducible refine Kd.C_drewN ?_ _)|(with_reducible refine Kd.C_drew ?_)));(case side2=>exact HC0_0.out);(case side3=>repeat (first|exact (Kd.C_below HR0_1.out HB.out)|(with_reducible refine Kd.C_alloc ?_ _)|(with_reducible refine Kd.C_drewN ?_ _)|(with_reducible refine Kd.C_drew ?_)));(case side4=>exact HC0_1.out);rintro e w11 ⟨rfl,hb⟩;have n0_:=Aside0.mk (blk_below (g:=gb373) (o:=.cells #[.slice A0_0 l0_0.length c0_0,.slice A0_1 l0_1.length c0_1,.int .i64 a0_2] 25 (0,0)) (by (with_reducible repeat (first|refine blk_drewN ?_ _|refine blk_drew ?_|refine blk_alloc ?_ _));exact BK373.out) hb);have n1_:=Aside0.mk (blk_below (g:=gb374) (o:=.cells #[.slice A1_0 l1_0.length c1_0,.slice A1_1 l1_1.length c1_1,.int .i64 a1_2] 25 (0,0)) (by (with_reducible repeat (first|refine blk_drewN ?_ _|refine blk_drew ?_|refine blk_alloc ?_ _));exact BK374.out) hb);have n2_:=Aside0.mk (below_step (by repeat (first|(with_reducible first|exact HB.out|apply below_alloc|apply pw_below_drewN|apply below_drew1|refine below_set ?_ GE373.out|refine below_set ?_ GE374.out)|exact HB.out)) hb);clear BK373 BK374 HB;have BK373:=n0_;have BK374:=n1_;have HB:=n2_;clear n0_ n1_ n2_;(try clear hb);(try clear hb2);(try clear hk);(try clear hi);have hcz12_0:w11.cell? ⟨gb374,0,none⟩=some (.slice A1_0 l1_0.length c1_0):=(blk_cell BK374.out 0).trans rfl;have hcz12_1:w11.cell? ⟨gb374,1,none⟩=some (.slice A1_1 l1_1.length c1_1):=(blk_cell BK374.out 1).trans rfl;have hcz12_2:w11.cell? ⟨gb374,2,none⟩=some (.int .i64 a1_2):=(blk_cell BK374.out 2).trans rfl;have hfz12_0:=blk_frozen BK374.out 0;have hfz12_1:=blk_frozen BK374.out 1;have hfz12_2:=blk_frozen BK374.out 2)|(go_at_call 17;(with_reducible refine (mapjnl_Check.calls k _ _ l1_0 _ _ l1_1 a1_2 t376 _ ?side1 ?side2 ?side3 ?side4 A8.out).mono ?_);(case side1=>repeat (first|exact (Kd.C_below HR1_0.out HB.out)|(with_reducible refine Kd.C_alloc ?_ _)|(with_reducible refine Kd.C_drewN ?_ _)|(with_reducible refine Kd.C_drew ?_)));(case side2=>exact HC1_0.out);(case side3=>repeat (first|exact (Kd.C_below HR1_1.out HB.out)|(with_reducible refine Kd.C_alloc ?_ _)|(with_reducible refine Kd.C_drewN ?_ _)|(with_reducible refine Kd.C_drew ?_)));(case side4=>exact HC1_1.out);rintro e w13 ⟨rfl,hb⟩;have n0_:=Aside0.mk (blk_below (g:=gb373) (o:=.cells #[.slice A0_0 l0_0.length c0_0,.slice A0_1 l0_1.length c0_1,.int .i64 a0_2] 25 (0,0)) (by (with_reducible repeat (first|refine blk_drewN ?_ _|refine blk_drew ?_|refine blk_alloc ?_ _));exact BK373.out) hb);have n1_:=Aside0.mk (blk_below (g:=gb374) (o:=.cells #[.slice A1_0 l1_0.length c1_0,.slice A1_1 l1_1.length c1_1,.int .i64 a1_2] 25 (0,0)) (by (with_reducible repeat (first|refine blk_drewN ?_ _|refine blk_drew ?_|refine blk_alloc ?_ _));exact BK374.out) hb);have n2_:=Aside0.mk (below_step (by repeat (first|(with_reducible first|exact HB.out|apply below_alloc|apply pw_below_drewN|apply below_drew1|refine below_set ?_ GE373.out|refine below_set ?_ GE374.out)|exact HB.out)) hb);clear BK373 BK374 HB;have BK373:=n0_;have BK374:=n1_;have HB:=n2_;clear n0_ n1_ n2_;(try clear hb);(try clear hb2);(try clear hk);(try clear hi)));try go_wp2_with (first|(go_at_call 17;(with_reducible refine (mapjnl_Check.calls k _ _ l0_0 _ _ l0_1 a0_2 t375 _ ?side1 ?side2 ?side3 ?side4 A6.out).mono ?_);(case side1=>repeat (first|exact (Kd.C_below HR0_0.out HB.out)|(with_reducible refine Kd.C_alloc ?_ _)|(with_reducible refine Kd.C_drewN ?_ _)|(with_reducible refine Kd.C_drew ?_)));(case side2=>exact HC0_0.out);(case side3=>repeat (first|exact (Kd.C_below HR0_1.out HB.out)|(with_reducible refine Kd.C_alloc ?_ _)|(with_reducible refine Kd.C_drewN ?_ _)|(with_reducible refine Kd.C_drew ?_)));(case side4=>exact HC0_1.out);rintro e w11 ⟨rfl,hb⟩;have n0_:=Aside0.mk (blk_below (g:=gb373) (o:=.cells #[.slice A0_0 l0_0.length c0_0,.slice A0_1 l0_1.length c0_1,.int .i64 a0_2] 25 (0,0)) (by (with_reducible repeat (first|refine blk_drewN ?_ _|refine blk_drew ?_|refine blk_alloc ?_ _));exact BK373.out) hb);have n1_:=Aside0.mk (blk_below (g:=gb374) (o:=.cells #[.slice A1_0 l1_0.length c1_0,.slice A1_1 l1_1.length c1_1,.int .i64 a1_2] 25 (0,0)) (by (with_reducible repeat (first|refine blk_drewN ?_ _|refine blk_drew ?_|refine blk_alloc ?_ _));exact BK374.out) hb);have n2_:=Aside0.mk (below_step (by repeat (first|(with_reducible first|exact HB.out|apply below_alloc|apply pw_below_drewN|apply below_drew1|refine below_set ?_ GE373.out|refine below_set ?_ GE374.out)|exact HB.out)) hb);clear BK373 BK374 HB;have BK373:=n0_;have BK374:=n1_;have HB:=n2_;clear n0_ n1_ n2_;(try clear hb);(try clear hb2);(try clear hk);(try clear hi);have hcz12_0:w11.cell? ⟨gb374,0,none⟩=some (.slice A1_0 l1_0.length c1_0):=(blk_cell BK374.out 0).trans rfl;have hcz12_1:w11.cell? ⟨gb374,1,none⟩=some (.slice A1_1 l1_1.length c1_1):=(blk_cell BK374.out 1).trans rfl;have hcz12_2:w11.cell? ⟨gb374,2,none⟩=some (.int .i64 a1_2):=(blk_cell BK374.out 2).trans rfl;have hfz12_0:=blk_frozen BK374.out 0;have hfz12_1:=blk_frozen BK374.out 1;have hfz12_2:=blk_frozen BK374.out 2)|(go_at_call 17;(with_reducible refine (mapjnl_Check.calls k _ _ l1_0 _ _ l1_1 a1_2 t376 _ ?side1 ?side2 ?side3 ?side4 A8.out).mono ?_);(case side1=>repeat (first|exact (Kd.C_below HR1_0.out HB.out)|(with_reducible refine Kd.C_alloc ?_ _)|(with_reducible refine Kd.C_drewN ?_ _)|(with_reducible refine Kd.C_drew ?_)));(case side2=>exact HC1_0.out);(case side3=>repeat (first|exact (Kd.C_below HR1_1.out HB.out)|(with_reducible refine Kd.C_alloc ?_ _)|(with_reducible refine Kd.C_drewN ?_ _)|(with_reducible refine Kd.C_drew ?_)));(case side4=>exact HC1_1.out);rintro e w13 ⟨rfl,hb⟩;have n0_:=Aside0.mk (blk_below (g:=gb373) (o:=.cells #[.slice A0_0 l0_0.length c0_0,.slice A0_1 l0_1.length c0_1,.int .i64 a0_2] 25 (0,0)) (by (with_reducible repeat (first|refine blk_drewN ?_ _|refine blk_drew ?_|refine blk_alloc ?_ _));exact BK373.out) hb);have n1_:=Aside0.mk (blk_below (g:=gb374) (o:=.cells #[.slice A1_0 l1_0.length c1_0,.slice A1_1 l1_1.length c1_1,.int .i64 a1_2] 25 (0,0)) (by (with_reducible repeat (first|refine blk_drewN ?_ _|refine blk_drew ?_|refine blk_alloc ?_ _));exact BK374.out) hb);have n2_:=Aside0.mk (below_step (by repeat (first|(with_reducible first|exact HB.out|apply below_alloc|apply pw_below_drewN|apply below_drew1|refine below_set ?_ GE373.out|refine below_set ?_ GE374.out)|exact HB.out)) hb);clear BK373 BK374 HB;have BK373:=n0_;have BK374:=n1_;have HB:=n2_;clear n0_ n1_ n2_;(try clear hb);(try clear hb2);(try clear hk);(try clear hi))))
   go_meet
   case rel=>exact ⟨_,((t376 != 0)),(by first|rfl|(simp;done)|(simp [*];done)),H',⟨by first|omega|exact Nat.le_refl _⟩,⟨by (with_reducible repeat (first|refine blk_drewN ?_ _|refine blk_drew ?_|refine blk_alloc ?_ _));exact BK373.out⟩,⟨by (with_reducible repeat (first|refine blk_drewN ?_ _|refine blk_drew ?_|refine blk_alloc ?_ _));exact BK374.out⟩,⟨by repeat (first|(with_reducible first|exact HB.out|apply below_alloc|apply pw_below_drewN|apply below_drew1|refine below_set ?_ GE373.out|refine below_set ?_ GE374.out)|exact HB.out)⟩⟩
  ·rw [if_neg c7] at H
   have c7b0:(t375 == 0)=false:=beq_eq_false_iff_ne.mpr c7
   have c7b1:(t375 != 0)=true:=bne_iff_ne.mpr c7
   (first|rw [c7b0]|(simp only [i64_w,i32_w];rw [c7b0])|skip)
   have H':=Aside0.mk H
   clear H
   have hnb14:=NB373_374.out
   have hnc14:=NB374_373.out
   have hcz15_0:w5.cell? ⟨gb373,0,none⟩=some (.slice A0_0 l0_0.length c0_0):=(blk_cell BK373.out 0).trans rfl
   have hcz15_1:w5.cell? ⟨gb373,1,none⟩=some (.slice A0_1 l0_1.length c0_1):=(blk_cell BK373.out 1).trans rfl
   have hcz15_2:w5.cell? ⟨gb373,2,none⟩=some (.int .i64 a0_2):=(blk_cell BK373.out 2).trans rfl
   have hfz15_0:=blk_frozen BK373.out 0
   have hfz15_1:=blk_frozen BK373.out 1
   have hfz15_2:=blk_frozen BK373.out 2
   go_wp2_with (first|(go_at_call 17;(with_reducible refine (mapjnl_Check.calls k _ _ l0_0 _ _ l0_1 a0_2 t375 _ ?side1 ?side2 ?side3 ?side4 A6.out).mono ?_);(case side1=>repeat (first|exact (Kd.C_below HR0_0.out HB.out)|(with_reducible refine Kd.C_alloc ?_ _)|(with_reducible refine Kd.C_drewN ?_ _)|(with_reducible refine Kd.C_drew ?_)));(case side2=>exact HC0_0.out);(case side3=>repeat (first|exact (Kd.C_below HR0_1.out HB.out)|(with_reducible refine Kd.C_alloc ?_ _)|(with_reducible refine Kd.C_drewN ?_ _)|(with_reducible refine Kd.C_drew ?_)));(case side4=>exact HC0_1.out);rintro e w16 ⟨rfl,hb⟩;have n0_:=Aside0.mk (blk_below (g:=gb373) (o:=.cells #[.slice A0_0 l0_0.length c0_0,.slice A0_1 l0_1.length c0_1,.int .i64 a0_2] 25 (0,0)) (by (with_reducible repeat (first|refine blk_drewN ?_ _|refine blk_drew ?_|refine blk_alloc ?_ _));exact BK373.out) hb);have n1_:=Aside0.mk (blk_below (g:=gb374) (o:=.cells #[.slice A1_0 l1_0.length c1_0,.slice A1_1 l1_1.length c1_1,.int .i64 a1_2] 25 (0,0)) (by (with_reducible repeat (first|refine blk_drewN ?_ _|refine blk_drew ?_|refine blk_alloc ?_ _));exact BK374.out) hb);have n2_:=Aside0.mk (below_step (by repeat (first|(with_reducible first|exact HB.out|apply below_alloc|apply pw_below_drewN|apply below_drew1|refine below_set ?_ GE373.out|refine below_set ?_ GE374.out)|exact HB.out)) hb);clear BK373 BK374 HB;have BK373:=n0_;have BK374:=n1_;have HB:=n2_;clear n0_ n1_ n2_;(try clear hb);(try clear hb2);(try clear hk);(try clear hi)))
   repeat (go_quiet (first|(go_at_call 17;(with_reducible refine (mapjnl_Check.calls k _ _ l0_0 _ _ l0_1 a0_2 t375 _ ?side1 ?side2 ?side3 ?side4 A6.out).mono ?_);(case side1=>repeat (first|exact (Kd.C_below HR0_0.out HB.out)|(with_reducible refine Kd.C_alloc ?_ _)|(with_reducible refine Kd.C_drewN ?_ _)|(with_reducible refine Kd.C_drew ?_)));(case side2=>exact HC0_0.out);(case side3=>repeat (first|exact (Kd.C_below HR0_1.out HB.out)|(with_reducible refine Kd.C_alloc ?_ _)|(with_reducible refine Kd.C_drewN ?_ _)|(with_reducible refine Kd.C_drew ?_)));(case side4=>exact HC0_1.out);rintro e w16 ⟨rfl,hb⟩;have n0_:=Aside0.mk (blk_below (g:=gb373) (o:=.cells #[.slice A0_0 l0_0.length c0_0,.slice A0_1 l0_1.length c0_1,.int .i64 a0_2] 25 (0,0)) (by (with_reducible repeat (first|refine blk_drewN ?_ _|refine blk_drew ?_|refine blk_alloc ?_ _));exact BK373.out) hb);have n1_:=Aside0.mk (blk_below (g:=gb374) (o:=.cells #[.slice A1_0 l1_0.length c1_0,.slice A1_1 l1_1.length c1_1,.int .i64 a1_2] 25 (0,0)) (by (with_reducible repeat (first|refine blk_drewN ?_ _|refine blk_drew ?_|refine blk_alloc ?_ _));exact BK374.out) hb);have n2_:=Aside0.mk (below_step (by repeat (first|(with_reducible first|exact HB.out|apply below_alloc|apply pw_below_drewN|apply below_drew1|refine below_set ?_ GE373.out|refine below_set ?_ GE374.out)|exact HB.out)) hb);clear BK373 BK374 HB;have BK373:=n0_;have BK374:=n1_;have HB:=n2_;clear n0_ n1_ n2_;(try clear hb);(try clear hb2);(try clear hk);(try clear hi)));try go_wp2_with (first|(go_at_call 17;(with_reducible refine (mapjnl_Check.calls k _ _ l0_0 _ _ l0_1 a0_2 t375 _ ?side1 ?side2 ?side3 ?side4 A6.out).mono ?_);(case side1=>repeat (first|exact (Kd.C_below HR0_0.out HB.out)|(with_reducible refine Kd.C_alloc ?_ _)|(with_reducible refine Kd.C_drewN ?_ _)|(with_reducible refine Kd.C_drew ?_)));(case side2=>exact HC0_0.out);(case side3=>repeat (first|exact (Kd.C_below HR0_1.out HB.out)|(with_reducible refine Kd.C_alloc ?_ _)|(with_reducible refine Kd.C_drewN ?_ _)|(with_reducible refine Kd.C_drew ?_)));(case side4=>exact HC0_1.out);rintro e w16 ⟨rfl,hb⟩;have n0_:=Aside0.mk (blk_below (g:=gb373) (o:=.cells #[.slice A0_0 l0_0.length c0_0,.slice A0_1 l0_1.length c0_1,.int .i64 a0_2] 25 (0,0)) (by (with_reducible repeat (first|refine blk_drewN ?_ _|refine blk_drew ?_|refine blk_alloc ?_ _));exact BK373.out) hb);have n1_:=Aside0.mk (blk_below (g:=gb374) (o:=.cells #[.slice A1_0 l1_0.length c1_0,.slice A1_1 l1_1.length c1_1,.int .i64 a1_2] 25 (0,0)) (by (with_reducible repeat (first|refine blk_drewN ?_ _|refine blk_drew ?_|refine blk_alloc ?_ _));exact BK374.out) hb);have n2_:=Aside0.mk (below_step (by repeat (first|(with_reducible first|exact HB.out|apply below_alloc|apply pw_below_drewN|apply below_drew1|refine below_set ?_ GE373.out|refine below_set ?_ GE374.out)|exact HB.out)) hb);clear BK373 BK374 HB;have BK373:=n0_;have BK374:=n1_;have HB:=n2_;clear n0_ n1_ n2_;(try clear hb);(try clear hb2);(try clear hk);(try clear hi))))
   go_meet
   case rel=>exact ⟨_,(true),(by first|rfl|(simp;done)|(simp [*];done)),H',⟨by first|omega|exact Nat.le_refl _⟩,⟨by (with_reducible repeat (first|refine blk_drewN ?_ _|refine blk_drew ?_|refine blk_alloc ?_ _));exact BK373.out⟩,⟨by (with_reducible repeat (first|refine blk_drewN ?_ _|refine blk_drew ?_|refine blk_alloc ?_ _));exact BK374.out⟩,⟨by repeat (first|(with_reducible first|exact HB.out|apply below_alloc|apply pw_below_drewN|apply below_drew1|refine below_set ?_ GE373.out|refine below_set ?_ GE374.out)|exact HB.out)⟩⟩
 case rest =>
  clear HC3
  try clear c1
  try clear c2
  try clear p2
  try clear c7
  try clear c7b0
  try clear c7b1
  try clear c9
  try clear c14
  try clear hcz10_0
  try clear hcz10_1
  try clear hcz10_2
  try clear hcz12_0
  try clear hcz12_1
  try clear hcz12_2
  try clear hcz15_0
  try clear hcz15_1
  try clear hcz15_2
  try clear hfz10_0
  try clear hfz10_1
  try clear hfz10_2
  try clear hfz12_0
  try clear hfz12_1
  try clear hfz12_2
  try clear hfz15_0
  try clear hfz15_1
  try clear hfz15_2
  obtain ⟨kq,x15_2,rfl,HA,HJ2,BK373,BK374,HB⟩:=hcut
  cases kq with
  | zero=>exact absurd HA.out (by simp [mapjnl_Diff.j0])
  | succ kj2 =>
   have H:=HA.out
   clear HA
   simp only [mapjnl_Diff.j0] at H
   by_cases c17:x15_2=true
   ·subst c17
    have H1:(some (([]:List (S55)),60))=some (r1,r2):=by rw [if_pos rfl] at H;exact H
    clear H
    have H:=H1
    clear H1
    simp only [Option.some.injEq,Prod.mk.injEq] at H
    obtain ⟨rfl,rfl⟩:=H
    go_wp2
    repeat (go_quiet (fail);try go_wp2)
    go_ret2
    exact ⟨_,by first|rfl|(simp [errW_none,errW_some] <;> rfl)|(simp [*,errW_none,errW_some] <;> rfl),by first|exact Kd.R_nil _ _ _ _ _|exact Kd.N_nil _ _ _ _ _|exact Kd.V_nil _ _ _ _ _|exact Kd.Q_nil _ _ _ _ _|exact Kd.S_nil _ _ _ _ _,by repeat (first|(with_reducible first|exact HB.out|apply below_alloc|apply pw_below_drewN|apply below_drew1|refine below_set ?_ GE373.out|refine below_set ?_ GE374.out)|exact HB.out)⟩
   ·replace c17:=Bool.eq_false_iff.mpr c17
    subst c17
    have H1:((mapjnl_Covers.f kj2 l1_0 l1_1 a1_2 l0_0 l0_1 a0_2).bind fun t377=>(if t377=true then (if a1_2 > a0_2 then (if ([]:List (S55)).length < 5864062014805 then (mapjnl_Diff.j1 kj2 (([]:List (S55)) ++ [(⟨3,0,a1_2⟩:S55)]) l0_0 l0_1 a0_2 l1_0 l1_1 a1_2) else (none)) else (mapjnl_Diff.j1 kj2 ([]:List (S55)) l0_0 l0_1 a0_2 l1_0 l1_1 a1_2)) else (some (([]:List (S55)),1))))=some (r1,r2):=by rw [if_neg (show ¬ (false=true) by decide)] at H;exact H
    clear H
    have H:=H1
    clear H1
    replace H:=Option.bind_eq_some_iff.mp H
    obtain ⟨t377,A180,H⟩:=H
    replace H:(if t377=true then (if a1_2 > a0_2 then (if ([]:List (S55)).length < 5864062014805 then (mapjnl_Diff.j1 kj2 (([]:List (S55)) ++ [(⟨3,0,a1_2⟩:S55)]) l0_0 l0_1 a0_2 l1_0 l1_1 a1_2) else (none)) else (mapjnl_Diff.j1 kj2 ([]:List (S55)) l0_0 l0_1 a0_2 l1_0 l1_1 a1_2)) else (some (([]:List (S55)),1)))=some (r1,r2):=H
    have A18:=Aside0.mk A180
    clear A180
    by_cases c19:t377=true
    ·subst c19
     have H1:(if a1_2 > a0_2 then (if ([]:List (S55)).length < 5864062014805 then (mapjnl_Diff.j1 kj2 (([]:List (S55)) ++ [(⟨3,0,a1_2⟩:S55)]) l0_0 l0_1 a0_2 l1_0 l1_1 a1_2) else (none)) else (mapjnl_Diff.j1 kj2 ([]:List (S55)) l0_0 l0_1 a0_2 l1_0 l1_1 a1_2))=some (r1,r2):=by rw [if_pos rfl] at H;exact H
     clear H
     have H:=H1
     clear H1
     have HC20:=Aside0.mk H
     clear H
     have hnb21:=NB374_373.out
     have hnc21:=NB373_374.out
     have hcz22_0:wc.cell? ⟨gb374,0,none⟩=some (.slice A1_0 l1_0.length c1_0):=(blk_cell BK374.out 0).trans rfl
     have hcz22_1:wc.cell? ⟨gb374,1,none⟩=some (.slice A1_1 l1_1.length c1_1):=(blk_cell BK374.out 1).trans rfl
     have hcz22_2:wc.cell? ⟨gb374,2,none⟩=some (.int .i64 a1_2):=(blk_cell BK374.out 2).trans rfl
     have hfz22_0:=blk_frozen BK374.out 0
     have hfz22_1:=blk_frozen BK374.out 1
     have hfz22_2:=blk_frozen BK374.out 2
     have hcz23_0:wc.cell? ⟨gb373,0,none⟩=some (.slice A0_0 l0_0.length c0_0):=(blk_cell BK373.out 0).trans rfl
     have hcz23_1:wc.cell? ⟨gb373,1,none⟩=some (.slice A0_1 l0_1.length c0_1):=(blk_cell BK373.out 1).trans rfl
     have hcz23_2:wc.cell? ⟨gb373,2,none⟩=some (.int .i64 a0_2):=(blk_cell BK373.out 2).trans rfl
     have hfz23_0:=blk_frozen BK373.out 0
     have hfz23_1:=blk_frozen BK373.out 1
     have hfz23_2:=blk_frozen BK373.out 2
     go_upto_if 24 with (first|(go_at_call 19;(with_reducible refine (mapjnl_Covers.calls kj2 _ _ l1_0 _ _ l1_1 a1_2 _ _ l0_0 _ _ l0_1 a0_2 true _ ?side1 ?side2 ?side3 ?side4 ?side5 ?side6 ?side7 ?side8 A18.out).mono ?_);(case side1=>repeat (first|exact (Kd.C_below HR1_0.out HB.out)|(with_reducible refine Kd.C_alloc ?_ _)|(with_reducible refine Kd.C_drewN ?_ _)|(with_reducible refine Kd.C_drew ?_)));(case side2=>exact HC1_0.out);(case side3=>repeat (first|exact (Kd.C_below HR1_1.out HB.out)|(with_reducible refine Kd.C_alloc ?_ _)|(with_reducible refine Kd.C_drewN ?_ _)|(with_reducible refine Kd.C_drew ?_)));(case side4=>exact HC1_1.out);(case side5=>repeat (first|exact (Kd.C_below HR0_0.out HB.out)|(with_reducible refine Kd.C_alloc ?_ _)|(with_reducible refine Kd.C_drewN ?_ _)|(with_reducible refine Kd.C_drew ?_)));(case side6=>exact HC0_0.out);(case side7=>repeat (first|exact (Kd.C_below HR0_1.out HB.out)|(with_reducible refine Kd.C_alloc ?_ _)|(with_reducible refine Kd.C_drewN ?_ _)|(with_reducible refine Kd.C_drew ?_)));(case side8=>exact HC0_1.out);rintro e w24 ⟨rfl,hb⟩;have n0_:=Aside0.mk (blk_below (g:=gb373) (o:=.cells #[.slice A0_0 l0_0.length c0_0,.slice A0_1 l0_1.length c0_1,.int .i64 a0_2] 25 (0,0)) (by (with_reducible repeat (first|refine blk_drewN ?_ _|refine blk_drew ?_|refine blk_alloc ?_ _));exact BK373.out) hb);have n1_:=Aside0.mk (blk_below (g:=gb374) (o:=.cells #[.slice A1_0 l1_0.length c1_0,.slice A1_1 l1_1.length c1_1,.int .i64 a1_2] 25 (0,0)) (by (with_reducible repeat (first|refine blk_drewN ?_ _|refine blk_drew ?_|refine blk_alloc ?_ _));exact BK374.out) hb);have n2_:=Aside0.mk (below_step (by repeat (first|(with_reducible first|exact HB.out|apply below_alloc|apply pw_below_drewN|apply below_drew1|refine below_set ?_ GE373.out|refine below_set ?_ GE374.out)|exact HB.out)) hb);clear BK373 BK374 HB;have BK373:=n0_;have BK374:=n1_;have HB:=n2_;clear n0_ n1_ n2_;(try clear hb);(try clear hb2);(try clear hk);(try clear hi);have hcz25_0:w24.cell? ⟨gb374,0,none⟩=some (.slice A1_0 l1_0.length c1_0):=(blk_cell BK374.out 0).trans rfl;have hcz25_1:w24.cell? ⟨gb374,1,none⟩=some (.slice A1_1 l1_1.length c1_1):=(blk_cell BK374.out 1).trans rfl;have hcz25_2:w24.cell? ⟨gb374,2,none⟩=some (.int .i64 a1_2):=(blk_cell BK374.out 2).trans rfl;have hfz25_0:=blk_frozen BK374.out 0;have hfz25_1:=blk_frozen BK374.out 1;have hfz25_2:=blk_frozen BK374.out 2;have hcz26_0:w24.cell? ⟨gb373,0,none⟩=some (.slice A0_0 l0_0.length c0_0):=(blk_cell BK373.out 0).trans rfl;have hcz26_1:w24.cell? ⟨gb373,1,none⟩=some (.slice A0_1 l0_1.length c0_1):=(blk_cell BK373.out 1).trans rfl;have hcz26_2:w24.cell? ⟨gb373,2,none⟩=some (.int .i64 a0_2):=(blk_cell BK373.out 2).trans rfl;have hfz26_0:=blk_frozen BK373.out 0;have hfz26_1:=blk_frozen BK373.out 1;have hfz26_2:=blk_frozen BK373.out 2))
     repeat (go_quiet (first|(go_at_call 19;(with_reducible refine (mapjnl_Covers.calls kj2 _ _ l1_0 _ _ l1_1 a1_2 _ _ l0_0 _ _ l0_1 a0_2 true _ ?side1 ?side2 ?side3 ?side4 ?side5 ?side6 ?side7 ?side8 A18.out).mono ?_);(case side1=>repeat (first|exact (Kd.C_below HR1_0.out HB.out)|(with_reducible refine Kd.C_alloc ?_ _)|(with_reducible refine Kd.C_drewN ?_ _)|(with_reducible refine Kd.C_drew ?_)));(case side2=>exact HC1_0.out);(case side3=>repeat (first|exact (Kd.C_below HR1_1.out HB.out)|(with_reducible refine Kd.C_alloc ?_ _)|(with_reducible refine Kd.C_drewN ?_ _)|(with_reducible refine Kd.C_drew ?_)));(case side4=>exact HC1_1.out);(case side5=>repeat (first|exact (Kd.C_below HR0_0.out HB.out)|(with_reducible refine Kd.C_alloc ?_ _)|(with_reducible refine Kd.C_drewN ?_ _)|(with_reducible refine Kd.C_drew ?_)));(case side6=>exact HC0_0.out);(case side7=>repeat (first|exact (Kd.C_below HR0_1.out HB.out)|(with_reducible refine Kd.C_alloc ?_ _)|(with_reducible refine Kd.C_drewN ?_ _)|(with_reducible refine Kd.C_drew ?_)));(case side8=>exact HC0_1.out);rintro e w24 ⟨rfl,hb⟩;have n0_:=Aside0.mk (blk_below (g:=gb373) (o:=.cells #[.slice A0_0 l0_0.length c0_0,.slice A0_1 l0_1.length c0_1,.int .i64 a0_2] 25 (0,0)) (by (with_reducible repeat (first|refine blk_drewN ?_ _|refine blk_drew ?_|refine blk_alloc ?_ _));exact BK373.out) hb);have n1_:=Aside0.mk (blk_below (g:=gb374) (o:=.cells #[.slice A1_0 l1_0.length c1_0,.slice A1_1 l1_1.length c1_1,.int .i64 a1_2] 25 (0,0)) (by (with_reducible repeat (first|refine blk_drewN ?_ _|refine blk_drew ?_|refine blk_alloc ?_ _));exact BK374.out) hb);have n2_:=Aside0.mk (below_step (by repeat (first|(with_reducible first|exact HB.out|apply below_alloc|apply pw_below_drewN|apply below_drew1|refine below_set ?_ GE373.out|refine below_set ?_ GE374.out)|exact HB.out)) hb);clear BK373 BK374 HB;have BK373:=n0_;have BK374:=n1_;have HB:=n2_;clear n0_ n1_ n2_;(try clear hb);(try clear hb2);(try clear hk);(try clear hi);have hcz25_0:w24.cell? ⟨gb374,0,none⟩=some (.slice A1_0 l1_0.length c1_0):=(blk_cell BK374.out 0).trans rfl;have hcz25_1:w24.cell? ⟨gb374,1,none⟩=some (.slice A1_1 l1_1.length c1_1):=(blk_cell BK374.out 1).trans rfl;have hcz25_2:w24.cell? ⟨gb374,2,none⟩=some (.int .i64 a1_2):=(blk_cell BK374.out 2).trans rfl;have hfz25_0:=blk_frozen BK374.out 0;have hfz25_1:=blk_frozen BK374.out 1;have hfz25_2:=blk_frozen BK374.out 2;have hcz26_0:w24.cell? ⟨gb373,0,none⟩=some (.slice A0_0 l0_0.length c0_0):=(blk_cell BK373.out 0).trans rfl;have hcz26_1:w24.cell? ⟨gb373,1,none⟩=some (.slice A0_1 l0_1.length c0_1):=(blk_cell BK373.out 1).trans rfl;have hcz26_2:w24.cell? ⟨gb373,2,none⟩=some (.int .i64 a0_2):=(blk_cell BK373.out 2).trans rfl;have hfz26_0:=blk_frozen BK373.out 0;have hfz26_1:=blk_frozen BK373.out 1;have hfz26_2:=blk_frozen BK373.out 2));go_upto_if 24 with (first|(go_at_call 19;(with_reducible refine (mapjnl_Covers.calls kj2 _ _ l1_0 _ _ l1_1 a1_2 _ _ l0_0 _ _ l0_1 a0_2 true _ ?side1 ?side2 ?side3 ?side4 ?side5 ?side6 ?side7 ?side8 A18.out).mono ?_);(case side1=>repeat (first|exact (Kd.C_below HR1_0.out HB.out)|(with_reducible refine Kd.C_alloc ?_ _)|(with_reducible refine Kd.C_drewN ?_ _)|(with_reducible refine Kd.C_drew ?_)));(case side2=>exact HC1_0.out);(case side3=>repeat (first|exact (Kd.C_below HR1_1.out HB.out)|(with_reducible refine Kd.C_alloc ?_ _)|(with_reducible refine Kd.C_drewN ?_ _)|(with_reducible refine Kd.C_drew ?_)));(case side4=>exact HC1_1.out);(case side5=>repeat (first|exact (Kd.C_below HR0_0.out HB.out)|(with_reducible refine Kd.C_alloc ?_ _)|(with_reducible refine Kd.C_drewN ?_ _)|(with_reducible refine Kd.C_drew ?_)));(case side6=>exact HC0_0.out);(case side7=>repeat (first|exact (Kd.C_below HR0_1.out HB.out)|(with_reducible refine Kd.C_alloc ?_ _)|(with_reducible refine Kd.C_drewN ?_ _)|(with_reducible refine Kd.C_drew ?_)));(case side8=>exact HC0_1.out);rintro e w24 ⟨rfl,hb⟩;have n0_:=Aside0.mk (blk_below (g:=gb373) (o:=.cells #[.slice A0_0 l0_0.length c0_0,.slice A0_1 l0_1.length c0_1,.int .i64 a0_2] 25 (0,0)) (by (with_reducible repeat (first|refine blk_drewN ?_ _|refine blk_drew ?_|refine blk_alloc ?_ _));exact BK373.out) hb);have n1_:=Aside0.mk (blk_below (g:=gb374) (o:=.cells #[.slice A1_0 l1_0.length c1_0,.slice A1_1 l1_1.length c1_1,.int .i64 a1_2] 25 (0,0)) (by (with_reducible repeat (first|refine blk_drewN ?_ _|refine blk_drew ?_|refine blk_alloc ?_ _));exact BK374.out) hb);have n2_:=Aside0.mk (below_step (by repeat (first|(with_reducible first|exact HB.out|apply below_alloc|apply pw_below_drewN|apply below_drew1|refine below_set ?_ GE373.out|refine below_set ?_ GE374.out)|exact HB.out)) hb);clear BK373 BK374 HB;have BK373:=n0_;have BK374:=n1_;have HB:=n2_;clear n0_ n1_ n2_;(try clear hb);(try clear hb2);(try clear hk);(try clear hi);have hcz25_0:w24.cell? ⟨gb374,0,none⟩=some (.slice A1_0 l1_0.length c1_0):=(blk_cell BK374.out 0).trans rfl;have hcz25_1:w24.cell? ⟨gb374,1,none⟩=some (.slice A1_1 l1_1.length c1_1):=(blk_cell BK374.out 1).trans rfl;have hcz25_2:w24.cell? ⟨gb374,2,none⟩=some (.int .i64 a1_2):=(blk_cell BK374.out 2).trans rfl;have hfz25_0:=blk_frozen BK374.out 0;have hfz25_1:=blk_frozen BK374.out 1;have hfz25_2:=blk_frozen BK374.out 2;have hcz26_0:w24.cell? ⟨gb373,0,none⟩=some (.slice A0_0 l0_0.length c0_0):=(blk_cell BK373.out 0).trans rfl;have hcz26_1:w24.cell? ⟨gb373,1,none⟩=some (.slice A0_1 l0_1.length c0_1):=(blk_cell BK373.out 1).trans rfl;have hcz26_2:w24.cell? ⟨gb373,2,none⟩=some (.int .i64 a0_2):=(blk_cell BK373.out 2).trans rfl;have hfz26_0:=blk_frozen BK373.out 0;have hfz26_1:=blk_frozen BK373.out 1;have hfz26_2:=blk_frozen BK373.out 2)))
     (try simp only [Act.put,List.setIfInBounds_toArray,List.set_cons_zero,List.set_cons_succ])
     go_cut [6] (fun v6 wc=>∃ (kq:Nat) (x6_19:List (S55)),Aside0 (mapjnl_Diff.j1 kq x6_19 l0_0 l0_1 a0_2 l1_0 l1_1 a1_2=some (r1,r2))∧Aside0 (kq≤kj2)∧Aside0 (Kd.R k55 55 wc w.heap.size (fun _=>True) v6 x6_19)∧Aside0 (wc.heap[gb373]?=some (.cells #[(.slice A0_0 l0_0.length c0_0),(.slice A0_1 l0_1.length c0_1),.int .i64 a0_2] 25 (0,0)))∧Aside0 (wc.heap[gb374]?=some (.cells #[(.slice A1_0 l1_0.length c1_0),(.slice A1_1 l1_1.length c1_1),.int .i64 a1_2] 25 (0,0)))∧Aside0 (Below w.heap.size w wc))
     case first =>
      have H:=HC20.out
      clear HC20
      by_cases c27:a1_2 > a0_2
      ·rw [if_pos c27] at H
       have c27b0:decide (a0_2 < a1_2)=true:=decide_eq_true c27
       clear c27
       (first|rw [c27b0]|(simp only [i64_w,i32_w];rw [c27b0])|skip)
       by_cases c28:([]:List (S55)).length < 5864062014805
       ·rw [if_pos c28] at H
        have LMc28:=Aside0.mk c28
        clear c28
        obtain ⟨y378,hy378⟩:∃ y_:List (S55),y_=(([]:List (S55)) ++ [(⟨3,0,a1_2⟩:S55)]):=⟨_,rfl⟩
        replace H:(mapjnl_Diff.j1 kj2 y378 l0_0 l0_1 a0_2 l1_0 l1_1 a1_2)=some (r1,r2):=by first|(rw [hy378];with_reducible exact H)|(have H2_:=(Option.bind_some _ _).symm.trans H;rw [hy378];with_reducible exact H2_)|(have H2_:=(Option.bind_some _ _).symm.trans H;with_reducible exact H2_)|with_reducible exact H|(rw [hy378];exact H)|exact H
        have Ny378:=Aside0.mk hy378
        clear hy378
        have H':=Aside0.mk H
        clear H
        have hnb29:=NB374_373.out
        have hnc29:=NB373_374.out
        have hcz30_0:w24.cell? ⟨gb374,0,none⟩=some (.slice A1_0 l1_0.length c1_0):=(blk_cell BK374.out 0).trans rfl
        have hcz30_1:w24.cell? ⟨gb374,1,none⟩=some (.slice A1_1 l1_1.length c1_1):=(blk_cell BK374.out 1).trans rfl
        have hcz30_2:w24.cell? ⟨gb374,2,none⟩=some (.int .i64 a1_2):=(blk_cell BK374.out 2).trans rfl
        have hfz30_0:=blk_frozen BK374.out 0
        have hfz30_1:=blk_frozen BK374.out 1
        have hfz30_2:=blk_frozen BK374.out 2
        go_wp2_with (first|((with_reducible refine gate_builtin (b:=.append) (xs:=#[.tmp 25,.tmp 29]) rfl ?_);at_builtin;refine Kd.R_append k55 (w0:=w) w.heap.size rfl (.tmp 25) (.tmp 29) 34 55 (.agg #[(.int .i64 0),(.int .i64 0),(.int .i64 0)]) 24 rfl Try.underlying34 info55 rfl (by decide) (by omega) (.slice none 0 0) ([]:List (S55)) (⟨3,0,a1_2⟩:S55) [.int .i64 3,.int .i64 0,.int .i64 a1_2] (fun _=>True) (fun _=>False) rfl rfl ?aP (fun _ hk=>hk.elim) ?aF ?aO ?aB ?aS ?aL ?_;(case aP=>exact k55_mkM _ _ _ (⟨3,0,a1_2⟩:S55));(case aB=>exact (by repeat (first|(with_reducible first|exact HB.out|apply below_alloc|apply pw_below_drewN|apply below_drew1|refine below_set ?_ GE373.out|refine below_set ?_ GE374.out)|exact HB.out)));(case aF=>exact (fun _ _=>trivial));(case aO=>exact ((Kd.R_nil _ _ _ _ (fun _=>True))));(case aS=>exact (below_size (by repeat (first|(with_reducible first|exact HB.out|apply below_alloc|apply pw_below_drewN|apply below_drew1|refine below_set ?_ GE373.out|refine below_set ?_ GE374.out)|exact HB.out))));(case aL=>have:=LMc28.out;omega);intro v379 w31 ho hb hg hat;rw [← Ny378.out] at ho;have n0_:=Aside0.mk (blk_grown (g:=gb373) (o:=.cells #[.slice A0_0 l0_0.length c0_0,.slice A0_1 l0_1.length c0_1,.int .i64 a0_2] 25 (0,0)) (by (with_reducible repeat (first|refine blk_drewN ?_ _|refine blk_drew ?_|refine blk_alloc ?_ _));exact BK373.out) hg (by simp [Value.ownBlock]));have n1_:=Aside0.mk (blk_grown (g:=gb374) (o:=.cells #[.slice A1_0 l1_0.length c1_0,.slice A1_1 l1_1.length c1_1,.int .i64 a1_2] 25 (0,0)) (by (with_reducible repeat (first|refine blk_drewN ?_ _|refine blk_drew ?_|refine blk_alloc ?_ _));exact BK374.out) hg (by simp [Value.ownBlock]));have n2_:=Aside0.mk (hb);have n3_:=Aside0.mk (ho);clear BK373 BK374 HB;have BK373:=n0_;have BK374:=n1_;have HB:=n2_;have HO380:=n3_;clear n0_ n1_ n2_ n3_;clear ho hb hg hat))
        repeat (go_quiet (first|((with_reducible refine gate_builtin (b:=.append) (xs:=#[.tmp 25,.tmp 29]) rfl ?_);at_builtin;refine Kd.R_append k55 (w0:=w) w.heap.size rfl (.tmp 25) (.tmp 29) 34 55 (.agg #[(.int .i64 0),(.int .i64 0),(.int .i64 0)]) 24 rfl Try.underlying34 info55 rfl (by decide) (by omega) (.slice none 0 0) ([]:List (S55)) (⟨3,0,a1_2⟩:S55) [.int .i64 3,.int .i64 0,.int .i64 a1_2] (fun _=>True) (fun _=>False) rfl rfl ?aP (fun _ hk=>hk.elim) ?aF ?aO ?aB ?aS ?aL ?_;(case aP=>exact k55_mkM _ _ _ (⟨3,0,a1_2⟩:S55));(case aB=>exact (by repeat (first|(with_reducible first|exact HB.out|apply below_alloc|apply pw_below_drewN|apply below_drew1|refine below_set ?_ GE373.out|refine below_set ?_ GE374.out)|exact HB.out)));(case aF=>exact (fun _ _=>trivial));(case aO=>exact ((Kd.R_nil _ _ _ _ (fun _=>True))));(case aS=>exact (below_size (by repeat (first|(with_reducible first|exact HB.out|apply below_alloc|apply pw_below_drewN|apply below_drew1|refine below_set ?_ GE373.out|refine below_set ?_ GE374.out)|exact HB.out))));(case aL=>have:=LMc28.out;omega);intro v379 w31 ho hb hg hat;rw [← Ny378.out] at ho;have n0_:=Aside0.mk (blk_grown (g:=gb373) (o:=.cells #[.slice A0_0 l0_0.length c0_0,.slice A0_1 l0_1.length c0_1,.int .i64 a0_2] 25 (0,0)) (by (with_reducible repeat (first|refine blk_drewN ?_ _|refine blk_drew ?_|refine blk_alloc ?_ _));exact BK373.out) hg (by simp [Value.ownBlock]));have n1_:=Aside0.mk (blk_grown (g:=gb374) (o:=.cells #[.slice A1_0 l1_0.length c1_0,.slice A1_1 l1_1.length c1_1,.int .i64 a1_2] 25 (0,0)) (by (with_reducible repeat (first|refine blk_drewN ?_ _|refine blk_drew ?_|refine blk_alloc ?_ _));exact BK374.out) hg (by simp [Value.ownBlock]));have n2_:=Aside0.mk (hb);have n3_:=Aside0.mk (ho);clear BK373 BK374 HB;have BK373:=n0_;have BK374:=n1_;have HB:=n2_;have HO380:=n3_;clear n0_ n1_ n2_ n3_;clear ho hb hg hat));try go_wp2_with (first|((with_reducible refine gate_builtin (b:=.append) (xs:=#[.tmp 25,.tmp 29]) rfl ?_);at_builtin;refine Kd.R_append k55 (w0:=w) w.heap.size rfl (.tmp 25) (.tmp 29) 34 55 (.agg #[(.int .i64 0),(.int .i64 0),(.int .i64 0)]) 24 rfl Try.underlying34 info55 rfl (by decide) (by omega) (.slice none 0 0) ([]:List (S55)) (⟨3,0,a1_2⟩:S55) [.int .i64 3,.int .i64 0,.int .i64 a1_2] (fun _=>True) (fun _=>False) rfl rfl ?aP (fun _ hk=>hk.elim) ?aF ?aO ?aB ?aS ?aL ?_;(case aP=>exact k55_mkM _ _ _ (⟨3,0,a1_2⟩:S55));(case aB=>exact (by repeat (first|(with_reducible first|exact HB.out|apply below_alloc|apply pw_below_drewN|apply below_drew1|refine below_set ?_ GE373.out|refine below_set ?_ GE374.out)|exact HB.out)));(case aF=>exact (fun _ _=>trivial));(case aO=>exact ((Kd.R_nil _ _ _ _ (fun _=>True))));(case aS=>exact (below_size (by repeat (first|(with_reducible first|exact HB.out|apply below_alloc|apply pw_below_drewN|apply below_drew1|refine below_set ?_ GE373.out|refine below_set ?_ GE374.out)|exact HB.out))));(case aL=>have:=LMc28.out;omega);intro v379 w31 ho hb hg hat;rw [← Ny378.out] at ho;have n0_:=Aside0.mk (blk_grown (g:=gb373) (o:=.cells #[.slice A0_0 l0_0.length c0_0,.slice A0_1 l0_1.length c0_1,.int .i64 a0_2] 25 (0,0)) (by (with_reducible repeat (first|refine blk_drewN ?_ _|refine blk_drew ?_|refine blk_alloc ?_ _));exact BK373.out) hg (by simp [Value.ownBlock]));have n1_:=Aside0.mk (blk_grown (g:=gb374) (o:=.cells #[.slice A1_0 l1_0.length c1_0,.slice A1_1 l1_1.length c1_1,.int .i64 a1_2] 25 (0,0)) (by (with_reducible repeat (first|refine blk_drewN ?_ _|refine blk_drew ?_|refine blk_alloc ?_ _));exact BK374.out) hg (by simp [Value.ownBlock]));have n2_:=Aside0.mk (hb);have n3_:=Aside0.mk (ho);clear BK373 BK374 HB;have BK373:=n0_;have BK374:=n1_;have HB:=n2_;have HO380:=n3_;clear n0_ n1_ n2_ n3_;clear ho hb hg hat)))
        go_meet
        case rel=>exact ⟨_,(y378),H',⟨by have:=HJ2.out;first|omega|exact Nat.le_refl _⟩,⟨by (with_reducible repeat (first|apply Kd.R_alloc|apply Kd.R_drewN|apply Kd.R_drew));exact HO380.out⟩,⟨by (with_reducible repeat (first|refine blk_drewN ?_ _|refine blk_drew ?_|refine blk_alloc ?_ _));exact BK373.out⟩,⟨by (with_reducible repeat (first|refine blk_drewN ?_ _|refine blk_drew ?_|refine blk_alloc ?_ _));exact BK374.out⟩,⟨by repeat (first|(with_reducible first|exact HB.out|apply below_alloc|apply pw_below_drewN|apply below_drew1|refine below_set ?_ GE373.out|refine below_set ?_ GE374.out)|exact HB.out)⟩⟩
       ·rw [if_neg c28] at H
        exact absurd H (by simp)
      ·rw [if_neg c27] at H
       have c27b0:decide (a0_2 < a1_2)=false:=decide_eq_false c27
       clear c27
       (first|rw [c27b0]|(simp only [i64_w,i32_w];rw [c27b0])|skip)
       have H':=Aside0.mk H
       clear H
       go_wp2
       repeat (go_quiet (fail);try go_wp2)
       go_meet
       case rel=>exact ⟨_,(([]:List (S55))),H',⟨by have:=HJ2.out;first|omega|exact Nat.le_refl _⟩,⟨by first|exact Kd.R_nil _ _ _ _ _|exact Kd.N_nil _ _ _ _ _|exact Kd.V_nil _ _ _ _ _|exact Kd.Q_nil _ _ _ _ _|exact Kd.S_nil _ _ _ _ _⟩,⟨by (with_reducible repeat (first|refine blk_drewN ?_ _|refine blk_drew ?_|refine blk_alloc ?_ _));exact BK373.out⟩,⟨by (with_reducible repeat (first|refine blk_drewN ?_ _|refine blk_drew ?_|refine blk_alloc ?_ _));exact BK374.out⟩,⟨by repeat (first|(with_reducible first|exact HB.out|apply below_alloc|apply pw_below_drewN|apply below_drew1|refine below_set ?_ GE373.out|refine below_set ?_ GE374.out)|exact HB.out)⟩⟩
     case rest =>
      clear HC20
      try clear c1
      try clear c2
      try clear p2
      try clear c7
      try clear c7b0
      try clear c7b1
      try clear c9
      try clear c14
      try clear c17
      try clear c19
      try clear c21
      try clear c24
      try clear c27
      try clear c27b0
      try clear c28
      try clear c29
      try clear hcz10_0
      try clear hcz10_1
      try clear hcz10_2
      try clear hcz12_0
      try clear hcz12_1
      try clear hcz12_2
      try clear hcz15_0
      try clear hcz15_1
      try clear hcz15_2
      try clear hcz22_0
      try clear hcz22_1
      try clear hcz22_2
      try clear hcz23_0
      try clear hcz23_1
      try clear hcz23_2
      try clear hcz25_0
      try clear hcz25_1
      try clear hcz25_2
      try clear hcz26_0
      try clear hcz26_1
      try clear hcz26_2
      try clear hcz30_0
      try clear hcz30_1
      try clear hcz30_2
      try clear hfz10_0
      try clear hfz10_1
      try clear hfz10_2
      try clear hfz12_0
      try clear hfz12_1
      try clear hfz12_2
      try clear hfz15_0
      try clear hfz15_1
      try clear hfz15_2
      try clear hfz22_0
      try clear hfz22_1
      try clear hfz22_2
      try clear hfz23_0
      try clear hfz23_1
      try clear hfz23_2
      try clear hfz25_0
      try clear hfz25_1
      try clear hfz25_2
      try clear hfz26_0
      try clear hfz26_1
      try clear hfz26_2
      try clear hfz30_0
      try clear hfz30_1
      try clear hfz30_2
      try clear p2
      obtain ⟨kq,x6_19,HA,HJ19,HO_6,BK373,BK374,HB⟩:=hcut
      cases kq with
      | zero=>exact absurd HA.out (by simp [mapjnl_Diff.j1])
      | succ kj19 =>
       have H:=HA.out
       clear HA
       simp only [mapjnl_Diff.j1] at H
       have H':=Aside0.mk H
       clear H
       have hnb32:=NB373_374.out
       have hnc32:=NB374_373.out
       have hcz33_0:wc.cell? ⟨gb373,0,none⟩=some (.slice A0_0 l0_0.length c0_0):=(blk_cell BK373.out 0).trans rfl
       have hcz33_1:wc.cell? ⟨gb373,1,none⟩=some (.slice A0_1 l0_1.length c0_1):=(blk_cell BK373.out 1).trans rfl
       have hcz33_2:wc.cell? ⟨gb373,2,none⟩=some (.int .i64 a0_2):=(blk_cell BK373.out 2).trans rfl
       have hfz33_0:=blk_frozen BK373.out 0
       have hfz33_1:=blk_frozen BK373.out 1
       have hfz33_2:=blk_frozen BK373.out 2
       go_wp2
       repeat (go_quiet (fail);try go_wp2)
       go_loopg [6,34] kj19 (fun kq v6 v34 w'=>∃ (x6_3:List (S55)) (x34_3:Int),v34=.int .i64 x34_3∧Aside0 (mapjnl_Diff.l0 kq x6_3 (l0_0.length:Int) x34_3 l0_0 l0_1 a0_2 l1_0 l1_1 a1_2=some (r1,r2))∧Aside0 (kq≤kj19)∧Aside0 (Kd.R k55 55 w' w.heap.size (fun _=>True) v6 x6_3)∧Aside0 (w'.heap[gb373]?=some (.cells #[(.slice A0_0 l0_0.length c0_0),(.slice A0_1 l0_1.length c0_1),.int .i64 a0_2] 25 (0,0)))∧Aside0 (w'.heap[gb374]?=some (.cells #[(.slice A1_0 l1_0.length c1_0),(.slice A1_1 l1_1.length c1_1),.int .i64 a1_2] 25 (0,0)))∧Aside0 (Below w.heap.size w w'))
       case atStart=>exact ⟨(x6_19),(0),(by first|rfl|(simp;done)|(simp [*];done)),H',⟨Nat.le_refl _⟩,⟨by (with_reducible repeat (first|apply Kd.R_alloc|apply Kd.R_drewN|apply Kd.R_drew));exact HO_6.out⟩,⟨by (with_reducible repeat (first|refine blk_drewN ?_ _|refine blk_drew ?_|refine blk_alloc ?_ _));exact BK373.out⟩,⟨by (with_reducible repeat (first|refine blk_drewN ?_ _|refine blk_drew ?_|refine blk_alloc ?_ _));exact BK374.out⟩,⟨by repeat (first|(with_reducible first|exact HB.out|apply below_alloc|apply pw_below_drewN|apply below_drew1|refine below_set ?_ GE373.out|refine below_set ?_ GE374.out)|exact HB.out)⟩⟩
       case round =>
        clear H'
        try clear c1
        try clear c2
        try clear p2
        try clear c3
        try clear c7
        try clear c7b0
        try clear c7b1
        try clear c9
        try clear c14
        try clear c17
        try clear c19
        try clear c21
        try clear c24
        try clear c27
        try clear c27b0
        try clear c28
        try clear c29
        try clear c32
        try clear hcz10_0
        try clear hcz10_1
        try clear hcz10_2
        try clear hcz12_0
        try clear hcz12_1
        try clear hcz12_2
        try clear hcz15_0
        try clear hcz15_1
        try clear hcz15_2
        try clear hcz22_0
        try clear hcz22_1
        try clear hcz22_2
        try clear hcz23_0
        try clear hcz23_1
        try clear hcz23_2
        try clear hcz25_0
        try clear hcz25_1
        try clear hcz25_2
        try clear hcz26_0
        try clear hcz26_1
        try clear hcz26_2
        try clear hcz30_0
        try clear hcz30_1
        try clear hcz30_2
        try clear hcz33_0
        try clear hcz33_1
        try clear hcz33_2
        try clear hfz10_0
        try clear hfz10_1
        try clear hfz10_2
        try clear hfz12_0
        try clear hfz12_1
        try clear hfz12_2
        try clear hfz15_0
        try clear hfz15_1
        try clear hfz15_2
        try clear hfz22_0
        try clear hfz22_1
        try clear hfz22_2
        try clear hfz23_0
        try clear hfz23_1
        try clear hfz23_2
        try clear hfz25_0
        try clear hfz25_1
        try clear hfz25_2
        try clear hfz26_0
        try clear hfz26_1
        try clear hfz26_2
        try clear hfz30_0
        try clear hfz30_1
        try clear hfz30_2
        try clear hfz33_0
        try clear hfz33_1
        try clear hfz33_2
        try clear p2
        obtain ⟨x6_3,x34_3,rfl,HA,HK3,HO_6,BK373,BK374,HB⟩:=hrel
        cases gk with
        | zero=>exact absurd HA.out (by simp [mapjnl_Diff.l0])
        | succ k3 =>
         have H:=HA.out
         clear HA
         simp only [mapjnl_Diff.l0] at H
         by_cases c34:x34_3 < (l0_0.length:Int)
         ·rw [if_pos c34] at H
          have c34b0:decide (x34_3 < (l0_0.length:Int))=true:=decide_eq_true c34
          clear c34
          have HC35:=Aside0.mk H
          clear H
          go_upto_region 11 with (fail)
          repeat (go_quiet (fail);go_upto_region 11 with (fail))
          go_cut [49] (fun v49 wc=>∃ (kq:Nat) (x49_34:Bool),v49=.bool x49_34∧Aside0 (mapjnl_Diff.j3 kq x6_3 x34_3 (l0_0.length:Int) x34_3 x49_34 l0_0 l0_1 a0_2 l1_0 l1_1 a1_2=some (r1,r2))∧Aside0 (kq≤k3)∧Aside0 (Kd.R k55 55 wc w.heap.size (fun _=>True) u6 x6_3)∧Aside0 (wc.heap[gb373]?=some (.cells #[(.slice A0_0 l0_0.length c0_0),(.slice A0_1 l0_1.length c0_1),.int .i64 a0_2] 25 (0,0)))∧Aside0 (wc.heap[gb374]?=some (.cells #[(.slice A1_0 l1_0.length c1_0),(.slice A1_1 l1_1.length c1_1),.int .i64 a1_2] 25 (0,0)))∧Aside0 (Below w.heap.size w wc))
          case first =>
           have H:=HC35.out
           clear HC35
           by_cases c36:0≤x34_3
           ·rw [if_pos c36] at H
            have c36b0:decide (0≤x34_3)=true:=decide_eq_true c36
            clear c36
            (first|rw [c36b0]|(simp only [i64_w,i32_w];rw [c36b0])|skip)
            by_cases c37:x34_3 < (l1_0.length:Int)
            ·rw [if_pos c37] at H
             have c37b0:decide (x34_3 < (l1_0.length:Int))=true:=decide_eq_true c37
             clear c37
             obtain ⟨bq38,hbq38⟩:∃ b_:Bool,b_=(rdOf false l1_0 x34_3):=⟨_,rfl⟩
             replace H:(if bq38=true then (if x34_3 < (l0_0.length:Int) then (mapjnl_Diff.j3 k3 x6_3 x34_3 (l0_0.length:Int) x34_3 (!(rdOf false l0_0 x34_3)) l0_0 l0_1 a0_2 l1_0 l1_1 a1_2) else (none)) else (mapjnl_Diff.j3 k3 x6_3 x34_3 (l0_0.length:Int) x34_3 false l0_0 l0_1 a0_2 l1_0 l1_1 a1_2))=some (r1,r2):=by rw [← hbq38] at H;exact H
             have Nbq38:=Aside0.mk hbq38
             clear hbq38
             by_cases c39:bq38=true
             ·subst c39
              have H1:(if x34_3 < (l0_0.length:Int) then (mapjnl_Diff.j3 k3 x6_3 x34_3 (l0_0.length:Int) x34_3 (!(rdOf false l0_0 x34_3)) l0_0 l0_1 a0_2 l1_0 l1_1 a1_2) else (none))=some (r1,r2):=by rw [if_pos rfl] at H;exact H
              clear H
              have H:=H1
              clear H1
              by_cases c40:x34_3 < (l0_0.length:Int)
              ·rw [if_pos c40] at H
               have c40b0:decide (x34_3 < (l0_0.length:Int))=true:=decide_eq_true c40
               clear c40
               have H':=Aside0.mk H
               clear H
               have hnb41:=NB374_373.out
               have hnc41:=NB373_374.out
               have hcz42_0:wr.cell? ⟨gb374,0,none⟩=some (.slice A1_0 l1_0.length c1_0):=(blk_cell BK374.out 0).trans rfl
               have hcz42_1:wr.cell? ⟨gb374,1,none⟩=some (.slice A1_1 l1_1.length c1_1):=(blk_cell BK374.out 1).trans rfl
               have hcz42_2:wr.cell? ⟨gb374,2,none⟩=some (.int .i64 a1_2):=(blk_cell BK374.out 2).trans rfl
               have hfz42_0:=blk_frozen BK374.out 0
               have hfz42_1:=blk_frozen BK374.out 1
               have hfz42_2:=blk_frozen BK374.out 2
               have p381:0≤(x34_3:Int):=of_decide_eq_true (by first|(with_reducible assumption)|assumption)
               have q381:x34_3 < (l1_0.length:Int):=of_decide_eq_true (by first|(with_reducible assumption)|assumption)
               obtain ⟨ad381,e381,hx381_0⟩:=Kd.at_bool HR1_0.out x34_3 p381 q381
               (try rw [← Nbq38.out] at hx381_0)
               cases e381
               replace hx381_0:=(HB.out.cell (World.block_lt_of_cell? w _ hx381_0)).trans hx381_0
               replace p381:=eq_true p381
               replace q381:=eq_true q381
               have hcz43_0:wr.cell? ⟨gb373,0,none⟩=some (.slice A0_0 l0_0.length c0_0):=(blk_cell BK373.out 0).trans rfl
               have hcz43_1:wr.cell? ⟨gb373,1,none⟩=some (.slice A0_1 l0_1.length c0_1):=(blk_cell BK373.out 1).trans rfl
               have hcz43_2:wr.cell? ⟨gb373,2,none⟩=some (.int .i64 a0_2):=(blk_cell BK373.out 2).trans rfl
               have hfz43_0:=blk_frozen BK373.out 0
               have hfz43_1:=blk_frozen BK373.out 1
               have hfz43_2:=blk_frozen BK373.out 2
               have p382:0≤(x34_3:Int):=of_decide_eq_true (by first|(with_reducible assumption)|assumption)
               have q382:x34_3 < (l0_0.length:Int):=of_decide_eq_true (by first|(with_reducible assumption)|assumption)
               obtain ⟨ad382,e382,hx382_0⟩:=Kd.at_bool HR0_0.out x34_3 p382 q382
               (try rw [← Nbq38.out] at hx382_0)
               cases e382
               replace hx382_0:=(HB.out.cell (World.block_lt_of_cell? w _ hx382_0)).trans hx382_0
               replace p382:=eq_true p382
               replace q382:=eq_true q382
               go_wp2
               repeat (go_quiet (fail);try go_wp2)
               go_meet
               case rel=>exact ⟨_,(!(rdOf false l0_0 x34_3)),(by first|rfl|(simp;done)|(simp [*];done)),H',⟨by have:=HJ2.out;have:=HJ19.out;have:=HK3.out;first|omega|exact Nat.le_refl _⟩,⟨by (with_reducible repeat (first|apply Kd.R_alloc|apply Kd.R_drewN|apply Kd.R_drew));exact HO_6.out⟩,⟨by (with_reducible repeat (first|refine blk_drewN ?_ _|refine blk_drew ?_|refine blk_alloc ?_ _));exact BK373.out⟩,⟨by (with_reducible repeat (first|refine blk_drewN ?_ _|refine blk_drew ?_|refine blk_alloc ?_ _));exact BK374.out⟩,⟨by repeat (first|(with_reducible first|exact HB.out|apply below_alloc|apply pw_below_drewN|apply below_drew1|refine below_set ?_ GE373.out|refine below_set ?_ GE374.out)|exact HB.out)⟩⟩
              ·rw [if_neg c40] at H
               exact absurd H (by simp)
             ·replace c39:=Bool.eq_false_iff.mpr c39
              subst c39
              have H1:(mapjnl_Diff.j3 k3 x6_3 x34_3 (l0_0.length:Int) x34_3 false l0_0 l0_1 a0_2 l1_0 l1_1 a1_2)=some (r1,r2):=by rw [if_neg (show ¬ (false=true) by decide)] at H;exact H
              clear H
              have H:=H1
              clear H1
              have H':=Aside0.mk H
              clear H
              have hnb44:=NB374_373.out
              have hnc44:=NB373_374.out
              have hcz45_0:wr.cell? ⟨gb374,0,none⟩=some (.slice A1_0 l1_0.length c1_0):=(blk_cell BK374.out 0).trans rfl
              have hcz45_1:wr.cell? ⟨gb374,1,none⟩=some (.slice A1_1 l1_1.length c1_1):=(blk_cell BK374.out 1).trans rfl
              have hcz45_2:wr.cell? ⟨gb374,2,none⟩=some (.int .i64 a1_2):=(blk_cell BK374.out 2).trans rfl
              have hfz45_0:=blk_frozen BK374.out 0
              have hfz45_1:=blk_frozen BK374.out 1
              have hfz45_2:=blk_frozen BK374.out 2
              have p381:0≤(x34_3:Int):=of_decide_eq_true (by first|(with_reducible assumption)|assumption)
              have q381:x34_3 < (l1_0.length:Int):=of_decide_eq_true (by first|(with_reducible assumption)|assumption)
              obtain ⟨ad381,e381,hx381_0⟩:=Kd.at_bool HR1_0.out x34_3 p381 q381
              (try rw [← Nbq38.out] at hx381_0)
              cases e381
              replace hx381_0:=(HB.out.cell (World.block_lt_of_cell? w _ hx381_0)).trans hx381_0
              replace p381:=eq_true p381
              replace q381:=eq_true q381
              go_wp2
              repeat (go_quiet (fail);try go_wp2)
              go_meet
              case rel=>exact ⟨_,(false),(by first|rfl|(simp;done)|(simp [*];done)),H',⟨by have:=HJ2.out;have:=HJ19.out;have:=HK3.out;first|omega|exact Nat.le_refl _⟩,⟨by (with_reducible repeat (first|apply Kd.R_alloc|apply Kd.R_drewN|apply Kd.R_drew));exact HO_6.out⟩,⟨by (with_reducible repeat (first|refine blk_drewN ?_ _|refine blk_drew ?_|refine blk_alloc ?_ _));exact BK373.out⟩,⟨by (with_reducible repeat (first|refine blk_drewN ?_ _|refine blk_drew ?_|refine blk_alloc ?_ _));exact BK374.out⟩,⟨by repeat (first|(with_reducible first|exact HB.out|apply below_alloc|apply pw_below_drewN|apply below_drew1|refine below_set ?_ GE373.out|refine below_set ?_ GE374.out)|exact HB.out)⟩⟩
            ·rw [if_neg c37] at H
             exact absurd H (by simp)
           ·rw [if_neg c36] at H
            exact absurd H (by simp)
          case rest =>
           clear HC35
           try clear c1
           try clear c2
           try clear p2
           try clear c3
           try clear p3
           try clear q3
           try clear hx3
           try clear c4
           try clear c7
           try clear c7b0
           try clear c7b1
           try clear c9
           try clear c14
           try clear c17
           try clear c19
           try clear c21
           try clear c24
           try clear c27
           try clear c27b0
           try clear c28
           try clear c29
           try clear c32
           try clear c34
           try clear c34b0
           try clear c36
           try clear c36b0
           try clear c37
           try clear c37b0
           try clear p38
           try clear q38
           try clear hx38
           try clear c39
           try clear c40
           try clear c40b0
           try clear c41
           try clear c44
           try clear hcz10_0
           try clear hcz10_1
           try clear hcz10_2
           try clear hcz12_0
           try clear hcz12_1
           try clear hcz12_2
           try clear hcz15_0
           try clear hcz15_1
           try clear hcz15_2
           try clear hcz22_0
           try clear hcz22_1
           try clear hcz22_2
           try clear hcz23_0
           try clear hcz23_1
           try clear hcz23_2
           try clear hcz25_0
           try clear hcz25_1
           try clear hcz25_2
           try clear hcz26_0
           try clear hcz26_1
           try clear hcz26_2
           try clear hcz30_0
           try clear hcz30_1
           try clear hcz30_2
           try clear hcz33_0
           try clear hcz33_1
           try clear hcz33_2
           try clear hcz42_0
           try clear hcz42_1
           try clear hcz42_2
           try clear hcz43_0
           try clear hcz43_1
           try clear hcz43_2
           try clear hcz45_0
           try clear hcz45_1
           try clear hcz45_2
           try clear hfz10_0
           try clear hfz10_1
           try clear hfz10_2
           try clear hfz12_0
           try clear hfz12_1
           try clear hfz12_2
           try clear hfz15_0
           try clear hfz15_1
           try clear hfz15_2
           try clear hfz22_0
           try clear hfz22_1
           try clear hfz22_2
           try clear hfz23_0
           try clear hfz23_1
           try clear hfz23_2
           try clear hfz25_0
           try clear hfz25_1
           try clear hfz25_2
           try clear hfz26_0
           try clear hfz26_1
           try clear hfz26_2
           try clear hfz30_0
           try clear hfz30_1
           try clear hfz30_2
           try clear hfz33_0
           try clear hfz33_1
           try clear hfz33_2
           try clear hfz42_0
           try clear hfz42_1
           try clear hfz42_2
           try clear hfz43_0
           try clear hfz43_1
           try clear hfz43_2
           try clear hfz45_0
           try clear hfz45_1
           try clear hfz45_2
           try clear hx381_0
           try clear hx382_0
           try clear p2
           try clear p381
           try clear p382
           try clear q381
           try clear q382
           obtain ⟨kq,x49_34,rfl,HA,HJ34,HO_6,BK373,BK374,HB⟩:=hcut
           cases kq with
           | zero=>exact absurd HA.out (by simp [mapjnl_Diff.j3])
           | succ kj34 =>
            have H:=HA.out
            clear HA
            simp only [mapjnl_Diff.j3] at H
            by_cases c46:x49_34=true
            ·subst c46
             have H1:(if x6_3.length < 5864062014805 then ((some (x6_3 ++ [(⟨1,x34_3,0⟩:S55)]:List (S55))).bind fun y383=>(if 0≤x34_3 then (if x34_3 < (l1_1.length:Int) then (if x34_3 < (l0_1.length:Int) then (if (rd l1_1 x34_3) > (rd l0_1 x34_3) then (if y383.length < 5864062014805 then (mapjnl_Diff.l0 kj34 (y383 ++ [(⟨2,x34_3,rd l1_1 x34_3⟩:S55)]) (l0_0.length:Int) (wrap64 (x34_3 + 1)) l0_0 l0_1 a0_2 l1_0 l1_1 a1_2) else (none)) else (mapjnl_Diff.l0 kj34 y383 (l0_0.length:Int) (wrap64 (x34_3 + 1)) l0_0 l0_1 a0_2 l1_0 l1_1 a1_2)) else (none)) else (none)) else (none))) else (none))=some (r1,r2):=by rw [if_pos rfl] at H;exact H
             clear H
             have H:=H1
             clear H1
             by_cases c47:x6_3.length < 5864062014805
             ·rw [if_pos c47] at H
              have LMc47:=Aside0.mk c47
              clear c47
              obtain ⟨y383,hy383⟩:∃ y_:List (S55),y_=(x6_3 ++ [(⟨1,x34_3,0⟩:S55)]):=⟨_,rfl⟩
              replace H:(if 0≤x34_3 then (if x34_3 < (l1_1.length:Int) then (if x34_3 < (l0_1.length:Int) then (if (rd l1_1 x34_3) > (rd l0_1 x34_3) then (if y383.length < 5864062014805 then (mapjnl_Diff.l0 kj34 (y383 ++ [(⟨2,x34_3,rd l1_1 x34_3⟩:S55)]) (l0_0.length:Int) (wrap64 (x34_3 + 1)) l0_0 l0_1 a0_2 l1_0 l1_1 a1_2) else (none)) else (mapjnl_Diff.l0 kj34 y383 (l0_0.length:Int) (wrap64 (x34_3 + 1)) l0_0 l0_1 a0_2 l1_0 l1_1 a1_2)) else (none)) else (none)) else (none))=some (r1,r2):=by first|(rw [hy383];with_reducible exact H)|(have H2_:=(Option.bind_some _ _).symm.trans H;rw [hy383];with_reducible exact H2_)|(have H2_:=(Option.bind_some _ _).symm.trans H;with_reducible exact H2_)|with_reducible exact H|(rw [hy383];exact H)|exact H
              have Ny383:=Aside0.mk hy383
              clear hy383
              by_cases c48:0≤x34_3
              ·rw [if_pos c48] at H
               have c48b0:decide (0≤x34_3)=true:=decide_eq_true c48
               clear c48
               by_cases c49:x34_3 < (l1_1.length:Int)
               ·rw [if_pos c49] at H
                have c49b0:decide (x34_3 < (l1_1.length:Int))=true:=decide_eq_true c49
                clear c49
                by_cases c50:x34_3 < (l0_1.length:Int)
                ·rw [if_pos c50] at H
                 have c50b0:decide (x34_3 < (l0_1.length:Int))=true:=decide_eq_true c50
                 clear c50
                 by_cases c51:(rd l1_1 x34_3) > (rd l0_1 x34_3)
                 ·rw [if_pos c51] at H
                  have c51b0:decide ((rd l0_1 x34_3) < (rd l1_1 x34_3))=true:=decide_eq_true c51
                  clear c51
                  by_cases c52:y383.length < 5864062014805
                  ·rw [if_pos c52] at H
                   have LMc52:=Aside0.mk c52
                   clear c52
                   obtain ⟨y389,hy389⟩:∃ y_:List (S55),y_=(y383 ++ [(⟨2,x34_3,rd l1_1 x34_3⟩:S55)]):=⟨_,rfl⟩
                   replace H:(mapjnl_Diff.l0 kj34 y389 (l0_0.length:Int) (wrap64 (x34_3 + 1)) l0_0 l0_1 a0_2 l1_0 l1_1 a1_2)=some (r1,r2):=by first|(rw [hy389];with_reducible exact H)|(have H2_:=(Option.bind_some _ _).symm.trans H;rw [hy389];with_reducible exact H2_)|(have H2_:=(Option.bind_some _ _).symm.trans H;with_reducible exact H2_)|with_reducible exact H|(rw [hy389];exact H)|exact H
                   have Ny389:=Aside0.mk hy389
                   clear hy389
                   have H':=Aside0.mk H
                   clear H
                   go_wp2_with (first|((with_reducible refine gate_builtin (b:=.append) (xs:=#[.tmp 50,.tmp 53]) rfl ?_);at_builtin;refine Kd.R_append k55 (w0:=w) w.heap.size rfl (.tmp 50) (.tmp 53) 34 55 (.agg #[(.int .i64 0),(.int .i64 0),(.int .i64 0)]) 24 rfl Try.underlying34 info55 rfl (by decide) (by omega) u6 x6_3 (⟨1,x34_3,0⟩:S55) [.int .i64 1,.int .i64 x34_3,.int .i64 0] (fun _=>True) (fun _=>False) rfl rfl ?aP (fun _ hk=>hk.elim) ?aF ?aO ?aB ?aS ?aL ?_;(case aP=>exact k55_mkM _ _ _ (⟨1,x34_3,0⟩:S55));(case aB=>exact (by repeat (first|(with_reducible first|exact HB.out|apply below_alloc|apply pw_below_drewN|apply below_drew1|refine below_set ?_ GE373.out|refine below_set ?_ GE374.out)|exact HB.out)));(case aF=>exact (fun _ _=>trivial));(case aO=>exact (by (with_reducible repeat (first|apply Kd.R_alloc|apply Kd.R_drewN|apply Kd.R_drew));exact HO_6.out));(case aS=>exact (below_size (by repeat (first|(with_reducible first|exact HB.out|apply below_alloc|apply pw_below_drewN|apply below_drew1|refine below_set ?_ GE373.out|refine below_set ?_ GE374.out)|exact HB.out))));(case aL=>have:=LMc47.out;omega);intro v384 w53 ho hb hg hat;rw [← Ny383.out] at ho;have n0_:=Aside0.mk (blk_grown (g:=gb373) (o:=.cells #[.slice A0_0 l0_0.length c0_0,.slice A0_1 l0_1.length c0_1,.int .i64 a0_2] 25 (0,0)) (by (with_reducible repeat (first|refine blk_drewN ?_ _|refine blk_drew ?_|refine blk_alloc ?_ _));exact BK373.out) hg (Kd.R_ne HO_6.out BK373.out (by decide)));have n1_:=Aside0.mk (blk_grown (g:=gb374) (o:=.cells #[.slice A1_0 l1_0.length c1_0,.slice A1_1 l1_1.length c1_1,.int .i64 a1_2] 25 (0,0)) (by (with_reducible repeat (first|refine blk_drewN ?_ _|refine blk_drew ?_|refine blk_alloc ?_ _));exact BK374.out) hg (Kd.R_ne HO_6.out BK374.out (by decide)));have n2_:=Aside0.mk (hb);have n3_:=Aside0.mk (ho);clear BK373 BK374 HB HO_6;have BK373:=n0_;have BK374:=n1_;have HB:=n2_;have HO385:=n3_;clear n0_ n1_ n2_ n3_;clear ho hb hg hat;have hnb54:=NB374_373.out;have hnc54:=NB373_374.out;have hcz55_0:w53.cell? ⟨gb374,0,none⟩=some (.slice A1_0 l1_0.length c1_0):=(blk_cell BK374.out 0).trans rfl;have hcz55_1:w53.cell? ⟨gb374,1,none⟩=some (.slice A1_1 l1_1.length c1_1):=(blk_cell BK374.out 1).trans rfl;have hcz55_2:w53.cell? ⟨gb374,2,none⟩=some (.int .i64 a1_2):=(blk_cell BK374.out 2).trans rfl;have hfz55_0:=blk_frozen BK374.out 0;have hfz55_1:=blk_frozen BK374.out 1;have hfz55_2:=blk_frozen BK374.out 2;have p386:0≤(x34_3:Int):=of_decide_eq_true (by first|(with_reducible assumption)|assumption);have q386:x34_3 < (l1_1.length:Int):=of_decide_eq_true (by first|(with_reducible assumption)|assumption);obtain ⟨ad386,e386,hx386_0⟩:=Kd.at_int HR1_1.out x34_3 p386 q386;cases e386;replace hx386_0:=(HB.out.cell (World.block_lt_of_cell? w _ hx386_0)).trans hx386_0;replace p386:=eq_true p386;replace q386:=eq_true q386;have hcz56_0:w53.cell? ⟨gb373,0,none⟩=some (.slice A0_0 l0_0.length c0_0):=(blk_cell BK373.out 0).trans rfl;have hcz56_1:w53.cell? ⟨gb373,1,none⟩=some (.slice A0_1 l0_1.length c0_1):=(blk_cell BK373.out 1).trans rfl;have hcz56_2:w53.cell? ⟨gb373,2,none⟩=some (.int .i64 a0_2):=(blk_cell BK373.out 2).trans rfl;have hfz56_0:=blk_frozen BK373.out 0;have hfz56_1:=blk_frozen BK373.out 1;have hfz56_2:=blk_frozen BK373.out 2;have p387:0≤(x34_3:Int):=of_decide_eq_true (by first|(with_reducible assumption)|assumption);have q387:x34_3 < (l0_1.length:Int):=of_decide_eq_true (by first|(with_reducible assumption)|assumption);obtain ⟨ad387,e387,hx387_0⟩:=Kd.at_int HR0_1.out x34_3 p387 q387;cases e387;replace hx387_0:=(HB.out.cell (World.block_lt_of_cell? w _ hx387_0)).trans hx387_0;replace p387:=eq_true p387;replace q387:=eq_true q387;have p388:0≤(x34_3:Int):=of_decide_eq_true (by first|(with_reducible assumption)|assumption);have q388:x34_3 < (l1_1.length:Int):=of_decide_eq_true (by first|(with_reducible assumption)|assumption);obtain ⟨ad388,e388,hx388_0⟩:=Kd.at_int HR1_1.out x34_3 p388 q388;obtain rfl:ad386=ad388:=(by injection e388);replace hx388_0:=(HB.out.cell (World.block_lt_of_cell? w _ hx388_0)).trans hx388_0;replace p388:=eq_true p388;replace q388:=eq_true q388)|((with_reducible refine gate_builtin (b:=.append) (xs:=#[.tmp 66,.tmp 74]) rfl ?_);at_builtin;refine Kd.R_append k55 (w0:=w) w.heap.size rfl (.tmp 66) (.tmp 74) 34 55 (.agg #[(.int .i64 0),(.int .i64 0),(.int .i64 0)]) 24 rfl Try.underlying34 info55 rfl (by decide) (by omega) v384 y383 (⟨2,x34_3,rd l1_1 x34_3⟩:S55) [.int .i64 2,.int .i64 x34_3,.int .i64 (rd l1_1 x34_3)] (fun _=>True) (fun _=>False) rfl rfl ?aP (fun _ hk=>hk.elim) ?aF ?aO ?aB ?aS ?aL ?_;(case aP=>exact k55_mkM _ _ _ (⟨2,x34_3,rd l1_1 x34_3⟩:S55));(case aB=>exact (by repeat (first|(with_reducible first|exact HB.out|apply below_alloc|apply pw_below_drewN|apply below_drew1|refine below_set ?_ GE373.out|refine below_set ?_ GE374.out)|exact HB.out)));(case aF=>exact (fun _ _=>trivial));(case aO=>exact (by (with_reducible repeat (first|apply Kd.R_alloc|apply Kd.R_drewN|apply Kd.R_drew));exact HO385.out));(case aS=>exact (below_size (by repeat (first|(with_reducible first|exact HB.out|apply below_alloc|apply pw_below_drewN|apply below_drew1|refine below_set ?_ GE373.out|refine below_set ?_ GE374.out)|exact HB.out))));(case aL=>have:=LMc52.out;omega);intro v390 w57 ho hb hg hat;rw [← Ny389.out] at ho;have n0_:=Aside0.mk (blk_grown (g:=gb373) (o:=.cells #[.slice A0_0 l0_0.length c0_0,.slice (some ad387) l0_1.length c0_1,.int .i64 a0_2] 25 (0,0)) (by (with_reducible repeat (first|refine blk_drewN ?_ _|refine blk_drew ?_|refine blk_alloc ?_ _));exact BK373.out) hg (Kd.R_ne HO385.out BK373.out (by decide)));have n1_:=Aside0.mk (blk_grown (g:=gb374) (o:=.cells #[.slice A1_0 l1_0.length c1_0,.slice (some ad386) l1_1.length c1_1,.int .i64 a1_2] 25 (0,0)) (by (with_reducible repeat (first|refine blk_drewN ?_ _|refine blk_drew ?_|refine blk_alloc ?_ _));exact BK374.out) hg (Kd.R_ne HO385.out BK374.out (by decide)));have n2_:=Aside0.mk (hb);have n3_:=Aside0.mk (ho);clear BK373 BK374 HB HO385;have BK373:=n0_;have BK374:=n1_;have HB:=n2_;have HO391:=n3_;clear n0_ n1_ n2_ n3_;clear ho hb hg hat))
                   repeat (go_quiet (first|((with_reducible refine gate_builtin (b:=.append) (xs:=#[.tmp 50,.tmp 53]) rfl ?_);at_builtin;refine Kd.R_append k55 (w0:=w) w.heap.size rfl (.tmp 50) (.tmp 53) 34 55 (.agg #[(.int .i64 0),(.int .i64 0),(.int .i64 0)]) 24 rfl Try.underlying34 info55 rfl (by decide) (by omega) u6 x6_3 (⟨1,x34_3,0⟩:S55) [.int .i64 1,.int .i64 x34_3,.int .i64 0] (fun _=>True) (fun _=>False) rfl rfl ?aP (fun _ hk=>hk.elim) ?aF ?aO ?aB ?aS ?aL ?_;(case aP=>exact k55_mkM _ _ _ (⟨1,x34_3,0⟩:S55));(case aB=>exact (by repeat (first|(with_reducible first|exact HB.out|apply below_alloc|apply pw_below_drewN|apply below_drew1|refine below_set ?_ GE373.out|refine below_set ?_ GE374.out)|exact HB.out)));(case aF=>exact (fun _ _=>trivial));(case aO=>exact (by (with_reducible repeat (first|apply Kd.R_alloc|apply Kd.R_drewN|apply Kd.R_drew));exact HO_6.out));(case aS=>exact (below_size (by repeat (first|(with_reducible first|exact HB.out|apply below_alloc|apply pw_below_drewN|apply below_drew1|refine below_set ?_ GE373.out|refine below_set ?_ GE374.out)|exact HB.out))));(case aL=>have:=LMc47.out;omega);intro v384 w53 ho hb hg hat;rw [← Ny383.out] at ho;have n0_:=Aside0.mk (blk_grown (g:=gb373) (o:=.cells #[.slice A0_0 l0_0.length c0_0,.slice A0_1 l0_1.length c0_1,.int .i64 a0_2] 25 (0,0)) (by (with_reducible repeat (first|refine blk_drewN ?_ _|refine blk_drew ?_|refine blk_alloc ?_ _));exact BK373.out) hg (Kd.R_ne HO_6.out BK373.out (by decide)));have n1_:=Aside0.mk (blk_grown (g:=gb374) (o:=.cells #[.slice A1_0 l1_0.length c1_0,.slice A1_1 l1_1.length c1_1,.int .i64 a1_2] 25 (0,0)) (by (with_reducible repeat (first|refine blk_drewN ?_ _|refine blk_drew ?_|refine blk_alloc ?_ _));exact BK374.out) hg (Kd.R_ne HO_6.out BK374.out (by decide)));have n2_:=Aside0.mk (hb);have n3_:=Aside0.mk (ho);clear BK373 BK374 HB HO_6;have BK373:=n0_;have BK374:=n1_;have HB:=n2_;have HO385:=n3_;clear n0_ n1_ n2_ n3_;clear ho hb hg hat;have hnb54:=NB374_373.out;have hnc54:=NB373_374.out;have hcz55_0:w53.cell? ⟨gb374,0,none⟩=some (.slice A1_0 l1_0.length c1_0):=(blk_cell BK374.out 0).trans rfl;have hcz55_1:w53.cell? ⟨gb374,1,none⟩=some (.slice A1_1 l1_1.length c1_1):=(blk_cell BK374.out 1).trans rfl;have hcz55_2:w53.cell? ⟨gb374,2,none⟩=some (.int .i64 a1_2):=(blk_cell BK374.out 2).trans rfl;have hfz55_0:=blk_frozen BK374.out 0;have hfz55_1:=blk_frozen BK374.out 1;have hfz55_2:=blk_frozen BK374.out 2;have p386:0≤(x34_3:Int):=of_decide_eq_true (by first|(with_reducible assumption)|assumption);have q386:x34_3 < (l1_1.length:Int):=of_decide_eq_true (by first|(with_reducible assumption)|assumption);obtain ⟨ad386,e386,hx386_0⟩:=Kd.at_int HR1_1.out x34_3 p386 q386;cases e386;replace hx386_0:=(HB.out.cell (World.block_lt_of_cell? w _ hx386_0)).trans hx386_0;replace p386:=eq_true p386;replace q386:=eq_true q386;have hcz56_0:w53.cell? ⟨gb373,0,none⟩=some (.slice A0_0 l0_0.length c0_0):=(blk_cell BK373.out 0).trans rfl;have hcz56_1:w53.cell? ⟨gb373,1,none⟩=some (.slice A0_1 l0_1.length c0_1):=(blk_cell BK373.out 1).trans rfl;have hcz56_2:w53.cell? ⟨gb373,2,none⟩=some (.int .i64 a0_2):=(blk_cell BK373.out 2).trans rfl;have hfz56_0:=blk_frozen BK373.out 0;have hfz56_1:=blk_frozen BK373.out 1;have hfz56_2:=blk_frozen BK373.out 2;have p387:0≤(x34_3:Int):=of_decide_eq_true (by first|(with_reducible assumption)|assumption);have q387:x34_3 < (l0_1.length:Int):=of_decide_eq_true (by first|(with_reducible assumption)|assumption);obtain ⟨ad387,e387,hx387_0⟩:=Kd.at_int HR0_1.out x34_3 p387 q387;cases e387;replace hx387_0:=(HB.out.cell (World.block_lt_of_cell? w _ hx387_0)).trans hx387_0;replace p387:=eq_true p387;replace q387:=eq_true q387;have p388:0≤(x34_3:Int):=of_decide_eq_true (by first|(with_reducible assumption)|assumption);have q388:x34_3 < (l1_1.length:Int):=of_decide_eq_true (by first|(with_reducible assumption)|assumption);obtain ⟨ad388,e388,hx388_0⟩:=Kd.at_int HR1_1.out x34_3 p388 q388;obtain rfl:ad386=ad388:=(by injection e388);replace hx388_0:=(HB.out.cell (World.block_lt_of_cell? w _ hx388_0)).trans hx388_0;replace p388:=eq_true p388;replace q388:=eq_true q388)|((with_reducible refine gate_builtin (b:=.append) (xs:=#[.tmp 66,.tmp 74]) rfl ?_);at_builtin;refine Kd.R_append k55 (w0:=w) w.heap.size rfl (.tmp 66) (.tmp 74) 34 55 (.agg #[(.int .i64 0),(.int .i64 0),(.int .i64 0)]) 24 rfl Try.underlying34 info55 rfl (by decide) (by omega) v384 y383 (⟨2,x34_3,rd l1_1 x34_3⟩:S55) [.int .i64 2,.int .i64 x34_3,.int .i64 (rd l1_1 x34_3)] (fun _=>True) (fun _=>False) rfl rfl ?aP (fun _ hk=>hk.elim) ?aF ?aO ?aB ?aS ?aL ?_;(case aP=>exact k55_mkM _ _ _ (⟨2,x34_3,rd l1_1 x34_3⟩:S55));(case aB=>exact (by repeat (first|(with_reducible first|exact HB.out|apply below_alloc|apply pw_below_drewN|apply below_drew1|refine below_set ?_ GE373.out|refine below_set ?_ GE374.out)|exact HB.out)));(case aF=>exact (fun _ _=>trivial));(case aO=>exact (by (with_reducible repeat (first|apply Kd.R_alloc|apply Kd.R_drewN|apply Kd.R_drew));exact HO385.out));(case aS=>exact (below_size (by repeat (first|(with_reducible first|exact HB.out|apply below_alloc|apply pw_below_drewN|apply below_drew1|refine below_set ?_ GE373.out|refine below_set ?_ GE374.out)|exact HB.out))));(case aL=>have:=LMc52.out;omega);intro v390 w57 ho hb hg hat;rw [← Ny389.out] at ho;have n0_:=Aside0.mk (blk_grown (g:=gb373) (o:=.cells #[.slice A0_0 l0_0.length c0_0,.slice (some ad387) l0_1.length c0_1,.int .i64 a0_2] 25 (0,0)) (by (with_reducible repeat (first|refine blk_drewN ?_ _|refine blk_drew ?_|refine blk_alloc ?_ _));exact BK373.out) hg (Kd.R_ne HO385.out BK373.out (by decide)));have n1_:=Aside0.mk (blk_grown (g:=gb374) (o:=.cells #[.slice A1_0 l1_0.length c1_0,.slice (some ad386) l1_1.length c1_1,.int .i64 a1_2] 25 (0,0)) (by (with_reducible repeat (first|refine blk_drewN ?_ _|refine blk_drew ?_|refine blk_alloc ?_ _));exact BK374.out) hg (Kd.R_ne HO385.out BK374.out (by decide)));have n2_:=Aside0.mk (hb);have n3_:=Aside0.mk (ho);clear BK373 BK374 HB HO385;have BK373:=n0_;have BK374:=n1_;have HB:=n2_;have HO391:=n3_;clear n0_ n1_ n2_ n3_;clear ho hb hg hat));try go_wp2_with (first|((with_reducible refine gate_builtin (b:=.append) (xs:=#[.tmp 50,.tmp 53]) rfl ?_);at_builtin;refine Kd.R_append k55 (w0:=w) w.heap.size rfl (.tmp 50) (.tmp 53) 34 55 (.agg #[(.int .i64 0),(.int .i64 0),(.int .i64 0)]) 24 rfl Try.underlying34 info55 rfl (by decide) (by omega) u6 x6_3 (⟨1,x34_3,0⟩:S55) [.int .i64 1,.int .i64 x34_3,.int .i64 0] (fun _=>True) (fun _=>False) rfl rfl ?aP (fun _ hk=>hk.elim) ?aF ?aO ?aB ?aS ?aL ?_;(case aP=>exact k55_mkM _ _ _ (⟨1,x34_3,0⟩:S55));(case aB=>exact (by repeat (first|(with_reducible first|exact HB.out|apply below_alloc|apply pw_below_drewN|apply below_drew1|refine below_set ?_ GE373.out|refine below_set ?_ GE374.out)|exact HB.out)));(case aF=>exact (fun _ _=>trivial));(case aO=>exact (by (with_reducible repeat (first|apply Kd.R_alloc|apply Kd.R_drewN|apply Kd.R_drew));exact HO_6.out));(case aS=>exact (below_size (by repeat (first|(with_reducible first|exact HB.out|apply below_alloc|apply pw_below_drewN|apply below_drew1|refine below_set ?_ GE373.out|refine below_set ?_ GE374.out)|exact HB.out))));(case aL=>have:=LMc47.out;omega);intro v384 w53 ho hb hg hat;rw [← Ny383.out] at ho;have n0_:=Aside0.mk (blk_grown (g:=gb373) (o:=.cells #[.slice A0_0 l0_0.length c0_0,.slice A0_1 l0_1.length c0_1,.int .i64 a0_2] 25 (0,0)) (by (with_reducible repeat (first|refine blk_drewN ?_ _|refine blk_drew ?_|refine blk_alloc ?_ _));exact BK373.out) hg (Kd.R_ne HO_6.out BK373.out (by decide)));have n1_:=Aside0.mk (blk_grown (g:=gb374) (o:=.cells #[.slice A1_0 l1_0.length c1_0,.slice A1_1 l1_1.length c1_1,.int .i64 a1_2] 25 (0,0)) (by (with_reducible repeat (first|refine blk_drewN ?_ _|refine blk_drew ?_|refine blk_alloc ?_ _));exact BK374.out) hg (Kd.R_ne HO_6.out BK374.out (by decide)));have n2_:=Aside0.mk (hb);have n3_:=Aside0.mk (ho);clear BK373 BK374 HB HO_6;have BK373:=n0_;have BK374:=n1_;have HB:=n2_;have HO385:=n3_;clear n0_ n1_ n2_ n3_;clear ho hb hg hat;have hnb54:=NB374_373.out;have hnc54:=NB373_374.out;have hcz55_0:w53.cell? ⟨gb374,0,none⟩=some (.slice A1_0 l1_0.length c1_0):=(blk_cell BK374.out 0).trans rfl;have hcz55_1:w53.cell? ⟨gb374,1,none⟩=some (.slice A1_1 l1_1.length c1_1):=(blk_cell BK374.out 1).trans rfl;have hcz55_2:w53.cell? ⟨gb374,2,none⟩=some (.int .i64 a1_2):=(blk_cell BK374.out 2).trans rfl;have hfz55_0:=blk_frozen BK374.out 0;have hfz55_1:=blk_frozen BK374.out 1;have hfz55_2:=blk_frozen BK374.out 2;have p386:0≤(x34_3:Int):=of_decide_eq_true (by first|(with_reducible assumption)|assumption);have q386:x34_3 < (l1_1.length:Int):=of_decide_eq_true (by first|(with_reducible assumption)|assumption);obtain ⟨ad386,e386,hx386_0⟩:=Kd.at_int HR1_1.out x34_3 p386 q386;cases e386;replace hx386_0:=(HB.out.cell (World.block_lt_of_cell? w _ hx386_0)).trans hx386_0;replace p386:=eq_true p386;replace q386:=eq_true q386;have hcz56_0:w53.cell? ⟨gb373,0,none⟩=some (.slice A0_0 l0_0.length c0_0):=(blk_cell BK373.out 0).trans rfl;have hcz56_1:w53.cell? ⟨gb373,1,none⟩=some (.slice A0_1 l0_1.length c0_1):=(blk_cell BK373.out 1).trans rfl;have hcz56_2:w53.cell? ⟨gb373,2,none⟩=some (.int .i64 a0_2):=(blk_cell BK373.out 2).trans rfl;have hfz56_0:=blk_frozen BK373.out 0;have hfz56_1:=blk_frozen BK373.out 1;have hfz56_2:=blk_frozen BK373.out 2;have p387:0≤(x34_3:Int):=of_decide_eq_true (by first|(with_reducible assumption)|assumption);have q387:x34_3 < (l0_1.length:Int):=of_decide_eq_true (by first|(with_reducible assumption)|assumption);obtain ⟨ad387,e387,hx387_0⟩:=Kd.at_int HR0_1.out x34_3 p387 q387;cases e387;replace hx387_0:=(HB.out.cell (World.block_lt_of_cell? w _ hx387_0)).trans hx387_0;replace p387:=eq_true p387;replace q387:=eq_true q387;have p388:0≤(x34_3:Int):=of_decide_eq_true (by first|(with_reducible assumption)|assumption);have q388:x34_3 < (l1_1.length:Int):=of_decide_eq_true (by first|(with_reducible assumption)|assumption);obtain ⟨ad388,e388,hx388_0⟩:=Kd.at_int HR1_1.out x34_3 p388 q388;obtain rfl:ad386=ad388:=(by injection e388);replace hx388_0:=(HB.out.cell (World.block_lt_of_cell? w _ hx388_0)).trans hx388_0;replace p388:=eq_true p388;replace q388:=eq_true q388)|((with_reducible refine gate_builtin (b:=.append) (xs:=#[.tmp 66,.tmp 74]) rfl ?_);at_builtin;refine Kd.R_append k55 (w0:=w) w.heap.size rfl (.tmp 66) (.tmp 74) 34 55 (.agg #[(.int .i64 0),(.int .i64 0),(.int .i64 0)]) 24 rfl Try.underlying34 info55 rfl (by decide) (by omega) v384 y383 (⟨2,x34_3,rd l1_1 x34_3⟩:S55) [.int .i64 2,.int .i64 x34_3,.int .i64 (rd l1_1 x34_3)] (fun _=>True) (fun _=>False) rfl rfl ?aP (fun _ hk=>hk.elim) ?aF ?aO ?aB ?aS ?aL ?_;(case aP=>exact k55_mkM _ _ _ (⟨2,x34_3,rd l1_1 x34_3⟩:S55));(case aB=>exact (by repeat (first|(with_reducible first|exact HB.out|apply below_alloc|apply pw_below_drewN|apply below_drew1|refine below_set ?_ GE373.out|refine below_set ?_ GE374.out)|exact HB.out)));(case aF=>exact (fun _ _=>trivial));(case aO=>exact (by (with_reducible repeat (first|apply Kd.R_alloc|apply Kd.R_drewN|apply Kd.R_drew));exact HO385.out));(case aS=>exact (below_size (by repeat (first|(with_reducible first|exact HB.out|apply below_alloc|apply pw_below_drewN|apply below_drew1|refine below_set ?_ GE373.out|refine below_set ?_ GE374.out)|exact HB.out))));(case aL=>have:=LMc52.out;omega);intro v390 w57 ho hb hg hat;rw [← Ny389.out] at ho;have n0_:=Aside0.mk (blk_grown (g:=gb373) (o:=.cells #[.slice A0_0 l0_0.length c0_0,.slice (some ad387) l0_1.length c0_1,.int .i64 a0_2] 25 (0,0)) (by (with_reducible repeat (first|refine blk_drewN ?_ _|refine blk_drew ?_|refine blk_alloc ?_ _));exact BK373.out) hg (Kd.R_ne HO385.out BK373.out (by decide)));have n1_:=Aside0.mk (blk_grown (g:=gb374) (o:=.cells #[.slice A1_0 l1_0.length c1_0,.slice (some ad386) l1_1.length c1_1,.int .i64 a1_2] 25 (0,0)) (by (with_reducible repeat (first|refine blk_drewN ?_ _|refine blk_drew ?_|refine blk_alloc ?_ _));exact BK374.out) hg (Kd.R_ne HO385.out BK374.out (by decide)));have n2_:=Aside0.mk (hb);have n3_:=Aside0.mk (ho);clear BK373 BK374 HB HO385;have BK373:=n0_;have BK374:=n1_;have HB:=n2_;have HO391:=n3_;clear n0_ n1_ n2_ n3_;clear ho hb hg hat)))
                   go_roundg kj34
                   case measure=>have:=HJ2.out;have:=HJ19.out;have:=HK3.out;have:=HJ34.out;omega
                   case rel=>exact ⟨(y389),(wrap64 (x34_3 + 1)),(by first|rfl|(simp;done)|(simp [*];done)),H',⟨by have:=HJ2.out;have:=HJ19.out;have:=HK3.out;have:=HJ34.out;omega⟩,⟨by (with_reducible repeat (first|apply Kd.R_alloc|apply Kd.R_drewN|apply Kd.R_drew));exact HO391.out⟩,⟨by (with_reducible repeat (first|refine blk_drewN ?_ _|refine blk_drew ?_|refine blk_alloc ?_ _));exact BK373.out⟩,⟨by (with_reducible repeat (first|refine blk_drewN ?_ _|refine blk_drew ?_|refine blk_alloc ?_ _));exact BK374.out⟩,⟨by repeat (first|(with_reducible first|exact HB.out|apply below_alloc|apply pw_below_drewN|apply below_drew1|refine below_set ?_ GE373.out|refine below_set ?_ GE374.out)|exact HB.out)⟩⟩
                  ·rw [if_neg c52] at H
                   exact absurd H (by simp)
                 ·rw [if_neg c51] at H
                  have c51b0:decide ((rd l0_1 x34_3) < (rd l1_1 x34_3))=false:=decide_eq_false c51
                  clear c51
                  have H':=Aside0.mk H
                  clear H
                  go_wp2_with (first|((with_reducible refine gate_builtin (b:=.append) (xs:=#[.tmp 50,.tmp 53]) rfl ?_);at_builtin;refine Kd.R_append k55 (w0:=w) w.heap.size rfl (.tmp 50) (.tmp 53) 34 55 (.agg #[(.int .i64 0),(.int .i64 0),(.int .i64 0)]) 24 rfl Try.underlying34 info55 rfl (by decide) (by omega) u6 x6_3 (⟨1,x34_3,0⟩:S55) [.int .i64 1,.int .i64 x34_3,.int .i64 0] (fun _=>True) (fun _=>False) rfl rfl ?aP (fun _ hk=>hk.elim) ?aF ?aO ?aB ?aS ?aL ?_;(case aP=>exact k55_mkM _ _ _ (⟨1,x34_3,0⟩:S55));(case aB=>exact (by repeat (first|(with_reducible first|exact HB.out|apply below_alloc|apply pw_below_drewN|apply below_drew1|refine below_set ?_ GE373.out|refine below_set ?_ GE374.out)|exact HB.out)));(case aF=>exact (fun _ _=>trivial));(case aO=>exact (by (with_reducible repeat (first|apply Kd.R_alloc|apply Kd.R_drewN|apply Kd.R_drew));exact HO_6.out));(case aS=>exact (below_size (by repeat (first|(with_reducible first|exact HB.out|apply below_alloc|apply pw_below_drewN|apply below_drew1|refine below_set ?_ GE373.out|refine below_set ?_ GE374.out)|exact HB.out))));(case aL=>have:=LMc47.out;omega);intro v384 w58 ho hb hg hat;rw [← Ny383.out] at ho;have n0_:=Aside0.mk (blk_grown (g:=gb373) (o:=.cells #[.slice A0_0 l0_0.length c0_0,.slice A0_1 l0_1.length c0_1,.int .i64 a0_2] 25 (0,0)) (by (with_reducible repeat (first|refine blk_drewN ?_ _|refine blk_drew ?_|refine blk_alloc ?_ _));exact BK373.out) hg (Kd.R_ne HO_6.out BK373.out (by decide)));have n1_:=Aside0.mk (blk_grown (g:=gb374) (o:=.cells #[.slice A1_0 l1_0.length c1_0,.slice A1_1 l1_1.length c1_1,.int .i64 a1_2] 25 (0,0)) (by (with_reducible repeat (first|refine blk_drewN ?_ _|refine blk_drew ?_|refine blk_alloc ?_ _));exact BK374.out) hg (Kd.R_ne HO_6.out BK374.out (by decide)));have n2_:=Aside0.mk (hb);have n3_:=Aside0.mk (ho);clear BK373 BK374 HB HO_6;have BK373:=n0_;have BK374:=n1_;have HB:=n2_;have HO385:=n3_;clear n0_ n1_ n2_ n3_;clear ho hb hg hat;have hnb59:=NB374_373.out;have hnc59:=NB373_374.out;have hcz60_0:w58.cell? ⟨gb374,0,none⟩=some (.slice A1_0 l1_0.length c1_0):=(blk_cell BK374.out 0).trans rfl;have hcz60_1:w58.cell? ⟨gb374,1,none⟩=some (.slice A1_1 l1_1.length c1_1):=(blk_cell BK374.out 1).trans rfl;have hcz60_2:w58.cell? ⟨gb374,2,none⟩=some (.int .i64 a1_2):=(blk_cell BK374.out 2).trans rfl;have hfz60_0:=blk_frozen BK374.out 0;have hfz60_1:=blk_frozen BK374.out 1;have hfz60_2:=blk_frozen BK374.out 2;have p386:0≤(x34_3:Int):=of_decide_eq_true (by first|(with_reducible assumption)|assumption);have q386:x34_3 < (l1_1.length:Int):=of_decide_eq_true (by first|(with_reducible assumption)|assumption);obtain ⟨ad386,e386,hx386_0⟩:=Kd.at_int HR1_1.out x34_3 p386 q386;cases e386;replace hx386_0:=(HB.out.cell (World.block_lt_of_cell? w _ hx386_0)).trans hx386_0;replace p386:=eq_true p386;replace q386:=eq_true q386;have hcz61_0:w58.cell? ⟨gb373,0,none⟩=some (.slice A0_0 l0_0.length c0_0):=(blk_cell BK373.out 0).trans rfl;have hcz61_1:w58.cell? ⟨gb373,1,none⟩=some (.slice A0_1 l0_1.length c0_1):=(blk_cell BK373.out 1).trans rfl;have hcz61_2:w58.cell? ⟨gb373,2,none⟩=some (.int .i64 a0_2):=(blk_cell BK373.out 2).trans rfl;have hfz61_0:=blk_frozen BK373.out 0;have hfz61_1:=blk_frozen BK373.out 1;have hfz61_2:=blk_frozen BK373.out 2;have p387:0≤(x34_3:Int):=of_decide_eq_true (by first|(with_reducible assumption)|assumption);have q387:x34_3 < (l0_1.length:Int):=of_decide_eq_true (by first|(with_reducible assumption)|assumption);obtain ⟨ad387,e387,hx387_0⟩:=Kd.at_int HR0_1.out x34_3 p387 q387;cases e387;replace hx387_0:=(HB.out.cell (World.block_lt_of_cell? w _ hx387_0)).trans hx387_0;replace p387:=eq_true p387;replace q387:=eq_true q387))
                  repeat (go_quiet (first|((with_reducible refine gate_builtin (b:=.append) (xs:=#[.tmp 50,.tmp 53]) rfl ?_);at_builtin;refine Kd.R_append k55 (w0:=w) w.heap.size rfl (.tmp 50) (.tmp 53) 34 55 (.agg #[(.int .i64 0),(.int .i64 0),(.int .i64 0)]) 24 rfl Try.underlying34 info55 rfl (by decide) (by omega) u6 x6_3 (⟨1,x34_3,0⟩:S55) [.int .i64 1,.int .i64 x34_3,.int .i64 0] (fun _=>True) (fun _=>False) rfl rfl ?aP (fun _ hk=>hk.elim) ?aF ?aO ?aB ?aS ?aL ?_;(case aP=>exact k55_mkM _ _ _ (⟨1,x34_3,0⟩:S55));(case aB=>exact (by repeat (first|(with_reducible first|exact HB.out|apply below_alloc|apply pw_below_drewN|apply below_drew1|refine below_set ?_ GE373.out|refine below_set ?_ GE374.out)|exact HB.out)));(case aF=>exact (fun _ _=>trivial));(case aO=>exact (by (with_reducible repeat (first|apply Kd.R_alloc|apply Kd.R_drewN|apply Kd.R_drew));exact HO_6.out));(case aS=>exact (below_size (by repeat (first|(with_reducible first|exact HB.out|apply below_alloc|apply pw_below_drewN|apply below_drew1|refine below_set ?_ GE373.out|refine below_set ?_ GE374.out)|exact HB.out))));(case aL=>have:=LMc47.out;omega);intro v384 w58 ho hb hg hat;rw [← Ny383.out] at ho;have n0_:=Aside0.mk (blk_grown (g:=gb373) (o:=.cells #[.slice A0_0 l0_0.length c0_0,.slice A0_1 l0_1.length c0_1,.int .i64 a0_2] 25 (0,0)) (by (with_reducible repeat (first|refine blk_drewN ?_ _|refine blk_drew ?_|refine blk_alloc ?_ _));exact BK373.out) hg (Kd.R_ne HO_6.out BK373.out (by decide)));have n1_:=Aside0.mk (blk_grown (g:=gb374) (o:=.cells #[.slice A1_0 l1_0.length c1_0,.slice A1_1 l1_1.length c1_1,.int .i64 a1_2] 25 (0,0)) (by (with_reducible repeat (first|refine blk_drewN ?_ _|refine blk_drew ?_|refine blk_alloc ?_ _));exact BK374.out) hg (Kd.R_ne HO_6.out BK374.out (by decide)));have n2_:=Aside0.mk (hb);have n3_:=Aside0.mk (ho);clear BK373 BK374 HB HO_6;have BK373:=n0_;have BK374:=n1_;have HB:=n2_;have HO385:=n3_;clear n0_ n1_ n2_ n3_;clear ho hb hg hat;have hnb59:=NB374_373.out;have hnc59:=NB373_374.out;have hcz60_0:w58.cell? ⟨gb374,0,none⟩=some (.slice A1_0 l1_0.length c1_0):=(blk_cell BK374.out 0).trans rfl;have hcz60_1:w58.cell? ⟨gb374,1,none⟩=some (.slice A1_1 l1_1.length c1_1):=(blk_cell BK374.out 1).trans rfl;have hcz60_2:w58.cell? ⟨gb374,2,none⟩=some (.int .i64 a1_2):=(blk_cell BK374.out 2).trans rfl;have hfz60_0:=blk_frozen BK374.out 0;have hfz60_1:=blk_frozen BK374.out 1;have hfz60_2:=blk_frozen BK374.out 2;have p386:0≤(x34_3:Int):=of_decide_eq_true (by first|(with_reducible assumption)|assumption);have q386:x34_3 < (l1_1.length:Int):=of_decide_eq_true (by first|(with_reducible assumption)|assumption);obtain ⟨ad386,e386,hx386_0⟩:=Kd.at_int HR1_1.out x34_3 p386 q386;cases e386;replace hx386_0:=(HB.out.cell (World.block_lt_of_cell? w _ hx386_0)).trans hx386_0;replace p386:=eq_true p386;replace q386:=eq_true q386;have hcz61_0:w58.cell? ⟨gb373,0,none⟩=some (.slice A0_0 l0_0.length c0_0):=(blk_cell BK373.out 0).trans rfl;have hcz61_1:w58.cell? ⟨gb373,1,none⟩=some (.slice A0_1 l0_1.length c0_1):=(blk_cell BK373.out 1).trans rfl;have hcz61_2:w58.cell? ⟨gb373,2,none⟩=some (.int .i64 a0_2):=(blk_cell BK373.out 2).trans rfl;have hfz61_0:=blk_frozen BK373.out 0;have hfz61_1:=blk_frozen BK373.out 1;have hfz61_2:=blk_frozen BK373.out 2;have p387:0≤(x34_3:Int):=of_decide_eq_true (by first|(with_reducible assumption)|assumption);have q387:x34_3 < (l0_1.length:Int):=of_decide_eq_true (by first|(with_reducible assumption)|assumption);obtain ⟨ad387,e387,hx387_0⟩:=Kd.at_int HR0_1.out x34_3 p387 q387;cases e387;replace hx387_0:=(HB.out.cell (World.block_lt_of_cell? w _ hx387_0)).trans hx387_0;replace p387:=eq_true p387;replace q387:=eq_true q387));try go_wp2_with (first|((with_reducible refine gate_builtin (b:=.append) (xs:=#[.tmp 50,.tmp 53]) rfl ?_);at_builtin;refine Kd.R_append k55 (w0:=w) w.heap.size rfl (.tmp 50) (.tmp 53) 34 55 (.agg #[(.int .i64 0),(.int .i64 0),(.int .i64 0)]) 24 rfl Try.underlying34 info55 rfl (by decide) (by omega) u6 x6_3 (⟨1,x34_3,0⟩:S55) [.int .i64 1,.int .i64 x34_3,.int .i64 0] (fun _=>True) (fun _=>False) rfl rfl ?aP (fun _ hk=>hk.elim) ?aF ?aO ?aB ?aS ?aL ?_;(case aP=>exact k55_mkM _ _ _ (⟨1,x34_3,0⟩:S55));(case aB=>exact (by repeat (first|(with_reducible first|exact HB.out|apply below_alloc|apply pw_below_drewN|apply below_drew1|refine below_set ?_ GE373.out|refine below_set ?_ GE374.out)|exact HB.out)));(case aF=>exact (fun _ _=>trivial));(case aO=>exact (by (with_reducible repeat (first|apply Kd.R_alloc|apply Kd.R_drewN|apply Kd.R_drew));exact HO_6.out));(case aS=>exact (below_size (by repeat (first|(with_reducible first|exact HB.out|apply below_alloc|apply pw_below_drewN|apply below_drew1|refine below_set ?_ GE373.out|refine below_set ?_ GE374.out)|exact HB.out))));(case aL=>have:=LMc47.out;omega);intro v384 w58 ho hb hg hat;rw [← Ny383.out] at ho;have n0_:=Aside0.mk (blk_grown (g:=gb373) (o:=.cells #[.slice A0_0 l0_0.length c0_0,.slice A0_1 l0_1.length c0_1,.int .i64 a0_2] 25 (0,0)) (by (with_reducible repeat (first|refine blk_drewN ?_ _|refine blk_drew ?_|refine blk_alloc ?_ _));exact BK373.out) hg (Kd.R_ne HO_6.out BK373.out (by decide)));have n1_:=Aside0.mk (blk_grown (g:=gb374) (o:=.cells #[.slice A1_0 l1_0.length c1_0,.slice A1_1 l1_1.length c1_1,.int .i64 a1_2] 25 (0,0)) (by (with_reducible repeat (first|refine blk_drewN ?_ _|refine blk_drew ?_|refine blk_alloc ?_ _));exact BK374.out) hg (Kd.R_ne HO_6.out BK374.out (by decide)));have n2_:=Aside0.mk (hb);have n3_:=Aside0.mk (ho);clear BK373 BK374 HB HO_6;have BK373:=n0_;have BK374:=n1_;have HB:=n2_;have HO385:=n3_;clear n0_ n1_ n2_ n3_;clear ho hb hg hat;have hnb59:=NB374_373.out;have hnc59:=NB373_374.out;have hcz60_0:w58.cell? ⟨gb374,0,none⟩=some (.slice A1_0 l1_0.length c1_0):=(blk_cell BK374.out 0).trans rfl;have hcz60_1:w58.cell? ⟨gb374,1,none⟩=some (.slice A1_1 l1_1.length c1_1):=(blk_cell BK374.out 1).trans rfl;have hcz60_2:w58.cell? ⟨gb374,2,none⟩=some (.int .i64 a1_2):=(blk_cell BK374.out 2).trans rfl;have hfz60_0:=blk_frozen BK374.out 0;have hfz60_1:=blk_frozen BK374.out 1;have hfz60_2:=blk_frozen BK374.out 2;have p386:0≤(x34_3:Int):=of_decide_eq_true (by first|(with_reducible assumption)|assumption);have q386:x34_3 < (l1_1.length:Int):=of_decide_eq_true (by first|(with_reducible assumption)|assumption);obtain ⟨ad386,e386,hx386_0⟩:=Kd.at_int HR1_1.out x34_3 p386 q386;cases e386;replace hx386_0:=(HB.out.cell (World.block_lt_of_cell? w _ hx386_0)).trans hx386_0;replace p386:=eq_true p386;replace q386:=eq_true q386;have hcz61_0:w58.cell? ⟨gb373,0,none⟩=some (.slice A0_0 l0_0.length c0_0):=(blk_cell BK373.out 0).trans rfl;have hcz61_1:w58.cell? ⟨gb373,1,none⟩=some (.slice A0_1 l0_1.length c0_1):=(blk_cell BK373.out 1).trans rfl;have hcz61_2:w58.cell? ⟨gb373,2,none⟩=some (.int .i64 a0_2):=(blk_cell BK373.out 2).trans rfl;have hfz61_0:=blk_frozen BK373.out 0;have hfz61_1:=blk_frozen BK373.out 1;have hfz61_2:=blk_frozen BK373.out 2;have p387:0≤(x34_3:Int):=of_decide_eq_true (by first|(with_reducible assumption)|assumption);have q387:x34_3 < (l0_1.length:Int):=of_decide_eq_true (by first|(with_reducible assumption)|assumption);obtain ⟨ad387,e387,hx387_0⟩:=Kd.at_int HR0_1.out x34_3 p387 q387;cases e387;replace hx387_0:=(HB.out.cell (World.block_lt_of_cell? w _ hx387_0)).trans hx387_0;replace p387:=eq_true p387;replace q387:=eq_true q387)))
                  go_roundg kj34
                  case measure=>have:=HJ2.out;have:=HJ19.out;have:=HK3.out;have:=HJ34.out;omega
                  case rel=>exact ⟨(y383),(wrap64 (x34_3 + 1)),(by first|rfl|(simp;done)|(simp [*];done)),H',⟨by have:=HJ2.out;have:=HJ19.out;have:=HK3.out;have:=HJ34.out;omega⟩,⟨by (with_reducible repeat (first|apply Kd.R_alloc|apply Kd.R_drewN|apply Kd.R_drew));exact HO385.out⟩,⟨by (with_reducible repeat (first|refine blk_drewN ?_ _|refine blk_drew ?_|refine blk_alloc ?_ _));exact BK373.out⟩,⟨by (with_reducible repeat (first|refine blk_drewN ?_ _|refine blk_drew ?_|refine blk_alloc ?_ _));exact BK374.out⟩,⟨by repeat (first|(with_reducible first|exact HB.out|apply below_alloc|apply pw_below_drewN|apply below_drew1|refine below_set ?_ GE373.out|refine below_set ?_ GE374.out)|exact HB.out)⟩⟩
                ·rw [if_neg c50] at H
                 exact absurd H (by simp)
               ·rw [if_neg c49] at H
                exact absurd H (by simp)
              ·rw [if_neg c48] at H
               exact absurd H (by simp)
             ·rw [if_neg c47] at H
              exact absurd H (by simp)
            ·replace c46:=Bool.eq_false_iff.mpr c46
             subst c46
             have H1:(if 0≤x34_3 then (if x34_3 < (l1_1.length:Int) then (if x34_3 < (l0_1.length:Int) then (if (rd l1_1 x34_3) > (rd l0_1 x34_3) then (if x6_3.length < 5864062014805 then (mapjnl_Diff.l0 kj34 (x6_3 ++ [(⟨2,x34_3,rd l1_1 x34_3⟩:S55)]) (l0_0.length:Int) (wrap64 (x34_3 + 1)) l0_0 l0_1 a0_2 l1_0 l1_1 a1_2) else (none)) else (mapjnl_Diff.l0 kj34 x6_3 (l0_0.length:Int) (wrap64 (x34_3 + 1)) l0_0 l0_1 a0_2 l1_0 l1_1 a1_2)) else (none)) else (none)) else (none))=some (r1,r2):=by rw [if_neg (show ¬ (false=true) by decide)] at H;exact H
             clear H
             have H:=H1
             clear H1
             by_cases c62:0≤x34_3
             ·rw [if_pos c62] at H
              have c62b0:decide (0≤x34_3)=true:=decide_eq_true c62
              clear c62
              by_cases c63:x34_3 < (l1_1.length:Int)
              ·rw [if_pos c63] at H
               have c63b0:decide (x34_3 < (l1_1.length:Int))=true:=decide_eq_true c63
               clear c63
               by_cases c64:x34_3 < (l0_1.length:Int)
               ·rw [if_pos c64] at H
                have c64b0:decide (x34_3 < (l0_1.length:Int))=true:=decide_eq_true c64
                clear c64
                by_cases c65:(rd l1_1 x34_3) > (rd l0_1 x34_3)
                ·rw [if_pos c65] at H
                 have c65b0:decide ((rd l0_1 x34_3) < (rd l1_1 x34_3))=true:=decide_eq_true c65
                 clear c65
                 by_cases c66:x6_3.length < 5864062014805
                 ·rw [if_pos c66] at H
                  have LMc66:=Aside0.mk c66
                  clear c66
                  obtain ⟨y395,hy395⟩:∃ y_:List (S55),y_=(x6_3 ++ [(⟨2,x34_3,rd l1_1 x34_3⟩:S55)]):=⟨_,rfl⟩
                  replace H:(mapjnl_Diff.l0 kj34 y395 (l0_0.length:Int) (wrap64 (x34_3 + 1)) l0_0 l0_1 a0_2 l1_0 l1_1 a1_2)=some (r1,r2):=by first|(rw [hy395];with_reducible exact H)|(have H2_:=(Option.bind_some _ _).symm.trans H;rw [hy395];with_reducible exact H2_)|(have H2_:=(Option.bind_some _ _).symm.trans H;with_reducible exact H2_)|with_reducible exact H|(rw [hy395];exact H)|exact H
                  have Ny395:=Aside0.mk hy395
                  clear hy395
                  have H':=Aside0.mk H
                  clear H
                  have hnb67:=NB374_373.out
                  have hnc67:=NB373_374.out
                  have hcz68_0:wc.cell? ⟨gb374,0,none⟩=some (.slice A1_0 l1_0.length c1_0):=(blk_cell BK374.out 0).trans rfl
                  have hcz68_1:wc.cell? ⟨gb374,1,none⟩=some (.slice A1_1 l1_1.length c1_1):=(blk_cell BK374.out 1).trans rfl
                  have hcz68_2:wc.cell? ⟨gb374,2,none⟩=some (.int .i64 a1_2):=(blk_cell BK374.out 2).trans rfl
                  have hfz68_0:=blk_frozen BK374.out 0
                  have hfz68_1:=blk_frozen BK374.out 1
                  have hfz68_2:=blk_frozen BK374.out 2
                  have p392:0≤(x34_3:Int):=of_decide_eq_true (by first|(with_reducible assumption)|assumption)
                  have q392:x34_3 < (l1_1.length:Int):=of_decide_eq_true (by first|(with_reducible assumption)|assumption)
                  obtain ⟨ad392,e392,hx392_0⟩:=Kd.at_int HR1_1.out x34_3 p392 q392
                  cases e392
                  replace hx392_0:=(HB.out.cell (World.block_lt_of_cell? w _ hx392_0)).trans hx392_0
                  replace p392:=eq_true p392
                  replace q392:=eq_true q392
                  have hcz69_0:wc.cell? ⟨gb373,0,none⟩=some (.slice A0_0 l0_0.length c0_0):=(blk_cell BK373.out 0).trans rfl
                  have hcz69_1:wc.cell? ⟨gb373,1,none⟩=some (.slice A0_1 l0_1.length c0_1):=(blk_cell BK373.out 1).trans rfl
                  have hcz69_2:wc.cell? ⟨gb373,2,none⟩=some (.int .i64 a0_2):=(blk_cell BK373.out 2).trans rfl
                  have hfz69_0:=blk_frozen BK373.out 0
                  have hfz69_1:=blk_frozen BK373.out 1
                  have hfz69_2:=blk_frozen BK373.out 2
                  have p393:0≤(x34_3:Int):=of_decide_eq_true (by first|(with_reducible assumption)|assumption)
                  have q393:x34_3 < (l0_1.length:Int):=of_decide_eq_true (by first|(with_reducible assumption)|assumption)
                  obtain ⟨ad393,e393,hx393_0⟩:=Kd.at_int HR0_1.out x34_3 p393 q393
                  cases e393
                  replace hx393_0:=(HB.out.cell (World.block_lt_of_cell? w _ hx393_0)).trans hx393_0
                  replace p393:=eq_true p393
                  replace q393:=eq_true q393
                  have p394:0≤(x34_3:Int):=of_decide_eq_true (by first|(with_reducible assumption)|assumption)
                  have q394:x34_3 < (l1_1.length:Int):=of_decide_eq_true (by first|(with_reducible assumption)|assumption)
                  obtain ⟨ad394,e394,hx394_0⟩:=Kd.at_int HR1_1.out x34_3 p394 q394
                  obtain rfl:ad392=ad394:=(by injection e394)
                  replace hx394_0:=(HB.out.cell (World.block_lt_of_cell? w _ hx394_0)).trans hx394_0
                  replace p394:=eq_true p394
                  replace q394:=eq_true q394
                  go_wp2_with (first|((with_reducible refine gate_builtin (b:=.append) (xs:=#[.tmp 66,.tmp 74]) rfl ?_);at_builtin;refine Kd.R_append k55 (w0:=w) w.heap.size rfl (.tmp 66) (.tmp 74) 34 55 (.agg #[(.int .i64 0),(.int .i64 0),(.int .i64 0)]) 24 rfl Try.underlying34 info55 rfl (by decide) (by omega) u6 x6_3 (⟨2,x34_3,rd l1_1 x34_3⟩:S55) [.int .i64 2,.int .i64 x34_3,.int .i64 (rd l1_1 x34_3)] (fun _=>True) (fun _=>False) rfl rfl ?aP (fun _ hk=>hk.elim) ?aF ?aO ?aB ?aS ?aL ?_;(case aP=>exact k55_mkM _ _ _ (⟨2,x34_3,rd l1_1 x34_3⟩:S55));(case aB=>exact (by repeat (first|(with_reducible first|exact HB.out|apply below_alloc|apply pw_below_drewN|apply below_drew1|refine below_set ?_ GE373.out|refine below_set ?_ GE374.out)|exact HB.out)));(case aF=>exact (fun _ _=>trivial));(case aO=>exact (by (with_reducible repeat (first|apply Kd.R_alloc|apply Kd.R_drewN|apply Kd.R_drew));exact HO_6.out));(case aS=>exact (below_size (by repeat (first|(with_reducible first|exact HB.out|apply below_alloc|apply pw_below_drewN|apply below_drew1|refine below_set ?_ GE373.out|refine below_set ?_ GE374.out)|exact HB.out))));(case aL=>have:=LMc66.out;omega);intro v396 w70 ho hb hg hat;rw [← Ny395.out] at ho;have n0_:=Aside0.mk (blk_grown (g:=gb373) (o:=.cells #[.slice A0_0 l0_0.length c0_0,.slice (some ad393) l0_1.length c0_1,.int .i64 a0_2] 25 (0,0)) (by (with_reducible repeat (first|refine blk_drewN ?_ _|refine blk_drew ?_|refine blk_alloc ?_ _));exact BK373.out) hg (Kd.R_ne HO_6.out BK373.out (by decide)));have n1_:=Aside0.mk (blk_grown (g:=gb374) (o:=.cells #[.slice A1_0 l1_0.length c1_0,.slice (some ad392) l1_1.length c1_1,.int .i64 a1_2] 25 (0,0)) (by (with_reducible repeat (first|refine blk_drewN ?_ _|refine blk_drew ?_|refine blk_alloc ?_ _));exact BK374.out) hg (Kd.R_ne HO_6.out BK374.out (by decide)));have n2_:=Aside0.mk (hb);have n3_:=Aside0.mk (ho);clear BK373 BK374 HB HO_6;have BK373:=n0_;have BK374:=n1_;have HB:=n2_;have HO397:=n3_;clear n0_ n1_ n2_ n3_;clear ho hb hg hat))
                  repeat (go_quiet (first|((with_reducible refine gate_builtin (b:=.append) (xs:=#[.tmp 66,.tmp 74]) rfl ?_);at_builtin;refine Kd.R_append k55 (w0:=w) w.heap.size rfl (.tmp 66) (.tmp 74) 34 55 (.agg #[(.int .i64 0),(.int .i64 0),(.int .i64 0)]) 24 rfl Try.underlying34 info55 rfl (by decide) (by omega) u6 x6_3 (⟨2,x34_3,rd l1_1 x34_3⟩:S55) [.int .i64 2,.int .i64 x34_3,.int .i64 (rd l1_1 x34_3)] (fun _=>True) (fun _=>False) rfl rfl ?aP (fun _ hk=>hk.elim) ?aF ?aO ?aB ?aS ?aL ?_;(case aP=>exact k55_mkM _ _ _ (⟨2,x34_3,rd l1_1 x34_3⟩:S55));(case aB=>exact (by repeat (first|(with_reducible first|exact HB.out|apply below_alloc|apply pw_below_drewN|apply below_drew1|refine below_set ?_ GE373.out|refine below_set ?_ GE374.out)|exact HB.out)));(case aF=>exact (fun _ _=>trivial));(case aO=>exact (by (with_reducible repeat (first|apply Kd.R_alloc|apply Kd.R_drewN|apply Kd.R_drew));exact HO_6.out));(case aS=>exact (below_size (by repeat (first|(with_reducible first|exact HB.out|apply below_alloc|apply pw_below_drewN|apply below_drew1|refine below_set ?_ GE373.out|refine below_set ?_ GE374.out)|exact HB.out))));(case aL=>have:=LMc66.out;omega);intro v396 w70 ho hb hg hat;rw [← Ny395.out] at ho;have n0_:=Aside0.mk (blk_grown (g:=gb373) (o:=.cells #[.slice A0_0 l0_0.length c0_0,.slice (some ad393) l0_1.length c0_1,.int .i64 a0_2] 25 (0,0)) (by (with_reducible repeat (first|refine blk_drewN ?_ _|refine blk_drew ?_|refine blk_alloc ?_ _));exact BK373.out) hg (Kd.R_ne HO_6.out BK373.out (by decide)));have n1_:=Aside0.mk (blk_grown (g:=gb374) (o:=.cells #[.slice A1_0 l1_0.length c1_0,.slice (some ad392) l1_1.length c1_1,.int .i64 a1_2] 25 (0,0)) (by (with_reducible repeat (first|refine blk_drewN ?_ _|refine blk_drew ?_|refine blk_alloc ?_ _));exact BK374.out) hg (Kd.R_ne HO_6.out BK374.out (by decide)));have n2_:=Aside0.mk (hb);have n3_:=Aside0.mk (ho);clear BK373 BK374 HB HO_6;have BK373:=n0_;have BK374:=n1_;have HB:=n2_;have HO397:=n3_;clear n0_ n1_ n2_ n3_;clear ho hb hg hat));try go_wp2_with (first|((with_reducible refine gate_builtin (b:=.append) (xs:=#[.tmp 66,.tmp 74]) rfl ?_);at_builtin;refine Kd.R_append k55 (w0:=w) w.heap.size rfl (.tmp 66) (.tmp 74) 34 55 (.agg #[(.int .i64 0),(.int .i64 0),(.int .i64 0)]) 24 rfl Try.underlying34 info55 rfl (by decide) (by omega) u6 x6_3 (⟨2,x34_3,rd l1_1 x34_3⟩:S55) [.int .i64 2,.int .i64 x34_3,.int .i64 (rd l1_1 x34_3)] (fun _=>True) (fun _=>False) rfl rfl ?aP (fun _ hk=>hk.elim) ?aF ?aO ?aB ?aS ?aL ?_;(case aP=>exact k55_mkM _ _ _ (⟨2,x34_3,rd l1_1 x34_3⟩:S55));(case aB=>exact (by repeat (first|(with_reducible first|exact HB.out|apply below_alloc|apply pw_below_drewN|apply below_drew1|refine below_set ?_ GE373.out|refine below_set ?_ GE374.out)|exact HB.out)));(case aF=>exact (fun _ _=>trivial));(case aO=>exact (by (with_reducible repeat (first|apply Kd.R_alloc|apply Kd.R_drewN|apply Kd.R_drew));exact HO_6.out));(case aS=>exact (below_size (by repeat (first|(with_reducible first|exact HB.out|apply below_alloc|apply pw_below_drewN|apply below_drew1|refine below_set ?_ GE373.out|refine below_set ?_ GE374.out)|exact HB.out))));(case aL=>have:=LMc66.out;omega);intro v396 w70 ho hb hg hat;rw [← Ny395.out] at ho;have n0_:=Aside0.mk (blk_grown (g:=gb373) (o:=.cells #[.slice A0_0 l0_0.length c0_0,.slice (some ad393) l0_1.length c0_1,.int .i64 a0_2] 25 (0,0)) (by (with_reducible repeat (first|refine blk_drewN ?_ _|refine blk_drew ?_|refine blk_alloc ?_ _));exact BK373.out) hg (Kd.R_ne HO_6.out BK373.out (by decide)));have n1_:=Aside0.mk (blk_grown (g:=gb374) (o:=.cells #[.slice A1_0 l1_0.length c1_0,.slice (some ad392) l1_1.length c1_1,.int .i64 a1_2] 25 (0,0)) (by (with_reducible repeat (first|refine blk_drewN ?_ _|refine blk_drew ?_|refine blk_alloc ?_ _));exact BK374.out) hg (Kd.R_ne HO_6.out BK374.out (by decide)));have n2_:=Aside0.mk (hb);have n3_:=Aside0.mk (ho);clear BK373 BK374 HB HO_6;have BK373:=n0_;have BK374:=n1_;have HB:=n2_;have HO397:=n3_;clear n0_ n1_ n2_ n3_;clear ho hb hg hat)))
                  go_roundg kj34
                  case measure=>have:=HJ2.out;have:=HJ19.out;have:=HK3.out;have:=HJ34.out;omega
                  case rel=>exact ⟨(y395),(wrap64 (x34_3 + 1)),(by first|rfl|(simp;done)|(simp [*];done)),H',⟨by have:=HJ2.out;have:=HJ19.out;have:=HK3.out;have:=HJ34.out;omega⟩,⟨by (with_reducible repeat (first|apply Kd.R_alloc|apply Kd.R_drewN|apply Kd.R_drew));exact HO397.out⟩,⟨by (with_reducible repeat (first|refine blk_drewN ?_ _|refine blk_drew ?_|refine blk_alloc ?_ _));exact BK373.out⟩,⟨by (with_reducible repeat (first|refine blk_drewN ?_ _|refine blk_drew ?_|refine blk_alloc ?_ _));exact BK374.out⟩,⟨by repeat (first|(with_reducible first|exact HB.out|apply below_alloc|apply pw_below_drewN|apply below_drew1|refine below_set ?_ GE373.out|refine below_set ?_ GE374.out)|exact HB.out)⟩⟩
                 ·rw [if_neg c66] at H
                  exact absurd H (by simp)
                ·rw [if_neg c65] at H
                 have c65b0:decide ((rd l0_1 x34_3) < (rd l1_1 x34_3))=false:=decide_eq_false c65
                 clear c65
                 have H':=Aside0.mk H
                 clear H
                 have hnb71:=NB374_373.out
                 have hnc71:=NB373_374.out
                 have hcz72_0:wc.cell? ⟨gb374,0,none⟩=some (.slice A1_0 l1_0.length c1_0):=(blk_cell BK374.out 0).trans rfl
                 have hcz72_1:wc.cell? ⟨gb374,1,none⟩=some (.slice A1_1 l1_1.length c1_1):=(blk_cell BK374.out 1).trans rfl
                 have hcz72_2:wc.cell? ⟨gb374,2,none⟩=some (.int .i64 a1_2):=(blk_cell BK374.out 2).trans rfl
                 have hfz72_0:=blk_frozen BK374.out 0
                 have hfz72_1:=blk_frozen BK374.out 1
                 have hfz72_2:=blk_frozen BK374.out 2
                 have p392:0≤(x34_3:Int):=of_decide_eq_true (by first|(with_reducible assumption)|assumption)
                 have q392:x34_3 < (l1_1.length:Int):=of_decide_eq_true (by first|(with_reducible assumption)|assumption)
                 obtain ⟨ad392,e392,hx392_0⟩:=Kd.at_int HR1_1.out x34_3 p392 q392
                 cases e392
                 replace hx392_0:=(HB.out.cell (World.block_lt_of_cell? w _ hx392_0)).trans hx392_0
                 replace p392:=eq_true p392
                 replace q392:=eq_true q392
                 have hcz73_0:wc.cell? ⟨gb373,0,none⟩=some (.slice A0_0 l0_0.length c0_0):=(blk_cell BK373.out 0).trans rfl
                 have hcz73_1:wc.cell? ⟨gb373,1,none⟩=some (.slice A0_1 l0_1.length c0_1):=(blk_cell BK373.out 1).trans rfl
                 have hcz73_2:wc.cell? ⟨gb373,2,none⟩=some (.int .i64 a0_2):=(blk_cell BK373.out 2).trans rfl
                 have hfz73_0:=blk_frozen BK373.out 0
                 have hfz73_1:=blk_frozen BK373.out 1
                 have hfz73_2:=blk_frozen BK373.out 2
                 have p393:0≤(x34_3:Int):=of_decide_eq_true (by first|(with_reducible assumption)|assumption)
                 have q393:x34_3 < (l0_1.length:Int):=of_decide_eq_true (by first|(with_reducible assumption)|assumption)
                 obtain ⟨ad393,e393,hx393_0⟩:=Kd.at_int HR0_1.out x34_3 p393 q393
                 cases e393
                 replace hx393_0:=(HB.out.cell (World.block_lt_of_cell? w _ hx393_0)).trans hx393_0
                 replace p393:=eq_true p393
                 replace q393:=eq_true q393
                 go_wp2
                 repeat (go_quiet (fail);try go_wp2)
                 go_roundg kj34
                 case measure=>have:=HJ2.out;have:=HJ19.out;have:=HK3.out;have:=HJ34.out;omega
                 case rel=>exact ⟨(x6_3),(wrap64 (x34_3 + 1)),(by first|rfl|(simp;done)|(simp [*];done)),H',⟨by have:=HJ2.out;have:=HJ19.out;have:=HK3.out;have:=HJ34.out;omega⟩,⟨by (with_reducible repeat (first|apply Kd.R_alloc|apply Kd.R_drewN|apply Kd.R_drew));exact HO_6.out⟩,⟨by (with_reducible repeat (first|refine blk_drewN ?_ _|refine blk_drew ?_|refine blk_alloc ?_ _));exact BK373.out⟩,⟨by (with_reducible repeat (first|refine blk_drewN ?_ _|refine blk_drew ?_|refine blk_alloc ?_ _));exact BK374.out⟩,⟨by repeat (first|(with_reducible first|exact HB.out|apply below_alloc|apply pw_below_drewN|apply below_drew1|refine below_set ?_ GE373.out|refine below_set ?_ GE374.out)|exact HB.out)⟩⟩
               ·rw [if_neg c64] at H
                exact absurd H (by simp)
              ·rw [if_neg c63] at H
               exact absurd H (by simp)
             ·rw [if_neg c62] at H
              exact absurd H (by simp)
         ·rw [if_neg c34] at H
          have c34b0:decide (x34_3 < (l0_0.length:Int))=false:=decide_eq_false c34
          clear c34
          simp only [Option.some.injEq,Prod.mk.injEq] at H
          obtain ⟨rfl,rfl⟩:=H
          go_wp2
          repeat (go_quiet (fail);try go_wp2)
          go_ret2
          exact ⟨_,by first|rfl|(simp [errW_none,errW_some] <;> rfl)|(simp [*,errW_none,errW_some] <;> rfl),by (with_reducible repeat (first|apply Kd.R_alloc|apply Kd.R_drewN|apply Kd.R_drew));exact HO_6.out,by repeat (first|(with_reducible first|exact HB.out|apply below_alloc|apply pw_below_drewN|apply below_drew1|refine below_set ?_ GE373.out|refine below_set ?_ GE374.out)|exact HB.out)⟩
    ·replace c19:=Bool.eq_false_iff.mpr c19
     subst c19
     have H1:(some (([]:List (S55)),1))=some (r1,r2):=by rw [if_neg (show ¬ (false=true) by decide)] at H;exact H
     clear H
     have H:=H1
     clear H1
     simp only [Option.some.injEq,Prod.mk.injEq] at H
     obtain ⟨rfl,rfl⟩:=H
     have hnb74:=NB374_373.out
     have hnc74:=NB373_374.out
     have hcz75_0:wc.cell? ⟨gb374,0,none⟩=some (.slice A1_0 l1_0.length c1_0):=(blk_cell BK374.out 0).trans rfl
     have hcz75_1:wc.cell? ⟨gb374,1,none⟩=some (.slice A1_1 l1_1.length c1_1):=(blk_cell BK374.out 1).trans rfl
     have hcz75_2:wc.cell? ⟨gb374,2,none⟩=some (.int .i64 a1_2):=(blk_cell BK374.out 2).trans rfl
     have hfz75_0:=blk_frozen BK374.out 0
     have hfz75_1:=blk_frozen BK374.out 1
     have hfz75_2:=blk_frozen BK374.out 2
     have hcz76_0:wc.cell? ⟨gb373,0,none⟩=some (.slice A0_0 l0_0.length c0_0):=(blk_cell BK373.out 0).trans rfl
     have hcz76_1:wc.cell? ⟨gb373,1,none⟩=some (.slice A0_1 l0_1.length c0_1):=(blk_cell BK373.out 1).trans rfl
     have hcz76_2:wc.cell? ⟨gb373,2,none⟩=some (.int .i64 a0_2):=(blk_cell BK373.out 2).trans rfl
     have hfz76_0:=blk_frozen BK373.out 0
     have hfz76_1:=blk_frozen BK373.out 1
     have hfz76_2:=blk_frozen BK373.out 2
     go_wp2_with (first|(go_at_call 19;(with_reducible refine (mapjnl_Covers.calls kj2 _ _ l1_0 _ _ l1_1 a1_2 _ _ l0_0 _ _ l0_1 a0_2 false _ ?side1 ?side2 ?side3 ?side4 ?side5 ?side6 ?side7 ?side8 A18.out).mono ?_);(case side1=>repeat (first|exact (Kd.C_below HR1_0.out HB.out)|(with_reducible refine Kd.C_alloc ?_ _)|(with_reducible refine Kd.C_drewN ?_ _)|(with_reducible refine Kd.C_drew ?_)));(case side2=>exact HC1_0.out);(case side3=>repeat (first|exact (Kd.C_below HR1_1.out HB.out)|(with_reducible refine Kd.C_alloc ?_ _)|(with_reducible refine Kd.C_drewN ?_ _)|(with_reducible refine Kd.C_drew ?_)));(case side4=>exact HC1_1.out);(case side5=>repeat (first|exact (Kd.C_below HR0_0.out HB.out)|(with_reducible refine Kd.C_alloc ?_ _)|(with_reducible refine Kd.C_drewN ?_ _)|(with_reducible refine Kd.C_drew ?_)));(case side6=>exact HC0_0.out);(case side7=>repeat (first|exact (Kd.C_below HR0_1.out HB.out)|(with_reducible refine Kd.C_alloc ?_ _)|(with_reducible refine Kd.C_drewN ?_ _)|(with_reducible refine Kd.C_drew ?_)));(case side8=>exact HC0_1.out);rintro e w77 ⟨rfl,hb⟩;have n0_:=Aside0.mk (blk_below (g:=gb373) (o:=.cells #[.slice A0_0 l0_0.length c0_0,.slice A0_1 l0_1.length c0_1,.int .i64 a0_2] 25 (0,0)) (by (with_reducible repeat (first|refine blk_drewN ?_ _|refine blk_drew ?_|refine blk_alloc ?_ _));exact BK373.out) hb);have n1_:=Aside0.mk (blk_below (g:=gb374) (o:=.cells #[.slice A1_0 l1_0.length c1_0,.slice A1_1 l1_1.length c1_1,.int .i64 a1_2] 25 (0,0)) (by (with_reducible repeat (first|refine blk_drewN ?_ _|refine blk_drew ?_|refine blk_alloc ?_ _));exact BK374.out) hb);have n2_:=Aside0.mk (below_step (by repeat (first|(with_reducible first|exact HB.out|apply below_alloc|apply pw_below_drewN|apply below_drew1|refine below_set ?_ GE373.out|refine below_set ?_ GE374.out)|exact HB.out)) hb);clear BK373 BK374 HB;have BK373:=n0_;have BK374:=n1_;have HB:=n2_;clear n0_ n1_ n2_;(try clear hb);(try clear hb2);(try clear hk);(try clear hi)))
     repeat (go_quiet (first|(go_at_call 19;(with_reducible refine (mapjnl_Covers.calls kj2 _ _ l1_0 _ _ l1_1 a1_2 _ _ l0_0 _ _ l0_1 a0_2 false _ ?side1 ?side2 ?side3 ?side4 ?side5 ?side6 ?side7 ?side8 A18.out).mono ?_);(case side1=>repeat (first|exact (Kd.C_below HR1_0.out HB.out)|(with_reducible refine Kd.C_alloc ?_ _)|(with_reducible refine Kd.C_drewN ?_ _)|(with_reducible refine Kd.C_drew ?_)));(case side2=>exact HC1_0.out);(case side3=>repeat (first|exact (Kd.C_below HR1_1.out HB.out)|(with_reducible refine Kd.C_alloc ?_ _)|(with_reducible refine Kd.C_drewN ?_ _)|(with_reducible refine Kd.C_drew ?_)));(case side4=>exact HC1_1.out);(case side5=>repeat (first|exact (Kd.C_below HR0_0.out HB.out)|(with_reducible refine Kd.C_alloc ?_ _)|(with_reducible refine Kd.C_drewN ?_ _)|(with_reducible refine Kd.C_drew ?_)));(case side6=>exact HC0_0.out);(case side7=>repeat (first|exact (Kd.C_below HR0_1.out HB.out)|(with_reducible refine Kd.C_alloc ?_ _)|(with_reducible refine Kd.C_drewN ?_ _)|(with_reducible refine Kd.C_drew ?_)));(case side8=>exact HC0_1.out);rintro e w77 ⟨rfl,hb⟩;have n0_:=Aside0.mk (blk_below (g:=gb373) (o:=.cells #[.slice A0_0 l0_0.length c0_0,.slice A0_1 l0_1.length c0_1,.int .i64 a0_2] 25 (0,0)) (by (with_reducible repeat (first|refine blk_drewN ?_ _|refine blk_drew ?_|refine blk_alloc ?_ _));exact BK373.out) hb);have n1_:=Aside0.mk (blk_below (g:=gb374) (o:=.cells #[.slice A1_0 l1_0.length c1_0,.slice A1_1 l1_1.length c1_1,.int .i64 a1_2] 25 (0,0)) (by (with_reducible repeat (first|refine blk_drewN ?_ _|refine blk_drew ?_|refine blk_alloc ?_ _));exact BK374.out) hb);have n2_:=Aside0.mk (below_step (by repeat (first|(with_reducible first|exact HB.out|apply below_alloc|apply pw_below_drewN|apply below_drew1|refine below_set ?_ GE373.out|refine below_set ?_ GE374.out)|exact HB.out)) hb);clear BK373 BK374 HB;have BK373:=n0_;have BK374:=n1_;have HB:=n2_;clear n0_ n1_ n2_;(try clear hb);(try clear hb2);(try clear hk);(try clear hi)));try go_wp2_with (first|(go_at_call 19;(with_reducible refine (mapjnl_Covers.calls kj2 _ _ l1_0 _ _ l1_1 a1_2 _ _ l0_0 _ _ l0_1 a0_2 false _ ?side1 ?side2 ?side3 ?side4 ?side5 ?side6 ?side7 ?side8 A18.out).mono ?_);(case side1=>repeat (first|exact (Kd.C_below HR1_0.out HB.out)|(with_reducible refine Kd.C_alloc ?_ _)|(with_reducible refine Kd.C_drewN ?_ _)|(with_reducible refine Kd.C_drew ?_)));(case side2=>exact HC1_0.out);(case side3=>repeat (first|exact (Kd.C_below HR1_1.out HB.out)|(with_reducible refine Kd.C_alloc ?_ _)|(with_reducible refine Kd.C_drewN ?_ _)|(with_reducible refine Kd.C_drew ?_)));(case side4=>exact HC1_1.out);(case side5=>repeat (first|exact (Kd.C_below HR0_0.out HB.out)|(with_reducible refine Kd.C_alloc ?_ _)|(with_reducible refine Kd.C_drewN ?_ _)|(with_reducible refine Kd.C_drew ?_)));(case side6=>exact HC0_0.out);(case side7=>repeat (first|exact (Kd.C_below HR0_1.out HB.out)|(with_reducible refine Kd.C_alloc ?_ _)|(with_reducible refine Kd.C_drewN ?_ _)|(with_reducible refine Kd.C_drew ?_)));(case side8=>exact HC0_1.out);rintro e w77 ⟨rfl,hb⟩;have n0_:=Aside0.mk (blk_below (g:=gb373) (o:=.cells #[.slice A0_0 l0_0.length c0_0,.slice A0_1 l0_1.length c0_1,.int .i64 a0_2] 25 (0,0)) (by (with_reducible repeat (first|refine blk_drewN ?_ _|refine blk_drew ?_|refine blk_alloc ?_ _));exact BK373.out) hb);have n1_:=Aside0.mk (blk_below (g:=gb374) (o:=.cells #[.slice A1_0 l1_0.length c1_0,.slice A1_1 l1_1.length c1_1,.int .i64 a1_2] 25 (0,0)) (by (with_reducible repeat (first|refine blk_drewN ?_ _|refine blk_drew ?_|refine blk_alloc ?_ _));exact BK374.out) hb);have n2_:=Aside0.mk (below_step (by repeat (first|(with_reducible first|exact HB.out|apply below_alloc|apply pw_below_drewN|apply below_drew1|refine below_set ?_ GE373.out|refine below_set ?_ GE374.out)|exact HB.out)) hb);clear BK373 BK374 HB;have BK373:=n0_;have BK374:=n1_;have HB:=n2_;clear n0_ n1_ n2_;(try clear hb);(try clear hb2);(try clear hk);(try clear hi))))
     go_ret2
     exact ⟨_,by first|rfl|(simp [errW_none,errW_some] <;> rfl)|(simp [*,errW_none,errW_some] <;> rfl),by first|exact Kd.R_nil _ _ _ _ _|exact Kd.N_nil _ _ _ _ _|exact Kd.V_nil _ _ _ _ _|exact Kd.Q_nil _ _ _ _ _|exact Kd.S_nil _ _ _ _ _,by repeat (first|(with_reducible first|exact HB.out|apply below_alloc|apply pw_below_drewN|apply below_drew1|refine below_set ?_ GE373.out|refine below_set ?_ GE374.out)|exact HB.out)⟩
end Go.Proofs.Ytkhbmgclklmimaa.Print
end
