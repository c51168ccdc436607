/- Texts of the proof of MapChanges, part 18. -/
import Derived.Test.YtkhbmgclklmimaaMapChangesM14
import Derived.Test.YtkhbmgclklmimaaMapChangesM15
import Derived.Test.YtkhbmgclklmimaaMapChangesM16
import Derived.Test.YtkhbmgclklmimaaMapChangesM17
section
namespace Go.Proofs.Ytkhbmgclklmimaa.Print
open Go.RowKit Go.Proofs.YtkhbmgclklmimaaW.PrintWords Go.Proofs.YtkhbmgclklmimaaW.PrintLast Go.Proofs.YtkhbmgclklmimaaW.PrintMore
attribute [local go_sem] max2_int min2_int max_two min_two max_three min_three max_four min_four   -- for this text's walks alone
attribute [local go_sem ↓] Go.Proofs.Ytkhbmgclklmimaa.Sem.isSome_setCell
attribute [local go_sem] Go.Instr.field Go.asAgg
set_option linter.unusedVariables false
set_option linter.unusedSimpArgs false
mutual
def slipwayref06_Diff.j0:Nat → Bool → List Bool → List Int → Int → List Bool → List Int → Int → Option ((List (S55)) × Int)
 | 0,_,_,_,_,_,_,_=>none
 | k + 1,x15,x399000,x399001,x399002,x400000,x400001,x400002=>if x15=true then (some (([]:List (S55)),60)) else ((slipwayref06_Covers.f k x400000 x400001 x400002 x399000 x399001 x399002).bind fun t402=>(if t402=true then (if x400002 > x399002 then (if ([]:List (S55)).length < 5864062014805 then (slipwayref06_Diff.j1 k (([]:List (S55)) ++ [(⟨3,0,x400002⟩:S55)]) x399000 x399001 x399002 x400000 x400001 x400002) else (none)) else (slipwayref06_Diff.j1 k ([]:List (S55)) x399000 x399001 x399002 x400000 x400001 x400002)) else (some (([]:List (S55)),1))))
def slipwayref06_Diff.j1:Nat → List (S55) → List Bool → List Int → Int → List Bool → List Int → Int → Option ((List (S55)) × Int)
 | 0,_,_,_,_,_,_,_=>none
 | k + 1,x6,x399000,x399001,x399002,x400000,x400001,x400002=>slipwayref06_Diff.l0 k x6 0 x399000 x399001 x399002 x400000 x400001 x400002
def slipwayref06_Diff.l0:Nat → List (S55) → Int → List Bool → List Int → Int → List Bool → List Int → Int → Option ((List (S55)) × Int)
 | 0,_,_,_,_,_,_,_,_=>none
 | k + 1,x6,x7,x399000,x399001,x399002,x400000,x400001,x400002=>if x7 < (x400000.length:Int) then (slipwayref06_Diff.j3 k x6 x7 (decide (x7 < (x400001.length:Int))) x399000 x399001 x399002 x400000 x400001 x400002) else (slipwayref06_Diff.j3 k x6 x7 false x399000 x399001 x399002 x400000 x400001 x400002)
def slipwayref06_Diff.j3:Nat → List (S55) → Int → Bool → List Bool → List Int → Int → List Bool → List Int → Int → Option ((List (S55)) × Int)
 | 0,_,_,_,_,_,_,_,_,_=>none
 | k + 1,x6,x7,x42,x399000,x399001,x399002,x400000,x400001,x400002=>if x42=true then (if 0≤x7 then (if x7 < (x400000.length:Int) then (if rdOf false x400000 x7=true then (if x7 < (x399000.length:Int) then (slipwayref06_Diff.j4 k x6 x7 (!(rdOf false x399000 x7)) x399000 x399001 x399002 x400000 x400001 x400002) else (none)) else (slipwayref06_Diff.j4 k x6 x7 false x399000 x399001 x399002 x400000 x400001 x400002)) else (none)) else (none)) else (some (x6,0))
def slipwayref06_Diff.j4:Nat → List (S55) → Int → Bool → List Bool → List Int → Int → List Bool → List Int → Int → Option ((List (S55)) × Int)
 | 0,_,_,_,_,_,_,_,_,_=>none
 | k + 1,x6,x7,x57,x399000,x399001,x399002,x400000,x400001,x400002=>if x57=true then (if x6.length < 5864062014805 then ((some (x6 ++ [(⟨1,x7,0⟩:S55)]:List (S55))).bind fun y408=>(if 0≤x7 then (if x7 < (x400001.length:Int) then (if x7 < (x399001.length:Int) then (if (rd x400001 x7) > (rd x399001 x7) then (if y408.length < 5864062014805 then (slipwayref06_Diff.l0 k (y408 ++ [(⟨2,x7,rd x400001 x7⟩:S55)]) (wrap64 (x7 + 1)) x399000 x399001 x399002 x400000 x400001 x400002) else (none)) else (slipwayref06_Diff.l0 k y408 (wrap64 (x7 + 1)) x399000 x399001 x399002 x400000 x400001 x400002)) else (none)) else (none)) else (none))) else (none)) else (if 0≤x7 then (if x7 < (x400001.length:Int) then (if x7 < (x399001.length:Int) then (if (rd x400001 x7) > (rd x399001 x7) then (if x6.length < 5864062014805 then (slipwayref06_Diff.l0 k (x6 ++ [(⟨2,x7,rd x400001 x7⟩:S55)]) (wrap64 (x7 + 1)) x399000 x399001 x399002 x400000 x400001 x400002) else (none)) else (slipwayref06_Diff.l0 k x6 (wrap64 (x7 + 1)) x399000 x399001 x399002 x400000 x400001 x400002)) else (none)) else (none)) else (none))
end
def slipwayref06_Diff.f (k:Nat) (l0_0:List Bool) (l0_1:List Int) (a0_2:Int) (l1_0:List Bool) (l1_1:List Int) (a1_2:Int):Option ((List (S55)) × Int):=(slipwayref06_Check.f k l0_0 l0_1 a0_2).bind fun t400=>(if t400=0 then ((slipwayref06_Check.f k l1_0 l1_1 a1_2).bind fun t401=>(slipwayref06_Diff.j0 k (t401 != 0) l0_0 l0_1 a0_2 l1_0 l1_1 a1_2)) else (slipwayref06_Diff.j0 k true l0_0 l0_1 a0_2 l1_0 l1_1 a1_2))
set_option maxHeartbeats 8000000 in
set_option maxRecDepth 100000 in
theorem slipwayref06_Diff.calls (k:Nat) (A0_0:Option Addr) (c0_0:Nat) (l0_0:List Bool) (A0_1:Option Addr) (c0_1:Nat) (l0_1:List Int) (a0_2:Int) (A1_0:Option Addr) (c1_0:Nat) (l1_0:List Bool) (A1_1:Option Addr) (c1_1:Nat) (l1_1:List Int) (a1_2:Int) (r1:List (S55)) (r2:Int) (w:World) (hr0_0:Kd.C Kd.bool w A0_0 l0_0.length l0_0) (hc0_0:l0_0.length≤c0_0) (hr0_1:Kd.C (Kd.int .i64) w A0_1 l0_1.length l0_1) (hc0_1:l0_1.length≤c0_1) (hr1_0:Kd.C Kd.bool w A1_0 l1_0.length l1_0) (hc1_0:l1_0.length≤c1_0) (hr1_1:Kd.C (Kd.int .i64) w A1_1 l1_1.length l1_1) (hc1_1:l1_1.length≤c1_1) (h:slipwayref06_Diff.f k l0_0 l0_1 a0_2 l1_0 l1_1 a1_2=some (r1,r2)) :
  Calls Try.prog 25 #[.agg #[.slice A0_0 l0_0.length c0_0,.slice A0_1 l0_1.length c0_1,.int .i64 a0_2],.agg #[.slice A1_0 l1_0.length c1_0,.slice A1_1 l1_1.length c1_1,.int .i64 a1_2]] w fun e w'=>∃ v0_:Value,e=.returned (.tuple #[v0_,.int .i64 r2])∧Kd.R k55 55 w' w.heap.size (fun _=>True) v0_ r1∧Below w.heap.size w w':=by
 have hu25:=Try.underlying25
 have hu55:=Try.underlying55
 have HR0_0:=Aside0.mk hr0_0
 have HC0_0:=Aside0.mk hc0_0
 clear hr0_0 hc0_0
 have HR0_1:=Aside0.mk hr0_1
 have HC0_1:=Aside0.mk hc0_1
 clear hr0_1 hc0_1
 have HR1_0:=Aside0.mk hr1_0
 have HC1_0:=Aside0.mk hc1_0
 clear hr1_0 hc1_0
 have HR1_1:=Aside0.mk hr1_1
 have HC1_1:=Aside0.mk hc1_1
 clear hr1_1 hc1_1
 have HB:=Aside0.mk (Below.refl w.heap.size w)
 have H:((slipwayref06_Check.f k l0_0 l0_1 a0_2).bind fun t400=>(if t400=0 then ((slipwayref06_Check.f k l1_0 l1_1 a1_2).bind fun t401=>(slipwayref06_Diff.j0 k (t401 != 0) l0_0 l0_1 a0_2 l1_0 l1_1 a1_2)) else (slipwayref06_Diff.j0 k true l0_0 l0_1 a0_2 l1_0 l1_1 a1_2)))=some (r1,r2):=h
 clear h
 have HC3:=Aside0.mk H
 clear H
 go_enter Try.func25,Try.ntmps25
 go_upto_region 1 with (first|((with_reducible refine gate_dst (N:=2) rfl ?_);(try (refine gate_guard (by rfl) ?_;dsimp only));refine box_event ?hg (N:=2) ?hd (cs:=#[.slice A0_0 l0_0.length c0_0,.slice A0_1 l0_1.length c0_1,.int .i64 a0_2]) (t:=25) ?hr ?_;(case hd=>rfl);(case hg=>rfl);(case hr=>first|(go_simp;done)|(go_simp;rfl));intro gb398 hg w4 hbox hb;have n0_:=Aside0.mk (below_step (by repeat (first|(with_reducible first|exact HB.out|apply below_alloc|apply pw_below_drewN|apply below_drew1)|exact HB.out)) hb);have n1_:=Aside0.mk (hbox);have n2_:=Aside0.mk ((by rw [hg];exact (below_size (by repeat (first|(with_reducible first|exact HB.out|apply below_alloc|apply pw_below_drewN|apply below_drew1)|exact HB.out))):w.heap.size≤gb398));have n3_:=Aside0.mk ((by rw [hg];exact (below_size (by repeat (first|(with_reducible first|exact HB.out|apply below_alloc|apply pw_below_drewN|apply below_drew1)|exact HB.out))):w.heap.size≤gb398));clear HB;have HB:=n0_;have BK398:=n1_;have GW398:=n2_;have GE398:=n3_;clear n0_ n1_ n2_ n3_;clear hb hbox hg)|((with_reducible refine gate_dst (N:=3) rfl ?_);(try (refine gate_guard (by rfl) ?_;dsimp only));refine box_event ?hg (N:=3) ?hd (cs:=#[.slice A1_0 l1_0.length c1_0,.slice A1_1 l1_1.length c1_1,.int .i64 a1_2]) (t:=25) ?hr ?_;(case hd=>rfl);(case hg=>rfl);(case hr=>first|(go_simp;done)|(go_simp;rfl));intro gb399 hg w5 hbox hb;have n0_:=Aside0.mk (blk_below (g:=gb398) (o:=.cells #[.slice A0_0 l0_0.length c0_0,.slice A0_1 l0_1.length c0_1,.int .i64 a0_2] 25 (0,0)) (by (with_reducible repeat (first|refine blk_drewN ?_ _|refine blk_drew ?_|refine blk_alloc ?_ _));exact BK398.out) hb);have n1_:=Aside0.mk (below_step (by repeat (first|(with_reducible first|exact HB.out|apply below_alloc|apply pw_below_drewN|apply below_drew1|refine below_set ?_ GE398.out)|exact HB.out)) hb);have n2_:=Aside0.mk (hbox);have n3_:=Aside0.mk ((by rw [hg];exact (below_size (by repeat (first|(with_reducible first|exact HB.out|apply below_alloc|apply pw_below_drewN|apply below_drew1|refine below_set ?_ GE398.out)|exact HB.out))):w.heap.size≤gb399));have n4_:=Aside0.mk ((by rw [hg];exact (below_size (by repeat (first|(with_reducible first|exact HB.out|apply below_alloc|apply pw_below_drewN|apply below_drew1|refine below_set ?_ GE398.out)|exact HB.out))):w.heap.size≤gb399));have n5_:=Aside0.mk ((by rw [hg];exact Nat.ne_of_lt (blk_lt (g:=gb398) (o:=.cells #[.slice A0_0 l0_0.length c0_0,.slice A0_1 l0_1.length c0_1,.int .i64 a0_2] 25 (0,0)) (by (with_reducible repeat (first|refine blk_drewN ?_ _|refine blk_drew ?_|refine blk_alloc ?_ _));exact BK398.out)):gb398≠gb399));have n6_:=Aside0.mk ((by rw [hg];exact Nat.ne_of_gt (blk_lt (g:=gb398) (o:=.cells #[.slice A0_0 l0_0.length c0_0,.slice A0_1 l0_1.length c0_1,.int .i64 a0_2] 25 (0,0)) (by (with_reducible repeat (first|refine blk_drewN ?_ _|refine blk_drew ?_|refine blk_alloc ?_ _));exact BK398.out)):gb399≠gb398));clear BK398 HB;have BK398:=n0_;have HB:=n1_;have BK399:=n2_;have GW399:=n3_;have GE399:=n4_;have NB398_399:=n5_;have NB399_398:=n6_;clear n0_ n1_ n2_ n3_ n4_ n5_ n6_;clear hb hbox hg))
 repeat (go_quiet (first|((with_reducible refine gate_dst (N:=2) rfl ?_);(try (refine gate_guard (by rfl) ?_;dsimp only));refine box_event ?hg (N:=2) ?hd (cs:=#[.slice A0_0 l0_0.length c0_0,.slice A0_1 l0_1.length c0_1,.int .i64 a0_2]) (t:=25) ?hr ?_;(case hd=>rfl);(case hg=>rfl);(case hr=>first|(go_simp;done)|(go_simp;rfl));intro gb398 hg w4 hbox hb;have n0_:=Aside0.mk (below_step (by repeat (first|(with_reducible first|exact HB.out|apply below_alloc|apply pw_below_drewN|apply below_drew1)|exact HB.out)) hb);have n1_:=Aside0.mk (hbox);have n2_:=Aside0.mk ((by rw [hg];exact (below_size (by repeat (first|(with_reducible first|exact HB.out|apply below_alloc|apply pw_below_drewN|apply below_drew1)|exact HB.out))):w.heap.size≤gb398));have n3_:=Aside0.mk ((by rw [hg];exact (below_size (by repeat (first|(with_reducible first|exact HB.out|apply below_alloc|apply pw_below_drewN|apply below_drew1)|exact HB.out))):w.heap.size≤gb398));clear HB;have HB:=n0_;have BK398:=n1_;have GW398:=n2_;have GE398:=n3_;clear n0_ n1_ n2_ n3_;clear hb hbox hg)|((with_reducible refine gate_dst (N:=3) rfl ?_);(try (refine gate_guard (by rfl) ?_;dsimp only));refine box_event ?hg (N:=3) ?hd (cs:=#[.slice A1_0 l1_0.length c1_0,.slice A1_1 l1_1.length c1_1,.int .i64 a1_2]) (t:=25) ?hr ?_;(case hd=>rfl);(case hg=>rfl);(case hr=>first|(go_simp;done)|(go_simp;rfl));intro gb399 hg w5 hbox hb;have n0_:=Aside0.mk (blk_below (g:=gb398) (o:=.cells #[.slice A0_0 l0_0.length c0_0,.slice A0_1 l0_1.length c0_1,.int .i64 a0_2] 25 (0,0)) (by (with_reducible repeat (first|refine blk_drewN ?_ _|refine blk_drew ?_|refine blk_alloc ?_ _));exact BK398.out) hb);have n1_:=Aside0.mk (below_step (by repeat (first|(with_reducible first|exact HB.out|apply below_alloc|apply pw_below_drewN|apply below_drew1|refine below_set ?_ GE398.out)|exact HB.out)) hb);have n2_:=Aside0.mk (hbox);have n3_:=Aside0.mk ((by rw [hg];exact (below_size (by repeat (first|(with_reducible first|exact HB.out|apply below_alloc|apply pw_below_drewN|apply below_drew1|refine below_set ?_ GE398.out)|exact HB.out))):w.heap.size≤gb399));have n4_:=Aside0.mk ((by rw [hg];exact (below_size (by repeat (first|(with_reducible first|exact HB.out|apply below_alloc|apply pw_below_drewN|apply below_drew1|refine below_set ?_ GE398.out)|exact HB.out))):w.heap.size≤gb399));have n5_:=Aside0.mk ((by rw [hg];exact Nat.ne_of_lt (blk_lt (g:=gb398) (o:=.cells #[.slice A0_0 l0_0.length c0_0,.slice A0_1 l0_1.length c0_1,.int .i64 a0_2] 25 (0,0)) (by (with_reducible repeat (first|refine blk_drewN ?_ _|refine blk_drew ?_|refine blk_alloc ?_ _));exact BK398.out)):gb398≠gb399));have n6_:=Aside0.mk ((by rw [hg];exact Nat.ne_of_gt (blk_lt (g:=gb398) (o:=.cells #[.slice A0_0 l0_0.length c0_0,.slice A0_1 l0_1.length c0_1,.int .i64 a0_2] 25 (0,0)) (by (with_reducible repeat (first|refine blk_drewN ?_ _|refine blk_drew ?_|refine blk_alloc ?_ _));exact BK398.out)):gb399≠gb398));clear BK398 HB;have BK398:=n0_;have HB:=n1_;have BK399:=n2_;have GW399:=n3_;have GE399:=n4_;have NB398_399:=n5_;have NB399_398:=n6_;clear n0_ n1_ n2_ n3_ n4_ n5_ n6_;clear hb hbox hg));go_upto_region 1 with (first|((with_reducible refine gate_dst (N:=2) rfl ?_);(try (refine gate_guard (by rfl) ?_;dsimp only));refine box_event ?hg (N:=2) ?hd (cs:=#[.slice A0_0 l0_0.length c0_0,.slice A0_1 l0_1.length c0_1,.int .i64 a0_2]) (t:=25) ?hr ?_;(case hd=>rfl);(case hg=>rfl);(case hr=>first|(go_simp;done)|(go_simp;rfl));intro gb398 hg w4 hbox hb;have n0_:=Aside0.mk (below_step (by repeat (first|(with_reducible first|exact HB.out|apply below_alloc|apply pw_below_drewN|apply below_drew1)|exact HB.out)) hb);have n1_:=Aside0.mk (hbox);have n2_:=Aside0.mk ((by rw [hg];exact (below_size (by repeat (first|(with_reducible first|exact HB.out|apply below_alloc|apply pw_below_drewN|apply below_drew1)|exact HB.out))):w.heap.size≤gb398));have n3_:=Aside0.mk ((by rw [hg];exact (below_size (by repeat (first|(with_reducible first|exact HB.out|apply below_alloc|apply pw_below_drewN|apply below_drew1)|exact HB.out))):w.heap.size≤gb398));clear HB;have HB:=n0_;have BK398:=n1_;have GW398:=n2_;have GE398:=n3_;clear n0_ n1_ n2_ n3_;clear hb hbox hg)|((with_reducible refine gate_dst (N:=3) rfl ?_);(try (refine gate_guard (by rfl) ?_;dsimp only));refine box_event ?hg (N:=3) ?hd (cs:=#[.slice A1_0 l1_0.length c1_0,.slice A1_1 l1_1.length c1_1,.int .i64 a1_2]) (t:=25) ?hr ?_;(case hd=>rfl);(case hg=>rfl);(case hr=>first|(go_simp;done)|(go_simp;rfl));intro gb399 hg w5 hbox hb;have n0_:=Aside0.mk (blk_below (g:=gb398) (o:=.cells #[.slice A0_0 l0_0.length c0_0,.slice A0_1 l0_1.length c0_1,.int .i64 a0_2] 25 (0,0)) (by (with_reducible repeat (first|refine blk_drewN ?_ _|refine blk_drew ?_|refine blk_alloc ?_ _));exact BK398.out) hb);have n1_:=Aside0.mk (below_step (by repeat (first|(with_reducible first|exact HB.out|apply below_alloc|apply pw_below_drewN|apply below_drew1|refine below_set ?_ GE398.out)|exact HB.out)) hb);have n2_:=Aside0.mk (hbox);have n3_:=Aside0.mk ((by rw [hg];exact (below_size (by repeat (first|(with_reducible first|exact HB.out|apply below_alloc|apply pw_below_drewN|apply below_drew1|refine below_set ?_ GE398.out)|exact HB.out))):w.heap.size≤gb399));have n4_:=Aside0.mk ((by rw [hg];exact (below_size (by repeat (first|(with_reducible first|exact HB.out|apply below_alloc|apply pw_below_drewN|apply below_drew1|refine below_set ?_ GE398.out)|exact HB.out))):w.heap.size≤gb399));have n5_:=Aside0.mk ((by rw [hg];exact Nat.ne_of_lt (blk_lt (g:=gb398) (o:=.cells #[.slice A0_0 l0_0.length c0_0,.slice A0_1 l0_1.length c0_1,.int .i64 a0_2] 25 (0,0)) (by (with_reducible repeat (first|refine blk_drewN ?_ _|refine blk_drew ?_|refine blk_alloc ?_ _));exact BK398.out)):gb398≠gb399));have n6_:=Aside0.mk ((by rw [hg];exact Nat.ne_of_gt (blk_lt (g:=gb398) (o:=.cells #[.slice A0_0 l0_0.length c0_0,.slice A0_1 l0_1.length c0_1,.int .i64 a0_2] 25 (0,0)) (by (with_reducible repeat (first|refine blk_drewN ?_ _|refine blk_drew ?_|refine blk_alloc ?_ _));exact BK398.out)):gb399≠gb398));clear BK398 HB;have BK398:=n0_;have HB:=n1_;have BK399:=n2_;have GW399:=n3_;have GE399:=n4_;have NB398_399:=n5_;have NB399_398:=n6_;clear n0_ n1_ n2_ n3_ n4_ n5_ n6_;clear hb hbox hg)))
 (try simp only [Act.put,List.setIfInBounds_toArray,List.set_cons_zero,List.set_cons_succ])
 go_cut [15] (fun v15 wc=>∃ (kq:Nat) (x15_2:Bool),v15=.bool x15_2∧Aside0 (slipwayref06_Diff.j0 kq x15_2 l0_0 l0_1 a0_2 l1_0 l1_1 a1_2=some (r1,r2))∧Aside0 (kq≤k)∧Aside0 (wc.heap[gb398]?=some (.cells #[(.slice A0_0 l0_0.length c0_0),(.slice A0_1 l0_1.length c0_1),.int .i64 a0_2] 25 (0,0)))∧Aside0 (wc.heap[gb399]?=some (.cells #[(.slice A1_0 l1_0.length c1_0),(.slice A1_1 l1_1.length c1_1),.int .i64 a1_2] 25 (0,0)))∧Aside0 (Below w.heap.size w wc))
 case first =>
  have H:=HC3.out
  clear HC3
  replace H:=Option.bind_eq_some_iff.mp H
  obtain ⟨t400,A60,H⟩:=H
  replace H:(if t400=0 then ((slipwayref06_Check.f k l1_0 l1_1 a1_2).bind fun t401=>(slipwayref06_Diff.j0 k (t401 != 0) l0_0 l0_1 a0_2 l1_0 l1_1 a1_2)) else (slipwayref06_Diff.j0 k true l0_0 l0_1 a0_2 l1_0 l1_1 a1_2))=some (r1,r2):=H
  have A6:=Aside0.mk A60
  clear A60
  by_cases c7:t400=0
  ·rw [if_pos c7] at H
   have c7b0:(t400 == 0)=true:=beq_iff_eq.mpr c7
   have c7b1:(t400 != 0)=false:=bne_eq_false_iff_eq.mpr c7
   clear c7
   (first|rw [c7b0]|(simp only [i64_w,i32_w];rw [c7b0])|skip)
   replace H:=Option.bind_eq_some_iff.mp H
   obtain ⟨t401,A80,H⟩:=H
   replace H:(slipwayref06_Diff.j0 k (t401 != 0) l0_0 l0_1 a0_2 l1_0 l1_1 a1_2)=some (r1,r2):=H
   have A8:=Aside0.mk A80
   clear A80
   have H':=Aside0.mk H
   clear H
   have hnb9:=NB398_399.out
   have hnc9:=NB399_398.out
   have hcz10_0:w5.cell? ⟨gb398,0,none⟩=some (.slice A0_0 l0_0.length c0_0):=(blk_cell BK398.out 0).trans rfl
   have hcz10_1:w5.cell? ⟨gb398,1,none⟩=some (.slice A0_1 l0_1.length c0_1):=(blk_cell BK398.out 1).trans rfl
   have hcz10_2:w5.cell? ⟨gb398,2,none⟩=some (.int .i64 a0_2):=(blk_cell BK398.out 2).trans rfl
   have hfz10_0:=blk_frozen BK398.out 0
   have hfz10_1:=blk_frozen BK398.out 1
   have hfz10_2:=blk_frozen BK398.out 2
   go_wp2_with (first|(go_at_call 18;(with_reducible refine (slipwayref06_Check.calls k _ _ l0_0 _ _ l0_1 a0_2 t400 _ ?side1 ?side2 ?side3 ?side4 A6.out).mono ?_);(case side1=>repeat (first|exact (Kd.C_below HR0_0.out HB.out)|(with_reducible refine Kd.C_alloc ?_ _)|(with_reducible refine Kd.C_drewN ?_ _)|(with_reducible refine Kd.C_drew ?_)));(case side2=>exact HC0_0.out);(case side3=>repeat (first|exact (Kd.C_below HR0_1.out HB.out)|(with_reducible refine Kd.C_alloc ?_ _)|(with_reducible refine Kd.C_drewN ?_ _)|(with_reducible refine Kd.C_drew ?_)));(case side4=>exact HC0_1.out);rintro e w11 ⟨rfl,hb⟩;have n0_:=Aside0.mk (blk_below (g:=gb398) (o:=.cells #[.slice A0_0 l0_0.length c0_0,.slice A0_1 l0_1.length c0_1,.int .i64 a0_2] 25 (0,0)) (by (with_reducible repeat (first|refine blk_drewN ?_ _|refine blk_drew ?_|refine blk_alloc ?_ _));exact BK398.out) hb);have n1_:=Aside0.mk (blk_below (g:=gb399) (o:=.cells #[.slice A1_0 l1_0.length c1_0,.slice A1_1 l1_1.length c1_1,.int .i64 a1_2] 25 (0,0)) (by (with_reducible repeat (first|refine blk_drewN ?_ _|refine blk_drew ?_|refine blk_alloc ?_ _));exact BK399.out) hb);have n2_:=Aside0.mk (below_step (by repeat (first|(with_reducible first|exact HB.out|apply below_alloc|apply pw_below_drewN|apply below_drew1|refine below_set ?_ GE398.out|refine below_set ?_ GE399.out)|exact HB.out)) hb);clear BK398 BK399 HB;have BK398:=n0_;have BK399:=n1_;have HB:=n2_;clear n0_ n1_ n2_;(try clear hb);(try clear hb2);(try clear hk);(try clear hi);have hcz12_0:w11.cell? ⟨gb399,0,none⟩=some (.slice A1_0 l1_0.length c1_0):=(blk_cell BK399.out 0).trans rfl;have hcz12_1:w11.cell? ⟨gb399,1,none⟩=some (.slice A1_1 l1_1.length c1_1):=(blk_cell BK399.out 1).trans rfl;have hcz12_2:w11.cell? ⟨gb399,2,none⟩=some (.int .i64 a1_2):=(blk_cell BK399.out 2).trans rfl;have hfz12_0:=blk_frozen BK399.out 0;have hfz12_1:=blk_frozen BK399.out 1;have hfz12_2:=blk_frozen BK399.out 2)|(go_at_call 18;(with_reducible refine (slipwayref06_Check.calls k _ _ l1_0 _ _ l1_1 a1_2 t401 _ ?side1 ?side2 ?side3 ?side4 A8.out).mono ?_);(case side1=>repeat (first|exact (Kd.C_below HR1_0.out HB.out)|(with_reducible refine Kd.C_alloc ?_ _)|(with_reducible refine Kd.C_drewN ?_ _)|(with_reducible refine Kd.C_drew ?_)));(case side2=>exact HC1_0.out);(case side3=>repeat (first|exact (Kd.C_below HR1_1.out HB.out)|(with_reducible refine Kd.C_alloc ?_ _)|(with_reducible refine Kd.C_drewN ?_ _)|(with_reducible refine Kd.C_drew ?_)));(case side4=>exact HC1_1.out);rintro e w13 ⟨rfl,hb⟩;have n0_:=Aside0.mk (blk_below (g:=gb398) (o:=.cells #[.slice A0_0 l0_0.length c0_0,.slice A0_1 l0_1.length c0_1,.int .i64 a0_2] 25 (0,0)) (by (with_reducible repeat (first|refine blk_drewN ?_ _|refine blk_drew ?_|refine blk_alloc ?_ _));exact BK398.out) hb);have n1_:=Aside0.mk (blk_below (g:=gb399) (o:=.cells #[.slice A1_0 l1_0.length c1_0,.slice A1_1 l1_1.length c1_1,.int .i64 a1_2] 25 (0,0)) (by (with_reducible repeat (first|refine blk_drewN ?_ _|refine blk_drew ?_|refine blk_alloc ?_ _));exact BK399.out) hb);have n2_:=Aside0.mk (below_step (by repeat (first|(with_reducible first|exact HB.out|apply below_alloc|apply pw_below_drewN|apply below_drew1|refine below_set ?_ GE398.out|refine below_set ?_ GE399.out)|exact HB.out)) hb);clear BK398 BK399 HB;have BK398:=n0_;have BK399:=n1_;have HB:=n2_;clear n0_ n1_ n2_;(try clear hb);(try clear hb2);(try clear hk);(try clear hi)))
   repeat (go_quiet (first|(go_at_call 18;(with_reducible refine (slipwayref06_Check.calls k _ _ l0_0 _ _ l0_1 a0_2 t400 _ ?side1 ?side2 ?side3 ?side4 A6.out).mono ?_);(case side1=>repeat (first|exact (Kd.C_below HR0_0.out HB.out)|(with_reducible refine Kd.C_alloc ?_ _)|(with_reducible refine Kd.C_drewN ?_ _)|(with_reducible refine Kd.C_drew ?_)));(case side2=>exact HC0_0.out);(case side3=>repeat (first|exact (Kd.C_below HR0_1.out HB.out)|(with_reducible refine Kd.C_alloc ?_ _)|(with_reducible refine Kd.C_drewN ?_ _)|(with_reducible refine Kd.C_drew ?_)));(case side4=>exact HC0_1.out);rintro e w11 ⟨rfl,hb⟩;have n0_:=Aside0.mk (blk_below (g:=gb398) (o:=.cells #[.slice A0_0 l0_0.length c0_0,.slice A0_1 l0_1.length c0_1,.int .i64 a0_2] 25 (0,0)) (by (with_reducible repeat (first|refine blk_drewN ?_ _|refine blk_drew ?_|refine blk_alloc ?_ _));exact BK398.out) hb);have n1_:=Aside0.mk (blk_below (g:=gb399) (o:=.cells #[.slice A1_0 l1_0.length c1_0,.slice A1_1 l1_1.length c1_1,.int .i64 a1_2] 25 (0,0)) (by (with_reducible repeat (first|refine blk_drewN ?_ _|refine blk_drew ?_|refine blk_alloc ?_ _));exact BK399.out) hb);have n2_:=Aside0.mk (below_step (by repeat (first|(with_reducible first|exact HB.out|apply below_alloc|apply pw_below_drewN|apply below_drew1|refine below_set ?_ GE398.out|refine below_set ?_ GE399.out)|exact HB.out)) hb);clear BK398 BK399 HB;have BK398:=n0_;have BK399:=n1_;have HB:=n2_;clear n0_ n1_ n2_;(try clear hb);(try clear hb2);(try clear hk);(try clear hi);have hcz12_0:w11.cell? ⟨gb399,0,none⟩=some (.slice A1_0 l1_0.length c1_0):=(blk_cell BK399.out 0).trans rfl;have hcz12_1:w11.cell? ⟨gb399,1,none⟩=some (.slice A1_1 l1_1.length c1_1):=(blk_cell BK399.out 1).trans rfl;have hcz12_2:w11.cell? ⟨gb399,2,none⟩=some (.int .i64 a1_2):=(blk_cell BK399.out 2).trans rfl;have hfz12_0:=blk_frozen BK399.out 0;have hfz12_1:=blk_frozen BK399.out 1;have hfz12_2:=blk_frozen BK399.out 2)|(go_at_call 18;(with_reducible refine (slipwayref06_Check.calls k _ _ l1_0 _ _ l1_1 a1_2 t401 _ ?side1 ?side2 ?side3 ?side4 A8.out).mono ?_);(case side1=>repeat (first|exact (Kd.C_below HR1_0.out HB.out)|(with_reducible refine Kd.C_alloc ?_ _)|(with_reducible refine Kd.C_drewN ?_ _)|(with_reducible refine Kd.C_drew ?_)));(case side2=>exact HC1_0.out);(case side3=>repeat (first|exact (Kd.C_below HR1_1.out HB.out)|(with_reducible refine Kd.C_alloc ?_ _)|(with_reducible refine Kd.C_drewN ?_ _)|(with_reducible refine Kd.C_drew ?_)));(case side4=>exact HC1_1.out);rintro e w13 ⟨rfl,hb⟩;have n0_:=Aside0.mk (blk_below (g:=gb398) (o:=.cells #[.slice A0_0 l0_0.length c0_0,.slice A0_1 l0_1.length c0_1,.int .i64 a0_2] 25 (0,0)) (by (with_reducible repeat (first|refine blk_drewN ?_ _|refine blk_drew ?_|refine blk_alloc ?_ _));exact BK398.out) hb);have n1_:=Aside0.mk (blk_below (g:=gb399) (o:=.cells #[.slice A1_0 l1_0.length c1_0,.slice A1_1 l1_1.length c1_1,.int .i64 a1_2] 25 (0,0)) (by (with_reducible repeat (first|refine blk_drewN ?_ _|refine blk_drew ?_|refine blk_alloc ?_ _));exact BK399.out) hb);have n2_:=Aside0.mk (below_step (by repeat (first|(with_reducible first|exact HB.out|apply below_alloc|apply pw_below_drewN|apply below_drew1|refine below_set ?_ GE398.out|refine below_set ?_ GE399.out)|exact HB.out)) hb);clear BK398 BK399 HB;have BK398:=n0_;have BK399:=n1_;have HB:=n2_;clear n0_ n1_ n2_;(try clear hb);(try clear hb2);(try clear hk);(try clear hi)));try go_wp2_with (first|(go_at_call 18;(with_reducible refine (slipwayref06_Check.calls k _ _ l0_0 _ _ l0_1 a0_2 t400 _ ?side1 ?side2 ?side3 ?side4 A6.out).mono ?_);(case side1=>repeat (first|exact (Kd.C_below HR0_0.out HB.out)|(with_reducible refine Kd.C_alloc ?_ _)|(with_reducible refine Kd.C_drewN ?_ _)|(with_reducible refine Kd.C_drew ?_)));(case side2=>exact HC0_0.out);(case side3=>repeat (first|exact (Kd.C_below HR0_1.out HB.out)|(with_reducible refine Kd.C_alloc ?_ _)|(with_reducible refine Kd.C_drewN ?_ _)|(with_reducible refine Kd.C_drew ?_)));(case side4=>exact HC0_1.out);rintro e w11 ⟨rfl,hb⟩;have n0_:=Aside0.mk (blk_below (g:=gb398) (o:=.cells #[.slice A0_0 l0_0.length c0_0,.slice A0_1 l0_1.length c0_1,.int .i64 a0_2] 25 (0,0)) (by (with_reducible repeat (first|refine blk_drewN ?_ _|refine blk_drew ?_|refine blk_alloc ?_ _));exact BK398.out) hb);have n1_:=Aside0.mk (blk_below (g:=gb399) (o:=.cells #[.slice A1_0 l1_0.length c1_0,.slice A1_1 l1_1.length c1_1,.int .i64 a1_2] 25 (0,0)) (by (with_reducible repeat (first|refine blk_drewN ?_ _|refine blk_drew ?_|refine blk_alloc ?_ _));exact BK399.out) hb);have n2_:=Aside0.mk (below_step (by repeat (first|(with_reducible first|exact HB.out|apply below_alloc|apply pw_below_drewN|apply below_drew1|refine below_set ?_ GE398.out|refine below_set ?_ GE399.out)|exact HB.out)) hb);clear BK398 BK399 HB;have BK398:=n0_;have BK399:=n1_;have HB:=n2_;clear n0_ n1_ n2_;(try clear hb);(try clear hb2);(try clear hk);(try clear hi);have hcz12_0:w11.cell? ⟨gb399,0,none⟩=some (.slice A1_0 l1_0.length c1_0):=(blk_cell BK399.out 0).trans rfl;have hcz12_1:w11.cell? ⟨gb399,1,none⟩=some (.slice A1_1 l1_1.length c1_1):=(blk_cell BK399.out 1).trans rfl;have hcz12_2:w11.cell? ⟨gb399,2,none⟩=some (.int .i64 a1_2):=(blk_cell BK399.out 2).trans rfl;have hfz12_0:=blk_frozen BK399.out 0;have hfz12_1:=blk_frozen BK399.out 1;have hfz12_2:=blk_frozen BK399.out 2)|(go_at_call 18;(with_reducible refine (slipwayref06_Check.calls k _ _ l1_0 _ _ l1_1 a1_2 t401 _ ?side1 ?side2 ?side3 ?side4 A8.out).mono ?_);(case side1=>repeat (first|exact (Kd.C_below HR1_0.out HB.out)|(with_reducible refine Kd.C_alloc ?_ _)|(with_reducible refine Kd.C_drewN ?_ _)|(with_reducible refine Kd.C_drew ?_)));(case side2=>exact HC1_0.out);(case side3=>repeat (first|exact (Kd.C_below HR1_1.out HB.out)|(with_reducible refine Kd.C_alloc ?_ _)|(with_reducible refine Kd.C_drewN ?_ _)|(with_reducible refine Kd.C_drew ?_)));(case side4=>exact HC1_1.out);rintro e w13 ⟨rfl,hb⟩;have n0_:=Aside0.mk (blk_below (g:=gb398) (o:=.cells #[.slice A0_0 l0_0.length c0_0,.slice A0_1 l0_1.length c0_1,.int .i64 a0_2] 25 (0,0)) (by (with_reducible repeat (first|refine blk_drewN ?_ _|refine blk_drew ?_|refine blk_alloc ?_ _));exact BK398.out) hb);have n1_:=Aside0.mk (blk_below (g:=gb399) (o:=.cells #[.slice A1_0 l1_0.length c1_0,.slice A1_1 l1_1.length c1_1,.int .i64 a1_2] 25 (0,0)) (by (with_reducible repeat (first|refine blk_drewN ?_ _|refine blk_drew ?_|refine blk_alloc ?_ _));exact BK399.out) hb);have n2_:=Aside0.mk (below_step (by repeat (first|(with_reducible first|exact HB.out|apply below_alloc|apply pw_below_drewN|apply below_drew1|refine below_set ?_ GE398.out|refine below_set ?_ GE399.out)|exact HB.out)) hb);clear BK398 BK399 HB;have BK398:=n0_;have BK399:=n1_;have HB:=n2_;clear n0_ n1_ n2_;(try clear hb);(try clear hb2);(try clear hk);(try clear hi))))
   go_meet
   case rel=>exact ⟨_,((t401 != 0)),(by first|rfl|(simp;done)|(simp [*];done)),H',⟨by first|omega|exact Nat.le_refl _⟩,⟨by (with_reducible repeat (first|refine blk_drewN ?_ _|refine blk_drew ?_|refine blk_alloc ?_ _));exact BK398.out⟩,⟨by (with_reducible repeat (first|refine blk_drewN ?_ _|refine blk_drew ?_|refine blk_alloc ?_ _));exact BK399.out⟩,⟨by repeat (first|(with_reducible first|exact HB.out|apply below_alloc|apply pw_below_drewN|apply below_drew1|refine below_set ?_ GE398.out|refine below_set ?_ GE399.out)|exact HB.out)⟩⟩
  ·rw [if_neg c7] at H
   have c7b0:(t400 == 0)=false:=beq_eq_false_iff_ne.mpr c7
   have c7b1:(t400 != 0)=true:=bne_iff_ne.mpr c7
   (first|rw [c7b0]|(simp only [i64_w,i32_w];rw [c7b0])|skip)
   have H':=Aside0.mk H
   clear H
   have hnb14:=NB398_399.out
   have hnc14:=NB399_398.out
   have hcz15_0:w5.cell? ⟨gb398,0,none⟩=some (.slice A0_0 l0_0.length c0_0):=(blk_cell BK398.out 0).trans rfl
   have hcz15_1:w5.cell? ⟨gb398,1,none⟩=some (.slice A0_1 l0_1.length c0_1):=(blk_cell BK398.out 1).trans rfl
   have hcz15_2:w5.cell? ⟨gb398,2,none⟩=some (.int .i64 a0_2):=(blk_cell BK398.out 2).trans rfl
   have hfz15_0:=blk_frozen BK398.out 0
   have hfz15_1:=blk_frozen BK398.out 1
   have hfz15_2:=blk_frozen BK398.out 2
   go_wp2_with (first|(go_at_call 18;(with_reducible refine (slipwayref06_Check.calls k _ _ l0_0 _ _ l0_1 a0_2 t400 _ ?side1 ?side2 ?side3 ?side4 A6.out).mono ?_);(case side1=>repeat (first|exact (Kd.C_below HR0_0.out HB.out)|(with_reducible refine Kd.C_alloc ?_ _)|(with_reducible refine Kd.C_drewN ?_ _)|(with_reducible refine Kd.C_drew ?_)));(case side2=>exact HC0_0.out);(case side3=>repeat (first|exact (Kd.C_below HR0_1.out HB.out)|(with_reducible refine Kd.C_alloc ?_ _)|(with_reducible refine Kd.C_drewN ?_ _)|(with_reducible refine Kd.C_drew ?_)));(case side4=>exact HC0_1.out);rintro e w16 ⟨rfl,hb⟩;have n0_:=Aside0.mk (blk_below (g:=gb398) (o:=.cells #[.slice A0_0 l0_0.length c0_0,.slice A0_1 l0_1.length c0_1,.int .i64 a0_2] 25 (0,0)) (by (with_reducible repeat (first|refine blk_drewN ?_ _|refine blk_drew ?_|refine blk_alloc ?_ _));exact BK398.out) hb);have n1_:=Aside0.mk (blk_below (g:=gb399) (o:=.cells #[.slice A1_0 l1_0.length c1_0,.slice A1_1 l1_1.length c1_1,.int .i64 a1_2] 25 (0,0)) (by (with_reducible repeat (first|refine blk_drewN ?_ _|refine blk_drew ?_|refine blk_alloc ?_ _));exact BK399.out) hb);have n2_:=Aside0.mk (below_step (by repeat (first|(with_reducible first|exact HB.out|apply below_alloc|apply pw_below_drewN|apply below_drew1|refine below_set ?_ GE398.out|refine below_set ?_ GE399.out)|exact HB.out)) hb);clear BK398 BK399 HB;have BK398:=n0_;have BK399:=n1_;have HB:=n2_;clear n0_ n1_ n2_;(try clear hb);(try clear hb2);(try clear hk);(try clear hi)))
   repeat (go_quiet (first|(go_at_call 18;(with_reducible refine (slipwayref06_Check.calls k _ _ l0_0 _ _ l0_1 a0_2 t400 _ ?side1 ?side2 ?side3 ?side4 A6.out).mono ?_);(case side1=>repeat (first|exact (Kd.C_below HR0_0.out HB.out)|(with_reducible refine Kd.C_alloc ?_ _)|(with_reducible refine Kd.C_drewN ?_ _)|(with_reducible refine Kd.C_drew ?_)));(case side2=>exact HC0_0.out);(case side3=>repeat (first|exact (Kd.C_below HR0_1.out HB.out)|(with_reducible refine Kd.C_alloc ?_ _)|(with_reducible refine Kd.C_drewN ?_ _)|(with_reducible refine Kd.C_drew ?_)));(case side4=>exact HC0_1.out);rintro e w16 ⟨rfl,hb⟩;have n0_:=Aside0.mk (blk_below (g:=gb398) (o:=.cells #[.slice A0_0 l0_0.length c0_0,.slice A0_1 l0_1.length c0_1,.int .i64 a0_2] 25 (0,0)) (by (with_reducible repeat (first|refine blk_drewN ?_ _|refine blk_drew ?_|refine blk_alloc ?_ _));exact BK398.out) hb);have n1_:=Aside0.mk (blk_below (g:=gb399) (o:=.cells #[.slice A1_0 l1_0.length c1_0,.slice A1_1 l1_1.length c1_1,.int .i64 a1_2] 25 (0,0)) (by (with_reducible repeat (first|refine blk_drewN ?_ _|refine blk_drew ?_|refine blk_alloc ?_ _));exact BK399.out) hb);have n2_:=Aside0.mk (below_step (by repeat (first|(with_reducible first|exact HB.out|apply below_alloc|apply pw_below_drewN|apply below_drew1|refine below_set ?_ GE398.out|refine below_set ?_ GE399.out)|exact HB.out)) hb);clear BK398 BK399 HB;have BK398:=n0_;have BK399:=n1_;have HB:=n2_;clear n0_ n1_ n2_;(try clear hb);(try clear hb2);(try clear hk);(try clear hi)));try go_wp2_with (first|(go_at_call 18;(with_reducible refine (slipwayref06_Check.calls k _ _ l0_0 _ _ l0_1 a0_2 t400 _ ?side1 ?side2 ?side3 ?side4 A6.out).mono ?_);(case side1=>repeat (first|exact (Kd.C_below HR0_0.out HB.out)|(with_reducible refine Kd.C_alloc ?_ _)|(with_reducible refine Kd.C_drewN ?_ _)|(with_reducible refine Kd.C_drew ?_)));(case side2=>exact HC0_0.out);(case side3=>repeat (first|exact (Kd.C_below HR0_1.out HB.out)|(with_reducible refine Kd.C_alloc ?_ _)|(with_reducible refine Kd.C_drewN ?_ _)|(with_reducible refine Kd.C_drew ?_)));(case side4=>exact HC0_1.out);rintro e w16 ⟨rfl,hb⟩;have n0_:=Aside0.mk (blk_below (g:=gb398) (o:=.cells #[.slice A0_0 l0_0.length c0_0,.slice A0_1 l0_1.length c0_1,.int .i64 a0_2] 25 (0,0)) (by (with_reducible repeat (first|refine blk_drewN ?_ _|refine blk_drew ?_|refine blk_alloc ?_ _));exact BK398.out) hb);have n1_:=Aside0.mk (blk_below (g:=gb399) (o:=.cells #[.slice A1_0 l1_0.length c1_0,.slice A1_1 l1_1.length c1_1,.int .i64 a1_2] 25 (0,0)) (by (with_reducible repeat (first|refine blk_drewN ?_ _|refine blk_drew ?_|refine blk_alloc ?_ _));exact BK399.out) hb);have n2_:=Aside0.mk (below_step (by repeat (first|(with_reducible first|exact HB.out|apply below_alloc|apply pw_below_drewN|apply below_drew1|refine below_set ?_ GE398.out|refine below_set ?_ GE399.out)|exact HB.out)) hb);clear BK398 BK399 HB;have BK398:=n0_;have BK399:=n1_;have HB:=n2_;clear n0_ n1_ n2_;(try clear hb);(try clear hb2);(try clear hk);(try clear hi))))
   go_meet
   case rel=>exact ⟨_,(true),(by first|rfl|(simp;done)|(simp [*];done)),H',⟨by first|omega|exact Nat.le_refl _⟩,⟨by (with_reducible repeat (first|refine blk_drewN ?_ _|refine blk_drew ?_|refine blk_alloc ?_ _));exact BK398.out⟩,⟨by (with_reducible repeat (first|refine blk_drewN ?_ _|refine blk_drew ?_|refine blk_alloc ?_ _));exact BK399.out⟩,⟨by repeat (first|(with_reducible first|exact HB.out|apply below_alloc|apply pw_below_drewN|apply below_drew1|refine below_set ?_ GE398.out|refine below_set ?_ GE399.out)|exact HB.out)⟩⟩
 case rest =>
  clear HC3
  try clear c1
  try clear c2
  try clear p2
  try clear c7
  try clear c7b0
  try clear c7b1
  try clear c9
  try clear c14
  try clear hcz10_0
  try clear hcz10_1
  try clear hcz10_2
  try clear hcz12_0
  try clear hcz12_1
  try clear hcz12_2
  try clear hcz15_0
  try clear hcz15_1
  try clear hcz15_2
  try clear hfz10_0
  try clear hfz10_1
  try clear hfz10_2
  try clear hfz12_0
  try clear hfz12_1
  try clear hfz12_2
  try clear hfz15_0
  try clear hfz15_1
  try clear hfz15_2
  obtain ⟨kq,x15_2,rfl,HA,HJ2,BK398,BK399,HB⟩:=hcut
  cases kq with
  | zero=>exact absurd HA.out (by simp [slipwayref06_Diff.j0])
  | succ kj2 =>
   have H:=HA.out
   clear HA
   simp only [slipwayref06_Diff.j0] at H
   by_cases c17:x15_2=true
   ·subst c17
    have H1:(some (([]:List (S55)),60))=some (r1,r2):=by rw [if_pos rfl] at H;exact H
    clear H
    have H:=H1
    clear H1
    simp only [Option.some.injEq,Prod.mk.injEq] at H
    obtain ⟨rfl,rfl⟩:=H
    go_wp2
    repeat (go_quiet (fail);try go_wp2)
    go_ret2
    exact ⟨_,by first|rfl|(simp [errW_none,errW_some] <;> rfl)|(simp [*,errW_none,errW_some] <;> rfl),by first|exact Kd.R_nil _ _ _ _ _|exact Kd.N_nil _ _ _ _ _|exact Kd.V_nil _ _ _ _ _|exact Kd.Q_nil _ _ _ _ _|exact Kd.S_nil _ _ _ _ _,by repeat (first|(with_reducible first|exact HB.out|apply below_alloc|apply pw_below_drewN|apply below_drew1|refine below_set ?_ GE398.out|refine below_set ?_ GE399.out)|exact HB.out)⟩
   ·replace c17:=Bool.eq_false_iff.mpr c17
    subst c17
    have H1:((slipwayref06_Covers.f kj2 l1_0 l1_1 a1_2 l0_0 l0_1 a0_2).bind fun t402=>(if t402=true then (if a1_2 > a0_2 then (if ([]:List (S55)).length < 5864062014805 then (slipwayref06_Diff.j1 kj2 (([]:List (S55)) ++ [(⟨3,0,a1_2⟩:S55)]) l0_0 l0_1 a0_2 l1_0 l1_1 a1_2) else (none)) else (slipwayref06_Diff.j1 kj2 ([]:List (S55)) l0_0 l0_1 a0_2 l1_0 l1_1 a1_2)) else (some (([]:List (S55)),1))))=some (r1,r2):=by rw [if_neg (show ¬ (false=true) by decide)] at H;exact H
    clear H
    have H:=H1
    clear H1
    replace H:=Option.bind_eq_some_iff.mp H
    obtain ⟨t402,A180,H⟩:=H
    replace H:(if t402=true then (if a1_2 > a0_2 then (if ([]:List (S55)).length < 5864062014805 then (slipwayref06_Diff.j1 kj2 (([]:List (S55)) ++ [(⟨3,0,a1_2⟩:S55)]) l0_0 l0_1 a0_2 l1_0 l1_1 a1_2) else (none)) else (slipwayref06_Diff.j1 kj2 ([]:List (S55)) l0_0 l0_1 a0_2 l1_0 l1_1 a1_2)) else (some (([]:List (S55)),1)))=some (r1,r2):=H
    have A18:=Aside0.mk A180
    clear A180
    by_cases c19:t402=true
    ·subst c19
     have H1:(if a1_2 > a0_2 then (if ([]:List (S55)).length < 5864062014805 then (slipwayref06_Diff.j1 kj2 (([]:List (S55)) ++ [(⟨3,0,a1_2⟩:S55)]) l0_0 l0_1 a0_2 l1_0 l1_1 a1_2) else (none)) else (slipwayref06_Diff.j1 kj2 ([]:List (S55)) l0_0 l0_1 a0_2 l1_0 l1_1 a1_2))=some (r1,r2):=by rw [if_pos rfl] at H;exact H
     clear H
     have H:=H1
     clear H1
     have HC20:=Aside0.mk H
     clear H
     have hnb21:=NB399_398.out
     have hnc21:=NB398_399.out
     have hcz22_0:wc.cell? ⟨gb399,0,none⟩=some (.slice A1_0 l1_0.length c1_0):=(blk_cell BK399.out 0).trans rfl
     have hcz22_1:wc.cell? ⟨gb399,1,none⟩=some (.slice A1_1 l1_1.length c1_1):=(blk_cell BK399.out 1).trans rfl
     have hcz22_2:wc.cell? ⟨gb399,2,none⟩=some (.int .i64 a1_2):=(blk_cell BK399.out 2).trans rfl
     have hfz22_0:=blk_frozen BK399.out 0
     have hfz22_1:=blk_frozen BK399.out 1
     have hfz22_2:=blk_frozen BK399.out 2
     have hcz23_0:wc.cell? ⟨gb398,0,none⟩=some (.slice A0_0 l0_0.length c0_0):=(blk_cell BK398.out 0).trans rfl
     have hcz23_1:wc.cell? ⟨gb398,1,none⟩=some (.slice A0_1 l0_1.length c0_1):=(blk_cell BK398.out 1).trans rfl
     have hcz23_2:wc.cell? ⟨gb398,2,none⟩=some (.int .i64 a0_2):=(blk_cell BK398.out 2).trans rfl
     have hfz23_0:=blk_frozen BK398.out 0
     have hfz23_1:=blk_frozen BK398.out 1
     have hfz23_2:=blk_frozen BK398.out 2
     go_upto_if 24 with (first|(go_at_call 20;(with_reducible refine (slipwayref06_Covers.calls kj2 _ _ l1_0 _ _ l1_1 a1_2 _ _ l0_0 _ _ l0_1 a0_2 true _ ?side1 ?side2 ?side3 ?side4 ?side5 ?side6 ?side7 ?side8 A18.out).mono ?_);(case side1=>repeat (first|exact (Kd.C_below HR1_0.out HB.out)|(with_reducible refine Kd.C_alloc ?_ _)|(with_reducible refine Kd.C_drewN ?_ _)|(with_reducible refine Kd.C_drew ?_)));(case side2=>exact HC1_0.out);(case side3=>repeat (first|exact (Kd.C_below HR1_1.out HB.out)|(with_reducible refine Kd.C_alloc ?_ _)|(with_reducible refine Kd.C_drewN ?_ _)|(with_reducible refine Kd.C_drew ?_)));(case side4=>exact HC1_1.out);(case side5=>repeat (first|exact (Kd.C_below HR0_0.out HB.out)|(with_reducible refine Kd.C_alloc ?_ _)|(with_reducible refine Kd.C_drewN ?_ _)|(with_reducible refine Kd.C_drew ?_)));(case side6=>exact HC0_0.out);(case side7=>repeat (first|exact (Kd.C_below HR0_1.out HB.out)|(with_reducible refine Kd.C_alloc ?_ _)|(with_reducible refine Kd.C_drewN ?_ _)|(with_reducible refine Kd.C_drew ?_)));(case side8=>exact HC0_1.out);rintro e w24 ⟨rfl,hb⟩;have n0_:=Aside0.mk (blk_below (g:=gb398) (o:=.cells #[.slice A0_0 l0_0.length c0_0,.slice A0_1 l0_1.length c0_1,.int .i64 a0_2] 25 (0,0)) (by (with_reducible repeat (first|refine blk_drewN ?_ _|refine blk_drew ?_|refine blk_alloc ?_ _));exact BK398.out) hb);have n1_:=Aside0.mk (blk_below (g:=gb399) (o:=.cells #[.slice A1_0 l1_0.length c1_0,.slice A1_1 l1_1.length c1_1,.int .i64 a1_2] 25 (0,0)) (by (with_reducible repeat (first|refine blk_drewN ?_ _|refine blk_drew ?_|refine blk_alloc ?_ _));exact BK399.out) hb);have n2_:=Aside0.mk (below_step (by repeat (first|(with_reducible first|exact HB.out|apply below_alloc|apply pw_below_drewN|apply below_drew1|refine below_set ?_ GE398.out|refine below_set ?_ GE399.out)|exact HB.out)) hb);clear BK398 BK399 HB;have BK398:=n0_;have BK399:=n1_;have HB:=n2_;clear n0_ n1_ n2_;(try clear hb);(try clear hb2);(try clear hk);(try clear hi);have hcz25_0:w24.cell? ⟨gb399,0,none⟩=some (.slice A1_0 l1_0.length c1_0):=(blk_cell BK399.out 0).trans rfl;have hcz25_1:w24.cell? ⟨gb399,1,none⟩=some (.slice A1_1 l1_1.length c1_1):=(blk_cell BK399.out 1).trans rfl;have hcz25_2:w24.cell? ⟨gb399,2,none⟩=some (.int .i64 a1_2):=(blk_cell BK399.out 2).trans rfl;have hfz25_0:=blk_frozen BK399.out 0;have hfz25_1:=blk_frozen BK399.out 1;have hfz25_2:=blk_frozen BK399.out 2;have hcz26_0:w24.cell? ⟨gb398,0,none⟩=some (.slice A0_0 l0_0.length c0_0):=(blk_cell BK398.out 0).trans rfl;have hcz26_1:w24.cell? ⟨gb398,1,none⟩=some (.slice A0_1 l0_1.length c0_1):=(blk_cell BK398.out 1).trans rfl;have hcz26_2:w24.cell? ⟨gb398,2,none⟩=some (.int .i64 a0_2):=(blk_cell BK398.out 2).trans rfl;have hfz26_0:=blk_frozen BK398.out 0;have hfz26_1:=blk_frozen BK398.out 1;have hfz26_2:=blk_frozen BK398.out 2))
     repeat (go_quiet (first|(go_at_call 20;(with_reducible refine (slipwayref06_Covers.calls kj2 _ _ l1_0 _ _ l1_1 a1_2 _ _ l0_0 _ _ l0_1 a0_2 true _ ?side1 ?side2 ?side3 ?side4 ?side5 ?side6 ?side7 ?side8 A18.out).mono ?_);(case side1=>repeat (first|exact (Kd.C_below HR1_0.out HB.out)|(with_reducible refine Kd.C_alloc ?_ _)|(with_reducible refine Kd.C_drewN ?_ _)|(with_reducible refine Kd.C_drew ?_)));(case side2=>exact HC1_0.out);(case side3=>repeat (first|exact (Kd.C_below HR1_1.out HB.out)|(with_reducible refine Kd.C_alloc ?_ _)|(with_reducible refine Kd.C_drewN ?_ _)|(with_reducible refine Kd.C_drew ?_)));(case side4=>exact HC1_1.out);(case side5=>repeat (first|exact (Kd.C_below HR0_0.out HB.out)|(with_reducible refine Kd.C_alloc ?_ _)|(with_reducible refine Kd.C_drewN ?_ _)|(with_reducible refine Kd.C_drew ?_)));(case side6=>exact HC0_0.out);(case side7=>repeat (first|exact (Kd.C_below HR0_1.out HB.out)|(with_reducible refine Kd.C_alloc ?_ _)|(with_reducible refine Kd.C_drewN ?_ _)|(with_reducible refine Kd.C_drew ?_)));(case side8=>exact HC0_1.out);rintro e w24 ⟨rfl,hb⟩;have n0_:=Aside0.mk (blk_below (g:=gb398) (o:=.cells #[.slice A0_0 l0_0.length c0_0,.slice A0_1 l0_1.length c0_1,.int .i64 a0_2] 25 (0,0)) (by (with_reducible repeat (first|refine blk_drewN ?_ _|refine blk_drew ?_|refine blk_alloc ?_ _));exact BK398.out) hb);have n1_:=Aside0.mk (blk_below (g:=gb399) (o:=.cells #[.slice A1_0 l1_0.length c1_0,.slice A1_1 l1_1.length c1_1,.int .i64 a1_2] 25 (0,0)) (by (with_reducible repeat (first|refine blk_drewN ?_ _|refine blk_drew ?_|refine blk_alloc ?_ _));exact BK399.out) hb);have n2_:=Aside0.mk (below_step (by repeat (first|(with_reducible first|exact HB.out|apply below_alloc|apply pw_below_drewN|apply below_drew1|refine below_set ?_ GE398.out|refine below_set ?_ GE399.out)|exact HB.out)) hb);clear BK398 BK399 HB;have BK398:=n0_;have BK399:=n1_;have HB:=n2_;clear n0_ n1_ n2_;(try clear hb);(try clear hb2);(try clear hk);(try clear hi);have hcz25_0:w24.cell? ⟨gb399,0,none⟩=some (.slice A1_0 l1_0.length c1_0):=(blk_cell BK399.out 0).trans rfl;have hcz25_1:w24.cell? ⟨gb399,1,none⟩=some (.slice A1_1 l1_1.length c1_1):=(blk_cell BK399.out 1).trans rfl;have hcz25_2:w24.cell? ⟨gb399,2,none⟩=some (.int .i64 a1_2):=(blk_cell BK399.out 2).trans rfl;have hfz25_0:=blk_frozen BK399.out 0;have hfz25_1:=blk_frozen BK399.out 1;have hfz25_2:=blk_frozen BK399.out 2;have hcz26_0:w24.cell? ⟨gb398,0,none⟩=some (.slice A0_0 l0_0.length c0_0):=(blk_cell BK398.out 0).trans rfl;have hcz26_1:w24.cell? ⟨gb398,1,none⟩=some (.slice A0_1 l0_1.length c0_1):=(blk_cell BK398.out 1).trans rfl;have hcz26_2:w24.cell? ⟨gb398,2,none⟩=some (.int .i64 a0_2):=(blk_cell BK398.out 2).trans rfl;have hfz26_0:=blk_frozen BK398.out 0;have hfz26_1:=blk_frozen BK398.out 1;have hfz26_2:=blk_frozen BK398.out 2));go_upto_if 24 with (first|(go_at_call 20;(with_reducible refine (slipwayref06_Covers.calls kj2 _ _ l1_0 _ _ l1_1 a1_2 _ _ l0_0 _ _ l0_1 a0_2 true _ ?side1 ?side2 ?side3 ?side4 ?side5 ?side6 ?side7 ?side8 A18.out).mono ?_);(case side1=>repeat (first|exact (Kd.C_below HR1_0.out HB.out)|(with_reducible refine Kd.C_alloc ?_ _)|(with_reducible refine Kd.C_drewN ?_ _)|(with_reducible refine Kd.C_drew ?_)));(case side2=>exact HC1_0.out);(case side3=>repeat (first|exact (Kd.C_below HR1_1.out HB.out)|(with_reducible refine Kd.C_alloc ?_ _)|(with_reducible refine Kd.C_drewN ?_ _)|(with_reducible refine Kd.C_drew ?_)));(case side4=>exact HC1_1.out);(case side5=>repeat (first|exact (Kd.C_below HR0_0.out HB.out)|(with_reducible refine Kd.C_alloc ?_ _)|(with_reducible refine Kd.C_drewN ?_ _)|(with_reducible refine Kd.C_drew ?_)));(case side6=>exact HC0_0.out);(case side7=>repeat (first|exact (Kd.C_below HR0_1.out HB.out)|(with_reducible refine Kd.C_alloc ?_ _)|(with_reducible refine Kd.C_drewN ?_ _)|(with_reducible refine Kd.C_drew ?_)));(case side8=>exact HC0_1.out);rintro e w24 ⟨rfl,hb⟩;have n0_:=Aside0.mk (blk_below (g:=gb398) (o:=.cells #[.slice A0_0 l0_0.length c0_0,.slice A0_1 l0_1.length c0_1,.int .i64 a0_2] 25 (0,0)) (by (with_reducible repeat (first|refine blk_drewN ?_ _|refine blk_drew ?_|refine blk_alloc ?_ _));exact BK398.out) hb);have n1_:=Aside0.mk (blk_below (g:=gb399) (o:=.cells #[.slice A1_0 l1_0.length c1_0,.slice A1_1 l1_1.length c1_1,.int .i64 a1_2] 25 (0,0)) (by (with_reducible repeat (first|refine blk_drewN ?_ _|refine blk_drew ?_|refine blk_alloc ?_ _));exact BK399.out) hb);have n2_:=Aside0.mk (below_step (by repeat (first|(with_reducible first|exact HB.out|apply below_alloc|apply pw_below_drewN|apply below_drew1|refine below_set ?_ GE398.out|refine below_set ?_ GE399.out)|exact HB.out)) hb);clear BK398 BK399 HB;have BK398:=n0_;have BK399:=n1_;have HB:=n2_;clear n0_ n1_ n2_;(try clear hb);(try clear hb2);(try clear hk);(try clear hi);have hcz25_0:w24.cell? ⟨gb399,0,none⟩=some (.slice A1_0 l1_0.length c1_0):=(blk_cell BK399.out 0).trans rfl;have hcz25_1:w24.cell? ⟨gb399,1,none⟩=some (.slice A1_1 l1_1.length c1_1):=(blk_cell BK399.out 1).trans rfl;have hcz25_2:w24.cell? ⟨gb399,2,none⟩=some (.int .i64 a1_2):=(blk_cell BK399.out 2).trans rfl;have hfz25_0:=blk_frozen BK399.out 0;have hfz25_1:=blk_frozen BK399.out 1;have hfz25_2:=blk_frozen BK399.out 2;have hcz26_0:w24.cell? ⟨gb398,0,none⟩=some (.slice A0_0 l0_0.length c0_0):=(blk_cell BK398.out 0).trans rfl;have hcz26_1:w24.cell? ⟨gb398,1,none⟩=some (.slice A0_1 l0_1.length c0_1):=(blk_cell BK398.out 1).trans rfl;have hcz26_2:w24.cell? ⟨gb398,2,none⟩=some (.int .i64 a0_2):=(blk_cell BK398.out 2).trans rfl;have hfz26_0:=blk_frozen BK398.out 0;have hfz26_1:=blk_frozen BK398.out 1;have hfz26_2:=blk_frozen BK398.out 2)))
     (try simp only [Act.put,List.setIfInBounds_toArray,List.set_cons_zero,List.set_cons_succ])
     go_cut [6] (fun v6 wc=>∃ (kq:Nat) (x6_19:List (S55)),Aside0 (slipwayref06_Diff.j1 kq x6_19 l0_0 l0_1 a0_2 l1_0 l1_1 a1_2=some (r1,r2))∧Aside0 (kq≤kj2)∧Aside0 (Kd.R k55 55 wc w.heap.size (fun _=>True) v6 x6_19)∧Aside0 (wc.heap[gb398]?=some (.cells #[(.slice A0_0 l0_0.length c0_0),(.slice A0_1 l0_1.length c0_1),.int .i64 a0_2] 25 (0,0)))∧Aside0 (wc.heap[gb399]?=some (.cells #[(.slice A1_0 l1_0.length c1_0),(.slice A1_1 l1_1.length c1_1),.int .i64 a1_2] 25 (0,0)))∧Aside0 (Below w.heap.size w wc))
     case first =>
      have H:=HC20.out
      clear HC20
      by_cases c27:a1_2 > a0_2
      ·rw [if_pos c27] at H
       have c27b0:decide (a0_2 < a1_2)=true:=decide_eq_true c27
       clear c27
       (first|rw [c27b0]|(simp only [i64_w,i32_w];rw [c27b0])|skip)
       by_cases c28:([]:List (S55)).length < 5864062014805
       ·rw [if_pos c28] at H
        have LMc28:=Aside0.mk c28
        clear c28
        obtain ⟨y403,hy403⟩:∃ y_:List (S55),y_=(([]:List (S55)) ++ [(⟨3,0,a1_2⟩:S55)]):=⟨_,rfl⟩
        replace H:(slipwayref06_Diff.j1 kj2 y403 l0_0 l0_1 a0_2 l1_0 l1_1 a1_2)=some (r1,r2):=by first|(rw [hy403];with_reducible exact H)|(have H2_:=(Option.bind_some _ _).symm.trans H;rw [hy403];with_reducible exact H2_)|(have H2_:=(Option.bind_some _ _).symm.trans H;with_reducible exact H2_)|with_reducible exact H|(rw [hy403];exact H)|exact H
        have Ny403:=Aside0.mk hy403
        clear hy403
        have H':=Aside0.mk H
        clear H
        have hnb29:=NB399_398.out
        have hnc29:=NB398_399.out
        have hcz30_0:w24.cell? ⟨gb399,0,none⟩=some (.slice A1_0 l1_0.length c1_0):=(blk_cell BK399.out 0).trans rfl
        have hcz30_1:w24.cell? ⟨gb399,1,none⟩=some (.slice A1_1 l1_1.length c1_1):=(blk_cell BK399.out 1).trans rfl
        have hcz30_2:w24.cell? ⟨gb399,2,none⟩=some (.int .i64 a1_2):=(blk_cell BK399.out 2).trans rfl
        have hfz30_0:=blk_frozen BK399.out 0
        have hfz30_1:=blk_frozen BK399.out 1
        have hfz30_2:=blk_frozen BK399.out 2
        go_wp2_with (first|((with_reducible refine gate_builtin (b:=.append) (xs:=#[.tmp 25,.tmp 29]) rfl ?_);(try (refine gate_guard (by rfl) ?_;dsimp only));at_builtin;refine Kd.R_append k55 (w0:=w) w.heap.size rfl (.tmp 25) (.tmp 29) 34 55 (.agg #[(.int .i64 0),(.int .i64 0),(.int .i64 0)]) 24 rfl Try.underlying34 info55 rfl (by decide) (by omega) (.slice none 0 0) ([]:List (S55)) (⟨3,0,a1_2⟩:S55) [.int .i64 3,.int .i64 0,.int .i64 a1_2] (fun _=>True) (fun _=>False) rfl rfl ?aP (fun _ hk=>hk.elim) ?aF ?aO ?aB ?aS ?aL ?_;(case aP=>exact k55_mkM _ _ _ (⟨3,0,a1_2⟩:S55));(case aB=>exact (by repeat (first|(with_reducible first|exact HB.out|apply below_alloc|apply pw_below_drewN|apply below_drew1|refine below_set ?_ GE398.out|refine below_set ?_ GE399.out)|exact HB.out)));(case aF=>exact (fun _ _=>trivial));(case aO=>exact ((Kd.R_nil _ _ _ _ (fun _=>True))));(case aS=>exact (below_size (by repeat (first|(with_reducible first|exact HB.out|apply below_alloc|apply pw_below_drewN|apply below_drew1|refine below_set ?_ GE398.out|refine below_set ?_ GE399.out)|exact HB.out))));(case aL=>have:=LMc28.out;omega);intro v404 w31 ho hb hg hat;rw [← Ny403.out] at ho;have n0_:=Aside0.mk (blk_grown (g:=gb398) (o:=.cells #[.slice A0_0 l0_0.length c0_0,.slice A0_1 l0_1.length c0_1,.int .i64 a0_2] 25 (0,0)) (by (with_reducible repeat (first|refine blk_drewN ?_ _|refine blk_drew ?_|refine blk_alloc ?_ _));exact BK398.out) hg (by simp [Value.ownBlock]));have n1_:=Aside0.mk (blk_grown (g:=gb399) (o:=.cells #[.slice A1_0 l1_0.length c1_0,.slice A1_1 l1_1.length c1_1,.int .i64 a1_2] 25 (0,0)) (by (with_reducible repeat (first|refine blk_drewN ?_ _|refine blk_drew ?_|refine blk_alloc ?_ _));exact BK399.out) hg (by simp [Value.ownBlock]));have n2_:=Aside0.mk (hb);have n3_:=Aside0.mk (ho);clear BK398 BK399 HB;have BK398:=n0_;have BK399:=n1_;have HB:=n2_;have HO405:=n3_;clear n0_ n1_ n2_ n3_;clear ho hb hg hat))
        repeat (go_quiet (first|((with_reducible refine gate_builtin (b:=.append) (xs:=#[.tmp 25,.tmp 29]) rfl ?_);(try (refine gate_guard (by rfl) ?_;dsimp only));at_builtin;refine Kd.R_append k55 (w0:=w) w.heap.size rfl (.tmp 25) (.tmp 29) 34 55 (.agg #[(.int .i64 0),(.int .i64 0),(.int .i64 0)]) 24 rfl Try.underlying34 info55 rfl (by decide) (by omega) (.slice none 0 0) ([]:List (S55)) (⟨3,0,a1_2⟩:S55) [.int .i64 3,.int .i64 0,.int .i64 a1_2] (fun _=>True) (fun _=>False) rfl rfl ?aP (fun _ hk=>hk.elim) ?aF ?aO ?aB ?aS ?aL ?_;(case aP=>exact k55_mkM _ _ _ (⟨3,0,a1_2⟩:S55));(case aB=>exact (by repeat (first|(with_reducible first|exact HB.out|apply below_alloc|apply pw_below_drewN|apply below_drew1|refine below_set ?_ GE398.out|refine below_set ?_ GE399.out)|exact HB.out)));(case aF=>exact (fun _ _=>trivial));(case aO=>exact ((Kd.R_nil _ _ _ _ (fun _=>True))));(case aS=>exact (below_size (by repeat (first|(with_reducible first|exact HB.out|apply below_alloc|apply pw_below_drewN|apply below_drew1|refine below_set ?_ GE398.out|refine below_set ?_ GE399.out)|exact HB.out))));(case aL=>have:=LMc28.out;omega);intro v404 w31 ho hb hg hat;rw [← Ny403.out] at ho;have n0_:=Aside0.mk (blk_grown (g:=gb398) (o:=.cells #[.slice A0_0 l0_0.length c0_0,.slice A0_1 l0_1.length c0_1,.int .i64 a0_2] 25 (0,0)) (by (with_reducible repeat (first|refine blk_drewN ?_ _|refine blk_drew ?_|refine blk_alloc ?_ _));exact BK398.out) hg (by simp [Value.ownBlock]));have n1_:=Aside0.mk (blk_grown (g:=gb399) (o:=.cells #[.slice A1_0 l1_0.length c1_0,.slice A1_1 l1_1.length c1_1,.int .i64 a1_2] 25 (0,0)) (by (with_reducible repeat (first|refine blk_drewN ?_ _|refine blk_drew ?_|refine blk_alloc ?_ _));exact BK399.out) hg (by simp [Value.ownBlock]));have n2_:=Aside0.mk (hb);have n3_:=Aside0.mk (ho);clear BK398 BK399 HB;have BK398:=n0_;have BK399:=n1_;have HB:=n2_;have HO405:=n3_;clear n0_ n1_ n2_ n3_;clear ho hb hg hat));try go_wp2_with (first|((with_reducible refine gate_builtin (b:=.append) (xs:=#[.tmp 25,.tmp 29]) rfl ?_);(try (refine gate_guard (by rfl) ?_;dsimp only));at_builtin;refine Kd.R_append k55 (w0:=w) w.heap.size rfl (.tmp 25) (.tmp 29) 34 55 (.agg #[(.int .i64 0),(.int .i64 0),(.int .i64 0)]) 24 rfl Try.underlying34 info55 rfl (by decide) (by omega) (.slice none 0 0) ([]:List (S55)) (⟨3,0,a1_2⟩:S55) [.int .i64 3,.int .i64 0,.int .i64 a1_2] (fun _=>True) (fun _=>False) rfl rfl ?aP (fun _ hk=>hk.elim) ?aF ?aO ?aB ?aS ?aL ?_;(case aP=>exact k55_mkM _ _ _ (⟨3,0,a1_2⟩:S55));(case aB=>exact (by repeat (first|(with_reducible first|exact HB.out|apply below_alloc|apply pw_below_drewN|apply below_drew1|refine below_set ?_ GE398.out|refine below_set ?_ GE399.out)|exact HB.out)));(case aF=>exact (fun _ _=>trivial));(case aO=>exact ((Kd.R_nil _ _ _ _ (fun _=>True))));(case aS=>exact (below_size (by repeat (first|(with_reducible first|exact HB.out|apply below_alloc|apply pw_below_drewN|apply below_drew1|refine below_set ?_ GE398.out|refine below_set ?_ GE399.out)|exact HB.out))));(case aL=>have:=LMc28.out;omega);intro v404 w31 ho hb hg hat;rw [← Ny403.out] at ho;have n0_:=Aside0.mk (blk_grown (g:=gb398) (o:=.cells #[.slice A0_0 l0_0.length c0_0,.slice A0_1 l0_1.length c0_1,.int .i64 a0_2] 25 (0,0)) (by (with_reducible repeat (first|refine blk_drewN ?_ _|refine blk_drew ?_|refine blk_alloc ?_ _));exact BK398.out) hg (by simp [Value.ownBlock]));have n1_:=Aside0.mk (blk_grown (g:=gb399) (o:=.cells #[.slice A1_0 l1_0.length c1_0,.slice A1_1 l1_1.length c1_1,.int .i64 a1_2] 25 (0,0)) (by (with_reducible repeat (first|refine blk_drewN ?_ _|refine blk_drew ?_|refine blk_alloc ?_ _));exact BK399.out) hg (by simp [Value.ownBlock]));have n2_:=Aside0.mk (hb);have n3_:=Aside0.mk (ho);clear BK398 BK399 HB;have BK398:=n0_;have BK399:=n1_;have HB:=n2_;have HO405:=n3_;clear n0_ n1_ n2_ n3_;clear ho hb hg hat)))
        go_meet
        case rel=>exact ⟨_,(y403),H',⟨by have:=HJ2.out;first|omega|exact Nat.le_refl _⟩,⟨by (with_reducible repeat (first|apply Kd.R_alloc|apply Kd.R_drewN|apply Kd.R_drew));exact HO405.out⟩,⟨by (with_reducible repeat (first|refine blk_drewN ?_ _|refine blk_drew ?_|refine blk_alloc ?_ _));exact BK398.out⟩,⟨by (with_reducible repeat (first|refine blk_drewN ?_ _|refine blk_drew ?_|refine blk_alloc ?_ _));exact BK399.out⟩,⟨by repeat (first|(with_reducible first|exact HB.out|apply below_alloc|apply pw_below_drewN|apply below_drew1|refine below_set ?_ GE398.out|refine below_set ?_ GE399.out)|exact HB.out)⟩⟩
       ·rw [if_neg c28] at H
        exact absurd H (by simp)
      ·rw [if_neg c27] at H
       have c27b0:decide (a0_2 < a1_2)=false:=decide_eq_false c27
       clear c27
       (first|rw [c27b0]|(simp only [i64_w,i32_w];rw [c27b0])|skip)
       have H':=Aside0.mk H
       clear H
       go_wp2
       repeat (go_quiet (fail);try go_wp2)
       go_meet
       case rel=>exact ⟨_,(([]:List (S55))),H',⟨by have:=HJ2.out;first|omega|exact Nat.le_refl _⟩,⟨by first|exact Kd.R_nil _ _ _ _ _|exact Kd.N_nil _ _ _ _ _|exact Kd.V_nil _ _ _ _ _|exact Kd.Q_nil _ _ _ _ _|exact Kd.S_nil _ _ _ _ _⟩,⟨by (with_reducible repeat (first|refine blk_drewN ?_ _|refine blk_drew ?_|refine blk_alloc ?_ _));exact BK398.out⟩,⟨by (with_reducible repeat (first|refine blk_drewN ?_ _|refine blk_drew ?_|refine blk_alloc ?_ _));exact BK399.out⟩,⟨by repeat (first|(with_reducible first|exact HB.out|apply below_alloc|apply pw_below_drewN|apply below_drew1|refine below_set ?_ GE398.out|refine below_set ?_ GE399.out)|exact HB.out)⟩⟩
     case rest =>
      clear HC20
      try clear c1
      try clear c2
      try clear p2
      try clear c7
      try clear c7b0
      try clear c7b1
      try clear c9
      try clear c14
      try clear c17
      try clear c19
      try clear c21
      try clear c25
      try clear c27
      try clear c27b0
      try clear c28
      try clear c29
      try clear hcz10_0
      try clear hcz10_1
      try clear hcz10_2
      try clear hcz12_0
      try clear hcz12_1
      try clear hcz12_2
      try clear hcz15_0
      try clear hcz15_1
      try clear hcz15_2
      try clear hcz22_0
      try clear hcz22_1
      try clear hcz22_2
      try clear hcz23_0
      try clear hcz23_1
      try clear hcz23_2
      try clear hcz25_0
      try clear hcz25_1
      try clear hcz25_2
      try clear hcz26_0
      try clear hcz26_1
      try clear hcz26_2
      try clear hcz30_0
      try clear hcz30_1
      try clear hcz30_2
      try clear hfz10_0
      try clear hfz10_1
      try clear hfz10_2
      try clear hfz12_0
      try clear hfz12_1
      try clear hfz12_2
      try clear hfz15_0
      try clear hfz15_1
      try clear hfz15_2
      try clear hfz22_0
      try clear hfz22_1
      try clear hfz22_2
      try clear hfz23_0
      try clear hfz23_1
      try clear hfz23_2
      try clear hfz25_0
      try clear hfz25_1
      try clear hfz25_2
      try clear hfz26_0
      try clear hfz26_1
      try clear hfz26_2
      try clear hfz30_0
      try clear hfz30_1
      try clear hfz30_2
      try clear p2
      obtain ⟨kq,x6_19,HA,HJ19,HO_6,BK398,BK399,HB⟩:=hcut
      cases kq with
      | zero=>exact absurd HA.out (by simp [slipwayref06_Diff.j1])
      | succ kj19 =>
       have H:=HA.out
       clear HA
       simp only [slipwayref06_Diff.j1] at H
       have H':=Aside0.mk H
       clear H
       go_wp2
       repeat (go_quiet (fail);try go_wp2)
       go_loopg [6,7] kj19 (fun kq v6 v7 w'=>∃ (x6_3:List (S55)) (x7_3:Int),v7=.int .i64 x7_3∧Aside0 (slipwayref06_Diff.l0 kq x6_3 x7_3 l0_0 l0_1 a0_2 l1_0 l1_1 a1_2=some (r1,r2))∧Aside0 (kq≤kj19)∧Aside0 (Kd.R k55 55 w' w.heap.size (fun _=>True) v6 x6_3)∧Aside0 (w'.heap[gb398]?=some (.cells #[(.slice A0_0 l0_0.length c0_0),(.slice A0_1 l0_1.length c0_1),.int .i64 a0_2] 25 (0,0)))∧Aside0 (w'.heap[gb399]?=some (.cells #[(.slice A1_0 l1_0.length c1_0),(.slice A1_1 l1_1.length c1_1),.int .i64 a1_2] 25 (0,0)))∧Aside0 (Below w.heap.size w w'))
       case atStart=>exact ⟨(x6_19),(0),(by first|rfl|(simp;done)|(simp [*];done)),H',⟨Nat.le_refl _⟩,⟨by (with_reducible repeat (first|apply Kd.R_alloc|apply Kd.R_drewN|apply Kd.R_drew));exact HO_6.out⟩,⟨by (with_reducible repeat (first|refine blk_drewN ?_ _|refine blk_drew ?_|refine blk_alloc ?_ _));exact BK398.out⟩,⟨by (with_reducible repeat (first|refine blk_drewN ?_ _|refine blk_drew ?_|refine blk_alloc ?_ _));exact BK399.out⟩,⟨by repeat (first|(with_reducible first|exact HB.out|apply below_alloc|apply pw_below_drewN|apply below_drew1|refine below_set ?_ GE398.out|refine below_set ?_ GE399.out)|exact HB.out)⟩⟩
       case round =>
        clear H'
        try clear c1
        try clear c2
        try clear p2
        try clear c7
        try clear c7b0
        try clear c7b1
        try clear c9
        try clear c14
        try clear c17
        try clear c19
        try clear c21
        try clear c25
        try clear c27
        try clear c27b0
        try clear c28
        try clear c29
        try clear hcz10_0
        try clear hcz10_1
        try clear hcz10_2
        try clear hcz12_0
        try clear hcz12_1
        try clear hcz12_2
        try clear hcz15_0
        try clear hcz15_1
        try clear hcz15_2
        try clear hcz22_0
        try clear hcz22_1
        try clear hcz22_2
        try clear hcz23_0
        try clear hcz23_1
        try clear hcz23_2
        try clear hcz25_0
        try clear hcz25_1
        try clear hcz25_2
        try clear hcz26_0
        try clear hcz26_1
        try clear hcz26_2
        try clear hcz30_0
        try clear hcz30_1
        try clear hcz30_2
        try clear hfz10_0
        try clear hfz10_1
        try clear hfz10_2
        try clear hfz12_0
        try clear hfz12_1
        try clear hfz12_2
        try clear hfz15_0
        try clear hfz15_1
        try clear hfz15_2
        try clear hfz22_0
        try clear hfz22_1
        try clear hfz22_2
        try clear hfz23_0
        try clear hfz23_1
        try clear hfz23_2
        try clear hfz25_0
        try clear hfz25_1
        try clear hfz25_2
        try clear hfz26_0
        try clear hfz26_1
        try clear hfz26_2
        try clear hfz30_0
        try clear hfz30_1
        try clear hfz30_2
        try clear p2
        obtain ⟨x6_3,x7_3,rfl,HA,HK3,HO_6,BK398,BK399,HB⟩:=hrel
        cases gk with
        | zero=>exact absurd HA.out (by simp [slipwayref06_Diff.l0])
        | succ k3 =>
         have H:=HA.out
         clear HA
         simp only [slipwayref06_Diff.l0] at H
         have HC32:=Aside0.mk H
         clear H
         go_upto_region 9 with (fail)
         repeat (go_quiet (fail);go_upto_region 9 with (fail))
         go_cut [42] (fun v42 wc=>∃ (kq:Nat) (x42_31:Bool),v42=.bool x42_31∧Aside0 (slipwayref06_Diff.j3 kq x6_3 x7_3 x42_31 l0_0 l0_1 a0_2 l1_0 l1_1 a1_2=some (r1,r2))∧Aside0 (kq≤k3)∧Aside0 (Kd.R k55 55 wc w.heap.size (fun _=>True) u6 x6_3)∧Aside0 (wc.heap[gb398]?=some (.cells #[(.slice A0_0 l0_0.length c0_0),(.slice A0_1 l0_1.length c0_1),.int .i64 a0_2] 25 (0,0)))∧Aside0 (wc.heap[gb399]?=some (.cells #[(.slice A1_0 l1_0.length c1_0),(.slice A1_1 l1_1.length c1_1),.int .i64 a1_2] 25 (0,0)))∧Aside0 (Below w.heap.size w wc))
         case first =>
          have H:=HC32.out
          clear HC32
          by_cases c33:x7_3 < (l1_0.length:Int)
          ·rw [if_pos c33] at H
           have c33b0:decide (x7_3 < (l1_0.length:Int))=true:=decide_eq_true c33
           clear c33
           (first|rw [c33b0]|(simp only [i64_w,i32_w];rw [c33b0])|skip)
           have H':=Aside0.mk H
           clear H
           have hnb34:=NB399_398.out
           have hnc34:=NB398_399.out
           have hcz35_0:wr.cell? ⟨gb399,0,none⟩=some (.slice A1_0 l1_0.length c1_0):=(blk_cell BK399.out 0).trans rfl
           have hcz35_1:wr.cell? ⟨gb399,1,none⟩=some (.slice A1_1 l1_1.length c1_1):=(blk_cell BK399.out 1).trans rfl
           have hcz35_2:wr.cell? ⟨gb399,2,none⟩=some (.int .i64 a1_2):=(blk_cell BK399.out 2).trans rfl
           have hfz35_0:=blk_frozen BK399.out 0
           have hfz35_1:=blk_frozen BK399.out 1
           have hfz35_2:=blk_frozen BK399.out 2
           go_wp2
           repeat (go_quiet (fail);try go_wp2)
           go_meet
           case rel=>exact ⟨_,(decide (x7_3 < (l1_1.length:Int))),(by first|rfl|(simp;done)|(simp [*];done)),H',⟨by have:=HJ2.out;have:=HJ19.out;have:=HK3.out;first|omega|exact Nat.le_refl _⟩,⟨by (with_reducible repeat (first|apply Kd.R_alloc|apply Kd.R_drewN|apply Kd.R_drew));exact HO_6.out⟩,⟨by (with_reducible repeat (first|refine blk_drewN ?_ _|refine blk_drew ?_|refine blk_alloc ?_ _));exact BK398.out⟩,⟨by (with_reducible repeat (first|refine blk_drewN ?_ _|refine blk_drew ?_|refine blk_alloc ?_ _));exact BK399.out⟩,⟨by repeat (first|(with_reducible first|exact HB.out|apply below_alloc|apply pw_below_drewN|apply below_drew1|refine below_set ?_ GE398.out|refine below_set ?_ GE399.out)|exact HB.out)⟩⟩
          ·rw [if_neg c33] at H
           have c33b0:decide (x7_3 < (l1_0.length:Int))=false:=decide_eq_false c33
           clear c33
           (first|rw [c33b0]|(simp only [i64_w,i32_w];rw [c33b0])|skip)
           have H':=Aside0.mk H
           clear H
           have hnb36:=NB399_398.out
           have hnc36:=NB398_399.out
           have hcz37_0:wr.cell? ⟨gb399,0,none⟩=some (.slice A1_0 l1_0.length c1_0):=(blk_cell BK399.out 0).trans rfl
           have hcz37_1:wr.cell? ⟨gb399,1,none⟩=some (.slice A1_1 l1_1.length c1_1):=(blk_cell BK399.out 1).trans rfl
           have hcz37_2:wr.cell? ⟨gb399,2,none⟩=some (.int .i64 a1_2):=(blk_cell BK399.out 2).trans rfl
           have hfz37_0:=blk_frozen BK399.out 0
           have hfz37_1:=blk_frozen BK399.out 1
           have hfz37_2:=blk_frozen BK399.out 2
           go_wp2
           repeat (go_quiet (fail);try go_wp2)
           go_meet
           case rel=>exact ⟨_,(false),(by first|rfl|(simp;done)|(simp [*];done)),H',⟨by have:=HJ2.out;have:=HJ19.out;have:=HK3.out;first|omega|exact Nat.le_refl _⟩,⟨by (with_reducible repeat (first|apply Kd.R_alloc|apply Kd.R_drewN|apply Kd.R_drew));exact HO_6.out⟩,⟨by (with_reducible repeat (first|refine blk_drewN ?_ _|refine blk_drew ?_|refine blk_alloc ?_ _));exact BK398.out⟩,⟨by (with_reducible repeat (first|refine blk_drewN ?_ _|refine blk_drew ?_|refine blk_alloc ?_ _));exact BK399.out⟩,⟨by repeat (first|(with_reducible first|exact HB.out|apply below_alloc|apply pw_below_drewN|apply below_drew1|refine below_set ?_ GE398.out|refine below_set ?_ GE399.out)|exact HB.out)⟩⟩
         case rest =>
          clear HC32
          try clear c1
          try clear c2
          try clear p2
          try clear c3
          try clear c7
          try clear c7b0
          try clear c7b1
          try clear c9
          try clear c14
          try clear c17
          try clear c19
          try clear c21
          try clear c25
          try clear c27
          try clear c27b0
          try clear c28
          try clear c29
          try clear c33
          try clear c33b0
          try clear c34
          try clear c36
          try clear hcz10_0
          try clear hcz10_1
          try clear hcz10_2
          try clear hcz12_0
          try clear hcz12_1
          try clear hcz12_2
          try clear hcz15_0
          try clear hcz15_1
          try clear hcz15_2
          try clear hcz22_0
          try clear hcz22_1
          try clear hcz22_2
          try clear hcz23_0
          try clear hcz23_1
          try clear hcz23_2
          try clear hcz25_0
          try clear hcz25_1
          try clear hcz25_2
          try clear hcz26_0
          try clear hcz26_1
          try clear hcz26_2
          try clear hcz30_0
          try clear hcz30_1
          try clear hcz30_2
          try clear hcz35_0
          try clear hcz35_1
          try clear hcz35_2
          try clear hcz37_0
          try clear hcz37_1
          try clear hcz37_2
          try clear hfz10_0
          try clear hfz10_1
          try clear hfz10_2
          try clear hfz12_0
          try clear hfz12_1
          try clear hfz12_2
          try clear hfz15_0
          try clear hfz15_1
          try clear hfz15_2
          try clear hfz22_0
          try clear hfz22_1
          try clear hfz22_2
          try clear hfz23_0
          try clear hfz23_1
          try clear hfz23_2
          try clear hfz25_0
          try clear hfz25_1
          try clear hfz25_2
          try clear hfz26_0
          try clear hfz26_1
          try clear hfz26_2
          try clear hfz30_0
          try clear hfz30_1
          try clear hfz30_2
          try clear hfz35_0
          try clear hfz35_1
          try clear hfz35_2
          try clear hfz37_0
          try clear hfz37_1
          try clear hfz37_2
          try clear p2
          obtain ⟨kq,x42_31,rfl,HA,HJ31,HO_6,BK398,BK399,HB⟩:=hcut
          cases kq with
          | zero=>exact absurd HA.out (by simp [slipwayref06_Diff.j3])
          | succ kj31 =>
           have H:=HA.out
           clear HA
           simp only [slipwayref06_Diff.j3] at H
           by_cases c38:x42_31=true
           ·subst c38
            have H1:(if 0≤x7_3 then (if x7_3 < (l1_0.length:Int) then (if rdOf false l1_0 x7_3=true then (if x7_3 < (l0_0.length:Int) then (slipwayref06_Diff.j4 kj31 x6_3 x7_3 (!(rdOf false l0_0 x7_3)) l0_0 l0_1 a0_2 l1_0 l1_1 a1_2) else (none)) else (slipwayref06_Diff.j4 kj31 x6_3 x7_3 false l0_0 l0_1 a0_2 l1_0 l1_1 a1_2)) else (none)) else (none))=some (r1,r2):=by rw [if_pos rfl] at H;exact H
            clear H
            have H:=H1
            clear H1
            have HC39:=Aside0.mk H
            clear H
            go_upto_region 11 with (fail)
            repeat (go_quiet (fail);go_upto_region 11 with (fail))
            go_cut [57] (fun v57 wc=>∃ (kq:Nat) (x57_38:Bool),v57=.bool x57_38∧Aside0 (slipwayref06_Diff.j4 kq x6_3 x7_3 x57_38 l0_0 l0_1 a0_2 l1_0 l1_1 a1_2=some (r1,r2))∧Aside0 (kq≤kj31)∧Aside0 (Kd.R k55 55 wc w.heap.size (fun _=>True) u6 x6_3)∧Aside0 (wc.heap[gb398]?=some (.cells #[(.slice A0_0 l0_0.length c0_0),(.slice A0_1 l0_1.length c0_1),.int .i64 a0_2] 25 (0,0)))∧Aside0 (wc.heap[gb399]?=some (.cells #[(.slice A1_0 l1_0.length c1_0),(.slice A1_1 l1_1.length c1_1),.int .i64 a1_2] 25 (0,0)))∧Aside0 (Below w.heap.size w wc))
            case first =>
             have H:=HC39.out
             clear HC39
             by_cases c40:0≤x7_3
             ·rw [if_pos c40] at H
              have c40b0:decide (0≤x7_3)=true:=decide_eq_true c40
              clear c40
              (first|rw [c40b0]|(simp only [i64_w,i32_w];rw [c40b0])|skip)
              by_cases c41:x7_3 < (l1_0.length:Int)
              ·rw [if_pos c41] at H
               have c41b0:decide (x7_3 < (l1_0.length:Int))=true:=decide_eq_true c41
               clear c41
               obtain ⟨bq42,hbq42⟩:∃ b_:Bool,b_=(rdOf false l1_0 x7_3):=⟨_,rfl⟩
               replace H:(if bq42=true then (if x7_3 < (l0_0.length:Int) then (slipwayref06_Diff.j4 kj31 x6_3 x7_3 (!(rdOf false l0_0 x7_3)) l0_0 l0_1 a0_2 l1_0 l1_1 a1_2) else (none)) else (slipwayref06_Diff.j4 kj31 x6_3 x7_3 false l0_0 l0_1 a0_2 l1_0 l1_1 a1_2))=some (r1,r2):=by rw [← hbq42] at H;exact H
               have Nbq42:=Aside0.mk hbq42
               clear hbq42
               by_cases c43:bq42=true
               ·subst c43
                have H1:(if x7_3 < (l0_0.length:Int) then (slipwayref06_Diff.j4 kj31 x6_3 x7_3 (!(rdOf false l0_0 x7_3)) l0_0 l0_1 a0_2 l1_0 l1_1 a1_2) else (none))=some (r1,r2):=by rw [if_pos rfl] at H;exact H
                clear H
                have H:=H1
                clear H1
                by_cases c44:x7_3 < (l0_0.length:Int)
                ·rw [if_pos c44] at H
                 have c44b0:decide (x7_3 < (l0_0.length:Int))=true:=decide_eq_true c44
                 clear c44
                 have H':=Aside0.mk H
                 clear H
                 have hnb45:=NB399_398.out
                 have hnc45:=NB398_399.out
                 have hcz46_0:wc.cell? ⟨gb399,0,none⟩=some (.slice A1_0 l1_0.length c1_0):=(blk_cell BK399.out 0).trans rfl
                 have hcz46_1:wc.cell? ⟨gb399,1,none⟩=some (.slice A1_1 l1_1.length c1_1):=(blk_cell BK399.out 1).trans rfl
                 have hcz46_2:wc.cell? ⟨gb399,2,none⟩=some (.int .i64 a1_2):=(blk_cell BK399.out 2).trans rfl
                 have hfz46_0:=blk_frozen BK399.out 0
                 have hfz46_1:=blk_frozen BK399.out 1
                 have hfz46_2:=blk_frozen BK399.out 2
                 have p406:0≤(x7_3:Int):=of_decide_eq_true (by first|(with_reducible assumption)|assumption)
                 have q406:x7_3 < (l1_0.length:Int):=of_decide_eq_true (by first|(with_reducible assumption)|assumption)
                 obtain ⟨ad406,e406,hx406_0⟩:=Kd.at_bool HR1_0.out x7_3 p406 q406
                 (try rw [← Nbq42.out] at hx406_0)
                 cases e406
                 replace hx406_0:=(HB.out.cell (World.block_lt_of_cell? w _ hx406_0)).trans hx406_0
                 replace p406:=eq_true p406
                 replace q406:=eq_true q406
                 have hcz47_0:wc.cell? ⟨gb398,0,none⟩=some (.slice A0_0 l0_0.length c0_0):=(blk_cell BK398.out 0).trans rfl
                 have hcz47_1:wc.cell? ⟨gb398,1,none⟩=some (.slice A0_1 l0_1.length c0_1):=(blk_cell BK398.out 1).trans rfl
                 have hcz47_2:wc.cell? ⟨gb398,2,none⟩=some (.int .i64 a0_2):=(blk_cell BK398.out 2).trans rfl
                 have hfz47_0:=blk_frozen BK398.out 0
                 have hfz47_1:=blk_frozen BK398.out 1
                 have hfz47_2:=blk_frozen BK398.out 2
                 have p407:0≤(x7_3:Int):=of_decide_eq_true (by first|(with_reducible assumption)|assumption)
                 have q407:x7_3 < (l0_0.length:Int):=of_decide_eq_true (by first|(with_reducible assumption)|assumption)
                 obtain ⟨ad407,e407,hx407_0⟩:=Kd.at_bool HR0_0.out x7_3 p407 q407
                 (try rw [← Nbq42.out] at hx407_0)
                 cases e407
                 replace hx407_0:=(HB.out.cell (World.block_lt_of_cell? w _ hx407_0)).trans hx407_0
                 replace p407:=eq_true p407
                 replace q407:=eq_true q407
                 go_wp2
                 repeat (go_quiet (fail);try go_wp2)
                 go_meet
                 case rel=>exact ⟨_,(!(rdOf false l0_0 x7_3)),(by first|rfl|(simp;done)|(simp [*];done)),H',⟨by have:=HJ2.out;have:=HJ19.out;have:=HK3.out;have:=HJ31.out;first|omega|exact Nat.le_refl _⟩,⟨by (with_reducible repeat (first|apply Kd.R_alloc|apply Kd.R_drewN|apply Kd.R_drew));exact HO_6.out⟩,⟨by (with_reducible repeat (first|refine blk_drewN ?_ _|refine blk_drew ?_|refine blk_alloc ?_ _));exact BK398.out⟩,⟨by (with_reducible repeat (first|refine blk_drewN ?_ _|refine blk_drew ?_|refine blk_alloc ?_ _));exact BK399.out⟩,⟨by repeat (first|(with_reducible first|exact HB.out|apply below_alloc|apply pw_below_drewN|apply below_drew1|refine below_set ?_ GE398.out|refine below_set ?_ GE399.out)|exact HB.out)⟩⟩
                ·rw [if_neg c44] at H
                 exact absurd H (by simp)
               ·replace c43:=Bool.eq_false_iff.mpr c43
                subst c43
                have H1:(slipwayref06_Diff.j4 kj31 x6_3 x7_3 false l0_0 l0_1 a0_2 l1_0 l1_1 a1_2)=some (r1,r2):=by rw [if_neg (show ¬ (false=true) by decide)] at H;exact H
                clear H
                have H:=H1
                clear H1
                have H':=Aside0.mk H
                clear H
                have hnb48:=NB399_398.out
                have hnc48:=NB398_399.out
                have hcz49_0:wc.cell? ⟨gb399,0,none⟩=some (.slice A1_0 l1_0.length c1_0):=(blk_cell BK399.out 0).trans rfl
                have hcz49_1:wc.cell? ⟨gb399,1,none⟩=some (.slice A1_1 l1_1.length c1_1):=(blk_cell BK399.out 1).trans rfl
                have hcz49_2:wc.cell? ⟨gb399,2,none⟩=some (.int .i64 a1_2):=(blk_cell BK399.out 2).trans rfl
                have hfz49_0:=blk_frozen BK399.out 0
                have hfz49_1:=blk_frozen BK399.out 1
                have hfz49_2:=blk_frozen BK399.out 2
                have p406:0≤(x7_3:Int):=of_decide_eq_true (by first|(with_reducible assumption)|assumption)
                have q406:x7_3 < (l1_0.length:Int):=of_decide_eq_true (by first|(with_reducible assumption)|assumption)
                obtain ⟨ad406,e406,hx406_0⟩:=Kd.at_bool HR1_0.out x7_3 p406 q406
                (try rw [← Nbq42.out] at hx406_0)
                cases e406
                replace hx406_0:=(HB.out.cell (World.block_lt_of_cell? w _ hx406_0)).trans hx406_0
                replace p406:=eq_true p406
                replace q406:=eq_true q406
                go_wp2
                repeat (go_quiet (fail);try go_wp2)
                go_meet
                case rel=>exact ⟨_,(false),(by first|rfl|(simp;done)|(simp [*];done)),H',⟨by have:=HJ2.out;have:=HJ19.out;have:=HK3.out;have:=HJ31.out;first|omega|exact Nat.le_refl _⟩,⟨by (with_reducible repeat (first|apply Kd.R_alloc|apply Kd.R_drewN|apply Kd.R_drew));exact HO_6.out⟩,⟨by (with_reducible repeat (first|refine blk_drewN ?_ _|refine blk_drew ?_|refine blk_alloc ?_ _));exact BK398.out⟩,⟨by (with_reducible repeat (first|refine blk_drewN ?_ _|refine blk_drew ?_|refine blk_alloc ?_ _));exact BK399.out⟩,⟨by repeat (first|(with_reducible first|exact HB.out|apply below_alloc|apply pw_below_drewN|apply below_drew1|refine below_set ?_ GE398.out|refine below_set ?_ GE399.out)|exact HB.out)⟩⟩
              ·rw [if_neg c41] at H
               exact absurd H (by simp)
             ·rw [if_neg c40] at H
              exact absurd H (by simp)
            case rest =>
             clear HC39
             try clear c1
             try clear c2
             try clear p2
             try clear c3
             try clear c4
             try clear p4
             try clear q4
             try clear hx4
             try clear c7
             try clear c7b0
             try clear c7b1
             try clear c9
             try clear c14
             try clear c17
             try clear c19
             try clear c21
             try clear c25
             try clear c27
             try clear c27b0
             try clear c28
             try clear c29
             try clear c33
             try clear c33b0
             try clear c34
             try clear c36
             try clear c38
             try clear c40
             try clear c40b0
             try clear p40
             try clear q40
             try clear hx40
             try clear c41
             try clear c41b0
             try clear q42
             try clear c43
             try clear c44
             try clear c44b0
             try clear c45
             try clear c48
             try clear hcz10_0
             try clear hcz10_1
             try clear hcz10_2
             try clear hcz12_0
             try clear hcz12_1
             try clear hcz12_2
             try clear hcz15_0
             try clear hcz15_1
             try clear hcz15_2
             try clear hcz22_0
             try clear hcz22_1
             try clear hcz22_2
             try clear hcz23_0
             try clear hcz23_1
             try clear hcz23_2
             try clear hcz25_0
             try clear hcz25_1
             try clear hcz25_2
             try clear hcz26_0
             try clear hcz26_1
             try clear hcz26_2
             try clear hcz30_0
             try clear hcz30_1
             try clear hcz30_2
             try clear hcz35_0
             try clear hcz35_1
             try clear hcz35_2
             try clear hcz37_0
             try clear hcz37_1
             try clear hcz37_2
             try clear hcz46_0
             try clear hcz46_1
             try clear hcz46_2
             try clear hcz47_0
             try clear hcz47_1
             try clear hcz47_2
             try clear hcz49_0
             try clear hcz49_1
             try clear hcz49_2
             try clear hfz10_0
             try clear hfz10_1
             try clear hfz10_2
             try clear hfz12_0
             try clear hfz12_1
             try clear hfz12_2
             try clear hfz15_0
             try clear hfz15_1
             try clear hfz15_2
             try clear hfz22_0
             try clear hfz22_1
             try clear hfz22_2
             try clear hfz23_0
             try clear hfz23_1
             try clear hfz23_2
             try clear hfz25_0
             try clear hfz25_1
             try clear hfz25_2
             try clear hfz26_0
             try clear hfz26_1
             try clear hfz26_2
             try clear hfz30_0
             try clear hfz30_1
             try clear hfz30_2
             try clear hfz35_0
             try clear hfz35_1
             try clear hfz35_2
             try clear hfz37_0
             try clear hfz37_1
             try clear hfz37_2
             try clear hfz46_0
             try clear hfz46_1
             try clear hfz46_2
             try clear hfz47_0
             try clear hfz47_1
             try clear hfz47_2
             try clear hfz49_0
             try clear hfz49_1
             try clear hfz49_2
             try clear hx406_0
             try clear hx407_0
             try clear p2
             try clear p406
             try clear p407
             try clear q406
             try clear q407
             obtain ⟨kq,x57_38,rfl,HA,HJ38,HO_6,BK398,BK399,HB⟩:=hcut
             cases kq with
             | zero=>exact absurd HA.out (by simp [slipwayref06_Diff.j4])
             | succ kj38 =>
              have H:=HA.out
              clear HA
              simp only [slipwayref06_Diff.j4] at H
              by_cases c50:x57_38=true
              ·subst c50
               have H1:(if x6_3.length < 5864062014805 then ((some (x6_3 ++ [(⟨1,x7_3,0⟩:S55)]:List (S55))).bind fun y408=>(if 0≤x7_3 then (if x7_3 < (l1_1.length:Int) then (if x7_3 < (l0_1.length:Int) then (if (rd l1_1 x7_3) > (rd l0_1 x7_3) then (if y408.length < 5864062014805 then (slipwayref06_Diff.l0 kj38 (y408 ++ [(⟨2,x7_3,rd l1_1 x7_3⟩:S55)]) (wrap64 (x7_3 + 1)) l0_0 l0_1 a0_2 l1_0 l1_1 a1_2) else (none)) else (slipwayref06_Diff.l0 kj38 y408 (wrap64 (x7_3 + 1)) l0_0 l0_1 a0_2 l1_0 l1_1 a1_2)) else (none)) else (none)) else (none))) else (none))=some (r1,r2):=by rw [if_pos rfl] at H;exact H
               clear H
               have H:=H1
               clear H1
               by_cases c51:x6_3.length < 5864062014805
               ·rw [if_pos c51] at H
                have LMc51:=Aside0.mk c51
                clear c51
                obtain ⟨y408,hy408⟩:∃ y_:List (S55),y_=(x6_3 ++ [(⟨1,x7_3,0⟩:S55)]):=⟨_,rfl⟩
                replace H:(if 0≤x7_3 then (if x7_3 < (l1_1.length:Int) then (if x7_3 < (l0_1.length:Int) then (if (rd l1_1 x7_3) > (rd l0_1 x7_3) then (if y408.length < 5864062014805 then (slipwayref06_Diff.l0 kj38 (y408 ++ [(⟨2,x7_3,rd l1_1 x7_3⟩:S55)]) (wrap64 (x7_3 + 1)) l0_0 l0_1 a0_2 l1_0 l1_1 a1_2) else (none)) else (slipwayref06_Diff.l0 kj38 y408 (wrap64 (x7_3 + 1)) l0_0 l0_1 a0_2 l1_0 l1_1 a1_2)) else (none)) else (none)) else (none))=some (r1,r2):=by first|(rw [hy408];with_reducible exact H)|(have H2_:=(Option.bind_some _ _).symm.trans H;rw [hy408];with_reducible exact H2_)|(have H2_:=(Option.bind_some _ _).symm.trans H;with_reducible exact H2_)|with_reducible exact H|(rw [hy408];exact H)|exact H
                have Ny408:=Aside0.mk hy408
                clear hy408
                by_cases c52:0≤x7_3
                ·rw [if_pos c52] at H
                 have c52b0:decide (0≤x7_3)=true:=decide_eq_true c52
                 clear c52
                 by_cases c53:x7_3 < (l1_1.length:Int)
                 ·rw [if_pos c53] at H
                  have c53b0:decide (x7_3 < (l1_1.length:Int))=true:=decide_eq_true c53
                  clear c53
                  by_cases c54:x7_3 < (l0_1.length:Int)
                  ·rw [if_pos c54] at H
                   have c54b0:decide (x7_3 < (l0_1.length:Int))=true:=decide_eq_true c54
                   clear c54
                   by_cases c55:(rd l1_1 x7_3) > (rd l0_1 x7_3)
                   ·rw [if_pos c55] at H
                    have c55b0:decide ((rd l0_1 x7_3) < (rd l1_1 x7_3))=true:=decide_eq_true c55
                    clear c55
                    by_cases c56:y408.length < 5864062014805
                    ·rw [if_pos c56] at H
                     have LMc56:=Aside0.mk c56
                     clear c56
                     obtain ⟨y414,hy414⟩:∃ y_:List (S55),y_=(y408 ++ [(⟨2,x7_3,rd l1_1 x7_3⟩:S55)]):=⟨_,rfl⟩
                     replace H:(slipwayref06_Diff.l0 kj38 y414 (wrap64 (x7_3 + 1)) l0_0 l0_1 a0_2 l1_0 l1_1 a1_2)=some (r1,r2):=by first|(rw [hy414];with_reducible exact H)|(have H2_:=(Option.bind_some _ _).symm.trans H;rw [hy414];with_reducible exact H2_)|(have H2_:=(Option.bind_some _ _).symm.trans H;with_reducible exact H2_)|with_reducible exact H|(rw [hy414];exact H)|exact H
                     have Ny414:=Aside0.mk hy414
                     clear hy414
                     have H':=Aside0.mk H
                     clear H
                     go_wp2_with (first|((with_reducible refine gate_builtin (b:=.append) (xs:=#[.tmp 58,.tmp 61]) rfl ?_);(try (refine gate_guard (by rfl) ?_;dsimp only));at_builtin;refine Kd.R_append k55 (w0:=w) w.heap.size rfl (.tmp 58) (.tmp 61) 34 55 (.agg #[(.int .i64 0),(.int .i64 0),(.int .i64 0)]) 24 rfl Try.underlying34 info55 rfl (by decide) (by omega) u6 x6_3 (⟨1,x7_3,0⟩:S55) [.int .i64 1,.int .i64 x7_3,.int .i64 0] (fun _=>True) (fun _=>False) rfl rfl ?aP (fun _ hk=>hk.elim) ?aF ?aO ?aB ?aS ?aL ?_;(case aP=>exact k55_mkM _ _ _ (⟨1,x7_3,0⟩:S55));(case aB=>exact (by repeat (first|(with_reducible first|exact HB.out|apply below_alloc|apply pw_below_drewN|apply below_drew1|refine below_set ?_ GE398.out|refine below_set ?_ GE399.out)|exact HB.out)));(case aF=>exact (fun _ _=>trivial));(case aO=>exact (by (with_reducible repeat (first|apply Kd.R_alloc|apply Kd.R_drewN|apply Kd.R_drew));exact HO_6.out));(case aS=>exact (below_size (by repeat (first|(with_reducible first|exact HB.out|apply below_alloc|apply pw_below_drewN|apply below_drew1|refine below_set ?_ GE398.out|refine below_set ?_ GE399.out)|exact HB.out))));(case aL=>have:=LMc51.out;omega);intro v409 w57 ho hb hg hat;rw [← Ny408.out] at ho;have n0_:=Aside0.mk (blk_grown (g:=gb398) (o:=.cells #[.slice A0_0 l0_0.length c0_0,.slice A0_1 l0_1.length c0_1,.int .i64 a0_2] 25 (0,0)) (by (with_reducible repeat (first|refine blk_drewN ?_ _|refine blk_drew ?_|refine blk_alloc ?_ _));exact BK398.out) hg (Kd.R_ne HO_6.out BK398.out (by decide)));have n1_:=Aside0.mk (blk_grown (g:=gb399) (o:=.cells #[.slice A1_0 l1_0.length c1_0,.slice A1_1 l1_1.length c1_1,.int .i64 a1_2] 25 (0,0)) (by (with_reducible repeat (first|refine blk_drewN ?_ _|refine blk_drew ?_|refine blk_alloc ?_ _));exact BK399.out) hg (Kd.R_ne HO_6.out BK399.out (by decide)));have n2_:=Aside0.mk (hb);have n3_:=Aside0.mk (ho);clear BK398 BK399 HB HO_6;have BK398:=n0_;have BK399:=n1_;have HB:=n2_;have HO410:=n3_;clear n0_ n1_ n2_ n3_;clear ho hb hg hat;have hnb58:=NB399_398.out;have hnc58:=NB398_399.out;have hcz59_0:w57.cell? ⟨gb399,0,none⟩=some (.slice A1_0 l1_0.length c1_0):=(blk_cell BK399.out 0).trans rfl;have hcz59_1:w57.cell? ⟨gb399,1,none⟩=some (.slice A1_1 l1_1.length c1_1):=(blk_cell BK399.out 1).trans rfl;have hcz59_2:w57.cell? ⟨gb399,2,none⟩=some (.int .i64 a1_2):=(blk_cell BK399.out 2).trans rfl;have hfz59_0:=blk_frozen BK399.out 0;have hfz59_1:=blk_frozen BK399.out 1;have hfz59_2:=blk_frozen BK399.out 2;have p411:0≤(x7_3:Int):=of_decide_eq_true (by first|(with_reducible assumption)|assumption);have q411:x7_3 < (l1_1.length:Int):=of_decide_eq_true (by first|(with_reducible assumption)|assumption);obtain ⟨ad411,e411,hx411_0⟩:=Kd.at_int HR1_1.out x7_3 p411 q411;cases e411;replace hx411_0:=(HB.out.cell (World.block_lt_of_cell? w _ hx411_0)).trans hx411_0;replace p411:=eq_true p411;replace q411:=eq_true q411;have hcz60_0:w57.cell? ⟨gb398,0,none⟩=some (.slice A0_0 l0_0.length c0_0):=(blk_cell BK398.out 0).trans rfl;have hcz60_1:w57.cell? ⟨gb398,1,none⟩=some (.slice A0_1 l0_1.length c0_1):=(blk_cell BK398.out 1).trans rfl;have hcz60_2:w57.cell? ⟨gb398,2,none⟩=some (.int .i64 a0_2):=(blk_cell BK398.out 2).trans rfl;have hfz60_0:=blk_frozen BK398.out 0;have hfz60_1:=blk_frozen BK398.out 1;have hfz60_2:=blk_frozen BK398.out 2;have p412:0≤(x7_3:Int):=of_decide_eq_true (by first|(with_reducible assumption)|assumption);have q412:x7_3 < (l0_1.length:Int):=of_decide_eq_true (by first|(with_reducible assumption)|assumption);obtain ⟨ad412,e412,hx412_0⟩:=Kd.at_int HR0_1.out x7_3 p412 q412;cases e412;replace hx412_0:=(HB.out.cell (World.block_lt_of_cell? w _ hx412_0)).trans hx412_0;replace p412:=eq_true p412;replace q412:=eq_true q412;have p413:0≤(x7_3:Int):=of_decide_eq_true (by first|(with_reducible assumption)|assumption);have q413:x7_3 < (l1_1.length:Int):=of_decide_eq_true (by first|(with_reducible assumption)|assumption);obtain ⟨ad413,e413,hx413_0⟩:=Kd.at_int HR1_1.out x7_3 p413 q413;obtain rfl:ad411=ad413:=(by injection e413);replace hx413_0:=(HB.out.cell (World.block_lt_of_cell? w _ hx413_0)).trans hx413_0;replace p413:=eq_true p413;replace q413:=eq_true q413)|((with_reducible refine gate_builtin (b:=.append) (xs:=#[.tmp 74,.tmp 82]) rfl ?_);(try (refine gate_guard (by rfl) ?_;dsimp only));at_builtin;refine Kd.R_append k55 (w0:=w) w.heap.size rfl (.tmp 74) (.tmp 82) 34 55 (.agg #[(.int .i64 0),(.int .i64 0),(.int .i64 0)]) 24 rfl Try.underlying34 info55 rfl (by decide) (by omega) v409 y408 (⟨2,x7_3,rd l1_1 x7_3⟩:S55) [.int .i64 2,.int .i64 x7_3,.int .i64 (rd l1_1 x7_3)] (fun _=>True) (fun _=>False) rfl rfl ?aP (fun _ hk=>hk.elim) ?aF ?aO ?aB ?aS ?aL ?_;(case aP=>exact k55_mkM _ _ _ (⟨2,x7_3,rd l1_1 x7_3⟩:S55));(case aB=>exact (by repeat (first|(with_reducible first|exact HB.out|apply below_alloc|apply pw_below_drewN|apply below_drew1|refine below_set ?_ GE398.out|refine below_set ?_ GE399.out)|exact HB.out)));(case aF=>exact (fun _ _=>trivial));(case aO=>exact (by (with_reducible repeat (first|apply Kd.R_alloc|apply Kd.R_drewN|apply Kd.R_drew));exact HO410.out));(case aS=>exact (below_size (by repeat (first|(with_reducible first|exact HB.out|apply below_alloc|apply pw_below_drewN|apply below_drew1|refine below_set ?_ GE398.out|refine below_set ?_ GE399.out)|exact HB.out))));(case aL=>have:=LMc56.out;omega);intro v415 w61 ho hb hg hat;rw [← Ny414.out] at ho;have n0_:=Aside0.mk (blk_grown (g:=gb398) (o:=.cells #[.slice A0_0 l0_0.length c0_0,.slice (some ad412) l0_1.length c0_1,.int .i64 a0_2] 25 (0,0)) (by (with_reducible repeat (first|refine blk_drewN ?_ _|refine blk_drew ?_|refine blk_alloc ?_ _));exact BK398.out) hg (Kd.R_ne HO410.out BK398.out (by decide)));have n1_:=Aside0.mk (blk_grown (g:=gb399) (o:=.cells #[.slice A1_0 l1_0.length c1_0,.slice (some ad411) l1_1.length c1_1,.int .i64 a1_2] 25 (0,0)) (by (with_reducible repeat (first|refine blk_drewN ?_ _|refine blk_drew ?_|refine blk_alloc ?_ _));exact BK399.out) hg (Kd.R_ne HO410.out BK399.out (by decide)));have n2_:=Aside0.mk (hb);have n3_:=Aside0.mk (ho);clear BK398 BK399 HB HO410;have BK398:=n0_;have BK399:=n1_;have HB:=n2_;have HO416:=n3_;clear n0_ n1_ n2_ n3_;clear ho hb hg hat))
                     repeat (go_quiet (first|((with_reducible refine gate_builtin (b:=.append) (xs:=#[.tmp 58,.tmp 61]) rfl ?_);(try (refine gate_guard (by rfl) ?_;dsimp only));at_builtin;refine Kd.R_append k55 (w0:=w) w.heap.size rfl (.tmp 58) (.tmp 61) 34 55 (.agg #[(.int .i64 0),(.int .i64 0),(.int .i64 0)]) 24 rfl Try.underlying34 info55 rfl (by decide) (by omega) u6 x6_3 (⟨1,x7_3,0⟩:S55) [.int .i64 1,.int .i64 x7_3,.int .i64 0] (fun _=>True) (fun _=>False) rfl rfl ?aP (fun _ hk=>hk.elim) ?aF ?aO ?aB ?aS ?aL ?_;(case aP=>exact k55_mkM _ _ _ (⟨1,x7_3,0⟩:S55));(case aB=>exact (by repeat (first|(with_reducible first|exact HB.out|apply below_alloc|apply pw_below_drewN|apply below_drew1|refine below_set ?_ GE398.out|refine below_set ?_ GE399.out)|exact HB.out)));(case aF=>exact (fun _ _=>trivial));(case aO=>exact (by (with_reducible repeat (first|apply Kd.R_alloc|apply Kd.R_drewN|apply Kd.R_drew));exact HO_6.out));(case aS=>exact (below_size (by repeat (first|(with_reducible first|exact HB.out|apply below_alloc|apply pw_below_drewN|apply below_drew1|refine below_set ?_ GE398.out|refine below_set ?_ GE399.out)|exact HB.out))));(case aL=>have:=LMc51.out;omega);intro v409 w57 ho hb hg hat;rw [← Ny408.out] at ho;have n0_:=Aside0.mk (blk_grown (g:=gb398) (o:=.cells #[.slice A0_0 l0_0.length c0_0,.slice A0_1 l0_1.length c0_1,.int .i64 a0_2] 25 (0,0)) (by (with_reducible repeat (first|refine blk_drewN ?_ _|refine blk_drew ?_|refine blk_alloc ?_ _));exact BK398.out) hg (Kd.R_ne HO_6.out BK398.out (by decide)));have n1_:=Aside0.mk (blk_grown (g:=gb399) (o:=.cells #[.slice A1_0 l1_0.length c1_0,.slice A1_1 l1_1.length c1_1,.int .i64 a1_2] 25 (0,0)) (by (with_reducible repeat (first|refine blk_drewN ?_ _|refine blk_drew ?_|refine blk_alloc ?_ _));exact BK399.out) hg (Kd.R_ne HO_6.out BK399.out (by decide)));have n2_:=Aside0.mk (hb);have n3_:=Aside0.mk (ho);clear BK398 BK399 HB HO_6;have BK398:=n0_;have BK399:=n1_;have HB:=n2_;have HO410:=n3_;clear n0_ n1_ n2_ n3_;clear ho hb hg hat;have hnb58:=NB399_398.out;have hnc58:=NB398_399.out;have hcz59_0:w57.cell? ⟨gb399,0,none⟩=some (.slice A1_0 l1_0.length c1_0):=(blk_cell BK399.out 0).trans rfl;have hcz59_1:w57.cell? ⟨gb399,1,none⟩=some (.slice A1_1 l1_1.length c1_1):=(blk_cell BK399.out 1).trans rfl;have hcz59_2:w57.cell? ⟨gb399,2,none⟩=some (.int .i64 a1_2):=(blk_cell BK399.out 2).trans rfl;have hfz59_0:=blk_frozen BK399.out 0;have hfz59_1:=blk_frozen BK399.out 1;have hfz59_2:=blk_frozen BK399.out 2;have p411:0≤(x7_3:Int):=of_decide_eq_true (by first|(with_reducible assumption)|assumption);have q411:x7_3 < (l1_1.length:Int):=of_decide_eq_true (by first|(with_reducible assumption)|assumption);obtain ⟨ad411,e411,hx411_0⟩:=Kd.at_int HR1_1.out x7_3 p411 q411;cases e411;replace hx411_0:=(HB.out.cell (World.block_lt_of_cell? w _ hx411_0)).trans hx411_0;replace p411:=eq_true p411;replace q411:=eq_true q411;have hcz60_0:w57.cell? ⟨gb398,0,none⟩=some (.slice A0_0 l0_0.length c0_0):=(blk_cell BK398.out 0).trans rfl;have hcz60_1:w57.cell? ⟨gb398,1,none⟩=some (.slice A0_1 l0_1.length c0_1):=(blk_cell BK398.out 1).trans rfl;have hcz60_2:w57.cell? ⟨gb398,2,none⟩=some (.int .i64 a0_2):=(blk_cell BK398.out 2).trans rfl;have hfz60_0:=blk_frozen BK398.out 0;have hfz60_1:=blk_frozen BK398.out 1;have hfz60_2:=blk_frozen BK398.out 2;have p412:0≤(x7_3:Int):=of_decide_eq_true (by first|(with_reducible assumption)|assumption);have q412:x7_3 < (l0_1.length:Int):=of_decide_eq_true (by first|(with_reducible assumption)|assumption);obtain ⟨ad412,e412,hx412_0⟩:=Kd.at_int HR0_1.out x7_3 p412 q412;cases e412;replace hx412_0:=(HB.out.cell (World.block_lt_of_cell? w _ hx412_0)).trans hx412_0;replace p412:=eq_true p412;replace q412:=eq_true q412;have p413:0≤(x7_3:Int):=of_decide_eq_true (by first|(with_reducible assumption)|assumption);have q413:x7_3 < (l1_1.length:Int):=of_decide_eq_true (by first|(with_reducible assumption)|assumption);obtain ⟨ad413,e413,hx413_0⟩:=Kd.at_int HR1_1.out x7_3 p413 q413;obtain rfl:ad411=ad413:=(by injection e413);replace hx413_0:=(HB.out.cell (World.block_lt_of_cell? w _ hx413_0)).trans hx413_0;replace p413:=eq_true p413;replace q413:=eq_true q413)|((with_reducible refine gate_builtin (b:=.append) (xs:=#[.tmp 74,.tmp 82]) rfl ?_);(try (refine gate_guard (by rfl) ?_;dsimp only));at_builtin;refine Kd.R_append k55 (w0:=w) w.heap.size rfl (.tmp 74) (.tmp 82) 34 55 (.agg #[(.int .i64 0),(.int .i64 0),(.int .i64 0)]) 24 rfl Try.underlying34 info55 rfl (by decide) (by omega) v409 y408 (⟨2,x7_3,rd l1_1 x7_3⟩:S55) [.int .i64 2,.int .i64 x7_3,.int .i64 (rd l1_1 x7_3)] (fun _=>True) (fun _=>False) rfl rfl ?aP (fun _ hk=>hk.elim) ?aF ?aO ?aB ?aS ?aL ?_;(case aP=>exact k55_mkM _ _ _ (⟨2,x7_3,rd l1_1 x7_3⟩:S55));(case aB=>exact (by repeat (first|(with_reducible first|exact HB.out|apply below_alloc|apply pw_below_drewN|apply below_drew1|refine below_set ?_ GE398.out|refine below_set ?_ GE399.out)|exact HB.out)));(case aF=>exact (fun _ _=>trivial));(case aO=>exact (by (with_reducible repeat (first|apply Kd.R_alloc|apply Kd.R_drewN|apply Kd.R_drew));exact HO410.out));(case aS=>exact (below_size (by repeat (first|(with_reducible first|exact HB.out|apply below_alloc|apply pw_below_drewN|apply below_drew1|refine below_set ?_ GE398.out|refine below_set ?_ GE399.out)|exact HB.out))));(case aL=>have:=LMc56.out;omega);intro v415 w61 ho hb hg hat;rw [← Ny414.out] at ho;have n0_:=Aside0.mk (blk_grown (g:=gb398) (o:=.cells #[.slice A0_0 l0_0.length c0_0,.slice (some ad412) l0_1.length c0_1,.int .i64 a0_2] 25 (0,0)) (by (with_reducible repeat (first|refine blk_drewN ?_ _|refine blk_drew ?_|refine blk_alloc ?_ _));exact BK398.out) hg (Kd.R_ne HO410.out BK398.out (by decide)));have n1_:=Aside0.mk (blk_grown (g:=gb399) (o:=.cells #[.slice A1_0 l1_0.length c1_0,.slice (some ad411) l1_1.length c1_1,.int .i64 a1_2] 25 (0,0)) (by (with_reducible repeat (first|refine blk_drewN ?_ _|refine blk_drew ?_|refine blk_alloc ?_ _));exact BK399.out) hg (Kd.R_ne HO410.out BK399.out (by decide)));have n2_:=Aside0.mk (hb);have n3_:=Aside0.mk (ho);clear BK398 BK399 HB HO410;have BK398:=n0_;have BK399:=n1_;have HB:=n2_;have HO416:=n3_;clear n0_ n1_ n2_ n3_;clear ho hb hg hat));try go_wp2_with (first|((with_reducible refine gate_builtin (b:=.append) (xs:=#[.tmp 58,.tmp 61]) rfl ?_);(try (refine gate_guard (by rfl) ?_;dsimp only));at_builtin;refine Kd.R_append k55 (w0:=w) w.heap.size rfl (.tmp 58) (.tmp 61) 34 55 (.agg #[(.int .i64 0),(.int .i64 0),(.int .i64 0)]) 24 rfl Try.underlying34 info55 rfl (by decide) (by omega) u6 x6_3 (⟨1,x7_3,0⟩:S55) [.int .i64 1,.int .i64 x7_3,.int .i64 0] (fun _=>True) (fun _=>False) rfl rfl ?aP (fun _ hk=>hk.elim) ?aF ?aO ?aB ?aS ?aL ?_;(case aP=>exact k55_mkM _ _ _ (⟨1,x7_3,0⟩:S55));(case aB=>exact (by repeat (first|(with_reducible first|exact HB.out|apply below_alloc|apply pw_below_drewN|apply below_drew1|refine below_set ?_ GE398.out|refine below_set ?_ GE399.out)|exact HB.out)));(case aF=>exact (fun _ _=>trivial));(case aO=>exact (by (with_reducible repeat (first|apply Kd.R_alloc|apply Kd.R_drewN|apply Kd.R_drew));exact HO_6.out));(case aS=>exact (below_size (by repeat (first|(with_reducible first|exact HB.out|apply below_alloc|apply pw_below_drewN|apply below_drew1|refine below_set ?_ GE398.out|refine below_set ?_ GE399.out)|exact HB.out))));(case aL=>have:=LMc51.out;omega);intro v409 w57 ho hb hg hat;rw [← Ny408.out] at ho;have n0_:=Aside0.mk (blk_grown (g:=gb398) (o:=.cells #[.slice A0_0 l0_0.length c0_0,.slice A0_1 l0_1.length c0_1,.int .i64 a0_2] 25 (0,0)) (by (with_reducible repeat (first|refine blk_drewN ?_ _|refine blk_drew ?_|refine blk_alloc ?_ _));exact BK398.out) hg (Kd.R_ne HO_6.out BK398.out (by decide)));have n1_:=Aside0.mk (blk_grown (g:=gb399) (o:=.cells #[.slice A1_0 l1_0.length c1_0,.slice A1_1 l1_1.length c1_1,.int .i64 a1_2] 25 (0,0)) (by (with_reducible repeat (first|refine blk_drewN ?_ _|refine blk_drew ?_|refine blk_alloc ?_ _));exact BK399.out) hg (Kd.R_ne HO_6.out BK399.out (by decide)));have n2_:=Aside0.mk (hb);have n3_:=Aside0.mk (ho);clear BK398 BK399 HB HO_6;have BK398:=n0_;have BK399:=n1_;have HB:=n2_;have HO410:=n3_;clear n0_ n1_ n2_ n3_;clear ho hb hg hat;have hnb58:=NB399_398.out;have hnc58:=NB398_399.out;have hcz59_0:w57.cell? ⟨gb399,0,none⟩=some (.slice A1_0 l1_0.length c1_0):=(blk_cell BK399.out 0).trans rfl;have hcz59_1:w57.cell? ⟨gb399,1,none⟩=some (.slice A1_1 l1_1.length c1_1):=(blk_cell BK399.out 1).trans rfl;have hcz59_2:w57.cell? ⟨gb399,2,none⟩=some (.int .i64 a1_2):=(blk_cell BK399.out 2).trans rfl;have hfz59_0:=blk_frozen BK399.out 0;have hfz59_1:=blk_frozen BK399.out 1;have hfz59_2:=blk_frozen BK399.out 2;have p411:0≤(x7_3:Int):=of_decide_eq_true (by first|(with_reducible assumption)|assumption);have q411:x7_3 < (l1_1.length:Int):=of_decide_eq_true (by first|(with_reducible assumption)|assumption);obtain ⟨ad411,e411,hx411_0⟩:=Kd.at_int HR1_1.out x7_3 p411 q411;cases e411;replace hx411_0:=(HB.out.cell (World.block_lt_of_cell? w _ hx411_0)).trans hx411_0;replace p411:=eq_true p411;replace q411:=eq_true q411;have hcz60_0:w57.cell? ⟨gb398,0,none⟩=some (.slice A0_0 l0_0.length c0_0):=(blk_cell BK398.out 0).trans rfl;have hcz60_1:w57.cell? ⟨gb398,1,none⟩=some (.slice A0_1 l0_1.length c0_1):=(blk_cell BK398.out 1).trans rfl;have hcz60_2:w57.cell? ⟨gb398,2,none⟩=some (.int .i64 a0_2):=(blk_cell BK398.out 2).trans rfl;have hfz60_0:=blk_frozen BK398.out 0;have hfz60_1:=blk_frozen BK398.out 1;have hfz60_2:=blk_frozen BK398.out 2;have p412:0≤(x7_3:Int):=of_decide_eq_true (by first|(with_reducible assumption)|assumption);have q412:x7_3 < (l0_1.length:Int):=of_decide_eq_true (by first|(with_reducible assumption)|assumption);obtain ⟨ad412,e412,hx412_0⟩:=Kd.at_int HR0_1.out x7_3 p412 q412;cases e412;replace hx412_0:=(HB.out.cell (World.block_lt_of_cell? w _ hx412_0)).trans hx412_0;replace p412:=eq_true p412;replace q412:=eq_true q412;have p413:0≤(x7_3:Int):=of_decide_eq_true (by first|(with_reducible assumption)|assumption);have q413:x7_3 < (l1_1.length:Int):=of_decide_eq_true (by first|(with_reducible assumption)|assumption);obtain ⟨ad413,e413,hx413_0⟩:=Kd.at_int HR1_1.out x7_3 p413 q413;obtain rfl:ad411=ad413:=(by injection e413);replace hx413_0:=(HB.out.cell (World.block_lt_of_cell? w _ hx413_0)).trans hx413_0;replace p413:=eq_true p413;replace q413:=eq_true q413)|((with_reducible refine gate_builtin (b:=.append) (xs:=#[.tmp 74,.tmp 82]) rfl ?_);(try (refine gate_guard (by rfl) ?_;dsimp only));at_builtin;refine Kd.R_append k55 (w0:=w) w.heap.size rfl (.tmp 74) (.tmp 82) 34 55 (.agg #[(.int .i64 0),(.int .i64 0),(.int .i64 0)]) 24 rfl Try.underlying34 info55 rfl (by decide) (by omega) v409 y408 (⟨2,x7_3,rd l1_1 x7_3⟩:S55) [.int .i64 2,.int .i64 x7_3,.int .i64 (rd l1_1 x7_3)] (fun _=>True) (fun _=>False) rfl rfl ?aP (fun _ hk=>hk.elim) ?aF ?aO ?aB ?aS ?aL ?_;(case aP=>exact k55_mkM _ _ _ (⟨2,x7_3,rd l1_1 x7_3⟩:S55));(case aB=>exact (by repeat (first|(with_reducible first|exact HB.out|apply below_alloc|apply pw_below_drewN|apply below_drew1|refine below_set ?_ GE398.out|refine below_set ?_ GE399.out)|exact HB.out)));(case aF=>exact (fun _ _=>trivial));(case aO=>exact (by (with_reducible repeat (first|apply Kd.R_alloc|apply Kd.R_drewN|apply Kd.R_drew));exact HO410.out));(case aS=>exact (below_size (by repeat (first|(with_reducible first|exact HB.out|apply below_alloc|apply pw_below_drewN|apply below_drew1|refine below_set ?_ GE398.out|refine below_set ?_ GE399.out)|exact HB.out))));(case aL=>have:=LMc56.out;omega);intro v415 w61 ho hb hg hat;rw [← Ny414.out] at ho;have n0_:=Aside0.mk (blk_grown (g:=gb398) (o:=.cells #[.slice A0_0 l0_0.length c0_0,.slice (some ad412) l0_1.length c0_1,.int .i64 a0_2] 25 (0,0)) (by (with_reducible repeat (first|refine blk_drewN ?_ _|refine blk_drew ?_|refine blk_alloc ?_ _));exact BK398.out) hg (Kd.R_ne HO410.out BK398.out (by decide)));have n1_:=Aside0.mk (blk_grown (g:=gb399) (o:=.cells #[.slice A1_0 l1_0.length c1_0,.slice (some ad411) l1_1.length c1_1,.int .i64 a1_2] 25 (0,0)) (by (with_reducible repeat (first|refine blk_drewN ?_ _|refine blk_drew ?_|refine blk_alloc ?_ _));exact BK399.out) hg (Kd.R_ne HO410.out BK399.out (by decide)));have n2_:=Aside0.mk (hb);have n3_:=Aside0.mk (ho);clear BK398 BK399 HB HO410;have BK398:=n0_;have BK399:=n1_;have HB:=n2_;have HO416:=n3_;clear n0_ n1_ n2_ n3_;clear ho hb hg hat)))
                     go_roundg kj38
                     case measure=>have:=HJ2.out;have:=HJ19.out;have:=HK3.out;have:=HJ31.out;have:=HJ38.out;omega
                     case rel=>exact ⟨(y414),(wrap64 (x7_3 + 1)),(by first|rfl|(simp;done)|(simp [*];done)),H',⟨by have:=HJ2.out;have:=HJ19.out;have:=HK3.out;have:=HJ31.out;have:=HJ38.out;omega⟩,⟨by (with_reducible repeat (first|apply Kd.R_alloc|apply Kd.R_drewN|apply Kd.R_drew));exact HO416.out⟩,⟨by (with_reducible repeat (first|refine blk_drewN ?_ _|refine blk_drew ?_|refine blk_alloc ?_ _));exact BK398.out⟩,⟨by (with_reducible repeat (first|refine blk_drewN ?_ _|refine blk_drew ?_|refine blk_alloc ?_ _));exact BK399.out⟩,⟨by repeat (first|(with_reducible first|exact HB.out|apply below_alloc|apply pw_below_drewN|apply below_drew1|refine below_set ?_ GE398.out|refine below_set ?_ GE399.out)|exact HB.out)⟩⟩
                    ·rw [if_neg c56] at H
                     exact absurd H (by simp)
                   ·rw [if_neg c55] at H
                    have c55b0:decide ((rd l0_1 x7_3) < (rd l1_1 x7_3))=false:=decide_eq_false c55
                    clear c55
                    have H':=Aside0.mk H
                    clear H
                    go_wp2_with (first|((with_reducible refine gate_builtin (b:=.append) (xs:=#[.tmp 58,.tmp 61]) rfl ?_);(try (refine gate_guard (by rfl) ?_;dsimp only));at_builtin;refine Kd.R_append k55 (w0:=w) w.heap.size rfl (.tmp 58) (.tmp 61) 34 55 (.agg #[(.int .i64 0),(.int .i64 0),(.int .i64 0)]) 24 rfl Try.underlying34 info55 rfl (by decide) (by omega) u6 x6_3 (⟨1,x7_3,0⟩:S55) [.int .i64 1,.int .i64 x7_3,.int .i64 0] (fun _=>True) (fun _=>False) rfl rfl ?aP (fun _ hk=>hk.elim) ?aF ?aO ?aB ?aS ?aL ?_;(case aP=>exact k55_mkM _ _ _ (⟨1,x7_3,0⟩:S55));(case aB=>exact (by repeat (first|(with_reducible first|exact HB.out|apply below_alloc|apply pw_below_drewN|apply below_drew1|refine below_set ?_ GE398.out|refine below_set ?_ GE399.out)|exact HB.out)));(case aF=>exact (fun _ _=>trivial));(case aO=>exact (by (with_reducible repeat (first|apply Kd.R_alloc|apply Kd.R_drewN|apply Kd.R_drew));exact HO_6.out));(case aS=>exact (below_size (by repeat (first|(with_reducible first|exact HB.out|apply below_alloc|apply pw_below_drewN|apply below_drew1|refine below_set ?_ GE398.out|refine below_set ?_ GE399.out)|exact HB.out))));(case aL=>have:=LMc51.out;omega);intro v409 w62 ho hb hg hat;rw [← Ny408.out] at ho;have n0_:=Aside0.mk (blk_grown (g:=gb398) (o:=.cells #[.slice A0_0 l0_0.length c0_0,.slice A0_1 l0_1.length c0_1,.int .i64 a0_2] 25 (0,0)) (by (with_reducible repeat (first|refine blk_drewN ?_ _|refine blk_drew ?_|refine blk_alloc ?_ _));exact BK398.out) hg (Kd.R_ne HO_6.out BK398.out (by decide)));have n1_:=Aside0.mk (blk_grown (g:=gb399) (o:=.cells #[.slice A1_0 l1_0.length c1_0,.slice A1_1 l1_1.length c1_1,.int .i64 a1_2] 25 (0,0)) (by (with_reducible repeat (first|refine blk_drewN ?_ _|refine blk_drew ?_|refine blk_alloc ?_ _));exact BK399.out) hg (Kd.R_ne HO_6.out BK399.out (by decide)));have n2_:=Aside0.mk (hb);have n3_:=Aside0.mk (ho);clear BK398 BK399 HB HO_6;have BK398:=n0_;have BK399:=n1_;have HB:=n2_;have HO410:=n3_;clear n0_ n1_ n2_ n3_;clear ho hb hg hat;have hnb63:=NB399_398.out;have hnc63:=NB398_399.out;have hcz64_0:w62.cell? ⟨gb399,0,none⟩=some (.slice A1_0 l1_0.length c1_0):=(blk_cell BK399.out 0).trans rfl;have hcz64_1:w62.cell? ⟨gb399,1,none⟩=some (.slice A1_1 l1_1.length c1_1):=(blk_cell BK399.out 1).trans rfl;have hcz64_2:w62.cell? ⟨gb399,2,none⟩=some (.int .i64 a1_2):=(blk_cell BK399.out 2).trans rfl;have hfz64_0:=blk_frozen BK399.out 0;have hfz64_1:=blk_frozen BK399.out 1;have hfz64_2:=blk_frozen BK399.out 2;have p411:0≤(x7_3:Int):=of_decide_eq_true (by first|(with_reducible assumption)|assumption);have q411:x7_3 < (l1_1.length:Int):=of_decide_eq_true (by first|(with_reducible assumption)|assumption);obtain ⟨ad411,e411,hx411_0⟩:=Kd.at_int HR1_1.out x7_3 p411 q411;cases e411;replace hx411_0:=(HB.out.cell (World.block_lt_of_cell? w _ hx411_0)).trans hx411_0;replace p411:=eq_true p411;replace q411:=eq_true q411;have hcz65_0:w62.cell? ⟨gb398,0,none⟩=some (.slice A0_0 l0_0.length c0_0):=(blk_cell BK398.out 0).trans rfl;have hcz65_1:w62.cell? ⟨gb398,1,none⟩=some (.slice A0_1 l0_1.length c0_1):=(blk_cell BK398.out 1).trans rfl;have hcz65_2:w62.cell? ⟨gb398,2,none⟩=some (.int .i64 a0_2):=(blk_cell BK398.out 2).trans rfl;have hfz65_0:=blk_frozen BK398.out 0;have hfz65_1:=blk_frozen BK398.out 1;have hfz65_2:=blk_frozen BK398.out 2;have p412:0≤(x7_3:Int):=of_decide_eq_true (by first|(with_reducible assumption)|assumption);have q412:x7_3 < (l0_1.length:Int):=of_decide_eq_true (by first|(with_reducible assumption)|assumption);obtain ⟨ad412,e412,hx412_0⟩:=Kd.at_int HR0_1.out x7_3 p412 q412;cases e412;replace hx412_0:=(HB.out.cell (World.block_lt_of_cell? w _ hx412_0)).trans hx412_0;replace p412:=eq_true p412;replace q412:=eq_true q412))
                    repeat (go_quiet (first|((with_reducible refine gate_builtin (b:=.append) (xs:=#[.tmp 58,.tmp 61]) rfl ?_);(try (refine gate_guard (by rfl) ?_;dsimp only));at_builtin;refine Kd.R_append k55 (w0:=w) w.heap.size rfl (.tmp 58) (.tmp 61) 34 55 (.agg #[(.int .i64 0),(.int .i64 0),(.int .i64 0)]) 24 rfl Try.underlying34 info55 rfl (by decide) (by omega) u6 x6_3 (⟨1,x7_3,0⟩:S55) [.int .i64 1,.int .i64 x7_3,.int .i64 0] (fun _=>True) (fun _=>False) rfl rfl ?aP (fun _ hk=>hk.elim) ?aF ?aO ?aB ?aS ?aL ?_;(case aP=>exact k55_mkM _ _ _ (⟨1,x7_3,0⟩:S55));(case aB=>exact (by repeat (first|(with_reducible first|exact HB.out|apply below_alloc|apply pw_below_drewN|apply below_drew1|refine below_set ?_ GE398.out|refine below_set ?_ GE399.out)|exact HB.out)));(case aF=>exact (fun _ _=>trivial));(case aO=>exact (by (with_reducible repeat (first|apply Kd.R_alloc|apply Kd.R_drewN|apply Kd.R_drew));exact HO_6.out));(case aS=>exact (below_size (by repeat (first|(with_reducible first|exact HB.out|apply below_alloc|apply pw_below_drewN|apply below_drew1|refine below_set ?_ GE398.out|refine below_set ?_ GE399.out)|exact HB.out))));(case aL=>have:=LMc51.out;omega);intro v409 w62 ho hb hg hat;rw [← Ny408.out] at ho;have n0_:=Aside0.mk (blk_grown (g:=gb398) (o:=.cells #[.slice A0_0 l0_0.length c0_0,.slice A0_1 l0_1.length c0_1,.int .i64 a0_2] 25 (0,0)) (by (with_reducible repeat (first|refine blk_drewN ?_ _|refine blk_drew ?_|refine blk_alloc ?_ _));exact BK398.out) hg (Kd.R_ne HO_6.out BK398.out (by decide)));have n1_:=Aside0.mk (blk_grown (g:=gb399) (o:=.cells #[.slice A1_0 l1_0.length c1_0,.slice A1_1 l1_1.length c1_1,.int .i64 a1_2] 25 (0,0)) (by (with_reducible repeat (first|refine blk_drewN ?_ _|refine blk_drew ?_|refine blk_alloc ?_ _));exact BK399.out) hg (Kd.R_ne HO_6.out BK399.out (by decide)));have n2_:=Aside0.mk (hb);have n3_:=Aside0.mk (ho);clear BK398 BK399 HB HO_6;have BK398:=n0_;have BK399:=n1_;have HB:=n2_;have HO410:=n3_;clear n0_ n1_ n2_ n3_;clear ho hb hg hat;have hnb63:=NB399_398.out;have hnc63:=NB398_399.out;have hcz64_0:w62.cell? ⟨gb399,0,none⟩=some (.slice A1_0 l1_0.length c1_0):=(blk_cell BK399.out 0).trans rfl;have hcz64_1:w62.cell? ⟨gb399,1,none⟩=some (.slice A1_1 l1_1.length c1_1):=(blk_cell BK399.out 1).trans rfl;have hcz64_2:w62.cell? ⟨gb399,2,none⟩=some (.int .i64 a1_2):=(blk_cell BK399.out 2).trans rfl;have hfz64_0:=blk_frozen BK399.out 0;have hfz64_1:=blk_frozen BK399.out 1;have hfz64_2:=blk_frozen BK399.out 2;have p411:0≤(x7_3:Int):=of_decide_eq_true (by first|(with_reducible assumption)|assumption);have q411:x7_3 < (l1_1.length:Int):=of_decide_eq_true (by first|(with_reducible assumption)|assumption);obtain ⟨ad411,e411,hx411_0⟩:=Kd.at_int HR1_1.out x7_3 p411 q411;cases e411;replace hx411_0:=(HB.out.cell (World.block_lt_of_cell? w _ hx411_0)).trans hx411_0;replace p411:=eq_true p411;replace q411:=eq_true q411;have hcz65_0:w62.cell? ⟨gb398,0,none⟩=some (.slice A0_0 l0_0.length c0_0):=(blk_cell BK398.out 0).trans rfl;have hcz65_1:w62.cell? ⟨gb398,1,none⟩=some (.slice A0_1 l0_1.length c0_1):=(blk_cell BK398.out 1).trans rfl;have hcz65_2:w62.cell? ⟨gb398,2,none⟩=some (.int .i64 a0_2):=(blk_cell BK398.out 2).trans rfl;have hfz65_0:=blk_frozen BK398.out 0;have hfz65_1:=blk_frozen BK398.out 1;have hfz65_2:=blk_frozen BK398.out 2;have p412:0≤(x7_3:Int):=of_decide_eq_true (by first|(with_reducible assumption)|assumption);have q412:x7_3 < (l0_1.length:Int):=of_decide_eq_true (by first|(with_reducible assumption)|assumption);obtain ⟨ad412,e412,hx412_0⟩:=Kd.at_int HR0_1.out x7_3 p412 q412;cases e412;replace hx412_0:=(HB.out.cell (World.block_lt_of_cell? w _ hx412_0)).trans hx412_0;replace p412:=eq_true p412;replace q412:=eq_true q412));try go_wp2_with (first|((with_reducible refine gate_builtin (b:=.append) (xs:=#[.tmp 58,.tmp 61]) rfl ?_);(try (refine gate_guard (by rfl) ?_;dsimp only));at_builtin;refine Kd.R_append k55 (w0:=w) w.heap.size rfl (.tmp 58) (.tmp 61) 34 55 (.agg #[(.int .i64 0),(.int .i64 0),(.int .i64 0)]) 24 rfl Try.underlying34 info55 rfl (by decide) (by omega) u6 x6_3 (⟨1,x7_3,0⟩:S55) [.int .i64 1,.int .i64 x7_3,.int .i64 0] (fun _=>True) (fun _=>False) rfl rfl ?aP (fun _ hk=>hk.elim) ?aF ?aO ?aB ?aS ?aL ?_;(case aP=>exact k55_mkM _ _ _ (⟨1,x7_3,0⟩:S55));(case aB=>exact (by repeat (first|(with_reducible first|exact HB.out|apply below_alloc|apply pw_below_drewN|apply below_drew1|refine below_set ?_ GE398.out|refine below_set ?_ GE399.out)|exact HB.out)));(case aF=>exact (fun _ _=>trivial));(case aO=>exact (by (with_reducible repeat (first|apply Kd.R_alloc|apply Kd.R_drewN|apply Kd.R_drew));exact HO_6.out));(case aS=>exact (below_size (by repeat (first|(with_reducible first|exact HB.out|apply below_alloc|apply pw_below_drewN|apply below_drew1|refine below_set ?_ GE398.out|refine below_set ?_ GE399.out)|exact HB.out))));(case aL=>have:=LMc51.out;omega);intro v409 w62 ho hb hg hat;rw [← Ny408.out] at ho;have n0_:=Aside0.mk (blk_grown (g:=gb398) (o:=.cells #[.slice A0_0 l0_0.length c0_0,.slice A0_1 l0_1.length c0_1,.int .i64 a0_2] 25 (0,0)) (by (with_reducible repeat (first|refine blk_drewN ?_ _|refine blk_drew ?_|refine blk_alloc ?_ _));exact BK398.out) hg (Kd.R_ne HO_6.out BK398.out (by decide)));have n1_:=Aside0.mk (blk_grown (g:=gb399) (o:=.cells #[.slice A1_0 l1_0.length c1_0,.slice A1_1 l1_1.length c1_1,.int .i64 a1_2] 25 (0,0)) (by (with_reducible repeat (first|refine blk_drewN ?_ _|refine blk_drew ?_|refine blk_alloc ?_ _));exact BK399.out) hg (Kd.R_ne HO_6.out BK399.out (by decide)));have n2_:=Aside0.mk (hb);have n3_:=Aside0.mk (ho);clear BK398 BK399 HB HO_6;have BK398:=n0_;have BK399:=n1_;have HB:=n2_;have HO410:=n3_;clear n0_ n1_ n2_ n3_;clear ho hb hg hat;have hnb63:=NB399_398.out;have hnc63:=NB398_399.out;have hcz64_0:w62.cell? ⟨gb399,0,none⟩=some (.slice A1_0 l1_0.length c1_0):=(blk_cell BK399.out 0).trans rfl;have hcz64_1:w62.cell? ⟨gb399,1,none⟩=some (.slice A1_1 l1_1.length c1_1):=(blk_cell BK399.out 1).trans rfl;have hcz64_2:w62.cell? ⟨gb399,2,none⟩=some (.int .i64 a1_2):=(blk_cell BK399.out 2).trans rfl;have hfz64_0:=blk_frozen BK399.out 0;have hfz64_1:=blk_frozen BK399.out 1;have hfz64_2:=blk_frozen BK399.out 2;have p411:0≤(x7_3:Int):=of_decide_eq_true (by first|(with_reducible assumption)|assumption);have q411:x7_3 < (l1_1.length:Int):=of_decide_eq_true (by first|(with_reducible assumption)|assumption);obtain ⟨ad411,e411,hx411_0⟩:=Kd.at_int HR1_1.out x7_3 p411 q411;cases e411;replace hx411_0:=(HB.out.cell (World.block_lt_of_cell? w _ hx411_0)).trans hx411_0;replace p411:=eq_true p411;replace q411:=eq_true q411;have hcz65_0:w62.cell? ⟨gb398,0,none⟩=some (.slice A0_0 l0_0.length c0_0):=(blk_cell BK398.out 0).trans rfl;have hcz65_1:w62.cell? ⟨gb398,1,none⟩=some (.slice A0_1 l0_1.length c0_1):=(blk_cell BK398.out 1).trans rfl;have hcz65_2:w62.cell? ⟨gb398,2,none⟩=some (.int .i64 a0_2):=(blk_cell BK398.out 2).trans rfl;have hfz65_0:=blk_frozen BK398.out 0;have hfz65_1:=blk_frozen BK398.out 1;have hfz65_2:=blk_frozen BK398.out 2;have p412:0≤(x7_3:Int):=of_decide_eq_true (by first|(with_reducible assumption)|assumption);have q412:x7_3 < (l0_1.length:Int):=of_decide_eq_true (by first|(with_reducible assumption)|assumption);obtain ⟨ad412,e412,hx412_0⟩:=Kd.at_int HR0_1.out x7_3 p412 q412;cases e412;replace hx412_0:=(HB.out.cell (World.block_lt_of_cell? w _ hx412_0)).trans hx412_0;replace p412:=eq_true p412;replace q412:=eq_true q412)))
                    go_roundg kj38
                    case measure=>have:=HJ2.out;have:=HJ19.out;have:=HK3.out;have:=HJ31.out;have:=HJ38.out;omega
                    case rel=>exact ⟨(y408),(wrap64 (x7_3 + 1)),(by first|rfl|(simp;done)|(simp [*];done)),H',⟨by have:=HJ2.out;have:=HJ19.out;have:=HK3.out;have:=HJ31.out;have:=HJ38.out;omega⟩,⟨by (with_reducible repeat (first|apply Kd.R_alloc|apply Kd.R_drewN|apply Kd.R_drew));exact HO410.out⟩,⟨by (with_reducible repeat (first|refine blk_drewN ?_ _|refine blk_drew ?_|refine blk_alloc ?_ _));exact BK398.out⟩,⟨by (with_reducible repeat (first|refine blk_drewN ?_ _|refine blk_drew ?_|refine blk_alloc ?_ _));exact BK399.out⟩,⟨by repeat (first|(with_reducible first|exact HB.out|apply below_alloc|apply pw_below_drewN|apply below_drew1|refine below_set ?_ GE398.out|refine below_set ?_ GE399.out)|exact HB.out)⟩⟩
                  ·rw [if_neg c54] at H
                   exact absurd H (by simp)
                 ·rw [if_neg c53] at H
                  exact absurd H (by simp)
                ·rw [if_neg c52] at H
                 exact absurd H (by simp)
               ·rw [if_neg c51] at H
                exact absurd H (by simp)
              ·replace c50:=Bool.eq_false_iff.mpr c50
               subst c50
               have H1:(if 0≤x7_3 then (if x7_3 < (l1_1.length:Int) then (if x7_3 < (l0_1.length:Int) then (if (rd l1_1 x7_3) > (rd l0_1 x7_3) then (if x6_3.length < 5864062014805 then (slipwayref06_Diff.l0 kj38 (x6_3 ++ [(⟨2,x7_3,rd l1_1 x7_3⟩:S55)]) (wrap64 (x7_3 + 1)) l0_0 l0_1 a0_2 l1_0 l1_1 a1_2) else (none)) else (slipwayref06_Diff.l0 kj38 x6_3 (wrap64 (x7_3 + 1)) l0_0 l0_1 a0_2 l1_0 l1_1 a1_2)) else (none)) else (none)) else (none))=some (r1,r2):=by rw [if_neg (show ¬ (false=true) by decide)] at H;exact H
               clear H
               have H:=H1
               clear H1
               by_cases c66:0≤x7_3
               ·rw [if_pos c66] at H
                have c66b0:decide (0≤x7_3)=true:=decide_eq_true c66
                clear c66
                by_cases c67:x7_3 < (l1_1.length:Int)
                ·rw [if_pos c67] at H
                 have c67b0:decide (x7_3 < (l1_1.length:Int))=true:=decide_eq_true c67
                 clear c67
                 by_cases c68:x7_3 < (l0_1.length:Int)
                 ·rw [if_pos c68] at H
                  have c68b0:decide (x7_3 < (l0_1.length:Int))=true:=decide_eq_true c68
                  clear c68
                  by_cases c69:(rd l1_1 x7_3) > (rd l0_1 x7_3)
                  ·rw [if_pos c69] at H
                   have c69b0:decide ((rd l0_1 x7_3) < (rd l1_1 x7_3))=true:=decide_eq_true c69
                   clear c69
                   by_cases c70:x6_3.length < 5864062014805
                   ·rw [if_pos c70] at H
                    have LMc70:=Aside0.mk c70
                    clear c70
                    obtain ⟨y420,hy420⟩:∃ y_:List (S55),y_=(x6_3 ++ [(⟨2,x7_3,rd l1_1 x7_3⟩:S55)]):=⟨_,rfl⟩
                    replace H:(slipwayref06_Diff.l0 kj38 y420 (wrap64 (x7_3 + 1)) l0_0 l0_1 a0_2 l1_0 l1_1 a1_2)=some (r1,r2):=by first|(rw [hy420];with_reducible exact H)|(have H2_:=(Option.bind_some _ _).symm.trans H;rw [hy420];with_reducible exact H2_)|(have H2_:=(Option.bind_some _ _).symm.trans H;with_reducible exact H2_)|with_reducible exact H|(rw [hy420];exact H)|exact H
                    have Ny420:=Aside0.mk hy420
                    clear hy420
                    have H':=Aside0.mk H
                    clear H
                    have hnb71:=NB399_398.out
                    have hnc71:=NB398_399.out
                    have hcz72_0:wc.cell? ⟨gb399,0,none⟩=some (.slice A1_0 l1_0.length c1_0):=(blk_cell BK399.out 0).trans rfl
                    have hcz72_1:wc.cell? ⟨gb399,1,none⟩=some (.slice A1_1 l1_1.length c1_1):=(blk_cell BK399.out 1).trans rfl
                    have hcz72_2:wc.cell? ⟨gb399,2,none⟩=some (.int .i64 a1_2):=(blk_cell BK399.out 2).trans rfl
                    have hfz72_0:=blk_frozen BK399.out 0
                    have hfz72_1:=blk_frozen BK399.out 1
                    have hfz72_2:=blk_frozen BK399.out 2
                    have p417:0≤(x7_3:Int):=of_decide_eq_true (by first|(with_reducible assumption)|assumption)
                    have q417:x7_3 < (l1_1.length:Int):=of_decide_eq_true (by first|(with_reducible assumption)|assumption)
                    obtain ⟨ad417,e417,hx417_0⟩:=Kd.at_int HR1_1.out x7_3 p417 q417
                    cases e417
                    replace hx417_0:=(HB.out.cell (World.block_lt_of_cell? w _ hx417_0)).trans hx417_0
                    replace p417:=eq_true p417
                    replace q417:=eq_true q417
                    have hcz73_0:wc.cell? ⟨gb398,0,none⟩=some (.slice A0_0 l0_0.length c0_0):=(blk_cell BK398.out 0).trans rfl
                    have hcz73_1:wc.cell? ⟨gb398,1,none⟩=some (.slice A0_1 l0_1.length c0_1):=(blk_cell BK398.out 1).trans rfl
                    have hcz73_2:wc.cell? ⟨gb398,2,none⟩=some (.int .i64 a0_2):=(blk_cell BK398.out 2).trans rfl
                    have hfz73_0:=blk_frozen BK398.out 0
                    have hfz73_1:=blk_frozen BK398.out 1
                    have hfz73_2:=blk_frozen BK398.out 2
                    have p418:0≤(x7_3:Int):=of_decide_eq_true (by first|(with_reducible assumption)|assumption)
                    have q418:x7_3 < (l0_1.length:Int):=of_decide_eq_true (by first|(with_reducible assumption)|assumption)
                    obtain ⟨ad418,e418,hx418_0⟩:=Kd.at_int HR0_1.out x7_3 p418 q418
                    cases e418
                    replace hx418_0:=(HB.out.cell (World.block_lt_of_cell? w _ hx418_0)).trans hx418_0
                    replace p418:=eq_true p418
                    replace q418:=eq_true q418
                    have p419:0≤(x7_3:Int):=of_decide_eq_true (by first|(with_reducible assumption)|assumption)
                    have q419:x7_3 < (l1_1.length:Int):=of_decide_eq_true (by first|(with_reducible assumption)|assumption)
                    obtain ⟨ad419,e419,hx419_0⟩:=Kd.at_int HR1_1.out x7_3 p419 q419
                    obtain rfl:ad417=ad419:=(by injection e419)
                    replace hx419_0:=(HB.out.cell (World.block_lt_of_cell? w _ hx419_0)).trans hx419_0
                    replace p419:=eq_true p419
                    replace q419:=eq_true q419
                    go_wp2_with (first|((with_reducible refine gate_builtin (b:=.append) (xs:=#[.tmp 74,.tmp 82]) rfl ?_);(try (refine gate_guard (by rfl) ?_;dsimp only));at_builtin;refine Kd.R_append k55 (w0:=w) w.heap.size rfl (.tmp 74) (.tmp 82) 34 55 (.agg #[(.int .i64 0),(.int .i64 0),(.int .i64 0)]) 24 rfl Try.underlying34 info55 rfl (by decide) (by omega) u6 x6_3 (⟨2,x7_3,rd l1_1 x7_3⟩:S55) [.int .i64 2,.int .i64 x7_3,.int .i64 (rd l1_1 x7_3)] (fun _=>True) (fun _=>False) rfl rfl ?aP (fun _ hk=>hk.elim) ?aF ?aO ?aB ?aS ?aL ?_;(case aP=>exact k55_mkM _ _ _ (⟨2,x7_3,rd l1_1 x7_3⟩:S55));(case aB=>exact (by repeat (first|(with_reducible first|exact HB.out|apply below_alloc|apply pw_below_drewN|apply below_drew1|refine below_set ?_ GE398.out|refine below_set ?_ GE399.out)|exact HB.out)));(case aF=>exact (fun _ _=>trivial));(case aO=>exact (by (with_reducible repeat (first|apply Kd.R_alloc|apply Kd.R_drewN|apply Kd.R_drew));exact HO_6.out));(case aS=>exact (below_size (by repeat (first|(with_reducible first|exact HB.out|apply below_alloc|apply pw_below_drewN|apply below_drew1|refine below_set ?_ GE398.out|refine below_set ?_ GE399.out)|exact HB.out))));(case aL=>have:=LMc70.out;omega);intro v421 w74 ho hb hg hat;rw [← Ny420.out] at ho;have n0_:=Aside0.mk (blk_grown (g:=gb398) (o:=.cells #[.slice A0_0 l0_0.length c0_0,.slice (some ad418) l0_1.length c0_1,.int .i64 a0_2] 25 (0,0)) (by (with_reducible repeat (first|refine blk_drewN ?_ _|refine blk_drew ?_|refine blk_alloc ?_ _));exact BK398.out) hg (Kd.R_ne HO_6.out BK398.out (by decide)));have n1_:=Aside0.mk (blk_grown (g:=gb399) (o:=.cells #[.slice A1_0 l1_0.length c1_0,.slice (some ad417) l1_1.length c1_1,.int .i64 a1_2] 25 (0,0)) (by (with_reducible repeat (first|refine blk_drewN ?_ _|refine blk_drew ?_|refine blk_alloc ?_ _));exact BK399.out) hg (Kd.R_ne HO_6.out BK399.out (by decide)));have n2_:=Aside0.mk (hb);have n3_:=Aside0.mk (ho);clear BK398 BK399 HB HO_6;have BK398:=n0_;have BK399:=n1_;have HB:=n2_;have HO422:=n3_;clear n0_ n1_ n2_ n3_;clear ho hb hg hat))
                    repeat (go_quiet (first|((with_reducible refine gate_builtin (b:=.append) (xs:=#[.tmp 74,.tmp 82]) rfl ?_);(try (refine gate_guard (by rfl) ?_;dsimp only));at_builtin;refine Kd.R_append k55 (w0:=w) w.heap.size rfl (.tmp 74) (.tmp 82) 34 55 (.agg #[(.int .i64 0),(.int .i64 0),(.int .i64 0)]) 24 rfl Try.underlying34 info55 rfl (by decide) (by omega) u6 x6_3 (⟨2,x7_3,rd l1_1 x7_3⟩:S55) [.int .i64 2,.int .i64 x7_3,.int .i64 (rd l1_1 x7_3)] (fun _=>True) (fun _=>False) rfl rfl ?aP (fun _ hk=>hk.elim) ?aF ?aO ?aB ?aS ?aL ?_;(case aP=>exact k55_mkM _ _ _ (⟨2,x7_3,rd l1_1 x7_3⟩:S55));(case aB=>exact (by repeat (first|(with_reducible first|exact HB.out|apply below_alloc|apply pw_below_drewN|apply below_drew1|refine below_set ?_ GE398.out|refine below_set ?_ GE399.out)|exact HB.out)));(case aF=>exact (fun _ _=>trivial));(case aO=>exact (by (with_reducible repeat (first|apply Kd.R_alloc|apply Kd.R_drewN|apply Kd.R_drew));exact HO_6.out));(case aS=>exact (below_size (by repeat (first|(with_reducible first|exact HB.out|apply below_alloc|apply pw_below_drewN|apply below_drew1|refine below_set ?_ GE398.out|refine below_set ?_ GE399.out)|exact HB.out))));(case aL=>have:=LMc70.out;omega);intro v421 w74 ho hb hg hat;rw [← Ny420.out] at ho;have n0_:=Aside0.mk (blk_grown (g:=gb398) (o:=.cells #[.slice A0_0 l0_0.length c0_0,.slice (some ad418) l0_1.length c0_1,.int .i64 a0_2] 25 (0,0)) (by (with_reducible repeat (first|refine blk_drewN ?_ _|refine blk_drew ?_|refine blk_alloc ?_ _));exact BK398.out) hg (Kd.R_ne HO_6.out BK398.out (by decide)));have n1_:=Aside0.mk (blk_grown (g:=gb399) (o:=.cells #[.slice A1_0 l1_0.length c1_0,.slice (some ad417) l1_1.length c1_1,.int .i64 a1_2] 25 (0,0)) (by (with_reducible repeat (first|refine blk_drewN ?_ _|refine blk_drew ?_|refine blk_alloc ?_ _));exact BK399.out) hg (Kd.R_ne HO_6.out BK399.out (by decide)));have n2_:=Aside0.mk (hb);have n3_:=Aside0.mk (ho);clear BK398 BK399 HB HO_6;have BK398:=n0_;have BK399:=n1_;have HB:=n2_;have HO422:=n3_;clear n0_ n1_ n2_ n3_;clear ho hb hg hat));try go_wp2_with (first|((with_reducible refine gate_builtin (b:=.append) (xs:=#[.tmp 74,.tmp 82]) rfl ?_);(try (refine gate_guard (by rfl) ?_;dsimp only));at_builtin;refine Kd.R_append k55 (w0:=w) w.heap.size rfl (.tmp 74) (.tmp 82) 34 55 (.agg #[(.int .i64 0),(.int .i64 0),(.int .i64 0)]) 24 rfl Try.underlying34 info55 rfl (by decide) (by omega) u6 x6_3 (⟨2,x7_3,rd l1_1 x7_3⟩:S55) [.int .i64 2,.int .i64 x7_3,.int .i64 (rd l1_1 x7_3)] (fun _=>True) (fun _=>False) rfl rfl ?aP (fun _ hk=>hk.elim) ?aF ?aO ?aB ?aS ?aL ?_;(case aP=>exact k55_mkM _ _ _ (⟨2,x7_3,rd l1_1 x7_3⟩:S55));(case aB=>exact (by repeat (first|(with_reducible first|exact HB.out|apply below_alloc|apply pw_below_drewN|apply below_drew1|refine below_set ?_ GE398.out|refine below_set ?_ GE399.out)|exact HB.out)));(case aF=>exact (fun _ _=>trivial));(case aO=>exact (by (with_reducible repeat (first|apply Kd.R_alloc|apply Kd.R_drewN|apply Kd.R_drew));exact HO_6.out));(case aS=>exact (below_size (by repeat (first|(with_reducible first|exact HB.out|apply below_alloc|apply pw_below_drewN|apply below_drew1|refine below_set ?_ GE398.out|refine below_set ?_ GE399.out)|exact HB.out))));(case aL=>have:=LMc70.out;omega);intro v421 w74 ho hb hg hat;rw [← Ny420.out] at ho;have n0_:=Aside0.mk (blk_grown (g:=gb398) (o:=.cells #[.slice A0_0 l0_0.length c0_0,.slice (some ad418) l0_1.length c0_1,.int .i64 a0_2] 25 (0,0)) (by (with_reducible repeat (first|refine blk_drewN ?_ _|refine blk_drew ?_|refine blk_alloc ?_ _));exact BK398.out) hg (Kd.R_ne HO_6.out BK398.out (by decide)));have n1_:=Aside0.mk (blk_grown (g:=gb399) (o:=.cells #[.slice A1_0 l1_0.length c1_0,.slice (some ad417) l1_1.length c1_1,.int .i64 a1_2] 25 (0,0)) (by (with_reducible repeat (first|refine blk_drewN ?_ _|refine blk_drew ?_|refine blk_alloc ?_ _));exact BK399.out) hg (Kd.R_ne HO_6.out BK399.out (by decide)));have n2_:=Aside0.mk (hb);have n3_:=Aside0.mk (ho);clear BK398 BK399 HB HO_6;have BK398:=n0_;have BK399:=n1_;have HB:=n2_;have HO422:=n3_;clear n0_ n1_ n2_ n3_;clear ho hb hg hat)))
                    go_roundg kj38
                    case measure=>have:=HJ2.out;have:=HJ19.out;have:=HK3.out;have:=HJ31.out;have:=HJ38.out;omega
                    case rel=>exact ⟨(y420),(wrap64 (x7_3 + 1)),(by first|rfl|(simp;done)|(simp [*];done)),H',⟨by have:=HJ2.out;have:=HJ19.out;have:=HK3.out;have:=HJ31.out;have:=HJ38.out;omega⟩,⟨by (with_reducible repeat (first|apply Kd.R_alloc|apply Kd.R_drewN|apply Kd.R_drew));exact HO422.out⟩,⟨by (with_reducible repeat (first|refine blk_drewN ?_ _|refine blk_drew ?_|refine blk_alloc ?_ _));exact BK398.out⟩,⟨by (with_reducible repeat (first|refine blk_drewN ?_ _|refine blk_drew ?_|refine blk_alloc ?_ _));exact BK399.out⟩,⟨by repeat (first|(with_reducible first|exact HB.out|apply below_alloc|apply pw_below_drewN|apply below_drew1|refine below_set ?_ GE398.out|refine below_set ?_ GE399.out)|exact HB.out)⟩⟩
                   ·rw [if_neg c70] at H
                    exact absurd H (by simp)
                  ·rw [if_neg c69] at H
                   have c69b0:decide ((rd l0_1 x7_3) < (rd l1_1 x7_3))=false:=decide_eq_false c69
                   clear c69
                   have H':=Aside0.mk H
                   clear H
                   have hnb75:=NB399_398.out
                   have hnc75:=NB398_399.out
                   have hcz76_0:wc.cell? ⟨gb399,0,none⟩=some (.slice A1_0 l1_0.length c1_0):=(blk_cell BK399.out 0).trans rfl
                   have hcz76_1:wc.cell? ⟨gb399,1,none⟩=some (.slice A1_1 l1_1.length c1_1):=(blk_cell BK399.out 1).trans rfl
                   have hcz76_2:wc.cell? ⟨gb399,2,none⟩=some (.int .i64 a1_2):=(blk_cell BK399.out 2).trans rfl
                   have hfz76_0:=blk_frozen BK399.out 0
                   have hfz76_1:=blk_frozen BK399.out 1
                   have hfz76_2:=blk_frozen BK399.out 2
                   have p417:0≤(x7_3:Int):=of_decide_eq_true (by first|(with_reducible assumption)|assumption)
                   have q417:x7_3 < (l1_1.length:Int):=of_decide_eq_true (by first|(with_reducible assumption)|assumption)
                   obtain ⟨ad417,e417,hx417_0⟩:=Kd.at_int HR1_1.out x7_3 p417 q417
                   cases e417
                   replace hx417_0:=(HB.out.cell (World.block_lt_of_cell? w _ hx417_0)).trans hx417_0
                   replace p417:=eq_true p417
                   replace q417:=eq_true q417
                   have hcz77_0:wc.cell? ⟨gb398,0,none⟩=some (.slice A0_0 l0_0.length c0_0):=(blk_cell BK398.out 0).trans rfl
                   have hcz77_1:wc.cell? ⟨gb398,1,none⟩=some (.slice A0_1 l0_1.length c0_1):=(blk_cell BK398.out 1).trans rfl
                   have hcz77_2:wc.cell? ⟨gb398,2,none⟩=some (.int .i64 a0_2):=(blk_cell BK398.out 2).trans rfl
                   have hfz77_0:=blk_frozen BK398.out 0
                   have hfz77_1:=blk_frozen BK398.out 1
                   have hfz77_2:=blk_frozen BK398.out 2
                   have p418:0≤(x7_3:Int):=of_decide_eq_true (by first|(with_reducible assumption)|assumption)
                   have q418:x7_3 < (l0_1.length:Int):=of_decide_eq_true (by first|(with_reducible assumption)|assumption)
                   obtain ⟨ad418,e418,hx418_0⟩:=Kd.at_int HR0_1.out x7_3 p418 q418
                   cases e418
                   replace hx418_0:=(HB.out.cell (World.block_lt_of_cell? w _ hx418_0)).trans hx418_0
                   replace p418:=eq_true p418
                   replace q418:=eq_true q418
                   go_wp2
                   repeat (go_quiet (fail);try go_wp2)
                   go_roundg kj38
                   case measure=>have:=HJ2.out;have:=HJ19.out;have:=HK3.out;have:=HJ31.out;have:=HJ38.out;omega
                   case rel=>exact ⟨(x6_3),(wrap64 (x7_3 + 1)),(by first|rfl|(simp;done)|(simp [*];done)),H',⟨by have:=HJ2.out;have:=HJ19.out;have:=HK3.out;have:=HJ31.out;have:=HJ38.out;omega⟩,⟨by (with_reducible repeat (first|apply Kd.R_alloc|apply Kd.R_drewN|apply Kd.R_drew));exact HO_6.out⟩,⟨by (with_reducible repeat (first|refine blk_drewN ?_ _|refine blk_drew ?_|refine blk_alloc ?_ _));exact BK398.out⟩,⟨by (with_reducible repeat (first|refine blk_drewN ?_ _|refine blk_drew ?_|refine blk_alloc ?_ _));exact BK399.out⟩,⟨by repeat (first|(with_reducible first|exact HB.out|apply below_alloc|apply pw_below_drewN|apply below_drew1|refine below_set ?_ GE398.out|refine below_set ?_ GE399.out)|exact HB.out)⟩⟩
                 ·rw [if_neg c68] at H
                  exact absurd H (by simp)
                ·rw [if_neg c67] at H
                 exact absurd H (by simp)
               ·rw [if_neg c66] at H
                exact absurd H (by simp)
           ·replace c38:=Bool.eq_false_iff.mpr c38
            subst c38
            have H1:(some (x6_3,0))=some (r1,r2):=by rw [if_neg (show ¬ (false=true) by decide)] at H;exact H
            clear H
            have H:=H1
            clear H1
            simp only [Option.some.injEq,Prod.mk.injEq] at H
            obtain ⟨rfl,rfl⟩:=H
            go_wp2
            repeat (go_quiet (fail);try go_wp2)
            go_ret2
            exact ⟨_,by first|rfl|(simp [errW_none,errW_some] <;> rfl)|(simp [*,errW_none,errW_some] <;> rfl),by (with_reducible repeat (first|apply Kd.R_alloc|apply Kd.R_drewN|apply Kd.R_drew));exact HO_6.out,by repeat (first|(with_reducible first|exact HB.out|apply below_alloc|apply pw_below_drewN|apply below_drew1|refine below_set ?_ GE398.out|refine below_set ?_ GE399.out)|exact HB.out)⟩
    ·replace c19:=Bool.eq_false_iff.mpr c19
     subst c19
     have H1:(some (([]:List (S55)),1))=some (r1,r2):=by rw [if_neg (show ¬ (false=true) by decide)] at H;exact H
     clear H
     have H:=H1
     clear H1
     simp only [Option.some.injEq,Prod.mk.injEq] at H
     obtain ⟨rfl,rfl⟩:=H
     have hnb78:=NB399_398.out
     have hnc78:=NB398_399.out
     have hcz79_0:wc.cell? ⟨gb399,0,none⟩=some (.slice A1_0 l1_0.length c1_0):=(blk_cell BK399.out 0).trans rfl
     have hcz79_1:wc.cell? ⟨gb399,1,none⟩=some (.slice A1_1 l1_1.length c1_1):=(blk_cell BK399.out 1).trans rfl
     have hcz79_2:wc.cell? ⟨gb399,2,none⟩=some (.int .i64 a1_2):=(blk_cell BK399.out 2).trans rfl
     have hfz79_0:=blk_frozen BK399.out 0
     have hfz79_1:=blk_frozen BK399.out 1
     have hfz79_2:=blk_frozen BK399.out 2
     have hcz80_0:wc.cell? ⟨gb398,0,none⟩=some (.slice A0_0 l0_0.length c0_0):=(blk_cell BK398.out 0).trans rfl
     have hcz80_1:wc.cell? ⟨gb398,1,none⟩=some (.slice A0_1 l0_1.length c0_1):=(blk_cell BK398.out 1).trans rfl
     have hcz80_2:wc.cell? ⟨gb398,2,none⟩=some (.int .i64 a0_2):=(blk_cell BK398.out 2).trans rfl
     have hfz80_0:=blk_frozen BK398.out 0
     have hfz80_1:=blk_frozen BK398.out 1
     have hfz80_2:=blk_frozen BK398.out 2
     go_wp2_with (first|(go_at_call 20;(with_reducible refine (slipwayref06_Covers.calls kj2 _ _ l1_0 _ _ l1_1 a1_2 _ _ l0_0 _ _ l0_1 a0_2 false _ ?side1 ?side2 ?side3 ?side4 ?side5 ?side6 ?side7 ?side8 A18.out).mono ?_);(case side1=>repeat (first|exact (Kd.C_below HR1_0.out HB.out)|(with_reducible refine Kd.C_alloc ?_ _)|(with_reducible refine Kd.C_drewN ?_ _)|(with_reducible refine Kd.C_drew ?_)));(case side2=>exact HC1_0.out);(case side3=>repeat (first|exact (Kd.C_below HR1_1.out HB.out)|(with_reducible refine Kd.C_alloc ?_ _)|(with_reducible refine Kd.C_drewN ?_ _)|(with_reducible refine Kd.C_drew ?_)));(case side4=>exact HC1_1.out);(case side5=>repeat (first|exact (Kd.C_below HR0_0.out HB.out)|(with_reducible refine Kd.C_alloc ?_ _)|(with_reducible refine Kd.C_drewN ?_ _)|(with_reducible refine Kd.C_drew ?_)));(case side6=>exact HC0_0.out);(case side7=>repeat (first|exact (Kd.C_below HR0_1.out HB.out)|(with_reducible refine Kd.C_alloc ?_ _)|(with_reducible refine Kd.C_drewN ?_ _)|(with_reducible refine Kd.C_drew ?_)));(case side8=>exact HC0_1.out);rintro e w81 ⟨rfl,hb⟩;have n0_:=Aside0.mk (blk_below (g:=gb398) (o:=.cells #[.slice A0_0 l0_0.length c0_0,.slice A0_1 l0_1.length c0_1,.int .i64 a0_2] 25 (0,0)) (by (with_reducible repeat (first|refine blk_drewN ?_ _|refine blk_drew ?_|refine blk_alloc ?_ _));exact BK398.out) hb);have n1_:=Aside0.mk (blk_below (g:=gb399) (o:=.cells #[.slice A1_0 l1_0.length c1_0,.slice A1_1 l1_1.length c1_1,.int .i64 a1_2] 25 (0,0)) (by (with_reducible repeat (first|refine blk_drewN ?_ _|refine blk_drew ?_|refine blk_alloc ?_ _));exact BK399.out) hb);have n2_:=Aside0.mk (below_step (by repeat (first|(with_reducible first|exact HB.out|apply below_alloc|apply pw_below_drewN|apply below_drew1|refine below_set ?_ GE398.out|refine below_set ?_ GE399.out)|exact HB.out)) hb);clear BK398 BK399 HB;have BK398:=n0_;have BK399:=n1_;have HB:=n2_;clear n0_ n1_ n2_;(try clear hb);(try clear hb2);(try clear hk);(try clear hi)))
     repeat (go_quiet (first|(go_at_call 20;(with_reducible refine (slipwayref06_Covers.calls kj2 _ _ l1_0 _ _ l1_1 a1_2 _ _ l0_0 _ _ l0_1 a0_2 false _ ?side1 ?side2 ?side3 ?side4 ?side5 ?side6 ?side7 ?side8 A18.out).mono ?_);(case side1=>repeat (first|exact (Kd.C_below HR1_0.out HB.out)|(with_reducible refine Kd.C_alloc ?_ _)|(with_reducible refine Kd.C_drewN ?_ _)|(with_reducible refine Kd.C_drew ?_)));(case side2=>exact HC1_0.out);(case side3=>repeat (first|exact (Kd.C_below HR1_1.out HB.out)|(with_reducible refine Kd.C_alloc ?_ _)|(with_reducible refine Kd.C_drewN ?_ _)|(with_reducible refine Kd.C_drew ?_)));(case side4=>exact HC1_1.out);(case side5=>repeat (first|exact (Kd.C_below HR0_0.out HB.out)|(with_reducible refine Kd.C_alloc ?_ _)|(with_reducible refine Kd.C_drewN ?_ _)|(with_reducible refine Kd.C_drew ?_)));(case side6=>exact HC0_0.out);(case side7=>repeat (first|exact (Kd.C_below HR0_1.out HB.out)|(with_reducible refine Kd.C_alloc ?_ _)|(with_reducible refine Kd.C_drewN ?_ _)|(with_reducible refine Kd.C_drew ?_)));(case side8=>exact HC0_1.out);rintro e w81 ⟨rfl,hb⟩;have n0_:=Aside0.mk (blk_below (g:=gb398) (o:=.cells #[.slice A0_0 l0_0.length c0_0,.slice A0_1 l0_1.length c0_1,.int .i64 a0_2] 25 (0,0)) (by (with_reducible repeat (first|refine blk_drewN ?_ _|refine blk_drew ?_|refine blk_alloc ?_ _));exact BK398.out) hb);have n1_:=Aside0.mk (blk_below (g:=gb399) (o:=.cells #[.slice A1_0 l1_0.length c1_0,.slice A1_1 l1_1.length c1_1,.int .i64 a1_2] 25 (0,0)) (by (with_reducible repeat (first|refine blk_drewN ?_ _|refine blk_drew ?_|refine blk_alloc ?_ _));exact BK399.out) hb);have n2_:=Aside0.mk (below_step (by repeat (first|(with_reducible first|exact HB.out|apply below_alloc|apply pw_below_drewN|apply below_drew1|refine below_set ?_ GE398.out|refine below_set ?_ GE399.out)|exact HB.out)) hb);clear BK398 BK399 HB;have BK398:=n0_;have BK399:=n1_;have HB:=n2_;clear n0_ n1_ n2_;(try clear hb);(try clear hb2);(try clear hk);(try clear hi)));try go_wp2_with (first|(go_at_call 20;(with_reducible refine (slipwayref06_Covers.calls kj2 _ _ l1_0 _ _ l1_1 a1_2 _ _ l0_0 _ _ l0_1 a0_2 false _ ?side1 ?side2 ?side3 ?side4 ?side5 ?side6 ?side7 ?side8 A18.out).mono ?_);(case side1=>repeat (first|exact (Kd.C_below HR1_0.out HB.out)|(with_reducible refine Kd.C_alloc ?_ _)|(with_reducible refine Kd.C_drewN ?_ _)|(with_reducible refine Kd.C_drew ?_)));(case side2=>exact HC1_0.out);(case side3=>repeat (first|exact (Kd.C_below HR1_1.out HB.out)|(with_reducible refine Kd.C_alloc ?_ _)|(with_reducible refine Kd.C_drewN ?_ _)|(with_reducible refine Kd.C_drew ?_)));(case side4=>exact HC1_1.out);(case side5=>repeat (first|exact (Kd.C_below HR0_0.out HB.out)|(with_reducible refine Kd.C_alloc ?_ _)|(with_reducible refine Kd.C_drewN ?_ _)|(with_reducible refine Kd.C_drew ?_)));(case side6=>exact HC0_0.out);(case side7=>repeat (first|exact (Kd.C_below HR0_1.out HB.out)|(with_reducible refine Kd.C_alloc ?_ _)|(with_reducible refine Kd.C_drewN ?_ _)|(with_reducible refine Kd.C_drew ?_)));(case side8=>exact HC0_1.out);rintro e w81 ⟨rfl,hb⟩;have n0_:=Aside0.mk (blk_below (g:=gb398) (o:=.cells #[.slice A0_0 l0_0.length c0_0,.slice A0_1 l0_1.length c0_1,.int .i64 a0_2] 25 (0,0)) (by (with_reducible repeat (first|refine blk_drewN ?_ _|refine blk_drew ?_|refine blk_alloc ?_ _));exact BK398.out) hb);have n1_:=Aside0.mk (blk_below (g:=gb399) (o:=.cells #[.slice A1_0 l1_0.length c1_0,.slice A1_1 l1_1.length c1_1,.int .i64 a1_2] 25 (0,0)) (by (with_reducible repeat (first|refine blk_drewN ?_ _|refine blk_drew ?_|refine blk_alloc ?_ _));exact BK399.out) hb);have n2_:=Aside0.mk (below_step (by repeat (first|(with_reducible first|exact HB.out|apply below_alloc|apply pw_below_drewN|apply below_drew1|refine below_set ?_ GE398.out|refine below_set ?_ GE399.out)|exact HB.out)) hb);clear BK398 BK399 HB;have BK398:=n0_;have BK399:=n1_;have HB:=n2_;clear n0_ n1_ n2_;(try clear hb);(try clear hb2);(try clear hk);(try clear hi))))
     go_ret2
     exact ⟨_,by first|rfl|(simp [errW_none,errW_some] <;> rfl)|(simp [*,errW_none,errW_some] <;> rfl),by first|exact Kd.R_nil _ _ _ _ _|exact Kd.N_nil _ _ _ _ _|exact Kd.V_nil _ _ _ _ _|exact Kd.Q_nil _ _ _ _ _|exact Kd.S_nil _ _ _ _ _,by repeat (first|(with_reducible first|exact HB.out|apply below_alloc|apply pw_below_drewN|apply below_drew1|refine below_set ?_ GE398.out|refine below_set ?_ GE399.out)|exact HB.out)⟩
end Go.Proofs.Ytkhbmgclklmimaa.Print
end
section
namespace Go.Proofs.Ytkhbmgclklmimaa.Print
open Go.RowKit Go.Proofs.YtkhbmgclklmimaaW.PrintWords Go.Proofs.YtkhbmgclklmimaaW.PrintLast Go.Proofs.YtkhbmgclklmimaaW.PrintMore
attribute [local go_sem] max2_int min2_int max_two min_two max_three min_three max_four min_four   -- for this text's walks alone
attribute [local go_sem ↓] Go.Proofs.Ytkhbmgclklmimaa.Sem.isSome_setCell
attribute [local go_sem] Go.Instr.field Go.asAgg
set_option linter.unusedVariables false
set_option linter.unusedSimpArgs false
attribute [local go_sem high] eqA55
def slipwayref06_SameRecords.l0:Nat → List (S55) → List (S55) → Int → Option (Bool)
 | 0,_,_,_=>none
 | k + 1,x0,x1,x5=>if x5 < (x0.length:Int) then (if 0≤x5 then (if x5 < (x1.length:Int) then (if (!(((rd_T55 x0 x5).f0) == ((rd_T55 x1 x5).f0)) || (!(((rd_T55 x0 x5).f1) == ((rd_T55 x1 x5).f1)) || (!(((rd_T55 x0 x5).f2) == ((rd_T55 x1 x5).f2)))))=true then (some false) else (slipwayref06_SameRecords.l0 k x0 x1 (wrap64 (x5 + 1)))) else (none)) else (none)) else (some true)
def slipwayref06_SameRecords.f (k:Nat) (l0:List (S55)) (l1:List (S55)):Option (Bool):=if (l0.length:Int)=(l1.length:Int) then (slipwayref06_SameRecords.l0 k l0 l1 0) else (some false)
set_option maxHeartbeats 8000000 in
set_option maxRecDepth 100000 in
theorem slipwayref06_SameRecords.calls (k:Nat) (A0:Option Addr) (c0:Nat) (l0:List (S55)) (A1:Option Addr) (c1:Nat) (l1:List (S55)) (r:Bool) (w:World) (hr0:Kd.C k55 w A0 l0.length l0) (hc0:l0.length≤c0) (hr1:Kd.C k55 w A1 l1.length l1) (hc1:l1.length≤c1) (h:slipwayref06_SameRecords.f k l0 l1=some r) :
  Calls Try.prog 26 #[.slice A0 l0.length c0,.slice A1 l1.length c1] w fun e w'=>e=.returned (.bool r)∧Drawn0 w w':=by
 have hu55:=Try.underlying55
 have HR0:=Aside0.mk hr0
 have HC0:=Aside0.mk hc0
 clear hr0 hc0
 have HR1:=Aside0.mk hr1
 have HC1:=Aside0.mk hc1
 clear hr1 hc1
 have H:(if (l0.length:Int)=(l1.length:Int) then (slipwayref06_SameRecords.l0 k l0 l1 0) else (some false))=some r:=h
 clear h
 by_cases c3:(l0.length:Int)=(l1.length:Int)
 ·rw [if_pos c3] at H
  have c3b0:((l0.length:Int) == (l1.length:Int))=true:=beq_iff_eq.mpr c3
  have c3b1:((l0.length:Int) != (l1.length:Int))=false:=bne_eq_false_iff_eq.mpr c3
  have c3b2:(l0.length == l1.length)=true:=by first|simpa using c3|(simp at c3 ⊢;omega)
  clear c3
  have H':=Aside0.mk H
  clear H
  go_enter Try.func26,Try.ntmps26
  go_wp2
  repeat (go_quiet (fail);try go_wp2)
  go_loopg [5] k (fun kq v5 w'=>∃ (x5_1:Int),v5=.int .i64 x5_1∧Aside0 (slipwayref06_SameRecords.l0 kq l0 l1 x5_1=some r)∧Aside0 (kq≤k)∧Drawn0 w w')
  case atStart=>exact ⟨(0),(by first|rfl|(simp;done)|(simp [*];done)),H',⟨Nat.le_refl _⟩,by repeat (first|exact Drawn0.refl _|apply Drawn0.step)⟩
  case round =>
   clear H'
   try clear c1
   try clear c2
   try clear p2
   try clear c3
   try clear c3b0
   try clear c3b1
   try clear c3b2
   obtain ⟨x5_1,rfl,HA,HK1,⟨m1,rfl⟩⟩:=hrel
   cases gk with
   | zero=>exact absurd HA.out (by simp [slipwayref06_SameRecords.l0])
   | succ k1 =>
    have H:=HA.out
    clear HA
    simp only [slipwayref06_SameRecords.l0] at H
    by_cases c4:x5_1 < (l0.length:Int)
    ·rw [if_pos c4] at H
     have c4b0:decide (x5_1 < (l0.length:Int))=true:=decide_eq_true c4
     clear c4
     by_cases c5:0≤x5_1
     ·rw [if_pos c5] at H
      have c5b0:decide (0≤x5_1)=true:=decide_eq_true c5
      clear c5
      by_cases c6:x5_1 < (l1.length:Int)
      ·rw [if_pos c6] at H
       have c6b0:decide (x5_1 < (l1.length:Int))=true:=decide_eq_true c6
       clear c6
       by_cases c7:(!(((rd_T55 l0 x5_1).f0) == ((rd_T55 l1 x5_1).f0)) || (!(((rd_T55 l0 x5_1).f1) == ((rd_T55 l1 x5_1).f1)) || (!(((rd_T55 l0 x5_1).f2) == ((rd_T55 l1 x5_1).f2)))))=true
       ·rw [if_pos c7] at H
        have c7b0:(!(((rd_T55 l0 x5_1).f0) == ((rd_T55 l1 x5_1).f0)) || (!(((rd_T55 l0 x5_1).f1) == ((rd_T55 l1 x5_1).f1)) || (!(((rd_T55 l0 x5_1).f2) == ((rd_T55 l1 x5_1).f2)))))=true:=c7
        clear c7
        obtain rfl:=Option.some.inj H
        have p423:0≤(x5_1:Int):=of_decide_eq_true (by first|(with_reducible assumption)|assumption)
        have q423:x5_1 < (l0.length:Int):=of_decide_eq_true (by first|(with_reducible assumption)|assumption)
        obtain ⟨ad423,e423,hx423_0,hx423_1,hx423_2⟩:=at_T55 HR0.out x5_1 p423 q423
        cases e423
        replace p423:=eq_true p423
        replace q423:=eq_true q423
        have p424:0≤(x5_1:Int):=of_decide_eq_true (by first|(with_reducible assumption)|assumption)
        have q424:x5_1 < (l1.length:Int):=of_decide_eq_true (by first|(with_reducible assumption)|assumption)
        obtain ⟨ad424,e424,hx424_0,hx424_1,hx424_2⟩:=at_T55 HR1.out x5_1 p424 q424
        cases e424
        replace p424:=eq_true p424
        replace q424:=eq_true q424
        go_wp2
        repeat (go_quiet (fail);try go_wp2)
        go_ret
        exact ⟨by first|rfl|(simp;done)|(simp [*];done),by repeat (first|exact Drawn0.refl _|apply Drawn0.step)⟩
       ·rw [if_neg c7] at H
        have c7b0:(!(((rd_T55 l0 x5_1).f0) == ((rd_T55 l1 x5_1).f0)) || (!(((rd_T55 l0 x5_1).f1) == ((rd_T55 l1 x5_1).f1)) || (!(((rd_T55 l0 x5_1).f2) == ((rd_T55 l1 x5_1).f2)))))=false:=by simpa using c7
        clear c7
        have H':=Aside0.mk H
        clear H
        have p423:0≤(x5_1:Int):=of_decide_eq_true (by first|(with_reducible assumption)|assumption)
        have q423:x5_1 < (l0.length:Int):=of_decide_eq_true (by first|(with_reducible assumption)|assumption)
        obtain ⟨ad423,e423,hx423_0,hx423_1,hx423_2⟩:=at_T55 HR0.out x5_1 p423 q423
        cases e423
        replace p423:=eq_true p423
        replace q423:=eq_true q423
        have p424:0≤(x5_1:Int):=of_decide_eq_true (by first|(with_reducible assumption)|assumption)
        have q424:x5_1 < (l1.length:Int):=of_decide_eq_true (by first|(with_reducible assumption)|assumption)
        obtain ⟨ad424,e424,hx424_0,hx424_1,hx424_2⟩:=at_T55 HR1.out x5_1 p424 q424
        cases e424
        replace p424:=eq_true p424
        replace q424:=eq_true q424
        go_wp2
        repeat (go_quiet (fail);try go_wp2)
        go_roundg k1
        case measure=>have:=HK1.out;omega
        case rel=>exact ⟨(wrap64 (x5_1 + 1)),(by first|rfl|(simp;done)|(simp [*];done)),H',⟨by have:=HK1.out;omega⟩,by repeat (first|exact Drawn0.refl _|apply Drawn0.step)⟩
      ·rw [if_neg c6] at H
       exact absurd H (by simp)
     ·rw [if_neg c5] at H
      exact absurd H (by simp)
    ·rw [if_neg c4] at H
     have c4b0:decide (x5_1 < (l0.length:Int))=false:=decide_eq_false c4
     clear c4
     obtain rfl:=Option.some.inj H
     go_wp2
     repeat (go_quiet (fail);try go_wp2)
     go_ret
     exact ⟨by first|rfl|(simp;done)|(simp [*];done),by repeat (first|exact Drawn0.refl _|apply Drawn0.step)⟩
 ·rw [if_neg c3] at H
  have c3b0:((l0.length:Int) == (l1.length:Int))=false:=beq_eq_false_iff_ne.mpr c3
  have c3b1:((l0.length:Int) != (l1.length:Int))=true:=bne_iff_ne.mpr c3
  have c3b2:(l0.length == l1.length)=false:=by first|simpa using c3|(simp at c3 ⊢;omega)
  obtain rfl:=Option.some.inj H
  go_enter Try.func26,Try.ntmps26
  go_wp2
  repeat (go_quiet (fail);try go_wp2)
  go_ret
  exact ⟨by first|rfl|(simp;done)|(simp [*];done),by repeat (first|exact Drawn0.refl _|apply Drawn0.step)⟩
def slipwaylaw06_MapChanges.f (k:Nat) (l0_0:List Bool) (l0_1:List Int) (a0_2:Int) (l1_0:List Bool) (l1_1:List Int) (a1_2:Int) (l2:List (S55)):Option (Bool):=(mapjnl_Apply.f k l0_0 l0_1 a0_2 l2).bind fun bt427=>((slipwayref06_Apply.f k l0_0 l0_1 a0_2 l2).bind fun bt436=>((mapjnl_Diff.f k l0_0 l0_1 a0_2 l1_0 l1_1 a1_2).bind fun bt445=>((slipwayref06_Diff.f k l0_0 l0_1 a0_2 l1_0 l1_1 a1_2).bind fun bt449=>((slipwaylaw06_begun.f k).bind fun t453=>(if t453=true then ((slipwayref06_Same.f k bt427.1 bt427.2.1 bt427.2.2.1 bt436.1 bt436.2.1 bt436.2.2.1).bind fun t454=>(if t454=true then (if bt427.2.2.2=bt436.2.2.2 then ((slipwayref06_SameRecords.f k bt445.1 bt449.1).bind fun t455=>(if t455=true then (some (bt445.2 == bt449.2)) else (none))) else (none)) else (none))) else (none))))))
set_option maxHeartbeats 8000000 in
set_option maxRecDepth 100000 in
theorem slipwaylaw06_MapChanges.calls (k:Nat) (A0_0:Option Addr) (c0_0:Nat) (l0_0:List Bool) (A0_1:Option Addr) (c0_1:Nat) (l0_1:List Int) (a0_2:Int) (A1_0:Option Addr) (c1_0:Nat) (l1_0:List Bool) (A1_1:Option Addr) (c1_1:Nat) (l1_1:List Int) (a1_2:Int) (A2:Option Addr) (c2:Nat) (l2:List (S55)) (r:Bool) (w:World) (hr0_0:Kd.C Kd.bool w A0_0 l0_0.length l0_0) (hc0_0:l0_0.length≤c0_0) (hr0_1:Kd.C (Kd.int .i64) w A0_1 l0_1.length l0_1) (hc0_1:l0_1.length≤c0_1) (hr1_0:Kd.C Kd.bool w A1_0 l1_0.length l1_0) (hc1_0:l1_0.length≤c1_0) (hr1_1:Kd.C (Kd.int .i64) w A1_1 l1_1.length l1_1) (hc1_1:l1_1.length≤c1_1) (hr2:Kd.C k55 w A2 l2.length l2) (hc2:l2.length≤c2) (h:slipwaylaw06_MapChanges.f k l0_0 l0_1 a0_2 l1_0 l1_1 a1_2 l2=some r) :
  Calls Try.prog 4 #[.agg #[.slice A0_0 l0_0.length c0_0,.slice A0_1 l0_1.length c0_1,.int .i64 a0_2],.agg #[.slice A1_0 l1_0.length c1_0,.slice A1_1 l1_1.length c1_1,.int .i64 a1_2],.slice A2 l2.length c2] w fun e w'=>e=.returned (.bool r)∧Below w.heap.size w w':=by
 have hu25:=Try.underlying25
 have HR0_0:=Aside0.mk hr0_0
 have HC0_0:=Aside0.mk hc0_0
 clear hr0_0 hc0_0
 have HR0_1:=Aside0.mk hr0_1
 have HC0_1:=Aside0.mk hc0_1
 clear hr0_1 hc0_1
 have HR1_0:=Aside0.mk hr1_0
 have HC1_0:=Aside0.mk hc1_0
 clear hr1_0 hc1_0
 have HR1_1:=Aside0.mk hr1_1
 have HC1_1:=Aside0.mk hc1_1
 clear hr1_1 hc1_1
 have HR2:=Aside0.mk hr2
 have HC2:=Aside0.mk hc2
 clear hr2 hc2
 have HB:=Aside0.mk (Below.refl w.heap.size w)
 have H:((mapjnl_Apply.f k l0_0 l0_1 a0_2 l2).bind fun bt427=>((slipwayref06_Apply.f k l0_0 l0_1 a0_2 l2).bind fun bt436=>((mapjnl_Diff.f k l0_0 l0_1 a0_2 l1_0 l1_1 a1_2).bind fun bt445=>((slipwayref06_Diff.f k l0_0 l0_1 a0_2 l1_0 l1_1 a1_2).bind fun bt449=>((slipwaylaw06_begun.f k).bind fun t453=>(if t453=true then ((slipwayref06_Same.f k bt427.1 bt427.2.1 bt427.2.2.1 bt436.1 bt436.2.1 bt436.2.2.1).bind fun t454=>(if t454=true then (if bt427.2.2.2=bt436.2.2.2 then ((slipwayref06_SameRecords.f k bt445.1 bt449.1).bind fun t455=>(if t455=true then (some (bt445.2 == bt449.2)) else (none))) else (none)) else (none))) else (none)))))))=some r:=h
 clear h
 replace H:=Option.bind_eq_some_iff.mp H
 obtain ⟨⟨t427,t430,t433,t434⟩,A40,H⟩:=H
 replace H:((slipwayref06_Apply.f k l0_0 l0_1 a0_2 l2).bind fun bt436=>((mapjnl_Diff.f k l0_0 l0_1 a0_2 l1_0 l1_1 a1_2).bind fun bt445=>((slipwayref06_Diff.f k l0_0 l0_1 a0_2 l1_0 l1_1 a1_2).bind fun bt449=>((slipwaylaw06_begun.f k).bind fun t453=>(if t453=true then ((slipwayref06_Same.f k t427 t430 t433 bt436.1 bt436.2.1 bt436.2.2.1).bind fun t454=>(if t454=true then (if t434=bt436.2.2.2 then ((slipwayref06_SameRecords.f k bt445.1 bt449.1).bind fun t455=>(if t455=true then (some (bt445.2 == bt449.2)) else (none))) else (none)) else (none))) else (none))))))=some r:=H
 have A4:=Aside0.mk A40
 clear A40
 replace H:=Option.bind_eq_some_iff.mp H
 obtain ⟨⟨t436,t439,t442,t443⟩,A50,H⟩:=H
 replace H:((mapjnl_Diff.f k l0_0 l0_1 a0_2 l1_0 l1_1 a1_2).bind fun bt445=>((slipwayref06_Diff.f k l0_0 l0_1 a0_2 l1_0 l1_1 a1_2).bind fun bt449=>((slipwaylaw06_begun.f k).bind fun t453=>(if t453=true then ((slipwayref06_Same.f k t427 t430 t433 t436 t439 t442).bind fun t454=>(if t454=true then (if t434=t443 then ((slipwayref06_SameRecords.f k bt445.1 bt449.1).bind fun t455=>(if t455=true then (some (bt445.2 == bt449.2)) else (none))) else (none)) else (none))) else (none)))))=some r:=H
 have A5:=Aside0.mk A50
 clear A50
 replace H:=Option.bind_eq_some_iff.mp H
 obtain ⟨⟨t445,t448⟩,A60,H⟩:=H
 replace H:((slipwayref06_Diff.f k l0_0 l0_1 a0_2 l1_0 l1_1 a1_2).bind fun bt449=>((slipwaylaw06_begun.f k).bind fun t453=>(if t453=true then ((slipwayref06_Same.f k t427 t430 t433 t436 t439 t442).bind fun t454=>(if t454=true then (if t434=t443 then ((slipwayref06_SameRecords.f k t445 bt449.1).bind fun t455=>(if t455=true then (some (t448 == bt449.2)) else (none))) else (none)) else (none))) else (none))))=some r:=H
 have A6:=Aside0.mk A60
 clear A60
 replace H:=Option.bind_eq_some_iff.mp H
 obtain ⟨⟨t449,t452⟩,A70,H⟩:=H
 replace H:((slipwaylaw06_begun.f k).bind fun t453=>(if t453=true then ((slipwayref06_Same.f k t427 t430 t433 t436 t439 t442).bind fun t454=>(if t454=true then (if t434=t443 then ((slipwayref06_SameRecords.f k t445 t449).bind fun t455=>(if t455=true then (some (t448 == t452)) else (none))) else (none)) else (none))) else (none)))=some r:=H
 have A7:=Aside0.mk A70
 clear A70
 replace H:=Option.bind_eq_some_iff.mp H
 obtain ⟨t453,A80,H⟩:=H
 replace H:(if t453=true then ((slipwayref06_Same.f k t427 t430 t433 t436 t439 t442).bind fun t454=>(if t454=true then (if t434=t443 then ((slipwayref06_SameRecords.f k t445 t449).bind fun t455=>(if t455=true then (some (t448 == t452)) else (none))) else (none)) else (none))) else (none))=some r:=H
 have A8:=Aside0.mk A80
 clear A80
 by_cases c9:t453=true
 ·subst c9
  have H1:((slipwayref06_Same.f k t427 t430 t433 t436 t439 t442).bind fun t454=>(if t454=true then (if t434=t443 then ((slipwayref06_SameRecords.f k t445 t449).bind fun t455=>(if t455=true then (some (t448 == t452)) else (none))) else (none)) else (none)))=some r:=by rw [if_pos rfl] at H;exact H
  clear H
  have H:=H1
  clear H1
  replace H:=Option.bind_eq_some_iff.mp H
  obtain ⟨t454,A100,H⟩:=H
  replace H:(if t454=true then (if t434=t443 then ((slipwayref06_SameRecords.f k t445 t449).bind fun t455=>(if t455=true then (some (t448 == t452)) else (none))) else (none)) else (none))=some r:=H
  have A10:=Aside0.mk A100
  clear A100
  by_cases c11:t454=true
  ·subst c11
   have H1:(if t434=t443 then ((slipwayref06_SameRecords.f k t445 t449).bind fun t455=>(if t455=true then (some (t448 == t452)) else (none))) else (none))=some r:=by rw [if_pos rfl] at H;exact H
   clear H
   have H:=H1
   clear H1
   by_cases c12:t434=t443
   ·rw [if_pos c12] at H
    have c12b0:(t434 == t443)=true:=beq_iff_eq.mpr c12
    have c12b1:(t434 != t443)=false:=bne_eq_false_iff_eq.mpr c12
    clear c12
    replace H:=Option.bind_eq_some_iff.mp H
    obtain ⟨t455,A130,H⟩:=H
    replace H:(if t455=true then (some (t448 == t452)) else (none))=some r:=H
    have A13:=Aside0.mk A130
    clear A130
    by_cases c14:t455=true
    ·subst c14
     have H1:(some (t448 == t452))=some r:=by rw [if_pos rfl] at H;exact H
     clear H
     have H:=H1
     clear H1
     obtain rfl:=Option.some.inj H
     go_enter Try.func4,Try.ntmps4
     go_wp2_with (first|((with_reducible refine gate_dst (N:=3) rfl ?_);refine box_event ?hg (N:=3) ?hd (cs:=#[.slice A0_0 l0_0.length c0_0,.slice A0_1 l0_1.length c0_1,.int .i64 a0_2]) (t:=25) ?hr ?_;(case hd=>rfl);(case hg=>rfl);(case hr=>first|(go_simp;done)|(go_simp;rfl));intro gb425 hg w15 hbox hb;have n0_:=Aside0.mk (below_step (by repeat (first|(with_reducible first|exact HB.out|apply below_alloc|apply pw_below_drewN|apply below_drew1)|exact HB.out)) hb);have n1_:=Aside0.mk (hbox);have n2_:=Aside0.mk ((by rw [hg];exact (below_size (by repeat (first|(with_reducible first|exact HB.out|apply below_alloc|apply pw_below_drewN|apply below_drew1)|exact HB.out))):w.heap.size≤gb425));have n3_:=Aside0.mk ((by rw [hg];exact (below_size (by repeat (first|(with_reducible first|exact HB.out|apply below_alloc|apply pw_below_drewN|apply below_drew1)|exact HB.out))):w.heap.size≤gb425));clear HB;have HB:=n0_;have BK425:=n1_;have GW425:=n2_;have GE425:=n3_;clear n0_ n1_ n2_ n3_;clear hb hbox hg)|((with_reducible refine gate_dst (N:=4) rfl ?_);refine box_event ?hg (N:=4) ?hd (cs:=#[.slice A1_0 l1_0.length c1_0,.slice A1_1 l1_1.length c1_1,.int .i64 a1_2]) (t:=25) ?hr ?_;(case hd=>rfl);(case hg=>rfl);(case hr=>first|(go_simp;done)|(go_simp;rfl));intro gb426 hg w16 hbox hb;have n0_:=Aside0.mk (blk_below (g:=gb425) (o:=.cells #[.slice A0_0 l0_0.length c0_0,.slice A0_1 l0_1.length c0_1,.int .i64 a0_2] 25 (0,0)) (by (with_reducible repeat (first|refine blk_drewN ?_ _|refine blk_drew ?_|refine blk_alloc ?_ _));exact BK425.out) hb);have n1_:=Aside0.mk (below_step (by repeat (first|(with_reducible first|exact HB.out|apply below_alloc|apply pw_below_drewN|apply below_drew1|refine below_set ?_ GE425.out)|exact HB.out)) hb);have n2_:=Aside0.mk (hbox);have n3_:=Aside0.mk ((by rw [hg];exact (below_size (by repeat (first|(with_reducible first|exact HB.out|apply below_alloc|apply pw_below_drewN|apply below_drew1|refine below_set ?_ GE425.out)|exact HB.out))):w.heap.size≤gb426));have n4_:=Aside0.mk ((by rw [hg];exact (below_size (by repeat (first|(with_reducible first|exact HB.out|apply below_alloc|apply pw_below_drewN|apply below_drew1|refine below_set ?_ GE425.out)|exact HB.out))):w.heap.size≤gb426));have n5_:=Aside0.mk ((by rw [hg];exact Nat.ne_of_lt (blk_lt (g:=gb425) (o:=.cells #[.slice A0_0 l0_0.length c0_0,.slice A0_1 l0_1.length c0_1,.int .i64 a0_2] 25 (0,0)) (by (with_reducible repeat (first|refine blk_drewN ?_ _|refine blk_drew ?_|refine blk_alloc ?_ _));exact BK425.out)):gb425≠gb426));have n6_:=Aside0.mk ((by rw [hg];exact Nat.ne_of_gt (blk_lt (g:=gb425) (o:=.cells #[.slice A0_0 l0_0.length c0_0,.slice A0_1 l0_1.length c0_1,.int .i64 a0_2] 25 (0,0)) (by (with_reducible repeat (first|refine blk_drewN ?_ _|refine blk_drew ?_|refine blk_alloc ?_ _));exact BK425.out)):gb426≠gb425));clear BK425 HB;have BK425:=n0_;have HB:=n1_;have BK426:=n2_;have GW426:=n3_;have GE426:=n4_;have NB425_426:=n5_;have NB426_425:=n6_;clear n0_ n1_ n2_ n3_ n4_ n5_ n6_;clear hb hbox hg;have hnb17:=NB425_426.out;have hnc17:=NB426_425.out;have hcz18_0:w16.cell? ⟨gb425,0,none⟩=some (.slice A0_0 l0_0.length c0_0):=(blk_cell BK425.out 0).trans rfl;have hcz18_1:w16.cell? ⟨gb425,1,none⟩=some (.slice A0_1 l0_1.length c0_1):=(blk_cell BK425.out 1).trans rfl;have hcz18_2:w16.cell? ⟨gb425,2,none⟩=some (.int .i64 a0_2):=(blk_cell BK425.out 2).trans rfl;have hfz18_0:=blk_frozen BK425.out 0;have hfz18_1:=blk_frozen BK425.out 1;have hfz18_2:=blk_frozen BK425.out 2)|((with_reducible refine gate_callee (f:=22) rfl ?_);refine goesL_ (some 18) rfl rfl Try.func22 (by kernel_rfl) rfl #[.agg #[.slice A0_0 l0_0.length c0_0,.slice A0_1 l0_1.length c0_1,.int .i64 a0_2],.slice A2 l2.length c2] rfl (by (try simp only [List.map_toArray,List.map_cons,List.map_nil]);first|done|rfl|(simp only [List.length_drop,List.length_take];rfl)) ?_;(with_reducible refine (mapjnl_Apply.calls k _ _ l0_0 _ _ l0_1 a0_2 _ _ l2 t427 t430 t433 t434 _ ?side1 ?side2 ?side3 ?side4 ?side5 ?side6 A4.out).mono ?_);(case side1=>repeat (first|exact (Kd.C_below HR0_0.out HB.out)|(with_reducible refine Kd.C_alloc ?_ _)|(with_reducible refine Kd.C_drewN ?_ _)|(with_reducible refine Kd.C_drew ?_)));(case side2=>exact HC0_0.out);(case side3=>repeat (first|exact (Kd.C_below HR0_1.out HB.out)|(with_reducible refine Kd.C_alloc ?_ _)|(with_reducible refine Kd.C_drewN ?_ _)|(with_reducible refine Kd.C_drew ?_)));(case side4=>exact HC0_1.out);(case side5=>repeat (first|exact (Kd.C_below HR2.out HB.out)|(with_reducible refine Kd.C_alloc ?_ _)|(with_reducible refine Kd.C_drewN ?_ _)|(with_reducible refine Kd.C_drew ?_)));(case side6=>exact HC2.out);rintro e w19 ⟨v428,v431,rfl,ho0,ho1,hb⟩;refine ⟨_,rfl,?_⟩;have n0_:=Aside0.mk (Kd.R_lower ho0 (below_size (by repeat (first|(with_reducible first|exact HB.out|apply below_alloc|apply pw_below_drewN|apply below_drew1|refine below_set ?_ GE425.out|refine below_set ?_ GE426.out)|exact HB.out))));have n1_:=Aside0.mk (Kd.R_lower ho1 (below_size (by repeat (first|(with_reducible first|exact HB.out|apply below_alloc|apply pw_below_drewN|apply below_drew1|refine below_set ?_ GE425.out|refine below_set ?_ GE426.out)|exact HB.out))));have n2_:=Aside0.mk (blk_below (g:=gb425) (o:=.cells #[.slice A0_0 l0_0.length c0_0,.slice A0_1 l0_1.length c0_1,.int .i64 a0_2] 25 (0,0)) (by (with_reducible repeat (first|refine blk_drewN ?_ _|refine blk_drew ?_|refine blk_alloc ?_ _));exact BK425.out) hb);have n3_:=Aside0.mk (blk_below (g:=gb426) (o:=.cells #[.slice A1_0 l1_0.length c1_0,.slice A1_1 l1_1.length c1_1,.int .i64 a1_2] 25 (0,0)) (by (with_reducible repeat (first|refine blk_drewN ?_ _|refine blk_drew ?_|refine blk_alloc ?_ _));exact BK426.out) hb);have n4_:=Aside0.mk (below_step (by repeat (first|(with_reducible first|exact HB.out|apply below_alloc|apply pw_below_drewN|apply below_drew1|refine below_set ?_ GE425.out|refine below_set ?_ GE426.out)|exact HB.out)) hb);clear BK425 BK426 HB;have HO429:=n0_;have HO432:=n1_;have BK425:=n2_;have BK426:=n3_;have HB:=n4_;clear n0_ n1_ n2_ n3_ n4_;(try clear hb);(try clear hb2);(try clear hk);(try clear hi);(try clear ho0);(try clear ho1))|((with_reducible refine gate_dst (N:=7) rfl ?_);refine box_event ?hg (N:=7) ?hd (cs:=#[.slice none 0 0,.slice none 0 0,.int .i64 0]) (t:=25) ?hr ?_;(case hd=>rfl);(case hg=>rfl);(case hr=>first|(go_simp;done)|(go_simp;rfl));intro gb435 hg w20 hbox hb;have n0_:=Aside0.mk (Kd.R_below (by (with_reducible repeat (first|apply Kd.R_alloc|apply Kd.R_drewN|apply Kd.R_drew));exact HO429.out) hb);have n1_:=Aside0.mk (Kd.R_below (by (with_reducible repeat (first|apply Kd.R_alloc|apply Kd.R_drewN|apply Kd.R_drew));exact HO432.out) hb);have n2_:=Aside0.mk (blk_below (g:=gb425) (o:=.cells #[.slice A0_0 l0_0.length c0_0,.slice A0_1 l0_1.length c0_1,.int .i64 a0_2] 25 (0,0)) (by (with_reducible repeat (first|refine blk_drewN ?_ _|refine blk_drew ?_|refine blk_alloc ?_ _));exact BK425.out) hb);have n3_:=Aside0.mk (blk_below (g:=gb426) (o:=.cells #[.slice A1_0 l1_0.length c1_0,.slice A1_1 l1_1.length c1_1,.int .i64 a1_2] 25 (0,0)) (by (with_reducible repeat (first|refine blk_drewN ?_ _|refine blk_drew ?_|refine blk_alloc ?_ _));exact BK426.out) hb);have n4_:=Aside0.mk (below_step (by repeat (first|(with_reducible first|exact HB.out|apply below_alloc|apply pw_below_drewN|apply below_drew1|refine below_set ?_ GE425.out|refine below_set ?_ GE426.out)|exact HB.out)) hb);have n5_:=Aside0.mk (hbox);have n6_:=Aside0.mk ((by rw [hg];exact (below_size (by repeat (first|(with_reducible first|exact HB.out|apply below_alloc|apply pw_below_drewN|apply below_drew1|refine below_set ?_ GE425.out|refine below_set ?_ GE426.out)|exact HB.out))):w.heap.size≤gb435));have n7_:=Aside0.mk ((by rw [hg];exact (below_size (by repeat (first|(with_reducible first|exact HB.out|apply below_alloc|apply pw_below_drewN|apply below_drew1|refine below_set ?_ GE425.out|refine below_set ?_ GE426.out)|exact HB.out))):w.heap.size≤gb435));have n8_:=Aside0.mk ((by rw [hg];exact Nat.ne_of_lt (blk_lt (g:=gb425) (o:=.cells #[.slice A0_0 l0_0.length c0_0,.slice A0_1 l0_1.length c0_1,.int .i64 a0_2] 25 (0,0)) (by (with_reducible repeat (first|refine blk_drewN ?_ _|refine blk_drew ?_|refine blk_alloc ?_ _));exact BK425.out)):gb425≠gb435));have n9_:=Aside0.mk ((by rw [hg];exact Nat.ne_of_gt (blk_lt (g:=gb425) (o:=.cells #[.slice A0_0 l0_0.length c0_0,.slice A0_1 l0_1.length c0_1,.int .i64 a0_2] 25 (0,0)) (by (with_reducible repeat (first|refine blk_drewN ?_ _|refine blk_drew ?_|refine blk_alloc ?_ _));exact BK425.out)):gb435≠gb425));have n10_:=Aside0.mk ((by rw [hg];exact Nat.ne_of_lt (blk_lt (g:=gb426) (o:=.cells #[.slice A1_0 l1_0.length c1_0,.slice A1_1 l1_1.length c1_1,.int .i64 a1_2] 25 (0,0)) (by (with_reducible repeat (first|refine blk_drewN ?_ _|refine blk_drew ?_|refine blk_alloc ?_ _));exact BK426.out)):gb426≠gb435));have n11_:=Aside0.mk ((by rw [hg];exact Nat.ne_of_gt (blk_lt (g:=gb426) (o:=.cells #[.slice A1_0 l1_0.length c1_0,.slice A1_1 l1_1.length c1_1,.int .i64 a1_2] 25 (0,0)) (by (with_reducible repeat (first|refine blk_drewN ?_ _|refine blk_drew ?_|refine blk_alloc ?_ _));exact BK426.out)):gb435≠gb426));clear HO429 HO432 BK425 BK426 HB;have HO429:=n0_;have HO432:=n1_;have BK425:=n2_;have BK426:=n3_;have HB:=n4_;have BK435:=n5_;have GW435:=n6_;have GE435:=n7_;have NB425_435:=n8_;have NB435_425:=n9_;have NB426_435:=n10_;have NB435_426:=n11_;clear n0_ n1_ n2_ n3_ n4_ n5_ n6_ n7_ n8_ n9_ n10_ n11_;clear hb hbox hg;obtain ⟨Ao21,co21,eo21⟩:=Kd.R_slice HO429.out;subst eo21;have hnb22:=NB435_425.out;have hnc22:=NB425_435.out;have hnb23:=NB435_426.out;have hnc23:=NB426_435.out;have hcz24_0:w20.cell? ⟨gb435,0,none⟩=some (.slice none 0 0):=(blk_cell BK435.out 0).trans rfl;have hcz24_1:w20.cell? ⟨gb435,1,none⟩=some (.slice none 0 0):=(blk_cell BK435.out 1).trans rfl;have hcz24_2:w20.cell? ⟨gb435,2,none⟩=some (.int .i64 0):=(blk_cell BK435.out 2).trans rfl;have hfz24_0:=blk_frozen BK435.out 0;have hfz24_1:=blk_frozen BK435.out 1;have hfz24_2:=blk_frozen BK435.out 2;obtain ⟨Ao25,co25,eo25⟩:=Kd.R_slice HO432.out;subst eo25;have hcz26_0:w20.cell? ⟨gb425,0,none⟩=some (.slice A0_0 l0_0.length c0_0):=(blk_cell BK425.out 0).trans rfl;have hcz26_1:w20.cell? ⟨gb425,1,none⟩=some (.slice A0_1 l0_1.length c0_1):=(blk_cell BK425.out 1).trans rfl;have hcz26_2:w20.cell? ⟨gb425,2,none⟩=some (.int .i64 a0_2):=(blk_cell BK425.out 2).trans rfl;have hfz26_0:=blk_frozen BK425.out 0;have hfz26_1:=blk_frozen BK425.out 1;have hfz26_2:=blk_frozen BK425.out 2)|((with_reducible refine gate_callee (f:=23) rfl ?_);refine goesL_ (some 24) rfl rfl Try.func23 (by kernel_rfl) rfl #[.agg #[.slice A0_0 l0_0.length c0_0,.slice A0_1 l0_1.length c0_1,.int .i64 a0_2],.slice A2 l2.length c2] rfl (by (try simp only [List.map_toArray,List.map_cons,List.map_nil]);first|done|rfl|(simp only [List.length_drop,List.length_take];rfl)) ?_;(with_reducible refine (slipwayref06_Apply.calls k _ _ l0_0 _ _ l0_1 a0_2 _ _ l2 t436 t439 t442 t443 _ ?side1 ?side2 ?side3 ?side4 ?side5 ?side6 A5.out).mono ?_);(case side1=>exact Kd.C_below HR0_0.out (by repeat (first|(with_reducible first|exact HB.out|apply below_alloc|apply pw_below_drewN|apply below_drew1|refine below_set ?_ GE425.out|refine below_set ?_ GE426.out|refine below_set ?_ GE435.out)|exact HB.out)));(case side2=>exact HC0_0.out);(case side3=>exact Kd.C_below HR0_1.out (by repeat (first|(with_reducible first|exact HB.out|apply below_alloc|apply pw_below_drewN|apply below_drew1|refine below_set ?_ GE425.out|refine below_set ?_ GE426.out|refine below_set ?_ GE435.out)|exact HB.out)));(case side4=>exact HC0_1.out);(case side5=>exact Kd.C_below HR2.out (by repeat (first|(with_reducible first|exact HB.out|apply below_alloc|apply pw_below_drewN|apply below_drew1|refine below_set ?_ GE425.out|refine below_set ?_ GE426.out|refine below_set ?_ GE435.out)|exact HB.out)));(case side6=>exact HC2.out);rintro e w27 ⟨v437,v440,rfl,ho0,ho1,hb⟩;refine ⟨_,rfl,?_⟩;have n0_:=Aside0.mk (Kd.R_elder' (by (with_reducible repeat (first|apply Kd.R_alloc|apply Kd.R_drewN|apply Kd.R_drew));exact (Kd.R_mono (Kd.R_far (p:=⟨gb435,2,none⟩) (Kd.R_far (p:=⟨gb435,1,none⟩) (Kd.R_far (p:=⟨gb435,0,none⟩) (Kd.R_types HO429.out BK435.out (by decide)) (fun _ hk=>hk.2) (.slice Ao21 t427.length co21)) (fun _ hk=>hk.2) (.slice Ao25 t430.length co25)) (fun _ hk=>hk.2) (.int .i64 t433)) (fun _ h_=>h_.1))) (Kd.R_base ho0) hb);have n1_:=Aside0.mk (Kd.R_elder' (by (with_reducible repeat (first|apply Kd.R_alloc|apply Kd.R_drewN|apply Kd.R_drew));exact (Kd.R_mono (Kd.R_far (p:=⟨gb435,2,none⟩) (Kd.R_far (p:=⟨gb435,1,none⟩) (Kd.R_far (p:=⟨gb435,0,none⟩) (Kd.R_types HO432.out BK435.out (by decide)) (fun _ hk=>hk.2) (.slice Ao21 t427.length co21)) (fun _ hk=>hk.2) (.slice Ao25 t430.length co25)) (fun _ hk=>hk.2) (.int .i64 t433)) (fun _ h_=>h_.1))) (Kd.R_base ho1) hb);have n2_:=Aside0.mk (Kd.R_lower (Kd.R_new' ho0 (Kd.R_lt (by (with_reducible repeat (first|apply Kd.R_alloc|apply Kd.R_drewN|apply Kd.R_drew));exact (Kd.R_mono (Kd.R_far (p:=⟨gb435,2,none⟩) (Kd.R_far (p:=⟨gb435,1,none⟩) (Kd.R_far (p:=⟨gb435,0,none⟩) (Kd.R_types HO429.out BK435.out (by decide)) (fun _ hk=>hk.2) (.slice Ao21 t427.length co21)) (fun _ hk=>hk.2) (.slice Ao25 t430.length co25)) (fun _ hk=>hk.2) (.int .i64 t433)) (fun _ h_=>h_.1))))) (below_size (by repeat (first|(with_reducible first|exact HB.out|apply below_alloc|apply pw_below_drewN|apply below_drew1|refine below_set ?_ GE425.out|refine below_set ?_ GE426.out|refine below_set ?_ GE435.out)|exact HB.out))));have n3_:=Aside0.mk (Kd.R_lower (Kd.R_new' ho1 (Kd.R_lt (by (with_reducible repeat (first|apply Kd.R_alloc|apply Kd.R_drewN|apply Kd.R_drew));exact (Kd.R_mono (Kd.R_far (p:=⟨gb435,2,none⟩) (Kd.R_far (p:=⟨gb435,1,none⟩) (Kd.R_far (p:=⟨gb435,0,none⟩) (Kd.R_types HO432.out BK435.out (by decide)) (fun _ hk=>hk.2) (.slice Ao21 t427.length co21)) (fun _ hk=>hk.2) (.slice Ao25 t430.length co25)) (fun _ hk=>hk.2) (.int .i64 t433)) (fun _ h_=>h_.1))))) (below_size (by repeat (first|(with_reducible first|exact HB.out|apply below_alloc|apply pw_below_drewN|apply below_drew1|refine below_set ?_ GE425.out|refine below_set ?_ GE426.out|refine below_set ?_ GE435.out)|exact HB.out))));have n4_:=Aside0.mk (blk_below (g:=gb425) (o:=.cells #[.slice A0_0 l0_0.length c0_0,.slice A0_1 l0_1.length c0_1,.int .i64 a0_2] 25 (0,0)) (by (with_reducible repeat (first|refine blk_drewN ?_ _|refine blk_drew ?_|refine blk_alloc ?_ _));refine blk_far ?_ NB425_435.out _;(with_reducible repeat (first|refine blk_drewN ?_ _|refine blk_drew ?_|refine blk_alloc ?_ _));refine blk_far ?_ NB425_435.out _;(with_reducible repeat (first|refine blk_drewN ?_ _|refine blk_drew ?_|refine blk_alloc ?_ _));refine blk_far ?_ NB425_435.out _;(with_reducible repeat (first|refine blk_drewN ?_ _|refine blk_drew ?_|refine blk_alloc ?_ _));exact BK425.out) hb);have n5_:=Aside0.mk (blk_below (g:=gb426) (o:=.cells #[.slice A1_0 l1_0.length c1_0,.slice A1_1 l1_1.length c1_1,.int .i64 a1_2] 25 (0,0)) (by (with_reducible repeat (first|refine blk_drewN ?_ _|refine blk_drew ?_|refine blk_alloc ?_ _));refine blk_far ?_ NB426_435.out _;(with_reducible repeat (first|refine blk_drewN ?_ _|refine blk_drew ?_|refine blk_alloc ?_ _));refine blk_far ?_ NB426_435.out _;(with_reducible repeat (first|refine blk_drewN ?_ _|refine blk_drew ?_|refine blk_alloc ?_ _));refine blk_far ?_ NB426_435.out _;(with_reducible repeat (first|refine blk_drewN ?_ _|refine blk_drew ?_|refine blk_alloc ?_ _));exact BK426.out) hb);have n6_:=Aside0.mk (blk_below (g:=gb435) (o:=.cells #[.slice Ao21 t427.length co21,.slice Ao25 t430.length co25,.int .i64 t433] 25 (0,0)) (by (with_reducible repeat (first|refine blk_drewN ?_ _|refine blk_drew ?_|refine blk_alloc ?_ _));refine blk_put (cs:=#[.slice Ao21 t427.length co21,.slice Ao25 t430.length co25,.int .i64 0]) ?_ 2 _ rfl;(with_reducible repeat (first|refine blk_drewN ?_ _|refine blk_drew ?_|refine blk_alloc ?_ _));refine blk_put (cs:=#[.slice Ao21 t427.length co21,.slice none 0 0,.int .i64 0]) ?_ 1 _ rfl;(with_reducible repeat (first|refine blk_drewN ?_ _|refine blk_drew ?_|refine blk_alloc ?_ _));refine blk_put (cs:=#[.slice none 0 0,.slice none 0 0,.int .i64 0]) ?_ 0 _ rfl;(with_reducible repeat (first|refine blk_drewN ?_ _|refine blk_drew ?_|refine blk_alloc ?_ _));exact BK435.out) hb);have n7_:=Aside0.mk (below_step (by repeat (first|(with_reducible first|exact HB.out|apply below_alloc|apply pw_below_drewN|apply below_drew1|refine below_set ?_ GE425.out|refine below_set ?_ GE426.out|refine below_set ?_ GE435.out)|exact HB.out)) hb);clear HO429 HO432 BK425 BK426 BK435 HB;have HO429:=n0_;have HO432:=n1_;have HO438:=n2_;have HO441:=n3_;have BK425:=n4_;have BK426:=n5_;have BK435:=n6_;have HB:=n7_;clear n0_ n1_ n2_ n3_ n4_ n5_ n6_ n7_;(try clear hb);(try clear hb2);(try clear hk);(try clear hi);(try clear ho0);(try clear ho1))|((with_reducible refine gate_dst (N:=9) rfl ?_);refine box_event ?hg (N:=9) ?hd (cs:=#[.slice none 0 0,.slice none 0 0,.int .i64 0]) (t:=25) ?hr ?_;(case hd=>rfl);(case hg=>rfl);(case hr=>first|(go_simp;done)|(go_simp;rfl));intro gb444 hg w28 hbox hb;have n0_:=Aside0.mk (Kd.R_below (by (with_reducible repeat (first|apply Kd.R_alloc|apply Kd.R_drewN|apply Kd.R_drew));exact HO429.out) hb);have n1_:=Aside0.mk (Kd.R_below (by (with_reducible repeat (first|apply Kd.R_alloc|apply Kd.R_drewN|apply Kd.R_drew));exact HO432.out) hb);have n2_:=Aside0.mk (Kd.R_below (by (with_reducible repeat (first|apply Kd.R_alloc|apply Kd.R_drewN|apply Kd.R_drew));exact HO438.out) hb);have n3_:=Aside0.mk (Kd.R_below (by (with_reducible repeat (first|apply Kd.R_alloc|apply Kd.R_drewN|apply Kd.R_drew));exact HO441.out) hb);have n4_:=Aside0.mk (blk_below (g:=gb425) (o:=.cells #[.slice A0_0 l0_0.length c0_0,.slice A0_1 l0_1.length c0_1,.int .i64 a0_2] 25 (0,0)) (by (with_reducible repeat (first|refine blk_drewN ?_ _|refine blk_drew ?_|refine blk_alloc ?_ _));exact BK425.out) hb);have n5_:=Aside0.mk (blk_below (g:=gb426) (o:=.cells #[.slice A1_0 l1_0.length c1_0,.slice A1_1 l1_1.length c1_1,.int .i64 a1_2] 25 (0,0)) (by (with_reducible repeat (first|refine blk_drewN ?_ _|refine blk_drew ?_|refine blk_alloc ?_ _));exact BK426.out) hb);have n6_:=Aside0.mk (blk_below (g:=gb435) (o:=.cells #[.slice Ao21 t427.length co21,.slice Ao25 t430.length co25,.int .i64 t433] 25 (0,0)) (by (with_reducible repeat (first|refine blk_drewN ?_ _|refine blk_drew ?_|refine blk_alloc ?_ _));exact BK435.out) hb);have n7_:=Aside0.mk (below_step (by repeat (first|(with_reducible first|exact HB.out|apply below_alloc|apply pw_below_drewN|apply below_drew1|refine below_set ?_ GE425.out|refine below_set ?_ GE426.out|refine below_set ?_ GE435.out)|exact HB.out)) hb);have n8_:=Aside0.mk (hbox);have n9_:=Aside0.mk ((by rw [hg];exact (below_size (by repeat (first|(with_reducible first|exact HB.out|apply below_alloc|apply pw_below_drewN|apply below_drew1|refine below_set ?_ GE425.out|refine below_set ?_ GE426.out|refine below_set ?_ GE435.out)|exact HB.out))):w.heap.size≤gb444));have n10_:=Aside0.mk ((by rw [hg];exact (below_size (by repeat (first|(with_reducible first|exact HB.out|apply below_alloc|apply pw_below_drewN|apply below_drew1|refine below_set ?_ GE425.out|refine below_set ?_ GE426.out|refine below_set ?_ GE435.out)|exact HB.out))):w.heap.size≤gb444));have n11_:=Aside0.mk ((by rw [hg];exact Nat.ne_of_lt (blk_lt (g:=gb425) (o:=.cells #[.slice A0_0 l0_0.length c0_0,.slice A0_1 l0_1.length c0_1,.int .i64 a0_2] 25 (0,0)) (by (with_reducible repeat (first|refine blk_drewN ?_ _|refine blk_drew ?_|refine blk_alloc ?_ _));exact BK425.out)):gb425≠gb444));have n12_:=Aside0.mk ((by rw [hg];exact Nat.ne_of_gt (blk_lt (g:=gb425) (o:=.cells #[.slice A0_0 l0_0.length c0_0,.slice A0_1 l0_1.length c0_1,.int .i64 a0_2] 25 (0,0)) (by (with_reducible repeat (first|refine blk_drewN ?_ _|refine blk_drew ?_|refine blk_alloc ?_ _));exact BK425.out)):gb444≠gb425));have n13_:=Aside0.mk ((by rw [hg];exact Nat.ne_of_lt (blk_lt (g:=gb426) (o:=.cells #[.slice A1_0 l1_0.length c1_0,.slice A1_1 l1_1.length c1_1,.int .i64 a1_2] 25 (0,0)) (by (with_reducible repeat (first|refine blk_drewN ?_ _|refine blk_drew ?_|refine blk_alloc ?_ _));exact BK426.out)):gb426≠gb444));have n14_:=Aside0.mk ((by rw [hg];exact Nat.ne_of_gt (blk_lt (g:=gb426) (o:=.cells #[.slice A1_0 l1_0.length c1_0,.slice A1_1 l1_1.length c1_1,.int .i64 a1_2] 25 (0,0)) (by (with_reducible repeat (first|refine blk_drewN ?_ _|refine blk_drew ?_|refine blk_alloc ?_ _));exact BK426.out)):gb444≠gb426));have n15_:=Aside0.mk ((by rw [hg];exact Nat.ne_of_lt (blk_lt (g:=gb435) (o:=.cells #[.slice Ao21 t427.length co21,.slice Ao25 t430.length co25,.int .i64 t433] 25 (0,0)) (by (with_reducible repeat (first|refine blk_drewN ?_ _|refine blk_drew ?_|refine blk_alloc ?_ _));exact BK435.out)):gb435≠gb444));have n16_:=Aside0.mk ((by rw [hg];exact Nat.ne_of_gt (blk_lt (g:=gb435) (o:=.cells #[.slice Ao21 t427.length co21,.slice Ao25 t430.length co25,.int .i64 t433] 25 (0,0)) (by (with_reducible repeat (first|refine blk_drewN ?_ _|refine blk_drew ?_|refine blk_alloc ?_ _));exact BK435.out)):gb444≠gb435));clear HO429 HO432 HO438 HO441 BK425 BK426 BK435 HB;have HO429:=n0_;have HO432:=n1_;have HO438:=n2_;have HO441:=n3_;have BK425:=n4_;have BK426:=n5_;have BK435:=n6_;have HB:=n7_;have BK444:=n8_;have GW444:=n9_;have GE444:=n10_;have NB425_444:=n11_;have NB444_425:=n12_;have NB426_444:=n13_;have NB444_426:=n14_;have NB435_444:=n15_;have NB444_435:=n16_;clear n0_ n1_ n2_ n3_ n4_ n5_ n6_ n7_ n8_ n9_ n10_ n11_ n12_ n13_ n14_ n15_ n16_;clear hb hbox hg;obtain ⟨Ao29,co29,eo29⟩:=Kd.R_slice HO438.out;subst eo29;have hnb30:=NB444_425.out;have hnc30:=NB425_444.out;have hnb31:=NB444_426.out;have hnc31:=NB426_444.out;have hnb32:=NB444_435.out;have hnc32:=NB435_444.out;have hcz33_0:w28.cell? ⟨gb444,0,none⟩=some (.slice none 0 0):=(blk_cell BK444.out 0).trans rfl;have hcz33_1:w28.cell? ⟨gb444,1,none⟩=some (.slice none 0 0):=(blk_cell BK444.out 1).trans rfl;have hcz33_2:w28.cell? ⟨gb444,2,none⟩=some (.int .i64 0):=(blk_cell BK444.out 2).trans rfl;have hfz33_0:=blk_frozen BK444.out 0;have hfz33_1:=blk_frozen BK444.out 1;have hfz33_2:=blk_frozen BK444.out 2;obtain ⟨Ao34,co34,eo34⟩:=Kd.R_slice HO441.out;subst eo34;have hcz35_0:w28.cell? ⟨gb425,0,none⟩=some (.slice A0_0 l0_0.length c0_0):=(blk_cell BK425.out 0).trans rfl;have hcz35_1:w28.cell? ⟨gb425,1,none⟩=some (.slice A0_1 l0_1.length c0_1):=(blk_cell BK425.out 1).trans rfl;have hcz35_2:w28.cell? ⟨gb425,2,none⟩=some (.int .i64 a0_2):=(blk_cell BK425.out 2).trans rfl;have hfz35_0:=blk_frozen BK425.out 0;have hfz35_1:=blk_frozen BK425.out 1;have hfz35_2:=blk_frozen BK425.out 2;have hcz36_0:w28.cell? ⟨gb426,0,none⟩=some (.slice A1_0 l1_0.length c1_0):=(blk_cell BK426.out 0).trans rfl;have hcz36_1:w28.cell? ⟨gb426,1,none⟩=some (.slice A1_1 l1_1.length c1_1):=(blk_cell BK426.out 1).trans rfl;have hcz36_2:w28.cell? ⟨gb426,2,none⟩=some (.int .i64 a1_2):=(blk_cell BK426.out 2).trans rfl;have hfz36_0:=blk_frozen BK426.out 0;have hfz36_1:=blk_frozen BK426.out 1;have hfz36_2:=blk_frozen BK426.out 2)|((with_reducible refine gate_callee (f:=24) rfl ?_);refine goesL_ (some 30) rfl rfl Try.func24 (by kernel_rfl) rfl #[.agg #[.slice A0_0 l0_0.length c0_0,.slice A0_1 l0_1.length c0_1,.int .i64 a0_2],.agg #[.slice A1_0 l1_0.length c1_0,.slice A1_1 l1_1.length c1_1,.int .i64 a1_2]] rfl (by (try simp only [List.map_toArray,List.map_cons,List.map_nil]);first|done|rfl|(simp only [List.length_drop,List.length_take];rfl)) ?_;(with_reducible refine (mapjnl_Diff.calls k _ _ l0_0 _ _ l0_1 a0_2 _ _ l1_0 _ _ l1_1 a1_2 t445 t448 _ ?side1 ?side2 ?side3 ?side4 ?side5 ?side6 ?side7 ?side8 A6.out).mono ?_);(case side1=>exact Kd.C_below HR0_0.out (by repeat (first|(with_reducible first|exact HB.out|apply below_alloc|apply pw_below_drewN|apply below_drew1|refine below_set ?_ GE425.out|refine below_set ?_ GE426.out|refine below_set ?_ GE435.out|refine below_set ?_ GE444.out)|exact HB.out)));(case side2=>exact HC0_0.out);(case side3=>exact Kd.C_below HR0_1.out (by repeat (first|(with_reducible first|exact HB.out|apply below_alloc|apply pw_below_drewN|apply below_drew1|refine below_set ?_ GE425.out|refine below_set ?_ GE426.out|refine below_set ?_ GE435.out|refine below_set ?_ GE444.out)|exact HB.out)));(case side4=>exact HC0_1.out);(case side5=>exact Kd.C_below HR1_0.out (by repeat (first|(with_reducible first|exact HB.out|apply below_alloc|apply pw_below_drewN|apply below_drew1|refine below_set ?_ GE425.out|refine below_set ?_ GE426.out|refine below_set ?_ GE435.out|refine below_set ?_ GE444.out)|exact HB.out)));(case side6=>exact HC1_0.out);(case side7=>exact Kd.C_below HR1_1.out (by repeat (first|(with_reducible first|exact HB.out|apply below_alloc|apply pw_below_drewN|apply below_drew1|refine below_set ?_ GE425.out|refine below_set ?_ GE426.out|refine below_set ?_ GE435.out|refine below_set ?_ GE444.out)|exact HB.out)));(case side8=>exact HC1_1.out);rintro e w37 ⟨v446,rfl,ho0,hb⟩;refine ⟨_,rfl,?_⟩;have n0_:=Aside0.mk (Kd.R_below (by (with_reducible repeat (first|apply Kd.R_alloc|apply Kd.R_drewN|apply Kd.R_drew));exact (Kd.R_mono (Kd.R_far (p:=⟨gb444,2,none⟩) (Kd.R_far (p:=⟨gb444,1,none⟩) (Kd.R_far (p:=⟨gb444,0,none⟩) (Kd.R_types HO429.out BK444.out (by decide)) (fun _ hk=>hk.2) (.slice Ao29 t436.length co29)) (fun _ hk=>hk.2) (.slice Ao34 t439.length co34)) (fun _ hk=>hk.2) (.int .i64 t442)) (fun _ h_=>h_.1))) hb);have n1_:=Aside0.mk (Kd.R_below (by (with_reducible repeat (first|apply Kd.R_alloc|apply Kd.R_drewN|apply Kd.R_drew));exact (Kd.R_mono (Kd.R_far (p:=⟨gb444,2,none⟩) (Kd.R_far (p:=⟨gb444,1,none⟩) (Kd.R_far (p:=⟨gb444,0,none⟩) (Kd.R_types HO432.out BK444.out (by decide)) (fun _ hk=>hk.2) (.slice Ao29 t436.length co29)) (fun _ hk=>hk.2) (.slice Ao34 t439.length co34)) (fun _ hk=>hk.2) (.int .i64 t442)) (fun _ h_=>h_.1))) hb);have n2_:=Aside0.mk (Kd.R_below (by (with_reducible repeat (first|apply Kd.R_alloc|apply Kd.R_drewN|apply Kd.R_drew));exact (Kd.R_mono (Kd.R_far (p:=⟨gb444,2,none⟩) (Kd.R_far (p:=⟨gb444,1,none⟩) (Kd.R_far (p:=⟨gb444,0,none⟩) (Kd.R_types HO438.out BK444.out (by decide)) (fun _ hk=>hk.2) (.slice Ao29 t436.length co29)) (fun _ hk=>hk.2) (.slice Ao34 t439.length co34)) (fun _ hk=>hk.2) (.int .i64 t442)) (fun _ h_=>h_.1))) hb);have n3_:=Aside0.mk (Kd.R_below (by (with_reducible repeat (first|apply Kd.R_alloc|apply Kd.R_drewN|apply Kd.R_drew));exact (Kd.R_mono (Kd.R_far (p:=⟨gb444,2,none⟩) (Kd.R_far (p:=⟨gb444,1,none⟩) (Kd.R_far (p:=⟨gb444,0,none⟩) (Kd.R_types HO441.out BK444.out (by decide)) (fun _ hk=>hk.2) (.slice Ao29 t436.length co29)) (fun _ hk=>hk.2) (.slice Ao34 t439.length co34)) (fun _ hk=>hk.2) (.int .i64 t442)) (fun _ h_=>h_.1))) hb);have n4_:=Aside0.mk (Kd.R_lower ho0 (below_size (by repeat (first|(with_reducible first|exact HB.out|apply below_alloc|apply pw_below_drewN|apply below_drew1|refine below_set ?_ GE425.out|refine below_set ?_ GE426.out|refine below_set ?_ GE435.out|refine below_set ?_ GE444.out)|exact HB.out))));have n5_:=Aside0.mk (blk_below (g:=gb425) (o:=.cells #[.slice A0_0 l0_0.length c0_0,.slice A0_1 l0_1.length c0_1,.int .i64 a0_2] 25 (0,0)) (by (with_reducible repeat (first|refine blk_drewN ?_ _|refine blk_drew ?_|refine blk_alloc ?_ _));refine blk_far ?_ NB425_444.out _;(with_reducible repeat (first|refine blk_drewN ?_ _|refine blk_drew ?_|refine blk_alloc ?_ _));refine blk_far ?_ NB425_444.out _;(with_reducible repeat (first|refine blk_drewN ?_ _|refine blk_drew ?_|refine blk_alloc ?_ _));refine blk_far ?_ NB425_444.out _;(with_reducible repeat (first|refine blk_drewN ?_ _|refine blk_drew ?_|refine blk_alloc ?_ _));exact BK425.out) hb);have n6_:=Aside0.mk (blk_below (g:=gb426) (o:=.cells #[.slice A1_0 l1_0.length c1_0,.slice A1_1 l1_1.length c1_1,.int .i64 a1_2] 25 (0,0)) (by (with_reducible repeat (first|refine blk_drewN ?_ _|refine blk_drew ?_|refine blk_alloc ?_ _));refine blk_far ?_ NB426_444.out _;(with_reducible repeat (first|refine blk_drewN ?_ _|refine blk_drew ?_|refine blk_alloc ?_ _));refine blk_far ?_ NB426_444.out _;(with_reducible repeat (first|refine blk_drewN ?_ _|refine blk_drew ?_|refine blk_alloc ?_ _));refine blk_far ?_ NB426_444.out _;(with_reducible repeat (first|refine blk_drewN ?_ _|refine blk_drew ?_|refine blk_alloc ?_ _));exact BK426.out) hb);have n7_:=Aside0.mk (blk_below (g:=gb435) (o:=.cells #[.slice Ao21 t427.length co21,.slice Ao25 t430.length co25,.int .i64 t433] 25 (0,0)) (by (with_reducible repeat (first|refine blk_drewN ?_ _|refine blk_drew ?_|refine blk_alloc ?_ _));refine blk_far ?_ NB435_444.out _;(with_reducible repeat (first|refine blk_drewN ?_ _|refine blk_drew ?_|refine blk_alloc ?_ _));refine blk_far ?_ NB435_444.out _;(with_reducible repeat (first|refine blk_drewN ?_ _|refine blk_drew ?_|refine blk_alloc ?_ _));refine blk_far ?_ NB435_444.out _;(with_reducible repeat (first|refine blk_drewN ?_ _|refine blk_drew ?_|refine blk_alloc ?_ _));exact BK435.out) hb);have n8_:=Aside0.mk (blk_below (g:=gb444) (o:=.cells #[.slice Ao29 t436.length co29,.slice Ao34 t439.length co34,.int .i64 t442] 25 (0,0)) (by (with_reducible repeat (first|refine blk_drewN ?_ _|refine blk_drew ?_|refine blk_alloc ?_ _));refine blk_put (cs:=#[.slice Ao29 t436.length co29,.slice Ao34 t439.length co34,.int .i64 0]) ?_ 2 _ rfl;(with_reducible repeat (first|refine blk_drewN ?_ _|refine blk_drew ?_|refine blk_alloc ?_ _));refine blk_put (cs:=#[.slice Ao29 t436.length co29,.slice none 0 0,.int .i64 0]) ?_ 1 _ rfl;(with_reducible repeat (first|refine blk_drewN ?_ _|refine blk_drew ?_|refine blk_alloc ?_ _));refine blk_put (cs:=#[.slice none 0 0,.slice none 0 0,.int .i64 0]) ?_ 0 _ rfl;(with_reducible repeat (first|refine blk_drewN ?_ _|refine blk_drew ?_|refine blk_alloc ?_ _));exact BK444.out) hb);have n9_:=Aside0.mk (below_step (by repeat (first|(with_reducible first|exact HB.out|apply below_alloc|apply pw_below_drewN|apply below_drew1|refine below_set ?_ GE425.out|refine below_set ?_ GE426.out|refine below_set ?_ GE435.out|refine below_set ?_ GE444.out)|exact HB.out)) hb);clear HO429 HO432 HO438 HO441 BK425 BK426 BK435 BK444 HB;have HO429:=n0_;have HO432:=n1_;have HO438:=n2_;have HO441:=n3_;have HO447:=n4_;have BK425:=n5_;have BK426:=n6_;have BK435:=n7_;have BK444:=n8_;have HB:=n9_;clear n0_ n1_ n2_ n3_ n4_ n5_ n6_ n7_ n8_ n9_;(try clear hb);(try clear hb2);(try clear hk);(try clear hi);(try clear ho0);have hcz38_0:w37.cell? ⟨gb425,0,none⟩=some (.slice A0_0 l0_0.length c0_0):=(blk_cell BK425.out 0).trans rfl;have hcz38_1:w37.cell? ⟨gb425,1,none⟩=some (.slice A0_1 l0_1.length c0_1):=(blk_cell BK425.out 1).trans rfl;have hcz38_2:w37.cell? ⟨gb425,2,none⟩=some (.int .i64 a0_2):=(blk_cell BK425.out 2).trans rfl;have hfz38_0:=blk_frozen BK425.out 0;have hfz38_1:=blk_frozen BK425.out 1;have hfz38_2:=blk_frozen BK425.out 2;have hcz39_0:w37.cell? ⟨gb426,0,none⟩=some (.slice A1_0 l1_0.length c1_0):=(blk_cell BK426.out 0).trans rfl;have hcz39_1:w37.cell? ⟨gb426,1,none⟩=some (.slice A1_1 l1_1.length c1_1):=(blk_cell BK426.out 1).trans rfl;have hcz39_2:w37.cell? ⟨gb426,2,none⟩=some (.int .i64 a1_2):=(blk_cell BK426.out 2).trans rfl;have hfz39_0:=blk_frozen BK426.out 0;have hfz39_1:=blk_frozen BK426.out 1;have hfz39_2:=blk_frozen BK426.out 2)|((with_reducible refine gate_callee (f:=25) rfl ?_);refine goesL_ (some 36) rfl rfl Try.func25 (by kernel_rfl) rfl #[.agg #[.slice A0_0 l0_0.length c0_0,.slice A0_1 l0_1.length c0_1,.int .i64 a0_2],.agg #[.slice A1_0 l1_0.length c1_0,.slice A1_1 l1_1.length c1_1,.int .i64 a1_2]] rfl (by (try simp only [List.map_toArray,List.map_cons,List.map_nil]);first|done|rfl|(simp only [List.length_drop,List.length_take];rfl)) ?_;(with_reducible refine (slipwayref06_Diff.calls k _ _ l0_0 _ _ l0_1 a0_2 _ _ l1_0 _ _ l1_1 a1_2 t449 t452 _ ?side1 ?side2 ?side3 ?side4 ?side5 ?side6 ?side7 ?side8 A7.out).mono ?_);(case side1=>repeat (first|exact (Kd.C_below HR0_0.out HB.out)|(with_reducible refine Kd.C_alloc ?_ _)|(with_reducible refine Kd.C_drewN ?_ _)|(with_reducible refine Kd.C_drew ?_)));(case side2=>exact HC0_0.out);(case side3=>repeat (first|exact (Kd.C_below HR0_1.out HB.out)|(with_reducible refine Kd.C_alloc ?_ _)|(with_reducible refine Kd.C_drewN ?_ _)|(with_reducible refine Kd.C_drew ?_)));(case side4=>exact HC0_1.out);(case side5=>repeat (first|exact (Kd.C_below HR1_0.out HB.out)|(with_reducible refine Kd.C_alloc ?_ _)|(with_reducible refine Kd.C_drewN ?_ _)|(with_reducible refine Kd.C_drew ?_)));(case side6=>exact HC1_0.out);(case side7=>repeat (first|exact (Kd.C_below HR1_1.out HB.out)|(with_reducible refine Kd.C_alloc ?_ _)|(with_reducible refine Kd.C_drewN ?_ _)|(with_reducible refine Kd.C_drew ?_)));(case side8=>exact HC1_1.out);rintro e w40 ⟨v450,rfl,ho0,hb⟩;refine ⟨_,rfl,?_⟩;have n0_:=Aside0.mk (Kd.R_below (by (with_reducible repeat (first|apply Kd.R_alloc|apply Kd.R_drewN|apply Kd.R_drew));exact HO429.out) hb);have n1_:=Aside0.mk (Kd.R_below (by (with_reducible repeat (first|apply Kd.R_alloc|apply Kd.R_drewN|apply Kd.R_drew));exact HO432.out) hb);have n2_:=Aside0.mk (Kd.R_below (by (with_reducible repeat (first|apply Kd.R_alloc|apply Kd.R_drewN|apply Kd.R_drew));exact HO438.out) hb);have n3_:=Aside0.mk (Kd.R_below (by (with_reducible repeat (first|apply Kd.R_alloc|apply Kd.R_drewN|apply Kd.R_drew));exact HO441.out) hb);have n4_:=Aside0.mk (Kd.R_elder' (by (with_reducible repeat (first|apply Kd.R_alloc|apply Kd.R_drewN|apply Kd.R_drew));exact HO447.out) (Kd.R_base ho0) hb);have n5_:=Aside0.mk (Kd.R_lower (Kd.R_new' ho0 (Kd.R_lt (by (with_reducible repeat (first|apply Kd.R_alloc|apply Kd.R_drewN|apply Kd.R_drew));exact HO447.out))) (below_size (by repeat (first|(with_reducible first|exact HB.out|apply below_alloc|apply pw_below_drewN|apply below_drew1|refine below_set ?_ GE425.out|refine below_set ?_ GE426.out|refine below_set ?_ GE435.out|refine below_set ?_ GE444.out)|exact HB.out))));have n6_:=Aside0.mk (blk_below (g:=gb425) (o:=.cells #[.slice A0_0 l0_0.length c0_0,.slice A0_1 l0_1.length c0_1,.int .i64 a0_2] 25 (0,0)) (by (with_reducible repeat (first|refine blk_drewN ?_ _|refine blk_drew ?_|refine blk_alloc ?_ _));exact BK425.out) hb);have n7_:=Aside0.mk (blk_below (g:=gb426) (o:=.cells #[.slice A1_0 l1_0.length c1_0,.slice A1_1 l1_1.length c1_1,.int .i64 a1_2] 25 (0,0)) (by (with_reducible repeat (first|refine blk_drewN ?_ _|refine blk_drew ?_|refine blk_alloc ?_ _));exact BK426.out) hb);have n8_:=Aside0.mk (blk_below (g:=gb435) (o:=.cells #[.slice Ao21 t427.length co21,.slice Ao25 t430.length co25,.int .i64 t433] 25 (0,0)) (by (with_reducible repeat (first|refine blk_drewN ?_ _|refine blk_drew ?_|refine blk_alloc ?_ _));exact BK435.out) hb);have n9_:=Aside0.mk (blk_below (g:=gb444) (o:=.cells #[.slice Ao29 t436.length co29,.slice Ao34 t439.length co34,.int .i64 t442] 25 (0,0)) (by (with_reducible repeat (first|refine blk_drewN ?_ _|refine blk_drew ?_|refine blk_alloc ?_ _));exact BK444.out) hb);have n10_:=Aside0.mk (below_step (by repeat (first|(with_reducible first|exact HB.out|apply below_alloc|apply pw_below_drewN|apply below_drew1|refine below_set ?_ GE425.out|refine below_set ?_ GE426.out|refine below_set ?_ GE435.out|refine below_set ?_ GE444.out)|exact HB.out)) hb);clear HO429 HO432 HO438 HO441 HO447 BK425 BK426 BK435 BK444 HB;have HO429:=n0_;have HO432:=n1_;have HO438:=n2_;have HO441:=n3_;have HO447:=n4_;have HO451:=n5_;have BK425:=n6_;have BK426:=n7_;have BK435:=n8_;have BK444:=n9_;have HB:=n10_;clear n0_ n1_ n2_ n3_ n4_ n5_ n6_ n7_ n8_ n9_ n10_;(try clear hb);(try clear hb2);(try clear hk);(try clear hi);(try clear ho0))|((with_reducible refine gate_callee (f:=15) rfl ?_);refine goesL_ (some 39) rfl rfl Try.func15 (by kernel_rfl) rfl #[] rfl (by (try simp only [List.map_toArray,List.map_cons,List.map_nil]);first|done|rfl|(simp only [List.length_drop,List.length_take];rfl)) ?_;(with_reducible refine (slipwaylaw06_begun.calls k  true _ A8.out).mono ?_);rintro e w41 ⟨rfl,hb⟩;refine ⟨_,rfl,?_⟩;have n0_:=Aside0.mk (Kd.R_below (by (with_reducible repeat (first|apply Kd.R_alloc|apply Kd.R_drewN|apply Kd.R_drew));exact HO429.out) hb);have n1_:=Aside0.mk (Kd.R_below (by (with_reducible repeat (first|apply Kd.R_alloc|apply Kd.R_drewN|apply Kd.R_drew));exact HO432.out) hb);have n2_:=Aside0.mk (Kd.R_below (by (with_reducible repeat (first|apply Kd.R_alloc|apply Kd.R_drewN|apply Kd.R_drew));exact HO438.out) hb);have n3_:=Aside0.mk (Kd.R_below (by (with_reducible repeat (first|apply Kd.R_alloc|apply Kd.R_drewN|apply Kd.R_drew));exact HO441.out) hb);have n4_:=Aside0.mk (Kd.R_below (by (with_reducible repeat (first|apply Kd.R_alloc|apply Kd.R_drewN|apply Kd.R_drew));exact HO447.out) hb);have n5_:=Aside0.mk (Kd.R_below (by (with_reducible repeat (first|apply Kd.R_alloc|apply Kd.R_drewN|apply Kd.R_drew));exact HO451.out) hb);have n6_:=Aside0.mk (blk_below (g:=gb425) (o:=.cells #[.slice A0_0 l0_0.length c0_0,.slice A0_1 l0_1.length c0_1,.int .i64 a0_2] 25 (0,0)) (by (with_reducible repeat (first|refine blk_drewN ?_ _|refine blk_drew ?_|refine blk_alloc ?_ _));exact BK425.out) hb);have n7_:=Aside0.mk (blk_below (g:=gb426) (o:=.cells #[.slice A1_0 l1_0.length c1_0,.slice A1_1 l1_1.length c1_1,.int .i64 a1_2] 25 (0,0)) (by (with_reducible repeat (first|refine blk_drewN ?_ _|refine blk_drew ?_|refine blk_alloc ?_ _));exact BK426.out) hb);have n8_:=Aside0.mk (blk_below (g:=gb435) (o:=.cells #[.slice Ao21 t427.length co21,.slice Ao25 t430.length co25,.int .i64 t433] 25 (0,0)) (by (with_reducible repeat (first|refine blk_drewN ?_ _|refine blk_drew ?_|refine blk_alloc ?_ _));exact BK435.out) hb);have n9_:=Aside0.mk (blk_below (g:=gb444) (o:=.cells #[.slice Ao29 t436.length co29,.slice Ao34 t439.length co34,.int .i64 t442] 25 (0,0)) (by (with_reducible repeat (first|refine blk_drewN ?_ _|refine blk_drew ?_|refine blk_alloc ?_ _));exact BK444.out) hb);have n10_:=Aside0.mk (below_step (by repeat (first|(with_reducible first|exact HB.out|apply below_alloc|apply pw_below_drewN|apply below_drew1|refine below_set ?_ GE425.out|refine below_set ?_ GE426.out|refine below_set ?_ GE435.out|refine below_set ?_ GE444.out)|exact HB.out)) hb);clear HO429 HO432 HO438 HO441 HO447 HO451 BK425 BK426 BK435 BK444 HB;have HO429:=n0_;have HO432:=n1_;have HO438:=n2_;have HO441:=n3_;have HO447:=n4_;have HO451:=n5_;have BK425:=n6_;have BK426:=n7_;have BK435:=n8_;have BK444:=n9_;have HB:=n10_;clear n0_ n1_ n2_ n3_ n4_ n5_ n6_ n7_ n8_ n9_ n10_;(try clear hb);(try clear hb2);(try clear hk);(try clear hi);have hcz42_0:w41.cell? ⟨gb435,0,none⟩=some (.slice Ao21 t427.length co21):=(blk_cell BK435.out 0).trans rfl;have hcz42_1:w41.cell? ⟨gb435,1,none⟩=some (.slice Ao25 t430.length co25):=(blk_cell BK435.out 1).trans rfl;have hcz42_2:w41.cell? ⟨gb435,2,none⟩=some (.int .i64 t433):=(blk_cell BK435.out 2).trans rfl;have hfz42_0:=blk_frozen BK435.out 0;have hfz42_1:=blk_frozen BK435.out 1;have hfz42_2:=blk_frozen BK435.out 2;have hcz43_0:w41.cell? ⟨gb444,0,none⟩=some (.slice Ao29 t436.length co29):=(blk_cell BK444.out 0).trans rfl;have hcz43_1:w41.cell? ⟨gb444,1,none⟩=some (.slice Ao34 t439.length co34):=(blk_cell BK444.out 1).trans rfl;have hcz43_2:w41.cell? ⟨gb444,2,none⟩=some (.int .i64 t442):=(blk_cell BK444.out 2).trans rfl;have hfz43_0:=blk_frozen BK444.out 0;have hfz43_1:=blk_frozen BK444.out 1;have hfz43_2:=blk_frozen BK444.out 2)|(go_at_call 16;(with_reducible refine (slipwayref06_Same.calls k _ _ t427 _ _ t430 t433 _ _ t436 _ _ t439 t442 true _ ?side1 ?side2 ?side3 ?side4 ?side5 ?side6 ?side7 ?side8 A10.out).mono ?_);(case side1=>repeat (first|exact (Kd.R_reads' HO429.out).2.2|(with_reducible refine Kd.C_alloc ?_ _)|(with_reducible refine Kd.C_drewN ?_ _)|(with_reducible refine Kd.C_drew ?_)));(case side2=>exact (Kd.R_reads' HO429.out).2.1);(case side3=>repeat (first|exact (Kd.R_reads' HO432.out).2.2|(with_reducible refine Kd.C_alloc ?_ _)|(with_reducible refine Kd.C_drewN ?_ _)|(with_reducible refine Kd.C_drew ?_)));(case side4=>exact (Kd.R_reads' HO432.out).2.1);(case side5=>repeat (first|exact (Kd.R_reads' HO438.out).2.2|(with_reducible refine Kd.C_alloc ?_ _)|(with_reducible refine Kd.C_drewN ?_ _)|(with_reducible refine Kd.C_drew ?_)));(case side6=>exact (Kd.R_reads' HO438.out).2.1);(case side7=>repeat (first|exact (Kd.R_reads' HO441.out).2.2|(with_reducible refine Kd.C_alloc ?_ _)|(with_reducible refine Kd.C_drewN ?_ _)|(with_reducible refine Kd.C_drew ?_)));(case side8=>exact (Kd.R_reads' HO441.out).2.1);rintro e w44 ⟨rfl,hb⟩;have n0_:=Aside0.mk (Kd.R_below (by (with_reducible repeat (first|apply Kd.R_alloc|apply Kd.R_drewN|apply Kd.R_drew));exact HO429.out) hb);have n1_:=Aside0.mk (Kd.R_below (by (with_reducible repeat (first|apply Kd.R_alloc|apply Kd.R_drewN|apply Kd.R_drew));exact HO432.out) hb);have n2_:=Aside0.mk (Kd.R_below (by (with_reducible repeat (first|apply Kd.R_alloc|apply Kd.R_drewN|apply Kd.R_drew));exact HO438.out) hb);have n3_:=Aside0.mk (Kd.R_below (by (with_reducible repeat (first|apply Kd.R_alloc|apply Kd.R_drewN|apply Kd.R_drew));exact HO441.out) hb);have n4_:=Aside0.mk (Kd.R_below (by (with_reducible repeat (first|apply Kd.R_alloc|apply Kd.R_drewN|apply Kd.R_drew));exact HO447.out) hb);have n5_:=Aside0.mk (Kd.R_below (by (with_reducible repeat (first|apply Kd.R_alloc|apply Kd.R_drewN|apply Kd.R_drew));exact HO451.out) hb);have n6_:=Aside0.mk (blk_below (g:=gb425) (o:=.cells #[.slice A0_0 l0_0.length c0_0,.slice A0_1 l0_1.length c0_1,.int .i64 a0_2] 25 (0,0)) (by (with_reducible repeat (first|refine blk_drewN ?_ _|refine blk_drew ?_|refine blk_alloc ?_ _));exact BK425.out) hb);have n7_:=Aside0.mk (blk_below (g:=gb426) (o:=.cells #[.slice A1_0 l1_0.length c1_0,.slice A1_1 l1_1.length c1_1,.int .i64 a1_2] 25 (0,0)) (by (with_reducible repeat (first|refine blk_drewN ?_ _|refine blk_drew ?_|refine blk_alloc ?_ _));exact BK426.out) hb);have n8_:=Aside0.mk (blk_below (g:=gb435) (o:=.cells #[.slice Ao21 t427.length co21,.slice Ao25 t430.length co25,.int .i64 t433] 25 (0,0)) (by (with_reducible repeat (first|refine blk_drewN ?_ _|refine blk_drew ?_|refine blk_alloc ?_ _));exact BK435.out) hb);have n9_:=Aside0.mk (blk_below (g:=gb444) (o:=.cells #[.slice Ao29 t436.length co29,.slice Ao34 t439.length co34,.int .i64 t442] 25 (0,0)) (by (with_reducible repeat (first|refine blk_drewN ?_ _|refine blk_drew ?_|refine blk_alloc ?_ _));exact BK444.out) hb);have n10_:=Aside0.mk (below_step (by repeat (first|(with_reducible first|exact HB.out|apply below_alloc|apply pw_below_drewN|apply below_drew1|refine below_set ?_ GE425.out|refine below_set ?_ GE426.out|refine below_set ?_ GE435.out|refine below_set ?_ GE444.out)|exact HB.out)) hb);clear HO429 HO432 HO438 HO441 HO447 HO451 BK425 BK426 BK435 BK444 HB;have HO429:=n0_;have HO432:=n1_;have HO438:=n2_;have HO441:=n3_;have HO447:=n4_;have HO451:=n5_;have BK425:=n6_;have BK426:=n7_;have BK435:=n8_;have BK444:=n9_;have HB:=n10_;clear n0_ n1_ n2_ n3_ n4_ n5_ n6_ n7_ n8_ n9_ n10_;(try clear hb);(try clear hb2);(try clear hk);(try clear hi);obtain ⟨Ao45,co45,eo45⟩:=Kd.R_slice HO447.out;subst eo45;obtain ⟨Ao46,co46,eo46⟩:=Kd.R_slice HO451.out;subst eo46)|(go_at_call 26;(with_reducible refine (slipwayref06_SameRecords.calls k _ _ t445 _ _ t449 true _ ?side1 ?side2 ?side3 ?side4 A13.out).mono ?_);(case side1=>repeat (first|exact (Kd.R_reads' HO447.out).2.2|(with_reducible refine Kd.C_alloc ?_ _)|(with_reducible refine Kd.C_drewN ?_ _)|(with_reducible refine Kd.C_drew ?_)));(case side2=>exact (Kd.R_reads' HO447.out).2.1);(case side3=>repeat (first|exact (Kd.R_reads' HO451.out).2.2|(with_reducible refine Kd.C_alloc ?_ _)|(with_reducible refine Kd.C_drewN ?_ _)|(with_reducible refine Kd.C_drew ?_)));(case side4=>exact (Kd.R_reads' HO451.out).2.1);rintro e w' ⟨rfl,⟨nd,rfl⟩⟩))
     go_ret
     exact ⟨by first|rfl|(simp [errW_none,errW_some] <;> rfl)|(simp [*,errW_none,errW_some] <;> rfl),by repeat (first|(with_reducible first|exact HB.out|apply below_alloc|apply pw_below_drewN|apply below_drew1|refine below_set ?_ GE425.out|refine below_set ?_ GE426.out|refine below_set ?_ GE435.out|refine below_set ?_ GE444.out)|exact HB.out)⟩
    ·replace c14:=Bool.eq_false_iff.mpr c14
     subst c14
     have H1:(none)=some r:=by rw [if_neg (show ¬ (false=true) by decide)] at H;exact H
     clear H
     have H:=H1
     clear H1
     exact absurd H (by simp)
   ·rw [if_neg c12] at H
    exact absurd H (by simp)
  ·replace c11:=Bool.eq_false_iff.mpr c11
   subst c11
   have H1:(none)=some r:=by rw [if_neg (show ¬ (false=true) by decide)] at H;exact H
   clear H
   have H:=H1
   clear H1
   exact absurd H (by simp)
 ·replace c9:=Bool.eq_false_iff.mpr c9
  subst c9
  have H1:(none)=some r:=by rw [if_neg (show ¬ (false=true) by decide)] at H;exact H
  clear H
  have H:=H1
  clear H1
  exact absurd H (by simp)
/-- THE ONE PURE STATEMENT of slipwaylaw06_MapChanges: yours. -/
def slipwaylaw06_MapChanges.Pure:Prop:=∀ (l0_0:List Bool) (l0_1:List Int) (a0_2:Int) (l1_0:List Bool) (l1_1:List Int) (a1_2:Int) (l2:List (S55)),(l0_0.length≤maxLen∧l0_0.length * 1≤140737488351232∧∀ x ∈ l0_0,True) → (l0_1.length≤maxLen∧l0_1.length * 8≤140737488351232∧∀ x ∈ l0_1,(Lit.int .i64 x).wf=true) → (Lit.int .i64 a0_2).wf=true → (l1_0.length≤maxLen∧l1_0.length * 1≤140737488351232∧∀ x ∈ l1_0,True) → (l1_1.length≤maxLen∧l1_1.length * 8≤140737488351232∧∀ x ∈ l1_1,(Lit.int .i64 x).wf=true) → (Lit.int .i64 a1_2).wf=true → (l2.length≤maxLen∧l2.length * 24≤140737488351232∧∀ x ∈ l2,((Lit.int .i64 x.f0).wf=true∧((Lit.int .i64 x.f1).wf=true∧(Lit.int .i64 x.f2).wf=true))) → ∃ k,slipwaylaw06_MapChanges.f k l0_0 l0_1 a0_2 l1_0 l1_1 a1_2 l2=some true
theorem slipwaylaw06_MapChanges.walk (P:slipwaylaw06_MapChanges.Pure) (A0_0:Option Addr) (c0_0:Nat) (l0_0:List Bool) (A0_1:Option Addr) (c0_1:Nat) (l0_1:List Int) (a0_2:Int) (A1_0:Option Addr) (c1_0:Nat) (l1_0:List Bool) (A1_1:Option Addr) (c1_1:Nat) (l1_1:List Int) (a1_2:Int) (A2:Option Addr) (c2:Nat) (l2:List (S55)) (w:World) (hr0_0:Kd.C Kd.bool w A0_0 l0_0.length l0_0) (hc0_0:l0_0.length≤c0_0) (hr0_1:Kd.C (Kd.int .i64) w A0_1 l0_1.length l0_1) (hc0_1:l0_1.length≤c0_1) (hr1_0:Kd.C Kd.bool w A1_0 l1_0.length l1_0) (hc1_0:l1_0.length≤c1_0) (hr1_1:Kd.C (Kd.int .i64) w A1_1 l1_1.length l1_1) (hc1_1:l1_1.length≤c1_1) (hr2:Kd.C k55 w A2 l2.length l2) (hc2:l2.length≤c2) (w0_0:(l0_0.length≤maxLen∧l0_0.length * 1≤140737488351232∧∀ x ∈ l0_0,True)) (w0_1:(l0_1.length≤maxLen∧l0_1.length * 8≤140737488351232∧∀ x ∈ l0_1,(Lit.int .i64 x).wf=true)) (w0_2:(Lit.int .i64 a0_2).wf=true) (w1_0:(l1_0.length≤maxLen∧l1_0.length * 1≤140737488351232∧∀ x ∈ l1_0,True)) (w1_1:(l1_1.length≤maxLen∧l1_1.length * 8≤140737488351232∧∀ x ∈ l1_1,(Lit.int .i64 x).wf=true)) (w1_2:(Lit.int .i64 a1_2).wf=true) (w2:(l2.length≤maxLen∧l2.length * 24≤140737488351232∧∀ x ∈ l2,((Lit.int .i64 x.f0).wf=true∧((Lit.int .i64 x.f1).wf=true∧(Lit.int .i64 x.f2).wf=true)))) :
  Calls Try.prog 4 #[.agg #[.slice A0_0 l0_0.length c0_0,.slice A0_1 l0_1.length c0_1,.int .i64 a0_2],.agg #[.slice A1_0 l1_0.length c1_0,.slice A1_1 l1_1.length c1_1,.int .i64 a1_2],.slice A2 l2.length c2] w fun e w'=>e=.returned (.bool true)∧Below w.heap.size w w':=by
 obtain ⟨k,h⟩:=P l0_0 l0_1 a0_2 l1_0 l1_1 a1_2 l2 w0_0 w0_1 w0_2 w1_0 w1_1 w1_2 w2
 refine (slipwaylaw06_MapChanges.calls k A0_0 c0_0 l0_0 A0_1 c0_1 l0_1 a0_2 A1_0 c1_0 l1_0 A1_1 c1_1 l1_1 a1_2 A2 c2 l2 true w hr0_0 hc0_0 hr0_1 hc0_1 hr1_0 hc1_0 hr1_1 hc1_1 hr2 hc2 h).mono ?_
 rintro e w' ⟨rfl,hd⟩
 exact ⟨rfl,hd⟩
end Go.Proofs.Ytkhbmgclklmimaa.Print
end
