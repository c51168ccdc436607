/- Texts of the proof of MapChanges, part 16. -/
import Derived.Test.YtkhbmgclklmimaaMapChangesM14
import Derived.Test.YtkhbmgclklmimaaMapChangesM15
section
namespace Go.Proofs.Ytkhbmgclklmimaa.Print
open Go.RowKit Go.Proofs.YtkhbmgclklmimaaW.PrintWords Go.Proofs.YtkhbmgclklmimaaW.PrintLast Go.Proofs.YtkhbmgclklmimaaW.PrintMore
attribute [local go_sem] max2_int min2_int max_two min_two max_three min_three max_four min_four   -- for this text's walks alone
attribute [local go_sem ↓] Go.Proofs.Ytkhbmgclklmimaa.Sem.isSome_setCell
attribute [local go_sem] Go.Instr.field Go.asAgg
set_option linter.unusedVariables false
set_option linter.unusedSimpArgs false
mutual
def slipwayref06_Join.j0:Nat → Bool → List Bool → List Int → Int → List Bool → List Int → Int → Option (List Bool × List Int × Int × Int)
 | 0,_,_,_,_,_,_,_=>none
 | k + 1,x16,x185000,x185001,x185002,x186000,x186001,x186002=>if x16=true then (some (([]:List Bool),([]:List Int),0,60)) else (if (x185000.length:Int)=(x186000.length:Int) then ((slipwayref06_Clone.f x185000 x185001 x185002).bind fun bt189=>(slipwayref06_Join.l0 k 0 x186000 x186001 x186002 bt189.1 bt189.2.1 bt189.2.2)) else (some (([]:List Bool),([]:List Int),0,1)))
def slipwayref06_Join.l0:Nat → Int → List Bool → List Int → Int → List Bool → List Int → Int → Option (List Bool × List Int × Int × Int)
 | 0,_,_,_,_,_,_,_=>none
 | k + 1,x7,x186000,x186001,x186002,x197000,x197001,x197002=>if x7 < (x186000.length:Int) then (if 0≤x7 then (if x7 < (x197000.length:Int) then (if rdOf false x197000 x7=true then (slipwayref06_Join.l0 k (wrap64 (x7 + 1)) x186000 x186001 x186002 (x197000.set (x7:Int).toNat true) x197001 x197002) else (slipwayref06_Join.l0 k (wrap64 (x7 + 1)) x186000 x186001 x186002 (x197000.set (x7:Int).toNat (rdOf false x186000 x7)) x197001 x197002)) else (none)) else (none)) else (slipwayref06_Join.l1 k 0 x186000 x186001 x186002 x197000 x197001 x197002)
def slipwayref06_Join.l1:Nat → Int → List Bool → List Int → Int → List Bool → List Int → Int → Option (List Bool × List Int × Int × Int)
 | 0,_,_,_,_,_,_,_=>none
 | k + 1,x8,x186000,x186001,x186002,x197000,x197001,x197002=>if x8 < (x186001.length:Int) then (if 0≤x8 then (if x8 < (x197001.length:Int) then (slipwayref06_Join.l1 k (wrap64 (x8 + 1)) x186000 x186001 x186002 x197000 (x197001.set (x8:Int).toNat (mx (rd x197001 x8) (rd x186001 x8))) x197002) else (none)) else (none)) else (some (x197000,x197001,mx x197002 x186002,0))
end
def slipwayref06_Join.f (k:Nat) (l0_0:List Bool) (l0_1:List Int) (a0_2:Int) (l1_0:List Bool) (l1_1:List Int) (a1_2:Int):Option (List Bool × List Int × Int × Int):=(slipwayref06_Check.f k l0_0 l0_1 a0_2).bind fun t187=>(if t187=0 then ((slipwayref06_Check.f k l1_0 l1_1 a1_2).bind fun t188=>(slipwayref06_Join.j0 k (t188 != 0) l0_0 l0_1 a0_2 l1_0 l1_1 a1_2)) else (slipwayref06_Join.j0 k true l0_0 l0_1 a0_2 l1_0 l1_1 a1_2))
def slipwayref06_Join.T9:Bool × List (List Nat × List Nat):=(true,[([],[]),([0],[0]),([],[]),([],[]),([3],[3]),([],[]),([4,5],[4,5]),([6],[6]),([7],[7]),([8],[8]),([9,8],[8,9]),([8],[8]),([10,11,8],[8,10,11]),([12,8],[8,12]),([8,13],[8,13]),([1,2,0,1,2,3,4,5,6,7,8,9,10,11,12,13,14],[1,2]),([15,14,8,0,1,2,3,4,5,6,7,8,9,10,11,12,13,14],[14,15])])
def slipwayref06_Join.B9:List Nat:=[0,1,0,0,8,0,56,120,248,504,1016,504,4088,8184,16376,32767,65535]
theorem slipwayref06_Join.tab9:rtab .any (opsOf Try.f14 9)=slipwayref06_Join.T9:=by kernel_rfl
theorem slipwayref06_Join.bits9:waitsOk slipwayref06_Join.T9.2 slipwayref06_Join.B9=true:=by kernel_rfl
def slipwayref06_Join.T13:Bool × List (List Nat × List Nat):=(true,[([],[]),([0],[0]),([],[]),([],[]),([3],[3]),([],[]),([4,5],[4,5]),([6],[6]),([],[]),([8],[8]),([],[]),([9,10],[9,10]),([11],[11]),([7,12],[7,12]),([1,2,0,1,2,3,4,5,6,7,8,9,10,11,12,13],[1,2]),([14,13,0,1,2,3,4,5,6,7,8,9,10,11,12,13],[13,14])])
def slipwayref06_Join.B13:List Nat:=[0,1,0,0,8,0,56,120,0,256,0,1792,3840,8184,16383,32767]
theorem slipwayref06_Join.tab13:rtab .any (opsOf Try.f14 13)=slipwayref06_Join.T13:=by kernel_rfl
theorem slipwayref06_Join.bits13:waitsOk slipwayref06_Join.T13.2 slipwayref06_Join.B13=true:=by kernel_rfl
set_option maxHeartbeats 8000000 in
set_option maxRecDepth 100000 in
theorem slipwayref06_Join.calls (k:Nat) (A0_0:Option Addr) (c0_0:Nat) (l0_0:List Bool) (A0_1:Option Addr) (c0_1:Nat) (l0_1:List Int) (a0_2:Int) (A1_0:Option Addr) (c1_0:Nat) (l1_0:List Bool) (A1_1:Option Addr) (c1_1:Nat) (l1_1:List Int) (a1_2:Int) (r1:List Bool) (r2:List Int) (r3:Int) (r4:Int) (w:World) (hr0_0:Kd.C Kd.bool w A0_0 l0_0.length l0_0) (hc0_0:l0_0.length≤c0_0) (hr0_1:Kd.C (Kd.int .i64) w A0_1 l0_1.length l0_1) (hc0_1:l0_1.length≤c0_1) (hr1_0:Kd.C Kd.bool w A1_0 l1_0.length l1_0) (hc1_0:l1_0.length≤c1_0) (hr1_1:Kd.C (Kd.int .i64) w A1_1 l1_1.length l1_1) (hc1_1:l1_1.length≤c1_1) (h:slipwayref06_Join.f k l0_0 l0_1 a0_2 l1_0 l1_1 a1_2=some (r1,r2,r3,r4)) :
  Calls Try.prog 14 #[.agg #[.slice A0_0 l0_0.length c0_0,.slice A0_1 l0_1.length c0_1,.int .i64 a0_2],.agg #[.slice A1_0 l1_0.length c1_0,.slice A1_1 l1_1.length c1_1,.int .i64 a1_2]] w fun e w'=>∃ v0_ v1_:Value,e=.returned (.tuple #[.agg #[v0_,v1_,.int .i64 r3],.int .i64 r4])∧Kd.R Kd.bool 4 w' w.heap.size (fun _=>True) v0_ r1∧Kd.R (Kd.int .i64) 2 w' w.heap.size (fun _=>True) v1_ r2∧Below w.heap.size w w':=by
 have hu25:=Try.underlying25
 have HR0_0:=Aside0.mk hr0_0
 have HC0_0:=Aside0.mk hc0_0
 clear hr0_0 hc0_0
 have HR0_1:=Aside0.mk hr0_1
 have HC0_1:=Aside0.mk hc0_1
 clear hr0_1 hc0_1
 have HR1_0:=Aside0.mk hr1_0
 have HC1_0:=Aside0.mk hc1_0
 clear hr1_0 hc1_0
 have HR1_1:=Aside0.mk hr1_1
 have HC1_1:=Aside0.mk hc1_1
 clear hr1_1 hc1_1
 have HB:=Aside0.mk (Below.refl w.heap.size w)
 have H:((slipwayref06_Check.f k l0_0 l0_1 a0_2).bind fun t187=>(if t187=0 then ((slipwayref06_Check.f k l1_0 l1_1 a1_2).bind fun t188=>(slipwayref06_Join.j0 k (t188 != 0) l0_0 l0_1 a0_2 l1_0 l1_1 a1_2)) else (slipwayref06_Join.j0 k true l0_0 l0_1 a0_2 l1_0 l1_1 a1_2)))=some (r1,r2,r3,r4):=h
 clear h
 have HC3:=Aside0.mk H
 clear H
 go_enter Try.func14,Try.ntmps14
 go_upto_region 1 with (first|((with_reducible refine gate_dst (N:=2) rfl ?_);refine box_event ?hg (N:=2) ?hd (cs:=#[.slice A0_0 l0_0.length c0_0,.slice A0_1 l0_1.length c0_1,.int .i64 a0_2]) (t:=25) ?hr ?_;(case hd=>rfl);(case hg=>rfl);(case hr=>first|(go_simp;done)|(go_simp;rfl));intro gb184 hg w4 hbox hb;have n0_:=Aside0.mk (below_step (by repeat (first|(with_reducible first|exact HB.out|apply below_alloc|apply pw_below_drewN|apply below_drew1)|exact HB.out)) hb);have n1_:=Aside0.mk (hbox);have n2_:=Aside0.mk ((by rw [hg];exact (below_size (by repeat (first|(with_reducible first|exact HB.out|apply below_alloc|apply pw_below_drewN|apply below_drew1)|exact HB.out))):w.heap.size≤gb184));have n3_:=Aside0.mk ((by rw [hg];exact (below_size (by repeat (first|(with_reducible first|exact HB.out|apply below_alloc|apply pw_below_drewN|apply below_drew1)|exact HB.out))):w.heap.size≤gb184));clear HB;have HB:=n0_;have BK184:=n1_;have GW184:=n2_;have GE184:=n3_;clear n0_ n1_ n2_ n3_;clear hb hbox hg)|((with_reducible refine gate_dst (N:=3) rfl ?_);refine box_event ?hg (N:=3) ?hd (cs:=#[.slice A1_0 l1_0.length c1_0,.slice A1_1 l1_1.length c1_1,.int .i64 a1_2]) (t:=25) ?hr ?_;(case hd=>rfl);(case hg=>rfl);(case hr=>first|(go_simp;done)|(go_simp;rfl));intro gb185 hg w5 hbox hb;have n0_:=Aside0.mk (blk_below (g:=gb184) (o:=.cells #[.slice A0_0 l0_0.length c0_0,.slice A0_1 l0_1.length c0_1,.int .i64 a0_2] 25 (0,0)) (by (with_reducible repeat (first|refine blk_drewN ?_ _|refine blk_drew ?_|refine blk_alloc ?_ _));exact BK184.out) hb);have n1_:=Aside0.mk (below_step (by repeat (first|(with_reducible first|exact HB.out|apply below_alloc|apply pw_below_drewN|apply below_drew1|refine below_set ?_ GE184.out)|exact HB.out)) hb);have n2_:=Aside0.mk (hbox);have n3_:=Aside0.mk ((by rw [hg];exact (below_size (by repeat (first|(with_reducible first|exact HB.out|apply below_alloc|apply pw_below_drewN|apply below_drew1|refine below_set ?_ GE184.out)|exact HB.out))):w.heap.size≤gb185));have n4_:=Aside0.mk ((by rw [hg];exact (below_size (by repeat (first|(with_reducible first|exact HB.out|apply below_alloc|apply pw_below_drewN|apply below_drew1|refine below_set ?_ GE184.out)|exact HB.out))):w.heap.size≤gb185));have n5_:=Aside0.mk ((by rw [hg];exact Nat.ne_of_lt (blk_lt (g:=gb184) (o:=.cells #[.slice A0_0 l0_0.length c0_0,.slice A0_1 l0_1.length c0_1,.int .i64 a0_2] 25 (0,0)) (by (with_reducible repeat (first|refine blk_drewN ?_ _|refine blk_drew ?_|refine blk_alloc ?_ _));exact BK184.out)):gb184≠gb185));have n6_:=Aside0.mk ((by rw [hg];exact Nat.ne_of_gt (blk_lt (g:=gb184) (o:=.cells #[.slice A0_0 l0_0.length c0_0,.slice A0_1 l0_1.length c0_1,.int .i64 a0_2] 25 (0,0)) (by (with_reducible repeat (first|refine blk_drewN ?_ _|refine blk_drew ?_|refine blk_alloc ?_ _));exact BK184.out)):gb185≠gb184));clear BK184 HB;have BK184:=n0_;have HB:=n1_;have BK185:=n2_;have GW185:=n3_;have GE185:=n4_;have NB184_185:=n5_;have NB185_184:=n6_;clear n0_ n1_ n2_ n3_ n4_ n5_ n6_;clear hb hbox hg)|((with_reducible refine gate_dst (N:=4) rfl ?_);refine box_event ?hg (N:=4) ?hd (cs:=#[.slice none 0 0,.slice none 0 0,.int .i64 0]) (t:=25) ?hr ?_;(case hd=>rfl);(case hg=>rfl);(case hr=>first|(go_simp;done)|(go_simp;rfl));intro gb186 hg w6 hbox hb;have n0_:=Aside0.mk (blk_below (g:=gb184) (o:=.cells #[.slice A0_0 l0_0.length c0_0,.slice A0_1 l0_1.length c0_1,.int .i64 a0_2] 25 (0,0)) (by (with_reducible repeat (first|refine blk_drewN ?_ _|refine blk_drew ?_|refine blk_alloc ?_ _));exact BK184.out) hb);have n1_:=Aside0.mk (blk_below (g:=gb185) (o:=.cells #[.slice A1_0 l1_0.length c1_0,.slice A1_1 l1_1.length c1_1,.int .i64 a1_2] 25 (0,0)) (by (with_reducible repeat (first|refine blk_drewN ?_ _|refine blk_drew ?_|refine blk_alloc ?_ _));exact BK185.out) hb);have n2_:=Aside0.mk (below_step (by repeat (first|(with_reducible first|exact HB.out|apply below_alloc|apply pw_below_drewN|apply below_drew1|refine below_set ?_ GE184.out|refine below_set ?_ GE185.out)|exact HB.out)) hb);have n3_:=Aside0.mk (hbox);have n4_:=Aside0.mk ((by rw [hg];exact (below_size (by repeat (first|(with_reducible first|exact HB.out|apply below_alloc|apply pw_below_drewN|apply below_drew1|refine below_set ?_ GE184.out|refine below_set ?_ GE185.out)|exact HB.out))):w.heap.size≤gb186));have n5_:=Aside0.mk ((by rw [hg];exact (below_size (by repeat (first|(with_reducible first|exact HB.out|apply below_alloc|apply pw_below_drewN|apply below_drew1|refine below_set ?_ GE184.out|refine below_set ?_ GE185.out)|exact HB.out))):w.heap.size≤gb186));have n6_:=Aside0.mk ((by rw [hg];exact Nat.ne_of_lt (blk_lt (g:=gb184) (o:=.cells #[.slice A0_0 l0_0.length c0_0,.slice A0_1 l0_1.length c0_1,.int .i64 a0_2] 25 (0,0)) (by (with_reducible repeat (first|refine blk_drewN ?_ _|refine blk_drew ?_|refine blk_alloc ?_ _));exact BK184.out)):gb184≠gb186));have n7_:=Aside0.mk ((by rw [hg];exact Nat.ne_of_gt (blk_lt (g:=gb184) (o:=.cells #[.slice A0_0 l0_0.length c0_0,.slice A0_1 l0_1.length c0_1,.int .i64 a0_2] 25 (0,0)) (by (with_reducible repeat (first|refine blk_drewN ?_ _|refine blk_drew ?_|refine blk_alloc ?_ _));exact BK184.out)):gb186≠gb184));have n8_:=Aside0.mk ((by rw [hg];exact Nat.ne_of_lt (blk_lt (g:=gb185) (o:=.cells #[.slice A1_0 l1_0.length c1_0,.slice A1_1 l1_1.length c1_1,.int .i64 a1_2] 25 (0,0)) (by (with_reducible repeat (first|refine blk_drewN ?_ _|refine blk_drew ?_|refine blk_alloc ?_ _));exact BK185.out)):gb185≠gb186));have n9_:=Aside0.mk ((by rw [hg];exact Nat.ne_of_gt (blk_lt (g:=gb185) (o:=.cells #[.slice A1_0 l1_0.length c1_0,.slice A1_1 l1_1.length c1_1,.int .i64 a1_2] 25 (0,0)) (by (with_reducible repeat (first|refine blk_drewN ?_ _|refine blk_drew ?_|refine blk_alloc ?_ _));exact BK185.out)):gb186≠gb185));clear BK184 BK185 HB;have BK184:=n0_;have BK185:=n1_;have HB:=n2_;have BK186:=n3_;have GW186:=n4_;have GE186:=n5_;have NB184_186:=n6_;have NB186_184:=n7_;have NB185_186:=n8_;have NB186_185:=n9_;clear n0_ n1_ n2_ n3_ n4_ n5_ n6_ n7_ n8_ n9_;clear hb hbox hg))
 (try simp only [Act.put,List.setIfInBounds_toArray,List.set_cons_zero,List.set_cons_succ])
 go_cut [16] (fun v16 wc=>∃ (kq:Nat) (x16_2:Bool),v16=.bool x16_2∧Aside0 (slipwayref06_Join.j0 kq x16_2 l0_0 l0_1 a0_2 l1_0 l1_1 a1_2=some (r1,r2,r3,r4))∧Aside0 (kq≤k)∧Aside0 (wc.heap[gb184]?=some (.cells #[(.slice A0_0 l0_0.length c0_0),(.slice A0_1 l0_1.length c0_1),.int .i64 a0_2] 25 (0,0)))∧Aside0 (wc.heap[gb185]?=some (.cells #[(.slice A1_0 l1_0.length c1_0),(.slice A1_1 l1_1.length c1_1),.int .i64 a1_2] 25 (0,0)))∧Aside0 (wc.heap[gb186]?=some (.cells #[(.slice none 0 0),(.slice none 0 0),.int .i64 0] 25 (0,0)))∧Aside0 (Below w.heap.size w wc))
 case first =>
  have H:=HC3.out
  clear HC3
  replace H:=Option.bind_eq_some_iff.mp H
  obtain ⟨t187,A70,H⟩:=H
  replace H:(if t187=0 then ((slipwayref06_Check.f k l1_0 l1_1 a1_2).bind fun t188=>(slipwayref06_Join.j0 k (t188 != 0) l0_0 l0_1 a0_2 l1_0 l1_1 a1_2)) else (slipwayref06_Join.j0 k true l0_0 l0_1 a0_2 l1_0 l1_1 a1_2))=some (r1,r2,r3,r4):=H
  have A7:=Aside0.mk A70
  clear A70
  by_cases c8:t187=0
  ·rw [if_pos c8] at H
   have c8b0:(t187 == 0)=true:=beq_iff_eq.mpr c8
   have c8b1:(t187 != 0)=false:=bne_eq_false_iff_eq.mpr c8
   clear c8
   (first|rw [c8b0]|(simp only [i64_w,i32_w];rw [c8b0])|skip)
   replace H:=Option.bind_eq_some_iff.mp H
   obtain ⟨t188,A90,H⟩:=H
   replace H:(slipwayref06_Join.j0 k (t188 != 0) l0_0 l0_1 a0_2 l1_0 l1_1 a1_2)=some (r1,r2,r3,r4):=H
   have A9:=Aside0.mk A90
   clear A90
   have H':=Aside0.mk H
   clear H
   have hnb10:=NB184_185.out
   have hnc10:=NB185_184.out
   have hnb11:=NB184_186.out
   have hnc11:=NB186_184.out
   have hcz12_0:w6.cell? ⟨gb184,0,none⟩=some (.slice A0_0 l0_0.length c0_0):=(blk_cell BK184.out 0).trans rfl
   have hcz12_1:w6.cell? ⟨gb184,1,none⟩=some (.slice A0_1 l0_1.length c0_1):=(blk_cell BK184.out 1).trans rfl
   have hcz12_2:w6.cell? ⟨gb184,2,none⟩=some (.int .i64 a0_2):=(blk_cell BK184.out 2).trans rfl
   have hfz12_0:=blk_frozen BK184.out 0
   have hfz12_1:=blk_frozen BK184.out 1
   have hfz12_2:=blk_frozen BK184.out 2
   go_wp2_with (first|((with_reducible refine gate_callee (f:=18) rfl ?_);refine goesL_ (some 10) rfl rfl Try.func18 (by kernel_rfl) rfl #[.agg #[.slice A0_0 l0_0.length c0_0,.slice A0_1 l0_1.length c0_1,.int .i64 a0_2]] rfl (by (try simp only [List.map_toArray,List.map_cons,List.map_nil]);first|done|rfl|(simp only [List.length_drop,List.length_take];rfl)) ?_;(with_reducible refine (slipwayref06_Check.calls k _ _ l0_0 _ _ l0_1 a0_2 t187 _ ?side1 ?side2 ?side3 ?side4 A7.out).mono ?_);(case side1=>repeat (first|exact (Kd.C_below HR0_0.out HB.out)|(with_reducible refine Kd.C_alloc ?_ _)|(with_reducible refine Kd.C_drewN ?_ _)|(with_reducible refine Kd.C_drew ?_)));(case side2=>exact HC0_0.out);(case side3=>repeat (first|exact (Kd.C_below HR0_1.out HB.out)|(with_reducible refine Kd.C_alloc ?_ _)|(with_reducible refine Kd.C_drewN ?_ _)|(with_reducible refine Kd.C_drew ?_)));(case side4=>exact HC0_1.out);rintro e w13 ⟨rfl,hb⟩;refine ⟨_,rfl,?_⟩;have n0_:=Aside0.mk (blk_below (g:=gb184) (o:=.cells #[.slice A0_0 l0_0.length c0_0,.slice A0_1 l0_1.length c0_1,.int .i64 a0_2] 25 (0,0)) (by (with_reducible repeat (first|refine blk_drewN ?_ _|refine blk_drew ?_|refine blk_alloc ?_ _));exact BK184.out) hb);have n1_:=Aside0.mk (blk_below (g:=gb185) (o:=.cells #[.slice A1_0 l1_0.length c1_0,.slice A1_1 l1_1.length c1_1,.int .i64 a1_2] 25 (0,0)) (by (with_reducible repeat (first|refine blk_drewN ?_ _|refine blk_drew ?_|refine blk_alloc ?_ _));exact BK185.out) hb);have n2_:=Aside0.mk (blk_below (g:=gb186) (o:=.cells #[.slice none 0 0,.slice none 0 0,.int .i64 0] 25 (0,0)) (by (with_reducible repeat (first|refine blk_drewN ?_ _|refine blk_drew ?_|refine blk_alloc ?_ _));exact BK186.out) hb);have n3_:=Aside0.mk (below_step (by repeat (first|(with_reducible first|exact HB.out|apply below_alloc|apply pw_below_drewN|apply below_drew1|refine below_set ?_ GE184.out|refine below_set ?_ GE185.out|refine below_set ?_ GE186.out)|exact HB.out)) hb);clear BK184 BK185 BK186 HB;have BK184:=n0_;have BK185:=n1_;have BK186:=n2_;have HB:=n3_;clear n0_ n1_ n2_ n3_;(try clear hb);(try clear hb2);(try clear hk);(try clear hi);have hnb14:=NB185_186.out;have hnc14:=NB186_185.out;have hcz15_0:w13.cell? ⟨gb185,0,none⟩=some (.slice A1_0 l1_0.length c1_0):=(blk_cell BK185.out 0).trans rfl;have hcz15_1:w13.cell? ⟨gb185,1,none⟩=some (.slice A1_1 l1_1.length c1_1):=(blk_cell BK185.out 1).trans rfl;have hcz15_2:w13.cell? ⟨gb185,2,none⟩=some (.int .i64 a1_2):=(blk_cell BK185.out 2).trans rfl;have hfz15_0:=blk_frozen BK185.out 0;have hfz15_1:=blk_frozen BK185.out 1;have hfz15_2:=blk_frozen BK185.out 2)|(go_at_call 18;(with_reducible refine (slipwayref06_Check.calls k _ _ l1_0 _ _ l1_1 a1_2 t188 _ ?side1 ?side2 ?side3 ?side4 A9.out).mono ?_);(case side1=>repeat (first|exact (Kd.C_below HR1_0.out HB.out)|(with_reducible refine Kd.C_alloc ?_ _)|(with_reducible refine Kd.C_drewN ?_ _)|(with_reducible refine Kd.C_drew ?_)));(case side2=>exact HC1_0.out);(case side3=>repeat (first|exact (Kd.C_below HR1_1.out HB.out)|(with_reducible refine Kd.C_alloc ?_ _)|(with_reducible refine Kd.C_drewN ?_ _)|(with_reducible refine Kd.C_drew ?_)));(case side4=>exact HC1_1.out);rintro e w16 ⟨rfl,hb⟩;have n0_:=Aside0.mk (blk_below (g:=gb184) (o:=.cells #[.slice A0_0 l0_0.length c0_0,.slice A0_1 l0_1.length c0_1,.int .i64 a0_2] 25 (0,0)) (by (with_reducible repeat (first|refine blk_drewN ?_ _|refine blk_drew ?_|refine blk_alloc ?_ _));exact BK184.out) hb);have n1_:=Aside0.mk (blk_below (g:=gb185) (o:=.cells #[.slice A1_0 l1_0.length c1_0,.slice A1_1 l1_1.length c1_1,.int .i64 a1_2] 25 (0,0)) (by (with_reducible repeat (first|refine blk_drewN ?_ _|refine blk_drew ?_|refine blk_alloc ?_ _));exact BK185.out) hb);have n2_:=Aside0.mk (blk_below (g:=gb186) (o:=.cells #[.slice none 0 0,.slice none 0 0,.int .i64 0] 25 (0,0)) (by (with_reducible repeat (first|refine blk_drewN ?_ _|refine blk_drew ?_|refine blk_alloc ?_ _));exact BK186.out) hb);have n3_:=Aside0.mk (below_step (by repeat (first|(with_reducible first|exact HB.out|apply below_alloc|apply pw_below_drewN|apply below_drew1|refine below_set ?_ GE184.out|refine below_set ?_ GE185.out|refine below_set ?_ GE186.out)|exact HB.out)) hb);clear BK184 BK185 BK186 HB;have BK184:=n0_;have BK185:=n1_;have BK186:=n2_;have HB:=n3_;clear n0_ n1_ n2_ n3_;(try clear hb);(try clear hb2);(try clear hk);(try clear hi)))
   go_meet
   case rel=>exact ⟨_,((t188 != 0)),(by first|rfl|(simp;done)|(simp [*];done)),H',⟨by first|omega|exact Nat.le_refl _⟩,⟨by (with_reducible repeat (first|refine blk_drewN ?_ _|refine blk_drew ?_|refine blk_alloc ?_ _));exact BK184.out⟩,⟨by (with_reducible repeat (first|refine blk_drewN ?_ _|refine blk_drew ?_|refine blk_alloc ?_ _));exact BK185.out⟩,⟨by (with_reducible repeat (first|refine blk_drewN ?_ _|refine blk_drew ?_|refine blk_alloc ?_ _));exact BK186.out⟩,⟨by repeat (first|(with_reducible first|exact HB.out|apply below_alloc|apply pw_below_drewN|apply below_drew1|refine below_set ?_ GE184.out|refine below_set ?_ GE185.out|refine below_set ?_ GE186.out)|exact HB.out)⟩⟩
  ·rw [if_neg c8] at H
   have c8b0:(t187 == 0)=false:=beq_eq_false_iff_ne.mpr c8
   have c8b1:(t187 != 0)=true:=bne_iff_ne.mpr c8
   (first|rw [c8b0]|(simp only [i64_w,i32_w];rw [c8b0])|skip)
   have H':=Aside0.mk H
   clear H
   have hnb17:=NB184_185.out
   have hnc17:=NB185_184.out
   have hnb18:=NB184_186.out
   have hnc18:=NB186_184.out
   have hcz19_0:w6.cell? ⟨gb184,0,none⟩=some (.slice A0_0 l0_0.length c0_0):=(blk_cell BK184.out 0).trans rfl
   have hcz19_1:w6.cell? ⟨gb184,1,none⟩=some (.slice A0_1 l0_1.length c0_1):=(blk_cell BK184.out 1).trans rfl
   have hcz19_2:w6.cell? ⟨gb184,2,none⟩=some (.int .i64 a0_2):=(blk_cell BK184.out 2).trans rfl
   have hfz19_0:=blk_frozen BK184.out 0
   have hfz19_1:=blk_frozen BK184.out 1
   have hfz19_2:=blk_frozen BK184.out 2
   go_wp2_with (first|((with_reducible refine gate_callee (f:=18) rfl ?_);refine goesL_ (some 10) rfl rfl Try.func18 (by kernel_rfl) rfl #[.agg #[.slice A0_0 l0_0.length c0_0,.slice A0_1 l0_1.length c0_1,.int .i64 a0_2]] rfl (by (try simp only [List.map_toArray,List.map_cons,List.map_nil]);first|done|rfl|(simp only [List.length_drop,List.length_take];rfl)) ?_;(with_reducible refine (slipwayref06_Check.calls k _ _ l0_0 _ _ l0_1 a0_2 t187 _ ?side1 ?side2 ?side3 ?side4 A7.out).mono ?_);(case side1=>repeat (first|exact (Kd.C_below HR0_0.out HB.out)|(with_reducible refine Kd.C_alloc ?_ _)|(with_reducible refine Kd.C_drewN ?_ _)|(with_reducible refine Kd.C_drew ?_)));(case side2=>exact HC0_0.out);(case side3=>repeat (first|exact (Kd.C_below HR0_1.out HB.out)|(with_reducible refine Kd.C_alloc ?_ _)|(with_reducible refine Kd.C_drewN ?_ _)|(with_reducible refine Kd.C_drew ?_)));(case side4=>exact HC0_1.out);rintro e w20 ⟨rfl,hb⟩;refine ⟨_,rfl,?_⟩;have n0_:=Aside0.mk (blk_below (g:=gb184) (o:=.cells #[.slice A0_0 l0_0.length c0_0,.slice A0_1 l0_1.length c0_1,.int .i64 a0_2] 25 (0,0)) (by (with_reducible repeat (first|refine blk_drewN ?_ _|refine blk_drew ?_|refine blk_alloc ?_ _));exact BK184.out) hb);have n1_:=Aside0.mk (blk_below (g:=gb185) (o:=.cells #[.slice A1_0 l1_0.length c1_0,.slice A1_1 l1_1.length c1_1,.int .i64 a1_2] 25 (0,0)) (by (with_reducible repeat (first|refine blk_drewN ?_ _|refine blk_drew ?_|refine blk_alloc ?_ _));exact BK185.out) hb);have n2_:=Aside0.mk (blk_below (g:=gb186) (o:=.cells #[.slice none 0 0,.slice none 0 0,.int .i64 0] 25 (0,0)) (by (with_reducible repeat (first|refine blk_drewN ?_ _|refine blk_drew ?_|refine blk_alloc ?_ _));exact BK186.out) hb);have n3_:=Aside0.mk (below_step (by repeat (first|(with_reducible first|exact HB.out|apply below_alloc|apply pw_below_drewN|apply below_drew1|refine below_set ?_ GE184.out|refine below_set ?_ GE185.out|refine below_set ?_ GE186.out)|exact HB.out)) hb);clear BK184 BK185 BK186 HB;have BK184:=n0_;have BK185:=n1_;have BK186:=n2_;have HB:=n3_;clear n0_ n1_ n2_ n3_;(try clear hb);(try clear hb2);(try clear hk);(try clear hi)))
   go_meet
   case rel=>exact ⟨_,(true),(by first|rfl|(simp;done)|(simp [*];done)),H',⟨by first|omega|exact Nat.le_refl _⟩,⟨by (with_reducible repeat (first|refine blk_drewN ?_ _|refine blk_drew ?_|refine blk_alloc ?_ _));exact BK184.out⟩,⟨by (with_reducible repeat (first|refine blk_drewN ?_ _|refine blk_drew ?_|refine blk_alloc ?_ _));exact BK185.out⟩,⟨by (with_reducible repeat (first|refine blk_drewN ?_ _|refine blk_drew ?_|refine blk_alloc ?_ _));exact BK186.out⟩,⟨by repeat (first|(with_reducible first|exact HB.out|apply below_alloc|apply pw_below_drewN|apply below_drew1|refine below_set ?_ GE184.out|refine below_set ?_ GE185.out|refine below_set ?_ GE186.out)|exact HB.out)⟩⟩
 case rest =>
  clear HC3
  try clear c1
  try clear p2
  try clear c8
  try clear c8b0
  try clear c8b1
  try clear c10
  try clear c11
  try clear c14
  try clear c17
  try clear c18
  try clear hcz12_0
  try clear hcz12_1
  try clear hcz12_2
  try clear hcz15_0
  try clear hcz15_1
  try clear hcz15_2
  try clear hcz19_0
  try clear hcz19_1
  try clear hcz19_2
  try clear hfz12_0
  try clear hfz12_1
  try clear hfz12_2
  try clear hfz15_0
  try clear hfz15_1
  try clear hfz15_2
  try clear hfz19_0
  try clear hfz19_1
  try clear hfz19_2
  obtain ⟨kq,x16_2,rfl,HA,HJ2,BK184,BK185,BK186,HB⟩:=hcut
  cases kq with
  | zero=>exact absurd HA.out (by simp [slipwayref06_Join.j0])
  | succ kj2 =>
   have H:=HA.out
   clear HA
   simp only [slipwayref06_Join.j0] at H
   by_cases c21:x16_2=true
   ·subst c21
    have H1:(some (([]:List Bool),([]:List Int),0,60))=some (r1,r2,r3,r4):=by rw [if_pos rfl] at H;exact H
    clear H
    have H:=H1
    clear H1
    simp only [Option.some.injEq,Prod.mk.injEq] at H
    obtain ⟨rfl,rfl,rfl,rfl⟩:=H
    have hnb22:=NB186_184.out
    have hnc22:=NB184_186.out
    have hnb23:=NB186_185.out
    have hnc23:=NB185_186.out
    have hcz24_0:wc.cell? ⟨gb186,0,none⟩=some (.slice none 0 0):=(blk_cell BK186.out 0).trans rfl
    have hcz24_1:wc.cell? ⟨gb186,1,none⟩=some (.slice none 0 0):=(blk_cell BK186.out 1).trans rfl
    have hcz24_2:wc.cell? ⟨gb186,2,none⟩=some (.int .i64 0):=(blk_cell BK186.out 2).trans rfl
    have hfz24_0:=blk_frozen BK186.out 0
    have hfz24_1:=blk_frozen BK186.out 1
    have hfz24_2:=blk_frozen BK186.out 2
    go_wp2
    refine bodyPost_ret (results_ct rfl _ _ gb186 25 #[.slice none 0 0,.slice none 0 0,.int .i64 0] (0,0) _ rfl (by (with_reducible repeat (first|refine blk_drewN ?_ _|refine blk_drew ?_|refine blk_alloc ?_ _));refine blk_put (cs:=#[.slice none 0 0,.slice none 0 0,.int .i64 0]) ?_ 2 _ rfl;(with_reducible repeat (first|refine blk_drewN ?_ _|refine blk_drew ?_|refine blk_alloc ?_ _));refine blk_put (cs:=#[.slice none 0 0,.slice none 0 0,.int .i64 0]) ?_ 1 _ rfl;(with_reducible repeat (first|refine blk_drewN ?_ _|refine blk_drew ?_|refine blk_alloc ?_ _));refine blk_put (cs:=#[.slice none 0 0,.slice none 0 0,.int .i64 0]) ?_ 0 _ rfl;(with_reducible repeat (first|refine blk_drewN ?_ _|refine blk_drew ?_|refine blk_alloc ?_ _));exact BK186.out) Try.underlying25 rfl (by kernel_rfl)) rfl ?_
    exact ⟨_,_,by first|rfl|(simp [errW_none,errW_some] <;> rfl)|(simp [*,errW_none,errW_some] <;> rfl),by first|exact Kd.R_nil _ _ _ _ _|exact Kd.N_nil _ _ _ _ _|exact Kd.V_nil _ _ _ _ _|exact Kd.Q_nil _ _ _ _ _|exact Kd.S_nil _ _ _ _ _,by first|exact Kd.R_nil _ _ _ _ _|exact Kd.N_nil _ _ _ _ _|exact Kd.V_nil _ _ _ _ _|exact Kd.Q_nil _ _ _ _ _|exact Kd.S_nil _ _ _ _ _,by repeat (first|(with_reducible first|exact HB.out|apply below_alloc|apply pw_below_drewN|apply below_drew1|refine below_set ?_ GE184.out|refine below_set ?_ GE185.out|refine below_set ?_ GE186.out)|exact HB.out)⟩
   ·replace c21:=Bool.eq_false_iff.mpr c21
    subst c21
    have H1:(if (l0_0.length:Int)=(l1_0.length:Int) then ((slipwayref06_Clone.f l0_0 l0_1 a0_2).bind fun bt189=>(slipwayref06_Join.l0 kj2 0 l1_0 l1_1 a1_2 bt189.1 bt189.2.1 bt189.2.2)) else (some (([]:List Bool),([]:List Int),0,1)))=some (r1,r2,r3,r4):=by rw [if_neg (show ¬ (false=true) by decide)] at H;exact H
    clear H
    have H:=H1
    clear H1
    by_cases c25:(l0_0.length:Int)=(l1_0.length:Int)
    ·rw [if_pos c25] at H
     have c25b0:((l0_0.length:Int) == (l1_0.length:Int))=true:=beq_iff_eq.mpr c25
     have c25b1:((l0_0.length:Int) != (l1_0.length:Int))=false:=bne_eq_false_iff_eq.mpr c25
     have c25b2:(l0_0.length == l1_0.length)=true:=by first|simpa using c25|(simp at c25 ⊢;omega)
     clear c25
     replace H:=Option.bind_eq_some_iff.mp H
     obtain ⟨⟨t189,t192,t195⟩,A260,H⟩:=H
     replace H:(slipwayref06_Join.l0 kj2 0 l1_0 l1_1 a1_2 t189 t192 t195)=some (r1,r2,r3,r4):=H
     have A26:=Aside0.mk A260
     clear A260
     have H':=Aside0.mk H
     clear H
     have hnb27:=NB184_185.out
     have hnc27:=NB185_184.out
     have hnb28:=NB184_186.out
     have hnc28:=NB186_184.out
     have hcz29_0:wc.cell? ⟨gb184,0,none⟩=some (.slice A0_0 l0_0.length c0_0):=(blk_cell BK184.out 0).trans rfl
     have hcz29_1:wc.cell? ⟨gb184,1,none⟩=some (.slice A0_1 l0_1.length c0_1):=(blk_cell BK184.out 1).trans rfl
     have hcz29_2:wc.cell? ⟨gb184,2,none⟩=some (.int .i64 a0_2):=(blk_cell BK184.out 2).trans rfl
     have hfz29_0:=blk_frozen BK184.out 0
     have hfz29_1:=blk_frozen BK184.out 1
     have hfz29_2:=blk_frozen BK184.out 2
     have hnb30:=NB185_186.out
     have hnc30:=NB186_185.out
     have hcz31_0:wc.cell? ⟨gb185,0,none⟩=some (.slice A1_0 l1_0.length c1_0):=(blk_cell BK185.out 0).trans rfl
     have hcz31_1:wc.cell? ⟨gb185,1,none⟩=some (.slice A1_1 l1_1.length c1_1):=(blk_cell BK185.out 1).trans rfl
     have hcz31_2:wc.cell? ⟨gb185,2,none⟩=some (.int .i64 a1_2):=(blk_cell BK185.out 2).trans rfl
     have hfz31_0:=blk_frozen BK185.out 0
     have hfz31_1:=blk_frozen BK185.out 1
     have hfz31_2:=blk_frozen BK185.out 2
     go_wp2_with (first|((with_reducible refine gate_callee (f:=52) rfl ?_);refine goesL_ (some 27) rfl rfl Try.func52 (by kernel_rfl) rfl #[.agg #[.slice A0_0 l0_0.length c0_0,.slice A0_1 l0_1.length c0_1,.int .i64 a0_2]] rfl (by (try simp only [List.map_toArray,List.map_cons,List.map_nil]);first|done|rfl|(simp only [List.length_drop,List.length_take];rfl)) ?_;(with_reducible refine (slipwayref06_Clone.calls _ _ l0_0 _ _ l0_1 a0_2 t189 t192 t195 _ ?side1 ?side2 ?side3 ?side4 A26.out).mono ?_);(case side1=>repeat (first|exact (Kd.C_below HR0_0.out HB.out)|(with_reducible refine Kd.C_alloc ?_ _)|(with_reducible refine Kd.C_drewN ?_ _)|(with_reducible refine Kd.C_drew ?_)));(case side2=>exact HC0_0.out);(case side3=>repeat (first|exact (Kd.C_below HR0_1.out HB.out)|(with_reducible refine Kd.C_alloc ?_ _)|(with_reducible refine Kd.C_drewN ?_ _)|(with_reducible refine Kd.C_drew ?_)));(case side4=>exact HC0_1.out);rintro e w32 ⟨v190,v193,rfl,ho0,ho1,hb⟩;refine ⟨_,rfl,?_⟩;have n0_:=Aside0.mk (Kd.R_lower ho0 (below_size (by repeat (first|(with_reducible first|exact HB.out|apply below_alloc|apply pw_below_drewN|apply below_drew1|refine below_set ?_ GE184.out|refine below_set ?_ GE185.out|refine below_set ?_ GE186.out)|exact HB.out))));have n1_:=Aside0.mk (Kd.R_lower ho1 (below_size (by repeat (first|(with_reducible first|exact HB.out|apply below_alloc|apply pw_below_drewN|apply below_drew1|refine below_set ?_ GE184.out|refine below_set ?_ GE185.out|refine below_set ?_ GE186.out)|exact HB.out))));have n2_:=Aside0.mk (blk_below (g:=gb184) (o:=.cells #[.slice A0_0 l0_0.length c0_0,.slice A0_1 l0_1.length c0_1,.int .i64 a0_2] 25 (0,0)) (by (with_reducible repeat (first|refine blk_drewN ?_ _|refine blk_drew ?_|refine blk_alloc ?_ _));exact BK184.out) hb);have n3_:=Aside0.mk (blk_below (g:=gb185) (o:=.cells #[.slice A1_0 l1_0.length c1_0,.slice A1_1 l1_1.length c1_1,.int .i64 a1_2] 25 (0,0)) (by (with_reducible repeat (first|refine blk_drewN ?_ _|refine blk_drew ?_|refine blk_alloc ?_ _));exact BK185.out) hb);have n4_:=Aside0.mk (blk_below (g:=gb186) (o:=.cells #[.slice none 0 0,.slice none 0 0,.int .i64 0] 25 (0,0)) (by (with_reducible repeat (first|refine blk_drewN ?_ _|refine blk_drew ?_|refine blk_alloc ?_ _));exact BK186.out) hb);have n5_:=Aside0.mk (below_step (by repeat (first|(with_reducible first|exact HB.out|apply below_alloc|apply pw_below_drewN|apply below_drew1|refine below_set ?_ GE184.out|refine below_set ?_ GE185.out|refine below_set ?_ GE186.out)|exact HB.out)) hb);clear BK184 BK185 BK186 HB;have HO191:=n0_;have HO194:=n1_;have BK184:=n2_;have BK185:=n3_;have BK186:=n4_;have HB:=n5_;clear n0_ n1_ n2_ n3_ n4_ n5_;(try clear hb);(try clear hb2);(try clear hk);(try clear hi);(try clear ho0);(try clear ho1))|((with_reducible refine gate_dst (N:=6) rfl ?_);refine box_event ?hg (N:=6) ?hd (cs:=#[.slice none 0 0,.slice none 0 0,.int .i64 0]) (t:=25) ?hr ?_;(case hd=>rfl);(case hg=>rfl);(case hr=>first|(go_simp;done)|(go_simp;rfl));intro gb196 hg w33 hbox hb;have n0_:=Aside0.mk (Kd.R_below (by (with_reducible repeat (first|apply Kd.R_alloc|apply Kd.R_drewN|apply Kd.R_drew));exact HO191.out) hb);have n1_:=Aside0.mk (Kd.R_below (by (with_reducible repeat (first|apply Kd.R_alloc|apply Kd.R_drewN|apply Kd.R_drew));exact HO194.out) hb);have n2_:=Aside0.mk (blk_below (g:=gb184) (o:=.cells #[.slice A0_0 l0_0.length c0_0,.slice A0_1 l0_1.length c0_1,.int .i64 a0_2] 25 (0,0)) (by (with_reducible repeat (first|refine blk_drewN ?_ _|refine blk_drew ?_|refine blk_alloc ?_ _));exact BK184.out) hb);have n3_:=Aside0.mk (blk_below (g:=gb185) (o:=.cells #[.slice A1_0 l1_0.length c1_0,.slice A1_1 l1_1.length c1_1,.int .i64 a1_2] 25 (0,0)) (by (with_reducible repeat (first|refine blk_drewN ?_ _|refine blk_drew ?_|refine blk_alloc ?_ _));exact BK185.out) hb);have n4_:=Aside0.mk (blk_below (g:=gb186) (o:=.cells #[.slice none 0 0,.slice none 0 0,.int .i64 0] 25 (0,0)) (by (with_reducible repeat (first|refine blk_drewN ?_ _|refine blk_drew ?_|refine blk_alloc ?_ _));exact BK186.out) hb);have n5_:=Aside0.mk (below_step (by repeat (first|(with_reducible first|exact HB.out|apply below_alloc|apply pw_below_drewN|apply below_drew1|refine below_set ?_ GE184.out|refine below_set ?_ GE185.out|refine below_set ?_ GE186.out)|exact HB.out)) hb);have n6_:=Aside0.mk (hbox);have n7_:=Aside0.mk ((by rw [hg];exact (below_size (by repeat (first|(with_reducible first|exact HB.out|apply below_alloc|apply pw_below_drewN|apply below_drew1|refine below_set ?_ GE184.out|refine below_set ?_ GE185.out|refine below_set ?_ GE186.out)|exact HB.out))):w.heap.size≤gb196));have n8_:=Aside0.mk ((by rw [hg];exact (below_size (by repeat (first|(with_reducible first|exact HB.out|apply below_alloc|apply pw_below_drewN|apply below_drew1|refine below_set ?_ GE184.out|refine below_set ?_ GE185.out|refine below_set ?_ GE186.out)|exact HB.out))):w.heap.size≤gb196));have n9_:=Aside0.mk ((by rw [hg];exact Nat.ne_of_lt (blk_lt (g:=gb184) (o:=.cells #[.slice A0_0 l0_0.length c0_0,.slice A0_1 l0_1.length c0_1,.int .i64 a0_2] 25 (0,0)) (by (with_reducible repeat (first|refine blk_drewN ?_ _|refine blk_drew ?_|refine blk_alloc ?_ _));exact BK184.out)):gb184≠gb196));have n10_:=Aside0.mk ((by rw [hg];exact Nat.ne_of_gt (blk_lt (g:=gb184) (o:=.cells #[.slice A0_0 l0_0.length c0_0,.slice A0_1 l0_1.length c0_1,.int .i64 a0_2] 25 (0,0)) (by (with_reducible repeat (first|refine blk_drewN ?_ _|refine blk_drew ?_|refine blk_alloc ?_ _));exact BK184.out)):gb196≠gb184));have n11_:=Aside0.mk ((by rw [hg];exact Nat.ne_of_lt (blk_lt (g:=gb185) (o:=.cells #[.slice A1_0 l1_0.length c1_0,.slice A1_1 l1_1.length c1_1,.int .i64 a1_2] 25 (0,0)) (by (with_reducible repeat (first|refine blk_drewN ?_ _|refine blk_drew ?_|refine blk_alloc ?_ _));exact BK185.out)):gb185≠gb196));have n12_:=Aside0.mk ((by rw [hg];exact Nat.ne_of_gt (blk_lt (g:=gb185) (o:=.cells #[.slice A1_0 l1_0.length c1_0,.slice A1_1 l1_1.length c1_1,.int .i64 a1_2] 25 (0,0)) (by (with_reducible repeat (first|refine blk_drewN ?_ _|refine blk_drew ?_|refine blk_alloc ?_ _));exact BK185.out)):gb196≠gb185));have n13_:=Aside0.mk ((by rw [hg];exact Nat.ne_of_lt (blk_lt (g:=gb186) (o:=.cells #[.slice none 0 0,.slice none 0 0,.int .i64 0] 25 (0,0)) (by (with_reducible repeat (first|refine blk_drewN ?_ _|refine blk_drew ?_|refine blk_alloc ?_ _));exact BK186.out)):gb186≠gb196));have n14_:=Aside0.mk ((by rw [hg];exact Nat.ne_of_gt (blk_lt (g:=gb186) (o:=.cells #[.slice none 0 0,.slice none 0 0,.int .i64 0] 25 (0,0)) (by (with_reducible repeat (first|refine blk_drewN ?_ _|refine blk_drew ?_|refine blk_alloc ?_ _));exact BK186.out)):gb196≠gb186));clear HO191 HO194 BK184 BK185 BK186 HB;have HO191:=n0_;have HO194:=n1_;have BK184:=n2_;have BK185:=n3_;have BK186:=n4_;have HB:=n5_;have BK196:=n6_;have GW196:=n7_;have GE196:=n8_;have NB184_196:=n9_;have NB196_184:=n10_;have NB185_196:=n11_;have NB196_185:=n12_;have NB186_196:=n13_;have NB196_186:=n14_;clear n0_ n1_ n2_ n3_ n4_ n5_ n6_ n7_ n8_ n9_ n10_ n11_ n12_ n13_ n14_;clear hb hbox hg;obtain ⟨Ao34,co34,eo34⟩:=Kd.R_slice HO191.out;subst eo34;have hnb35:=NB196_184.out;have hnc35:=NB184_196.out;have hnb36:=NB196_185.out;have hnc36:=NB185_196.out;have hnb37:=NB196_186.out;have hnc37:=NB186_196.out;have hcz38_0:w33.cell? ⟨gb196,0,none⟩=some (.slice none 0 0):=(blk_cell BK196.out 0).trans rfl;have hcz38_1:w33.cell? ⟨gb196,1,none⟩=some (.slice none 0 0):=(blk_cell BK196.out 1).trans rfl;have hcz38_2:w33.cell? ⟨gb196,2,none⟩=some (.int .i64 0):=(blk_cell BK196.out 2).trans rfl;have hfz38_0:=blk_frozen BK196.out 0;have hfz38_1:=blk_frozen BK196.out 1;have hfz38_2:=blk_frozen BK196.out 2;obtain ⟨Ao39,co39,eo39⟩:=Kd.R_slice HO194.out;subst eo39))
     go_loopg [7] kj2 (fun kq v7 w'=>∃ (x7_2:Int) (x197000_2:List Bool) (u197000:Value),v7=.int .i64 x7_2∧Aside0 (slipwayref06_Join.l0 kq x7_2 l1_0 l1_1 a1_2 x197000_2 t192 t195=some (r1,r2,r3,r4))∧Aside0 (kq≤kj2)∧Aside0 (Kd.R Kd.bool 4 w' w.heap.size (fun _=>True) u197000 x197000_2)∧Aside0 (Kd.R (Kd.int .i64) 2 w' w.heap.size (fun _=>True) (.slice Ao39 t192.length co39) t192)∧Aside0 (w'.heap[gb184]?=some (.cells #[(.slice A0_0 l0_0.length c0_0),(.slice A0_1 l0_1.length c0_1),.int .i64 a0_2] 25 (0,0)))∧Aside0 (w'.heap[gb185]?=some (.cells #[(.slice A1_0 l1_0.length c1_0),(.slice A1_1 l1_1.length c1_1),.int .i64 a1_2] 25 (0,0)))∧Aside0 (w'.heap[gb186]?=some (.cells #[(.slice none 0 0),(.slice none 0 0),.int .i64 0] 25 (0,0)))∧Aside0 (w'.heap[gb196]?=some (.cells #[u197000,(.slice Ao39 t192.length co39),.int .i64 t195] 25 (0,0)))∧Aside0 (Below w.heap.size w w'))
     case atStart=>exact ⟨(0),(t189),(.slice Ao34 t189.length co34),(by first|rfl|(simp;done)|(simp [*];done)),H',⟨Nat.le_refl _⟩,⟨by (with_reducible repeat (first|apply Kd.R_alloc|apply Kd.R_drewN|apply Kd.R_drew));exact Kd.R_mono (Kd.R_far (p:=⟨gb196,2,none⟩) (Kd.R_far (p:=⟨gb196,1,none⟩) (Kd.R_far (p:=⟨gb196,0,none⟩) (Kd.R_types HO191.out BK196.out (by decide)) (fun _ hk=>hk.2) (.slice Ao34 t189.length co34)) (fun _ hk=>hk.2) (.slice Ao39 t192.length co39)) (fun _ hk=>hk.2) (.int .i64 t195)) (fun _ hk=>trivial)⟩,⟨by (with_reducible repeat (first|apply Kd.R_alloc|apply Kd.R_drewN|apply Kd.R_drew));exact Kd.R_mono (Kd.R_far (p:=⟨gb196,2,none⟩) (Kd.R_far (p:=⟨gb196,1,none⟩) (Kd.R_far (p:=⟨gb196,0,none⟩) (Kd.R_types HO194.out BK196.out (by decide)) (fun _ hk=>hk.2) (.slice Ao34 t189.length co34)) (fun _ hk=>hk.2) (.slice Ao39 t192.length co39)) (fun _ hk=>hk.2) (.int .i64 t195)) (fun _ hk=>trivial)⟩,⟨by (with_reducible repeat (first|refine blk_drewN ?_ _|refine blk_drew ?_|refine blk_alloc ?_ _));refine blk_far ?_ NB184_196.out _;(with_reducible repeat (first|refine blk_drewN ?_ _|refine blk_drew ?_|refine blk_alloc ?_ _));refine blk_far ?_ NB184_196.out _;(with_reducible repeat (first|refine blk_drewN ?_ _|refine blk_drew ?_|refine blk_alloc ?_ _));refine blk_far ?_ NB184_196.out _;(with_reducible repeat (first|refine blk_drewN ?_ _|refine blk_drew ?_|refine blk_alloc ?_ _));exact BK184.out⟩,⟨by (with_reducible repeat (first|refine blk_drewN ?_ _|refine blk_drew ?_|refine blk_alloc ?_ _));refine blk_far ?_ NB185_196.out _;(with_reducible repeat (first|refine blk_drewN ?_ _|refine blk_drew ?_|refine blk_alloc ?_ _));refine blk_far ?_ NB185_196.out _;(with_reducible repeat (first|refine blk_drewN ?_ _|refine blk_drew ?_|refine blk_alloc ?_ _));refine blk_far ?_ NB185_196.out _;(with_reducible repeat (first|refine blk_drewN ?_ _|refine blk_drew ?_|refine blk_alloc ?_ _));exact BK185.out⟩,⟨by (with_reducible repeat (first|refine blk_drewN ?_ _|refine blk_drew ?_|refine blk_alloc ?_ _));refine blk_far ?_ NB186_196.out _;(with_reducible repeat (first|refine blk_drewN ?_ _|refine blk_drew ?_|refine blk_alloc ?_ _));refine blk_far ?_ NB186_196.out _;(with_reducible repeat (first|refine blk_drewN ?_ _|refine blk_drew ?_|refine blk_alloc ?_ _));refine blk_far ?_ NB186_196.out _;(with_reducible repeat (first|refine blk_drewN ?_ _|refine blk_drew ?_|refine blk_alloc ?_ _));exact BK186.out⟩,⟨by (with_reducible repeat (first|refine blk_drewN ?_ _|refine blk_drew ?_|refine blk_alloc ?_ _));refine blk_put (cs:=#[.slice Ao34 t189.length co34,.slice Ao39 t192.length co39,.int .i64 0]) ?_ 2 _ rfl;(with_reducible repeat (first|refine blk_drewN ?_ _|refine blk_drew ?_|refine blk_alloc ?_ _));refine blk_put (cs:=#[.slice Ao34 t189.length co34,.slice none 0 0,.int .i64 0]) ?_ 1 _ rfl;(with_reducible repeat (first|refine blk_drewN ?_ _|refine blk_drew ?_|refine blk_alloc ?_ _));refine blk_put (cs:=#[.slice none 0 0,.slice none 0 0,.int .i64 0]) ?_ 0 _ rfl;(with_reducible repeat (first|refine blk_drewN ?_ _|refine blk_drew ?_|refine blk_alloc ?_ _));exact BK196.out⟩,⟨by repeat (first|(with_reducible first|exact HB.out|apply below_alloc|apply pw_below_drewN|apply below_drew1|refine below_set ?_ GE184.out|refine below_set ?_ GE185.out|refine below_set ?_ GE186.out|refine below_set ?_ GE196.out)|exact HB.out)⟩⟩
     case round =>
      clear H'
      try clear c1
      try clear c2
      try clear p2
      try clear c3
      try clear c5
      try clear c8
      try clear c8b0
      try clear c8b1
      try clear c10
      try clear c11
      try clear c14
      try clear c17
      try clear c18
      try clear c21
      try clear c22
      try clear c23
      try clear c25
      try clear c25b0
      try clear c25b1
      try clear c25b2
      try clear c27
      try clear c28
      try clear c30
      try clear c35
      try clear c36
      try clear c37
      try clear hcz12_0
      try clear hcz12_1
      try clear hcz12_2
      try clear hcz15_0
      try clear hcz15_1
      try clear hcz15_2
      try clear hcz19_0
      try clear hcz19_1
      try clear hcz19_2
      try clear hcz24_0
      try clear hcz24_1
      try clear hcz24_2
      try clear hcz29_0
      try clear hcz29_1
      try clear hcz29_2
      try clear hcz31_0
      try clear hcz31_1
      try clear hcz31_2
      try clear hcz38_0
      try clear hcz38_1
      try clear hcz38_2
      try clear hfz12_0
      try clear hfz12_1
      try clear hfz12_2
      try clear hfz15_0
      try clear hfz15_1
      try clear hfz15_2
      try clear hfz19_0
      try clear hfz19_1
      try clear hfz19_2
      try clear hfz24_0
      try clear hfz24_1
      try clear hfz24_2
      try clear hfz29_0
      try clear hfz29_1
      try clear hfz29_2
      try clear hfz31_0
      try clear hfz31_1
      try clear hfz31_2
      try clear hfz38_0
      try clear hfz38_1
      try clear hfz38_2
      try clear p2
      obtain ⟨x7_2,x197000_2,u197000,rfl,HA,HK2,HO_197000,HO_197001,BK184,BK185,BK186,BK196,HB⟩:=hrel
      cases gk with
      | zero=>exact absurd HA.out (by simp [slipwayref06_Join.l0])
      | succ k2 =>
       have H:=HA.out
       clear HA
       simp only [slipwayref06_Join.l0] at H
       by_cases c40:x7_2 < (l1_0.length:Int)
       ·rw [if_pos c40] at H
        have c40b0:decide (x7_2 < (l1_0.length:Int))=true:=decide_eq_true c40
        clear c40
        by_cases c41:0≤x7_2
        ·rw [if_pos c41] at H
         have c41b0:decide (0≤x7_2)=true:=decide_eq_true c41
         clear c41
         by_cases c42:x7_2 < (x197000_2.length:Int)
         ·rw [if_pos c42] at H
          have c42b0:decide (x7_2 < (x197000_2.length:Int))=true:=decide_eq_true c42
          clear c42
          obtain ⟨bq43,hbq43⟩:∃ b_:Bool,b_=(rdOf false x197000_2 x7_2):=⟨_,rfl⟩
          replace H:(if bq43=true then (slipwayref06_Join.l0 k2 (wrap64 (x7_2 + 1)) l1_0 l1_1 a1_2 (x197000_2.set (x7_2:Int).toNat true) t192 t195) else (slipwayref06_Join.l0 k2 (wrap64 (x7_2 + 1)) l1_0 l1_1 a1_2 (x197000_2.set (x7_2:Int).toNat (rdOf false l1_0 x7_2)) t192 t195))=some (r1,r2,r3,r4):=by rw [← hbq43] at H;exact H
          have Nbq43:=Aside0.mk hbq43
          clear hbq43
          by_cases c44:bq43=true
          ·subst c44
           have H1:(slipwayref06_Join.l0 k2 (wrap64 (x7_2 + 1)) l1_0 l1_1 a1_2 (x197000_2.set (x7_2:Int).toNat true) t192 t195)=some (r1,r2,r3,r4):=by rw [if_pos rfl] at H;exact H
           clear H
           have H:=H1
           clear H1
           obtain ⟨y198,hy198⟩:∃ y_:List Bool,y_=(x197000_2.set (x7_2:Int).toNat true):=⟨_,rfl⟩
           replace H:(slipwayref06_Join.l0 k2 (wrap64 (x7_2 + 1)) l1_0 l1_1 a1_2 y198 t192 t195)=some (r1,r2,r3,r4):=by first|(rw [hy198];with_reducible exact H)|(have H2_:=(Option.bind_some _ _).symm.trans H;rw [hy198];with_reducible exact H2_)|(have H2_:=(Option.bind_some _ _).symm.trans H;with_reducible exact H2_)|with_reducible exact H|(rw [hy198];exact H)|exact H
           have Ny198:=Aside0.mk hy198
           clear hy198
           have H':=Aside0.mk H
           clear H
           have hnb46:=NB185_184.out
           have hnc46:=NB184_185.out
           have hnb47:=NB185_186.out
           have hnc47:=NB186_185.out
           have hnb48:=NB185_196.out
           have hnc48:=NB196_185.out
           have hcz49_0:wr.cell? ⟨gb185,0,none⟩=some (.slice A1_0 l1_0.length c1_0):=(blk_cell BK185.out 0).trans rfl
           have hcz49_1:wr.cell? ⟨gb185,1,none⟩=some (.slice A1_1 l1_1.length c1_1):=(blk_cell BK185.out 1).trans rfl
           have hcz49_2:wr.cell? ⟨gb185,2,none⟩=some (.int .i64 a1_2):=(blk_cell BK185.out 2).trans rfl
           have hfz49_0:=blk_frozen BK185.out 0
           have hfz49_1:=blk_frozen BK185.out 1
           have hfz49_2:=blk_frozen BK185.out 2
           try go_wp2
           have n0_:=Aside0.mk (Kd.R_drew HO_197000.out)
           have n1_:=Aside0.mk (Kd.R_drew HO_197001.out)
           have n2_:=Aside0.mk (blk_drew BK184.out)
           have n3_:=Aside0.mk (blk_drew BK185.out)
           have n4_:=Aside0.mk (blk_drew BK186.out)
           have n5_:=Aside0.mk (blk_drew BK196.out)
           have n6_:=Aside0.mk (below_drew1 HB.out)
           clear HO_197000 HO_197001 BK184 BK185 BK186 BK196 HB
           have HO_197000:=n0_
           have HO_197001:=n1_
           have BK184:=n2_
           have BK185:=n3_
           have BK186:=n4_
           have BK196:=n5_
           have HB:=n6_
           clear n0_ n1_ n2_ n3_ n4_ n5_ n6_
           obtain ⟨Ao51,co51,eo51⟩:=Kd.R_slice HO_197000.out
           (first|subst eo51|(injection eo51 with f1_ f2_ f3_;have f4_:=f1_.symm;have f5_:=f3_.symm;clear f1_ f2_ f3_;subst f4_;subst f5_))
           have p197:0≤(x7_2:Int):=of_decide_eq_true (by first|(with_reducible assumption)|assumption)
           have q197:x7_2 < (x197000_2.length:Int):=of_decide_eq_true (by first|(with_reducible assumption)|assumption)
           obtain ⟨ad197,e197,hx197_0⟩:=Kd.at_bool (Kd.R_reads' HO_197000.out).2.2 x7_2 p197 q197
           (try rw [← Nbq43.out] at hx197_0)
           cases e197
           replace p197:=eq_true p197
           replace q197:=eq_true q197
           have p45:0≤(x7_2:Int):=of_decide_eq_true (by first|(with_reducible assumption)|assumption)
           have q45:(x7_2:Int) < ((x197000_2.length:Int):Int):=of_decide_eq_true (by first|(with_reducible assumption)|assumption)
           obtain ⟨go45,co45,eo45,gb45,gl45,cl45,HG45⟩:=Kd.R_form HO_197000.out (by omega)
           (first|cases eo45|(injection eo45 with ea_ en_ ec_;(first|subst ea_|(injection ea_ with ea_;subst ea_));subst ec_;clear en_))
           have GB45:=Aside0.mk gb45
           have GG45:=Aside0.mk HG45
           clear gb45 gl45 HG45
           (first|simp only [add_plain] at hx197_0|skip)
           obtain ⟨hx45_0,hf45_0⟩:=Kd.R_celln false HO_197000.out (x7_2:Int) p45 q45
           replace p45:=eq_true p45
           replace q45:=eq_true q45
           have HP52:=Kd.R_putn HO_197000.out (x7_2:Int) true
           rw [← Ny198.out] at HP52
           have HQ52:=Aside0.mk HP52
           clear HP52
           refine start_ (n:=17) (S:=fun w'=>w'.cell? ⟨gb196,0,none⟩=some (.slice (some ⟨go45,0,none⟩) x197000_2.length co51)∧w'.cell? ⟨gb196,1,none⟩=some (.slice Ao39 t192.length co39)∧w'.cell? ⟨gb196,2,none⟩=some (.int .i64 t195)∧w'.cell? ⟨go45,(x7_2).toNat,none⟩=some (.bool true)) (ds:=[16]) #[false,false,false,false,false,false,false,false,false,false,false,false,false,false,false,false,false] (by kernel_rfl) rfl rfl ⟨(blk_cell BK196.out 0).trans rfl,(blk_cell BK196.out 1).trans rfl,(blk_cell BK196.out 2).trans rfl,hx197_0⟩ (fun hHeld=>?_);refine with_tabW slipwayref06_Join.tab9 slipwayref06_Join.bits9 (fun HT_ HW_=>?_)
           generalize wr.drew=w50 at HO_197000 HO_197001 BK184 BK185 BK186 BK196 HB GG45 HQ52 hf45_0 hx197_0 hx45_0 hHeld ⊢
           refine pure_ (i:=0) (N:=some 35) (v:=?_) (a':=?_) #[true,false,false,false,false,false,false,false,false,false,false,false,false,false,false,false,false] rfl rfl (any_of HT_.out (by kernel_rfl)) (fun _ _ _ h=>h) (Or.inl ⟨by rfl,?_⟩) ?_ ?_
           rotate_left
           ·intro w'
            go_simp
            with_reducible rfl
           rotate_left
           ·simp only [Act.put,List.setIfInBounds_toArray,List.set_cons_zero,List.set_cons_succ,i64_w,i32_w]
            rfl
           refine pure_ (i:=2) (N:=some 37) (v:=?_) (a':=?_) #[true,false,true,false,false,false,false,false,false,false,false,false,false,false,false,false,false] rfl rfl (any_of HT_.out (by kernel_rfl)) (fun _ _ _ h=>h) (Or.inl ⟨by rfl,?_⟩) ?_ ?_
           rotate_left
           ·intro w'
            go_simp
            with_reducible rfl
           rotate_left
           ·simp only [Act.put,List.setIfInBounds_toArray,List.set_cons_zero,List.set_cons_succ,i64_w,i32_w]
            rfl
           refine pure_ (i:=3) (N:=some 38) (v:=?_) (a':=?_) #[true,false,true,true,false,false,false,false,false,false,false,false,false,false,false,false,false] rfl rfl (any_of HT_.out (by kernel_rfl)) (fun _ _ _ h=>h) (Or.inl ⟨by rfl,?_⟩) ?_ ?_
           rotate_left
           ·intro w'
            go_simp
            with_reducible rfl
           rotate_left
           ·simp only [Act.put,List.setIfInBounds_toArray,List.set_cons_zero,List.set_cons_succ,i64_w,i32_w]
            rfl
           refine pure_ (i:=5) (N:=some 40) (v:=?_) (a':=?_) #[true,false,true,true,false,true,false,false,false,false,false,false,false,false,false,false,false] rfl rfl (any_of HT_.out (by kernel_rfl)) (fun _ _ _ h=>h) (Or.inl ⟨by rfl,?_⟩) ?_ ?_
           rotate_left
           ·intro w'
            go_simp
            with_reducible rfl
           rotate_left
           ·simp only [Act.put,List.setIfInBounds_toArray,List.set_cons_zero,List.set_cons_succ,i64_w,i32_w]
            rfl
           refine take_ (i:=1) (N:=some 36) (v:=?_) (a':=?_) #[true,true,true,true,false,true,false,false,false,false,false,false,false,false,false,false,false] rfl rfl (take_ofW HT_.out HW_.out (by kernel_rfl)) (fun _ _ _ h=>h) (Or.inl ⟨by rfl,?_⟩) hHeld ?_ ?_
           rotate_left
           ·rintro w' ⟨s0,s1,s2,s3⟩
            go_simp
            with_reducible rfl
           rotate_left
           ·simp only [Act.put,List.setIfInBounds_toArray,List.set_cons_zero,List.set_cons_succ,i64_w,i32_w]
            rfl
           refine take_ (i:=4) (N:=some 39) (v:=?_) (a':=?_) #[true,true,true,true,true,true,false,false,false,false,false,false,false,false,false,false,false] rfl rfl (take_ofW HT_.out HW_.out (by kernel_rfl)) (fun _ _ _ h=>h) (Or.inl ⟨by rfl,?_⟩) hHeld ?_ ?_
           rotate_left
           ·rintro w' ⟨s0,s1,s2,s3⟩
            go_simp
            with_reducible rfl
           rotate_left
           ·simp only [Act.put,List.setIfInBounds_toArray,List.set_cons_zero,List.set_cons_succ,i64_w,i32_w]
            rfl
           refine pure_ (i:=6) (N:=some 41) (v:=?_) (a':=?_) #[true,true,true,true,true,true,true,false,false,false,false,false,false,false,false,false,false] rfl rfl (any_of HT_.out (by kernel_rfl)) (fun _ _ _ h=>h) (Or.inl ⟨by rfl,?_⟩) ?_ ?_
           rotate_left
           ·intro w'
            go_simp
            with_reducible rfl
           rotate_left
           ·simp only [Act.put,List.setIfInBounds_toArray,List.set_cons_zero,List.set_cons_succ,i64_w,i32_w]
            rfl
           refine take_ (i:=7) (N:=some 42) (v:=?_) (a':=?_) #[true,true,true,true,true,true,true,true,false,false,false,false,false,false,false,false,false] rfl rfl (take_ofW HT_.out HW_.out (by kernel_rfl)) (fun _ _ _ h=>h) (Or.inl ⟨by rfl,?_⟩) hHeld ?_ ?_
           rotate_left
           ·rintro w' ⟨s0,s1,s2,s3⟩
            go_simp
            with_reducible rfl
           rotate_left
           ·simp only [Act.put,List.setIfInBounds_toArray,List.set_cons_zero,List.set_cons_succ,i64_w,i32_w]
            rfl
           refine pure_ (i:=8) (N:=some 43) (v:=?_) (a':=?_) #[true,true,true,true,true,true,true,true,true,false,false,false,false,false,false,false,false] rfl rfl (any_of HT_.out (by kernel_rfl)) (fun _ _ _ h=>h) (Or.inl ⟨by rfl,?_⟩) ?_ ?_
           rotate_left
           ·intro w'
            go_simp
            with_reducible rfl
           rotate_left
           ·simp only [Act.put,List.setIfInBounds_toArray,List.set_cons_zero,List.set_cons_succ,i64_w,i32_w]
            rfl
           refine pure_ (i:=9) (N:=some 44) (v:=undef) (a':=?_) #[true,true,true,true,true,true,true,true,true,true,false,false,false,false,false,false,false] rfl rfl (any_of HT_.out (by kernel_rfl)) (fun _ _ _ h=>h) (Or.inr ⟨by rfl,rfl⟩) ?_ ?_
           rotate_left
           ·simp only [Act.put,List.setIfInBounds_toArray,List.set_cons_zero,List.set_cons_succ,i64_w,i32_w]
            rfl
           refine pure_ (i:=10) (N:=some 45) (v:=undef) (a':=?_) #[true,true,true,true,true,true,true,true,true,true,true,false,false,false,false,false,false] rfl rfl (any_of HT_.out (by kernel_rfl)) (fun _ _ _ h=>h) (Or.inr ⟨by rfl,rfl⟩) ?_ ?_
           rotate_left
           ·simp only [Act.put,List.setIfInBounds_toArray,List.set_cons_zero,List.set_cons_succ,i64_w,i32_w]
            rfl
           refine pure_ (i:=11) (N:=some 46) (v:=undef) (a':=?_) #[true,true,true,true,true,true,true,true,true,true,true,true,false,false,false,false,false] rfl rfl (any_of HT_.out (by kernel_rfl)) (fun _ _ _ h=>h) (Or.inr ⟨by rfl,rfl⟩) ?_ ?_
           rotate_left
           ·simp only [Act.put,List.setIfInBounds_toArray,List.set_cons_zero,List.set_cons_succ,i64_w,i32_w]
            rfl
           refine pure_ (i:=12) (N:=some 47) (v:=undef) (a':=?_) #[true,true,true,true,true,true,true,true,true,true,true,true,true,false,false,false,false] rfl rfl (any_of HT_.out (by kernel_rfl)) (fun _ _ _ h=>h) (Or.inr ⟨by rfl,rfl⟩) ?_ ?_
           rotate_left
           ·simp only [Act.put,List.setIfInBounds_toArray,List.set_cons_zero,List.set_cons_succ,i64_w,i32_w]
            rfl
           refine pure_ (i:=13) (N:=some 48) (v:=undef) (a':=?_) #[true,true,true,true,true,true,true,true,true,true,true,true,true,true,false,false,false] rfl rfl (any_of HT_.out (by kernel_rfl)) (fun _ _ _ h=>h) (Or.inr ⟨by rfl,rfl⟩) ?_ ?_
           rotate_left
           ·simp only [Act.put,List.setIfInBounds_toArray,List.set_cons_zero,List.set_cons_succ,i64_w,i32_w]
            rfl
           refine pure_ (i:=14) (N:=some 49) (v:=?_) (a':=?_) #[true,true,true,true,true,true,true,true,true,true,true,true,true,true,true,false,false] rfl rfl (any_of HT_.out (by kernel_rfl)) (fun _ _ _ h=>h) (Or.inl ⟨by rfl,?_⟩) ?_ ?_
           rotate_left
           ·intro w'
            go_simp
            with_reducible rfl
           rotate_left
           ·simp only [Act.put,List.setIfInBounds_toArray,List.set_cons_zero,List.set_cons_succ,i64_w,i32_w]
            rfl
           refine pure_ (i:=15) (N:=some 50) (v:=?_) (a':=?_) #[true,true,true,true,true,true,true,true,true,true,true,true,true,true,true,true,false] rfl rfl (any_of HT_.out (by kernel_rfl)) (fun _ _ _ h=>h) (Or.inl ⟨by rfl,?_⟩) ?_ ?_
           rotate_left
           ·intro w'
            go_simp
            with_reducible rfl
           rotate_left
           ·simp only [Act.put,List.setIfInBounds_toArray,List.set_cons_zero,List.set_cons_succ,i64_w,i32_w]
            rfl
           refine last_ (i:=16) (N:=none) #[true,true,true,true,true,true,true,true,true,true,true,true,true,true,true,true,true] rfl rfl (one_of HT_.out (by kernel_rfl)) (by decide) (fun K hK=>?_)
           refine skip_ (w1:=?_) (by rfl) rfl ?_ ?_
           rotate_left
           ·go_simp
            rfl
           refine hK.out _ _ ?_
           clear hK K
           refine done_ (done_of HT_.out (by kernel_rfl)) ?_
           try go_wp2
           go_roundg k2
           case measure=>have:=HJ2.out;have:=HK2.out;omega
           case rel=>exact ⟨(wrap64 (x7_2 + 1)),(y198),(.slice (some ⟨go45,0,none⟩) x197000_2.length co51),(by first|rfl|(simp;done)|(simp [*];done)),H',⟨by have:=HJ2.out;have:=HK2.out;omega⟩,⟨by (with_reducible repeat (first|apply Kd.R_alloc|apply Kd.R_drewN|apply Kd.R_drew));exact HQ52.out⟩,⟨by (with_reducible repeat (first|apply Kd.R_alloc|apply Kd.R_drewN|apply Kd.R_drew));exact Kd.R_mono (Kd.R_far (p:=⟨go45,(x7_2:Int).toNat,none⟩) (Kd.R_types HO_197001.out GG45.out (by decide)) (fun _ hk=>hk.2) (.bool true)) (fun _ hk=>trivial)⟩,⟨by (with_reducible repeat (first|refine blk_drewN ?_ _|refine blk_drew ?_|refine blk_alloc ?_ _));refine blk_far ?_ (by have h_:=Kd.R_ne HO_197000.out BK184.out (by decide);intro e_;exact h_ (by rw [e_];rfl)) _;(with_reducible repeat (first|refine blk_drewN ?_ _|refine blk_drew ?_|refine blk_alloc ?_ _));exact BK184.out⟩,⟨by (with_reducible repeat (first|refine blk_drewN ?_ _|refine blk_drew ?_|refine blk_alloc ?_ _));refine blk_far ?_ (by have h_:=Kd.R_ne HO_197000.out BK185.out (by decide);intro e_;exact h_ (by rw [e_];rfl)) _;(with_reducible repeat (first|refine blk_drewN ?_ _|refine blk_drew ?_|refine blk_alloc ?_ _));exact BK185.out⟩,⟨by (with_reducible repeat (first|refine blk_drewN ?_ _|refine blk_drew ?_|refine blk_alloc ?_ _));refine blk_far ?_ (by have h_:=Kd.R_ne HO_197000.out BK186.out (by decide);intro e_;exact h_ (by rw [e_];rfl)) _;(with_reducible repeat (first|refine blk_drewN ?_ _|refine blk_drew ?_|refine blk_alloc ?_ _));exact BK186.out⟩,⟨by (with_reducible repeat (first|refine blk_drewN ?_ _|refine blk_drew ?_|refine blk_alloc ?_ _));refine blk_far ?_ (by have h_:=Kd.R_ne HO_197000.out BK196.out (by decide);intro e_;exact h_ (by rw [e_];rfl)) _;(with_reducible repeat (first|refine blk_drewN ?_ _|refine blk_drew ?_|refine blk_alloc ?_ _));exact BK196.out⟩,⟨by repeat (first|(with_reducible first|exact HB.out|apply below_alloc|apply pw_below_drewN|apply below_drew1|refine below_set ?_ GB45.out|refine below_set ?_ GE184.out|refine below_set ?_ GE185.out|refine below_set ?_ GE186.out|refine below_set ?_ GE196.out)|exact HB.out)⟩⟩
          ·replace c44:=Bool.eq_false_iff.mpr c44
           subst c44
           have H1:(slipwayref06_Join.l0 k2 (wrap64 (x7_2 + 1)) l1_0 l1_1 a1_2 (x197000_2.set (x7_2:Int).toNat (rdOf false l1_0 x7_2)) t192 t195)=some (r1,r2,r3,r4):=by rw [if_neg (show ¬ (false=true) by decide)] at H;exact H
           clear H
           have H:=H1
           clear H1
           obtain ⟨y200,hy200⟩:∃ y_:List Bool,y_=(x197000_2.set (x7_2:Int).toNat (rdOf false l1_0 x7_2)):=⟨_,rfl⟩
           replace H:(slipwayref06_Join.l0 k2 (wrap64 (x7_2 + 1)) l1_0 l1_1 a1_2 y200 t192 t195)=some (r1,r2,r3,r4):=by first|(rw [hy200];with_reducible exact H)|(have H2_:=(Option.bind_some _ _).symm.trans H;rw [hy200];with_reducible exact H2_)|(have H2_:=(Option.bind_some _ _).symm.trans H;with_reducible exact H2_)|with_reducible exact H|(rw [hy200];exact H)|exact H
           have Ny200:=Aside0.mk hy200
           clear hy200
           have H':=Aside0.mk H
           clear H
           have hnb54:=NB185_184.out
           have hnc54:=NB184_185.out
           have hnb55:=NB185_186.out
           have hnc55:=NB186_185.out
           have hnb56:=NB185_196.out
           have hnc56:=NB196_185.out
           have hcz57_0:wr.cell? ⟨gb185,0,none⟩=some (.slice A1_0 l1_0.length c1_0):=(blk_cell BK185.out 0).trans rfl
           have hcz57_1:wr.cell? ⟨gb185,1,none⟩=some (.slice A1_1 l1_1.length c1_1):=(blk_cell BK185.out 1).trans rfl
           have hcz57_2:wr.cell? ⟨gb185,2,none⟩=some (.int .i64 a1_2):=(blk_cell BK185.out 2).trans rfl
           have hfz57_0:=blk_frozen BK185.out 0
           have hfz57_1:=blk_frozen BK185.out 1
           have hfz57_2:=blk_frozen BK185.out 2
           try go_wp2
           have n0_:=Aside0.mk (Kd.R_drew HO_197000.out)
           have n1_:=Aside0.mk (Kd.R_drew HO_197001.out)
           have n2_:=Aside0.mk (blk_drew BK184.out)
           have n3_:=Aside0.mk (blk_drew BK185.out)
           have n4_:=Aside0.mk (blk_drew BK186.out)
           have n5_:=Aside0.mk (blk_drew BK196.out)
           have n6_:=Aside0.mk (below_drew1 HB.out)
           clear HO_197000 HO_197001 BK184 BK185 BK186 BK196 HB
           have HO_197000:=n0_
           have HO_197001:=n1_
           have BK184:=n2_
           have BK185:=n3_
           have BK186:=n4_
           have BK196:=n5_
           have HB:=n6_
           clear n0_ n1_ n2_ n3_ n4_ n5_ n6_
           obtain ⟨Ao59,co59,eo59⟩:=Kd.R_slice HO_197000.out
           (first|subst eo59|(injection eo59 with f1_ f2_ f3_;have f4_:=f1_.symm;have f5_:=f3_.symm;clear f1_ f2_ f3_;subst f4_;subst f5_))
           have p197:0≤(x7_2:Int):=of_decide_eq_true (by first|(with_reducible assumption)|assumption)
           have q197:x7_2 < (x197000_2.length:Int):=of_decide_eq_true (by first|(with_reducible assumption)|assumption)
           obtain ⟨ad197,e197,hx197_0⟩:=Kd.at_bool (Kd.R_reads' HO_197000.out).2.2 x7_2 p197 q197
           (try rw [← Nbq43.out] at hx197_0)
           cases e197
           replace p197:=eq_true p197
           replace q197:=eq_true q197
           have p199:0≤(x7_2:Int):=of_decide_eq_true (by first|(with_reducible assumption)|assumption)
           have q199:x7_2 < (l1_0.length:Int):=of_decide_eq_true (by first|(with_reducible assumption)|assumption)
           obtain ⟨ad199,e199,hx199_0⟩:=Kd.at_bool HR1_0.out x7_2 p199 q199
           have hw199_0:=hx199_0
           (try rw [← Nbq43.out] at hx199_0)
           cases e199
           replace hx199_0:=(HB.out.cell (World.block_lt_of_cell? w _ hx199_0)).trans hx199_0
           replace p199:=eq_true p199
           replace q199:=eq_true q199
           have p53:0≤(x7_2:Int):=of_decide_eq_true (by first|(with_reducible assumption)|assumption)
           have q53:(x7_2:Int) < ((x197000_2.length:Int):Int):=of_decide_eq_true (by first|(with_reducible assumption)|assumption)
           obtain ⟨go53,co53,eo53,gb53,gl53,cl53,HG53⟩:=Kd.R_form HO_197000.out (by omega)
           (first|cases eo53|(injection eo53 with ea_ en_ ec_;(first|subst ea_|(injection ea_ with ea_;subst ea_));subst ec_;clear en_))
           have GB53:=Aside0.mk gb53
           have GG53:=Aside0.mk HG53
           clear gb53 gl53 HG53
           (first|simp only [add_plain] at hx197_0|skip)
           obtain ⟨hx53_0,hf53_0⟩:=Kd.R_celln false HO_197000.out (x7_2:Int) p53 q53
           replace p53:=eq_true p53
           replace q53:=eq_true q53
           have HP60:=Kd.R_putn HO_197000.out (x7_2:Int) (rdOf false l1_0 x7_2)
           rw [← Ny200.out] at HP60
           have HQ60:=Aside0.mk HP60
           clear HP60
           refine start_ (n:=17) (S:=fun w'=>w'.cell? ⟨gb196,0,none⟩=some (.slice (some ⟨go53,0,none⟩) x197000_2.length co59)∧w'.cell? ⟨gb196,1,none⟩=some (.slice Ao39 t192.length co39)∧w'.cell? ⟨gb196,2,none⟩=some (.int .i64 t195)∧w'.cell? ⟨gb185,0,none⟩=some (.slice (some ad199) l1_0.length c1_0)∧w'.cell? ⟨gb185,1,none⟩=some (.slice A1_1 l1_1.length c1_1)∧w'.cell? ⟨gb185,2,none⟩=some (.int .i64 a1_2)∧w'.cell? ⟨go53,(x7_2).toNat,none⟩=some (.bool false)∧w'.cell? (ad199.add (x7_2).toNat)=some (.bool (rdOf false l1_0 x7_2))) (ds:=[16]) #[false,false,false,false,false,false,false,false,false,false,false,false,false,false,false,false,false] (by kernel_rfl) rfl rfl ⟨(blk_cell BK196.out 0).trans rfl,(blk_cell BK196.out 1).trans rfl,(blk_cell BK196.out 2).trans rfl,(blk_cell BK185.out 0).trans rfl,(blk_cell BK185.out 1).trans rfl,(blk_cell BK185.out 2).trans rfl,hx197_0,((HB.out.cell (World.block_lt_of_cell? w _ hw199_0)).trans hw199_0)⟩ (fun hHeld=>?_);refine with_tabW slipwayref06_Join.tab9 slipwayref06_Join.bits9 (fun HT_ HW_=>?_)
           generalize wr.drew=w58 at HO_197000 HO_197001 BK184 BK185 BK186 BK196 HB GG53 HQ60 hf53_0 hx197_0 hx199_0 hx53_0 hHeld ⊢
           refine pure_ (i:=0) (N:=some 35) (v:=?_) (a':=?_) #[true,false,false,false,false,false,false,false,false,false,false,false,false,false,false,false,false] rfl rfl (any_of HT_.out (by kernel_rfl)) (fun _ _ _ h=>h) (Or.inl ⟨by rfl,?_⟩) ?_ ?_
           rotate_left
           ·intro w'
            go_simp
            with_reducible rfl
           rotate_left
           ·simp only [Act.put,List.setIfInBounds_toArray,List.set_cons_zero,List.set_cons_succ,i64_w,i32_w]
            rfl
           refine pure_ (i:=2) (N:=some 37) (v:=?_) (a':=?_) #[true,false,true,false,false,false,false,false,false,false,false,false,false,false,false,false,false] rfl rfl (any_of HT_.out (by kernel_rfl)) (fun _ _ _ h=>h) (Or.inl ⟨by rfl,?_⟩) ?_ ?_
           rotate_left
           ·intro w'
            go_simp
            with_reducible rfl
           rotate_left
           ·simp only [Act.put,List.setIfInBounds_toArray,List.set_cons_zero,List.set_cons_succ,i64_w,i32_w]
            rfl
           refine pure_ (i:=3) (N:=some 38) (v:=?_) (a':=?_) #[true,false,true,true,false,false,false,false,false,false,false,false,false,false,false,false,false] rfl rfl (any_of HT_.out (by kernel_rfl)) (fun _ _ _ h=>h) (Or.inl ⟨by rfl,?_⟩) ?_ ?_
           rotate_left
           ·intro w'
            go_simp
            with_reducible rfl
           rotate_left
           ·simp only [Act.put,List.setIfInBounds_toArray,List.set_cons_zero,List.set_cons_succ,i64_w,i32_w]
            rfl
           refine pure_ (i:=5) (N:=some 40) (v:=?_) (a':=?_) #[true,false,true,true,false,true,false,false,false,false,false,false,false,false,false,false,false] rfl rfl (any_of HT_.out (by kernel_rfl)) (fun _ _ _ h=>h) (Or.inl ⟨by rfl,?_⟩) ?_ ?_
           rotate_left
           ·intro w'
            go_simp
            with_reducible rfl
           rotate_left
           ·simp only [Act.put,List.setIfInBounds_toArray,List.set_cons_zero,List.set_cons_succ,i64_w,i32_w]
            rfl
           refine take_ (i:=1) (N:=some 36) (v:=?_) (a':=?_) #[true,true,true,true,false,true,false,false,false,false,false,false,false,false,false,false,false] rfl rfl (take_ofW HT_.out HW_.out (by kernel_rfl)) (fun _ _ _ h=>h) (Or.inl ⟨by rfl,?_⟩) hHeld ?_ ?_
           rotate_left
           ·rintro w' ⟨s0,s1,s2,s3,s4,s5,s6,s7⟩
            go_simp
            with_reducible rfl
           rotate_left
           ·simp only [Act.put,List.setIfInBounds_toArray,List.set_cons_zero,List.set_cons_succ,i64_w,i32_w]
            rfl
           refine take_ (i:=4) (N:=some 39) (v:=?_) (a':=?_) #[true,true,true,true,true,true,false,false,false,false,false,false,false,false,false,false,false] rfl rfl (take_ofW HT_.out HW_.out (by kernel_rfl)) (fun _ _ _ h=>h) (Or.inl ⟨by rfl,?_⟩) hHeld ?_ ?_
           rotate_left
           ·rintro w' ⟨s0,s1,s2,s3,s4,s5,s6,s7⟩
            go_simp
            with_reducible rfl
           rotate_left
           ·simp only [Act.put,List.setIfInBounds_toArray,List.set_cons_zero,List.set_cons_succ,i64_w,i32_w]
            rfl
           refine pure_ (i:=6) (N:=some 41) (v:=?_) (a':=?_) #[true,true,true,true,true,true,true,false,false,false,false,false,false,false,false,false,false] rfl rfl (any_of HT_.out (by kernel_rfl)) (fun _ _ _ h=>h) (Or.inl ⟨by rfl,?_⟩) ?_ ?_
           rotate_left
           ·intro w'
            go_simp
            with_reducible rfl
           rotate_left
           ·simp only [Act.put,List.setIfInBounds_toArray,List.set_cons_zero,List.set_cons_succ,i64_w,i32_w]
            rfl
           refine take_ (i:=7) (N:=some 42) (v:=?_) (a':=?_) #[true,true,true,true,true,true,true,true,false,false,false,false,false,false,false,false,false] rfl rfl (take_ofW HT_.out HW_.out (by kernel_rfl)) (fun _ _ _ h=>h) (Or.inl ⟨by rfl,?_⟩) hHeld ?_ ?_
           rotate_left
           ·rintro w' ⟨s0,s1,s2,s3,s4,s5,s6,s7⟩
            go_simp
            with_reducible rfl
           rotate_left
           ·simp only [Act.put,List.setIfInBounds_toArray,List.set_cons_zero,List.set_cons_succ,i64_w,i32_w]
            rfl
           refine pure_ (i:=8) (N:=some 43) (v:=?_) (a':=?_) #[true,true,true,true,true,true,true,true,true,false,false,false,false,false,false,false,false] rfl rfl (any_of HT_.out (by kernel_rfl)) (fun _ _ _ h=>h) (Or.inl ⟨by rfl,?_⟩) ?_ ?_
           rotate_left
           ·intro w'
            go_simp
            with_reducible rfl
           rotate_left
           ·simp only [Act.put,List.setIfInBounds_toArray,List.set_cons_zero,List.set_cons_succ,i64_w,i32_w]
            rfl
           refine pure_ (i:=9) (N:=some 44) (v:=?_) (a':=?_) #[true,true,true,true,true,true,true,true,true,true,false,false,false,false,false,false,false] rfl rfl (any_of HT_.out (by kernel_rfl)) (fun _ _ _ h=>h) (Or.inl ⟨by rfl,?_⟩) ?_ ?_
           rotate_left
           ·intro w'
            go_simp
            with_reducible rfl
           rotate_left
           ·simp only [Act.put,List.setIfInBounds_toArray,List.set_cons_zero,List.set_cons_succ,i64_w,i32_w]
            rfl
           refine pure_ (i:=11) (N:=some 46) (v:=?_) (a':=?_) #[true,true,true,true,true,true,true,true,true,true,false,true,false,false,false,false,false] rfl rfl (any_of HT_.out (by kernel_rfl)) (fun _ _ _ h=>h) (Or.inl ⟨by rfl,?_⟩) ?_ ?_
           rotate_left
           ·intro w'
            go_simp
            with_reducible rfl
           rotate_left
           ·simp only [Act.put,List.setIfInBounds_toArray,List.set_cons_zero,List.set_cons_succ,i64_w,i32_w]
            rfl
           refine take_ (i:=10) (N:=some 45) (v:=?_) (a':=?_) #[true,true,true,true,true,true,true,true,true,true,true,true,false,false,false,false,false] rfl rfl (take_ofW HT_.out HW_.out (by kernel_rfl)) (fun _ _ _ h=>h) (Or.inl ⟨by rfl,?_⟩) hHeld ?_ ?_
           rotate_left
           ·rintro w' ⟨s0,s1,s2,s3,s4,s5,s6,s7⟩
            go_simp
            with_reducible rfl
           rotate_left
           ·simp only [Act.put,List.setIfInBounds_toArray,List.set_cons_zero,List.set_cons_succ,i64_w,i32_w]
            rfl
           refine pure_ (i:=12) (N:=some 47) (v:=?_) (a':=?_) #[true,true,true,true,true,true,true,true,true,true,true,true,true,false,false,false,false] rfl rfl (any_of HT_.out (by kernel_rfl)) (fun _ _ _ h=>h) (Or.inl ⟨by rfl,?_⟩) ?_ ?_
           rotate_left
           ·intro w'
            go_simp
            with_reducible rfl
           rotate_left
           ·simp only [Act.put,List.setIfInBounds_toArray,List.set_cons_zero,List.set_cons_succ,i64_w,i32_w]
            rfl
           refine take_ (i:=13) (N:=some 48) (v:=?_) (a':=?_) #[true,true,true,true,true,true,true,true,true,true,true,true,true,true,false,false,false] rfl rfl (take_ofW HT_.out HW_.out (by kernel_rfl)) (fun _ _ _ h=>h) (Or.inl ⟨by rfl,?_⟩) hHeld ?_ ?_
           rotate_left
           ·rintro w' ⟨s0,s1,s2,s3,s4,s5,s6,s7⟩
            go_simp
            with_reducible rfl
           rotate_left
           ·simp only [Act.put,List.setIfInBounds_toArray,List.set_cons_zero,List.set_cons_succ,i64_w,i32_w]
            rfl
           refine pure_ (i:=14) (N:=some 49) (v:=?_) (a':=?_) #[true,true,true,true,true,true,true,true,true,true,true,true,true,true,true,false,false] rfl rfl (any_of HT_.out (by kernel_rfl)) (fun _ _ _ h=>h) (Or.inl ⟨by rfl,?_⟩) ?_ ?_
           rotate_left
           ·intro w'
            go_simp
            with_reducible rfl
           rotate_left
           ·simp only [Act.put,List.setIfInBounds_toArray,List.set_cons_zero,List.set_cons_succ,i64_w,i32_w]
            rfl
           refine pure_ (i:=15) (N:=some 50) (v:=?_) (a':=?_) #[true,true,true,true,true,true,true,true,true,true,true,true,true,true,true,true,false] rfl rfl (any_of HT_.out (by kernel_rfl)) (fun _ _ _ h=>h) (Or.inl ⟨by rfl,?_⟩) ?_ ?_
           rotate_left
           ·intro w'
            go_simp
            with_reducible rfl
           rotate_left
           ·simp only [Act.put,List.setIfInBounds_toArray,List.set_cons_zero,List.set_cons_succ,i64_w,i32_w]
            rfl
           refine last_ (i:=16) (N:=none) #[true,true,true,true,true,true,true,true,true,true,true,true,true,true,true,true,true] rfl rfl (one_of HT_.out (by kernel_rfl)) (by decide) (fun K hK=>?_)
           refine skip_ (w1:=?_) (by rfl) rfl ?_ ?_
           rotate_left
           ·go_simp
            rfl
           refine hK.out _ _ ?_
           clear hK K
           refine done_ (done_of HT_.out (by kernel_rfl)) ?_
           try go_wp2
           go_roundg k2
           case measure=>have:=HJ2.out;have:=HK2.out;omega
           case rel=>exact ⟨(wrap64 (x7_2 + 1)),(y200),(.slice (some ⟨go53,0,none⟩) x197000_2.length co59),(by first|rfl|(simp;done)|(simp [*];done)),H',⟨by have:=HJ2.out;have:=HK2.out;omega⟩,⟨by (with_reducible repeat (first|apply Kd.R_alloc|apply Kd.R_drewN|apply Kd.R_drew));exact HQ60.out⟩,⟨by (with_reducible repeat (first|apply Kd.R_alloc|apply Kd.R_drewN|apply Kd.R_drew));exact Kd.R_mono (Kd.R_far (p:=⟨go53,(x7_2:Int).toNat,none⟩) (Kd.R_types HO_197001.out GG53.out (by decide)) (fun _ hk=>hk.2) (.bool (rdOf false l1_0 x7_2))) (fun _ hk=>trivial)⟩,⟨by (with_reducible repeat (first|refine blk_drewN ?_ _|refine blk_drew ?_|refine blk_alloc ?_ _));refine blk_far ?_ (by have h_:=Kd.R_ne HO_197000.out BK184.out (by decide);intro e_;exact h_ (by rw [e_];rfl)) _;(with_reducible repeat (first|refine blk_drewN ?_ _|refine blk_drew ?_|refine blk_alloc ?_ _));exact BK184.out⟩,⟨by (with_reducible repeat (first|refine blk_drewN ?_ _|refine blk_drew ?_|refine blk_alloc ?_ _));refine blk_far ?_ (by have h_:=Kd.R_ne HO_197000.out BK185.out (by decide);intro e_;exact h_ (by rw [e_];rfl)) _;(with_reducible repeat (first|refine blk_drewN ?_ _|refine blk_drew ?_|refine blk_alloc ?_ _));exact BK185.out⟩,⟨by (with_reducible repeat (first|refine blk_drewN ?_ _|refine blk_drew ?_|refine blk_alloc ?_ _));refine blk_far ?_ (by have h_:=Kd.R_ne HO_197000.out BK186.out (by decide);intro e_;exact h_ (by rw [e_];rfl)) _;(with_reducible repeat (first|refine blk_drewN ?_ _|refine blk_drew ?_|refine blk_alloc ?_ _));exact BK186.out⟩,⟨by (with_reducible repeat (first|refine blk_drewN ?_ _|refine blk_drew ?_|refine blk_alloc ?_ _));refine blk_far ?_ (by have h_:=Kd.R_ne HO_197000.out BK196.out (by decide);intro e_;exact h_ (by rw [e_];rfl)) _;(with_reducible repeat (first|refine blk_drewN ?_ _|refine blk_drew ?_|refine blk_alloc ?_ _));exact BK196.out⟩,⟨by repeat (first|(with_reducible first|exact HB.out|apply below_alloc|apply pw_below_drewN|apply below_drew1|refine below_set ?_ GB53.out|refine below_set ?_ GE184.out|refine below_set ?_ GE185.out|refine below_set ?_ GE186.out|refine below_set ?_ GE196.out)|exact HB.out)⟩⟩
         ·rw [if_neg c42] at H
          exact absurd H (by simp)
        ·rw [if_neg c41] at H
         exact absurd H (by simp)
       ·rw [if_neg c40] at H
        have c40b0:decide (x7_2 < (l1_0.length:Int))=false:=decide_eq_false c40
        clear c40
        have H':=Aside0.mk H
        clear H
        have hnb61:=NB185_184.out
        have hnc61:=NB184_185.out
        have hnb62:=NB185_186.out
        have hnc62:=NB186_185.out
        have hnb63:=NB185_196.out
        have hnc63:=NB196_185.out
        have hcz64_0:wr.cell? ⟨gb185,0,none⟩=some (.slice A1_0 l1_0.length c1_0):=(blk_cell BK185.out 0).trans rfl
        have hcz64_1:wr.cell? ⟨gb185,1,none⟩=some (.slice A1_1 l1_1.length c1_1):=(blk_cell BK185.out 1).trans rfl
        have hcz64_2:wr.cell? ⟨gb185,2,none⟩=some (.int .i64 a1_2):=(blk_cell BK185.out 2).trans rfl
        have hfz64_0:=blk_frozen BK185.out 0
        have hfz64_1:=blk_frozen BK185.out 1
        have hfz64_2:=blk_frozen BK185.out 2
        go_wp2
        go_loopg [8] k2 (fun kq v8 w'=>∃ (x8_3:Int) (x197001_3:List Int) (u197001:Value),v8=.int .i64 x8_3∧Aside0 (slipwayref06_Join.l1 kq x8_3 l1_0 l1_1 a1_2 x197000_2 x197001_3 t195=some (r1,r2,r3,r4))∧Aside0 (kq≤k2)∧Aside0 (Kd.R Kd.bool 4 w' w.heap.size (fun _=>True) u197000 x197000_2)∧Aside0 (Kd.R (Kd.int .i64) 2 w' w.heap.size (fun _=>True) u197001 x197001_3)∧Aside0 (w'.heap[gb184]?=some (.cells #[(.slice A0_0 l0_0.length c0_0),(.slice A0_1 l0_1.length c0_1),.int .i64 a0_2] 25 (0,0)))∧Aside0 (w'.heap[gb185]?=some (.cells #[(.slice A1_0 l1_0.length c1_0),(.slice A1_1 l1_1.length c1_1),.int .i64 a1_2] 25 (0,0)))∧Aside0 (w'.heap[gb186]?=some (.cells #[(.slice none 0 0),(.slice none 0 0),.int .i64 0] 25 (0,0)))∧Aside0 (w'.heap[gb196]?=some (.cells #[u197000,u197001,.int .i64 t195] 25 (0,0)))∧Aside0 (Below w.heap.size w w'))
        case atStart=>exact ⟨(0),(t192),(.slice Ao39 t192.length co39),(by first|rfl|(simp;done)|(simp [*];done)),H',⟨Nat.le_refl _⟩,⟨by (with_reducible repeat (first|apply Kd.R_alloc|apply Kd.R_drewN|apply Kd.R_drew));exact HO_197000.out⟩,⟨by (with_reducible repeat (first|apply Kd.R_alloc|apply Kd.R_drewN|apply Kd.R_drew));exact HO_197001.out⟩,⟨by (with_reducible repeat (first|refine blk_drewN ?_ _|refine blk_drew ?_|refine blk_alloc ?_ _));exact BK184.out⟩,⟨by (with_reducible repeat (first|refine blk_drewN ?_ _|refine blk_drew ?_|refine blk_alloc ?_ _));exact BK185.out⟩,⟨by (with_reducible repeat (first|refine blk_drewN ?_ _|refine blk_drew ?_|refine blk_alloc ?_ _));exact BK186.out⟩,⟨by (with_reducible repeat (first|refine blk_drewN ?_ _|refine blk_drew ?_|refine blk_alloc ?_ _));exact BK196.out⟩,⟨by repeat (first|(with_reducible first|exact HB.out|apply below_alloc|apply pw_below_drewN|apply below_drew1|refine below_set ?_ GE184.out|refine below_set ?_ GE185.out|refine below_set ?_ GE186.out|refine below_set ?_ GE196.out)|exact HB.out)⟩⟩
        case round =>
         clear H'
         try clear c1
         try clear p1
         try clear q1
         try clear hx1
         try clear c2
         try clear p2
         try clear c3
         try clear c4
         try clear p4
         try clear q4
         try clear hx4
         try clear hf4
         try clear c5
         try clear p5
         try clear q5
         try clear hx5
         try clear hf5
         try clear c6
         try clear p6
         try clear c8
         try clear c8b0
         try clear c8b1
         try clear c10
         try clear c11
         try clear c14
         try clear c17
         try clear c18
         try clear p19
         try clear q19
         try clear hx19
         try clear c21
         try clear c22
         try clear c23
         try clear c25
         try clear c25b0
         try clear c25b1
         try clear c25b2
         try clear c27
         try clear c28
         try clear c30
         try clear c35
         try clear c36
         try clear c37
         try clear c40
         try clear c40b0
         try clear c41
         try clear c41b0
         try clear c42
         try clear c42b0
         try clear q43
         try clear c44
         try clear p45
         try clear q45
         try clear hx45
         try clear hf45
         try clear c46
         try clear c47
         try clear c48
         try clear c52
         try clear p53
         try clear q53
         try clear hx53
         try clear hf53
         try clear c54
         try clear c55
         try clear c56
         try clear c61
         try clear c62
         try clear c63
         try clear p64
         try clear hcz12_0
         try clear hcz12_1
         try clear hcz12_2
         try clear hcz15_0
         try clear hcz15_1
         try clear hcz15_2
         try clear hcz19_0
         try clear hcz19_1
         try clear hcz19_2
         try clear hcz24_0
         try clear hcz24_1
         try clear hcz24_2
         try clear hcz29_0
         try clear hcz29_1
         try clear hcz29_2
         try clear hcz31_0
         try clear hcz31_1
         try clear hcz31_2
         try clear hcz38_0
         try clear hcz38_1
         try clear hcz38_2
         try clear hcz49_0
         try clear hcz49_1
         try clear hcz49_2
         try clear hcz57_0
         try clear hcz57_1
         try clear hcz57_2
         try clear hcz64_0
         try clear hcz64_1
         try clear hcz64_2
         try clear hfz12_0
         try clear hfz12_1
         try clear hfz12_2
         try clear hfz15_0
         try clear hfz15_1
         try clear hfz15_2
         try clear hfz19_0
         try clear hfz19_1
         try clear hfz19_2
         try clear hfz24_0
         try clear hfz24_1
         try clear hfz24_2
         try clear hfz29_0
         try clear hfz29_1
         try clear hfz29_2
         try clear hfz31_0
         try clear hfz31_1
         try clear hfz31_2
         try clear hfz38_0
         try clear hfz38_1
         try clear hfz38_2
         try clear hfz49_0
         try clear hfz49_1
         try clear hfz49_2
         try clear hfz57_0
         try clear hfz57_1
         try clear hfz57_2
         try clear hfz64_0
         try clear hfz64_1
         try clear hfz64_2
         try clear hx197_0
         try clear hx199_0
         try clear hx45_0
         try clear hx53_0
         try clear p197
         try clear p199
         try clear p2
         try clear p45
         try clear p53
         try clear q197
         try clear q199
         try clear q45
         try clear q53
         obtain ⟨x8_3,x197001_3,u197001,rfl,HA,HK3,HO_197000,HO_197001,BK184,BK185,BK186,BK196,HB⟩:=hrel
         cases gk with
         | zero=>exact absurd HA.out (by simp [slipwayref06_Join.l1])
         | succ k3 =>
          have H:=HA.out
          clear HA
          simp only [slipwayref06_Join.l1] at H
          by_cases c65:x8_3 < (l1_1.length:Int)
          ·rw [if_pos c65] at H
           have c65b0:decide (x8_3 < (l1_1.length:Int))=true:=decide_eq_true c65
           clear c65
           by_cases c66:0≤x8_3
           ·rw [if_pos c66] at H
            have c66b0:decide (0≤x8_3)=true:=decide_eq_true c66
            clear c66
            by_cases c67:x8_3 < (x197001_3.length:Int)
            ·rw [if_pos c67] at H
             have c67b0:decide (x8_3 < (x197001_3.length:Int))=true:=decide_eq_true c67
             clear c67
             obtain ⟨ji68,hji68⟩:∃ j_:Int,(mx (rd x197001_3 x8_3) (rd l1_1 x8_3))=j_:=⟨_,rfl⟩
             replace H:(slipwayref06_Join.l1 k3 (wrap64 (x8_3 + 1)) l1_0 l1_1 a1_2 x197000_2 (x197001_3.set (x8_3:Int).toNat (ji68)) t195)=some (r1,r2,r3,r4):=by first|(rw [hji68] at H;exact H)|(simp only [hji68] at H ⊢;exact H)
             have hji68_:(if (rd x197001_3 x8_3) < (rd l1_1 x8_3) then (rd l1_1 x8_3) else (rd x197001_3 x8_3))=ji68:=hji68
             obtain ⟨y203,hy203⟩:∃ y_:List Int,y_=(x197001_3.set (x8_3:Int).toNat (ji68)):=⟨_,rfl⟩
             replace H:(slipwayref06_Join.l1 k3 (wrap64 (x8_3 + 1)) l1_0 l1_1 a1_2 x197000_2 y203 t195)=some (r1,r2,r3,r4):=by first|(rw [hy203];with_reducible exact H)|(have H2_:=(Option.bind_some _ _).symm.trans H;rw [hy203];with_reducible exact H2_)|(have H2_:=(Option.bind_some _ _).symm.trans H;with_reducible exact H2_)|with_reducible exact H|(rw [hy203];exact H)|exact H
             have Ny203:=Aside0.mk hy203
             clear hy203
             have H':=Aside0.mk H
             clear H
             have hnb70:=NB185_184.out
             have hnc70:=NB184_185.out
             have hnb71:=NB185_186.out
             have hnc71:=NB186_185.out
             have hnb72:=NB185_196.out
             have hnc72:=NB196_185.out
             have hcz73_0:wr.cell? ⟨gb185,0,none⟩=some (.slice A1_0 l1_0.length c1_0):=(blk_cell BK185.out 0).trans rfl
             have hcz73_1:wr.cell? ⟨gb185,1,none⟩=some (.slice A1_1 l1_1.length c1_1):=(blk_cell BK185.out 1).trans rfl
             have hcz73_2:wr.cell? ⟨gb185,2,none⟩=some (.int .i64 a1_2):=(blk_cell BK185.out 2).trans rfl
             have hfz73_0:=blk_frozen BK185.out 0
             have hfz73_1:=blk_frozen BK185.out 1
             have hfz73_2:=blk_frozen BK185.out 2
             try go_wp2
             have n0_:=Aside0.mk (Kd.R_drew HO_197000.out)
             have n1_:=Aside0.mk (Kd.R_drew HO_197001.out)
             have n2_:=Aside0.mk (blk_drew BK184.out)
             have n3_:=Aside0.mk (blk_drew BK185.out)
             have n4_:=Aside0.mk (blk_drew BK186.out)
             have n5_:=Aside0.mk (blk_drew BK196.out)
             have n6_:=Aside0.mk (below_drew1 HB.out)
             clear HO_197000 HO_197001 BK184 BK185 BK186 BK196 HB
             have HO_197000:=n0_
             have HO_197001:=n1_
             have BK184:=n2_
             have BK185:=n3_
             have BK186:=n4_
             have BK196:=n5_
             have HB:=n6_
             clear n0_ n1_ n2_ n3_ n4_ n5_ n6_
             obtain ⟨Ao75,co75,eo75⟩:=Kd.R_slice HO_197001.out
             (first|subst eo75|(injection eo75 with f1_ f2_ f3_;have f4_:=f1_.symm;have f5_:=f3_.symm;clear f1_ f2_ f3_;subst f4_;subst f5_))
             have p201:0≤(x8_3:Int):=of_decide_eq_true (by first|(with_reducible assumption)|assumption)
             have q201:x8_3 < (x197001_3.length:Int):=of_decide_eq_true (by first|(with_reducible assumption)|assumption)
             obtain ⟨ad201,e201,hx201_0⟩:=Kd.at_int (Kd.R_reads' HO_197001.out).2.2 x8_3 p201 q201
             cases e201
             replace p201:=eq_true p201
             replace q201:=eq_true q201
             have p202:0≤(x8_3:Int):=of_decide_eq_true (by first|(with_reducible assumption)|assumption)
             have q202:x8_3 < (l1_1.length:Int):=of_decide_eq_true (by first|(with_reducible assumption)|assumption)
             obtain ⟨ad202,e202,hx202_0⟩:=Kd.at_int HR1_1.out x8_3 p202 q202
             have hw202_0:=hx202_0
             cases e202
             replace hx202_0:=(HB.out.cell (World.block_lt_of_cell? w _ hx202_0)).trans hx202_0
             replace p202:=eq_true p202
             replace q202:=eq_true q202
             have p69:0≤(x8_3:Int):=of_decide_eq_true (by first|(with_reducible assumption)|assumption)
             have q69:(x8_3:Int) < ((x197001_3.length:Int):Int):=of_decide_eq_true (by first|(with_reducible assumption)|assumption)
             obtain ⟨go69,co69,eo69,gb69,gl69,cl69,HG69⟩:=Kd.R_form HO_197001.out (by omega)
             (first|cases eo69|(injection eo69 with ea_ en_ ec_;(first|subst ea_|(injection ea_ with ea_;subst ea_));subst ec_;clear en_))
             have GB69:=Aside0.mk gb69
             have GG69:=Aside0.mk HG69
             clear gb69 gl69 HG69
             (first|simp only [add_plain] at hx201_0|skip)
             obtain ⟨hx69_0,hf69_0⟩:=Kd.R_celln 0 HO_197001.out (x8_3:Int) p69 q69
             replace p69:=eq_true p69
             replace q69:=eq_true q69
             have HP76:=Kd.R_putn HO_197001.out (x8_3:Int) ji68
             rw [← Ny203.out] at HP76
             have HQ76:=Aside0.mk HP76
             clear HP76
             refine start_ (n:=16) (S:=fun w'=>w'.cell? ⟨gb196,0,none⟩=some (u197000)∧w'.cell? ⟨gb196,1,none⟩=some (.slice (some ⟨go69,0,none⟩) x197001_3.length co75)∧w'.cell? ⟨gb196,2,none⟩=some (.int .i64 t195)∧w'.cell? ⟨gb185,0,none⟩=some (.slice A1_0 l1_0.length c1_0)∧w'.cell? ⟨gb185,1,none⟩=some (.slice (some ad202) l1_1.length c1_1)∧w'.cell? ⟨gb185,2,none⟩=some (.int .i64 a1_2)∧w'.cell? ⟨go69,(x8_3).toNat,none⟩=some (.int .i64 (rd x197001_3 x8_3))∧w'.cell? (ad202.add (x8_3).toNat)=some (.int .i64 (rd l1_1 x8_3))) (ds:=[15]) #[false,false,false,false,false,false,false,false,false,false,false,false,false,false,false,false] (by kernel_rfl) rfl rfl ⟨(blk_cell BK196.out 0).trans rfl,(blk_cell BK196.out 1).trans rfl,(blk_cell BK196.out 2).trans rfl,(blk_cell BK185.out 0).trans rfl,(blk_cell BK185.out 1).trans rfl,(blk_cell BK185.out 2).trans rfl,hx201_0,((HB.out.cell (World.block_lt_of_cell? w _ hw202_0)).trans hw202_0)⟩ (fun hHeld=>?_);refine with_tabW slipwayref06_Join.tab13 slipwayref06_Join.bits13 (fun HT_ HW_=>?_)
             generalize wr.drew=w74 at HO_197000 HO_197001 BK184 BK185 BK186 BK196 HB GG69 HQ76 hf69_0 hx201_0 hx202_0 hx69_0 hHeld ⊢
             refine pure_ (i:=0) (N:=some 58) (v:=?_) (a':=?_) #[true,false,false,false,false,false,false,false,false,false,false,false,false,false,false,false] rfl rfl (any_of HT_.out (by kernel_rfl)) (fun _ _ _ h=>h) (Or.inl ⟨by rfl,?_⟩) ?_ ?_
             rotate_left
             ·intro w'
              go_simp
              with_reducible rfl
             rotate_left
             ·simp only [Act.put,List.setIfInBounds_toArray,List.set_cons_zero,List.set_cons_succ,i64_w,i32_w]
              rfl
             refine pure_ (i:=2) (N:=some 60) (v:=?_) (a':=?_) #[true,false,true,false,false,false,false,false,false,false,false,false,false,false,false,false] rfl rfl (any_of HT_.out (by kernel_rfl)) (fun _ _ _ h=>h) (Or.inl ⟨by rfl,?_⟩) ?_ ?_
             rotate_left
             ·intro w'
              go_simp
              with_reducible rfl
             rotate_left
             ·simp only [Act.put,List.setIfInBounds_toArray,List.set_cons_zero,List.set_cons_succ,i64_w,i32_w]
              rfl
             refine pure_ (i:=3) (N:=some 61) (v:=?_) (a':=?_) #[true,false,true,true,false,false,false,false,false,false,false,false,false,false,false,false] rfl rfl (any_of HT_.out (by kernel_rfl)) (fun _ _ _ h=>h) (Or.inl ⟨by rfl,?_⟩) ?_ ?_
             rotate_left
             ·intro w'
              go_simp
              with_reducible rfl
             rotate_left
             ·simp only [Act.put,List.setIfInBounds_toArray,List.set_cons_zero,List.set_cons_succ,i64_w,i32_w]
              rfl
             refine pure_ (i:=5) (N:=some 63) (v:=?_) (a':=?_) #[true,false,true,true,false,true,false,false,false,false,false,false,false,false,false,false] rfl rfl (any_of HT_.out (by kernel_rfl)) (fun _ _ _ h=>h) (Or.inl ⟨by rfl,?_⟩) ?_ ?_
             rotate_left
             ·intro w'
              go_simp
              with_reducible rfl
             rotate_left
             ·simp only [Act.put,List.setIfInBounds_toArray,List.set_cons_zero,List.set_cons_succ,i64_w,i32_w]
              rfl
             refine pure_ (i:=8) (N:=some 66) (v:=?_) (a':=?_) #[true,false,true,true,false,true,false,false,true,false,false,false,false,false,false,false] rfl rfl (any_of HT_.out (by kernel_rfl)) (fun _ _ _ h=>h) (Or.inl ⟨by rfl,?_⟩) ?_ ?_
             rotate_left
             ·intro w'
              go_simp
              with_reducible rfl
             rotate_left
             ·simp only [Act.put,List.setIfInBounds_toArray,List.set_cons_zero,List.set_cons_succ,i64_w,i32_w]
              rfl
             refine pure_ (i:=10) (N:=some 68) (v:=?_) (a':=?_) #[true,false,true,true,false,true,false,false,true,false,true,false,false,false,false,false] rfl rfl (any_of HT_.out (by kernel_rfl)) (fun _ _ _ h=>h) (Or.inl ⟨by rfl,?_⟩) ?_ ?_
             rotate_left
             ·intro w'
              go_simp
              with_reducible rfl
             rotate_left
             ·simp only [Act.put,List.setIfInBounds_toArray,List.set_cons_zero,List.set_cons_succ,i64_w,i32_w]
              rfl
             refine take_ (i:=1) (N:=some 59) (v:=?_) (a':=?_) #[true,true,true,true,false,true,false,false,true,false,true,false,false,false,false,false] rfl rfl (take_ofW HT_.out HW_.out (by kernel_rfl)) (fun _ _ _ h=>h) (Or.inl ⟨by rfl,?_⟩) hHeld ?_ ?_
             rotate_left
             ·rintro w' ⟨s0,s1,s2,s3,s4,s5,s6,s7⟩
              go_simp
              with_reducible rfl
             rotate_left
             ·simp only [Act.put,List.setIfInBounds_toArray,List.set_cons_zero,List.set_cons_succ,i64_w,i32_w]
              rfl
             refine take_ (i:=4) (N:=some 62) (v:=?_) (a':=?_) #[true,true,true,true,true,true,false,false,true,false,true,false,false,false,false,false] rfl rfl (take_ofW HT_.out HW_.out (by kernel_rfl)) (fun _ _ _ h=>h) (Or.inl ⟨by rfl,?_⟩) hHeld ?_ ?_
             rotate_left
             ·rintro w' ⟨s0,s1,s2,s3,s4,s5,s6,s7⟩
              go_simp
              with_reducible rfl
             rotate_left
             ·simp only [Act.put,List.setIfInBounds_toArray,List.set_cons_zero,List.set_cons_succ,i64_w,i32_w]
              rfl
             refine pure_ (i:=6) (N:=some 64) (v:=?_) (a':=?_) #[true,true,true,true,true,true,true,false,true,false,true,false,false,false,false,false] rfl rfl (any_of HT_.out (by kernel_rfl)) (fun _ _ _ h=>h) (Or.inl ⟨by rfl,?_⟩) ?_ ?_
             rotate_left
             ·intro w'
              go_simp
              with_reducible rfl
             rotate_left
             ·simp only [Act.put,List.setIfInBounds_toArray,List.set_cons_zero,List.set_cons_succ,i64_w,i32_w]
              rfl
             refine take_ (i:=7) (N:=some 65) (v:=?_) (a':=?_) #[true,true,true,true,true,true,true,true,true,false,true,false,false,false,false,false] rfl rfl (take_ofW HT_.out HW_.out (by kernel_rfl)) (fun _ _ _ h=>h) (Or.inl ⟨by rfl,?_⟩) hHeld ?_ ?_
             rotate_left
             ·rintro w' ⟨s0,s1,s2,s3,s4,s5,s6,s7⟩
              go_simp
              with_reducible rfl
             rotate_left
             ·simp only [Act.put,List.setIfInBounds_toArray,List.set_cons_zero,List.set_cons_succ,i64_w,i32_w]
              rfl
             refine take_ (i:=9) (N:=some 67) (v:=?_) (a':=?_) #[true,true,true,true,true,true,true,true,true,true,true,false,false,false,false,false] rfl rfl (take_ofW HT_.out HW_.out (by kernel_rfl)) (fun _ _ _ h=>h) (Or.inl ⟨by rfl,?_⟩) hHeld ?_ ?_
             rotate_left
             ·rintro w' ⟨s0,s1,s2,s3,s4,s5,s6,s7⟩
              go_simp
              with_reducible rfl
             rotate_left
             ·simp only [Act.put,List.setIfInBounds_toArray,List.set_cons_zero,List.set_cons_succ,i64_w,i32_w]
              rfl
             refine pure_ (i:=11) (N:=some 69) (v:=?_) (a':=?_) #[true,true,true,true,true,true,true,true,true,true,true,true,false,false,false,false] rfl rfl (any_of HT_.out (by kernel_rfl)) (fun _ _ _ h=>h) (Or.inl ⟨by rfl,?_⟩) ?_ ?_
             rotate_left
             ·intro w'
              go_simp
              with_reducible rfl
             rotate_left
             ·simp only [Act.put,List.setIfInBounds_toArray,List.set_cons_zero,List.set_cons_succ,i64_w,i32_w]
              rfl
             refine take_ (i:=12) (N:=some 70) (v:=?_) (a':=?_) #[true,true,true,true,true,true,true,true,true,true,true,true,true,false,false,false] rfl rfl (take_ofW HT_.out HW_.out (by kernel_rfl)) (fun _ _ _ h=>h) (Or.inl ⟨by rfl,?_⟩) hHeld ?_ ?_
             rotate_left
             ·rintro w' ⟨s0,s1,s2,s3,s4,s5,s6,s7⟩
              go_simp
              with_reducible rfl
             rotate_left
             ·simp only [Act.put,List.setIfInBounds_toArray,List.set_cons_zero,List.set_cons_succ,i64_w,i32_w]
              rfl
             refine pure_ (i:=13) (N:=some 71) (v:=?_) (a':=?_) #[true,true,true,true,true,true,true,true,true,true,true,true,true,true,false,false] rfl rfl (any_of HT_.out (by kernel_rfl)) (fun _ _ _ h=>h) (Or.inl ⟨by rfl,?_⟩) ?_ ?_
             rotate_left
             ·intro w'
              go_simp
              with_reducible rfl
             rotate_left
             ·simp only [Act.put,List.setIfInBounds_toArray,List.set_cons_zero,List.set_cons_succ,i64_w,i32_w]
              rfl
             refine pure_ (i:=14) (N:=some 72) (v:=?_) (a':=?_) #[true,true,true,true,true,true,true,true,true,true,true,true,true,true,true,false] rfl rfl (any_of HT_.out (by kernel_rfl)) (fun _ _ _ h=>h) (Or.inl ⟨by rfl,?_⟩) ?_ ?_
             rotate_left
             ·intro w'
              go_simp
              with_reducible rfl
             rotate_left
             ·simp only [Act.put,List.setIfInBounds_toArray,List.set_cons_zero,List.set_cons_succ,i64_w,i32_w]
              rfl
             refine last_ (i:=15) (N:=none) #[true,true,true,true,true,true,true,true,true,true,true,true,true,true,true,true] rfl rfl (one_of HT_.out (by kernel_rfl)) (by decide) (fun K hK=>?_)
             refine skip_ (w1:=?_) (by rfl) rfl ?_ ?_
             rotate_left
             ·go_simp
              rfl
             refine hK.out _ _ ?_
             clear hK K
             refine done_ (done_of HT_.out (by kernel_rfl)) ?_
             try go_wp2
             go_roundg k3
             case measure=>have:=HJ2.out;have:=HK2.out;have:=HK3.out;omega
             case rel=>exact ⟨(wrap64 (x8_3 + 1)),(y203),(.slice (some ⟨go69,0,none⟩) x197001_3.length co75),(by first|rfl|(simp;done)|(simp [*];done)),H',⟨by have:=HJ2.out;have:=HK2.out;have:=HK3.out;omega⟩,⟨by (with_reducible repeat (first|apply Kd.R_alloc|apply Kd.R_drewN|apply Kd.R_drew));exact Kd.R_mono (Kd.R_far (p:=⟨go69,(x8_3:Int).toNat,none⟩) (Kd.R_types HO_197000.out GG69.out (by decide)) (fun _ hk=>hk.2) (.int .i64 ji68)) (fun _ hk=>trivial)⟩,⟨by (with_reducible repeat (first|apply Kd.R_alloc|apply Kd.R_drewN|apply Kd.R_drew));exact HQ76.out⟩,⟨by (with_reducible repeat (first|refine blk_drewN ?_ _|refine blk_drew ?_|refine blk_alloc ?_ _));refine blk_far ?_ (by have h_:=Kd.R_ne HO_197001.out BK184.out (by decide);intro e_;exact h_ (by rw [e_];rfl)) _;(with_reducible repeat (first|refine blk_drewN ?_ _|refine blk_drew ?_|refine blk_alloc ?_ _));exact BK184.out⟩,⟨by (with_reducible repeat (first|refine blk_drewN ?_ _|refine blk_drew ?_|refine blk_alloc ?_ _));refine blk_far ?_ (by have h_:=Kd.R_ne HO_197001.out BK185.out (by decide);intro e_;exact h_ (by rw [e_];rfl)) _;(with_reducible repeat (first|refine blk_drewN ?_ _|refine blk_drew ?_|refine blk_alloc ?_ _));exact BK185.out⟩,⟨by (with_reducible repeat (first|refine blk_drewN ?_ _|refine blk_drew ?_|refine blk_alloc ?_ _));refine blk_far ?_ (by have h_:=Kd.R_ne HO_197001.out BK186.out (by decide);intro e_;exact h_ (by rw [e_];rfl)) _;(with_reducible repeat (first|refine blk_drewN ?_ _|refine blk_drew ?_|refine blk_alloc ?_ _));exact BK186.out⟩,⟨by (with_reducible repeat (first|refine blk_drewN ?_ _|refine blk_drew ?_|refine blk_alloc ?_ _));refine blk_far ?_ (by have h_:=Kd.R_ne HO_197001.out BK196.out (by decide);intro e_;exact h_ (by rw [e_];rfl)) _;(with_reducible repeat (first|refine blk_drewN ?_ _|refine blk_drew ?_|refine blk_alloc ?_ _));exact BK196.out⟩,⟨by repeat (first|(with_reducible first|exact HB.out|apply below_alloc|apply pw_below_drewN|apply below_drew1|refine below_set ?_ GB69.out|refine below_set ?_ GE184.out|refine below_set ?_ GE185.out|refine below_set ?_ GE186.out|refine below_set ?_ GE196.out)|exact HB.out)⟩⟩
            ·rw [if_neg c67] at H
             exact absurd H (by simp)
           ·rw [if_neg c66] at H
            exact absurd H (by simp)
          ·rw [if_neg c65] at H
           have c65b0:decide (x8_3 < (l1_1.length:Int))=false:=decide_eq_false c65
           clear c65
           obtain ⟨ji77,hji77⟩:∃ j_:Int,(mx t195 a1_2)=j_:=⟨_,rfl⟩
           replace H:(some (x197000_2,x197001_3,ji77,0))=some (r1,r2,r3,r4):=by first|(rw [hji77] at H;exact H)|(simp only [hji77] at H ⊢;exact H)
           have hji77_:(if t195 < a1_2 then a1_2 else t195)=ji77:=hji77
           simp only [Option.some.injEq,Prod.mk.injEq] at H
           obtain ⟨rfl,rfl,rfl,rfl⟩:=H
           have hnb78:=NB185_184.out
           have hnc78:=NB184_185.out
           have hnb79:=NB185_186.out
           have hnc79:=NB186_185.out
           have hnb80:=NB185_196.out
           have hnc80:=NB196_185.out
           have hcz81_0:wr.cell? ⟨gb185,0,none⟩=some (.slice A1_0 l1_0.length c1_0):=(blk_cell BK185.out 0).trans rfl
           have hcz81_1:wr.cell? ⟨gb185,1,none⟩=some (.slice A1_1 l1_1.length c1_1):=(blk_cell BK185.out 1).trans rfl
           have hcz81_2:wr.cell? ⟨gb185,2,none⟩=some (.int .i64 a1_2):=(blk_cell BK185.out 2).trans rfl
           have hfz81_0:=blk_frozen BK185.out 0
           have hfz81_1:=blk_frozen BK185.out 1
           have hfz81_2:=blk_frozen BK185.out 2
           have hnb82:=NB196_184.out
           have hnc82:=NB184_196.out
           have hnb83:=NB196_186.out
           have hnc83:=NB186_196.out
           have hcz84_0:wr.cell? ⟨gb196,0,none⟩=some (u197000):=(blk_cell BK196.out 0).trans rfl
           have hcz84_1:wr.cell? ⟨gb196,1,none⟩=some (u197001):=(blk_cell BK196.out 1).trans rfl
           have hcz84_2:wr.cell? ⟨gb196,2,none⟩=some (.int .i64 t195):=(blk_cell BK196.out 2).trans rfl
           have hfz84_0:=blk_frozen BK196.out 0
           have hfz84_1:=blk_frozen BK196.out 1
           have hfz84_2:=blk_frozen BK196.out 2
           obtain ⟨Ao85,co85,eo85⟩:=Kd.R_slice HO_197000.out
           subst eo85
           have hnb86:=NB186_184.out
           have hnc86:=NB184_186.out
           have hcz87_0:wr.cell? ⟨gb186,0,none⟩=some (.slice none 0 0):=(blk_cell BK186.out 0).trans rfl
           have hcz87_1:wr.cell? ⟨gb186,1,none⟩=some (.slice none 0 0):=(blk_cell BK186.out 1).trans rfl
           have hcz87_2:wr.cell? ⟨gb186,2,none⟩=some (.int .i64 0):=(blk_cell BK186.out 2).trans rfl
           have hfz87_0:=blk_frozen BK186.out 0
           have hfz87_1:=blk_frozen BK186.out 1
           have hfz87_2:=blk_frozen BK186.out 2
           obtain ⟨Ao88,co88,eo88⟩:=Kd.R_slice HO_197001.out
           subst eo88
           go_wp2
           refine bodyPost_ret (results_ct rfl _ _ gb186 25 #[.slice Ao85 x197000_2.length co85,.slice Ao88 x197001_3.length co88,.int .i64 ji77] (0,0) _ rfl (by (with_reducible repeat (first|refine blk_drewN ?_ _|refine blk_drew ?_|refine blk_alloc ?_ _));refine blk_put (cs:=#[.slice Ao85 x197000_2.length co85,.slice Ao88 x197001_3.length co88,.int .i64 0]) ?_ 2 _ rfl;(with_reducible repeat (first|refine blk_drewN ?_ _|refine blk_drew ?_|refine blk_alloc ?_ _));refine blk_put (cs:=#[.slice Ao85 x197000_2.length co85,.slice none 0 0,.int .i64 0]) ?_ 1 _ rfl;(with_reducible repeat (first|refine blk_drewN ?_ _|refine blk_drew ?_|refine blk_alloc ?_ _));refine blk_put (cs:=#[.slice none 0 0,.slice none 0 0,.int .i64 0]) ?_ 0 _ rfl;(with_reducible repeat (first|refine blk_drewN ?_ _|refine blk_drew ?_|refine blk_alloc ?_ _));refine blk_far ?_ NB186_196.out _;(with_reducible repeat (first|refine blk_drewN ?_ _|refine blk_drew ?_|refine blk_alloc ?_ _));exact BK186.out) Try.underlying25 rfl (by kernel_rfl)) rfl ?_
           exact ⟨_,_,by first|rfl|(simp [errW_none,errW_some] <;> rfl)|(simp only [← hji77];first|rfl|(simp [errW_none,errW_some] <;> rfl))|(simp [*,errW_none,errW_some] <;> rfl),by (with_reducible repeat (first|apply Kd.R_alloc|apply Kd.R_drewN|apply Kd.R_drew));exact Kd.R_mono (Kd.R_far (p:=⟨gb186,2,none⟩) (Kd.R_far (p:=⟨gb186,1,none⟩) (Kd.R_far (p:=⟨gb186,0,none⟩) (Kd.R_far (p:=⟨gb196,2,none⟩) (Kd.R_types (Kd.R_types HO_197000.out BK196.out (by decide)) BK186.out (by decide)) (fun _ hk=>hk.1.2) (.int .i64 ji77)) (fun _ hk=>hk.2) (.slice Ao85 x197000_2.length co85)) (fun _ hk=>hk.2) (.slice Ao88 x197001_3.length co88)) (fun _ hk=>hk.2) (.int .i64 ji77)) (fun _ hk=>trivial),by (with_reducible repeat (first|apply Kd.R_alloc|apply Kd.R_drewN|apply Kd.R_drew));exact Kd.R_mono (Kd.R_far (p:=⟨gb186,2,none⟩) (Kd.R_far (p:=⟨gb186,1,none⟩) (Kd.R_far (p:=⟨gb186,0,none⟩) (Kd.R_far (p:=⟨gb196,2,none⟩) (Kd.R_types (Kd.R_types HO_197001.out BK196.out (by decide)) BK186.out (by decide)) (fun _ hk=>hk.1.2) (.int .i64 ji77)) (fun _ hk=>hk.2) (.slice Ao85 x197000_2.length co85)) (fun _ hk=>hk.2) (.slice Ao88 x197001_3.length co88)) (fun _ hk=>hk.2) (.int .i64 ji77)) (fun _ hk=>trivial),by repeat (first|(with_reducible first|exact HB.out|apply below_alloc|apply pw_below_drewN|apply below_drew1|refine below_set ?_ GE184.out|refine below_set ?_ GE185.out|refine below_set ?_ GE186.out|refine below_set ?_ GE196.out)|exact HB.out)⟩
    ·rw [if_neg c25] at H
     have c25b0:((l0_0.length:Int) == (l1_0.length:Int))=false:=beq_eq_false_iff_ne.mpr c25
     have c25b1:((l0_0.length:Int) != (l1_0.length:Int))=true:=bne_iff_ne.mpr c25
     have c25b2:(l0_0.length == l1_0.length)=false:=by first|simpa using c25|(simp at c25 ⊢;omega)
     simp only [Option.some.injEq,Prod.mk.injEq] at H
     obtain ⟨rfl,rfl,rfl,rfl⟩:=H
     have hnb89:=NB184_185.out
     have hnc89:=NB185_184.out
     have hnb90:=NB184_186.out
     have hnc90:=NB186_184.out
     have hcz91_0:wc.cell? ⟨gb184,0,none⟩=some (.slice A0_0 l0_0.length c0_0):=(blk_cell BK184.out 0).trans rfl
     have hcz91_1:wc.cell? ⟨gb184,1,none⟩=some (.slice A0_1 l0_1.length c0_1):=(blk_cell BK184.out 1).trans rfl
     have hcz91_2:wc.cell? ⟨gb184,2,none⟩=some (.int .i64 a0_2):=(blk_cell BK184.out 2).trans rfl
     have hfz91_0:=blk_frozen BK184.out 0
     have hfz91_1:=blk_frozen BK184.out 1
     have hfz91_2:=blk_frozen BK184.out 2
     have hnb92:=NB185_186.out
     have hnc92:=NB186_185.out
     have hcz93_0:wc.cell? ⟨gb185,0,none⟩=some (.slice A1_0 l1_0.length c1_0):=(blk_cell BK185.out 0).trans rfl
     have hcz93_1:wc.cell? ⟨gb185,1,none⟩=some (.slice A1_1 l1_1.length c1_1):=(blk_cell BK185.out 1).trans rfl
     have hcz93_2:wc.cell? ⟨gb185,2,none⟩=some (.int .i64 a1_2):=(blk_cell BK185.out 2).trans rfl
     have hfz93_0:=blk_frozen BK185.out 0
     have hfz93_1:=blk_frozen BK185.out 1
     have hfz93_2:=blk_frozen BK185.out 2
     have hcz94_0:wc.cell? ⟨gb186,0,none⟩=some (.slice none 0 0):=(blk_cell BK186.out 0).trans rfl
     have hcz94_1:wc.cell? ⟨gb186,1,none⟩=some (.slice none 0 0):=(blk_cell BK186.out 1).trans rfl
     have hcz94_2:wc.cell? ⟨gb186,2,none⟩=some (.int .i64 0):=(blk_cell BK186.out 2).trans rfl
     have hfz94_0:=blk_frozen BK186.out 0
     have hfz94_1:=blk_frozen BK186.out 1
     have hfz94_2:=blk_frozen BK186.out 2
     go_wp2
     refine bodyPost_ret (results_ct rfl _ _ gb186 25 #[.slice none 0 0,.slice none 0 0,.int .i64 0] (0,0) _ rfl (by (with_reducible repeat (first|refine blk_drewN ?_ _|refine blk_drew ?_|refine blk_alloc ?_ _));refine blk_put (cs:=#[.slice none 0 0,.slice none 0 0,.int .i64 0]) ?_ 2 _ rfl;(with_reducible repeat (first|refine blk_drewN ?_ _|refine blk_drew ?_|refine blk_alloc ?_ _));refine blk_put (cs:=#[.slice none 0 0,.slice none 0 0,.int .i64 0]) ?_ 1 _ rfl;(with_reducible repeat (first|refine blk_drewN ?_ _|refine blk_drew ?_|refine blk_alloc ?_ _));refine blk_put (cs:=#[.slice none 0 0,.slice none 0 0,.int .i64 0]) ?_ 0 _ rfl;(with_reducible repeat (first|refine blk_drewN ?_ _|refine blk_drew ?_|refine blk_alloc ?_ _));exact BK186.out) Try.underlying25 rfl (by kernel_rfl)) rfl ?_
     exact ⟨_,_,by first|rfl|(simp [errW_none,errW_some] <;> rfl)|(simp [*,errW_none,errW_some] <;> rfl),by first|exact Kd.R_nil _ _ _ _ _|exact Kd.N_nil _ _ _ _ _|exact Kd.V_nil _ _ _ _ _|exact Kd.Q_nil _ _ _ _ _|exact Kd.S_nil _ _ _ _ _,by first|exact Kd.R_nil _ _ _ _ _|exact Kd.N_nil _ _ _ _ _|exact Kd.V_nil _ _ _ _ _|exact Kd.Q_nil _ _ _ _ _|exact Kd.S_nil _ _ _ _ _,by repeat (first|(with_reducible first|exact HB.out|apply below_alloc|apply pw_below_drewN|apply below_drew1|refine below_set ?_ GE184.out|refine below_set ?_ GE185.out|refine below_set ?_ GE186.out)|exact HB.out)⟩
end Go.Proofs.Ytkhbmgclklmimaa.Print
end
section
namespace Go.Proofs.Ytkhbmgclklmimaa.Print
open Go.RowKit Go.Proofs.YtkhbmgclklmimaaW.PrintWords Go.Proofs.YtkhbmgclklmimaaW.PrintLast Go.Proofs.YtkhbmgclklmimaaW.PrintMore
attribute [local go_sem] max2_int min2_int max_two min_two max_three min_three max_four min_four   -- for this text's walks alone
attribute [local go_sem ↓] Go.Proofs.Ytkhbmgclklmimaa.Sem.isSome_setCell
attribute [local go_sem] Go.Instr.field Go.asAgg
set_option linter.unusedVariables false
set_option linter.unusedSimpArgs false
def slipwayref06_nums.l0:Nat → List Int → List Int → Int → Option (Bool)
 | 0,_,_,_=>none
 | k + 1,x0,x1,x5=>if x5 < (x0.length:Int) then (if 0≤x5 then (if x5 < (x1.length:Int) then (if (rd x0 x5)=(rd x1 x5) then (slipwayref06_nums.l0 k x0 x1 (wrap64 (x5 + 1))) else (some false)) else (none)) else (none)) else (some true)
def slipwayref06_nums.f (k:Nat) (l0:List Int) (l1:List Int):Option (Bool):=if (l0.length:Int)=(l1.length:Int) then (slipwayref06_nums.l0 k l0 l1 0) else (some false)
set_option maxHeartbeats 8000000 in
set_option maxRecDepth 100000 in
theorem slipwayref06_nums.calls (k:Nat) (A0:Option Addr) (c0:Nat) (l0:List Int) (A1:Option Addr) (c1:Nat) (l1:List Int) (r:Bool) (w:World) (hr0:Kd.C (Kd.int .i64) w A0 l0.length l0) (hc0:l0.length≤c0) (hr1:Kd.C (Kd.int .i64) w A1 l1.length l1) (hc1:l1.length≤c1) (h:slipwayref06_nums.f k l0 l1=some r) :
  Calls Try.prog 54 #[.slice A0 l0.length c0,.slice A1 l1.length c1] w fun e w'=>e=.returned (.bool r)∧Drawn0 w w':=by
 have HR0:=Aside0.mk hr0
 have HC0:=Aside0.mk hc0
 clear hr0 hc0
 have HR1:=Aside0.mk hr1
 have HC1:=Aside0.mk hc1
 clear hr1 hc1
 have H:(if (l0.length:Int)=(l1.length:Int) then (slipwayref06_nums.l0 k l0 l1 0) else (some false))=some r:=h
 clear h
 by_cases c3:(l0.length:Int)=(l1.length:Int)
 ·rw [if_pos c3] at H
  have c3b0:((l0.length:Int) == (l1.length:Int))=true:=beq_iff_eq.mpr c3
  have c3b1:((l0.length:Int) != (l1.length:Int))=false:=bne_eq_false_iff_eq.mpr c3
  have c3b2:(l0.length == l1.length)=true:=by first|simpa using c3|(simp at c3 ⊢;omega)
  clear c3
  have H':=Aside0.mk H
  clear H
  go_enter Try.func54,Try.ntmps54
  go_wp2
  repeat (go_quiet (fail);try go_wp2)
  go_loopg [5] k (fun kq v5 w'=>∃ (x5_1:Int),v5=.int .i64 x5_1∧Aside0 (slipwayref06_nums.l0 kq l0 l1 x5_1=some r)∧Aside0 (kq≤k)∧Drawn0 w w')
  case atStart=>exact ⟨(0),(by first|rfl|(simp;done)|(simp [*];done)),H',⟨Nat.le_refl _⟩,by repeat (first|exact Drawn0.refl _|apply Drawn0.step)⟩
  case round =>
   clear H'
   try clear c1
   try clear p2
   try clear c3
   try clear c3b0
   try clear c3b1
   try clear c3b2
   obtain ⟨x5_1,rfl,HA,HK1,⟨m1,rfl⟩⟩:=hrel
   cases gk with
   | zero=>exact absurd HA.out (by simp [slipwayref06_nums.l0])
   | succ k1 =>
    have H:=HA.out
    clear HA
    simp only [slipwayref06_nums.l0] at H
    by_cases c4:x5_1 < (l0.length:Int)
    ·rw [if_pos c4] at H
     have c4b0:decide (x5_1 < (l0.length:Int))=true:=decide_eq_true c4
     clear c4
     by_cases c5:0≤x5_1
     ·rw [if_pos c5] at H
      have c5b0:decide (0≤x5_1)=true:=decide_eq_true c5
      clear c5
      by_cases c6:x5_1 < (l1.length:Int)
      ·rw [if_pos c6] at H
       have c6b0:decide (x5_1 < (l1.length:Int))=true:=decide_eq_true c6
       clear c6
       by_cases c7:(rd l0 x5_1)=(rd l1 x5_1)
       ·rw [if_pos c7] at H
        have c7b0:((rd l0 x5_1) == (rd l1 x5_1))=true:=beq_iff_eq.mpr c7
        have c7b1:((rd l0 x5_1) != (rd l1 x5_1))=false:=bne_eq_false_iff_eq.mpr c7
        clear c7
        have H':=Aside0.mk H
        clear H
        have p279:0≤(x5_1:Int):=of_decide_eq_true (by first|(with_reducible assumption)|assumption)
        have q279:x5_1 < (l0.length:Int):=of_decide_eq_true (by first|(with_reducible assumption)|assumption)
        obtain ⟨ad279,e279,hx279_0⟩:=Kd.at_int HR0.out x5_1 p279 q279
        cases e279
        replace p279:=eq_true p279
        replace q279:=eq_true q279
        have p280:0≤(x5_1:Int):=of_decide_eq_true (by first|(with_reducible assumption)|assumption)
        have q280:x5_1 < (l1.length:Int):=of_decide_eq_true (by first|(with_reducible assumption)|assumption)
        obtain ⟨ad280,e280,hx280_0⟩:=Kd.at_int HR1.out x5_1 p280 q280
        cases e280
        replace p280:=eq_true p280
        replace q280:=eq_true q280
        go_wp2
        repeat (go_quiet (fail);try go_wp2)
        go_roundg k1
        case measure=>have:=HK1.out;omega
        case rel=>exact ⟨(wrap64 (x5_1 + 1)),(by first|rfl|(simp;done)|(simp [*];done)),H',⟨by have:=HK1.out;omega⟩,by repeat (first|exact Drawn0.refl _|apply Drawn0.step)⟩
       ·rw [if_neg c7] at H
        have c7b0:((rd l0 x5_1) == (rd l1 x5_1))=false:=beq_eq_false_iff_ne.mpr c7
        have c7b1:((rd l0 x5_1) != (rd l1 x5_1))=true:=bne_iff_ne.mpr c7
        obtain rfl:=Option.some.inj H
        have p279:0≤(x5_1:Int):=of_decide_eq_true (by first|(with_reducible assumption)|assumption)
        have q279:x5_1 < (l0.length:Int):=of_decide_eq_true (by first|(with_reducible assumption)|assumption)
        obtain ⟨ad279,e279,hx279_0⟩:=Kd.at_int HR0.out x5_1 p279 q279
        cases e279
        replace p279:=eq_true p279
        replace q279:=eq_true q279
        have p280:0≤(x5_1:Int):=of_decide_eq_true (by first|(with_reducible assumption)|assumption)
        have q280:x5_1 < (l1.length:Int):=of_decide_eq_true (by first|(with_reducible assumption)|assumption)
        obtain ⟨ad280,e280,hx280_0⟩:=Kd.at_int HR1.out x5_1 p280 q280
        cases e280
        replace p280:=eq_true p280
        replace q280:=eq_true q280
        go_wp2
        repeat (go_quiet (fail);try go_wp2)
        go_ret
        exact ⟨by first|rfl|(simp;done)|(simp [*];done),by repeat (first|exact Drawn0.refl _|apply Drawn0.step)⟩
      ·rw [if_neg c6] at H
       exact absurd H (by simp)
     ·rw [if_neg c5] at H
      exact absurd H (by simp)
    ·rw [if_neg c4] at H
     have c4b0:decide (x5_1 < (l0.length:Int))=false:=decide_eq_false c4
     clear c4
     obtain rfl:=Option.some.inj H
     go_wp2
     repeat (go_quiet (fail);try go_wp2)
     go_ret
     exact ⟨by first|rfl|(simp;done)|(simp [*];done),by repeat (first|exact Drawn0.refl _|apply Drawn0.step)⟩
 ·rw [if_neg c3] at H
  have c3b0:((l0.length:Int) == (l1.length:Int))=false:=beq_eq_false_iff_ne.mpr c3
  have c3b1:((l0.length:Int) != (l1.length:Int))=true:=bne_iff_ne.mpr c3
  have c3b2:(l0.length == l1.length)=false:=by first|simpa using c3|(simp at c3 ⊢;omega)
  obtain rfl:=Option.some.inj H
  go_enter Try.func54,Try.ntmps54
  go_wp2
  repeat (go_quiet (fail);try go_wp2)
  go_ret
  exact ⟨by first|rfl|(simp;done)|(simp [*];done),by repeat (first|exact Drawn0.refl _|apply Drawn0.step)⟩
def slipwayref06_Same.f (k:Nat) (l0_0:List Bool) (l0_1:List Int) (a0_2:Int) (l1_0:List Bool) (l1_1:List Int) (a1_2:Int):Option (Bool):=(slipwayref06_bools.f k l0_0 l1_0).bind fun t283=>(if t283=true then ((slipwayref06_nums.f k l0_1 l1_1).bind fun t284=>(if t284=true then (some (a0_2 == a1_2)) else (some false))) else (some false))
set_option maxHeartbeats 8000000 in
set_option maxRecDepth 100000 in
theorem slipwayref06_Same.calls (k:Nat) (A0_0:Option Addr) (c0_0:Nat) (l0_0:List Bool) (A0_1:Option Addr) (c0_1:Nat) (l0_1:List Int) (a0_2:Int) (A1_0:Option Addr) (c1_0:Nat) (l1_0:List Bool) (A1_1:Option Addr) (c1_1:Nat) (l1_1:List Int) (a1_2:Int) (r:Bool) (w:World) (hr0_0:Kd.C Kd.bool w A0_0 l0_0.length l0_0) (hc0_0:l0_0.length≤c0_0) (hr0_1:Kd.C (Kd.int .i64) w A0_1 l0_1.length l0_1) (hc0_1:l0_1.length≤c0_1) (hr1_0:Kd.C Kd.bool w A1_0 l1_0.length l1_0) (hc1_0:l1_0.length≤c1_0) (hr1_1:Kd.C (Kd.int .i64) w A1_1 l1_1.length l1_1) (hc1_1:l1_1.length≤c1_1) (h:slipwayref06_Same.f k l0_0 l0_1 a0_2 l1_0 l1_1 a1_2=some r) :
  Calls Try.prog 16 #[.agg #[.slice A0_0 l0_0.length c0_0,.slice A0_1 l0_1.length c0_1,.int .i64 a0_2],.agg #[.slice A1_0 l1_0.length c1_0,.slice A1_1 l1_1.length c1_1,.int .i64 a1_2]] w fun e w'=>e=.returned (.bool r)∧Below w.heap.size w w':=by
 have hu25:=Try.underlying25
 have HR0_0:=Aside0.mk hr0_0
 have HC0_0:=Aside0.mk hc0_0
 clear hr0_0 hc0_0
 have HR0_1:=Aside0.mk hr0_1
 have HC0_1:=Aside0.mk hc0_1
 clear hr0_1 hc0_1
 have HR1_0:=Aside0.mk hr1_0
 have HC1_0:=Aside0.mk hc1_0
 clear hr1_0 hc1_0
 have HR1_1:=Aside0.mk hr1_1
 have HC1_1:=Aside0.mk hc1_1
 clear hr1_1 hc1_1
 have HB:=Aside0.mk (Below.refl w.heap.size w)
 have H:((slipwayref06_bools.f k l0_0 l1_0).bind fun t283=>(if t283=true then ((slipwayref06_nums.f k l0_1 l1_1).bind fun t284=>(if t284=true then (some (a0_2 == a1_2)) else (some false))) else (some false)))=some r:=h
 clear h
 replace H:=Option.bind_eq_some_iff.mp H
 obtain ⟨t283,A30,H⟩:=H
 replace H:(if t283=true then ((slipwayref06_nums.f k l0_1 l1_1).bind fun t284=>(if t284=true then (some (a0_2 == a1_2)) else (some false))) else (some false))=some r:=H
 have A3:=Aside0.mk A30
 clear A30
 by_cases c4:t283=true
 ·subst c4
  have H1:((slipwayref06_nums.f k l0_1 l1_1).bind fun t284=>(if t284=true then (some (a0_2 == a1_2)) else (some false)))=some r:=by rw [if_pos rfl] at H;exact H
  clear H
  have H:=H1
  clear H1
  replace H:=Option.bind_eq_some_iff.mp H
  obtain ⟨t284,A50,H⟩:=H
  replace H:(if t284=true then (some (a0_2 == a1_2)) else (some false))=some r:=H
  have A5:=Aside0.mk A50
  clear A50
  by_cases c6:t284=true
  ·subst c6
   have H1:(some (a0_2 == a1_2))=some r:=by rw [if_pos rfl] at H;exact H
   clear H
   have H:=H1
   clear H1
   obtain rfl:=Option.some.inj H
   go_enter Try.func16,Try.ntmps16
   go_wp2_with (first|((with_reducible refine gate_dst (N:=2) rfl ?_);refine box_event ?hg (N:=2) ?hd (cs:=#[.slice A0_0 l0_0.length c0_0,.slice A0_1 l0_1.length c0_1,.int .i64 a0_2]) (t:=25) ?hr ?_;(case hd=>rfl);(case hg=>rfl);(case hr=>first|(go_simp;done)|(go_simp;rfl));intro gb281 hg w7 hbox hb;have n0_:=Aside0.mk (below_step (by repeat (first|(with_reducible first|exact HB.out|apply below_alloc|apply pw_below_drewN|apply below_drew1)|exact HB.out)) hb);have n1_:=Aside0.mk (hbox);have n2_:=Aside0.mk ((by rw [hg];exact (below_size (by repeat (first|(with_reducible first|exact HB.out|apply below_alloc|apply pw_below_drewN|apply below_drew1)|exact HB.out))):w.heap.size≤gb281));have n3_:=Aside0.mk ((by rw [hg];exact (below_size (by repeat (first|(with_reducible first|exact HB.out|apply below_alloc|apply pw_below_drewN|apply below_drew1)|exact HB.out))):w.heap.size≤gb281));clear HB;have HB:=n0_;have BK281:=n1_;have GW281:=n2_;have GE281:=n3_;clear n0_ n1_ n2_ n3_;clear hb hbox hg)|((with_reducible refine gate_dst (N:=3) rfl ?_);refine box_event ?hg (N:=3) ?hd (cs:=#[.slice A1_0 l1_0.length c1_0,.slice A1_1 l1_1.length c1_1,.int .i64 a1_2]) (t:=25) ?hr ?_;(case hd=>rfl);(case hg=>rfl);(case hr=>first|(go_simp;done)|(go_simp;rfl));intro gb282 hg w8 hbox hb;have n0_:=Aside0.mk (blk_below (g:=gb281) (o:=.cells #[.slice A0_0 l0_0.length c0_0,.slice A0_1 l0_1.length c0_1,.int .i64 a0_2] 25 (0,0)) (by (with_reducible repeat (first|refine blk_drewN ?_ _|refine blk_drew ?_|refine blk_alloc ?_ _));exact BK281.out) hb);have n1_:=Aside0.mk (below_step (by repeat (first|(with_reducible first|exact HB.out|apply below_alloc|apply pw_below_drewN|apply below_drew1|refine below_set ?_ GE281.out)|exact HB.out)) hb);have n2_:=Aside0.mk (hbox);have n3_:=Aside0.mk ((by rw [hg];exact (below_size (by repeat (first|(with_reducible first|exact HB.out|apply below_alloc|apply pw_below_drewN|apply below_drew1|refine below_set ?_ GE281.out)|exact HB.out))):w.heap.size≤gb282));have n4_:=Aside0.mk ((by rw [hg];exact (below_size (by repeat (first|(with_reducible first|exact HB.out|apply below_alloc|apply pw_below_drewN|apply below_drew1|refine below_set ?_ GE281.out)|exact HB.out))):w.heap.size≤gb282));have n5_:=Aside0.mk ((by rw [hg];exact Nat.ne_of_lt (blk_lt (g:=gb281) (o:=.cells #[.slice A0_0 l0_0.length c0_0,.slice A0_1 l0_1.length c0_1,.int .i64 a0_2] 25 (0,0)) (by (with_reducible repeat (first|refine blk_drewN ?_ _|refine blk_drew ?_|refine blk_alloc ?_ _));exact BK281.out)):gb281≠gb282));have n6_:=Aside0.mk ((by rw [hg];exact Nat.ne_of_gt (blk_lt (g:=gb281) (o:=.cells #[.slice A0_0 l0_0.length c0_0,.slice A0_1 l0_1.length c0_1,.int .i64 a0_2] 25 (0,0)) (by (with_reducible repeat (first|refine blk_drewN ?_ _|refine blk_drew ?_|refine blk_alloc ?_ _));exact BK281.out)):gb282≠gb281));clear BK281 HB;have BK281:=n0_;have HB:=n1_;have BK282:=n2_;have GW282:=n3_;have GE282:=n4_;have NB281_282:=n5_;have NB282_281:=n6_;clear n0_ n1_ n2_ n3_ n4_ n5_ n6_;clear hb hbox hg;have hnb9:=NB281_282.out;have hnc9:=NB282_281.out;have hcz10_0:w8.cell? ⟨gb281,0,none⟩=some (.slice A0_0 l0_0.length c0_0):=(blk_cell BK281.out 0).trans rfl;have hcz10_1:w8.cell? ⟨gb281,1,none⟩=some (.slice A0_1 l0_1.length c0_1):=(blk_cell BK281.out 1).trans rfl;have hcz10_2:w8.cell? ⟨gb281,2,none⟩=some (.int .i64 a0_2):=(blk_cell BK281.out 2).trans rfl;have hfz10_0:=blk_frozen BK281.out 0;have hfz10_1:=blk_frozen BK281.out 1;have hfz10_2:=blk_frozen BK281.out 2;have hcz11_0:w8.cell? ⟨gb282,0,none⟩=some (.slice A1_0 l1_0.length c1_0):=(blk_cell BK282.out 0).trans rfl;have hcz11_1:w8.cell? ⟨gb282,1,none⟩=some (.slice A1_1 l1_1.length c1_1):=(blk_cell BK282.out 1).trans rfl;have hcz11_2:w8.cell? ⟨gb282,2,none⟩=some (.int .i64 a1_2):=(blk_cell BK282.out 2).trans rfl;have hfz11_0:=blk_frozen BK282.out 0;have hfz11_1:=blk_frozen BK282.out 1;have hfz11_2:=blk_frozen BK282.out 2)|((with_reducible refine gate_callee (f:=53) rfl ?_);refine goesL_ (some 9) rfl rfl Try.func53 (by kernel_rfl) rfl #[.slice A0_0 l0_0.length c0_0,.slice A1_0 l1_0.length c1_0] rfl (by (try simp only [List.map_toArray,List.map_cons,List.map_nil]);first|done|rfl|(simp only [List.length_drop,List.length_take];rfl)) ?_;(with_reducible refine (slipwayref06_bools.calls k _ _ l0_0 _ _ l1_0 true _ ?side1 ?side2 ?side3 ?side4 A3.out).mono ?_);(case side1=>repeat (first|exact (Kd.C_below HR0_0.out HB.out)|(with_reducible refine Kd.C_alloc ?_ _)|(with_reducible refine Kd.C_drewN ?_ _)|(with_reducible refine Kd.C_drew ?_)));(case side2=>exact HC0_0.out);(case side3=>repeat (first|exact (Kd.C_below HR1_0.out HB.out)|(with_reducible refine Kd.C_alloc ?_ _)|(with_reducible refine Kd.C_drewN ?_ _)|(with_reducible refine Kd.C_drew ?_)));(case side4=>exact HC1_0.out);rintro e w' ⟨rfl,⟨nd,rfl⟩⟩;refine ⟨_,rfl,?_⟩)|(go_at_call 54;(with_reducible refine (slipwayref06_nums.calls k _ _ l0_1 _ _ l1_1 true _ ?side1 ?side2 ?side3 ?side4 A5.out).mono ?_);(case side1=>repeat (first|exact (Kd.C_below HR0_1.out (by repeat (first|(with_reducible first|exact HB.out|apply below_alloc|apply pw_below_drewN|apply below_drew1|refine below_set ?_ GE281.out|refine below_set ?_ GE282.out)|exact HB.out)))|(with_reducible refine Kd.C_alloc ?_ _)|(with_reducible refine Kd.C_drewN ?_ _)|(with_reducible refine Kd.C_drew ?_)));(case side2=>exact HC0_1.out);(case side3=>repeat (first|exact (Kd.C_below HR1_1.out (by repeat (first|(with_reducible first|exact HB.out|apply below_alloc|apply pw_below_drewN|apply below_drew1|refine below_set ?_ GE281.out|refine below_set ?_ GE282.out)|exact HB.out)))|(with_reducible refine Kd.C_alloc ?_ _)|(with_reducible refine Kd.C_drewN ?_ _)|(with_reducible refine Kd.C_drew ?_)));(case side4=>exact HC1_1.out);rintro e w' ⟨rfl,⟨nd,rfl⟩⟩))
   go_ret
   exact ⟨by first|rfl|(simp [errW_none,errW_some] <;> rfl)|(simp [*,errW_none,errW_some] <;> rfl),by repeat (first|(with_reducible first|exact HB.out|apply below_alloc|apply pw_below_drewN|apply below_drew1|refine below_set ?_ GE281.out|refine below_set ?_ GE282.out)|exact HB.out)⟩
  ·replace c6:=Bool.eq_false_iff.mpr c6
   subst c6
   have H1:(some false)=some r:=by rw [if_neg (show ¬ (false=true) by decide)] at H;exact H
   clear H
   have H:=H1
   clear H1
   obtain rfl:=Option.some.inj H
   go_enter Try.func16,Try.ntmps16
   go_wp2_with (first|((with_reducible refine gate_dst (N:=2) rfl ?_);refine box_event ?hg (N:=2) ?hd (cs:=#[.slice A0_0 l0_0.length c0_0,.slice A0_1 l0_1.length c0_1,.int .i64 a0_2]) (t:=25) ?hr ?_;(case hd=>rfl);(case hg=>rfl);(case hr=>first|(go_simp;done)|(go_simp;rfl));intro gb281 hg w12 hbox hb;have n0_:=Aside0.mk (below_step (by repeat (first|(with_reducible first|exact HB.out|apply below_alloc|apply pw_below_drewN|apply below_drew1)|exact HB.out)) hb);have n1_:=Aside0.mk (hbox);have n2_:=Aside0.mk ((by rw [hg];exact (below_size (by repeat (first|(with_reducible first|exact HB.out|apply below_alloc|apply pw_below_drewN|apply below_drew1)|exact HB.out))):w.heap.size≤gb281));have n3_:=Aside0.mk ((by rw [hg];exact (below_size (by repeat (first|(with_reducible first|exact HB.out|apply below_alloc|apply pw_below_drewN|apply below_drew1)|exact HB.out))):w.heap.size≤gb281));clear HB;have HB:=n0_;have BK281:=n1_;have GW281:=n2_;have GE281:=n3_;clear n0_ n1_ n2_ n3_;clear hb hbox hg)|((with_reducible refine gate_dst (N:=3) rfl ?_);refine box_event ?hg (N:=3) ?hd (cs:=#[.slice A1_0 l1_0.length c1_0,.slice A1_1 l1_1.length c1_1,.int .i64 a1_2]) (t:=25) ?hr ?_;(case hd=>rfl);(case hg=>rfl);(case hr=>first|(go_simp;done)|(go_simp;rfl));intro gb282 hg w13 hbox hb;have n0_:=Aside0.mk (blk_below (g:=gb281) (o:=.cells #[.slice A0_0 l0_0.length c0_0,.slice A0_1 l0_1.length c0_1,.int .i64 a0_2] 25 (0,0)) (by (with_reducible repeat (first|refine blk_drewN ?_ _|refine blk_drew ?_|refine blk_alloc ?_ _));exact BK281.out) hb);have n1_:=Aside0.mk (below_step (by repeat (first|(with_reducible first|exact HB.out|apply below_alloc|apply pw_below_drewN|apply below_drew1|refine below_set ?_ GE281.out)|exact HB.out)) hb);have n2_:=Aside0.mk (hbox);have n3_:=Aside0.mk ((by rw [hg];exact (below_size (by repeat (first|(with_reducible first|exact HB.out|apply below_alloc|apply pw_below_drewN|apply below_drew1|refine below_set ?_ GE281.out)|exact HB.out))):w.heap.size≤gb282));have n4_:=Aside0.mk ((by rw [hg];exact (below_size (by repeat (first|(with_reducible first|exact HB.out|apply below_alloc|apply pw_below_drewN|apply below_drew1|refine below_set ?_ GE281.out)|exact HB.out))):w.heap.size≤gb282));have n5_:=Aside0.mk ((by rw [hg];exact Nat.ne_of_lt (blk_lt (g:=gb281) (o:=.cells #[.slice A0_0 l0_0.length c0_0,.slice A0_1 l0_1.length c0_1,.int .i64 a0_2] 25 (0,0)) (by (with_reducible repeat (first|refine blk_drewN ?_ _|refine blk_drew ?_|refine blk_alloc ?_ _));exact BK281.out)):gb281≠gb282));have n6_:=Aside0.mk ((by rw [hg];exact Nat.ne_of_gt (blk_lt (g:=gb281) (o:=.cells #[.slice A0_0 l0_0.length c0_0,.slice A0_1 l0_1.length c0_1,.int .i64 a0_2] 25 (0,0)) (by (with_reducible repeat (first|refine blk_drewN ?_ _|refine blk_drew ?_|refine blk_alloc ?_ _));exact BK281.out)):gb282≠gb281));clear BK281 HB;have BK281:=n0_;have HB:=n1_;have BK282:=n2_;have GW282:=n3_;have GE282:=n4_;have NB281_282:=n5_;have NB282_281:=n6_;clear n0_ n1_ n2_ n3_ n4_ n5_ n6_;clear hb hbox hg;have hnb14:=NB281_282.out;have hnc14:=NB282_281.out;have hcz15_0:w13.cell? ⟨gb281,0,none⟩=some (.slice A0_0 l0_0.length c0_0):=(blk_cell BK281.out 0).trans rfl;have hcz15_1:w13.cell? ⟨gb281,1,none⟩=some (.slice A0_1 l0_1.length c0_1):=(blk_cell BK281.out 1).trans rfl;have hcz15_2:w13.cell? ⟨gb281,2,none⟩=some (.int .i64 a0_2):=(blk_cell BK281.out 2).trans rfl;have hfz15_0:=blk_frozen BK281.out 0;have hfz15_1:=blk_frozen BK281.out 1;have hfz15_2:=blk_frozen BK281.out 2;have hcz16_0:w13.cell? ⟨gb282,0,none⟩=some (.slice A1_0 l1_0.length c1_0):=(blk_cell BK282.out 0).trans rfl;have hcz16_1:w13.cell? ⟨gb282,1,none⟩=some (.slice A1_1 l1_1.length c1_1):=(blk_cell BK282.out 1).trans rfl;have hcz16_2:w13.cell? ⟨gb282,2,none⟩=some (.int .i64 a1_2):=(blk_cell BK282.out 2).trans rfl;have hfz16_0:=blk_frozen BK282.out 0;have hfz16_1:=blk_frozen BK282.out 1;have hfz16_2:=blk_frozen BK282.out 2)|((with_reducible refine gate_callee (f:=53) rfl ?_);refine goesL_ (some 9) rfl rfl Try.func53 (by kernel_rfl) rfl #[.slice A0_0 l0_0.length c0_0,.slice A1_0 l1_0.length c1_0] rfl (by (try simp only [List.map_toArray,List.map_cons,List.map_nil]);first|done|rfl|(simp only [List.length_drop,List.length_take];rfl)) ?_;(with_reducible refine (slipwayref06_bools.calls k _ _ l0_0 _ _ l1_0 true _ ?side1 ?side2 ?side3 ?side4 A3.out).mono ?_);(case side1=>repeat (first|exact (Kd.C_below HR0_0.out HB.out)|(with_reducible refine Kd.C_alloc ?_ _)|(with_reducible refine Kd.C_drewN ?_ _)|(with_reducible refine Kd.C_drew ?_)));(case side2=>exact HC0_0.out);(case side3=>repeat (first|exact (Kd.C_below HR1_0.out HB.out)|(with_reducible refine Kd.C_alloc ?_ _)|(with_reducible refine Kd.C_drewN ?_ _)|(with_reducible refine Kd.C_drew ?_)));(case side4=>exact HC1_0.out);rintro e w' ⟨rfl,⟨nd,rfl⟩⟩;refine ⟨_,rfl,?_⟩)|(go_at_call 54;(with_reducible refine (slipwayref06_nums.calls k _ _ l0_1 _ _ l1_1 false _ ?side1 ?side2 ?side3 ?side4 A5.out).mono ?_);(case side1=>repeat (first|exact (Kd.C_below HR0_1.out (by repeat (first|(with_reducible first|exact HB.out|apply below_alloc|apply pw_below_drewN|apply below_drew1|refine below_set ?_ GE281.out|refine below_set ?_ GE282.out)|exact HB.out)))|(with_reducible refine Kd.C_alloc ?_ _)|(with_reducible refine Kd.C_drewN ?_ _)|(with_reducible refine Kd.C_drew ?_)));(case side2=>exact HC0_1.out);(case side3=>repeat (first|exact (Kd.C_below HR1_1.out (by repeat (first|(with_reducible first|exact HB.out|apply below_alloc|apply pw_below_drewN|apply below_drew1|refine below_set ?_ GE281.out|refine below_set ?_ GE282.out)|exact HB.out)))|(with_reducible refine Kd.C_alloc ?_ _)|(with_reducible refine Kd.C_drewN ?_ _)|(with_reducible refine Kd.C_drew ?_)));(case side4=>exact HC1_1.out);rintro e w' ⟨rfl,⟨nd,rfl⟩⟩))
   go_ret
   exact ⟨by first|rfl|(simp [errW_none,errW_some] <;> rfl)|(simp [*,errW_none,errW_some] <;> rfl),by repeat (first|(with_reducible first|exact HB.out|apply below_alloc|apply pw_below_drewN|apply below_drew1|refine below_set ?_ GE281.out|refine below_set ?_ GE282.out)|exact HB.out)⟩
 ·replace c4:=Bool.eq_false_iff.mpr c4
  subst c4
  have H1:(some false)=some r:=by rw [if_neg (show ¬ (false=true) by decide)] at H;exact H
  clear H
  have H:=H1
  clear H1
  obtain rfl:=Option.some.inj H
  go_enter Try.func16,Try.ntmps16
  go_wp2_with (first|((with_reducible refine gate_dst (N:=2) rfl ?_);refine box_event ?hg (N:=2) ?hd (cs:=#[.slice A0_0 l0_0.length c0_0,.slice A0_1 l0_1.length c0_1,.int .i64 a0_2]) (t:=25) ?hr ?_;(case hd=>rfl);(case hg=>rfl);(case hr=>first|(go_simp;done)|(go_simp;rfl));intro gb281 hg w17 hbox hb;have n0_:=Aside0.mk (below_step (by repeat (first|(with_reducible first|exact HB.out|apply below_alloc|apply pw_below_drewN|apply below_drew1)|exact HB.out)) hb);have n1_:=Aside0.mk (hbox);have n2_:=Aside0.mk ((by rw [hg];exact (below_size (by repeat (first|(with_reducible first|exact HB.out|apply below_alloc|apply pw_below_drewN|apply below_drew1)|exact HB.out))):w.heap.size≤gb281));have n3_:=Aside0.mk ((by rw [hg];exact (below_size (by repeat (first|(with_reducible first|exact HB.out|apply below_alloc|apply pw_below_drewN|apply below_drew1)|exact HB.out))):w.heap.size≤gb281));clear HB;have HB:=n0_;have BK281:=n1_;have GW281:=n2_;have GE281:=n3_;clear n0_ n1_ n2_ n3_;clear hb hbox hg)|((with_reducible refine gate_dst (N:=3) rfl ?_);refine box_event ?hg (N:=3) ?hd (cs:=#[.slice A1_0 l1_0.length c1_0,.slice A1_1 l1_1.length c1_1,.int .i64 a1_2]) (t:=25) ?hr ?_;(case hd=>rfl);(case hg=>rfl);(case hr=>first|(go_simp;done)|(go_simp;rfl));intro gb282 hg w18 hbox hb;have n0_:=Aside0.mk (blk_below (g:=gb281) (o:=.cells #[.slice A0_0 l0_0.length c0_0,.slice A0_1 l0_1.length c0_1,.int .i64 a0_2] 25 (0,0)) (by (with_reducible repeat (first|refine blk_drewN ?_ _|refine blk_drew ?_|refine blk_alloc ?_ _));exact BK281.out) hb);have n1_:=Aside0.mk (below_step (by repeat (first|(with_reducible first|exact HB.out|apply below_alloc|apply pw_below_drewN|apply below_drew1|refine below_set ?_ GE281.out)|exact HB.out)) hb);have n2_:=Aside0.mk (hbox);have n3_:=Aside0.mk ((by rw [hg];exact (below_size (by repeat (first|(with_reducible first|exact HB.out|apply below_alloc|apply pw_below_drewN|apply below_drew1|refine below_set ?_ GE281.out)|exact HB.out))):w.heap.size≤gb282));have n4_:=Aside0.mk ((by rw [hg];exact (below_size (by repeat (first|(with_reducible first|exact HB.out|apply below_alloc|apply pw_below_drewN|apply below_drew1|refine below_set ?_ GE281.out)|exact HB.out))):w.heap.size≤gb282));have n5_:=Aside0.mk ((by rw [hg];exact Nat.ne_of_lt (blk_lt (g:=gb281) (o:=.cells #[.slice A0_0 l0_0.length c0_0,.slice A0_1 l0_1.length c0_1,.int .i64 a0_2] 25 (0,0)) (by (with_reducible repeat (first|refine blk_drewN ?_ _|refine blk_drew ?_|refine blk_alloc ?_ _));exact BK281.out)):gb281≠gb282));have n6_:=Aside0.mk ((by rw [hg];exact Nat.ne_of_gt (blk_lt (g:=gb281) (o:=.cells #[.slice A0_0 l0_0.length c0_0,.slice A0_1 l0_1.length c0_1,.int .i64 a0_2] 25 (0,0)) (by (with_reducible repeat (first|refine blk_drewN ?_ _|refine blk_drew ?_|refine blk_alloc ?_ _));exact BK281.out)):gb282≠gb281));clear BK281 HB;have BK281:=n0_;have HB:=n1_;have BK282:=n2_;have GW282:=n3_;have GE282:=n4_;have NB281_282:=n5_;have NB282_281:=n6_;clear n0_ n1_ n2_ n3_ n4_ n5_ n6_;clear hb hbox hg;have hnb19:=NB281_282.out;have hnc19:=NB282_281.out;have hcz20_0:w18.cell? ⟨gb281,0,none⟩=some (.slice A0_0 l0_0.length c0_0):=(blk_cell BK281.out 0).trans rfl;have hcz20_1:w18.cell? ⟨gb281,1,none⟩=some (.slice A0_1 l0_1.length c0_1):=(blk_cell BK281.out 1).trans rfl;have hcz20_2:w18.cell? ⟨gb281,2,none⟩=some (.int .i64 a0_2):=(blk_cell BK281.out 2).trans rfl;have hfz20_0:=blk_frozen BK281.out 0;have hfz20_1:=blk_frozen BK281.out 1;have hfz20_2:=blk_frozen BK281.out 2;have hcz21_0:w18.cell? ⟨gb282,0,none⟩=some (.slice A1_0 l1_0.length c1_0):=(blk_cell BK282.out 0).trans rfl;have hcz21_1:w18.cell? ⟨gb282,1,none⟩=some (.slice A1_1 l1_1.length c1_1):=(blk_cell BK282.out 1).trans rfl;have hcz21_2:w18.cell? ⟨gb282,2,none⟩=some (.int .i64 a1_2):=(blk_cell BK282.out 2).trans rfl;have hfz21_0:=blk_frozen BK282.out 0;have hfz21_1:=blk_frozen BK282.out 1;have hfz21_2:=blk_frozen BK282.out 2)|((with_reducible refine gate_callee (f:=53) rfl ?_);refine goesL_ (some 9) rfl rfl Try.func53 (by kernel_rfl) rfl #[.slice A0_0 l0_0.length c0_0,.slice A1_0 l1_0.length c1_0] rfl (by (try simp only [List.map_toArray,List.map_cons,List.map_nil]);first|done|rfl|(simp only [List.length_drop,List.length_take];rfl)) ?_;(with_reducible refine (slipwayref06_bools.calls k _ _ l0_0 _ _ l1_0 false _ ?side1 ?side2 ?side3 ?side4 A3.out).mono ?_);(case side1=>repeat (first|exact (Kd.C_below HR0_0.out HB.out)|(with_reducible refine Kd.C_alloc ?_ _)|(with_reducible refine Kd.C_drewN ?_ _)|(with_reducible refine Kd.C_drew ?_)));(case side2=>exact HC0_0.out);(case side3=>repeat (first|exact (Kd.C_below HR1_0.out HB.out)|(with_reducible refine Kd.C_alloc ?_ _)|(with_reducible refine Kd.C_drewN ?_ _)|(with_reducible refine Kd.C_drew ?_)));(case side4=>exact HC1_0.out);rintro e w' ⟨rfl,⟨nd,rfl⟩⟩;refine ⟨_,rfl,?_⟩))
  go_ret
  exact ⟨by first|rfl|(simp [errW_none,errW_some] <;> rfl)|(simp [*,errW_none,errW_some] <;> rfl),by repeat (first|(with_reducible first|exact HB.out|apply below_alloc|apply pw_below_drewN|apply below_drew1|refine below_set ?_ GE281.out|refine below_set ?_ GE282.out)|exact HB.out)⟩
def slipwayref06_Covers.f (k:Nat) (l0_0:List Bool) (l0_1:List Int) (a0_2:Int) (l1_0:List Bool) (l1_1:List Int) (a1_2:Int):Option (Bool):=(slipwayref06_Join.f k l0_0 l0_1 a0_2 l1_0 l1_1 a1_2).bind fun bt287=>(if bt287.2.2.2=0 then ((slipwayref06_Same.f k l0_0 l0_1 a0_2 bt287.1 bt287.2.1 bt287.2.2.1).bind fun t296=>(some t296)) else (some false))
set_option maxHeartbeats 8000000 in
set_option maxRecDepth 100000 in
theorem slipwayref06_Covers.calls (k:Nat) (A0_0:Option Addr) (c0_0:Nat) (l0_0:List Bool) (A0_1:Option Addr) (c0_1:Nat) (l0_1:List Int) (a0_2:Int) (A1_0:Option Addr) (c1_0:Nat) (l1_0:List Bool) (A1_1:Option Addr) (c1_1:Nat) (l1_1:List Int) (a1_2:Int) (r:Bool) (w:World) (hr0_0:Kd.C Kd.bool w A0_0 l0_0.length l0_0) (hc0_0:l0_0.length≤c0_0) (hr0_1:Kd.C (Kd.int .i64) w A0_1 l0_1.length l0_1) (hc0_1:l0_1.length≤c0_1) (hr1_0:Kd.C Kd.bool w A1_0 l1_0.length l1_0) (hc1_0:l1_0.length≤c1_0) (hr1_1:Kd.C (Kd.int .i64) w A1_1 l1_1.length l1_1) (hc1_1:l1_1.length≤c1_1) (h:slipwayref06_Covers.f k l0_0 l0_1 a0_2 l1_0 l1_1 a1_2=some r) :
  Calls Try.prog 20 #[.agg #[.slice A0_0 l0_0.length c0_0,.slice A0_1 l0_1.length c0_1,.int .i64 a0_2],.agg #[.slice A1_0 l1_0.length c1_0,.slice A1_1 l1_1.length c1_1,.int .i64 a1_2]] w fun e w'=>e=.returned (.bool r)∧Below w.heap.size w w':=by
 have hu25:=Try.underlying25
 have HR0_0:=Aside0.mk hr0_0
 have HC0_0:=Aside0.mk hc0_0
 clear hr0_0 hc0_0
 have HR0_1:=Aside0.mk hr0_1
 have HC0_1:=Aside0.mk hc0_1
 clear hr0_1 hc0_1
 have HR1_0:=Aside0.mk hr1_0
 have HC1_0:=Aside0.mk hc1_0
 clear hr1_0 hc1_0
 have HR1_1:=Aside0.mk hr1_1
 have HC1_1:=Aside0.mk hc1_1
 clear hr1_1 hc1_1
 have HB:=Aside0.mk (Below.refl w.heap.size w)
 have H:((slipwayref06_Join.f k l0_0 l0_1 a0_2 l1_0 l1_1 a1_2).bind fun bt287=>(if bt287.2.2.2=0 then ((slipwayref06_Same.f k l0_0 l0_1 a0_2 bt287.1 bt287.2.1 bt287.2.2.1).bind fun t296=>(some t296)) else (some false)))=some r:=h
 clear h
 replace H:=Option.bind_eq_some_iff.mp H
 obtain ⟨⟨t287,t290,t293,t294⟩,A30,H⟩:=H
 replace H:(if t294=0 then ((slipwayref06_Same.f k l0_0 l0_1 a0_2 t287 t290 t293).bind fun t296=>(some t296)) else (some false))=some r:=H
 have A3:=Aside0.mk A30
 clear A30
 by_cases c4:t294=0
 ·rw [if_pos c4] at H
  have c4b0:(t294 == 0)=true:=beq_iff_eq.mpr c4
  have c4b1:(t294 != 0)=false:=bne_eq_false_iff_eq.mpr c4
  clear c4
  replace H:=Option.bind_eq_some_iff.mp H
  obtain ⟨t296,A50,H⟩:=H
  replace H:(some t296)=some r:=H
  have A5:=Aside0.mk A50
  clear A50
  obtain rfl:=Option.some.inj H
  go_enter Try.func20,Try.ntmps20
  go_wp2_with (first|((with_reducible refine gate_dst (N:=2) rfl ?_);refine box_event ?hg (N:=2) ?hd (cs:=#[.slice A0_0 l0_0.length c0_0,.slice A0_1 l0_1.length c0_1,.int .i64 a0_2]) (t:=25) ?hr ?_;(case hd=>rfl);(case hg=>rfl);(case hr=>first|(go_simp;done)|(go_simp;rfl));intro gb285 hg w6 hbox hb;have n0_:=Aside0.mk (below_step (by repeat (first|(with_reducible first|exact HB.out|apply below_alloc|apply pw_below_drewN|apply below_drew1)|exact HB.out)) hb);have n1_:=Aside0.mk (hbox);have n2_:=Aside0.mk ((by rw [hg];exact (below_size (by repeat (first|(with_reducible first|exact HB.out|apply below_alloc|apply pw_below_drewN|apply below_drew1)|exact HB.out))):w.heap.size≤gb285));have n3_:=Aside0.mk ((by rw [hg];exact (below_size (by repeat (first|(with_reducible first|exact HB.out|apply below_alloc|apply pw_below_drewN|apply below_drew1)|exact HB.out))):w.heap.size≤gb285));clear HB;have HB:=n0_;have BK285:=n1_;have GW285:=n2_;have GE285:=n3_;clear n0_ n1_ n2_ n3_;clear hb hbox hg)|((with_reducible refine gate_dst (N:=3) rfl ?_);refine box_event ?hg (N:=3) ?hd (cs:=#[.slice A1_0 l1_0.length c1_0,.slice A1_1 l1_1.length c1_1,.int .i64 a1_2]) (t:=25) ?hr ?_;(case hd=>rfl);(case hg=>rfl);(case hr=>first|(go_simp;done)|(go_simp;rfl));intro gb286 hg w7 hbox hb;have n0_:=Aside0.mk (blk_below (g:=gb285) (o:=.cells #[.slice A0_0 l0_0.length c0_0,.slice A0_1 l0_1.length c0_1,.int .i64 a0_2] 25 (0,0)) (by (with_reducible repeat (first|refine blk_drewN ?_ _|refine blk_drew ?_|refine blk_alloc ?_ _));exact BK285.out) hb);have n1_:=Aside0.mk (below_step (by repeat (first|(with_reducible first|exact HB.out|apply below_alloc|apply pw_below_drewN|apply below_drew1|refine below_set ?_ GE285.out)|exact HB.out)) hb);have n2_:=Aside0.mk (hbox);have n3_:=Aside0.mk ((by rw [hg];exact (below_size (by repeat (first|(with_reducible first|exact HB.out|apply below_alloc|apply pw_below_drewN|apply below_drew1|refine below_set ?_ GE285.out)|exact HB.out))):w.heap.size≤gb286));have n4_:=Aside0.mk ((by rw [hg];exact (below_size (by repeat (first|(with_reducible first|exact HB.out|apply below_alloc|apply pw_below_drewN|apply below_drew1|refine below_set ?_ GE285.out)|exact HB.out))):w.heap.size≤gb286));have n5_:=Aside0.mk ((by rw [hg];exact Nat.ne_of_lt (blk_lt (g:=gb285) (o:=.cells #[.slice A0_0 l0_0.length c0_0,.slice A0_1 l0_1.length c0_1,.int .i64 a0_2] 25 (0,0)) (by (with_reducible repeat (first|refine blk_drewN ?_ _|refine blk_drew ?_|refine blk_alloc ?_ _));exact BK285.out)):gb285≠gb286));have n6_:=Aside0.mk ((by rw [hg];exact Nat.ne_of_gt (blk_lt (g:=gb285) (o:=.cells #[.slice A0_0 l0_0.length c0_0,.slice A0_1 l0_1.length c0_1,.int .i64 a0_2] 25 (0,0)) (by (with_reducible repeat (first|refine blk_drewN ?_ _|refine blk_drew ?_|refine blk_alloc ?_ _));exact BK285.out)):gb286≠gb285));clear BK285 HB;have BK285:=n0_;have HB:=n1_;have BK286:=n2_;have GW286:=n3_;have GE286:=n4_;have NB285_286:=n5_;have NB286_285:=n6_;clear n0_ n1_ n2_ n3_ n4_ n5_ n6_;clear hb hbox hg;have hnb8:=NB285_286.out;have hnc8:=NB286_285.out;have hcz9_0:w7.cell? ⟨gb285,0,none⟩=some (.slice A0_0 l0_0.length c0_0):=(blk_cell BK285.out 0).trans rfl;have hcz9_1:w7.cell? ⟨gb285,1,none⟩=some (.slice A0_1 l0_1.length c0_1):=(blk_cell BK285.out 1).trans rfl;have hcz9_2:w7.cell? ⟨gb285,2,none⟩=some (.int .i64 a0_2):=(blk_cell BK285.out 2).trans rfl;have hfz9_0:=blk_frozen BK285.out 0;have hfz9_1:=blk_frozen BK285.out 1;have hfz9_2:=blk_frozen BK285.out 2;have hcz10_0:w7.cell? ⟨gb286,0,none⟩=some (.slice A1_0 l1_0.length c1_0):=(blk_cell BK286.out 0).trans rfl;have hcz10_1:w7.cell? ⟨gb286,1,none⟩=some (.slice A1_1 l1_1.length c1_1):=(blk_cell BK286.out 1).trans rfl;have hcz10_2:w7.cell? ⟨gb286,2,none⟩=some (.int .i64 a1_2):=(blk_cell BK286.out 2).trans rfl;have hfz10_0:=blk_frozen BK286.out 0;have hfz10_1:=blk_frozen BK286.out 1;have hfz10_2:=blk_frozen BK286.out 2)|((with_reducible refine gate_callee (f:=14) rfl ?_);refine goesL_ (some 10) rfl rfl Try.func14 (by kernel_rfl) rfl #[.agg #[.slice A0_0 l0_0.length c0_0,.slice A0_1 l0_1.length c0_1,.int .i64 a0_2],.agg #[.slice A1_0 l1_0.length c1_0,.slice A1_1 l1_1.length c1_1,.int .i64 a1_2]] rfl (by (try simp only [List.map_toArray,List.map_cons,List.map_nil]);first|done|rfl|(simp only [List.length_drop,List.length_take];rfl)) ?_;(with_reducible refine (slipwayref06_Join.calls k _ _ l0_0 _ _ l0_1 a0_2 _ _ l1_0 _ _ l1_1 a1_2 t287 t290 t293 t294 _ ?side1 ?side2 ?side3 ?side4 ?side5 ?side6 ?side7 ?side8 A3.out).mono ?_);(case side1=>repeat (first|exact (Kd.C_below HR0_0.out HB.out)|(with_reducible refine Kd.C_alloc ?_ _)|(with_reducible refine Kd.C_drewN ?_ _)|(with_reducible refine Kd.C_drew ?_)));(case side2=>exact HC0_0.out);(case side3=>repeat (first|exact (Kd.C_below HR0_1.out HB.out)|(with_reducible refine Kd.C_alloc ?_ _)|(with_reducible refine Kd.C_drewN ?_ _)|(with_reducible refine Kd.C_drew ?_)));(case side4=>exact HC0_1.out);(case side5=>repeat (first|exact (Kd.C_below HR1_0.out HB.out)|(with_reducible refine Kd.C_alloc ?_ _)|(with_reducible refine Kd.C_drewN ?_ _)|(with_reducible refine Kd.C_drew ?_)));(case side6=>exact HC1_0.out);(case side7=>repeat (first|exact (Kd.C_below HR1_1.out HB.out)|(with_reducible refine Kd.C_alloc ?_ _)|(with_reducible refine Kd.C_drewN ?_ _)|(with_reducible refine Kd.C_drew ?_)));(case side8=>exact HC1_1.out);rintro e w11 ⟨v288,v291,rfl,ho0,ho1,hb⟩;refine ⟨_,rfl,?_⟩;have n0_:=Aside0.mk (Kd.R_lower ho0 (below_size (by repeat (first|(with_reducible first|exact HB.out|apply below_alloc|apply pw_below_drewN|apply below_drew1|refine below_set ?_ GE285.out|refine below_set ?_ GE286.out)|exact HB.out))));have n1_:=Aside0.mk (Kd.R_lower ho1 (below_size (by repeat (first|(with_reducible first|exact HB.out|apply below_alloc|apply pw_below_drewN|apply below_drew1|refine below_set ?_ GE285.out|refine below_set ?_ GE286.out)|exact HB.out))));have n2_:=Aside0.mk (blk_below (g:=gb285) (o:=.cells #[.slice A0_0 l0_0.length c0_0,.slice A0_1 l0_1.length c0_1,.int .i64 a0_2] 25 (0,0)) (by (with_reducible repeat (first|refine blk_drewN ?_ _|refine blk_drew ?_|refine blk_alloc ?_ _));exact BK285.out) hb);have n3_:=Aside0.mk (blk_below (g:=gb286) (o:=.cells #[.slice A1_0 l1_0.length c1_0,.slice A1_1 l1_1.length c1_1,.int .i64 a1_2] 25 (0,0)) (by (with_reducible repeat (first|refine blk_drewN ?_ _|refine blk_drew ?_|refine blk_alloc ?_ _));exact BK286.out) hb);have n4_:=Aside0.mk (below_step (by repeat (first|(with_reducible first|exact HB.out|apply below_alloc|apply pw_below_drewN|apply below_drew1|refine below_set ?_ GE285.out|refine below_set ?_ GE286.out)|exact HB.out)) hb);clear BK285 BK286 HB;have HO289:=n0_;have HO292:=n1_;have BK285:=n2_;have BK286:=n3_;have HB:=n4_;clear n0_ n1_ n2_ n3_ n4_;(try clear hb);(try clear hb2);(try clear hk);(try clear hi);(try clear ho0);(try clear ho1))|((with_reducible refine gate_dst (N:=5) rfl ?_);refine box_event ?hg (N:=5) ?hd (cs:=#[.slice none 0 0,.slice none 0 0,.int .i64 0]) (t:=25) ?hr ?_;(case hd=>rfl);(case hg=>rfl);(case hr=>first|(go_simp;done)|(go_simp;rfl));intro gb295 hg w12 hbox hb;have n0_:=Aside0.mk (Kd.R_below (by (with_reducible repeat (first|apply Kd.R_alloc|apply Kd.R_drewN|apply Kd.R_drew));exact HO289.out) hb);have n1_:=Aside0.mk (Kd.R_below (by (with_reducible repeat (first|apply Kd.R_alloc|apply Kd.R_drewN|apply Kd.R_drew));exact HO292.out) hb);have n2_:=Aside0.mk (blk_below (g:=gb285) (o:=.cells #[.slice A0_0 l0_0.length c0_0,.slice A0_1 l0_1.length c0_1,.int .i64 a0_2] 25 (0,0)) (by (with_reducible repeat (first|refine blk_drewN ?_ _|refine blk_drew ?_|refine blk_alloc ?_ _));exact BK285.out) hb);have n3_:=Aside0.mk (blk_below (g:=gb286) (o:=.cells #[.slice A1_0 l1_0.length c1_0,.slice A1_1 l1_1.length c1_1,.int .i64 a1_2] 25 (0,0)) (by (with_reducible repeat (first|refine blk_drewN ?_ _|refine blk_drew ?_|refine blk_alloc ?_ _));exact BK286.out) hb);have n4_:=Aside0.mk (below_step (by repeat (first|(with_reducible first|exact HB.out|apply below_alloc|apply pw_below_drewN|apply below_drew1|refine below_set ?_ GE285.out|refine below_set ?_ GE286.out)|exact HB.out)) hb);have n5_:=Aside0.mk (hbox);have n6_:=Aside0.mk ((by rw [hg];exact (below_size (by repeat (first|(with_reducible first|exact HB.out|apply below_alloc|apply pw_below_drewN|apply below_drew1|refine below_set ?_ GE285.out|refine below_set ?_ GE286.out)|exact HB.out))):w.heap.size≤gb295));have n7_:=Aside0.mk ((by rw [hg];exact (below_size (by repeat (first|(with_reducible first|exact HB.out|apply below_alloc|apply pw_below_drewN|apply below_drew1|refine below_set ?_ GE285.out|refine below_set ?_ GE286.out)|exact HB.out))):w.heap.size≤gb295));have n8_:=Aside0.mk ((by rw [hg];exact Nat.ne_of_lt (blk_lt (g:=gb285) (o:=.cells #[.slice A0_0 l0_0.length c0_0,.slice A0_1 l0_1.length c0_1,.int .i64 a0_2] 25 (0,0)) (by (with_reducible repeat (first|refine blk_drewN ?_ _|refine blk_drew ?_|refine blk_alloc ?_ _));exact BK285.out)):gb285≠gb295));have n9_:=Aside0.mk ((by rw [hg];exact Nat.ne_of_gt (blk_lt (g:=gb285) (o:=.cells #[.slice A0_0 l0_0.length c0_0,.slice A0_1 l0_1.length c0_1,.int .i64 a0_2] 25 (0,0)) (by (with_reducible repeat (first|refine blk_drewN ?_ _|refine blk_drew ?_|refine blk_alloc ?_ _));exact BK285.out)):gb295≠gb285));have n10_:=Aside0.mk ((by rw [hg];exact Nat.ne_of_lt (blk_lt (g:=gb286) (o:=.cells #[.slice A1_0 l1_0.length c1_0,.slice A1_1 l1_1.length c1_1,.int .i64 a1_2] 25 (0,0)) (by (with_reducible repeat (first|refine blk_drewN ?_ _|refine blk_drew ?_|refine blk_alloc ?_ _));exact BK286.out)):gb286≠gb295));have n11_:=Aside0.mk ((by rw [hg];exact Nat.ne_of_gt (blk_lt (g:=gb286) (o:=.cells #[.slice A1_0 l1_0.length c1_0,.slice A1_1 l1_1.length c1_1,.int .i64 a1_2] 25 (0,0)) (by (with_reducible repeat (first|refine blk_drewN ?_ _|refine blk_drew ?_|refine blk_alloc ?_ _));exact BK286.out)):gb295≠gb286));clear HO289 HO292 BK285 BK286 HB;have HO289:=n0_;have HO292:=n1_;have BK285:=n2_;have BK286:=n3_;have HB:=n4_;have BK295:=n5_;have GW295:=n6_;have GE295:=n7_;have NB285_295:=n8_;have NB295_285:=n9_;have NB286_295:=n10_;have NB295_286:=n11_;clear n0_ n1_ n2_ n3_ n4_ n5_ n6_ n7_ n8_ n9_ n10_ n11_;clear hb hbox hg;obtain ⟨Ao13,co13,eo13⟩:=Kd.R_slice HO289.out;subst eo13;have hnb14:=NB295_285.out;have hnc14:=NB285_295.out;have hnb15:=NB295_286.out;have hnc15:=NB286_295.out;have hcz16_0:w12.cell? ⟨gb295,0,none⟩=some (.slice none 0 0):=(blk_cell BK295.out 0).trans rfl;have hcz16_1:w12.cell? ⟨gb295,1,none⟩=some (.slice none 0 0):=(blk_cell BK295.out 1).trans rfl;have hcz16_2:w12.cell? ⟨gb295,2,none⟩=some (.int .i64 0):=(blk_cell BK295.out 2).trans rfl;have hfz16_0:=blk_frozen BK295.out 0;have hfz16_1:=blk_frozen BK295.out 1;have hfz16_2:=blk_frozen BK295.out 2;obtain ⟨Ao17,co17,eo17⟩:=Kd.R_slice HO292.out;subst eo17;have hcz18_0:w12.cell? ⟨gb285,0,none⟩=some (.slice A0_0 l0_0.length c0_0):=(blk_cell BK285.out 0).trans rfl;have hcz18_1:w12.cell? ⟨gb285,1,none⟩=some (.slice A0_1 l0_1.length c0_1):=(blk_cell BK285.out 1).trans rfl;have hcz18_2:w12.cell? ⟨gb285,2,none⟩=some (.int .i64 a0_2):=(blk_cell BK285.out 2).trans rfl;have hfz18_0:=blk_frozen BK285.out 0;have hfz18_1:=blk_frozen BK285.out 1;have hfz18_2:=blk_frozen BK285.out 2)|(go_at_call 16;(with_reducible refine (slipwayref06_Same.calls k _ _ l0_0 _ _ l0_1 a0_2 _ _ t287 _ _ t290 t293 t296 _ ?side1 ?side2 ?side3 ?side4 ?side5 ?side6 ?side7 ?side8 A5.out).mono ?_);(case side1=>exact Kd.C_below HR0_0.out (by repeat (first|(with_reducible first|exact HB.out|apply below_alloc|apply pw_below_drewN|apply below_drew1|refine below_set ?_ GE285.out|refine below_set ?_ GE286.out|refine below_set ?_ GE295.out)|exact HB.out)));(case side2=>exact HC0_0.out);(case side3=>exact Kd.C_below HR0_1.out (by repeat (first|(with_reducible first|exact HB.out|apply below_alloc|apply pw_below_drewN|apply below_drew1|refine below_set ?_ GE285.out|refine below_set ?_ GE286.out|refine below_set ?_ GE295.out)|exact HB.out)));(case side4=>exact HC0_1.out);(case side5=>refine (Kd.R_reads' (e:=4) (base:=w.heap.size) (ok:=fun k_=>True) (n:=t287.length) (c:=co13) ?_).2.2;exact (by (with_reducible repeat (first|apply Kd.R_alloc|apply Kd.R_drewN|apply Kd.R_drew));exact (Kd.R_mono (Kd.R_far (p:=⟨gb295,2,none⟩) (Kd.R_far (p:=⟨gb295,1,none⟩) (Kd.R_far (p:=⟨gb295,0,none⟩) (Kd.R_types HO289.out BK295.out (by decide)) (fun _ hk=>hk.2) (.slice Ao13 t287.length co13)) (fun _ hk=>hk.2) (.slice Ao17 t290.length co17)) (fun _ hk=>hk.2) (.int .i64 t293)) (fun _ h_=>h_.1))));(case side6=>exact (Kd.R_reads' HO289.out).2.1);(case side7=>refine (Kd.R_reads' (e:=2) (base:=w.heap.size) (ok:=fun k_=>True) (n:=t290.length) (c:=co17) ?_).2.2;exact (by (with_reducible repeat (first|apply Kd.R_alloc|apply Kd.R_drewN|apply Kd.R_drew));exact (Kd.R_mono (Kd.R_far (p:=⟨gb295,2,none⟩) (Kd.R_far (p:=⟨gb295,1,none⟩) (Kd.R_far (p:=⟨gb295,0,none⟩) (Kd.R_types HO292.out BK295.out (by decide)) (fun _ hk=>hk.2) (.slice Ao13 t287.length co13)) (fun _ hk=>hk.2) (.slice Ao17 t290.length co17)) (fun _ hk=>hk.2) (.int .i64 t293)) (fun _ h_=>h_.1))));(case side8=>exact (Kd.R_reads' HO292.out).2.1);rintro e w19 ⟨rfl,hb⟩;have n0_:=Aside0.mk (Kd.R_below (by (with_reducible repeat (first|apply Kd.R_alloc|apply Kd.R_drewN|apply Kd.R_drew));exact (Kd.R_mono (Kd.R_far (p:=⟨gb295,2,none⟩) (Kd.R_far (p:=⟨gb295,1,none⟩) (Kd.R_far (p:=⟨gb295,0,none⟩) (Kd.R_types HO289.out BK295.out (by decide)) (fun _ hk=>hk.2) (.slice Ao13 t287.length co13)) (fun _ hk=>hk.2) (.slice Ao17 t290.length co17)) (fun _ hk=>hk.2) (.int .i64 t293)) (fun _ h_=>h_.1))) hb);have n1_:=Aside0.mk (Kd.R_below (by (with_reducible repeat (first|apply Kd.R_alloc|apply Kd.R_drewN|apply Kd.R_drew));exact (Kd.R_mono (Kd.R_far (p:=⟨gb295,2,none⟩) (Kd.R_far (p:=⟨gb295,1,none⟩) (Kd.R_far (p:=⟨gb295,0,none⟩) (Kd.R_types HO292.out BK295.out (by decide)) (fun _ hk=>hk.2) (.slice Ao13 t287.length co13)) (fun _ hk=>hk.2) (.slice Ao17 t290.length co17)) (fun _ hk=>hk.2) (.int .i64 t293)) (fun _ h_=>h_.1))) hb);have n2_:=Aside0.mk (blk_below (g:=gb285) (o:=.cells #[.slice A0_0 l0_0.length c0_0,.slice A0_1 l0_1.length c0_1,.int .i64 a0_2] 25 (0,0)) (by (with_reducible repeat (first|refine blk_drewN ?_ _|refine blk_drew ?_|refine blk_alloc ?_ _));refine blk_far ?_ NB285_295.out _;(with_reducible repeat (first|refine blk_drewN ?_ _|refine blk_drew ?_|refine blk_alloc ?_ _));refine blk_far ?_ NB285_295.out _;(with_reducible repeat (first|refine blk_drewN ?_ _|refine blk_drew ?_|refine blk_alloc ?_ _));refine blk_far ?_ NB285_295.out _;(with_reducible repeat (first|refine blk_drewN ?_ _|refine blk_drew ?_|refine blk_alloc ?_ _));exact BK285.out) hb);have n3_:=Aside0.mk (blk_below (g:=gb286) (o:=.cells #[.slice A1_0 l1_0.length c1_0,.slice A1_1 l1_1.length c1_1,.int .i64 a1_2] 25 (0,0)) (by (with_reducible repeat (first|refine blk_drewN ?_ _|refine blk_drew ?_|refine blk_alloc ?_ _));refine blk_far ?_ NB286_295.out _;(with_reducible repeat (first|refine blk_drewN ?_ _|refine blk_drew ?_|refine blk_alloc ?_ _));refine blk_far ?_ NB286_295.out _;(with_reducible repeat (first|refine blk_drewN ?_ _|refine blk_drew ?_|refine blk_alloc ?_ _));refine blk_far ?_ NB286_295.out _;(with_reducible repeat (first|refine blk_drewN ?_ _|refine blk_drew ?_|refine blk_alloc ?_ _));exact BK286.out) hb);have n4_:=Aside0.mk (blk_below (g:=gb295) (o:=.cells #[.slice Ao13 t287.length co13,.slice Ao17 t290.length co17,.int .i64 t293] 25 (0,0)) (by (with_reducible repeat (first|refine blk_drewN ?_ _|refine blk_drew ?_|refine blk_alloc ?_ _));refine blk_put (cs:=#[.slice Ao13 t287.length co13,.slice Ao17 t290.length co17,.int .i64 0]) ?_ 2 _ rfl;(with_reducible repeat (first|refine blk_drewN ?_ _|refine blk_drew ?_|refine blk_alloc ?_ _));refine blk_put (cs:=#[.slice Ao13 t287.length co13,.slice none 0 0,.int .i64 0]) ?_ 1 _ rfl;(with_reducible repeat (first|refine blk_drewN ?_ _|refine blk_drew ?_|refine blk_alloc ?_ _));refine blk_put (cs:=#[.slice none 0 0,.slice none 0 0,.int .i64 0]) ?_ 0 _ rfl;(with_reducible repeat (first|refine blk_drewN ?_ _|refine blk_drew ?_|refine blk_alloc ?_ _));exact BK295.out) hb);have n5_:=Aside0.mk (below_step (by repeat (first|(with_reducible first|exact HB.out|apply below_alloc|apply pw_below_drewN|apply below_drew1|refine below_set ?_ GE285.out|refine below_set ?_ GE286.out|refine below_set ?_ GE295.out)|exact HB.out)) hb);clear HO289 HO292 BK285 BK286 BK295 HB;have HO289:=n0_;have HO292:=n1_;have BK285:=n2_;have BK286:=n3_;have BK295:=n4_;have HB:=n5_;clear n0_ n1_ n2_ n3_ n4_ n5_;(try clear hb);(try clear hb2);(try clear hk);(try clear hi)))
  go_ret
  exact ⟨by first|rfl|(simp [errW_none,errW_some] <;> rfl)|(simp [*,errW_none,errW_some] <;> rfl),by repeat (first|(with_reducible first|exact HB.out|apply below_alloc|apply pw_below_drewN|apply below_drew1|refine below_set ?_ GE285.out|refine below_set ?_ GE286.out|refine below_set ?_ GE295.out)|exact HB.out)⟩
 ·rw [if_neg c4] at H
  have c4b0:(t294 == 0)=false:=beq_eq_false_iff_ne.mpr c4
  have c4b1:(t294 != 0)=true:=bne_iff_ne.mpr c4
  obtain rfl:=Option.some.inj H
  go_enter Try.func20,Try.ntmps20
  go_wp2_with (first|((with_reducible refine gate_dst (N:=2) rfl ?_);refine box_event ?hg (N:=2) ?hd (cs:=#[.slice A0_0 l0_0.length c0_0,.slice A0_1 l0_1.length c0_1,.int .i64 a0_2]) (t:=25) ?hr ?_;(case hd=>rfl);(case hg=>rfl);(case hr=>first|(go_simp;done)|(go_simp;rfl));intro gb285 hg w20 hbox hb;have n0_:=Aside0.mk (below_step (by repeat (first|(with_reducible first|exact HB.out|apply below_alloc|apply pw_below_drewN|apply below_drew1)|exact HB.out)) hb);have n1_:=Aside0.mk (hbox);have n2_:=Aside0.mk ((by rw [hg];exact (below_size (by repeat (first|(with_reducible first|exact HB.out|apply below_alloc|apply pw_below_drewN|apply below_drew1)|exact HB.out))):w.heap.size≤gb285));have n3_:=Aside0.mk ((by rw [hg];exact (below_size (by repeat (first|(with_reducible first|exact HB.out|apply below_alloc|apply pw_below_drewN|apply below_drew1)|exact HB.out))):w.heap.size≤gb285));clear HB;have HB:=n0_;have BK285:=n1_;have GW285:=n2_;have GE285:=n3_;clear n0_ n1_ n2_ n3_;clear hb hbox hg)|((with_reducible refine gate_dst (N:=3) rfl ?_);refine box_event ?hg (N:=3) ?hd (cs:=#[.slice A1_0 l1_0.length c1_0,.slice A1_1 l1_1.length c1_1,.int .i64 a1_2]) (t:=25) ?hr ?_;(case hd=>rfl);(case hg=>rfl);(case hr=>first|(go_simp;done)|(go_simp;rfl));intro gb286 hg w21 hbox hb;have n0_:=Aside0.mk (blk_below (g:=gb285) (o:=.cells #[.slice A0_0 l0_0.length c0_0,.slice A0_1 l0_1.length c0_1,.int .i64 a0_2] 25 (0,0)) (by (with_reducible repeat (first|refine blk_drewN ?_ _|refine blk_drew ?_|refine blk_alloc ?_ _));exact BK285.out) hb);have n1_:=Aside0.mk (below_step (by repeat (first|(with_reducible first|exact HB.out|apply below_alloc|apply pw_below_drewN|apply below_drew1|refine below_set ?_ GE285.out)|exact HB.out)) hb);have n2_:=Aside0.mk (hbox);have n3_:=Aside0.mk ((by rw [hg];exact (below_size (by repeat (first|(with_reducible first|exact HB.out|apply below_alloc|apply pw_below_drewN|apply below_drew1|refine below_set ?_ GE285.out)|exact HB.out))):w.heap.size≤gb286));have n4_:=Aside0.mk ((by rw [hg];exact (below_size (by repeat (first|(with_reducible first|exact HB.out|apply below_alloc|apply pw_below_drewN|apply below_drew1|refine below_set ?_ GE285.out)|exact HB.out))):w.heap.size≤gb286));have n5_:=Aside0.mk ((by rw [hg];exact Nat.ne_of_lt (blk_lt (g:=gb285) (o:=.cells #[.slice A0_0 l0_0.length c0_0,.slice A0_1 l0_1.length c0_1,.int .i64 a0_2] 25 (0,0)) (by (with_reducible repeat (first|refine blk_drewN ?_ _|refine blk_drew ?_|refine blk_alloc ?_ _));exact BK285.out)):gb285≠gb286));have n6_:=Aside0.mk ((by rw [hg];exact Nat.ne_of_gt (blk_lt (g:=gb285) (o:=.cells #[.slice A0_0 l0_0.length c0_0,.slice A0_1 l0_1.length c0_1,.int .i64 a0_2] 25 (0,0)) (by (with_reducible repeat (first|refine blk_drewN ?_ _|refine blk_drew ?_|refine blk_alloc ?_ _));exact BK285.out)):gb286≠gb285));clear BK285 HB;have BK285:=n0_;have HB:=n1_;have BK286:=n2_;have GW286:=n3_;have GE286:=n4_;have NB285_286:=n5_;have NB286_285:=n6_;clear n0_ n1_ n2_ n3_ n4_ n5_ n6_;clear hb hbox hg;have hnb22:=NB285_286.out;have hnc22:=NB286_285.out;have hcz23_0:w21.cell? ⟨gb285,0,none⟩=some (.slice A0_0 l0_0.length c0_0):=(blk_cell BK285.out 0).trans rfl;have hcz23_1:w21.cell? ⟨gb285,1,none⟩=some (.slice A0_1 l0_1.length c0_1):=(blk_cell BK285.out 1).trans rfl;have hcz23_2:w21.cell? ⟨gb285,2,none⟩=some (.int .i64 a0_2):=(blk_cell BK285.out 2).trans rfl;have hfz23_0:=blk_frozen BK285.out 0;have hfz23_1:=blk_frozen BK285.out 1;have hfz23_2:=blk_frozen BK285.out 2;have hcz24_0:w21.cell? ⟨gb286,0,none⟩=some (.slice A1_0 l1_0.length c1_0):=(blk_cell BK286.out 0).trans rfl;have hcz24_1:w21.cell? ⟨gb286,1,none⟩=some (.slice A1_1 l1_1.length c1_1):=(blk_cell BK286.out 1).trans rfl;have hcz24_2:w21.cell? ⟨gb286,2,none⟩=some (.int .i64 a1_2):=(blk_cell BK286.out 2).trans rfl;have hfz24_0:=blk_frozen BK286.out 0;have hfz24_1:=blk_frozen BK286.out 1;have hfz24_2:=blk_frozen BK286.out 2)|((with_reducible refine gate_callee (f:=14) rfl ?_);refine goesL_ (some 10) rfl rfl Try.func14 (by kernel_rfl) rfl #[.agg #[.slice A0_0 l0_0.length c0_0,.slice A0_1 l0_1.length c0_1,.int .i64 a0_2],.agg #[.slice A1_0 l1_0.length c1_0,.slice A1_1 l1_1.length c1_1,.int .i64 a1_2]] rfl (by (try simp only [List.map_toArray,List.map_cons,List.map_nil]);first|done|rfl|(simp only [List.length_drop,List.length_take];rfl)) ?_;(with_reducible refine (slipwayref06_Join.calls k _ _ l0_0 _ _ l0_1 a0_2 _ _ l1_0 _ _ l1_1 a1_2 t287 t290 t293 t294 _ ?side1 ?side2 ?side3 ?side4 ?side5 ?side6 ?side7 ?side8 A3.out).mono ?_);(case side1=>repeat (first|exact (Kd.C_below HR0_0.out HB.out)|(with_reducible refine Kd.C_alloc ?_ _)|(with_reducible refine Kd.C_drewN ?_ _)|(with_reducible refine Kd.C_drew ?_)));(case side2=>exact HC0_0.out);(case side3=>repeat (first|exact (Kd.C_below HR0_1.out HB.out)|(with_reducible refine Kd.C_alloc ?_ _)|(with_reducible refine Kd.C_drewN ?_ _)|(with_reducible refine Kd.C_drew ?_)));(case side4=>exact HC0_1.out);(case side5=>repeat (first|exact (Kd.C_below HR1_0.out HB.out)|(with_reducible refine Kd.C_alloc ?_ _)|(with_reducible refine Kd.C_drewN ?_ _)|(with_reducible refine Kd.C_drew ?_)));(case side6=>exact HC1_0.out);(case side7=>repeat (first|exact (Kd.C_below HR1_1.out HB.out)|(with_reducible refine Kd.C_alloc ?_ _)|(with_reducible refine Kd.C_drewN ?_ _)|(with_reducible refine Kd.C_drew ?_)));(case side8=>exact HC1_1.out);rintro e w25 ⟨v288,v291,rfl,ho0,ho1,hb⟩;refine ⟨_,rfl,?_⟩;have n0_:=Aside0.mk (Kd.R_lower ho0 (below_size (by repeat (first|(with_reducible first|exact HB.out|apply below_alloc|apply pw_below_drewN|apply below_drew1|refine below_set ?_ GE285.out|refine below_set ?_ GE286.out)|exact HB.out))));have n1_:=Aside0.mk (Kd.R_lower ho1 (below_size (by repeat (first|(with_reducible first|exact HB.out|apply below_alloc|apply pw_below_drewN|apply below_drew1|refine below_set ?_ GE285.out|refine below_set ?_ GE286.out)|exact HB.out))));have n2_:=Aside0.mk (blk_below (g:=gb285) (o:=.cells #[.slice A0_0 l0_0.length c0_0,.slice A0_1 l0_1.length c0_1,.int .i64 a0_2] 25 (0,0)) (by (with_reducible repeat (first|refine blk_drewN ?_ _|refine blk_drew ?_|refine blk_alloc ?_ _));exact BK285.out) hb);have n3_:=Aside0.mk (blk_below (g:=gb286) (o:=.cells #[.slice A1_0 l1_0.length c1_0,.slice A1_1 l1_1.length c1_1,.int .i64 a1_2] 25 (0,0)) (by (with_reducible repeat (first|refine blk_drewN ?_ _|refine blk_drew ?_|refine blk_alloc ?_ _));exact BK286.out) hb);have n4_:=Aside0.mk (below_step (by repeat (first|(with_reducible first|exact HB.out|apply below_alloc|apply pw_below_drewN|apply below_drew1|refine below_set ?_ GE285.out|refine below_set ?_ GE286.out)|exact HB.out)) hb);clear BK285 BK286 HB;have HO289:=n0_;have HO292:=n1_;have BK285:=n2_;have BK286:=n3_;have HB:=n4_;clear n0_ n1_ n2_ n3_ n4_;(try clear hb);(try clear hb2);(try clear hk);(try clear hi);(try clear ho0);(try clear ho1))|((with_reducible refine gate_dst (N:=5) rfl ?_);refine box_event ?hg (N:=5) ?hd (cs:=#[.slice none 0 0,.slice none 0 0,.int .i64 0]) (t:=25) ?hr ?_;(case hd=>rfl);(case hg=>rfl);(case hr=>first|(go_simp;done)|(go_simp;rfl));intro gb295 hg w26 hbox hb;have n0_:=Aside0.mk (Kd.R_below (by (with_reducible repeat (first|apply Kd.R_alloc|apply Kd.R_drewN|apply Kd.R_drew));exact HO289.out) hb);have n1_:=Aside0.mk (Kd.R_below (by (with_reducible repeat (first|apply Kd.R_alloc|apply Kd.R_drewN|apply Kd.R_drew));exact HO292.out) hb);have n2_:=Aside0.mk (blk_below (g:=gb285) (o:=.cells #[.slice A0_0 l0_0.length c0_0,.slice A0_1 l0_1.length c0_1,.int .i64 a0_2] 25 (0,0)) (by (with_reducible repeat (first|refine blk_drewN ?_ _|refine blk_drew ?_|refine blk_alloc ?_ _));exact BK285.out) hb);have n3_:=Aside0.mk (blk_below (g:=gb286) (o:=.cells #[.slice A1_0 l1_0.length c1_0,.slice A1_1 l1_1.length c1_1,.int .i64 a1_2] 25 (0,0)) (by (with_reducible repeat (first|refine blk_drewN ?_ _|refine blk_drew ?_|refine blk_alloc ?_ _));exact BK286.out) hb);have n4_:=Aside0.mk (below_step (by repeat (first|(with_reducible first|exact HB.out|apply below_alloc|apply pw_below_drewN|apply below_drew1|refine below_set ?_ GE285.out|refine below_set ?_ GE286.out)|exact HB.out)) hb);have n5_:=Aside0.mk (hbox);have n6_:=Aside0.mk ((by rw [hg];exact (below_size (by repeat (first|(with_reducible first|exact HB.out|apply below_alloc|apply pw_below_drewN|apply below_drew1|refine below_set ?_ GE285.out|refine below_set ?_ GE286.out)|exact HB.out))):w.heap.size≤gb295));have n7_:=Aside0.mk ((by rw [hg];exact (below_size (by repeat (first|(with_reducible first|exact HB.out|apply below_alloc|apply pw_below_drewN|apply below_drew1|refine below_set ?_ GE285.out|refine below_set ?_ GE286.out)|exact HB.out))):w.heap.size≤gb295));have n8_:=Aside0.mk ((by rw [hg];exact Nat.ne_of_lt (blk_lt (g:=gb285) (o:=.cells #[.slice A0_0 l0_0.length c0_0,.slice A0_1 l0_1.length c0_1,.int .i64 a0_2] 25 (0,0)) (by (with_reducible repeat (first|refine blk_drewN ?_ _|refine blk_drew ?_|refine blk_alloc ?_ _));exact BK285.out)):gb285≠gb295));have n9_:=Aside0.mk ((by rw [hg];exact Nat.ne_of_gt (blk_lt (g:=gb285) (o:=.cells #[.slice A0_0 l0_0.length c0_0,.slice A0_1 l0_1.length c0_1,.int .i64 a0_2] 25 (0,0)) (by (with_reducible repeat (first|refine blk_drewN ?_ _|refine blk_drew ?_|refine blk_alloc ?_ _));exact BK285.out)):gb295≠gb285));have n10_:=Aside0.mk ((by rw [hg];exact Nat.ne_of_lt (blk_lt (g:=gb286) (o:=.cells #[.slice A1_0 l1_0.length c1_0,.slice A1_1 l1_1.length c1_1,.int .i64 a1_2] 25 (0,0)) (by (with_reducible repeat (first|refine blk_drewN ?_ _|refine blk_drew ?_|refine blk_alloc ?_ _));exact BK286.out)):gb286≠gb295));have n11_:=Aside0.mk ((by rw [hg];exact Nat.ne_of_gt (blk_lt (g:=gb286) (o:=.cells #[.slice A1_0 l1_0.length c1_0,.slice A1_1 l1_1.length c1_1,.int .i64 a1_2] 25 (0,0)) (by (with_reducible repeat (first|refine blk_drewN ?_ _|refine blk_drew ?_|refine blk_alloc ?_ _));exact BK286.out)):gb295≠gb286));clear HO289 HO292 BK285 BK286 HB;have HO289:=n0_;have HO292:=n1_;have BK285:=n2_;have BK286:=n3_;have HB:=n4_;have BK295:=n5_;have GW295:=n6_;have GE295:=n7_;have NB285_295:=n8_;have NB295_285:=n9_;have NB286_295:=n10_;have NB295_286:=n11_;clear n0_ n1_ n2_ n3_ n4_ n5_ n6_ n7_ n8_ n9_ n10_ n11_;clear hb hbox hg;obtain ⟨Ao27,co27,eo27⟩:=Kd.R_slice HO289.out;subst eo27;have hnb28:=NB295_285.out;have hnc28:=NB285_295.out;have hnb29:=NB295_286.out;have hnc29:=NB286_295.out;have hcz30_0:w26.cell? ⟨gb295,0,none⟩=some (.slice none 0 0):=(blk_cell BK295.out 0).trans rfl;have hcz30_1:w26.cell? ⟨gb295,1,none⟩=some (.slice none 0 0):=(blk_cell BK295.out 1).trans rfl;have hcz30_2:w26.cell? ⟨gb295,2,none⟩=some (.int .i64 0):=(blk_cell BK295.out 2).trans rfl;have hfz30_0:=blk_frozen BK295.out 0;have hfz30_1:=blk_frozen BK295.out 1;have hfz30_2:=blk_frozen BK295.out 2;obtain ⟨Ao31,co31,eo31⟩:=Kd.R_slice HO292.out;subst eo31))
  go_ret
  exact ⟨by first|rfl|(simp [errW_none,errW_some] <;> rfl)|(simp [*,errW_none,errW_some] <;> rfl),by repeat (first|(with_reducible first|exact HB.out|apply below_alloc|apply pw_below_drewN|apply below_drew1|refine below_set ?_ GE285.out|refine below_set ?_ GE286.out|refine below_set ?_ GE295.out)|exact HB.out)⟩
end Go.Proofs.Ytkhbmgclklmimaa.Print
end
section
namespace Go.Proofs.Ytkhbmgclklmimaa.Print
open Go.RowKit Go.Proofs.YtkhbmgclklmimaaW.PrintWords Go.Proofs.YtkhbmgclklmimaaW.PrintLast Go.Proofs.YtkhbmgclklmimaaW.PrintMore
attribute [local go_sem] max2_int min2_int max_two min_two max_three min_three max_four min_four   -- for this text's walks alone
attribute [local go_sem ↓] Go.Proofs.Ytkhbmgclklmimaa.Sem.isSome_setCell
attribute [local go_sem] Go.Instr.field Go.asAgg
set_option linter.unusedVariables false
set_option linter.unusedSimpArgs false
def slipwayref06_may.j0:Nat → Bool → Int → Int → Int → Option (Bool)
 | 0,_,_,_,_=>none
 | k + 1,x3,x346000,x346001,x346002=>if x346000=1 then (if x3=true then (some (x346002 == 0)) else (some false)) else (if x346000=2 then (if x3=true then (if x346002 ≥ 0 then (some (decide (x346002≤16777215))) else (some false)) else (some false)) else (if x346000=3 then (if x346001=0 then (if x346002 ≥ 0 then (some (decide (x346002≤1152921504606846976))) else (some false)) else (some false)) else (some false)))
def slipwayref06_may.f (k:Nat) (a0_0:Int) (a0_1:Int) (a0_2:Int):Option (Bool):=if a0_1 ≥ 0 then (slipwayref06_may.j0 k (decide (a0_1 < 256)) a0_0 a0_1 a0_2) else (slipwayref06_may.j0 k false a0_0 a0_1 a0_2)
set_option maxHeartbeats 8000000 in
set_option maxRecDepth 100000 in
theorem slipwayref06_may.calls (k:Nat) (a0_0:Int) (a0_1:Int) (a0_2:Int) (r:Bool) (w:World) (h:slipwayref06_may.f k a0_0 a0_1 a0_2=some r) :
  Calls Try.prog 63 #[.agg #[.int .i64 a0_0,.int .i64 a0_1,.int .i64 a0_2]] w fun e w'=>e=.returned (.bool r)∧Below w.heap.size w w':=by
 have hu55:=Try.underlying55
 have HB:=Aside0.mk (Below.refl w.heap.size w)
 have H:(if a0_1 ≥ 0 then (slipwayref06_may.j0 k (decide (a0_1 < 256)) a0_0 a0_1 a0_2) else (slipwayref06_may.j0 k false a0_0 a0_1 a0_2))=some r:=h
 clear h
 have HC2:=Aside0.mk H
 clear H
 go_enter Try.func63,Try.ntmps63
 go_upto_region 1 with (first|((with_reducible refine gate_dst (N:=1) rfl ?_);refine box_event ?hg (N:=1) ?hd (cs:=#[.int .i64 a0_0,.int .i64 a0_1,.int .i64 a0_2]) (t:=55) ?hr ?_;(case hd=>rfl);(case hg=>rfl);(case hr=>first|(go_simp;done)|(go_simp;rfl));intro gb345 hg w3 hbox hb;have n0_:=Aside0.mk (below_step (by repeat (first|(with_reducible first|exact HB.out|apply below_alloc|apply pw_below_drewN|apply below_drew1)|exact HB.out)) hb);have n1_:=Aside0.mk (hbox);have n2_:=Aside0.mk ((by rw [hg];exact (below_size (by repeat (first|(with_reducible first|exact HB.out|apply below_alloc|apply pw_below_drewN|apply below_drew1)|exact HB.out))):w.heap.size≤gb345));have n3_:=Aside0.mk ((by rw [hg];exact (below_size (by repeat (first|(with_reducible first|exact HB.out|apply below_alloc|apply pw_below_drewN|apply below_drew1)|exact HB.out))):w.heap.size≤gb345));clear HB;have HB:=n0_;have BK345:=n1_;have GW345:=n2_;have GE345:=n3_;clear n0_ n1_ n2_ n3_;clear hb hbox hg))
 (try simp only [Act.put,List.setIfInBounds_toArray,List.set_cons_zero,List.set_cons_succ])
 go_cut [3] (fun v3 wc=>∃ (kq:Nat) (x3_1:Bool),v3=.bool x3_1∧Aside0 (slipwayref06_may.j0 kq x3_1 a0_0 a0_1 a0_2=some r)∧Aside0 (kq≤k)∧Aside0 (wc.heap[gb345]?=some (.cells #[.int .i64 a0_0,.int .i64 a0_1,.int .i64 a0_2] 55 (0,0)))∧Aside0 (Below w.heap.size w wc))
 case first =>
  have H:=HC2.out
  clear HC2
  by_cases c4:a0_1 ≥ 0
  ·rw [if_pos c4] at H
   have c4b0:decide (0≤a0_1)=true:=decide_eq_true c4
   clear c4
   (first|rw [c4b0]|(simp only [i64_w,i32_w];rw [c4b0])|skip)
   have H':=Aside0.mk H
   clear H
   have hcz5_0:w3.cell? ⟨gb345,0,none⟩=some (.int .i64 a0_0):=(blk_cell BK345.out 0).trans rfl
   have hcz5_1:w3.cell? ⟨gb345,1,none⟩=some (.int .i64 a0_1):=(blk_cell BK345.out 1).trans rfl
   have hcz5_2:w3.cell? ⟨gb345,2,none⟩=some (.int .i64 a0_2):=(blk_cell BK345.out 2).trans rfl
   have hfz5_0:=blk_frozen BK345.out 0
   have hfz5_1:=blk_frozen BK345.out 1
   have hfz5_2:=blk_frozen BK345.out 2
   go_wp2
   go_meet
   case rel=>exact ⟨_,(decide (a0_1 < 256)),(by first|rfl|(simp;done)|(simp [*];done)),H',⟨by first|omega|exact Nat.le_refl _⟩,⟨by (with_reducible repeat (first|refine blk_drewN ?_ _|refine blk_drew ?_|refine blk_alloc ?_ _));exact BK345.out⟩,⟨by repeat (first|(with_reducible first|exact HB.out|apply below_alloc|apply pw_below_drewN|apply below_drew1|refine below_set ?_ GE345.out)|exact HB.out)⟩⟩
  ·rw [if_neg c4] at H
   have c4b0:decide (0≤a0_1)=false:=decide_eq_false c4
   clear c4
   (first|rw [c4b0]|(simp only [i64_w,i32_w];rw [c4b0])|skip)
   have H':=Aside0.mk H
   clear H
   have hcz6_0:w3.cell? ⟨gb345,0,none⟩=some (.int .i64 a0_0):=(blk_cell BK345.out 0).trans rfl
   have hcz6_1:w3.cell? ⟨gb345,1,none⟩=some (.int .i64 a0_1):=(blk_cell BK345.out 1).trans rfl
   have hcz6_2:w3.cell? ⟨gb345,2,none⟩=some (.int .i64 a0_2):=(blk_cell BK345.out 2).trans rfl
   have hfz6_0:=blk_frozen BK345.out 0
   have hfz6_1:=blk_frozen BK345.out 1
   have hfz6_2:=blk_frozen BK345.out 2
   go_wp2
   go_meet
   case rel=>exact ⟨_,(false),(by first|rfl|(simp;done)|(simp [*];done)),H',⟨by first|omega|exact Nat.le_refl _⟩,⟨by (with_reducible repeat (first|refine blk_drewN ?_ _|refine blk_drew ?_|refine blk_alloc ?_ _));exact BK345.out⟩,⟨by repeat (first|(with_reducible first|exact HB.out|apply below_alloc|apply pw_below_drewN|apply below_drew1|refine below_set ?_ GE345.out)|exact HB.out)⟩⟩
 case rest =>
  clear HC2
  try clear p2
  try clear c4
  try clear c4b0
  try clear c6
  try clear hcz5_0
  try clear hcz5_1
  try clear hcz5_2
  try clear hcz6_0
  try clear hcz6_1
  try clear hcz6_2
  try clear hfz5_0
  try clear hfz5_1
  try clear hfz5_2
  try clear hfz6_0
  try clear hfz6_1
  try clear hfz6_2
  obtain ⟨kq,x3_1,rfl,HA,HJ1,BK345,HB⟩:=hcut
  cases kq with
  | zero=>exact absurd HA.out (by simp [slipwayref06_may.j0])
  | succ kj1 =>
   have H:=HA.out
   clear HA
   simp only [slipwayref06_may.j0] at H
   by_cases c7:a0_0=1
   ·rw [if_pos c7] at H
    have c7b0:(a0_0 == 1)=true:=beq_iff_eq.mpr c7
    have c7b1:(a0_0 != 1)=false:=bne_eq_false_iff_eq.mpr c7
    clear c7
    by_cases c8:x3_1=true
    ·subst c8
     have H1:(some (a0_2 == 0))=some r:=by rw [if_pos rfl] at H;exact H
     clear H
     have H:=H1
     clear H1
     obtain rfl:=Option.some.inj H
     have hcz9_0:wc.cell? ⟨gb345,0,none⟩=some (.int .i64 a0_0):=(blk_cell BK345.out 0).trans rfl
     have hcz9_1:wc.cell? ⟨gb345,1,none⟩=some (.int .i64 a0_1):=(blk_cell BK345.out 1).trans rfl
     have hcz9_2:wc.cell? ⟨gb345,2,none⟩=some (.int .i64 a0_2):=(blk_cell BK345.out 2).trans rfl
     have hfz9_0:=blk_frozen BK345.out 0
     have hfz9_1:=blk_frozen BK345.out 1
     have hfz9_2:=blk_frozen BK345.out 2
     go_wp2
     go_ret
     exact ⟨by first|rfl|(simp [errW_none,errW_some] <;> rfl)|(simp [*,errW_none,errW_some] <;> rfl),by repeat (first|(with_reducible first|exact HB.out|apply below_alloc|apply pw_below_drewN|apply below_drew1|refine below_set ?_ GE345.out)|exact HB.out)⟩
    ·replace c8:=Bool.eq_false_iff.mpr c8
     subst c8
     have H1:(some false)=some r:=by rw [if_neg (show ¬ (false=true) by decide)] at H;exact H
     clear H
     have H:=H1
     clear H1
     obtain rfl:=Option.some.inj H
     have hcz10_0:wc.cell? ⟨gb345,0,none⟩=some (.int .i64 a0_0):=(blk_cell BK345.out 0).trans rfl
     have hcz10_1:wc.cell? ⟨gb345,1,none⟩=some (.int .i64 a0_1):=(blk_cell BK345.out 1).trans rfl
     have hcz10_2:wc.cell? ⟨gb345,2,none⟩=some (.int .i64 a0_2):=(blk_cell BK345.out 2).trans rfl
     have hfz10_0:=blk_frozen BK345.out 0
     have hfz10_1:=blk_frozen BK345.out 1
     have hfz10_2:=blk_frozen BK345.out 2
     go_wp2
     go_ret
     exact ⟨by first|rfl|(simp [errW_none,errW_some] <;> rfl)|(simp [*,errW_none,errW_some] <;> rfl),by repeat (first|(with_reducible first|exact HB.out|apply below_alloc|apply pw_below_drewN|apply below_drew1|refine below_set ?_ GE345.out)|exact HB.out)⟩
   ·rw [if_neg c7] at H
    have c7b0:(a0_0 == 1)=false:=beq_eq_false_iff_ne.mpr c7
    have c7b1:(a0_0 != 1)=true:=bne_iff_ne.mpr c7
    by_cases c11:a0_0=2
    ·rw [if_pos c11] at H
     have c11b0:(a0_0 == 2)=true:=beq_iff_eq.mpr c11
     have c11b1:(a0_0 != 2)=false:=bne_eq_false_iff_eq.mpr c11
     clear c11
     by_cases c12:x3_1=true
     ·subst c12
      have H1:(if a0_2 ≥ 0 then (some (decide (a0_2≤16777215))) else (some false))=some r:=by rw [if_pos rfl] at H;exact H
      clear H
      have H:=H1
      clear H1
      by_cases c13:a0_2 ≥ 0
      ·rw [if_pos c13] at H
       have c13b0:decide (0≤a0_2)=true:=decide_eq_true c13
       clear c13
       obtain rfl:=Option.some.inj H
       have hcz14_0:wc.cell? ⟨gb345,0,none⟩=some (.int .i64 a0_0):=(blk_cell BK345.out 0).trans rfl
       have hcz14_1:wc.cell? ⟨gb345,1,none⟩=some (.int .i64 a0_1):=(blk_cell BK345.out 1).trans rfl
       have hcz14_2:wc.cell? ⟨gb345,2,none⟩=some (.int .i64 a0_2):=(blk_cell BK345.out 2).trans rfl
       have hfz14_0:=blk_frozen BK345.out 0
       have hfz14_1:=blk_frozen BK345.out 1
       have hfz14_2:=blk_frozen BK345.out 2
       go_wp2
       go_ret
       exact ⟨by first|rfl|(simp [errW_none,errW_some] <;> rfl)|(simp [*,errW_none,errW_some] <;> rfl),by repeat (first|(with_reducible first|exact HB.out|apply below_alloc|apply pw_below_drewN|apply below_drew1|refine below_set ?_ GE345.out)|exact HB.out)⟩
      ·rw [if_neg c13] at H
       have c13b0:decide (0≤a0_2)=false:=decide_eq_false c13
       clear c13
       obtain rfl:=Option.some.inj H
       have hcz15_0:wc.cell? ⟨gb345,0,none⟩=some (.int .i64 a0_0):=(blk_cell BK345.out 0).trans rfl
       have hcz15_1:wc.cell? ⟨gb345,1,none⟩=some (.int .i64 a0_1):=(blk_cell BK345.out 1).trans rfl
       have hcz15_2:wc.cell? ⟨gb345,2,none⟩=some (.int .i64 a0_2):=(blk_cell BK345.out 2).trans rfl
       have hfz15_0:=blk_frozen BK345.out 0
       have hfz15_1:=blk_frozen BK345.out 1
       have hfz15_2:=blk_frozen BK345.out 2
       go_wp2
       go_ret
       exact ⟨by first|rfl|(simp [errW_none,errW_some] <;> rfl)|(simp [*,errW_none,errW_some] <;> rfl),by repeat (first|(with_reducible first|exact HB.out|apply below_alloc|apply pw_below_drewN|apply below_drew1|refine below_set ?_ GE345.out)|exact HB.out)⟩
     ·replace c12:=Bool.eq_false_iff.mpr c12
      subst c12
      have H1:(some false)=some r:=by rw [if_neg (show ¬ (false=true) by decide)] at H;exact H
      clear H
      have H:=H1
      clear H1
      obtain rfl:=Option.some.inj H
      have hcz16_0:wc.cell? ⟨gb345,0,none⟩=some (.int .i64 a0_0):=(blk_cell BK345.out 0).trans rfl
      have hcz16_1:wc.cell? ⟨gb345,1,none⟩=some (.int .i64 a0_1):=(blk_cell BK345.out 1).trans rfl
      have hcz16_2:wc.cell? ⟨gb345,2,none⟩=some (.int .i64 a0_2):=(blk_cell BK345.out 2).trans rfl
      have hfz16_0:=blk_frozen BK345.out 0
      have hfz16_1:=blk_frozen BK345.out 1
      have hfz16_2:=blk_frozen BK345.out 2
      go_wp2
      go_ret
      exact ⟨by first|rfl|(simp [errW_none,errW_some] <;> rfl)|(simp [*,errW_none,errW_some] <;> rfl),by repeat (first|(with_reducible first|exact HB.out|apply below_alloc|apply pw_below_drewN|apply below_drew1|refine below_set ?_ GE345.out)|exact HB.out)⟩
    ·rw [if_neg c11] at H
     have c11b0:(a0_0 == 2)=false:=beq_eq_false_iff_ne.mpr c11
     have c11b1:(a0_0 != 2)=true:=bne_iff_ne.mpr c11
     by_cases c17:a0_0=3
     ·rw [if_pos c17] at H
      have c17b0:(a0_0 == 3)=true:=beq_iff_eq.mpr c17
      have c17b1:(a0_0 != 3)=false:=bne_eq_false_iff_eq.mpr c17
      clear c17
      by_cases c18:a0_1=0
      ·rw [if_pos c18] at H
       have c18b0:(a0_1 == 0)=true:=beq_iff_eq.mpr c18
       have c18b1:(a0_1 != 0)=false:=bne_eq_false_iff_eq.mpr c18
       clear c18
       by_cases c19:a0_2 ≥ 0
       ·rw [if_pos c19] at H
        have c19b0:decide (0≤a0_2)=true:=decide_eq_true c19
        clear c19
        obtain rfl:=Option.some.inj H
        have hcz20_0:wc.cell? ⟨gb345,0,none⟩=some (.int .i64 a0_0):=(blk_cell BK345.out 0).trans rfl
        have hcz20_1:wc.cell? ⟨gb345,1,none⟩=some (.int .i64 a0_1):=(blk_cell BK345.out 1).trans rfl
        have hcz20_2:wc.cell? ⟨gb345,2,none⟩=some (.int .i64 a0_2):=(blk_cell BK345.out 2).trans rfl
        have hfz20_0:=blk_frozen BK345.out 0
        have hfz20_1:=blk_frozen BK345.out 1
        have hfz20_2:=blk_frozen BK345.out 2
        go_wp2
        go_ret
        exact ⟨by first|rfl|(simp [errW_none,errW_some] <;> rfl)|(simp [*,errW_none,errW_some] <;> rfl),by repeat (first|(with_reducible first|exact HB.out|apply below_alloc|apply pw_below_drewN|apply below_drew1|refine below_set ?_ GE345.out)|exact HB.out)⟩
       ·rw [if_neg c19] at H
        have c19b0:decide (0≤a0_2)=false:=decide_eq_false c19
        clear c19
        obtain rfl:=Option.some.inj H
        have hcz21_0:wc.cell? ⟨gb345,0,none⟩=some (.int .i64 a0_0):=(blk_cell BK345.out 0).trans rfl
        have hcz21_1:wc.cell? ⟨gb345,1,none⟩=some (.int .i64 a0_1):=(blk_cell BK345.out 1).trans rfl
        have hcz21_2:wc.cell? ⟨gb345,2,none⟩=some (.int .i64 a0_2):=(blk_cell BK345.out 2).trans rfl
        have hfz21_0:=blk_frozen BK345.out 0
        have hfz21_1:=blk_frozen BK345.out 1
        have hfz21_2:=blk_frozen BK345.out 2
        go_wp2
        go_ret
        exact ⟨by first|rfl|(simp [errW_none,errW_some] <;> rfl)|(simp [*,errW_none,errW_some] <;> rfl),by repeat (first|(with_reducible first|exact HB.out|apply below_alloc|apply pw_below_drewN|apply below_drew1|refine below_set ?_ GE345.out)|exact HB.out)⟩
      ·rw [if_neg c18] at H
       have c18b0:(a0_1 == 0)=false:=beq_eq_false_iff_ne.mpr c18
       have c18b1:(a0_1 != 0)=true:=bne_iff_ne.mpr c18
       obtain rfl:=Option.some.inj H
       have hcz22_0:wc.cell? ⟨gb345,0,none⟩=some (.int .i64 a0_0):=(blk_cell BK345.out 0).trans rfl
       have hcz22_1:wc.cell? ⟨gb345,1,none⟩=some (.int .i64 a0_1):=(blk_cell BK345.out 1).trans rfl
       have hcz22_2:wc.cell? ⟨gb345,2,none⟩=some (.int .i64 a0_2):=(blk_cell BK345.out 2).trans rfl
       have hfz22_0:=blk_frozen BK345.out 0
       have hfz22_1:=blk_frozen BK345.out 1
       have hfz22_2:=blk_frozen BK345.out 2
       go_wp2
       go_ret
       exact ⟨by first|rfl|(simp [errW_none,errW_some] <;> rfl)|(simp [*,errW_none,errW_some] <;> rfl),by repeat (first|(with_reducible first|exact HB.out|apply below_alloc|apply pw_below_drewN|apply below_drew1|refine below_set ?_ GE345.out)|exact HB.out)⟩
     ·rw [if_neg c17] at H
      have c17b0:(a0_0 == 3)=false:=beq_eq_false_iff_ne.mpr c17
      have c17b1:(a0_0 != 3)=true:=bne_iff_ne.mpr c17
      obtain rfl:=Option.some.inj H
      have hcz23_0:wc.cell? ⟨gb345,0,none⟩=some (.int .i64 a0_0):=(blk_cell BK345.out 0).trans rfl
      have hcz23_1:wc.cell? ⟨gb345,1,none⟩=some (.int .i64 a0_1):=(blk_cell BK345.out 1).trans rfl
      have hcz23_2:wc.cell? ⟨gb345,2,none⟩=some (.int .i64 a0_2):=(blk_cell BK345.out 2).trans rfl
      have hfz23_0:=blk_frozen BK345.out 0
      have hfz23_1:=blk_frozen BK345.out 1
      have hfz23_2:=blk_frozen BK345.out 2
      go_wp2
      go_ret
      exact ⟨by first|rfl|(simp [errW_none,errW_some] <;> rfl)|(simp [*,errW_none,errW_some] <;> rfl),by repeat (first|(with_reducible first|exact HB.out|apply below_alloc|apply pw_below_drewN|apply below_drew1|refine below_set ?_ GE345.out)|exact HB.out)⟩
end Go.Proofs.Ytkhbmgclklmimaa.Print
end
section
namespace Go.Proofs.Ytkhbmgclklmimaa.Print
open Go.RowKit Go.Proofs.YtkhbmgclklmimaaW.PrintWords Go.Proofs.YtkhbmgclklmimaaW.PrintLast Go.Proofs.YtkhbmgclklmimaaW.PrintMore
attribute [local go_sem] max2_int min2_int max_two min_two max_three min_three max_four min_four   -- for this text's walks alone
attribute [local go_sem ↓] Go.Proofs.Ytkhbmgclklmimaa.Sem.isSome_setCell
attribute [local go_sem] Go.Instr.field Go.asAgg
set_option linter.unusedVariables false
set_option linter.unusedSimpArgs false
def slipwayref06_one.f (l0_0:List Bool) (l0_1:List Int) (a0_2:Int) (a1_0:Int) (a1_1:Int) (a1_2:Int):Option (List Bool × List Int × Int):=if a1_0=1 then (if 0≤a1_1 then (if a1_1 < (l0_0.length:Int) then (some ((l0_0.set (a1_1:Int).toNat true),l0_1,a0_2)) else (none)) else (none)) else (if a1_0=2 then (if 0≤a1_1 then (if a1_1 < (l0_1.length:Int) then (some (l0_0,(l0_1.set (a1_1:Int).toNat (mx (rd l0_1 a1_1) a1_2)),a0_2)) else (none)) else (none)) else (if a1_0=3 then (some (l0_0,l0_1,mx a0_2 a1_2)) else (some (l0_0,l0_1,a0_2))))
def slipwayref06_one.T5:Bool × List (List Nat × List Nat):=(true,[([],[]),([0],[0]),([],[]),([2],[2]),([],[]),([4],[4]),([],[]),([6],[6]),([5,7],[5,7]),([8],[8]),([],[]),([10],[10]),([9,11],[9,11]),([1,3,0,1,2,3,4,5,6,7,8,9,10,11,12],[1,3]),([13,12,0,1,2,3,4,5,6,7,8,9,10,11,12],[12,13])])
def slipwayref06_one.B5:List Nat:=[0,1,0,4,0,16,0,64,240,496,0,1024,4080,8191,16383]
theorem slipwayref06_one.tab5:rtab .any (opsOf Try.f64 5)=slipwayref06_one.T5:=by kernel_rfl
theorem slipwayref06_one.bits5:waitsOk slipwayref06_one.T5.2 slipwayref06_one.B5=true:=by kernel_rfl
set_option maxHeartbeats 8000000 in
set_option maxRecDepth 100000 in
theorem slipwayref06_one.calls (P0_0_:Nat → Prop) (u9000_:Value) (l0_0:List Bool) (P0_1_:Nat → Prop) (u9001_:Value) (l0_1:List Int) (a0_2:Int) (a1_0:Int) (a1_1:Int) (a1_2:Int) (r1:List Bool) (r2:List Int) (r3:Int) (w0 w:World) (hB:Below w0.heap.size w0 w) (ho0_0:Kd.R Kd.bool 4 w w0.heap.size P0_0_ u9000_ l0_0) (ho0_1:Kd.R (Kd.int .i64) 2 w w0.heap.size P0_1_ u9001_ l0_1) (h:slipwayref06_one.f l0_0 l0_1 a0_2 a1_0 a1_1 a1_2=some (r1,r2,r3)) :
  Calls Try.prog 64 #[.agg #[u9000_,u9001_,.int .i64 a0_2],.agg #[.int .i64 a1_0,.int .i64 a1_1,.int .i64 a1_2]] w fun e w'=>∃ v0_ v1_:Value,e=.returned (.agg #[v0_,v1_,.int .i64 r3])∧Kd.R Kd.bool 4 w' w0.heap.size (fun k_=>((P0_0_ k_∨P0_1_ k_)∨w.heap.size≤k_)) v0_ r1∧Kd.R (Kd.int .i64) 2 w' w0.heap.size (fun k_=>((P0_0_ k_∨P0_1_ k_)∨w.heap.size≤k_)) v1_ r2∧Below w0.heap.size w0 w'∧Kept w w' (fun k_=>P0_0_ k_∨P0_1_ k_):=by
 have hu25:=Try.underlying25
 have hu55:=Try.underlying55
 have HO0_0:=Aside0.mk (show Kd.R Kd.bool 4 w w0.heap.size (fun k_=>((P0_0_ k_∨P0_1_ k_)∨w.heap.size≤k_)) u9000_ l0_0 from Kd.R_mono ho0_0 (fun k_ hk=>(.inl (.inl hk))))
 have HO0_1:=Aside0.mk (show Kd.R (Kd.int .i64) 2 w w0.heap.size (fun k_=>((P0_0_ k_∨P0_1_ k_)∨w.heap.size≤k_)) u9001_ l0_1 from Kd.R_mono ho0_1 (fun k_ hk=>(.inl (.inr hk))))
 have HK:=Aside0.mk (Kept.refl w (fun k_=>P0_0_ k_∨P0_1_ k_))
 have HW0:=Aside0.mk hB.size
 have HB:=Aside0.mk hB
 clear hB
 have H:(if a1_0=1 then (if 0≤a1_1 then (if a1_1 < (l0_0.length:Int) then (some ((l0_0.set (a1_1:Int).toNat true),l0_1,a0_2)) else (none)) else (none)) else (if a1_0=2 then (if 0≤a1_1 then (if a1_1 < (l0_1.length:Int) then (some (l0_0,(l0_1.set (a1_1:Int).toNat (mx (rd l0_1 a1_1) a1_2)),a0_2)) else (none)) else (none)) else (if a1_0=3 then (some (l0_0,l0_1,mx a0_2 a1_2)) else (some (l0_0,l0_1,a0_2)))))=some (r1,r2,r3):=h
 clear h
 by_cases c3:a1_0=1
 ·rw [if_pos c3] at H
  have c3b0:(a1_0 == 1)=true:=beq_iff_eq.mpr c3
  have c3b1:(a1_0 != 1)=false:=bne_eq_false_iff_eq.mpr c3
  clear c3
  by_cases c4:0≤a1_1
  ·rw [if_pos c4] at H
   have c4b0:decide (0≤a1_1)=true:=decide_eq_true c4
   clear c4
   by_cases c5:a1_1 < (l0_0.length:Int)
   ·rw [if_pos c5] at H
    have c5b0:decide (a1_1 < (l0_0.length:Int))=true:=decide_eq_true c5
    clear c5
    obtain ⟨y349,hy349⟩:∃ y_:List Bool,y_=(l0_0.set (a1_1:Int).toNat true):=⟨_,rfl⟩
    replace H:(some (y349,l0_1,a0_2))=some (r1,r2,r3):=by first|(rw [hy349];with_reducible exact H)|(have H2_:=(Option.bind_some _ _).symm.trans H;rw [hy349];with_reducible exact H2_)|(have H2_:=(Option.bind_some _ _).symm.trans H;with_reducible exact H2_)|with_reducible exact H|(rw [hy349];exact H)|exact H
    have Ny349:=Aside0.mk hy349
    clear hy349
    simp only [Option.some.injEq,Prod.mk.injEq] at H
    obtain ⟨rfl,rfl,rfl⟩:=H
    obtain ⟨Ao7,co7,eo7⟩:=Kd.R_slice HO0_0.out
    subst eo7
    obtain ⟨Ao8,co8,eo8⟩:=Kd.R_slice HO0_1.out
    subst eo8
    go_enter Try.func64,Try.ntmps64
    go_wp2_with (first|((with_reducible refine gate_dst (N:=2) rfl ?_);refine box_event ?hg (N:=2) ?hd (cs:=#[.slice Ao7 l0_0.length co7,.slice Ao8 l0_1.length co8,.int .i64 a0_2]) (t:=25) ?hr ?_;(case hd=>rfl);(case hg=>rfl);(case hr=>first|(go_simp;done)|(go_simp;rfl));intro gb346 hg w9 hbox hb;have n0_:=Aside0.mk (Kd.R_below (by (with_reducible repeat (first|apply Kd.R_alloc|apply Kd.R_drewN|apply Kd.R_drew));exact HO0_0.out) hb);have n1_:=Aside0.mk (Kd.R_below (by (with_reducible repeat (first|apply Kd.R_alloc|apply Kd.R_drewN|apply Kd.R_drew));exact HO0_1.out) hb);have n2_:=Aside0.mk (Kept.below (S:=(fun k_=>P0_0_ k_∨P0_1_ k_)) (by repeat (first|(with_reducible first|exact HK.out|apply Kept.alloc|apply Kept.drewN|apply Kept.drew)|exact HK.out)) hb);have n3_:=Aside0.mk (below_step (by repeat (first|(with_reducible first|exact HB.out|apply below_alloc|apply pw_below_drewN|apply below_drew1)|exact HB.out)) hb);have n4_:=Aside0.mk (hbox);have n5_:=Aside0.mk ((by rw [hg];exact (by first|exact HK.out.1|exact (show Kept w _ (fun k_=>P0_0_ k_∨P0_1_ k_) from by repeat (first|(with_reducible first|exact HK.out|apply Kept.alloc|apply Kept.drewN|apply Kept.drew)|exact HK.out)).1):w.heap.size≤gb346));have n6_:=Aside0.mk ((by rw [hg];exact (below_size (by repeat (first|(with_reducible first|exact HB.out|apply below_alloc|apply pw_below_drewN|apply below_drew1)|exact HB.out))):w0.heap.size≤gb346));clear HO0_0 HO0_1 HK HB;have HO0_0:=n0_;have HO0_1:=n1_;have HK:=n2_;have HB:=n3_;have BK346:=n4_;have GW346:=n5_;have GE346:=n6_;clear n0_ n1_ n2_ n3_ n4_ n5_ n6_;clear hb hbox hg)|((with_reducible refine gate_dst (N:=3) rfl ?_);refine box_event ?hg (N:=3) ?hd (cs:=#[.int .i64 a1_0,.int .i64 a1_1,.int .i64 a1_2]) (t:=55) ?hr ?_;(case hd=>rfl);(case hg=>rfl);(case hr=>first|(go_simp;done)|(go_simp;rfl));intro gb347 hg w10 hbox hb;have n0_:=Aside0.mk (Kd.R_below (by (with_reducible repeat (first|apply Kd.R_alloc|apply Kd.R_drewN|apply Kd.R_drew));exact HO0_0.out) hb);have n1_:=Aside0.mk (Kd.R_below (by (with_reducible repeat (first|apply Kd.R_alloc|apply Kd.R_drewN|apply Kd.R_drew));exact HO0_1.out) hb);have n2_:=Aside0.mk (blk_below (g:=gb346) (o:=.cells #[.slice Ao7 l0_0.length co7,.slice Ao8 l0_1.length co8,.int .i64 a0_2] 25 (0,0)) (by (with_reducible repeat (first|refine blk_drewN ?_ _|refine blk_drew ?_|refine blk_alloc ?_ _));exact BK346.out) hb);have n3_:=Aside0.mk (Kept.below (S:=(fun k_=>P0_0_ k_∨P0_1_ k_)) (by repeat (first|(with_reducible first|exact HK.out|apply Kept.alloc|apply Kept.drewN|apply Kept.drew|refine Kept.setCell ?_ (.inr GW346.out) _)|exact HK.out)) hb);have n4_:=Aside0.mk (below_step (by repeat (first|(with_reducible first|exact HB.out|apply below_alloc|apply pw_below_drewN|apply below_drew1|refine below_set ?_ GE346.out)|exact HB.out)) hb);have n5_:=Aside0.mk (hbox);have n6_:=Aside0.mk ((by rw [hg];exact (by first|exact HK.out.1|exact (show Kept w _ (fun k_=>P0_0_ k_∨P0_1_ k_) from by repeat (first|(with_reducible first|exact HK.out|apply Kept.alloc|apply Kept.drewN|apply Kept.drew|refine Kept.setCell ?_ (.inr GW346.out) _)|exact HK.out)).1):w.heap.size≤gb347));have n7_:=Aside0.mk ((by rw [hg];exact (below_size (by repeat (first|(with_reducible first|exact HB.out|apply below_alloc|apply pw_below_drewN|apply below_drew1|refine below_set ?_ GE346.out)|exact HB.out))):w0.heap.size≤gb347));have n8_:=Aside0.mk ((by rw [hg];exact Nat.ne_of_lt (blk_lt (g:=gb346) (o:=.cells #[.slice Ao7 l0_0.length co7,.slice Ao8 l0_1.length co8,.int .i64 a0_2] 25 (0,0)) (by (with_reducible repeat (first|refine blk_drewN ?_ _|refine blk_drew ?_|refine blk_alloc ?_ _));exact BK346.out)):gb346≠gb347));have n9_:=Aside0.mk ((by rw [hg];exact Nat.ne_of_gt (blk_lt (g:=gb346) (o:=.cells #[.slice Ao7 l0_0.length co7,.slice Ao8 l0_1.length co8,.int .i64 a0_2] 25 (0,0)) (by (with_reducible repeat (first|refine blk_drewN ?_ _|refine blk_drew ?_|refine blk_alloc ?_ _));exact BK346.out)):gb347≠gb346));clear HO0_0 HO0_1 BK346 HK HB;have HO0_0:=n0_;have HO0_1:=n1_;have BK346:=n2_;have HK:=n3_;have HB:=n4_;have BK347:=n5_;have GW347:=n6_;have GE347:=n7_;have NB346_347:=n8_;have NB347_346:=n9_;clear n0_ n1_ n2_ n3_ n4_ n5_ n6_ n7_ n8_ n9_;clear hb hbox hg)|((with_reducible refine gate_dst (N:=4) rfl ?_);refine box_event ?hg (N:=4) ?hd (cs:=#[.slice none 0 0,.slice none 0 0,.int .i64 0]) (t:=25) ?hr ?_;(case hd=>rfl);(case hg=>rfl);(case hr=>first|(go_simp;done)|(go_simp;rfl));intro gb348 hg w11 hbox hb;have n0_:=Aside0.mk (Kd.R_below (by (with_reducible repeat (first|apply Kd.R_alloc|apply Kd.R_drewN|apply Kd.R_drew));exact HO0_0.out) hb);have n1_:=Aside0.mk (Kd.R_below (by (with_reducible repeat (first|apply Kd.R_alloc|apply Kd.R_drewN|apply Kd.R_drew));exact HO0_1.out) hb);have n2_:=Aside0.mk (blk_below (g:=gb346) (o:=.cells #[.slice Ao7 l0_0.length co7,.slice Ao8 l0_1.length co8,.int .i64 a0_2] 25 (0,0)) (by (with_reducible repeat (first|refine blk_drewN ?_ _|refine blk_drew ?_|refine blk_alloc ?_ _));exact BK346.out) hb);have n3_:=Aside0.mk (blk_below (g:=gb347) (o:=.cells #[.int .i64 a1_0,.int .i64 a1_1,.int .i64 a1_2] 55 (0,0)) (by (with_reducible repeat (first|refine blk_drewN ?_ _|refine blk_drew ?_|refine blk_alloc ?_ _));exact BK347.out) hb);have n4_:=Aside0.mk (Kept.below (S:=(fun k_=>P0_0_ k_∨P0_1_ k_)) (by repeat (first|(with_reducible first|exact HK.out|apply Kept.alloc|apply Kept.drewN|apply Kept.drew|refine Kept.setCell ?_ (.inr GW346.out) _|refine Kept.setCell ?_ (.inr GW347.out) _)|exact HK.out)) hb);have n5_:=Aside0.mk (below_step (by repeat (first|(with_reducible first|exact HB.out|apply below_alloc|apply pw_below_drewN|apply below_drew1|refine below_set ?_ GE346.out|refine below_set ?_ GE347.out)|exact HB.out)) hb);have n6_:=Aside0.mk (hbox);have n7_:=Aside0.mk ((by rw [hg];exact (by first|exact HK.out.1|exact (show Kept w _ (fun k_=>P0_0_ k_∨P0_1_ k_) from by repeat (first|(with_reducible first|exact HK.out|apply Kept.alloc|apply Kept.drewN|apply Kept.drew|refine Kept.setCell ?_ (.inr GW346.out) _|refine Kept.setCell ?_ (.inr GW347.out) _)|exact HK.out)).1):w.heap.size≤gb348));have n8_:=Aside0.mk ((by rw [hg];exact (below_size (by repeat (first|(with_reducible first|exact HB.out|apply below_alloc|apply pw_below_drewN|apply below_drew1|refine below_set ?_ GE346.out|refine below_set ?_ GE347.out)|exact HB.out))):w0.heap.size≤gb348));have n9_:=Aside0.mk ((by rw [hg];exact Nat.ne_of_lt (blk_lt (g:=gb346) (o:=.cells #[.slice Ao7 l0_0.length co7,.slice Ao8 l0_1.length co8,.int .i64 a0_2] 25 (0,0)) (by (with_reducible repeat (first|refine blk_drewN ?_ _|refine blk_drew ?_|refine blk_alloc ?_ _));exact BK346.out)):gb346≠gb348));have n10_:=Aside0.mk ((by rw [hg];exact Nat.ne_of_gt (blk_lt (g:=gb346) (o:=.cells #[.slice Ao7 l0_0.length co7,.slice Ao8 l0_1.length co8,.int .i64 a0_2] 25 (0,0)) (by (with_reducible repeat (first|refine blk_drewN ?_ _|refine blk_drew ?_|refine blk_alloc ?_ _));exact BK346.out)):gb348≠gb346));have n11_:=Aside0.mk ((by rw [hg];exact Nat.ne_of_lt (blk_lt (g:=gb347) (o:=.cells #[.int .i64 a1_0,.int .i64 a1_1,.int .i64 a1_2] 55 (0,0)) (by (with_reducible repeat (first|refine blk_drewN ?_ _|refine blk_drew ?_|refine blk_alloc ?_ _));exact BK347.out)):gb347≠gb348));have n12_:=Aside0.mk ((by rw [hg];exact Nat.ne_of_gt (blk_lt (g:=gb347) (o:=.cells #[.int .i64 a1_0,.int .i64 a1_1,.int .i64 a1_2] 55 (0,0)) (by (with_reducible repeat (first|refine blk_drewN ?_ _|refine blk_drew ?_|refine blk_alloc ?_ _));exact BK347.out)):gb348≠gb347));clear HO0_0 HO0_1 BK346 BK347 HK HB;have HO0_0:=n0_;have HO0_1:=n1_;have BK346:=n2_;have BK347:=n3_;have HK:=n4_;have HB:=n5_;have BK348:=n6_;have GW348:=n7_;have GE348:=n8_;have NB346_348:=n9_;have NB348_346:=n10_;have NB347_348:=n11_;have NB348_347:=n12_;clear n0_ n1_ n2_ n3_ n4_ n5_ n6_ n7_ n8_ n9_ n10_ n11_ n12_;clear hb hbox hg;have hnb12:=NB347_346.out;have hnc12:=NB346_347.out;have hnb13:=NB347_348.out;have hnc13:=NB348_347.out;have hcz14_0:w11.cell? ⟨gb347,0,none⟩=some (.int .i64 a1_0):=(blk_cell BK347.out 0).trans rfl;have hcz14_1:w11.cell? ⟨gb347,1,none⟩=some (.int .i64 a1_1):=(blk_cell BK347.out 1).trans rfl;have hcz14_2:w11.cell? ⟨gb347,2,none⟩=some (.int .i64 a1_2):=(blk_cell BK347.out 2).trans rfl;have hfz14_0:=blk_frozen BK347.out 0;have hfz14_1:=blk_frozen BK347.out 1;have hfz14_2:=blk_frozen BK347.out 2;have hnb15:=NB346_348.out;have hnc15:=NB348_346.out;have hcz16_0:w11.cell? ⟨gb346,0,none⟩=some (.slice Ao7 l0_0.length co7):=(blk_cell BK346.out 0).trans rfl;have hcz16_1:w11.cell? ⟨gb346,1,none⟩=some (.slice Ao8 l0_1.length co8):=(blk_cell BK346.out 1).trans rfl;have hcz16_2:w11.cell? ⟨gb346,2,none⟩=some (.int .i64 a0_2):=(blk_cell BK346.out 2).trans rfl;have hfz16_0:=blk_frozen BK346.out 0;have hfz16_1:=blk_frozen BK346.out 1;have hfz16_2:=blk_frozen BK346.out 2;have p6:0≤(a1_1:Int):=of_decide_eq_true (by first|(with_reducible assumption)|assumption);have q6:(a1_1:Int) < ((l0_0.length:Int):Int):=of_decide_eq_true (by first|(with_reducible assumption)|assumption);obtain ⟨go6,co6,eo6,gb6,gl6,cl6,HG6⟩:=Kd.R_form HO0_0.out (by omega);(first|cases eo6|(injection eo6 with ea_ en_ ec_;(first|subst ea_|(injection ea_ with ea_;subst ea_));subst ec_;clear en_));have GB6:=Aside0.mk gb6;have GG6:=Aside0.mk HG6;clear gb6 gl6 HG6;have HMgo6:=Aside0.mk (show ((P0_0_ go6∨P0_1_ go6)∨w.heap.size≤go6) from (HO0_0.out.1 _ rfl));obtain ⟨hx6_0,hf6_0⟩:=Kd.R_celln false HO0_0.out (a1_1:Int) p6 q6;replace p6:=eq_true p6;replace q6:=eq_true q6;obtain ⟨hy17_,hz17_⟩:=Kd.R_celln false HO0_0.out (a1_1:Int) (of_decide_eq_true (by first|(with_reducible assumption)|assumption)) (of_decide_eq_true (by first|(with_reducible assumption)|assumption));have HP17:=Kd.R_putg HO0_0.out (a1_1:Int) true)|((with_reducible refine gate_store (t:=4) (p:=13) rfl ?_);refine store_event (t:=4) (p:=13) (v:=?vo_w18) (w1:=(w11.setCell ⟨go6,(a1_1:Int).toNat,none⟩ (.bool true))) ?hg ?ho ?hn ?hr ?_;(case ho=>rfl);(case hg=>rfl);(case hn=>rfl);(case hr=>first|(go_simp;done)|(go_simp;rfl));intro w18 hw;have hg:w11.grownBy w18 (some go6):=(by rw [hw];exact HP17.2);have hp_:Kd.R Kd.bool 4 w18 w0.heap.size (fun k_=>((P0_0_ k_∨P0_1_ k_)∨w.heap.size≤k_)) (.slice (some ⟨go6,0,none⟩) l0_0.length co7) y349:=(by rw [hw,Ny349.out];exact HP17.1);clear HP17;have n0_:=Aside0.mk (hp_);have n1_:=Aside0.mk (Kd.R_over' (v:=(.slice (some ⟨go6,0,none⟩) l0_0.length co7)) (by (with_reducible repeat (first|apply Kd.R_alloc|apply Kd.R_drewN|apply Kd.R_drew));exact HO0_1.out) (Kd.R_typed HO0_0.out) (by decide) hg);have n2_:=Aside0.mk (blk_grown (g:=gb346) (o:=.cells #[.slice (some ⟨go6,0,none⟩) l0_0.length co7,.slice Ao8 l0_1.length co8,.int .i64 a0_2] 25 (0,0)) (by (with_reducible repeat (first|refine blk_drewN ?_ _|refine blk_drew ?_|refine blk_alloc ?_ _));exact BK346.out) hg (Kd.R_ne HO0_0.out BK346.out (by decide)));have n3_:=Aside0.mk (blk_grown (g:=gb347) (o:=.cells #[.int .i64 a1_0,.int .i64 a1_1,.int .i64 a1_2] 55 (0,0)) (by (with_reducible repeat (first|refine blk_drewN ?_ _|refine blk_drew ?_|refine blk_alloc ?_ _));exact BK347.out) hg (Kd.R_ne HO0_0.out BK347.out (by decide)));have n4_:=Aside0.mk (blk_grown (g:=gb348) (o:=.cells #[.slice none 0 0,.slice none 0 0,.int .i64 0] 25 (0,0)) (by (with_reducible repeat (first|refine blk_drewN ?_ _|refine blk_drew ?_|refine blk_alloc ?_ _));exact BK348.out) hg (Kd.R_ne HO0_0.out BK348.out (by decide)));have n5_:=Aside0.mk ((by rw [hw];exact below_set (HB.out) GB6.out:Below w0.heap.size w0 w18));have n6_:=Aside0.mk (Kept.of_grown (S:=(fun k_=>P0_0_ k_∨P0_1_ k_)) hg (by repeat (first|(with_reducible first|exact HK.out|apply Kept.alloc|apply Kept.drewN|apply Kept.drew|refine Kept.setCell ?_ (.inr GW346.out) _|refine Kept.setCell ?_ (.inr GW347.out) _|refine Kept.setCell ?_ (.inr GW348.out) _)|exact HK.out)) (fun k_ e_=>(HO0_0.out.1 k_ e_)));clear HO0_0 HO0_1 BK346 BK347 BK348 HB HK;have HO0_0:=n0_;have HO0_1:=n1_;have BK346:=n2_;have BK347:=n3_;have BK348:=n4_;have HB:=n5_;have HK:=n6_;clear n0_ n1_ n2_ n3_ n4_ n5_ n6_;clear hg hw hp_;have hcz19_0:w18.cell? ⟨gb346,0,none⟩=some (.slice (some ⟨go6,0,none⟩) l0_0.length co7):=(blk_cell BK346.out 0).trans rfl;have hcz19_1:w18.cell? ⟨gb346,1,none⟩=some (.slice Ao8 l0_1.length co8):=(blk_cell BK346.out 1).trans rfl;have hcz19_2:w18.cell? ⟨gb346,2,none⟩=some (.int .i64 a0_2):=(blk_cell BK346.out 2).trans rfl;have hfz19_0:=blk_frozen BK346.out 0;have hfz19_1:=blk_frozen BK346.out 1;have hfz19_2:=blk_frozen BK346.out 2;have hcz20_0:w18.cell? ⟨gb348,0,none⟩=some (.slice none 0 0):=(blk_cell BK348.out 0).trans rfl;have hcz20_1:w18.cell? ⟨gb348,1,none⟩=some (.slice none 0 0):=(blk_cell BK348.out 1).trans rfl;have hcz20_2:w18.cell? ⟨gb348,2,none⟩=some (.int .i64 0):=(blk_cell BK348.out 2).trans rfl;have hfz20_0:=blk_frozen BK348.out 0;have hfz20_1:=blk_frozen BK348.out 1;have hfz20_2:=blk_frozen BK348.out 2))
    refine bodyPost_ret (results_cell_row rfl _ _ gb348 25 #[.slice (some ⟨go6,0,none⟩) l0_0.length co7,.slice Ao8 l0_1.length co8,.int .i64 a0_2] (0,0) _ rfl (by (with_reducible repeat (first|refine blk_drewN ?_ _|refine blk_drew ?_|refine blk_alloc ?_ _));refine blk_put (cs:=#[.slice (some ⟨go6,0,none⟩) l0_0.length co7,.slice Ao8 l0_1.length co8,.int .i64 0]) ?_ 2 _ rfl;(with_reducible repeat (first|refine blk_drewN ?_ _|refine blk_drew ?_|refine blk_alloc ?_ _));refine blk_put (cs:=#[.slice (some ⟨go6,0,none⟩) l0_0.length co7,.slice none 0 0,.int .i64 0]) ?_ 1 _ rfl;(with_reducible repeat (first|refine blk_drewN ?_ _|refine blk_drew ?_|refine blk_alloc ?_ _));refine blk_put (cs:=#[.slice none 0 0,.slice none 0 0,.int .i64 0]) ?_ 0 _ rfl;(with_reducible repeat (first|refine blk_drewN ?_ _|refine blk_drew ?_|refine blk_alloc ?_ _));exact BK348.out) Try.underlying25 rfl (by kernel_rfl)) rfl ?_
    exact ⟨_,_,by first|rfl|(simp [errW_none,errW_some] <;> rfl)|(simp [*,errW_none,errW_some] <;> rfl),by (with_reducible repeat (first|apply Kd.R_alloc|apply Kd.R_drewN|apply Kd.R_drew));exact Kd.R_mono (Kd.R_far (p:=⟨gb348,2,none⟩) (Kd.R_far (p:=⟨gb348,1,none⟩) (Kd.R_far (p:=⟨gb348,0,none⟩) (Kd.R_types HO0_0.out BK348.out (by decide)) (fun _ hk=>hk.2) (.slice (some ⟨go6,0,none⟩) l0_0.length co7)) (fun _ hk=>hk.2) (.slice Ao8 l0_1.length co8)) (fun _ hk=>hk.2) (.int .i64 a0_2)) (fun _ hk=>hk.1),by (with_reducible repeat (first|apply Kd.R_alloc|apply Kd.R_drewN|apply Kd.R_drew));exact Kd.R_mono (Kd.R_far (p:=⟨gb348,2,none⟩) (Kd.R_far (p:=⟨gb348,1,none⟩) (Kd.R_far (p:=⟨gb348,0,none⟩) (Kd.R_types HO0_1.out BK348.out (by decide)) (fun _ hk=>hk.2) (.slice (some ⟨go6,0,none⟩) l0_0.length co7)) (fun _ hk=>hk.2) (.slice Ao8 l0_1.length co8)) (fun _ hk=>hk.2) (.int .i64 a0_2)) (fun _ hk=>hk.1),by repeat (first|(with_reducible first|exact HB.out|apply below_alloc|apply pw_below_drewN|apply below_drew1|refine below_set ?_ GE346.out|refine below_set ?_ GE347.out|refine below_set ?_ GE348.out)|exact HB.out),by repeat (first|(with_reducible first|exact HK.out|apply Kept.alloc|apply Kept.drewN|apply Kept.drew|refine Kept.setCell ?_ (.inr GW346.out) _|refine Kept.setCell ?_ (.inr GW347.out) _|refine Kept.setCell ?_ (.inr GW348.out) _)|exact HK.out)⟩
   ·rw [if_neg c5] at H
    exact absurd H (by simp)
  ·rw [if_neg c4] at H
   exact absurd H (by simp)
 ·rw [if_neg c3] at H
  have c3b0:(a1_0 == 1)=false:=beq_eq_false_iff_ne.mpr c3
  have c3b1:(a1_0 != 1)=true:=bne_iff_ne.mpr c3
  by_cases c21:a1_0=2
  ·rw [if_pos c21] at H
   have c21b0:(a1_0 == 2)=true:=beq_iff_eq.mpr c21
   have c21b1:(a1_0 != 2)=false:=bne_eq_false_iff_eq.mpr c21
   clear c21
   by_cases c22:0≤a1_1
   ·rw [if_pos c22] at H
    have c22b0:decide (0≤a1_1)=true:=decide_eq_true c22
    clear c22
    by_cases c23:a1_1 < (l0_1.length:Int)
    ·rw [if_pos c23] at H
     have c23b0:decide (a1_1 < (l0_1.length:Int))=true:=decide_eq_true c23
     clear c23
     obtain ⟨ji24,hji24⟩:∃ j_:Int,(mx (rd l0_1 a1_1) a1_2)=j_:=⟨_,rfl⟩
     replace H:(some (l0_0,(l0_1.set (a1_1:Int).toNat (ji24)),a0_2))=some (r1,r2,r3):=by first|(rw [hji24] at H;exact H)|(simp only [hji24] at H ⊢;exact H)
     have hji24_:(if (rd l0_1 a1_1) < a1_2 then a1_2 else (rd l0_1 a1_1))=ji24:=hji24
     obtain ⟨y351,hy351⟩:∃ y_:List Int,y_=(l0_1.set (a1_1:Int).toNat (ji24)):=⟨_,rfl⟩
     replace H:(some (l0_0,y351,a0_2))=some (r1,r2,r3):=by first|(rw [hy351];with_reducible exact H)|(have H2_:=(Option.bind_some _ _).symm.trans H;rw [hy351];with_reducible exact H2_)|(have H2_:=(Option.bind_some _ _).symm.trans H;with_reducible exact H2_)|with_reducible exact H|(rw [hy351];exact H)|exact H
     have Ny351:=Aside0.mk hy351
     clear hy351
     simp only [Option.some.injEq,Prod.mk.injEq] at H
     obtain ⟨rfl,rfl,rfl⟩:=H
     obtain ⟨Ao26,co26,eo26⟩:=Kd.R_slice HO0_0.out
     subst eo26
     obtain ⟨Ao27,co27,eo27⟩:=Kd.R_slice HO0_1.out
     subst eo27
     go_enter Try.func64,Try.ntmps64
     try go_wp2_with (first|((with_reducible refine gate_dst (N:=2) rfl ?_);refine box_event ?hg (N:=2) ?hd (cs:=#[.slice Ao26 l0_0.length co26,.slice Ao27 l0_1.length co27,.int .i64 a0_2]) (t:=25) ?hr ?_;(case hd=>rfl);(case hg=>rfl);(case hr=>first|(go_simp;done)|(go_simp;rfl));intro gb346 hg w28 hbox hb;have n0_:=Aside0.mk (Kd.R_below (by (with_reducible repeat (first|apply Kd.R_alloc|apply Kd.R_drewN|apply Kd.R_drew));exact HO0_0.out) hb);have n1_:=Aside0.mk (Kd.R_below (by (with_reducible repeat (first|apply Kd.R_alloc|apply Kd.R_drewN|apply Kd.R_drew));exact HO0_1.out) hb);have n2_:=Aside0.mk (Kept.below (S:=(fun k_=>P0_0_ k_∨P0_1_ k_)) (by repeat (first|(with_reducible first|exact HK.out|apply Kept.alloc|apply Kept.drewN|apply Kept.drew)|exact HK.out)) hb);have n3_:=Aside0.mk (below_step (by repeat (first|(with_reducible first|exact HB.out|apply below_alloc|apply pw_below_drewN|apply below_drew1)|exact HB.out)) hb);have n4_:=Aside0.mk (hbox);have n5_:=Aside0.mk ((by rw [hg];exact (by first|exact HK.out.1|exact (show Kept w _ (fun k_=>P0_0_ k_∨P0_1_ k_) from by repeat (first|(with_reducible first|exact HK.out|apply Kept.alloc|apply Kept.drewN|apply Kept.drew)|exact HK.out)).1):w.heap.size≤gb346));have n6_:=Aside0.mk ((by rw [hg];exact (below_size (by repeat (first|(with_reducible first|exact HB.out|apply below_alloc|apply pw_below_drewN|apply below_drew1)|exact HB.out))):w0.heap.size≤gb346));clear HO0_0 HO0_1 HK HB;have HO0_0:=n0_;have HO0_1:=n1_;have HK:=n2_;have HB:=n3_;have BK346:=n4_;have GW346:=n5_;have GE346:=n6_;clear n0_ n1_ n2_ n3_ n4_ n5_ n6_;clear hb hbox hg)|((with_reducible refine gate_dst (N:=3) rfl ?_);refine box_event ?hg (N:=3) ?hd (cs:=#[.int .i64 a1_0,.int .i64 a1_1,.int .i64 a1_2]) (t:=55) ?hr ?_;(case hd=>rfl);(case hg=>rfl);(case hr=>first|(go_simp;done)|(go_simp;rfl));intro gb347 hg w29 hbox hb;have n0_:=Aside0.mk (Kd.R_below (by (with_reducible repeat (first|apply Kd.R_alloc|apply Kd.R_drewN|apply Kd.R_drew));exact HO0_0.out) hb);have n1_:=Aside0.mk (Kd.R_below (by (with_reducible repeat (first|apply Kd.R_alloc|apply Kd.R_drewN|apply Kd.R_drew));exact HO0_1.out) hb);have n2_:=Aside0.mk (blk_below (g:=gb346) (o:=.cells #[.slice Ao26 l0_0.length co26,.slice Ao27 l0_1.length co27,.int .i64 a0_2] 25 (0,0)) (by (with_reducible repeat (first|refine blk_drewN ?_ _|refine blk_drew ?_|refine blk_alloc ?_ _));exact BK346.out) hb);have n3_:=Aside0.mk (Kept.below (S:=(fun k_=>P0_0_ k_∨P0_1_ k_)) (by repeat (first|(with_reducible first|exact HK.out|apply Kept.alloc|apply Kept.drewN|apply Kept.drew|refine Kept.setCell ?_ (.inr GW346.out) _)|exact HK.out)) hb);have n4_:=Aside0.mk (below_step (by repeat (first|(with_reducible first|exact HB.out|apply below_alloc|apply pw_below_drewN|apply below_drew1|refine below_set ?_ GE346.out)|exact HB.out)) hb);have n5_:=Aside0.mk (hbox);have n6_:=Aside0.mk ((by rw [hg];exact (by first|exact HK.out.1|exact (show Kept w _ (fun k_=>P0_0_ k_∨P0_1_ k_) from by repeat (first|(with_reducible first|exact HK.out|apply Kept.alloc|apply Kept.drewN|apply Kept.drew|refine Kept.setCell ?_ (.inr GW346.out) _)|exact HK.out)).1):w.heap.size≤gb347));have n7_:=Aside0.mk ((by rw [hg];exact (below_size (by repeat (first|(with_reducible first|exact HB.out|apply below_alloc|apply pw_below_drewN|apply below_drew1|refine below_set ?_ GE346.out)|exact HB.out))):w0.heap.size≤gb347));have n8_:=Aside0.mk ((by rw [hg];exact Nat.ne_of_lt (blk_lt (g:=gb346) (o:=.cells #[.slice Ao26 l0_0.length co26,.slice Ao27 l0_1.length co27,.int .i64 a0_2] 25 (0,0)) (by (with_reducible repeat (first|refine blk_drewN ?_ _|refine blk_drew ?_|refine blk_alloc ?_ _));exact BK346.out)):gb346≠gb347));have n9_:=Aside0.mk ((by rw [hg];exact Nat.ne_of_gt (blk_lt (g:=gb346) (o:=.cells #[.slice Ao26 l0_0.length co26,.slice Ao27 l0_1.length co27,.int .i64 a0_2] 25 (0,0)) (by (with_reducible repeat (first|refine blk_drewN ?_ _|refine blk_drew ?_|refine blk_alloc ?_ _));exact BK346.out)):gb347≠gb346));clear HO0_0 HO0_1 BK346 HK HB;have HO0_0:=n0_;have HO0_1:=n1_;have BK346:=n2_;have HK:=n3_;have HB:=n4_;have BK347:=n5_;have GW347:=n6_;have GE347:=n7_;have NB346_347:=n8_;have NB347_346:=n9_;clear n0_ n1_ n2_ n3_ n4_ n5_ n6_ n7_ n8_ n9_;clear hb hbox hg)|((with_reducible refine gate_dst (N:=4) rfl ?_);refine box_event ?hg (N:=4) ?hd (cs:=#[.slice none 0 0,.slice none 0 0,.int .i64 0]) (t:=25) ?hr ?_;(case hd=>rfl);(case hg=>rfl);(case hr=>first|(go_simp;done)|(go_simp;rfl));intro gb348 hg w30 hbox hb;have n0_:=Aside0.mk (Kd.R_below (by (with_reducible repeat (first|apply Kd.R_alloc|apply Kd.R_drewN|apply Kd.R_drew));exact HO0_0.out) hb);have n1_:=Aside0.mk (Kd.R_below (by (with_reducible repeat (first|apply Kd.R_alloc|apply Kd.R_drewN|apply Kd.R_drew));exact HO0_1.out) hb);have n2_:=Aside0.mk (blk_below (g:=gb346) (o:=.cells #[.slice Ao26 l0_0.length co26,.slice Ao27 l0_1.length co27,.int .i64 a0_2] 25 (0,0)) (by (with_reducible repeat (first|refine blk_drewN ?_ _|refine blk_drew ?_|refine blk_alloc ?_ _));exact BK346.out) hb);have n3_:=Aside0.mk (blk_below (g:=gb347) (o:=.cells #[.int .i64 a1_0,.int .i64 a1_1,.int .i64 a1_2] 55 (0,0)) (by (with_reducible repeat (first|refine blk_drewN ?_ _|refine blk_drew ?_|refine blk_alloc ?_ _));exact BK347.out) hb);have n4_:=Aside0.mk (Kept.below (S:=(fun k_=>P0_0_ k_∨P0_1_ k_)) (by repeat (first|(with_reducible first|exact HK.out|apply Kept.alloc|apply Kept.drewN|apply Kept.drew|refine Kept.setCell ?_ (.inr GW346.out) _|refine Kept.setCell ?_ (.inr GW347.out) _)|exact HK.out)) hb);have n5_:=Aside0.mk (below_step (by repeat (first|(with_reducible first|exact HB.out|apply below_alloc|apply pw_below_drewN|apply below_drew1|refine below_set ?_ GE346.out|refine below_set ?_ GE347.out)|exact HB.out)) hb);have n6_:=Aside0.mk (hbox);have n7_:=Aside0.mk ((by rw [hg];exact (by first|exact HK.out.1|exact (show Kept w _ (fun k_=>P0_0_ k_∨P0_1_ k_) from by repeat (first|(with_reducible first|exact HK.out|apply Kept.alloc|apply Kept.drewN|apply Kept.drew|refine Kept.setCell ?_ (.inr GW346.out) _|refine Kept.setCell ?_ (.inr GW347.out) _)|exact HK.out)).1):w.heap.size≤gb348));have n8_:=Aside0.mk ((by rw [hg];exact (below_size (by repeat (first|(with_reducible first|exact HB.out|apply below_alloc|apply pw_below_drewN|apply below_drew1|refine below_set ?_ GE346.out|refine below_set ?_ GE347.out)|exact HB.out))):w0.heap.size≤gb348));have n9_:=Aside0.mk ((by rw [hg];exact Nat.ne_of_lt (blk_lt (g:=gb346) (o:=.cells #[.slice Ao26 l0_0.length co26,.slice Ao27 l0_1.length co27,.int .i64 a0_2] 25 (0,0)) (by (with_reducible repeat (first|refine blk_drewN ?_ _|refine blk_drew ?_|refine blk_alloc ?_ _));exact BK346.out)):gb346≠gb348));have n10_:=Aside0.mk ((by rw [hg];exact Nat.ne_of_gt (blk_lt (g:=gb346) (o:=.cells #[.slice Ao26 l0_0.length co26,.slice Ao27 l0_1.length co27,.int .i64 a0_2] 25 (0,0)) (by (with_reducible repeat (first|refine blk_drewN ?_ _|refine blk_drew ?_|refine blk_alloc ?_ _));exact BK346.out)):gb348≠gb346));have n11_:=Aside0.mk ((by rw [hg];exact Nat.ne_of_lt (blk_lt (g:=gb347) (o:=.cells #[.int .i64 a1_0,.int .i64 a1_1,.int .i64 a1_2] 55 (0,0)) (by (with_reducible repeat (first|refine blk_drewN ?_ _|refine blk_drew ?_|refine blk_alloc ?_ _));exact BK347.out)):gb347≠gb348));have n12_:=Aside0.mk ((by rw [hg];exact Nat.ne_of_gt (blk_lt (g:=gb347) (o:=.cells #[.int .i64 a1_0,.int .i64 a1_1,.int .i64 a1_2] 55 (0,0)) (by (with_reducible repeat (first|refine blk_drewN ?_ _|refine blk_drew ?_|refine blk_alloc ?_ _));exact BK347.out)):gb348≠gb347));clear HO0_0 HO0_1 BK346 BK347 HK HB;have HO0_0:=n0_;have HO0_1:=n1_;have BK346:=n2_;have BK347:=n3_;have HK:=n4_;have HB:=n5_;have BK348:=n6_;have GW348:=n7_;have GE348:=n8_;have NB346_348:=n9_;have NB348_346:=n10_;have NB347_348:=n11_;have NB348_347:=n12_;clear n0_ n1_ n2_ n3_ n4_ n5_ n6_ n7_ n8_ n9_ n10_ n11_ n12_;clear hb hbox hg;have hnb31:=NB347_346.out;have hnc31:=NB346_347.out;have hnb32:=NB347_348.out;have hnc32:=NB348_347.out;have hcz33_0:w30.cell? ⟨gb347,0,none⟩=some (.int .i64 a1_0):=(blk_cell BK347.out 0).trans rfl;have hcz33_1:w30.cell? ⟨gb347,1,none⟩=some (.int .i64 a1_1):=(blk_cell BK347.out 1).trans rfl;have hcz33_2:w30.cell? ⟨gb347,2,none⟩=some (.int .i64 a1_2):=(blk_cell BK347.out 2).trans rfl;have hfz33_0:=blk_frozen BK347.out 0;have hfz33_1:=blk_frozen BK347.out 1;have hfz33_2:=blk_frozen BK347.out 2))
     have n0_:=Aside0.mk (Kd.R_drew HO0_0.out)
     have n1_:=Aside0.mk (Kd.R_drew HO0_1.out)
     have n2_:=Aside0.mk (blk_drew BK346.out)
     have n3_:=Aside0.mk (blk_drew BK347.out)
     have n4_:=Aside0.mk (blk_drew BK348.out)
     have n5_:=Aside0.mk (Kept.drew HK.out)
     have n6_:=Aside0.mk (below_drew1 HB.out)
     clear HO0_0 HO0_1 BK346 BK347 BK348 HK HB
     have HO0_0:=n0_
     have HO0_1:=n1_
     have BK346:=n2_
     have BK347:=n3_
     have BK348:=n4_
     have HK:=n5_
     have HB:=n6_
     clear n0_ n1_ n2_ n3_ n4_ n5_ n6_
     have p350:0≤(a1_1:Int):=of_decide_eq_true (by first|(with_reducible assumption)|assumption)
     have q350:a1_1 < (l0_1.length:Int):=of_decide_eq_true (by first|(with_reducible assumption)|assumption)
     obtain ⟨ad350,e350,hx350_0⟩:=Kd.at_int (Kd.R_reads' HO0_1.out).2.2 a1_1 p350 q350
     cases e350
     replace p350:=eq_true p350
     replace q350:=eq_true q350
     have p25:0≤(a1_1:Int):=of_decide_eq_true (by first|(with_reducible assumption)|assumption)
     have q25:(a1_1:Int) < ((l0_1.length:Int):Int):=of_decide_eq_true (by first|(with_reducible assumption)|assumption)
     obtain ⟨go25,co25,eo25,gb25,gl25,cl25,HG25⟩:=Kd.R_form HO0_1.out (by omega)
     (first|cases eo25|(injection eo25 with ea_ en_ ec_;(first|subst ea_|(injection ea_ with ea_;subst ea_));subst ec_;clear en_))
     have GB25:=Aside0.mk gb25
     have GG25:=Aside0.mk HG25
     clear gb25 gl25 HG25
     have HMgo25:=Aside0.mk (show ((P0_0_ go25∨P0_1_ go25)∨w.heap.size≤go25) from (HO0_1.out.1 _ rfl))
     (first|simp only [add_plain] at hx350_0|skip)
     obtain ⟨hx25_0,hf25_0⟩:=Kd.R_celln 0 HO0_1.out (a1_1:Int) p25 q25
     replace p25:=eq_true p25
     replace q25:=eq_true q25
     have HP35:=Kd.R_putn HO0_1.out (a1_1:Int) ji24
     rw [← Ny351.out] at HP35
     have HQ35:=Aside0.mk HP35
     clear HP35
     refine start_ (n:=15) (S:=fun w'=>w'.cell? ⟨gb346,0,none⟩=some (.slice Ao26 l0_0.length co26)∧w'.cell? ⟨gb346,1,none⟩=some (.slice (some ⟨go25,0,none⟩) l0_1.length co27)∧w'.cell? ⟨gb346,2,none⟩=some (.int .i64 a0_2)∧w'.cell? ⟨gb347,0,none⟩=some (.int .i64 a1_0)∧w'.cell? ⟨gb347,1,none⟩=some (.int .i64 a1_1)∧w'.cell? ⟨gb347,2,none⟩=some (.int .i64 a1_2)∧w'.cell? ⟨go25,(a1_1).toNat,none⟩=some (.int .i64 (rd l0_1 a1_1))) (ds:=[14]) #[false,false,false,false,false,false,false,false,false,false,false,false,false,false,false] (by kernel_rfl) rfl rfl ⟨(blk_cell BK346.out 0).trans rfl,(blk_cell BK346.out 1).trans rfl,(blk_cell BK346.out 2).trans rfl,(blk_cell BK347.out 0).trans rfl,(blk_cell BK347.out 1).trans rfl,(blk_cell BK347.out 2).trans rfl,hx350_0⟩ (fun hHeld=>?_);refine with_tabW slipwayref06_one.tab5 slipwayref06_one.bits5 (fun HT_ HW_=>?_)
     generalize w30.drew=w34 at HO0_0 HO0_1 BK346 BK347 BK348 HK HB GG25 HQ35 hf25_0 hx25_0 hx350_0 hHeld ⊢
     refine pure_ (i:=0) (N:=some 16) (v:=?_) (a':=?_) #[true,false,false,false,false,false,false,false,false,false,false,false,false,false,false] rfl rfl (any_of HT_.out (by kernel_rfl)) (fun _ _ _ h=>h) (Or.inl ⟨by rfl,?_⟩) ?_ ?_
     rotate_left
     ·intro w'
      go_simp
      with_reducible rfl
     rotate_left
     ·simp only [Act.put,List.setIfInBounds_toArray,List.set_cons_zero,List.set_cons_succ,i64_w,i32_w]
      rfl
     refine pure_ (i:=2) (N:=some 18) (v:=?_) (a':=?_) #[true,false,true,false,false,false,false,false,false,false,false,false,false,false,false] rfl rfl (any_of HT_.out (by kernel_rfl)) (fun _ _ _ h=>h) (Or.inl ⟨by rfl,?_⟩) ?_ ?_
     rotate_left
     ·intro w'
      go_simp
      with_reducible rfl
     rotate_left
     ·simp only [Act.put,List.setIfInBounds_toArray,List.set_cons_zero,List.set_cons_succ,i64_w,i32_w]
      rfl
     refine pure_ (i:=4) (N:=some 20) (v:=?_) (a':=?_) #[true,false,true,false,true,false,false,false,false,false,false,false,false,false,false] rfl rfl (any_of HT_.out (by kernel_rfl)) (fun _ _ _ h=>h) (Or.inl ⟨by rfl,?_⟩) ?_ ?_
     rotate_left
     ·intro w'
      go_simp
      with_reducible rfl
     rotate_left
     ·simp only [Act.put,List.setIfInBounds_toArray,List.set_cons_zero,List.set_cons_succ,i64_w,i32_w]
      rfl
     refine pure_ (i:=6) (N:=some 22) (v:=?_) (a':=?_) #[true,false,true,false,true,false,true,false,false,false,false,false,false,false,false] rfl rfl (any_of HT_.out (by kernel_rfl)) (fun _ _ _ h=>h) (Or.inl ⟨by rfl,?_⟩) ?_ ?_
     rotate_left
     ·intro w'
      go_simp
      with_reducible rfl
     rotate_left
     ·simp only [Act.put,List.setIfInBounds_toArray,List.set_cons_zero,List.set_cons_succ,i64_w,i32_w]
      rfl
     refine pure_ (i:=10) (N:=some 26) (v:=?_) (a':=?_) #[true,false,true,false,true,false,true,false,false,false,true,false,false,false,false] rfl rfl (any_of HT_.out (by kernel_rfl)) (fun _ _ _ h=>h) (Or.inl ⟨by rfl,?_⟩) ?_ ?_
     rotate_left
     ·intro w'
      go_simp
      with_reducible rfl
     rotate_left
     ·simp only [Act.put,List.setIfInBounds_toArray,List.set_cons_zero,List.set_cons_succ,i64_w,i32_w]
      rfl
     refine take_ (i:=1) (N:=some 17) (v:=?_) (a':=?_) #[true,true,true,false,true,false,true,false,false,false,true,false,false,false,false] rfl rfl (take_ofW HT_.out HW_.out (by kernel_rfl)) (fun _ _ _ h=>h) (Or.inl ⟨by rfl,?_⟩) hHeld ?_ ?_
     rotate_left
     ·rintro w' ⟨s0,s1,s2,s3,s4,s5,s6⟩
      go_simp
      with_reducible rfl
     rotate_left
     ·simp only [Act.put,List.setIfInBounds_toArray,List.set_cons_zero,List.set_cons_succ,i64_w,i32_w]
      rfl
     refine take_ (i:=3) (N:=some 19) (v:=?_) (a':=?_) #[true,true,true,true,true,false,true,false,false,false,true,false,false,false,false] rfl rfl (take_ofW HT_.out HW_.out (by kernel_rfl)) (fun _ _ _ h=>h) (Or.inl ⟨by rfl,?_⟩) hHeld ?_ ?_
     rotate_left
     ·rintro w' ⟨s0,s1,s2,s3,s4,s5,s6⟩
      go_simp
      with_reducible rfl
     rotate_left
     ·simp only [Act.put,List.setIfInBounds_toArray,List.set_cons_zero,List.set_cons_succ,i64_w,i32_w]
      rfl
     refine take_ (i:=5) (N:=some 21) (v:=?_) (a':=?_) #[true,true,true,true,true,true,true,false,false,false,true,false,false,false,false] rfl rfl (take_ofW HT_.out HW_.out (by kernel_rfl)) (fun _ _ _ h=>h) (Or.inl ⟨by rfl,?_⟩) hHeld ?_ ?_
     rotate_left
     ·rintro w' ⟨s0,s1,s2,s3,s4,s5,s6⟩
      go_simp
      with_reducible rfl
     rotate_left
     ·simp only [Act.put,List.setIfInBounds_toArray,List.set_cons_zero,List.set_cons_succ,i64_w,i32_w]
      rfl
     refine take_ (i:=7) (N:=some 23) (v:=?_) (a':=?_) #[true,true,true,true,true,true,true,true,false,false,true,false,false,false,false] rfl rfl (take_ofW HT_.out HW_.out (by kernel_rfl)) (fun _ _ _ h=>h) (Or.inl ⟨by rfl,?_⟩) hHeld ?_ ?_
     rotate_left
     ·rintro w' ⟨s0,s1,s2,s3,s4,s5,s6⟩
      go_simp
      with_reducible rfl
     rotate_left
     ·simp only [Act.put,List.setIfInBounds_toArray,List.set_cons_zero,List.set_cons_succ,i64_w,i32_w]
      rfl
     refine pure_ (i:=8) (N:=some 24) (v:=?_) (a':=?_) #[true,true,true,true,true,true,true,true,true,false,true,false,false,false,false] rfl rfl (any_of HT_.out (by kernel_rfl)) (fun _ _ _ h=>h) (Or.inl ⟨by rfl,?_⟩) ?_ ?_
     rotate_left
     ·intro w'
      go_simp
      with_reducible rfl
     rotate_left
     ·simp only [Act.put,List.setIfInBounds_toArray,List.set_cons_zero,List.set_cons_succ,i64_w,i32_w]
      rfl
     refine take_ (i:=9) (N:=some 25) (v:=?_) (a':=?_) #[true,true,true,true,true,true,true,true,true,true,true,false,false,false,false] rfl rfl (take_ofW HT_.out HW_.out (by kernel_rfl)) (fun _ _ _ h=>h) (Or.inl ⟨by rfl,?_⟩) hHeld ?_ ?_
     rotate_left
     ·rintro w' ⟨s0,s1,s2,s3,s4,s5,s6⟩
      go_simp
      with_reducible rfl
     rotate_left
     ·simp only [Act.put,List.setIfInBounds_toArray,List.set_cons_zero,List.set_cons_succ,i64_w,i32_w]
      rfl
     refine take_ (i:=11) (N:=some 27) (v:=?_) (a':=?_) #[true,true,true,true,true,true,true,true,true,true,true,true,false,false,false] rfl rfl (take_ofW HT_.out HW_.out (by kernel_rfl)) (fun _ _ _ h=>h) (Or.inl ⟨by rfl,?_⟩) hHeld ?_ ?_
     rotate_left
     ·rintro w' ⟨s0,s1,s2,s3,s4,s5,s6⟩
      go_simp
      with_reducible rfl
     rotate_left
     ·simp only [Act.put,List.setIfInBounds_toArray,List.set_cons_zero,List.set_cons_succ,i64_w,i32_w]
      rfl
     refine pure_ (i:=12) (N:=some 28) (v:=?_) (a':=?_) #[true,true,true,true,true,true,true,true,true,true,true,true,true,false,false] rfl rfl (any_of HT_.out (by kernel_rfl)) (fun _ _ _ h=>h) (Or.inl ⟨by rfl,?_⟩) ?_ ?_
     rotate_left
     ·intro w'
      go_simp
      with_reducible rfl
     rotate_left
     ·simp only [Act.put,List.setIfInBounds_toArray,List.set_cons_zero,List.set_cons_succ,i64_w,i32_w]
      rfl
     refine pure_ (i:=13) (N:=some 29) (v:=?_) (a':=?_) #[true,true,true,true,true,true,true,true,true,true,true,true,true,true,false] rfl rfl (any_of HT_.out (by kernel_rfl)) (fun _ _ _ h=>h) (Or.inl ⟨by rfl,?_⟩) ?_ ?_
     rotate_left
     ·intro w'
      go_simp
      with_reducible rfl
     rotate_left
     ·simp only [Act.put,List.setIfInBounds_toArray,List.set_cons_zero,List.set_cons_succ,i64_w,i32_w]
      rfl
     refine last_ (i:=14) (N:=none) #[true,true,true,true,true,true,true,true,true,true,true,true,true,true,true] rfl rfl (one_of HT_.out (by kernel_rfl)) (by decide) (fun K hK=>?_)
     refine skip_ (w1:=?_) (by rfl) rfl ?_ ?_
     rotate_left
     ·go_simp
      rfl
     refine hK.out _ _ ?_
     clear hK K
     refine done_ (done_of HT_.out (by kernel_rfl)) ?_
     have n0_:Aside0 (Kd.R Kd.bool 4 (w34.setCell ⟨go25,(a1_1:Int).toNat,none⟩ (.int .i64 ji24)) w0.heap.size (fun k_=>((P0_0_ k_∨P0_1_ k_)∨w.heap.size≤k_)) (.slice Ao26 l0_0.length co26) l0_0):=⟨by (with_reducible repeat (first|apply Kd.R_alloc|apply Kd.R_drewN|apply Kd.R_drew));exact Kd.R_mono (Kd.R_far (p:=⟨go25,(a1_1:Int).toNat,none⟩) (Kd.R_types HO0_0.out GG25.out (by decide)) (fun _ hk=>hk.2) (.int .i64 ji24)) (fun _ hk=>hk.1)⟩
     have n1_:Aside0 (Kd.R (Kd.int .i64) 2 (w34.setCell ⟨go25,(a1_1:Int).toNat,none⟩ (.int .i64 ji24)) w0.heap.size (fun k_=>((P0_0_ k_∨P0_1_ k_)∨w.heap.size≤k_)) (.slice (some ⟨go25,0,none⟩) l0_1.length co27) y351):=⟨by (with_reducible repeat (first|apply Kd.R_alloc|apply Kd.R_drewN|apply Kd.R_drew));exact HQ35.out⟩
     have n2_:Aside0 ((w34.setCell ⟨go25,(a1_1:Int).toNat,none⟩ (.int .i64 ji24)).heap[gb346]?=some (.cells #[.slice Ao26 l0_0.length co26,.slice (some ⟨go25,0,none⟩) l0_1.length co27,.int .i64 a0_2] 25 (0,0))):=⟨by (with_reducible repeat (first|refine blk_drewN ?_ _|refine blk_drew ?_|refine blk_alloc ?_ _));refine blk_far ?_ (by have h_:=Kd.R_ne HO0_1.out BK346.out (by decide);intro e_;exact h_ (by rw [e_];rfl)) _;(with_reducible repeat (first|refine blk_drewN ?_ _|refine blk_drew ?_|refine blk_alloc ?_ _));exact BK346.out⟩
     have n3_:Aside0 ((w34.setCell ⟨go25,(a1_1:Int).toNat,none⟩ (.int .i64 ji24)).heap[gb347]?=some (.cells #[.int .i64 a1_0,.int .i64 a1_1,.int .i64 a1_2] 55 (0,0))):=⟨by (with_reducible repeat (first|refine blk_drewN ?_ _|refine blk_drew ?_|refine blk_alloc ?_ _));refine blk_far ?_ (by have h_:=Kd.R_ne HO0_1.out BK347.out (by decide);intro e_;exact h_ (by rw [e_];rfl)) _;(with_reducible repeat (first|refine blk_drewN ?_ _|refine blk_drew ?_|refine blk_alloc ?_ _));exact BK347.out⟩
     have n4_:Aside0 ((w34.setCell ⟨go25,(a1_1:Int).toNat,none⟩ (.int .i64 ji24)).heap[gb348]?=some (.cells #[.slice none 0 0,.slice none 0 0,.int .i64 0] 25 (0,0))):=⟨by (with_reducible repeat (first|refine blk_drewN ?_ _|refine blk_drew ?_|refine blk_alloc ?_ _));refine blk_far ?_ (by have h_:=Kd.R_ne HO0_1.out BK348.out (by decide);intro e_;exact h_ (by rw [e_];rfl)) _;(with_reducible repeat (first|refine blk_drewN ?_ _|refine blk_drew ?_|refine blk_alloc ?_ _));exact BK348.out⟩
     have n5_:Aside0 (Kept w (w34.setCell ⟨go25,(a1_1:Int).toNat,none⟩ (.int .i64 ji24)) (fun k_=>P0_0_ k_∨P0_1_ k_)):=⟨by repeat (first|(with_reducible first|exact HK.out|apply Kept.alloc|apply Kept.drewN|apply Kept.drew|refine Kept.setCell ?_ HMgo25.out _|refine Kept.setCell ?_ (.inr GW346.out) _|refine Kept.setCell ?_ (.inr GW347.out) _|refine Kept.setCell ?_ (.inr GW348.out) _)|exact HK.out)⟩
     have n6_:Aside0 (Below w0.heap.size w0 (w34.setCell ⟨go25,(a1_1:Int).toNat,none⟩ (.int .i64 ji24))):=⟨by repeat (first|(with_reducible first|exact HB.out|apply below_alloc|apply pw_below_drewN|apply below_drew1|refine below_set ?_ GB25.out|refine below_set ?_ GE346.out|refine below_set ?_ GE347.out|refine below_set ?_ GE348.out)|exact HB.out)⟩
     (try clear HO0_0)
     (try clear HO0_1)
     (try clear BK346)
     (try clear BK347)
     (try clear BK348)
     (try clear HK)
     (try clear HB)
     generalize (w34.setCell ⟨go25,(a1_1:Int).toNat,none⟩ (.int .i64 ji24))=w36 at n0_ n1_ n2_ n3_ n4_ n5_ n6_ ⊢
     have HO0_0:=n0_
     have HO0_1:=n1_
     have BK346:=n2_
     have BK347:=n3_
     have BK348:=n4_
     have HK:=n5_
     have HB:=n6_
     clear n0_ n1_ n2_ n3_ n4_ n5_ n6_
     have hnb37:=NB346_348.out
     have hnc37:=NB348_346.out
     have hcz38_0:w36.cell? ⟨gb346,0,none⟩=some (.slice Ao26 l0_0.length co26):=(blk_cell BK346.out 0).trans rfl
     have hcz38_1:w36.cell? ⟨gb346,1,none⟩=some (.slice (some ⟨go25,0,none⟩) l0_1.length co27):=(blk_cell BK346.out 1).trans rfl
     have hcz38_2:w36.cell? ⟨gb346,2,none⟩=some (.int .i64 a0_2):=(blk_cell BK346.out 2).trans rfl
     have hfz38_0:=blk_frozen BK346.out 0
     have hfz38_1:=blk_frozen BK346.out 1
     have hfz38_2:=blk_frozen BK346.out 2
     have hcz39_0:w36.cell? ⟨gb348,0,none⟩=some (.slice none 0 0):=(blk_cell BK348.out 0).trans rfl
     have hcz39_1:w36.cell? ⟨gb348,1,none⟩=some (.slice none 0 0):=(blk_cell BK348.out 1).trans rfl
     have hcz39_2:w36.cell? ⟨gb348,2,none⟩=some (.int .i64 0):=(blk_cell BK348.out 2).trans rfl
     have hfz39_0:=blk_frozen BK348.out 0
     have hfz39_1:=blk_frozen BK348.out 1
     have hfz39_2:=blk_frozen BK348.out 2
     try go_wp2
     refine bodyPost_ret (results_cell_row rfl _ _ gb348 25 #[.slice Ao26 l0_0.length co26,.slice (some ⟨go25,0,none⟩) l0_1.length co27,.int .i64 a0_2] (0,0) _ rfl (by (with_reducible repeat (first|refine blk_drewN ?_ _|refine blk_drew ?_|refine blk_alloc ?_ _));refine blk_put (cs:=#[.slice Ao26 l0_0.length co26,.slice (some ⟨go25,0,none⟩) l0_1.length co27,.int .i64 0]) ?_ 2 _ rfl;(with_reducible repeat (first|refine blk_drewN ?_ _|refine blk_drew ?_|refine blk_alloc ?_ _));refine blk_put (cs:=#[.slice Ao26 l0_0.length co26,.slice none 0 0,.int .i64 0]) ?_ 1 _ rfl;(with_reducible repeat (first|refine blk_drewN ?_ _|refine blk_drew ?_|refine blk_alloc ?_ _));refine blk_put (cs:=#[.slice none 0 0,.slice none 0 0,.int .i64 0]) ?_ 0 _ rfl;(with_reducible repeat (first|refine blk_drewN ?_ _|refine blk_drew ?_|refine blk_alloc ?_ _));exact BK348.out) Try.underlying25 rfl (by kernel_rfl)) rfl ?_
     exact ⟨_,_,by first|rfl|(simp [errW_none,errW_some] <;> rfl)|(simp only [← hji24];first|rfl|(simp [errW_none,errW_some] <;> rfl))|(simp [*,errW_none,errW_some] <;> rfl),by (with_reducible repeat (first|apply Kd.R_alloc|apply Kd.R_drewN|apply Kd.R_drew));exact Kd.R_mono (Kd.R_far (p:=⟨gb348,2,none⟩) (Kd.R_far (p:=⟨gb348,1,none⟩) (Kd.R_far (p:=⟨gb348,0,none⟩) (Kd.R_types HO0_0.out BK348.out (by decide)) (fun _ hk=>hk.2) (.slice Ao26 l0_0.length co26)) (fun _ hk=>hk.2) (.slice (some ⟨go25,0,none⟩) l0_1.length co27)) (fun _ hk=>hk.2) (.int .i64 a0_2)) (fun _ hk=>hk.1),by (with_reducible repeat (first|apply Kd.R_alloc|apply Kd.R_drewN|apply Kd.R_drew));exact Kd.R_mono (Kd.R_far (p:=⟨gb348,2,none⟩) (Kd.R_far (p:=⟨gb348,1,none⟩) (Kd.R_far (p:=⟨gb348,0,none⟩) (Kd.R_types HO0_1.out BK348.out (by decide)) (fun _ hk=>hk.2) (.slice Ao26 l0_0.length co26)) (fun _ hk=>hk.2) (.slice (some ⟨go25,0,none⟩) l0_1.length co27)) (fun _ hk=>hk.2) (.int .i64 a0_2)) (fun _ hk=>hk.1),by repeat (first|(with_reducible first|exact HB.out|apply below_alloc|apply pw_below_drewN|apply below_drew1|refine below_set ?_ GE346.out|refine below_set ?_ GE347.out|refine below_set ?_ GE348.out)|exact HB.out),by repeat (first|(with_reducible first|exact HK.out|apply Kept.alloc|apply Kept.drewN|apply Kept.drew|refine Kept.setCell ?_ (.inr GW346.out) _|refine Kept.setCell ?_ (.inr GW347.out) _|refine Kept.setCell ?_ (.inr GW348.out) _)|exact HK.out)⟩
    ·rw [if_neg c23] at H
     exact absurd H (by simp)
   ·rw [if_neg c22] at H
    exact absurd H (by simp)
  ·rw [if_neg c21] at H
   have c21b0:(a1_0 == 2)=false:=beq_eq_false_iff_ne.mpr c21
   have c21b1:(a1_0 != 2)=true:=bne_iff_ne.mpr c21
   by_cases c40:a1_0=3
   ·rw [if_pos c40] at H
    have c40b0:(a1_0 == 3)=true:=beq_iff_eq.mpr c40
    have c40b1:(a1_0 != 3)=false:=bne_eq_false_iff_eq.mpr c40
    clear c40
    obtain ⟨ji41,hji41⟩:∃ j_:Int,(mx a0_2 a1_2)=j_:=⟨_,rfl⟩
    replace H:(some (l0_0,l0_1,ji41))=some (r1,r2,r3):=by first|(rw [hji41] at H;exact H)|(simp only [hji41] at H ⊢;exact H)
    have hji41_:(if a0_2 < a1_2 then a1_2 else a0_2)=ji41:=hji41
    simp only [Option.some.injEq,Prod.mk.injEq] at H
    obtain ⟨rfl,rfl,rfl⟩:=H
    obtain ⟨Ao42,co42,eo42⟩:=Kd.R_slice HO0_0.out
    subst eo42
    obtain ⟨Ao43,co43,eo43⟩:=Kd.R_slice HO0_1.out
    subst eo43
    go_enter Try.func64,Try.ntmps64
    go_wp2_with (first|((with_reducible refine gate_dst (N:=2) rfl ?_);refine box_event ?hg (N:=2) ?hd (cs:=#[.slice Ao42 l0_0.length co42,.slice Ao43 l0_1.length co43,.int .i64 a0_2]) (t:=25) ?hr ?_;(case hd=>rfl);(case hg=>rfl);(case hr=>first|(go_simp;done)|(go_simp;rfl));intro gb346 hg w44 hbox hb;have n0_:=Aside0.mk (Kd.R_below (by (with_reducible repeat (first|apply Kd.R_alloc|apply Kd.R_drewN|apply Kd.R_drew));exact HO0_0.out) hb);have n1_:=Aside0.mk (Kd.R_below (by (with_reducible repeat (first|apply Kd.R_alloc|apply Kd.R_drewN|apply Kd.R_drew));exact HO0_1.out) hb);have n2_:=Aside0.mk (Kept.below (S:=(fun k_=>P0_0_ k_∨P0_1_ k_)) (by repeat (first|(with_reducible first|exact HK.out|apply Kept.alloc|apply Kept.drewN|apply Kept.drew)|exact HK.out)) hb);have n3_:=Aside0.mk (below_step (by repeat (first|(with_reducible first|exact HB.out|apply below_alloc|apply pw_below_drewN|apply below_drew1)|exact HB.out)) hb);have n4_:=Aside0.mk (hbox);have n5_:=Aside0.mk ((by rw [hg];exact (by first|exact HK.out.1|exact (show Kept w _ (fun k_=>P0_0_ k_∨P0_1_ k_) from by repeat (first|(with_reducible first|exact HK.out|apply Kept.alloc|apply Kept.drewN|apply Kept.drew)|exact HK.out)).1):w.heap.size≤gb346));have n6_:=Aside0.mk ((by rw [hg];exact (below_size (by repeat (first|(with_reducible first|exact HB.out|apply below_alloc|apply pw_below_drewN|apply below_drew1)|exact HB.out))):w0.heap.size≤gb346));clear HO0_0 HO0_1 HK HB;have HO0_0:=n0_;have HO0_1:=n1_;have HK:=n2_;have HB:=n3_;have BK346:=n4_;have GW346:=n5_;have GE346:=n6_;clear n0_ n1_ n2_ n3_ n4_ n5_ n6_;clear hb hbox hg)|((with_reducible refine gate_dst (N:=3) rfl ?_);refine box_event ?hg (N:=3) ?hd (cs:=#[.int .i64 a1_0,.int .i64 a1_1,.int .i64 a1_2]) (t:=55) ?hr ?_;(case hd=>rfl);(case hg=>rfl);(case hr=>first|(go_simp;done)|(go_simp;rfl));intro gb347 hg w45 hbox hb;have n0_:=Aside0.mk (Kd.R_below (by (with_reducible repeat (first|apply Kd.R_alloc|apply Kd.R_drewN|apply Kd.R_drew));exact HO0_0.out) hb);have n1_:=Aside0.mk (Kd.R_below (by (with_reducible repeat (first|apply Kd.R_alloc|apply Kd.R_drewN|apply Kd.R_drew));exact HO0_1.out) hb);have n2_:=Aside0.mk (blk_below (g:=gb346) (o:=.cells #[.slice Ao42 l0_0.length co42,.slice Ao43 l0_1.length co43,.int .i64 a0_2] 25 (0,0)) (by (with_reducible repeat (first|refine blk_drewN ?_ _|refine blk_drew ?_|refine blk_alloc ?_ _));exact BK346.out) hb);have n3_:=Aside0.mk (Kept.below (S:=(fun k_=>P0_0_ k_∨P0_1_ k_)) (by repeat (first|(with_reducible first|exact HK.out|apply Kept.alloc|apply Kept.drewN|apply Kept.drew|refine Kept.setCell ?_ (.inr GW346.out) _)|exact HK.out)) hb);have n4_:=Aside0.mk (below_step (by repeat (first|(with_reducible first|exact HB.out|apply below_alloc|apply pw_below_drewN|apply below_drew1|refine below_set ?_ GE346.out)|exact HB.out)) hb);have n5_:=Aside0.mk (hbox);have n6_:=Aside0.mk ((by rw [hg];exact (by first|exact HK.out.1|exact (show Kept w _ (fun k_=>P0_0_ k_∨P0_1_ k_) from by repeat (first|(with_reducible first|exact HK.out|apply Kept.alloc|apply Kept.drewN|apply Kept.drew|refine Kept.setCell ?_ (.inr GW346.out) _)|exact HK.out)).1):w.heap.size≤gb347));have n7_:=Aside0.mk ((by rw [hg];exact (below_size (by repeat (first|(with_reducible first|exact HB.out|apply below_alloc|apply pw_below_drewN|apply below_drew1|refine below_set ?_ GE346.out)|exact HB.out))):w0.heap.size≤gb347));have n8_:=Aside0.mk ((by rw [hg];exact Nat.ne_of_lt (blk_lt (g:=gb346) (o:=.cells #[.slice Ao42 l0_0.length co42,.slice Ao43 l0_1.length co43,.int .i64 a0_2] 25 (0,0)) (by (with_reducible repeat (first|refine blk_drewN ?_ _|refine blk_drew ?_|refine blk_alloc ?_ _));exact BK346.out)):gb346≠gb347));have n9_:=Aside0.mk ((by rw [hg];exact Nat.ne_of_gt (blk_lt (g:=gb346) (o:=.cells #[.slice Ao42 l0_0.length co42,.slice Ao43 l0_1.length co43,.int .i64 a0_2] 25 (0,0)) (by (with_reducible repeat (first|refine blk_drewN ?_ _|refine blk_drew ?_|refine blk_alloc ?_ _));exact BK346.out)):gb347≠gb346));clear HO0_0 HO0_1 BK346 HK HB;have HO0_0:=n0_;have HO0_1:=n1_;have BK346:=n2_;have HK:=n3_;have HB:=n4_;have BK347:=n5_;have GW347:=n6_;have GE347:=n7_;have NB346_347:=n8_;have NB347_346:=n9_;clear n0_ n1_ n2_ n3_ n4_ n5_ n6_ n7_ n8_ n9_;clear hb hbox hg)|((with_reducible refine gate_dst (N:=4) rfl ?_);refine box_event ?hg (N:=4) ?hd (cs:=#[.slice none 0 0,.slice none 0 0,.int .i64 0]) (t:=25) ?hr ?_;(case hd=>rfl);(case hg=>rfl);(case hr=>first|(go_simp;done)|(go_simp;rfl));intro gb348 hg w46 hbox hb;have n0_:=Aside0.mk (Kd.R_below (by (with_reducible repeat (first|apply Kd.R_alloc|apply Kd.R_drewN|apply Kd.R_drew));exact HO0_0.out) hb);have n1_:=Aside0.mk (Kd.R_below (by (with_reducible repeat (first|apply Kd.R_alloc|apply Kd.R_drewN|apply Kd.R_drew));exact HO0_1.out) hb);have n2_:=Aside0.mk (blk_below (g:=gb346) (o:=.cells #[.slice Ao42 l0_0.length co42,.slice Ao43 l0_1.length co43,.int .i64 a0_2] 25 (0,0)) (by (with_reducible repeat (first|refine blk_drewN ?_ _|refine blk_drew ?_|refine blk_alloc ?_ _));exact BK346.out) hb);have n3_:=Aside0.mk (blk_below (g:=gb347) (o:=.cells #[.int .i64 a1_0,.int .i64 a1_1,.int .i64 a1_2] 55 (0,0)) (by (with_reducible repeat (first|refine blk_drewN ?_ _|refine blk_drew ?_|refine blk_alloc ?_ _));exact BK347.out) hb);have n4_:=Aside0.mk (Kept.below (S:=(fun k_=>P0_0_ k_∨P0_1_ k_)) (by repeat (first|(with_reducible first|exact HK.out|apply Kept.alloc|apply Kept.drewN|apply Kept.drew|refine Kept.setCell ?_ (.inr GW346.out) _|refine Kept.setCell ?_ (.inr GW347.out) _)|exact HK.out)) hb);have n5_:=Aside0.mk (below_step (by repeat (first|(with_reducible first|exact HB.out|apply below_alloc|apply pw_below_drewN|apply below_drew1|refine below_set ?_ GE346.out|refine below_set ?_ GE347.out)|exact HB.out)) hb);have n6_:=Aside0.mk (hbox);have n7_:=Aside0.mk ((by rw [hg];exact (by first|exact HK.out.1|exact (show Kept w _ (fun k_=>P0_0_ k_∨P0_1_ k_) from by repeat (first|(with_reducible first|exact HK.out|apply Kept.alloc|apply Kept.drewN|apply Kept.drew|refine Kept.setCell ?_ (.inr GW346.out) _|refine Kept.setCell ?_ (.inr GW347.out) _)|exact HK.out)).1):w.heap.size≤gb348));have n8_:=Aside0.mk ((by rw [hg];exact (below_size (by repeat (first|(with_reducible first|exact HB.out|apply below_alloc|apply pw_below_drewN|apply below_drew1|refine below_set ?_ GE346.out|refine below_set ?_ GE347.out)|exact HB.out))):w0.heap.size≤gb348));have n9_:=Aside0.mk ((by rw [hg];exact Nat.ne_of_lt (blk_lt (g:=gb346) (o:=.cells #[.slice Ao42 l0_0.length co42,.slice Ao43 l0_1.length co43,.int .i64 a0_2] 25 (0,0)) (by (with_reducible repeat (first|refine blk_drewN ?_ _|refine blk_drew ?_|refine blk_alloc ?_ _));exact BK346.out)):gb346≠gb348));have n10_:=Aside0.mk ((by rw [hg];exact Nat.ne_of_gt (blk_lt (g:=gb346) (o:=.cells #[.slice Ao42 l0_0.length co42,.slice Ao43 l0_1.length co43,.int .i64 a0_2] 25 (0,0)) (by (with_reducible repeat (first|refine blk_drewN ?_ _|refine blk_drew ?_|refine blk_alloc ?_ _));exact BK346.out)):gb348≠gb346));have n11_:=Aside0.mk ((by rw [hg];exact Nat.ne_of_lt (blk_lt (g:=gb347) (o:=.cells #[.int .i64 a1_0,.int .i64 a1_1,.int .i64 a1_2] 55 (0,0)) (by (with_reducible repeat (first|refine blk_drewN ?_ _|refine blk_drew ?_|refine blk_alloc ?_ _));exact BK347.out)):gb347≠gb348));have n12_:=Aside0.mk ((by rw [hg];exact Nat.ne_of_gt (blk_lt (g:=gb347) (o:=.cells #[.int .i64 a1_0,.int .i64 a1_1,.int .i64 a1_2] 55 (0,0)) (by (with_reducible repeat (first|refine blk_drewN ?_ _|refine blk_drew ?_|refine blk_alloc ?_ _));exact BK347.out)):gb348≠gb347));clear HO0_0 HO0_1 BK346 BK347 HK HB;have HO0_0:=n0_;have HO0_1:=n1_;have BK346:=n2_;have BK347:=n3_;have HK:=n4_;have HB:=n5_;have BK348:=n6_;have GW348:=n7_;have GE348:=n8_;have NB346_348:=n9_;have NB348_346:=n10_;have NB347_348:=n11_;have NB348_347:=n12_;clear n0_ n1_ n2_ n3_ n4_ n5_ n6_ n7_ n8_ n9_ n10_ n11_ n12_;clear hb hbox hg;have hnb47:=NB347_346.out;have hnc47:=NB346_347.out;have hnb48:=NB347_348.out;have hnc48:=NB348_347.out;have hcz49_0:w46.cell? ⟨gb347,0,none⟩=some (.int .i64 a1_0):=(blk_cell BK347.out 0).trans rfl;have hcz49_1:w46.cell? ⟨gb347,1,none⟩=some (.int .i64 a1_1):=(blk_cell BK347.out 1).trans rfl;have hcz49_2:w46.cell? ⟨gb347,2,none⟩=some (.int .i64 a1_2):=(blk_cell BK347.out 2).trans rfl;have hfz49_0:=blk_frozen BK347.out 0;have hfz49_1:=blk_frozen BK347.out 1;have hfz49_2:=blk_frozen BK347.out 2;have hnb50:=NB346_348.out;have hnc50:=NB348_346.out;have hcz51_0:w46.cell? ⟨gb346,0,none⟩=some (.slice Ao42 l0_0.length co42):=(blk_cell BK346.out 0).trans rfl;have hcz51_1:w46.cell? ⟨gb346,1,none⟩=some (.slice Ao43 l0_1.length co43):=(blk_cell BK346.out 1).trans rfl;have hcz51_2:w46.cell? ⟨gb346,2,none⟩=some (.int .i64 a0_2):=(blk_cell BK346.out 2).trans rfl;have hfz51_0:=blk_frozen BK346.out 0;have hfz51_1:=blk_frozen BK346.out 1;have hfz51_2:=blk_frozen BK346.out 2;have hcz52_0:w46.cell? ⟨gb348,0,none⟩=some (.slice none 0 0):=(blk_cell BK348.out 0).trans rfl;have hcz52_1:w46.cell? ⟨gb348,1,none⟩=some (.slice none 0 0):=(blk_cell BK348.out 1).trans rfl;have hcz52_2:w46.cell? ⟨gb348,2,none⟩=some (.int .i64 0):=(blk_cell BK348.out 2).trans rfl;have hfz52_0:=blk_frozen BK348.out 0;have hfz52_1:=blk_frozen BK348.out 1;have hfz52_2:=blk_frozen BK348.out 2))
    refine bodyPost_ret (results_cell_row rfl _ _ gb348 25 #[.slice Ao42 l0_0.length co42,.slice Ao43 l0_1.length co43,.int .i64 ji41] (0,0) _ rfl (by (with_reducible repeat (first|refine blk_drewN ?_ _|refine blk_drew ?_|refine blk_alloc ?_ _));refine blk_put (cs:=#[.slice Ao42 l0_0.length co42,.slice Ao43 l0_1.length co43,.int .i64 0]) ?_ 2 _ rfl;(with_reducible repeat (first|refine blk_drewN ?_ _|refine blk_drew ?_|refine blk_alloc ?_ _));refine blk_put (cs:=#[.slice Ao42 l0_0.length co42,.slice none 0 0,.int .i64 0]) ?_ 1 _ rfl;(with_reducible repeat (first|refine blk_drewN ?_ _|refine blk_drew ?_|refine blk_alloc ?_ _));refine blk_put (cs:=#[.slice none 0 0,.slice none 0 0,.int .i64 0]) ?_ 0 _ rfl;(with_reducible repeat (first|refine blk_drewN ?_ _|refine blk_drew ?_|refine blk_alloc ?_ _));refine blk_far ?_ NB348_346.out _;(with_reducible repeat (first|refine blk_drewN ?_ _|refine blk_drew ?_|refine blk_alloc ?_ _));exact BK348.out) Try.underlying25 rfl (by kernel_rfl)) rfl ?_
    exact ⟨_,_,by first|rfl|(simp [errW_none,errW_some] <;> rfl)|(simp only [← hji41];first|rfl|(simp [errW_none,errW_some] <;> rfl))|(simp [*,errW_none,errW_some] <;> rfl),by (with_reducible repeat (first|apply Kd.R_alloc|apply Kd.R_drewN|apply Kd.R_drew));exact Kd.R_mono (Kd.R_far (p:=⟨gb348,2,none⟩) (Kd.R_far (p:=⟨gb348,1,none⟩) (Kd.R_far (p:=⟨gb348,0,none⟩) (Kd.R_far (p:=⟨gb346,2,none⟩) (Kd.R_types (Kd.R_types HO0_0.out BK346.out (by decide)) BK348.out (by decide)) (fun _ hk=>hk.1.2) (.int .i64 ji41)) (fun _ hk=>hk.2) (.slice Ao42 l0_0.length co42)) (fun _ hk=>hk.2) (.slice Ao43 l0_1.length co43)) (fun _ hk=>hk.2) (.int .i64 ji41)) (fun _ hk=>hk.1.1),by (with_reducible repeat (first|apply Kd.R_alloc|apply Kd.R_drewN|apply Kd.R_drew));exact Kd.R_mono (Kd.R_far (p:=⟨gb348,2,none⟩) (Kd.R_far (p:=⟨gb348,1,none⟩) (Kd.R_far (p:=⟨gb348,0,none⟩) (Kd.R_far (p:=⟨gb346,2,none⟩) (Kd.R_types (Kd.R_types HO0_1.out BK346.out (by decide)) BK348.out (by decide)) (fun _ hk=>hk.1.2) (.int .i64 ji41)) (fun _ hk=>hk.2) (.slice Ao42 l0_0.length co42)) (fun _ hk=>hk.2) (.slice Ao43 l0_1.length co43)) (fun _ hk=>hk.2) (.int .i64 ji41)) (fun _ hk=>hk.1.1),by repeat (first|(with_reducible first|exact HB.out|apply below_alloc|apply pw_below_drewN|apply below_drew1|refine below_set ?_ GE346.out|refine below_set ?_ GE347.out|refine below_set ?_ GE348.out)|exact HB.out),by repeat (first|(with_reducible first|exact HK.out|apply Kept.alloc|apply Kept.drewN|apply Kept.drew|refine Kept.setCell ?_ (.inr GW346.out) _|refine Kept.setCell ?_ (.inr GW347.out) _|refine Kept.setCell ?_ (.inr GW348.out) _)|exact HK.out)⟩
   ·rw [if_neg c40] at H
    have c40b0:(a1_0 == 3)=false:=beq_eq_false_iff_ne.mpr c40
    have c40b1:(a1_0 != 3)=true:=bne_iff_ne.mpr c40
    simp only [Option.some.injEq,Prod.mk.injEq] at H
    obtain ⟨rfl,rfl,rfl⟩:=H
    obtain ⟨Ao53,co53,eo53⟩:=Kd.R_slice HO0_0.out
    subst eo53
    obtain ⟨Ao54,co54,eo54⟩:=Kd.R_slice HO0_1.out
    subst eo54
    go_enter Try.func64,Try.ntmps64
    go_wp2_with (first|((with_reducible refine gate_dst (N:=2) rfl ?_);refine box_event ?hg (N:=2) ?hd (cs:=#[.slice Ao53 l0_0.length co53,.slice Ao54 l0_1.length co54,.int .i64 a0_2]) (t:=25) ?hr ?_;(case hd=>rfl);(case hg=>rfl);(case hr=>first|(go_simp;done)|(go_simp;rfl));intro gb346 hg w55 hbox hb;have n0_:=Aside0.mk (Kd.R_below (by (with_reducible repeat (first|apply Kd.R_alloc|apply Kd.R_drewN|apply Kd.R_drew));exact HO0_0.out) hb);have n1_:=Aside0.mk (Kd.R_below (by (with_reducible repeat (first|apply Kd.R_alloc|apply Kd.R_drewN|apply Kd.R_drew));exact HO0_1.out) hb);have n2_:=Aside0.mk (Kept.below (S:=(fun k_=>P0_0_ k_∨P0_1_ k_)) (by repeat (first|(with_reducible first|exact HK.out|apply Kept.alloc|apply Kept.drewN|apply Kept.drew)|exact HK.out)) hb);have n3_:=Aside0.mk (below_step (by repeat (first|(with_reducible first|exact HB.out|apply below_alloc|apply pw_below_drewN|apply below_drew1)|exact HB.out)) hb);have n4_:=Aside0.mk (hbox);have n5_:=Aside0.mk ((by rw [hg];exact (by first|exact HK.out.1|exact (show Kept w _ (fun k_=>P0_0_ k_∨P0_1_ k_) from by repeat (first|(with_reducible first|exact HK.out|apply Kept.alloc|apply Kept.drewN|apply Kept.drew)|exact HK.out)).1):w.heap.size≤gb346));have n6_:=Aside0.mk ((by rw [hg];exact (below_size (by repeat (first|(with_reducible first|exact HB.out|apply below_alloc|apply pw_below_drewN|apply below_drew1)|exact HB.out))):w0.heap.size≤gb346));clear HO0_0 HO0_1 HK HB;have HO0_0:=n0_;have HO0_1:=n1_;have HK:=n2_;have HB:=n3_;have BK346:=n4_;have GW346:=n5_;have GE346:=n6_;clear n0_ n1_ n2_ n3_ n4_ n5_ n6_;clear hb hbox hg)|((with_reducible refine gate_dst (N:=3) rfl ?_);refine box_event ?hg (N:=3) ?hd (cs:=#[.int .i64 a1_0,.int .i64 a1_1,.int .i64 a1_2]) (t:=55) ?hr ?_;(case hd=>rfl);(case hg=>rfl);(case hr=>first|(go_simp;done)|(go_simp;rfl));intro gb347 hg w56 hbox hb;have n0_:=Aside0.mk (Kd.R_below (by (with_reducible repeat (first|apply Kd.R_alloc|apply Kd.R_drewN|apply Kd.R_drew));exact HO0_0.out) hb);have n1_:=Aside0.mk (Kd.R_below (by (with_reducible repeat (first|apply Kd.R_alloc|apply Kd.R_drewN|apply Kd.R_drew));exact HO0_1.out) hb);have n2_:=Aside0.mk (blk_below (g:=gb346) (o:=.cells #[.slice Ao53 l0_0.length co53,.slice Ao54 l0_1.length co54,.int .i64 a0_2] 25 (0,0)) (by (with_reducible repeat (first|refine blk_drewN ?_ _|refine blk_drew ?_|refine blk_alloc ?_ _));exact BK346.out) hb);have n3_:=Aside0.mk (Kept.below (S:=(fun k_=>P0_0_ k_∨P0_1_ k_)) (by repeat (first|(with_reducible first|exact HK.out|apply Kept.alloc|apply Kept.drewN|apply Kept.drew|refine Kept.setCell ?_ (.inr GW346.out) _)|exact HK.out)) hb);have n4_:=Aside0.mk (below_step (by repeat (first|(with_reducible first|exact HB.out|apply below_alloc|apply pw_below_drewN|apply below_drew1|refine below_set ?_ GE346.out)|exact HB.out)) hb);have n5_:=Aside0.mk (hbox);have n6_:=Aside0.mk ((by rw [hg];exact (by first|exact HK.out.1|exact (show Kept w _ (fun k_=>P0_0_ k_∨P0_1_ k_) from by repeat (first|(with_reducible first|exact HK.out|apply Kept.alloc|apply Kept.drewN|apply Kept.drew|refine Kept.setCell ?_ (.inr GW346.out) _)|exact HK.out)).1):w.heap.size≤gb347));have n7_:=Aside0.mk ((by rw [hg];exact (below_size (by repeat (first|(with_reducible first|exact HB.out|apply below_alloc|apply pw_below_drewN|apply below_drew1|refine below_set ?_ GE346.out)|exact HB.out))):w0.heap.size≤gb347));have n8_:=Aside0.mk ((by rw [hg];exact Nat.ne_of_lt (blk_lt (g:=gb346) (o:=.cells #[.slice Ao53 l0_0.length co53,.slice Ao54 l0_1.length co54,.int .i64 a0_2] 25 (0,0)) (by (with_reducible repeat (first|refine blk_drewN ?_ _|refine blk_drew ?_|refine blk_alloc ?_ _));exact BK346.out)):gb346≠gb347));have n9_:=Aside0.mk ((by rw [hg];exact Nat.ne_of_gt (blk_lt (g:=gb346) (o:=.cells #[.slice Ao53 l0_0.length co53,.slice Ao54 l0_1.length co54,.int .i64 a0_2] 25 (0,0)) (by (with_reducible repeat (first|refine blk_drewN ?_ _|refine blk_drew ?_|refine blk_alloc ?_ _));exact BK346.out)):gb347≠gb346));clear HO0_0 HO0_1 BK346 HK HB;have HO0_0:=n0_;have HO0_1:=n1_;have BK346:=n2_;have HK:=n3_;have HB:=n4_;have BK347:=n5_;have GW347:=n6_;have GE347:=n7_;have NB346_347:=n8_;have NB347_346:=n9_;clear n0_ n1_ n2_ n3_ n4_ n5_ n6_ n7_ n8_ n9_;clear hb hbox hg)|((with_reducible refine gate_dst (N:=4) rfl ?_);refine box_event ?hg (N:=4) ?hd (cs:=#[.slice none 0 0,.slice none 0 0,.int .i64 0]) (t:=25) ?hr ?_;(case hd=>rfl);(case hg=>rfl);(case hr=>first|(go_simp;done)|(go_simp;rfl));intro gb348 hg w57 hbox hb;have n0_:=Aside0.mk (Kd.R_below (by (with_reducible repeat (first|apply Kd.R_alloc|apply Kd.R_drewN|apply Kd.R_drew));exact HO0_0.out) hb);have n1_:=Aside0.mk (Kd.R_below (by (with_reducible repeat (first|apply Kd.R_alloc|apply Kd.R_drewN|apply Kd.R_drew));exact HO0_1.out) hb);have n2_:=Aside0.mk (blk_below (g:=gb346) (o:=.cells #[.slice Ao53 l0_0.length co53,.slice Ao54 l0_1.length co54,.int .i64 a0_2] 25 (0,0)) (by (with_reducible repeat (first|refine blk_drewN ?_ _|refine blk_drew ?_|refine blk_alloc ?_ _));exact BK346.out) hb);have n3_:=Aside0.mk (blk_below (g:=gb347) (o:=.cells #[.int .i64 a1_0,.int .i64 a1_1,.int .i64 a1_2] 55 (0,0)) (by (with_reducible repeat (first|refine blk_drewN ?_ _|refine blk_drew ?_|refine blk_alloc ?_ _));exact BK347.out) hb);have n4_:=Aside0.mk (Kept.below (S:=(fun k_=>P0_0_ k_∨P0_1_ k_)) (by repeat (first|(with_reducible first|exact HK.out|apply Kept.alloc|apply Kept.drewN|apply Kept.drew|refine Kept.setCell ?_ (.inr GW346.out) _|refine Kept.setCell ?_ (.inr GW347.out) _)|exact HK.out)) hb);have n5_:=Aside0.mk (below_step (by repeat (first|(with_reducible first|exact HB.out|apply below_alloc|apply pw_below_drewN|apply below_drew1|refine below_set ?_ GE346.out|refine below_set ?_ GE347.out)|exact HB.out)) hb);have n6_:=Aside0.mk (hbox);have n7_:=Aside0.mk ((by rw [hg];exact (by first|exact HK.out.1|exact (show Kept w _ (fun k_=>P0_0_ k_∨P0_1_ k_) from by repeat (first|(with_reducible first|exact HK.out|apply Kept.alloc|apply Kept.drewN|apply Kept.drew|refine Kept.setCell ?_ (.inr GW346.out) _|refine Kept.setCell ?_ (.inr GW347.out) _)|exact HK.out)).1):w.heap.size≤gb348));have n8_:=Aside0.mk ((by rw [hg];exact (below_size (by repeat (first|(with_reducible first|exact HB.out|apply below_alloc|apply pw_below_drewN|apply below_drew1|refine below_set ?_ GE346.out|refine below_set ?_ GE347.out)|exact HB.out))):w0.heap.size≤gb348));have n9_:=Aside0.mk ((by rw [hg];exact Nat.ne_of_lt (blk_lt (g:=gb346) (o:=.cells #[.slice Ao53 l0_0.length co53,.slice Ao54 l0_1.length co54,.int .i64 a0_2] 25 (0,0)) (by (with_reducible repeat (first|refine blk_drewN ?_ _|refine blk_drew ?_|refine blk_alloc ?_ _));exact BK346.out)):gb346≠gb348));have n10_:=Aside0.mk ((by rw [hg];exact Nat.ne_of_gt (blk_lt (g:=gb346) (o:=.cells #[.slice Ao53 l0_0.length co53,.slice Ao54 l0_1.length co54,.int .i64 a0_2] 25 (0,0)) (by (with_reducible repeat (first|refine blk_drewN ?_ _|refine blk_drew ?_|refine blk_alloc ?_ _));exact BK346.out)):gb348≠gb346));have n11_:=Aside0.mk ((by rw [hg];exact Nat.ne_of_lt (blk_lt (g:=gb347) (o:=.cells #[.int .i64 a1_0,.int .i64 a1_1,.int .i64 a1_2] 55 (0,0)) (by (with_reducible repeat (first|refine blk_drewN ?_ _|refine blk_drew ?_|refine blk_alloc ?_ _));exact BK347.out)):gb347≠gb348));have n12_:=Aside0.mk ((by rw [hg];exact Nat.ne_of_gt (blk_lt (g:=gb347) (o:=.cells #[.int .i64 a1_0,.int .i64 a1_1,.int .i64 a1_2] 55 (0,0)) (by (with_reducible repeat (first|refine blk_drewN ?_ _|refine blk_drew ?_|refine blk_alloc ?_ _));exact BK347.out)):gb348≠gb347));clear HO0_0 HO0_1 BK346 BK347 HK HB;have HO0_0:=n0_;have HO0_1:=n1_;have BK346:=n2_;have BK347:=n3_;have HK:=n4_;have HB:=n5_;have BK348:=n6_;have GW348:=n7_;have GE348:=n8_;have NB346_348:=n9_;have NB348_346:=n10_;have NB347_348:=n11_;have NB348_347:=n12_;clear n0_ n1_ n2_ n3_ n4_ n5_ n6_ n7_ n8_ n9_ n10_ n11_ n12_;clear hb hbox hg;have hnb58:=NB347_346.out;have hnc58:=NB346_347.out;have hnb59:=NB347_348.out;have hnc59:=NB348_347.out;have hcz60_0:w57.cell? ⟨gb347,0,none⟩=some (.int .i64 a1_0):=(blk_cell BK347.out 0).trans rfl;have hcz60_1:w57.cell? ⟨gb347,1,none⟩=some (.int .i64 a1_1):=(blk_cell BK347.out 1).trans rfl;have hcz60_2:w57.cell? ⟨gb347,2,none⟩=some (.int .i64 a1_2):=(blk_cell BK347.out 2).trans rfl;have hfz60_0:=blk_frozen BK347.out 0;have hfz60_1:=blk_frozen BK347.out 1;have hfz60_2:=blk_frozen BK347.out 2;have hnb61:=NB346_348.out;have hnc61:=NB348_346.out;have hcz62_0:w57.cell? ⟨gb346,0,none⟩=some (.slice Ao53 l0_0.length co53):=(blk_cell BK346.out 0).trans rfl;have hcz62_1:w57.cell? ⟨gb346,1,none⟩=some (.slice Ao54 l0_1.length co54):=(blk_cell BK346.out 1).trans rfl;have hcz62_2:w57.cell? ⟨gb346,2,none⟩=some (.int .i64 a0_2):=(blk_cell BK346.out 2).trans rfl;have hfz62_0:=blk_frozen BK346.out 0;have hfz62_1:=blk_frozen BK346.out 1;have hfz62_2:=blk_frozen BK346.out 2;have hcz63_0:w57.cell? ⟨gb348,0,none⟩=some (.slice none 0 0):=(blk_cell BK348.out 0).trans rfl;have hcz63_1:w57.cell? ⟨gb348,1,none⟩=some (.slice none 0 0):=(blk_cell BK348.out 1).trans rfl;have hcz63_2:w57.cell? ⟨gb348,2,none⟩=some (.int .i64 0):=(blk_cell BK348.out 2).trans rfl;have hfz63_0:=blk_frozen BK348.out 0;have hfz63_1:=blk_frozen BK348.out 1;have hfz63_2:=blk_frozen BK348.out 2))
    refine bodyPost_ret (results_cell_row rfl _ _ gb348 25 #[.slice Ao53 l0_0.length co53,.slice Ao54 l0_1.length co54,.int .i64 a0_2] (0,0) _ rfl (by (with_reducible repeat (first|refine blk_drewN ?_ _|refine blk_drew ?_|refine blk_alloc ?_ _));refine blk_put (cs:=#[.slice Ao53 l0_0.length co53,.slice Ao54 l0_1.length co54,.int .i64 0]) ?_ 2 _ rfl;(with_reducible repeat (first|refine blk_drewN ?_ _|refine blk_drew ?_|refine blk_alloc ?_ _));refine blk_put (cs:=#[.slice Ao53 l0_0.length co53,.slice none 0 0,.int .i64 0]) ?_ 1 _ rfl;(with_reducible repeat (first|refine blk_drewN ?_ _|refine blk_drew ?_|refine blk_alloc ?_ _));refine blk_put (cs:=#[.slice none 0 0,.slice none 0 0,.int .i64 0]) ?_ 0 _ rfl;(with_reducible repeat (first|refine blk_drewN ?_ _|refine blk_drew ?_|refine blk_alloc ?_ _));exact BK348.out) Try.underlying25 rfl (by kernel_rfl)) rfl ?_
    exact ⟨_,_,by first|rfl|(simp [errW_none,errW_some] <;> rfl)|(simp [*,errW_none,errW_some] <;> rfl),by (with_reducible repeat (first|apply Kd.R_alloc|apply Kd.R_drewN|apply Kd.R_drew));exact Kd.R_mono (Kd.R_far (p:=⟨gb348,2,none⟩) (Kd.R_far (p:=⟨gb348,1,none⟩) (Kd.R_far (p:=⟨gb348,0,none⟩) (Kd.R_types HO0_0.out BK348.out (by decide)) (fun _ hk=>hk.2) (.slice Ao53 l0_0.length co53)) (fun _ hk=>hk.2) (.slice Ao54 l0_1.length co54)) (fun _ hk=>hk.2) (.int .i64 a0_2)) (fun _ hk=>hk.1),by (with_reducible repeat (first|apply Kd.R_alloc|apply Kd.R_drewN|apply Kd.R_drew));exact Kd.R_mono (Kd.R_far (p:=⟨gb348,2,none⟩) (Kd.R_far (p:=⟨gb348,1,none⟩) (Kd.R_far (p:=⟨gb348,0,none⟩) (Kd.R_types HO0_1.out BK348.out (by decide)) (fun _ hk=>hk.2) (.slice Ao53 l0_0.length co53)) (fun _ hk=>hk.2) (.slice Ao54 l0_1.length co54)) (fun _ hk=>hk.2) (.int .i64 a0_2)) (fun _ hk=>hk.1),by repeat (first|(with_reducible first|exact HB.out|apply below_alloc|apply pw_below_drewN|apply below_drew1|refine below_set ?_ GE346.out|refine below_set ?_ GE347.out|refine below_set ?_ GE348.out)|exact HB.out),by repeat (first|(with_reducible first|exact HK.out|apply Kept.alloc|apply Kept.drewN|apply Kept.drew|refine Kept.setCell ?_ (.inr GW346.out) _|refine Kept.setCell ?_ (.inr GW347.out) _|refine Kept.setCell ?_ (.inr GW348.out) _)|exact HK.out)⟩
end Go.Proofs.Ytkhbmgclklmimaa.Print
end
