/- Texts of the proof of MapReplays, part 17. -/
import Derived.Test.YtkhbmgclklmimaaMapReplaysMA
import Derived.Test.YtkhbmgclklmimaaMapReplaysM14
import Derived.Test.YtkhbmgclklmimaaMapReplaysM15
import Derived.Test.YtkhbmgclklmimaaMapReplaysM16
section
namespace Go.Proofs.Ytkhbmgclklmimaa.Print
open Go.RowKit Go.Proofs.YtkhbmgclklmimaaW.PrintWords Go.Proofs.YtkhbmgclklmimaaW.PrintLast Go.Proofs.YtkhbmgclklmimaaW.PrintMore
attribute [local go_sem] max2_int min2_int max_two min_two max_three min_three max_four min_four   -- for this text's walks alone
attribute [local go_sem ↓] Go.Proofs.Ytkhbmgclklmimaa.Sem.isSome_setCell
attribute [local go_sem] Go.Instr.field Go.asAgg
set_option linter.unusedVariables false
set_option linter.unusedSimpArgs false
mutual
def mapjnl_Replay.l0:Nat → Int → Int → List (S42) → Int → Int → List Bool → List Int → Int → Option (List Bool × List Int × Int × Int × Int)
 | 0,_,_,_,_,_,_,_,_=>none
 | k + 1,x0,x9,x25,x26,x27,x597000,x597001,x597002=>if x27 < x26 then (if 0≤x27 then (if x27 < (x25.length:Int) then ((mapjnl_fits.f k ((rd_T42 x25 x27).f0) ((rd_T42 x25 x27).f1) ((rd_T42 x25 x27).f2) ((rd_T42 x25 x27).f3) ((rd_T42 x25 x27).f4) ((rd_T42 x25 x27).f5) ((rd_T42 x25 x27).f6)).bind fun t599=>(if t599=true then (mapjnl_Replay.l1 k x0 (mx x9 ((rd_T42 x25 x27).f1)) x25 x26 x27 (((rd_T42 x25 x27).f4).length:Int) 0 x597000 x597001 (mx x597002 ((rd_T42 x25 x27).f3)) ((rd_T42 x25 x27).f0) ((rd_T42 x25 x27).f1) ((rd_T42 x25 x27).f2) ((rd_T42 x25 x27).f3) ((rd_T42 x25 x27).f4) ((rd_T42 x25 x27).f5) ((rd_T42 x25 x27).f6)) else (mapjnl_Replay.l0 k x0 x9 x25 x26 (wrap64 (x27 + 1)) x597000 x597001 x597002))) else (none)) else (none)) else (some (x597000,x597001,x597002,x9,0))
def mapjnl_Replay.l1:Nat → Int → Int → List (S42) → Int → Int → Int → Int → List Bool → List Int → Int → Int → Int → Int → Int → List Bool → List Int → List (S55) → Option (List Bool × List Int × Int × Int × Int)
 | 0,_,_,_,_,_,_,_,_,_,_,_,_,_,_,_,_,_=>none
 | k + 1,x0,x9,x25,x26,x27,x46,x47,x597000,x597001,x597002,x599000,x599001,x599002,x599003,x599004,x599005,x599006=>if x47 < x46 then (if (wrap64 ((wrap64 (x599002 * 64)) + x47)) < x0 then (if 0≤(wrap64 ((wrap64 (x599002 * 64)) + x47)) then (if (wrap64 ((wrap64 (x599002 * 64)) + x47)) < (x597000.length:Int) then (if rdOf false x597000 (wrap64 ((wrap64 (x599002 * 64)) + x47))=true then (if (wrap64 ((wrap64 (x599002 * 64)) + x47)) < (x597001.length:Int) then (if 0≤x47 then (if x47 < (x599005.length:Int) then (mapjnl_Replay.l1 k x0 x9 x25 x26 x27 x46 (wrap64 (x47 + 1)) (x597000.set ((wrap64 ((wrap64 (x599002 * 64)) + x47)):Int).toNat true) (x597001.set ((wrap64 ((wrap64 (x599002 * 64)) + x47)):Int).toNat (mx (rd x597001 (wrap64 ((wrap64 (x599002 * 64)) + x47))) (rd x599005 x47))) x597002 x599000 x599001 x599002 x599003 x599004 x599005 x599006) else (none)) else (none)) else (none)) else (if 0≤x47 then (if x47 < (x599004.length:Int) then (if (wrap64 ((wrap64 (x599002 * 64)) + x47)) < (x597001.length:Int) then (if x47 < (x599005.length:Int) then (mapjnl_Replay.l1 k x0 x9 x25 x26 x27 x46 (wrap64 (x47 + 1)) (x597000.set ((wrap64 ((wrap64 (x599002 * 64)) + x47)):Int).toNat (rdOf false x599004 x47)) (x597001.set ((wrap64 ((wrap64 (x599002 * 64)) + x47)):Int).toNat (mx (rd x597001 (wrap64 ((wrap64 (x599002 * 64)) + x47))) (rd x599005 x47))) x597002 x599000 x599001 x599002 x599003 x599004 x599005 x599006) else (none)) else (none)) else (none)) else (none))) else (none)) else (none)) else (mapjnl_Replay.l1 k x0 x9 x25 x26 x27 x46 (wrap64 (x47 + 1)) x597000 x597001 x597002 x599000 x599001 x599002 x599003 x599004 x599005 x599006)) else (mapjnl_Replay.l2 k x0 x9 x25 x26 x27 x599006 (x599006.length:Int) 0 x597000 x597001 x597002)
def mapjnl_Replay.l2:Nat → Int → Int → List (S42) → Int → Int → List (S55) → Int → Int → List Bool → List Int → Int → Option (List Bool × List Int × Int × Int × Int)
 | 0,_,_,_,_,_,_,_,_,_,_,_=>none
 | k + 1,x0,x9,x25,x26,x27,x91,x92,x93,x597000,x597001,x597002=>if x93 < x92 then (if 0≤x93 then (if x93 < (x91.length:Int) then (if ((rd_T55 x91 x93).f1) < x0 then ((mapjnl_learn.f x597000 x597001 x597002 ((rd_T55 x91 x93).f0) ((rd_T55 x91 x93).f1) ((rd_T55 x91 x93).f2)).bind fun bt612=>(mapjnl_Replay.l2 k x0 x9 x25 x26 x27 x91 x92 (wrap64 (x93 + 1)) bt612.1 bt612.2.1 bt612.2.2)) else (mapjnl_Replay.l2 k x0 x9 x25 x26 x27 x91 x92 (wrap64 (x93 + 1)) x597000 x597001 x597002)) else (none)) else (none)) else (mapjnl_Replay.l0 k x0 x9 x25 x26 (wrap64 (x27 + 1)) x597000 x597001 x597002)
end
def mapjnl_Replay.f (k:Nat) (a0:Int) (l1:List (S42)):Option (List Bool × List Int × Int × Int × Int):=(mapjnl_New.f a0).bind fun bt588=>(if bt588.2.2.2=0 then (mapjnl_Replay.l0 k a0 0 l1 (l1.length:Int) 0 bt588.1 bt588.2.1 bt588.2.2.1) else (some (([]:List Bool),([]:List Int),0,0,bt588.2.2.2)))
def mapjnl_Replay.T16:Bool × List (List Nat × List Nat):=(true,[([],[]),([0],[0]),([],[]),([],[]),([3],[3]),([],[]),([4,5],[4,5]),([6],[6]),([7],[7]),([8],[8]),([9,8],[8,9]),([8],[8]),([10,11,8],[8,10,11]),([12,8],[8,12]),([8,13],[8,13]),([1,2,0,1,2,3,4,5,6,7,8,9,10,11,12,13,14],[1,2]),([15,14,8,0,1,2,3,4,5,6,7,8,9,10,11,12,13,14],[14,15])])
def mapjnl_Replay.B16:List Nat:=[0,1,0,0,8,0,56,120,248,504,1016,504,4088,8184,16376,32767,65535]
theorem mapjnl_Replay.tab16:rtab .any (opsOf Try.f39 16)=mapjnl_Replay.T16:=by kernel_rfl
theorem mapjnl_Replay.bits16:waitsOk mapjnl_Replay.T16.2 mapjnl_Replay.B16=true:=by kernel_rfl
def mapjnl_Replay.T17:Bool × List (List Nat × List Nat):=(true,[([],[]),([0],[0]),([],[]),([],[]),([3],[3]),([],[]),([4,5],[4,5]),([6],[6]),([],[]),([8],[8]),([],[]),([9,10],[9,10]),([11],[11]),([7,12],[7,12]),([1,2,0,1,2,3,4,5,6,7,8,9,10,11,12,13],[1,2]),([14,13,0,1,2,3,4,5,6,7,8,9,10,11,12,13],[13,14])])
def mapjnl_Replay.B17:List Nat:=[0,1,0,0,8,0,56,120,0,256,0,1792,3840,8184,16383,32767]
theorem mapjnl_Replay.tab17:rtab .any (opsOf Try.f39 17)=mapjnl_Replay.T17:=by kernel_rfl
theorem mapjnl_Replay.bits17:waitsOk mapjnl_Replay.T17.2 mapjnl_Replay.B17=true:=by kernel_rfl
set_option maxHeartbeats 8000000 in
set_option maxRecDepth 100000 in
theorem mapjnl_Replay.calls (k:Nat) (a0:Int) (A1:Option Addr) (c1:Nat) (l1:List (S42)) (r1:List Bool) (r2:List Int) (r3:Int) (r4:Int) (r5:Int) (w:World) (hr1:Kd.C k42 w A1 l1.length l1) (hc1:l1.length≤c1) (h:mapjnl_Replay.f k a0 l1=some (r1,r2,r3,r4,r5)) :
  Calls Try.prog 39 #[.int .i64 a0,.slice A1 l1.length c1] w fun e w'=>∃ v0_ v1_:Value,e=.returned (.tuple #[.agg #[v0_,v1_,.int .i64 r3],.int .i64 r4,.int .i64 r5])∧Kd.R Kd.bool 4 w' w.heap.size (fun _=>True) v0_ r1∧Kd.R (Kd.int .i64) 2 w' w.heap.size (fun _=>True) v1_ r2∧Below w.heap.size w w':=by
 have hu25:=Try.underlying25
 have hu42:=Try.underlying42
 have hu55:=Try.underlying55
 have HR1:=zm hr1
 have HC1:=zm hc1
 clear hr1 hc1
 have HB:=zm (Below.refl w.heap.size w)
 have H:((mapjnl_New.f a0).bind fun bt588=>(if bt588.2.2.2=0 then (mapjnl_Replay.l0 k a0 0 l1 (l1.length:Int) 0 bt588.1 bt588.2.1 bt588.2.2.1) else (some (([]:List Bool),([]:List Int),0,0,bt588.2.2.2))))=some (r1,r2,r3,r4,r5):=h
 clear h
 replace H:=Option.bind_eq_some_iff.mp H
 obtain ⟨⟨t588,t591,t594,t595⟩,A30,H⟩:=H
 replace H:(if t595=0 then (mapjnl_Replay.l0 k a0 0 l1 (l1.length:Int) 0 t588 t591 t594) else (some (([]:List Bool),([]:List Int),0,0,t595)))=some (r1,r2,r3,r4,r5):=H
 have A3:=zm A30
 clear A30
 by_cases c4:t595=0
 ·rw [if_pos c4] at H
  have c4b0:(t595 == 0)=true:=beq_iff_eq.mpr c4
  have c4b1:(t595 != 0)=false:=bne_eq_false_iff_eq.mpr c4
  clear c4
  have H':=zm H
  clear H
  go_enter Try.func39,Try.ntmps39
  go_wp2_with (first|((with_reducible refine gate_dst (N:=4) rfl ?_);refine box_event ?hg (N:=4) ?hd (cs:=#[.slice none 0 0,.slice none 0 0,.int .i64 0]) (t:=25) ?hr ?_;(case hd=>rfl);(case hg=>rfl);(case hr=>first|(go_simp;done)|(go_simp;rfl));intro gb587 hg w5 hbox hb;have n0_:=zm (below_step (by repeat (first|(with_reducible first|exact HB.out|apply zlA|apply zlN|apply zlD)|exact HB.out)) hb);have n1_:=zm (hbox);have n2_:=zm ((by rw [hg];exact (below_size (by repeat (first|(with_reducible first|exact HB.out|apply zlA|apply zlN|apply zlD)|exact HB.out))):w.heap.size≤gb587));have n3_:=zm ((by rw [hg];exact (below_size (by repeat (first|(with_reducible first|exact HB.out|apply zlA|apply zlN|apply zlD)|exact HB.out))):w.heap.size≤gb587));clear HB;have HB:=n0_;have BK587:=n1_;have GW587:=n2_;have GE587:=n3_;clear n0_ n1_ n2_ n3_;clear hb hbox hg)|((with_reducible refine gate_callee (f:=11) rfl ?_);refine goesL_ (some 18) rfl rfl Try.func11 (by kernel_rfl) rfl #[.int .i64 a0] rfl (by (try simp only [List.map_toArray,List.map_cons,List.map_nil]);first|done|rfl|(simp only [List.length_drop,List.length_take];rfl)) ?_;(with_reducible refine (mapjnl_New.calls a0 t588 t591 t594 t595 _ A3.out).mono ?_);rintro e w6 ⟨v589,v592,rfl,ho0,ho1,hb⟩;refine ⟨_,rfl,?_⟩;have n0_:=zm (Kd.R_lower ho0 (below_size (by repeat (first|(with_reducible first|exact HB.out|apply zlA|apply zlN|apply zlD|refine zlS ?_ GE587.out)|exact HB.out))));have n1_:=zm (Kd.R_lower ho1 (below_size (by repeat (first|(with_reducible first|exact HB.out|apply zlA|apply zlN|apply zlD|refine zlS ?_ GE587.out)|exact HB.out))));have n2_:=zm (zbB (g:=gb587) (o:=.cells #[.slice none 0 0,.slice none 0 0,.int .i64 0] 25 (0,0)) (by (with_reducible repeat (first|refine zbN ?_ _|refine zbD ?_|refine zbA ?_ _));exact BK587.out) hb);have n3_:=zm (below_step (by repeat (first|(with_reducible first|exact HB.out|apply zlA|apply zlN|apply zlD|refine zlS ?_ GE587.out)|exact HB.out)) hb);clear BK587 HB;have HO590:=n0_;have HO593:=n1_;have BK587:=n2_;have HB:=n3_;clear n0_ n1_ n2_ n3_;(try clear hb);(try clear hb2);(try clear hk);(try clear hi);(try clear ho0);(try clear ho1))|((with_reducible refine gate_dst (N:=7) rfl ?_);refine box_event ?hg (N:=7) ?hd (cs:=#[.slice none 0 0,.slice none 0 0,.int .i64 0]) (t:=25) ?hr ?_;(case hd=>rfl);(case hg=>rfl);(case hr=>first|(go_simp;done)|(go_simp;rfl));intro gb596 hg w7 hbox hb;have n0_:=zm (Kd.R_below (by (with_reducible repeat (first|apply zrA|apply zrN|apply zrD));exact HO590.out) hb);have n1_:=zm (Kd.R_below (by (with_reducible repeat (first|apply zrA|apply zrN|apply zrD));exact HO593.out) hb);have n2_:=zm (zbB (g:=gb587) (o:=.cells #[.slice none 0 0,.slice none 0 0,.int .i64 0] 25 (0,0)) (by (with_reducible repeat (first|refine zbN ?_ _|refine zbD ?_|refine zbA ?_ _));exact BK587.out) hb);have n3_:=zm (below_step (by repeat (first|(with_reducible first|exact HB.out|apply zlA|apply zlN|apply zlD|refine zlS ?_ GE587.out)|exact HB.out)) hb);have n4_:=zm (hbox);have n5_:=zm ((by rw [hg];exact (below_size (by repeat (first|(with_reducible first|exact HB.out|apply zlA|apply zlN|apply zlD|refine zlS ?_ GE587.out)|exact HB.out))):w.heap.size≤gb596));have n6_:=zm ((by rw [hg];exact (below_size (by repeat (first|(with_reducible first|exact HB.out|apply zlA|apply zlN|apply zlD|refine zlS ?_ GE587.out)|exact HB.out))):w.heap.size≤gb596));have n7_:=zm ((by rw [hg];exact Nat.ne_of_lt (blk_lt (g:=gb587) (o:=.cells #[.slice none 0 0,.slice none 0 0,.int .i64 0] 25 (0,0)) (by (with_reducible repeat (first|refine zbN ?_ _|refine zbD ?_|refine zbA ?_ _));exact BK587.out)):gb587≠gb596));have n8_:=zm ((by rw [hg];exact Nat.ne_of_gt (blk_lt (g:=gb587) (o:=.cells #[.slice none 0 0,.slice none 0 0,.int .i64 0] 25 (0,0)) (by (with_reducible repeat (first|refine zbN ?_ _|refine zbD ?_|refine zbA ?_ _));exact BK587.out)):gb596≠gb587));clear HO590 HO593 BK587 HB;have HO590:=n0_;have HO593:=n1_;have BK587:=n2_;have HB:=n3_;have BK596:=n4_;have GW596:=n5_;have GE596:=n6_;have NB587_596:=n7_;have NB596_587:=n8_;clear n0_ n1_ n2_ n3_ n4_ n5_ n6_ n7_ n8_;clear hb hbox hg;obtain ⟨Ao8,co8,eo8⟩:=Kd.R_slice HO590.out;subst eo8;have hnb9:=NB596_587.out;have hnc9:=NB587_596.out;have hcz10_0:w7.cell? ⟨gb596,0,none⟩=some (.slice none 0 0):=(blk_cell BK596.out 0).trans rfl;have hcz10_1:w7.cell? ⟨gb596,1,none⟩=some (.slice none 0 0):=(blk_cell BK596.out 1).trans rfl;have hcz10_2:w7.cell? ⟨gb596,2,none⟩=some (.int .i64 0):=(blk_cell BK596.out 2).trans rfl;have hfz10_0:=blk_frozen BK596.out 0;have hfz10_1:=blk_frozen BK596.out 1;have hfz10_2:=blk_frozen BK596.out 2;obtain ⟨Ao11,co11,eo11⟩:=Kd.R_slice HO593.out;subst eo11))
  go_loopg [9,27] k (fun kq v9 v27 w'=>∃ (x9_1:Int) (x27_1:Int) (x597000_1:List Bool) (x597001_1:List Int) (x597002_1:Int) (u597000:Value) (u597001:Value),v9=.int .i64 x9_1∧v27=.int .i64 x27_1∧Aside0 (mapjnl_Replay.l0 kq a0 x9_1 l1 (l1.length:Int) x27_1 x597000_1 x597001_1 x597002_1=some (r1,r2,r3,r4,r5))∧Aside0 (kq≤k)∧Aside0 (Kd.R Kd.bool 4 w' w.heap.size (fun _=>True) u597000 x597000_1)∧Aside0 (Kd.R (Kd.int .i64) 2 w' w.heap.size (fun _=>True) u597001 x597001_1)∧Aside0 (w'.heap[gb587]?=some (.cells #[(.slice none 0 0),(.slice none 0 0),.int .i64 0] 25 (0,0)))∧Aside0 (w'.heap[gb596]?=some (.cells #[u597000,u597001,.int .i64 x597002_1] 25 (0,0)))∧Aside0 (Below w.heap.size w w'))
  case atStart=>exact ⟨(0),(0),(t588),(t591),(t594),(.slice Ao8 t588.length co8),(.slice Ao11 t591.length co11),(by first|rfl|(simp;done)|(simp [*];done)),(by first|rfl|(simp;done)|(simp [*];done)),H',⟨Nat.le_refl _⟩,⟨by (with_reducible repeat (first|apply zrA|apply zrN|apply zrD));exact Kd.R_mono (Kd.R_far (p:=⟨gb596,2,none⟩) (Kd.R_far (p:=⟨gb596,1,none⟩) (Kd.R_far (p:=⟨gb596,0,none⟩) (Kd.R_types HO590.out BK596.out (by decide)) (fun _ hk=>hk.2) (.slice Ao8 t588.length co8)) (fun _ hk=>hk.2) (.slice Ao11 t591.length co11)) (fun _ hk=>hk.2) (.int .i64 t594)) (fun _ hk=>trivial)⟩,⟨by (with_reducible repeat (first|apply zrA|apply zrN|apply zrD));exact Kd.R_mono (Kd.R_far (p:=⟨gb596,2,none⟩) (Kd.R_far (p:=⟨gb596,1,none⟩) (Kd.R_far (p:=⟨gb596,0,none⟩) (Kd.R_types HO593.out BK596.out (by decide)) (fun _ hk=>hk.2) (.slice Ao8 t588.length co8)) (fun _ hk=>hk.2) (.slice Ao11 t591.length co11)) (fun _ hk=>hk.2) (.int .i64 t594)) (fun _ hk=>trivial)⟩,⟨by (with_reducible repeat (first|refine zbN ?_ _|refine zbD ?_|refine zbA ?_ _));refine blk_far ?_ NB587_596.out _;(with_reducible repeat (first|refine zbN ?_ _|refine zbD ?_|refine zbA ?_ _));refine blk_far ?_ NB587_596.out _;(with_reducible repeat (first|refine zbN ?_ _|refine zbD ?_|refine zbA ?_ _));refine blk_far ?_ NB587_596.out _;(with_reducible repeat (first|refine zbN ?_ _|refine zbD ?_|refine zbA ?_ _));exact BK587.out⟩,⟨by (with_reducible repeat (first|refine zbN ?_ _|refine zbD ?_|refine zbA ?_ _));refine blk_put (cs:=#[.slice Ao8 t588.length co8,.slice Ao11 t591.length co11,.int .i64 0]) ?_ 2 _ rfl;(with_reducible repeat (first|refine zbN ?_ _|refine zbD ?_|refine zbA ?_ _));refine blk_put (cs:=#[.slice Ao8 t588.length co8,.slice none 0 0,.int .i64 0]) ?_ 1 _ rfl;(with_reducible repeat (first|refine zbN ?_ _|refine zbD ?_|refine zbA ?_ _));refine blk_put (cs:=#[.slice none 0 0,.slice none 0 0,.int .i64 0]) ?_ 0 _ rfl;(with_reducible repeat (first|refine zbN ?_ _|refine zbD ?_|refine zbA ?_ _));exact BK596.out⟩,⟨by repeat (first|(with_reducible first|exact HB.out|apply zlA|apply zlN|apply zlD|refine zlS ?_ GE587.out|refine zlS ?_ GE596.out)|exact HB.out)⟩⟩
  case round =>
   clear H'
   try clear c1
   try clear p2
   try clear c3
   try clear c4
   try clear c4b0
   try clear c4b1
   try clear c9
   try clear c11
   try clear hcz10_0
   try clear hcz10_1
   try clear hcz10_2
   try clear hfz10_0
   try clear hfz10_1
   try clear hfz10_2
   obtain ⟨x9_1,x27_1,x597000_1,x597001_1,x597002_1,u597000,u597001,rfl,rfl,HA,HK1,HO_597000,HO_597001,BK587,BK596,HB⟩:=hrel
   cases gk with
   | zero=>exact absurd HA.out (by simp [mapjnl_Replay.l0])
   | succ k1 =>
    have H:=HA.out
    clear HA
    simp only [mapjnl_Replay.l0] at H
    by_cases c12:x27_1 < (l1.length:Int)
    ·rw [if_pos c12] at H
     have c12b0:decide (x27_1 < (l1.length:Int))=true:=decide_eq_true c12
     clear c12
     by_cases c13:0≤x27_1
     ·rw [if_pos c13] at H
      have c13b0:decide (0≤x27_1)=true:=decide_eq_true c13
      clear c13
      by_cases c14:x27_1 < (l1.length:Int)
      ·rw [if_pos c14] at H
       have c14b0:decide (x27_1 < (l1.length:Int))=true:=decide_eq_true c14
       clear c14
       replace H:=Option.bind_eq_some_iff.mp H
       obtain ⟨t599,A150,H⟩:=H
       replace H:(if t599=true then (mapjnl_Replay.l1 k1 a0 (mx x9_1 ((rd_T42 l1 x27_1).f1)) l1 (l1.length:Int) x27_1 (((rd_T42 l1 x27_1).f4).length:Int) 0 x597000_1 x597001_1 (mx x597002_1 ((rd_T42 l1 x27_1).f3)) ((rd_T42 l1 x27_1).f0) ((rd_T42 l1 x27_1).f1) ((rd_T42 l1 x27_1).f2) ((rd_T42 l1 x27_1).f3) ((rd_T42 l1 x27_1).f4) ((rd_T42 l1 x27_1).f5) ((rd_T42 l1 x27_1).f6)) else (mapjnl_Replay.l0 k1 a0 x9_1 l1 (l1.length:Int) (wrap64 (x27_1 + 1)) x597000_1 x597001_1 x597002_1))=some (r1,r2,r3,r4,r5):=H
       have A15:=zm A150
       clear A150
       by_cases c16:t599=true
       ·subst c16
        have H1:(mapjnl_Replay.l1 k1 a0 (mx x9_1 ((rd_T42 l1 x27_1).f1)) l1 (l1.length:Int) x27_1 (((rd_T42 l1 x27_1).f4).length:Int) 0 x597000_1 x597001_1 (mx x597002_1 ((rd_T42 l1 x27_1).f3)) ((rd_T42 l1 x27_1).f0) ((rd_T42 l1 x27_1).f1) ((rd_T42 l1 x27_1).f2) ((rd_T42 l1 x27_1).f3) ((rd_T42 l1 x27_1).f4) ((rd_T42 l1 x27_1).f5) ((rd_T42 l1 x27_1).f6))=some (r1,r2,r3,r4,r5):=by rw [if_pos rfl] at H;exact H
        clear H
        have H:=H1
        clear H1
        obtain ⟨ji17,hji17⟩:∃ j_:Int,(mx x9_1 ((rd_T42 l1 x27_1).f1))=j_:=⟨_,rfl⟩
        replace H:(mapjnl_Replay.l1 k1 a0 ji17 l1 (l1.length:Int) x27_1 (((rd_T42 l1 x27_1).f4).length:Int) 0 x597000_1 x597001_1 (mx x597002_1 ((rd_T42 l1 x27_1).f3)) ((rd_T42 l1 x27_1).f0) ((rd_T42 l1 x27_1).f1) ((rd_T42 l1 x27_1).f2) ((rd_T42 l1 x27_1).f3) ((rd_T42 l1 x27_1).f4) ((rd_T42 l1 x27_1).f5) ((rd_T42 l1 x27_1).f6))=some (r1,r2,r3,r4,r5):=by first|(rw [hji17] at H;exact H)|(simp only [hji17] at H ⊢;exact H)
        (try rw [hji17] at A15)
        have hji17_:(if x9_1 < ((rd_T42 l1 x27_1).f1) then ((rd_T42 l1 x27_1).f1) else x9_1)=ji17:=hji17
        obtain ⟨ji18,hji18⟩:∃ j_:Int,(mx x597002_1 ((rd_T42 l1 x27_1).f3))=j_:=⟨_,rfl⟩
        replace H:(mapjnl_Replay.l1 k1 a0 ji17 l1 (l1.length:Int) x27_1 (((rd_T42 l1 x27_1).f4).length:Int) 0 x597000_1 x597001_1 ji18 ((rd_T42 l1 x27_1).f0) ((rd_T42 l1 x27_1).f1) ((rd_T42 l1 x27_1).f2) ((rd_T42 l1 x27_1).f3) ((rd_T42 l1 x27_1).f4) ((rd_T42 l1 x27_1).f5) ((rd_T42 l1 x27_1).f6))=some (r1,r2,r3,r4,r5):=by first|(rw [hji18] at H;exact H)|(simp only [hji18] at H ⊢;exact H)
        (try rw [hji18] at A15)
        have hji18_:(if x597002_1 < ((rd_T42 l1 x27_1).f3) then ((rd_T42 l1 x27_1).f3) else x597002_1)=ji18:=hji18
        have H':=zm H
        clear H
        have p597:0≤(x27_1:Int):=of_decide_eq_true (by first|(with_reducible assumption)|assumption)
        have q597:x27_1 < (l1.length:Int):=of_decide_eq_true (by first|(with_reducible assumption)|assumption)
        obtain ⟨ad597,A597_4,c597_4,A597_5,c597_5,A597_6,c597_6,e597,hx597_0,hx597_1,hx597_2,hx597_3,hx597_4,hx597_5,hx597_6,hl597_4,hi597_4,hl597_5,hi597_5,hl597_6,hi597_6⟩:=at_T42 HR1.out x27_1 p597 q597
        cases e597
        replace hx597_0:=(HB.out.cell (World.block_lt_of_cell? w _ hx597_0)).trans hx597_0
        replace hx597_1:=(HB.out.cell (World.block_lt_of_cell? w _ hx597_1)).trans hx597_1
        replace hx597_2:=(HB.out.cell (World.block_lt_of_cell? w _ hx597_2)).trans hx597_2
        replace hx597_3:=(HB.out.cell (World.block_lt_of_cell? w _ hx597_3)).trans hx597_3
        replace hx597_4:=(HB.out.cell (World.block_lt_of_cell? w _ hx597_4)).trans hx597_4
        replace hx597_5:=(HB.out.cell (World.block_lt_of_cell? w _ hx597_5)).trans hx597_5
        replace hx597_6:=(HB.out.cell (World.block_lt_of_cell? w _ hx597_6)).trans hx597_6
        have HR597_4:=zm hi597_4
        have HC597_4:=zm hl597_4
        clear hi597_4 hl597_4
        have HR597_5:=zm hi597_5
        have HC597_5:=zm hl597_5
        clear hi597_5 hl597_5
        have HR597_6:=zm hi597_6
        have HC597_6:=zm hl597_6
        clear hi597_6 hl597_6
        replace p597:=eq_true p597
        replace q597:=eq_true q597
        go_wp2_with (first|((with_reducible refine gate_dst (N:=11) rfl ?_);refine box_event ?hg (N:=11) ?hd (cs:=#[.int .i64 0,.int .i64 0,.int .i64 0,.int .i64 0,.slice none 0 0,.slice none 0 0,.slice none 0 0]) (t:=42) ?hr ?_;(case hd=>rfl);(case hg=>rfl);(case hr=>first|(go_simp;done)|(go_simp;rfl));intro gb598 hg w19 hbox hb;have n0_:=zm (Kd.R_below (by (with_reducible repeat (first|apply zrA|apply zrN|apply zrD));exact HO_597000.out) hb);have n1_:=zm (Kd.R_below (by (with_reducible repeat (first|apply zrA|apply zrN|apply zrD));exact HO_597001.out) hb);have n2_:=zm (zbB (g:=gb587) (o:=.cells #[.slice none 0 0,.slice none 0 0,.int .i64 0] 25 (0,0)) (by (with_reducible repeat (first|refine zbN ?_ _|refine zbD ?_|refine zbA ?_ _));exact BK587.out) hb);have n3_:=zm (zbB (g:=gb596) (o:=.cells #[u597000,u597001,.int .i64 x597002_1] 25 (0,0)) (by (with_reducible repeat (first|refine zbN ?_ _|refine zbD ?_|refine zbA ?_ _));exact BK596.out) hb);have n4_:=zm (below_step (by repeat (first|(with_reducible first|exact HB.out|apply zlA|apply zlN|apply zlD|refine zlS ?_ GE587.out|refine zlS ?_ GE596.out)|exact HB.out)) hb);have n5_:=zm (hbox);have n6_:=zm ((by rw [hg];exact (below_size (by repeat (first|(with_reducible first|exact HB.out|apply zlA|apply zlN|apply zlD|refine zlS ?_ GE587.out|refine zlS ?_ GE596.out)|exact HB.out))):w.heap.size≤gb598));have n7_:=zm ((by rw [hg];exact (below_size (by repeat (first|(with_reducible first|exact HB.out|apply zlA|apply zlN|apply zlD|refine zlS ?_ GE587.out|refine zlS ?_ GE596.out)|exact HB.out))):w.heap.size≤gb598));have n8_:=zm ((by rw [hg];exact Nat.ne_of_lt (blk_lt (g:=gb587) (o:=.cells #[.slice none 0 0,.slice none 0 0,.int .i64 0] 25 (0,0)) (by (with_reducible repeat (first|refine zbN ?_ _|refine zbD ?_|refine zbA ?_ _));exact BK587.out)):gb587≠gb598));have n9_:=zm ((by rw [hg];exact Nat.ne_of_gt (blk_lt (g:=gb587) (o:=.cells #[.slice none 0 0,.slice none 0 0,.int .i64 0] 25 (0,0)) (by (with_reducible repeat (first|refine zbN ?_ _|refine zbD ?_|refine zbA ?_ _));exact BK587.out)):gb598≠gb587));have n10_:=zm ((by rw [hg];exact Nat.ne_of_lt (blk_lt (g:=gb596) (o:=.cells #[u597000,u597001,.int .i64 x597002_1] 25 (0,0)) (by (with_reducible repeat (first|refine zbN ?_ _|refine zbD ?_|refine zbA ?_ _));exact BK596.out)):gb596≠gb598));have n11_:=zm ((by rw [hg];exact Nat.ne_of_gt (blk_lt (g:=gb596) (o:=.cells #[u597000,u597001,.int .i64 x597002_1] 25 (0,0)) (by (with_reducible repeat (first|refine zbN ?_ _|refine zbD ?_|refine zbA ?_ _));exact BK596.out)):gb598≠gb596));clear HO_597000 HO_597001 BK587 BK596 HB;have HO_597000:=n0_;have HO_597001:=n1_;have BK587:=n2_;have BK596:=n3_;have HB:=n4_;have BK598:=n5_;have GW598:=n6_;have GE598:=n7_;have NB587_598:=n8_;have NB598_587:=n9_;have NB596_598:=n10_;have NB598_596:=n11_;clear n0_ n1_ n2_ n3_ n4_ n5_ n6_ n7_ n8_ n9_ n10_ n11_;clear hb hbox hg;have hnb20:=NB598_587.out;have hnc20:=NB587_598.out;have hnb21:=NB598_596.out;have hnc21:=NB596_598.out;have hcz22_0:w19.cell? ⟨gb598,0,none⟩=some (.int .i64 0):=(blk_cell BK598.out 0).trans rfl;have hcz22_1:w19.cell? ⟨gb598,1,none⟩=some (.int .i64 0):=(blk_cell BK598.out 1).trans rfl;have hcz22_2:w19.cell? ⟨gb598,2,none⟩=some (.int .i64 0):=(blk_cell BK598.out 2).trans rfl;have hcz22_3:w19.cell? ⟨gb598,3,none⟩=some (.int .i64 0):=(blk_cell BK598.out 3).trans rfl;have hcz22_4:w19.cell? ⟨gb598,4,none⟩=some (.slice none 0 0):=(blk_cell BK598.out 4).trans rfl;have hcz22_5:w19.cell? ⟨gb598,5,none⟩=some (.slice none 0 0):=(blk_cell BK598.out 5).trans rfl;have hcz22_6:w19.cell? ⟨gb598,6,none⟩=some (.slice none 0 0):=(blk_cell BK598.out 6).trans rfl;have hfz22_0:=blk_frozen BK598.out 0;have hfz22_1:=blk_frozen BK598.out 1;have hfz22_2:=blk_frozen BK598.out 2;have hfz22_3:=blk_frozen BK598.out 3;have hfz22_4:=blk_frozen BK598.out 4;have hfz22_5:=blk_frozen BK598.out 5;have hfz22_6:=blk_frozen BK598.out 6)|((with_reducible refine gate_callee (f:=72) rfl ?_);refine goesL_ (some 32) rfl rfl Try.func72 (by kernel_rfl) rfl #[.agg #[.int .i64 ((rd_T42 l1 x27_1).f0),.int .i64 ((rd_T42 l1 x27_1).f1),.int .i64 ((rd_T42 l1 x27_1).f2),.int .i64 ((rd_T42 l1 x27_1).f3),.slice A597_4 ((rd_T42 l1 x27_1).f4).length c597_4,.slice A597_5 ((rd_T42 l1 x27_1).f5).length c597_5,.slice A597_6 ((rd_T42 l1 x27_1).f6).length c597_6]] rfl (by (try simp only [List.map_toArray,List.map_cons,List.map_nil]);first|done|rfl|(simp only [List.length_drop,List.length_take];rfl)) ?_;(with_reducible refine (mapjnl_fits.calls k1 ((rd_T42 l1 x27_1).f0) ((rd_T42 l1 x27_1).f1) ((rd_T42 l1 x27_1).f2) ((rd_T42 l1 x27_1).f3) _ _ ((rd_T42 l1 x27_1).f4) _ _ ((rd_T42 l1 x27_1).f5) _ _ ((rd_T42 l1 x27_1).f6) true _ ?side1 ?side2 ?side3 ?side4 ?side5 ?side6 A15.out).mono ?_);(case side1=>exact Kd.C_below HR597_4.out (by repeat (first|(with_reducible first|exact HB.out|apply zlA|apply zlN|apply zlD|refine zlS ?_ GE587.out|refine zlS ?_ GE596.out|refine zlS ?_ GE598.out)|exact HB.out)));(case side2=>exact HC597_4.out);(case side3=>exact Kd.C_below HR597_5.out (by repeat (first|(with_reducible first|exact HB.out|apply zlA|apply zlN|apply zlD|refine zlS ?_ GE587.out|refine zlS ?_ GE596.out|refine zlS ?_ GE598.out)|exact HB.out)));(case side4=>exact HC597_5.out);(case side5=>exact Kd.C_below HR597_6.out (by repeat (first|(with_reducible first|exact HB.out|apply zlA|apply zlN|apply zlD|refine zlS ?_ GE587.out|refine zlS ?_ GE596.out|refine zlS ?_ GE598.out)|exact HB.out)));(case side6=>exact HC597_6.out);rintro e w23 ⟨rfl,hb⟩;refine ⟨_,rfl,?_⟩;have n0_:=zm (Kd.R_below (by (with_reducible repeat (first|apply zrA|apply zrN|apply zrD));exact (Kd.R_mono (Kd.R_far (p:=⟨gb598,6,none⟩) (Kd.R_far (p:=⟨gb598,5,none⟩) (Kd.R_far (p:=⟨gb598,4,none⟩) (Kd.R_far (p:=⟨gb598,3,none⟩) (Kd.R_far (p:=⟨gb598,2,none⟩) (Kd.R_far (p:=⟨gb598,1,none⟩) (Kd.R_far (p:=⟨gb598,0,none⟩) (Kd.R_types HO_597000.out BK598.out (by decide)) (fun _ hk=>hk.2) (.int .i64 ((rd_T42 l1 x27_1).f0))) (fun _ hk=>hk.2) (.int .i64 ((rd_T42 l1 x27_1).f1))) (fun _ hk=>hk.2) (.int .i64 ((rd_T42 l1 x27_1).f2))) (fun _ hk=>hk.2) (.int .i64 ((rd_T42 l1 x27_1).f3))) (fun _ hk=>hk.2) (.slice A597_4 ((rd_T42 l1 x27_1).f4).length c597_4)) (fun _ hk=>hk.2) (.slice A597_5 ((rd_T42 l1 x27_1).f5).length c597_5)) (fun _ hk=>hk.2) (.slice A597_6 ((rd_T42 l1 x27_1).f6).length c597_6)) (fun _ h_=>h_.1))) hb);have n1_:=zm (Kd.R_below (by (with_reducible repeat (first|apply zrA|apply zrN|apply zrD));exact (Kd.R_mono (Kd.R_far (p:=⟨gb598,6,none⟩) (Kd.R_far (p:=⟨gb598,5,none⟩) (Kd.R_far (p:=⟨gb598,4,none⟩) (Kd.R_far (p:=⟨gb598,3,none⟩) (Kd.R_far (p:=⟨gb598,2,none⟩) (Kd.R_far (p:=⟨gb598,1,none⟩) (Kd.R_far (p:=⟨gb598,0,none⟩) (Kd.R_types HO_597001.out BK598.out (by decide)) (fun _ hk=>hk.2) (.int .i64 ((rd_T42 l1 x27_1).f0))) (fun _ hk=>hk.2) (.int .i64 ((rd_T42 l1 x27_1).f1))) (fun _ hk=>hk.2) (.int .i64 ((rd_T42 l1 x27_1).f2))) (fun _ hk=>hk.2) (.int .i64 ((rd_T42 l1 x27_1).f3))) (fun _ hk=>hk.2) (.slice A597_4 ((rd_T42 l1 x27_1).f4).length c597_4)) (fun _ hk=>hk.2) (.slice A597_5 ((rd_T42 l1 x27_1).f5).length c597_5)) (fun _ hk=>hk.2) (.slice A597_6 ((rd_T42 l1 x27_1).f6).length c597_6)) (fun _ h_=>h_.1))) hb);have n2_:=zm (zbB (g:=gb587) (o:=.cells #[.slice none 0 0,.slice none 0 0,.int .i64 0] 25 (0,0)) (by (with_reducible repeat (first|refine zbN ?_ _|refine zbD ?_|refine zbA ?_ _));refine blk_far ?_ NB587_598.out _;(with_reducible repeat (first|refine zbN ?_ _|refine zbD ?_|refine zbA ?_ _));refine blk_far ?_ NB587_598.out _;(with_reducible repeat (first|refine zbN ?_ _|refine zbD ?_|refine zbA ?_ _));refine blk_far ?_ NB587_598.out _;(with_reducible repeat (first|refine zbN ?_ _|refine zbD ?_|refine zbA ?_ _));refine blk_far ?_ NB587_598.out _;(with_reducible repeat (first|refine zbN ?_ _|refine zbD ?_|refine zbA ?_ _));refine blk_far ?_ NB587_598.out _;(with_reducible repeat (first|refine zbN ?_ _|refine zbD ?_|refine zbA ?_ _));refine blk_far ?_ NB587_598.out _;(with_reducible repeat (first|refine zbN ?_ _|refine zbD ?_|refine zbA ?_ _));refine blk_far ?_ NB587_598.out _;(with_reducible repeat (first|refine zbN ?_ _|refine zbD ?_|refine zbA ?_ _));exact BK587.out) hb);have n3_:=zm (zbB (g:=gb596) (o:=.cells #[u597000,u597001,.int .i64 x597002_1] 25 (0,0)) (by (with_reducible repeat (first|refine zbN ?_ _|refine zbD ?_|refine zbA ?_ _));refine blk_far ?_ NB596_598.out _;(with_reducible repeat (first|refine zbN ?_ _|refine zbD ?_|refine zbA ?_ _));refine blk_far ?_ NB596_598.out _;(with_reducible repeat (first|refine zbN ?_ _|refine zbD ?_|refine zbA ?_ _));refine blk_far ?_ NB596_598.out _;(with_reducible repeat (first|refine zbN ?_ _|refine zbD ?_|refine zbA ?_ _));refine blk_far ?_ NB596_598.out _;(with_reducible repeat (first|refine zbN ?_ _|refine zbD ?_|refine zbA ?_ _));refine blk_far ?_ NB596_598.out _;(with_reducible repeat (first|refine zbN ?_ _|refine zbD ?_|refine zbA ?_ _));refine blk_far ?_ NB596_598.out _;(with_reducible repeat (first|refine zbN ?_ _|refine zbD ?_|refine zbA ?_ _));refine blk_far ?_ NB596_598.out _;(with_reducible repeat (first|refine zbN ?_ _|refine zbD ?_|refine zbA ?_ _));exact BK596.out) hb);have n4_:=zm (zbB (g:=gb598) (o:=.cells #[.int .i64 ((rd_T42 l1 x27_1).f0),.int .i64 ((rd_T42 l1 x27_1).f1),.int .i64 ((rd_T42 l1 x27_1).f2),.int .i64 ((rd_T42 l1 x27_1).f3),.slice A597_4 ((rd_T42 l1 x27_1).f4).length c597_4,.slice A597_5 ((rd_T42 l1 x27_1).f5).length c597_5,.slice A597_6 ((rd_T42 l1 x27_1).f6).length c597_6] 42 (0,0)) (by (with_reducible repeat (first|refine zbN ?_ _|refine zbD ?_|refine zbA ?_ _));refine blk_put (cs:=#[.int .i64 ((rd_T42 l1 x27_1).f0),.int .i64 ((rd_T42 l1 x27_1).f1),.int .i64 ((rd_T42 l1 x27_1).f2),.int .i64 ((rd_T42 l1 x27_1).f3),.slice A597_4 ((rd_T42 l1 x27_1).f4).length c597_4,.slice A597_5 ((rd_T42 l1 x27_1).f5).length c597_5,.slice none 0 0]) ?_ 6 _ rfl;(with_reducible repeat (first|refine zbN ?_ _|refine zbD ?_|refine zbA ?_ _));refine blk_put (cs:=#[.int .i64 ((rd_T42 l1 x27_1).f0),.int .i64 ((rd_T42 l1 x27_1).f1),.int .i64 ((rd_T42 l1 x27_1).f2),.int .i64 ((rd_T42 l1 x27_1).f3),.slice A597_4 ((rd_T42 l1 x27_1).f4).length c597_4,.slice none 0 0,.slice none 0 0]) ?_ 5 _ rfl;(with_reducible repeat (first|refine zbN ?_ _|refine zbD ?_|refine zbA ?_ _));refine blk_put (cs:=#[.int .i64 ((rd_T42 l1 x27_1).f0),.int .i64 ((rd_T42 l1 x27_1).f1),.int .i64 ((rd_T42 l1 x27_1).f2),.int .i64 ((rd_T42 l1 x27_1).f3),.slice none 0 0,.slice none 0 0,.slice none 0 0]) ?_ 4 _ rfl;(with_reducible repeat (first|refine zbN ?_ _|refine zbD ?_|refine zbA ?_ _));refine blk_put (cs:=#[.int .i64 ((rd_T42 l1 x27_1).f0),.int .i64 ((rd_T42 l1 x27_1).f1),.int .i64 ((rd_T42 l1 x27_1).f2),.int .i64 0,.slice none 0 0,.slice none 0 0,.slice none 0 0]) ?_ 3 _ rfl;(with_reducible repeat (first|refine zbN ?_ _|refine zbD ?_|refine zbA ?_ _));refine blk_put (cs:=#[.int .i64 ((rd_T42 l1 x27_1).f0),.int .i64 ((rd_T42 l1 x27_1).f1),.int .i64 0,.int .i64 0,.slice none 0 0,.slice none 0 0,.slice none 0 0]) ?_ 2 _ rfl;(with_reducible repeat (first|refine zbN ?_ _|refine zbD ?_|refine zbA ?_ _));refine blk_put (cs:=#[.int .i64 ((rd_T42 l1 x27_1).f0),.int .i64 0,.int .i64 0,.int .i64 0,.slice none 0 0,.slice none 0 0,.slice none 0 0]) ?_ 1 _ rfl;(with_reducible repeat (first|refine zbN ?_ _|refine zbD ?_|refine zbA ?_ _));refine blk_put (cs:=#[.int .i64 0,.int .i64 0,.int .i64 0,.int .i64 0,.slice none 0 0,.slice none 0 0,.slice none 0 0]) ?_ 0 _ rfl;(with_reducible repeat (first|refine zbN ?_ _|refine zbD ?_|refine zbA ?_ _));exact BK598.out) hb);have n5_:=zm (below_step (by repeat (first|(with_reducible first|exact HB.out|apply zlA|apply zlN|apply zlD|refine zlS ?_ GE587.out|refine zlS ?_ GE596.out|refine zlS ?_ GE598.out)|exact HB.out)) hb);clear HO_597000 HO_597001 BK587 BK596 BK598 HB;have HO_597000:=n0_;have HO_597001:=n1_;have BK587:=n2_;have BK596:=n3_;have BK598:=n4_;have HB:=n5_;clear n0_ n1_ n2_ n3_ n4_ n5_;(try clear hb);(try clear hb2);(try clear hk);(try clear hi);have hcz24_0:w23.cell? ⟨gb598,0,none⟩=some (.int .i64 ((rd_T42 l1 x27_1).f0)):=(blk_cell BK598.out 0).trans rfl;have hcz24_1:w23.cell? ⟨gb598,1,none⟩=some (.int .i64 ((rd_T42 l1 x27_1).f1)):=(blk_cell BK598.out 1).trans rfl;have hcz24_2:w23.cell? ⟨gb598,2,none⟩=some (.int .i64 ((rd_T42 l1 x27_1).f2)):=(blk_cell BK598.out 2).trans rfl;have hcz24_3:w23.cell? ⟨gb598,3,none⟩=some (.int .i64 ((rd_T42 l1 x27_1).f3)):=(blk_cell BK598.out 3).trans rfl;have hcz24_4:w23.cell? ⟨gb598,4,none⟩=some (.slice A597_4 ((rd_T42 l1 x27_1).f4).length c597_4):=(blk_cell BK598.out 4).trans rfl;have hcz24_5:w23.cell? ⟨gb598,5,none⟩=some (.slice A597_5 ((rd_T42 l1 x27_1).f5).length c597_5):=(blk_cell BK598.out 5).trans rfl;have hcz24_6:w23.cell? ⟨gb598,6,none⟩=some (.slice A597_6 ((rd_T42 l1 x27_1).f6).length c597_6):=(blk_cell BK598.out 6).trans rfl;have hfz24_0:=blk_frozen BK598.out 0;have hfz24_1:=blk_frozen BK598.out 1;have hfz24_2:=blk_frozen BK598.out 2;have hfz24_3:=blk_frozen BK598.out 3;have hfz24_4:=blk_frozen BK598.out 4;have hfz24_5:=blk_frozen BK598.out 5;have hfz24_6:=blk_frozen BK598.out 6;have hnb25:=NB596_587.out;have hnc25:=NB587_596.out;have hcz26_0:w23.cell? ⟨gb596,0,none⟩=some (u597000):=(blk_cell BK596.out 0).trans rfl;have hcz26_1:w23.cell? ⟨gb596,1,none⟩=some (u597001):=(blk_cell BK596.out 1).trans rfl;have hcz26_2:w23.cell? ⟨gb596,2,none⟩=some (.int .i64 x597002_1):=(blk_cell BK596.out 2).trans rfl;have hfz26_0:=blk_frozen BK596.out 0;have hfz26_1:=blk_frozen BK596.out 1;have hfz26_2:=blk_frozen BK596.out 2))
        go_loopg [47] k1 (fun kq v47 w'=>∃ (x47_2:Int) (x597000_2:List Bool) (x597001_2:List Int) (u597000:Value) (u597001:Value),v47=.int .i64 x47_2∧Aside0 (mapjnl_Replay.l1 kq a0 ji17 l1 (l1.length:Int) x27_1 (((rd_T42 l1 x27_1).f4).length:Int) x47_2 x597000_2 x597001_2 ji18 ((rd_T42 l1 x27_1).f0) ((rd_T42 l1 x27_1).f1) ((rd_T42 l1 x27_1).f2) ((rd_T42 l1 x27_1).f3) ((rd_T42 l1 x27_1).f4) ((rd_T42 l1 x27_1).f5) ((rd_T42 l1 x27_1).f6)=some (r1,r2,r3,r4,r5))∧Aside0 (kq≤k1)∧Aside0 (Kd.R Kd.bool 4 w' w.heap.size (fun _=>True) u597000 x597000_2)∧Aside0 (Kd.R (Kd.int .i64) 2 w' w.heap.size (fun _=>True) u597001 x597001_2)∧Aside0 (w'.heap[gb587]?=some (.cells #[(.slice none 0 0),(.slice none 0 0),.int .i64 0] 25 (0,0)))∧Aside0 (w'.heap[gb596]?=some (.cells #[u597000,u597001,.int .i64 ji18] 25 (0,0)))∧Aside0 (w'.heap[gb598]?=some (.cells #[.int .i64 ((rd_T42 l1 x27_1).f0),.int .i64 ((rd_T42 l1 x27_1).f1),.int .i64 ((rd_T42 l1 x27_1).f2),.int .i64 ((rd_T42 l1 x27_1).f3),(.slice A597_4 ((rd_T42 l1 x27_1).f4).length c597_4),(.slice A597_5 ((rd_T42 l1 x27_1).f5).length c597_5),(.slice A597_6 ((rd_T42 l1 x27_1).f6).length c597_6)] 42 (0,0)))∧Aside0 (Below w.heap.size w w'))
        case atStart=>exact ⟨(0),(x597000_1),(x597001_1),(u597000),(u597001),(by first|rfl|(simp;done)|(simp [*];done)),H',⟨Nat.le_refl _⟩,⟨by (with_reducible repeat (first|apply zrA|apply zrN|apply zrD));exact Kd.R_mono (Kd.R_far (p:=⟨gb596,2,none⟩) (Kd.R_types HO_597000.out BK596.out (by decide)) (fun _ hk=>hk.2) (.int .i64 ji18)) (fun _ hk=>trivial)⟩,⟨by (with_reducible repeat (first|apply zrA|apply zrN|apply zrD));exact Kd.R_mono (Kd.R_far (p:=⟨gb596,2,none⟩) (Kd.R_types HO_597001.out BK596.out (by decide)) (fun _ hk=>hk.2) (.int .i64 ji18)) (fun _ hk=>trivial)⟩,⟨by (with_reducible repeat (first|refine zbN ?_ _|refine zbD ?_|refine zbA ?_ _));refine blk_far ?_ NB587_596.out _;(with_reducible repeat (first|refine zbN ?_ _|refine zbD ?_|refine zbA ?_ _));exact BK587.out⟩,⟨by (with_reducible repeat (first|refine zbN ?_ _|refine zbD ?_|refine zbA ?_ _));refine blk_put (cs:=#[u597000,u597001,.int .i64 x597002_1]) ?_ 2 _ rfl;(with_reducible repeat (first|refine zbN ?_ _|refine zbD ?_|refine zbA ?_ _));exact BK596.out⟩,⟨by (with_reducible repeat (first|refine zbN ?_ _|refine zbD ?_|refine zbA ?_ _));refine blk_far ?_ NB598_596.out _;(with_reducible repeat (first|refine zbN ?_ _|refine zbD ?_|refine zbA ?_ _));exact BK598.out⟩,⟨by repeat (first|(with_reducible first|exact HB.out|apply zlA|apply zlN|apply zlD|refine zlS ?_ GE587.out|refine zlS ?_ GE596.out|refine zlS ?_ GE598.out)|exact HB.out)⟩⟩
        case round =>
         clear H'
         try clear c1
         try clear c2
         try clear p2
         try clear c3
         try clear c4
         try clear c4b0
         try clear c4b1
         try clear c5
         try clear p5
         try clear q5
         try clear hx5
         try clear p6
         try clear c7
         try clear c9
         try clear c11
         try clear c12
         try clear c12b0
         try clear c13
         try clear c13b0
         try clear c14
         try clear c14b0
         try clear c16
         try clear c20
         try clear c21
         try clear c25
         try clear hcz10_0
         try clear hcz10_1
         try clear hcz10_2
         try clear hcz22_0
         try clear hcz22_1
         try clear hcz22_2
         try clear hcz22_3
         try clear hcz22_4
         try clear hcz22_5
         try clear hcz22_6
         try clear hcz24_0
         try clear hcz24_1
         try clear hcz24_2
         try clear hcz24_3
         try clear hcz24_4
         try clear hcz24_5
         try clear hcz24_6
         try clear hcz26_0
         try clear hcz26_1
         try clear hcz26_2
         try clear hfz10_0
         try clear hfz10_1
         try clear hfz10_2
         try clear hfz22_0
         try clear hfz22_1
         try clear hfz22_2
         try clear hfz22_3
         try clear hfz22_4
         try clear hfz22_5
         try clear hfz22_6
         try clear hfz24_0
         try clear hfz24_1
         try clear hfz24_2
         try clear hfz24_3
         try clear hfz24_4
         try clear hfz24_5
         try clear hfz24_6
         try clear hfz26_0
         try clear hfz26_1
         try clear hfz26_2
         try clear hx597_0
         try clear hx597_1
         try clear hx597_2
         try clear hx597_3
         try clear hx597_4
         try clear hx597_5
         try clear hx597_6
         try clear p2
         try clear p597
         try clear q597
         obtain ⟨x47_2,x597000_2,x597001_2,u597000,u597001,rfl,HA,HK2,HO_597000,HO_597001,BK587,BK596,BK598,HB⟩:=hrel
         cases gk with
         | zero=>exact absurd HA.out (by simp [mapjnl_Replay.l1])
         | succ k2 =>
          have H:=HA.out
          clear HA
          simp only [mapjnl_Replay.l1] at H
          by_cases c27:x47_2 < (((rd_T42 l1 x27_1).f4).length:Int)
          ·rw [if_pos c27] at H
           have c27b0:decide (x47_2 < (((rd_T42 l1 x27_1).f4).length:Int))=true:=decide_eq_true c27
           clear c27
           by_cases c28:(wrap64 ((wrap64 (((rd_T42 l1 x27_1).f2) * 64)) + x47_2)) < a0
           ·rw [if_pos c28] at H
            have c28b0:decide ((wrap64 ((wrap64 (((rd_T42 l1 x27_1).f2) * 64)) + x47_2)) < a0)=true:=decide_eq_true c28
            clear c28
            obtain ⟨ji29,hji29⟩:∃ j_:Int,(wrap64 ((wrap64 (((rd_T42 l1 x27_1).f2) * 64)) + x47_2))=j_:=⟨_,rfl⟩
            replace H:(if 0≤(ji29) then (if (ji29) < (x597000_2.length:Int) then (if rdOf false x597000_2 (ji29)=true then (if (ji29) < (x597001_2.length:Int) then (if 0≤x47_2 then (if x47_2 < (((rd_T42 l1 x27_1).f5).length:Int) then (mapjnl_Replay.l1 k2 a0 ji17 l1 (l1.length:Int) x27_1 (((rd_T42 l1 x27_1).f4).length:Int) (wrap64 (x47_2 + 1)) (x597000_2.set ((ji29):Int).toNat true) (x597001_2.set ((ji29):Int).toNat (mx (rd x597001_2 (ji29)) (rd ((rd_T42 l1 x27_1).f5) x47_2))) ji18 ((rd_T42 l1 x27_1).f0) ((rd_T42 l1 x27_1).f1) ((rd_T42 l1 x27_1).f2) ((rd_T42 l1 x27_1).f3) ((rd_T42 l1 x27_1).f4) ((rd_T42 l1 x27_1).f5) ((rd_T42 l1 x27_1).f6)) else (none)) else (none)) else (none)) else (if 0≤x47_2 then (if x47_2 < (((rd_T42 l1 x27_1).f4).length:Int) then (if (ji29) < (x597001_2.length:Int) then (if x47_2 < (((rd_T42 l1 x27_1).f5).length:Int) then (mapjnl_Replay.l1 k2 a0 ji17 l1 (l1.length:Int) x27_1 (((rd_T42 l1 x27_1).f4).length:Int) (wrap64 (x47_2 + 1)) (x597000_2.set ((ji29):Int).toNat (rdOf false ((rd_T42 l1 x27_1).f4) x47_2)) (x597001_2.set ((ji29):Int).toNat (mx (rd x597001_2 (ji29)) (rd ((rd_T42 l1 x27_1).f5) x47_2))) ji18 ((rd_T42 l1 x27_1).f0) ((rd_T42 l1 x27_1).f1) ((rd_T42 l1 x27_1).f2) ((rd_T42 l1 x27_1).f3) ((rd_T42 l1 x27_1).f4) ((rd_T42 l1 x27_1).f5) ((rd_T42 l1 x27_1).f6)) else (none)) else (none)) else (none)) else (none))) else (none)) else (none))=some (r1,r2,r3,r4,r5):=by first|(rw [hji29] at H;exact H)|(simp only [hji29] at H ⊢;exact H)
            (try rw [hji29] at c28b0)
            have hji29w:(IntKind.i64.wrap ((wrap64 (((rd_T42 l1 x27_1).f2) * 64)) + x47_2))=ji29:=(i64_w _).trans hji29
            by_cases c30:0≤(ji29)
            ·rw [if_pos c30] at H
             have c30b0:decide (0≤(ji29))=true:=decide_eq_true c30
             clear c30
             by_cases c31:(ji29) < (x597000_2.length:Int)
             ·rw [if_pos c31] at H
              have c31b0:decide ((ji29) < (x597000_2.length:Int))=true:=decide_eq_true c31
              clear c31
              obtain ⟨bq32,hbq32⟩:∃ b_:Bool,b_=(rdOf false x597000_2 (ji29)):=⟨_,rfl⟩
              replace H:(if bq32=true then (if (ji29) < (x597001_2.length:Int) then (if 0≤x47_2 then (if x47_2 < (((rd_T42 l1 x27_1).f5).length:Int) then (mapjnl_Replay.l1 k2 a0 ji17 l1 (l1.length:Int) x27_1 (((rd_T42 l1 x27_1).f4).length:Int) (wrap64 (x47_2 + 1)) (x597000_2.set ((ji29):Int).toNat true) (x597001_2.set ((ji29):Int).toNat (mx (rd x597001_2 (ji29)) (rd ((rd_T42 l1 x27_1).f5) x47_2))) ji18 ((rd_T42 l1 x27_1).f0) ((rd_T42 l1 x27_1).f1) ((rd_T42 l1 x27_1).f2) ((rd_T42 l1 x27_1).f3) ((rd_T42 l1 x27_1).f4) ((rd_T42 l1 x27_1).f5) ((rd_T42 l1 x27_1).f6)) else (none)) else (none)) else (none)) else (if 0≤x47_2 then (if x47_2 < (((rd_T42 l1 x27_1).f4).length:Int) then (if (ji29) < (x597001_2.length:Int) then (if x47_2 < (((rd_T42 l1 x27_1).f5).length:Int) then (mapjnl_Replay.l1 k2 a0 ji17 l1 (l1.length:Int) x27_1 (((rd_T42 l1 x27_1).f4).length:Int) (wrap64 (x47_2 + 1)) (x597000_2.set ((ji29):Int).toNat (rdOf false ((rd_T42 l1 x27_1).f4) x47_2)) (x597001_2.set ((ji29):Int).toNat (mx (rd x597001_2 (ji29)) (rd ((rd_T42 l1 x27_1).f5) x47_2))) ji18 ((rd_T42 l1 x27_1).f0) ((rd_T42 l1 x27_1).f1) ((rd_T42 l1 x27_1).f2) ((rd_T42 l1 x27_1).f3) ((rd_T42 l1 x27_1).f4) ((rd_T42 l1 x27_1).f5) ((rd_T42 l1 x27_1).f6)) else (none)) else (none)) else (none)) else (none)))=some (r1,r2,r3,r4,r5):=by rw [← hbq32] at H;exact H
              have Nbq32:=zm hbq32
              clear hbq32
              by_cases c33:bq32=true
              ·subst c33
               have H1:(if (ji29) < (x597001_2.length:Int) then (if 0≤x47_2 then (if x47_2 < (((rd_T42 l1 x27_1).f5).length:Int) then (mapjnl_Replay.l1 k2 a0 ji17 l1 (l1.length:Int) x27_1 (((rd_T42 l1 x27_1).f4).length:Int) (wrap64 (x47_2 + 1)) (x597000_2.set ((ji29):Int).toNat true) (x597001_2.set ((ji29):Int).toNat (mx (rd x597001_2 (ji29)) (rd ((rd_T42 l1 x27_1).f5) x47_2))) ji18 ((rd_T42 l1 x27_1).f0) ((rd_T42 l1 x27_1).f1) ((rd_T42 l1 x27_1).f2) ((rd_T42 l1 x27_1).f3) ((rd_T42 l1 x27_1).f4) ((rd_T42 l1 x27_1).f5) ((rd_T42 l1 x27_1).f6)) else (none)) else (none)) else (none))=some (r1,r2,r3,r4,r5):=by rw [if_pos rfl] at H;exact H
               clear H
               have H:=H1
               clear H1
               obtain ⟨y601,hy601⟩:∃ y_:List Bool,y_=(x597000_2.set ((ji29):Int).toNat true):=⟨_,rfl⟩
               replace H:(if (ji29) < (x597001_2.length:Int) then (if 0≤x47_2 then (if x47_2 < (((rd_T42 l1 x27_1).f5).length:Int) then (mapjnl_Replay.l1 k2 a0 ji17 l1 (l1.length:Int) x27_1 (((rd_T42 l1 x27_1).f4).length:Int) (wrap64 (x47_2 + 1)) y601 (x597001_2.set ((ji29):Int).toNat (mx (rd x597001_2 (ji29)) (rd ((rd_T42 l1 x27_1).f5) x47_2))) ji18 ((rd_T42 l1 x27_1).f0) ((rd_T42 l1 x27_1).f1) ((rd_T42 l1 x27_1).f2) ((rd_T42 l1 x27_1).f3) ((rd_T42 l1 x27_1).f4) ((rd_T42 l1 x27_1).f5) ((rd_T42 l1 x27_1).f6)) else (none)) else (none)) else (none))=some (r1,r2,r3,r4,r5):=by first|(rw [hy601];with_reducible exact H)|(have H2_:=(Option.bind_some _ _).symm.trans H;rw [hy601];with_reducible exact H2_)|(have H2_:=(Option.bind_some _ _).symm.trans H;with_reducible exact H2_)|with_reducible exact H|(rw [hy601];exact H)|exact H
               have Ny601:=zm hy601
               clear hy601
               by_cases c35:(ji29) < (x597001_2.length:Int)
               ·rw [if_pos c35] at H
                have c35b0:decide ((ji29) < (x597001_2.length:Int))=true:=decide_eq_true c35
                clear c35
                by_cases c36:0≤x47_2
                ·rw [if_pos c36] at H
                 have c36b0:decide (0≤x47_2)=true:=decide_eq_true c36
                 clear c36
                 by_cases c37:x47_2 < (((rd_T42 l1 x27_1).f5).length:Int)
                 ·rw [if_pos c37] at H
                  have c37b0:decide (x47_2 < (((rd_T42 l1 x27_1).f5).length:Int))=true:=decide_eq_true c37
                  clear c37
                  obtain ⟨ji38,hji38⟩:∃ j_:Int,(mx (rd x597001_2 (ji29)) (rd ((rd_T42 l1 x27_1).f5) x47_2))=j_:=⟨_,rfl⟩
                  replace H:(mapjnl_Replay.l1 k2 a0 ji17 l1 (l1.length:Int) x27_1 (((rd_T42 l1 x27_1).f4).length:Int) (wrap64 (x47_2 + 1)) y601 (x597001_2.set ((ji29):Int).toNat (ji38)) ji18 ((rd_T42 l1 x27_1).f0) ((rd_T42 l1 x27_1).f1) ((rd_T42 l1 x27_1).f2) ((rd_T42 l1 x27_1).f3) ((rd_T42 l1 x27_1).f4) ((rd_T42 l1 x27_1).f5) ((rd_T42 l1 x27_1).f6))=some (r1,r2,r3,r4,r5):=by first|(rw [hji38] at H;exact H)|(simp only [hji38] at H ⊢;exact H)
                  have hji38_:(if (rd x597001_2 (ji29)) < (rd ((rd_T42 l1 x27_1).f5) x47_2) then (rd ((rd_T42 l1 x27_1).f5) x47_2) else (rd x597001_2 (ji29)))=ji38:=hji38
                  obtain ⟨y604,hy604⟩:∃ y_:List Int,y_=(x597001_2.set ((ji29):Int).toNat (ji38)):=⟨_,rfl⟩
                  replace H:(mapjnl_Replay.l1 k2 a0 ji17 l1 (l1.length:Int) x27_1 (((rd_T42 l1 x27_1).f4).length:Int) (wrap64 (x47_2 + 1)) y601 y604 ji18 ((rd_T42 l1 x27_1).f0) ((rd_T42 l1 x27_1).f1) ((rd_T42 l1 x27_1).f2) ((rd_T42 l1 x27_1).f3) ((rd_T42 l1 x27_1).f4) ((rd_T42 l1 x27_1).f5) ((rd_T42 l1 x27_1).f6))=some (r1,r2,r3,r4,r5):=by first|(rw [hy604];with_reducible exact H)|(have H2_:=(Option.bind_some _ _).symm.trans H;rw [hy604];with_reducible exact H2_)|(have H2_:=(Option.bind_some _ _).symm.trans H;with_reducible exact H2_)|with_reducible exact H|(rw [hy604];exact H)|exact H
                  have Ny604:=zm hy604
                  clear hy604
                  have H':=zm H
                  clear H
                  have hnb40:=NB598_587.out
                  have hnc40:=NB587_598.out
                  have hnb41:=NB598_596.out
                  have hnc41:=NB596_598.out
                  have hcz42_0:wr.cell? ⟨gb598,0,none⟩=some (.int .i64 ((rd_T42 l1 x27_1).f0)):=(blk_cell BK598.out 0).trans rfl
                  have hcz42_1:wr.cell? ⟨gb598,1,none⟩=some (.int .i64 ((rd_T42 l1 x27_1).f1)):=(blk_cell BK598.out 1).trans rfl
                  have hcz42_2:wr.cell? ⟨gb598,2,none⟩=some (.int .i64 ((rd_T42 l1 x27_1).f2)):=(blk_cell BK598.out 2).trans rfl
                  have hcz42_3:wr.cell? ⟨gb598,3,none⟩=some (.int .i64 ((rd_T42 l1 x27_1).f3)):=(blk_cell BK598.out 3).trans rfl
                  have hcz42_4:wr.cell? ⟨gb598,4,none⟩=some (.slice A597_4 ((rd_T42 l1 x27_1).f4).length c597_4):=(blk_cell BK598.out 4).trans rfl
                  have hcz42_5:wr.cell? ⟨gb598,5,none⟩=some (.slice A597_5 ((rd_T42 l1 x27_1).f5).length c597_5):=(blk_cell BK598.out 5).trans rfl
                  have hcz42_6:wr.cell? ⟨gb598,6,none⟩=some (.slice A597_6 ((rd_T42 l1 x27_1).f6).length c597_6):=(blk_cell BK598.out 6).trans rfl
                  have hfz42_0:=blk_frozen BK598.out 0
                  have hfz42_1:=blk_frozen BK598.out 1
                  have hfz42_2:=blk_frozen BK598.out 2
                  have hfz42_3:=blk_frozen BK598.out 3
                  have hfz42_4:=blk_frozen BK598.out 4
                  have hfz42_5:=blk_frozen BK598.out 5
                  have hfz42_6:=blk_frozen BK598.out 6
                  try go_wp2
                  have n0_:=zm (zrD HO_597000.out)
                  have n1_:=zm (zrD HO_597001.out)
                  have n2_:=zm (zbD BK587.out)
                  have n3_:=zm (zbD BK596.out)
                  have n4_:=zm (zbD BK598.out)
                  have n5_:=zm (zlD HB.out)
                  clear HO_597000 HO_597001 BK587 BK596 BK598 HB
                  have HO_597000:=n0_
                  have HO_597001:=n1_
                  have BK587:=n2_
                  have BK596:=n3_
                  have BK598:=n4_
                  have HB:=n5_
                  clear n0_ n1_ n2_ n3_ n4_ n5_
                  obtain ⟨Ao44,co44,eo44⟩:=Kd.R_slice HO_597000.out
                  (first|subst eo44|(injection eo44 with f1_ f2_ f3_;have f4_:=f1_.symm;have f5_:=f3_.symm;clear f1_ f2_ f3_;subst f4_;subst f5_))
                  have p600:0≤((ji29):Int):=of_decide_eq_true (by first|(with_reducible assumption)|assumption)
                  have q600:(ji29) < (x597000_2.length:Int):=of_decide_eq_true (by first|(with_reducible assumption)|assumption)
                  obtain ⟨ad600,e600,hx600_0⟩:=Kd.at_bool (Kd.R_reads' HO_597000.out).2.2 (ji29) p600 q600
                  (try rw [← Nbq32.out] at hx600_0)
                  cases e600
                  replace p600:=eq_true p600
                  replace q600:=eq_true q600
                  have p34:0≤((ji29):Int):=of_decide_eq_true (by first|(with_reducible assumption)|assumption)
                  have q34:((ji29):Int) < ((x597000_2.length:Int):Int):=of_decide_eq_true (by first|(with_reducible assumption)|assumption)
                  obtain ⟨go34,co34,eo34,gb34,gl34,cl34,HG34⟩:=Kd.R_form HO_597000.out (by omega)
                  (first|cases eo34|(injection eo34 with ea_ en_ ec_;(first|subst ea_|(injection ea_ with ea_;subst ea_));subst ec_;clear en_))
                  have GB34:=zm gb34
                  have GG34:=zm HG34
                  clear gb34 gl34 HG34
                  (first|simp only [add_plain] at hx600_0|skip)
                  obtain ⟨hx34_0,hf34_0⟩:=Kd.R_celln false HO_597000.out ((ji29):Int) p34 q34
                  replace p34:=eq_true p34
                  replace q34:=eq_true q34
                  have HP45:=Kd.R_putn HO_597000.out ((ji29):Int) true
                  rw [← Ny601.out] at HP45
                  have HQ45:=zm HP45
                  clear HP45
                  refine start_ (n:=17) (S:=fun w'=>w'.cell? ⟨gb596,0,none⟩=some (.slice (some ⟨go34,0,none⟩) x597000_2.length co44)∧w'.cell? ⟨gb596,1,none⟩=some (u597001)∧w'.cell? ⟨gb596,2,none⟩=some (.int .i64 ji18)∧w'.cell? ⟨go34,((ji29)).toNat,none⟩=some (.bool true)) (ds:=[16]) #[false,false,false,false,false,false,false,false,false,false,false,false,false,false,false,false,false] (by kernel_rfl) rfl rfl ⟨(blk_cell BK596.out 0).trans rfl,(blk_cell BK596.out 1).trans rfl,(blk_cell BK596.out 2).trans rfl,hx600_0⟩ (fun hHeld=>?_);refine with_tabW mapjnl_Replay.tab16 mapjnl_Replay.bits16 (fun HT_ HW_=>?_)
                  generalize wr.drew=w43 at HO_597000 HO_597001 BK587 BK596 BK598 HB GG34 HQ45 hf34_0 hx34_0 hx600_0 hHeld ⊢
                  refine pure_ (i:=0) (N:=some 58) (v:=?_) (a':=?_) #[true,false,false,false,false,false,false,false,false,false,false,false,false,false,false,false,false] rfl rfl (any_of HT_.out (by kernel_rfl)) (fun _ _ _ h=>h) (Or.inl ⟨by rfl,?_⟩) ?_ ?_
                  rotate_left
                  ·intro w'
                   go_simp
                   with_reducible rfl
                  rotate_left
                  ·simp only [Act.put,List.setIfInBounds_toArray,List.set_cons_zero,List.set_cons_succ,i64_w,i32_w]
                   rfl
                  refine pure_ (i:=2) (N:=some 60) (v:=?_) (a':=?_) #[true,false,true,false,false,false,false,false,false,false,false,false,false,false,false,false,false] rfl rfl (any_of HT_.out (by kernel_rfl)) (fun _ _ _ h=>h) (Or.inl ⟨by rfl,?_⟩) ?_ ?_
                  rotate_left
                  ·intro w'
                   go_simp
                   with_reducible rfl
                  rotate_left
                  ·simp only [Act.put,List.setIfInBounds_toArray,List.set_cons_zero,List.set_cons_succ,i64_w,i32_w]
                   rfl
                  refine pure_ (i:=3) (N:=some 61) (v:=?_) (a':=?_) #[true,false,true,true,false,false,false,false,false,false,false,false,false,false,false,false,false] rfl rfl (any_of HT_.out (by kernel_rfl)) (fun _ _ _ h=>h) (Or.inl ⟨by rfl,?_⟩) ?_ ?_
                  rotate_left
                  ·intro w'
                   go_simp
                   with_reducible rfl
                  rotate_left
                  ·simp only [Act.put,List.setIfInBounds_toArray,List.set_cons_zero,List.set_cons_succ,i64_w,i32_w]
                   rfl
                  refine pure_ (i:=5) (N:=some 63) (v:=?_) (a':=?_) #[true,false,true,true,false,true,false,false,false,false,false,false,false,false,false,false,false] rfl rfl (any_of HT_.out (by kernel_rfl)) (fun _ _ _ h=>h) (Or.inl ⟨by rfl,?_⟩) ?_ ?_
                  rotate_left
                  ·intro w'
                   go_simp
                   with_reducible rfl
                  rotate_left
                  ·simp only [Act.put,List.setIfInBounds_toArray,List.set_cons_zero,List.set_cons_succ,i64_w,i32_w]
                   rfl
                  refine take_ (i:=1) (N:=some 59) (v:=?_) (a':=?_) #[true,true,true,true,false,true,false,false,false,false,false,false,false,false,false,false,false] rfl rfl (take_ofW HT_.out HW_.out (by kernel_rfl)) (fun _ _ _ h=>h) (Or.inl ⟨by rfl,?_⟩) hHeld ?_ ?_
                  rotate_left
                  ·rintro w' ⟨s0,s1,s2,s3⟩
                   go_simp
                   with_reducible rfl
                  rotate_left
                  ·simp only [Act.put,List.setIfInBounds_toArray,List.set_cons_zero,List.set_cons_succ,i64_w,i32_w]
                   rfl
                  refine take_ (i:=4) (N:=some 62) (v:=?_) (a':=?_) #[true,true,true,true,true,true,false,false,false,false,false,false,false,false,false,false,false] rfl rfl (take_ofW HT_.out HW_.out (by kernel_rfl)) (fun _ _ _ h=>h) (Or.inl ⟨by rfl,?_⟩) hHeld ?_ ?_
                  rotate_left
                  ·rintro w' ⟨s0,s1,s2,s3⟩
                   go_simp
                   with_reducible rfl
                  rotate_left
                  ·simp only [Act.put,List.setIfInBounds_toArray,List.set_cons_zero,List.set_cons_succ,i64_w,i32_w]
                   rfl
                  refine pure_ (i:=6) (N:=some 64) (v:=?_) (a':=?_) #[true,true,true,true,true,true,true,false,false,false,false,false,false,false,false,false,false] rfl rfl (any_of HT_.out (by kernel_rfl)) (fun _ _ _ h=>h) (Or.inl ⟨by rfl,?_⟩) ?_ ?_
                  rotate_left
                  ·intro w'
                   go_simp
                   with_reducible rfl
                  rotate_left
                  ·simp only [Act.put,List.setIfInBounds_toArray,List.set_cons_zero,List.set_cons_succ,i64_w,i32_w]
                   rfl
                  refine take_ (i:=7) (N:=some 65) (v:=?_) (a':=?_) #[true,true,true,true,true,true,true,true,false,false,false,false,false,false,false,false,false] rfl rfl (take_ofW HT_.out HW_.out (by kernel_rfl)) (fun _ _ _ h=>h) (Or.inl ⟨by rfl,?_⟩) hHeld ?_ ?_
                  rotate_left
                  ·rintro w' ⟨s0,s1,s2,s3⟩
                   go_simp
                   with_reducible rfl
                  rotate_left
                  ·simp only [Act.put,List.setIfInBounds_toArray,List.set_cons_zero,List.set_cons_succ,i64_w,i32_w]
                   rfl
                  refine pure_ (i:=8) (N:=some 66) (v:=?_) (a':=?_) #[true,true,true,true,true,true,true,true,true,false,false,false,false,false,false,false,false] rfl rfl (any_of HT_.out (by kernel_rfl)) (fun _ _ _ h=>h) (Or.inl ⟨by rfl,?_⟩) ?_ ?_
                  rotate_left
                  ·intro w'
                   go_simp
                   with_reducible rfl
                  rotate_left
                  ·simp only [Act.put,List.setIfInBounds_toArray,List.set_cons_zero,List.set_cons_succ,i64_w,i32_w]
                   rfl
                  refine pure_ (i:=9) (N:=some 67) (v:=undef) (a':=?_) #[true,true,true,true,true,true,true,true,true,true,false,false,false,false,false,false,false] rfl rfl (any_of HT_.out (by kernel_rfl)) (fun _ _ _ h=>h) (Or.inr ⟨by rfl,rfl⟩) ?_ ?_
                  rotate_left
                  ·simp only [Act.put,List.setIfInBounds_toArray,List.set_cons_zero,List.set_cons_succ,i64_w,i32_w]
                   rfl
                  refine pure_ (i:=10) (N:=some 68) (v:=undef) (a':=?_) #[true,true,true,true,true,true,true,true,true,true,true,false,false,false,false,false,false] rfl rfl (any_of HT_.out (by kernel_rfl)) (fun _ _ _ h=>h) (Or.inr ⟨by rfl,rfl⟩) ?_ ?_
                  rotate_left
                  ·simp only [Act.put,List.setIfInBounds_toArray,List.set_cons_zero,List.set_cons_succ,i64_w,i32_w]
                   rfl
                  refine pure_ (i:=11) (N:=some 69) (v:=undef) (a':=?_) #[true,true,true,true,true,true,true,true,true,true,true,true,false,false,false,false,false] rfl rfl (any_of HT_.out (by kernel_rfl)) (fun _ _ _ h=>h) (Or.inr ⟨by rfl,rfl⟩) ?_ ?_
                  rotate_left
                  ·simp only [Act.put,List.setIfInBounds_toArray,List.set_cons_zero,List.set_cons_succ,i64_w,i32_w]
                   rfl
                  refine pure_ (i:=12) (N:=some 70) (v:=undef) (a':=?_) #[true,true,true,true,true,true,true,true,true,true,true,true,true,false,false,false,false] rfl rfl (any_of HT_.out (by kernel_rfl)) (fun _ _ _ h=>h) (Or.inr ⟨by rfl,rfl⟩) ?_ ?_
                  rotate_left
                  ·simp only [Act.put,List.setIfInBounds_toArray,List.set_cons_zero,List.set_cons_succ,i64_w,i32_w]
                   rfl
                  refine pure_ (i:=13) (N:=some 71) (v:=undef) (a':=?_) #[true,true,true,true,true,true,true,true,true,true,true,true,true,true,false,false,false] rfl rfl (any_of HT_.out (by kernel_rfl)) (fun _ _ _ h=>h) (Or.inr ⟨by rfl,rfl⟩) ?_ ?_
                  rotate_left
                  ·simp only [Act.put,List.setIfInBounds_toArray,List.set_cons_zero,List.set_cons_succ,i64_w,i32_w]
                   rfl
                  refine pure_ (i:=14) (N:=some 72) (v:=?_) (a':=?_) #[true,true,true,true,true,true,true,true,true,true,true,true,true,true,true,false,false] rfl rfl (any_of HT_.out (by kernel_rfl)) (fun _ _ _ h=>h) (Or.inl ⟨by rfl,?_⟩) ?_ ?_
                  rotate_left
                  ·intro w'
                   go_simp
                   with_reducible rfl
                  rotate_left
                  ·simp only [Act.put,List.setIfInBounds_toArray,List.set_cons_zero,List.set_cons_succ,i64_w,i32_w]
                   rfl
                  refine pure_ (i:=15) (N:=some 73) (v:=?_) (a':=?_) #[true,true,true,true,true,true,true,true,true,true,true,true,true,true,true,true,false] rfl rfl (any_of HT_.out (by kernel_rfl)) (fun _ _ _ h=>h) (Or.inl ⟨by rfl,?_⟩) ?_ ?_
                  rotate_left
                  ·intro w'
                   go_simp
                   with_reducible rfl
                  rotate_left
                  ·simp only [Act.put,List.setIfInBounds_toArray,List.set_cons_zero,List.set_cons_succ,i64_w,i32_w]
                   rfl
                  refine last_ (i:=16) (N:=none) #[true,true,true,true,true,true,true,true,true,true,true,true,true,true,true,true,true] rfl rfl (one_of HT_.out (by kernel_rfl)) (by decide) (fun K hK=>?_)
                  refine skip_ (w1:=?_) (by rfl) rfl ?_ ?_
                  rotate_left
                  ·go_simp
                   rfl
                  refine hK.out _ _ ?_
                  clear hK K
                  refine done_ (done_of HT_.out (by kernel_rfl)) ?_
                  try go_wp2
                  have n0_:Aside0 (Kd.R Kd.bool 4 (w43.setCell ⟨go34,((ji29):Int).toNat,none⟩ (.bool true)) w.heap.size (fun _=>True) (.slice (some ⟨go34,0,none⟩) x597000_2.length co44) y601):=⟨by (with_reducible repeat (first|apply zrA|apply zrN|apply zrD));exact HQ45.out⟩
                  have n1_:Aside0 (Kd.R (Kd.int .i64) 2 (w43.setCell ⟨go34,((ji29):Int).toNat,none⟩ (.bool true)) w.heap.size (fun _=>True) u597001 x597001_2):=⟨by (with_reducible repeat (first|apply zrA|apply zrN|apply zrD));exact Kd.R_mono (Kd.R_far (p:=⟨go34,((ji29):Int).toNat,none⟩) (Kd.R_types HO_597001.out GG34.out (by decide)) (fun _ hk=>hk.2) (.bool true)) (fun _ hk=>trivial)⟩
                  have n2_:Aside0 ((w43.setCell ⟨go34,((ji29):Int).toNat,none⟩ (.bool true)).heap[gb587]?=some (.cells #[.slice none 0 0,.slice none 0 0,.int .i64 0] 25 (0,0))):=⟨by (with_reducible repeat (first|refine zbN ?_ _|refine zbD ?_|refine zbA ?_ _));refine blk_far ?_ (by have h_:=Kd.R_ne HO_597000.out BK587.out (by decide);intro e_;exact h_ (by rw [e_];rfl)) _;(with_reducible repeat (first|refine zbN ?_ _|refine zbD ?_|refine zbA ?_ _));exact BK587.out⟩
                  have n3_:Aside0 ((w43.setCell ⟨go34,((ji29):Int).toNat,none⟩ (.bool true)).heap[gb596]?=some (.cells #[.slice (some ⟨go34,0,none⟩) x597000_2.length co44,u597001,.int .i64 ji18] 25 (0,0))):=⟨by (with_reducible repeat (first|refine zbN ?_ _|refine zbD ?_|refine zbA ?_ _));refine blk_far ?_ (by have h_:=Kd.R_ne HO_597000.out BK596.out (by decide);intro e_;exact h_ (by rw [e_];rfl)) _;(with_reducible repeat (first|refine zbN ?_ _|refine zbD ?_|refine zbA ?_ _));exact BK596.out⟩
                  have n4_:Aside0 ((w43.setCell ⟨go34,((ji29):Int).toNat,none⟩ (.bool true)).heap[gb598]?=some (.cells #[.int .i64 ((rd_T42 l1 x27_1).f0),.int .i64 ((rd_T42 l1 x27_1).f1),.int .i64 ((rd_T42 l1 x27_1).f2),.int .i64 ((rd_T42 l1 x27_1).f3),.slice A597_4 ((rd_T42 l1 x27_1).f4).length c597_4,.slice A597_5 ((rd_T42 l1 x27_1).f5).length c597_5,.slice A597_6 ((rd_T42 l1 x27_1).f6).length c597_6] 42 (0,0))):=⟨by (with_reducible repeat (first|refine zbN ?_ _|refine zbD ?_|refine zbA ?_ _));refine blk_far ?_ (by have h_:=Kd.R_ne HO_597000.out BK598.out (by decide);intro e_;exact h_ (by rw [e_];rfl)) _;(with_reducible repeat (first|refine zbN ?_ _|refine zbD ?_|refine zbA ?_ _));exact BK598.out⟩
                  have n5_:Aside0 (Below w.heap.size w (w43.setCell ⟨go34,((ji29):Int).toNat,none⟩ (.bool true))):=⟨by repeat (first|(with_reducible first|exact HB.out|apply zlA|apply zlN|apply zlD|refine zlS ?_ GB34.out|refine zlS ?_ GE587.out|refine zlS ?_ GE596.out|refine zlS ?_ GE598.out)|exact HB.out)⟩
                  (try clear HO_597000)
                  (try clear HO_597001)
                  (try clear BK587)
                  (try clear BK596)
                  (try clear BK598)
                  (try clear HB)
                  generalize (w43.setCell ⟨go34,((ji29):Int).toNat,none⟩ (.bool true))=w46 at n0_ n1_ n2_ n3_ n4_ n5_ ⊢
                  have HO_597000:=n0_
                  have HO_597001:=n1_
                  have BK587:=n2_
                  have BK596:=n3_
                  have BK598:=n4_
                  have HB:=n5_
                  clear n0_ n1_ n2_ n3_ n4_ n5_
                  have n0_:=zm (zrD HO_597000.out)
                  have n1_:=zm (zrD HO_597001.out)
                  have n2_:=zm (zbD BK587.out)
                  have n3_:=zm (zbD BK596.out)
                  have n4_:=zm (zbD BK598.out)
                  have n5_:=zm (zlD HB.out)
                  clear HO_597000 HO_597001 BK587 BK596 BK598 HB
                  have HO_597000:=n0_
                  have HO_597001:=n1_
                  have BK587:=n2_
                  have BK596:=n3_
                  have BK598:=n4_
                  have HB:=n5_
                  clear n0_ n1_ n2_ n3_ n4_ n5_
                  obtain ⟨Ao48,co48,eo48⟩:=Kd.R_slice HO_597001.out
                  (first|subst eo48|(injection eo48 with f1_ f2_ f3_;have f4_:=f1_.symm;have f5_:=f3_.symm;clear f1_ f2_ f3_;subst f4_;subst f5_))
                  have p602:0≤((ji29):Int):=of_decide_eq_true (by first|(with_reducible assumption)|assumption)
                  have q602:(ji29) < (x597001_2.length:Int):=of_decide_eq_true (by first|(with_reducible assumption)|assumption)
                  obtain ⟨ad602,e602,hx602_0⟩:=Kd.at_int (Kd.R_reads' HO_597001.out).2.2 (ji29) p602 q602
                  cases e602
                  replace p602:=eq_true p602
                  replace q602:=eq_true q602
                  have p603:0≤(x47_2:Int):=of_decide_eq_true (by first|(with_reducible assumption)|assumption)
                  have q603:x47_2 < (((rd_T42 l1 x27_1).f5).length:Int):=of_decide_eq_true (by first|(with_reducible assumption)|assumption)
                  obtain ⟨ad603,e603,hx603_0⟩:=Kd.at_int HR597_5.out x47_2 p603 q603
                  have hw603_0:=hx603_0
                  cases e603
                  replace hx603_0:=(HB.out.cell (World.block_lt_of_cell? w _ hx603_0)).trans hx603_0
                  replace p603:=eq_true p603
                  replace q603:=eq_true q603
                  have p39:0≤((ji29):Int):=of_decide_eq_true (by first|(with_reducible assumption)|assumption)
                  have q39:((ji29):Int) < ((x597001_2.length:Int):Int):=of_decide_eq_true (by first|(with_reducible assumption)|assumption)
                  obtain ⟨go39,co39,eo39,gb39,gl39,cl39,HG39⟩:=Kd.R_form HO_597001.out (by omega)
                  (first|cases eo39|(injection eo39 with ea_ en_ ec_;(first|subst ea_|(injection ea_ with ea_;subst ea_));subst ec_;clear en_))
                  have GB39:=zm gb39
                  have GG39:=zm HG39
                  clear gb39 gl39 HG39
                  (first|simp only [add_plain] at hx602_0|skip)
                  obtain ⟨hx39_0,hf39_0⟩:=Kd.R_celln 0 HO_597001.out ((ji29):Int) p39 q39
                  replace p39:=eq_true p39
                  replace q39:=eq_true q39
                  have HP49:=Kd.R_putn HO_597001.out ((ji29):Int) ji38
                  rw [← Ny604.out] at HP49
                  have HQ49:=zm HP49
                  clear HP49
                  refine start_ (n:=16) (S:=fun w'=>w'.cell? ⟨gb596,0,none⟩=some (.slice (some ⟨go34,0,none⟩) x597000_2.length co44)∧w'.cell? ⟨gb596,1,none⟩=some (.slice (some ⟨go39,0,none⟩) x597001_2.length co48)∧w'.cell? ⟨gb596,2,none⟩=some (.int .i64 ji18)∧w'.cell? ⟨gb598,0,none⟩=some (.int .i64 ((rd_T42 l1 x27_1).f0))∧w'.cell? ⟨gb598,1,none⟩=some (.int .i64 ((rd_T42 l1 x27_1).f1))∧w'.cell? ⟨gb598,2,none⟩=some (.int .i64 ((rd_T42 l1 x27_1).f2))∧w'.cell? ⟨gb598,3,none⟩=some (.int .i64 ((rd_T42 l1 x27_1).f3))∧w'.cell? ⟨gb598,4,none⟩=some (.slice A597_4 ((rd_T42 l1 x27_1).f4).length c597_4)∧w'.cell? ⟨gb598,5,none⟩=some (.slice (some ad603) ((rd_T42 l1 x27_1).f5).length c597_5)∧w'.cell? ⟨gb598,6,none⟩=some (.slice A597_6 ((rd_T42 l1 x27_1).f6).length c597_6)∧w'.cell? ⟨go39,((ji29)).toNat,none⟩=some (.int .i64 (rd x597001_2 (ji29)))∧w'.cell? (ad603.add (x47_2).toNat)=some (.int .i64 (rd ((rd_T42 l1 x27_1).f5) x47_2))) (ds:=[15]) #[false,false,false,false,false,false,false,false,false,false,false,false,false,false,false,false] (by kernel_rfl) rfl rfl ⟨(blk_cell BK596.out 0).trans rfl,(blk_cell BK596.out 1).trans rfl,(blk_cell BK596.out 2).trans rfl,(blk_cell BK598.out 0).trans rfl,(blk_cell BK598.out 1).trans rfl,(blk_cell BK598.out 2).trans rfl,(blk_cell BK598.out 3).trans rfl,(blk_cell BK598.out 4).trans rfl,(blk_cell BK598.out 5).trans rfl,(blk_cell BK598.out 6).trans rfl,hx602_0,((HB.out.cell (World.block_lt_of_cell? w _ hw603_0)).trans hw603_0)⟩ (fun hHeld=>?_);refine with_tabW mapjnl_Replay.tab17 mapjnl_Replay.bits17 (fun HT_ HW_=>?_)
                  generalize w46.drew=w47 at HO_597000 HO_597001 BK587 BK596 BK598 HB GG39 HQ45 HQ49 hf39_0 hx39_0 hx602_0 hx603_0 hHeld ⊢
                  refine pure_ (i:=0) (N:=some 74) (v:=?_) (a':=?_) #[true,false,false,false,false,false,false,false,false,false,false,false,false,false,false,false] rfl rfl (any_of HT_.out (by kernel_rfl)) (fun _ _ _ h=>h) (Or.inl ⟨by rfl,?_⟩) ?_ ?_
                  rotate_left
                  ·intro w'
                   go_simp
                   with_reducible rfl
                  rotate_left
                  ·simp only [Act.put,List.setIfInBounds_toArray,List.set_cons_zero,List.set_cons_succ,i64_w,i32_w]
                   rfl
                  refine pure_ (i:=2) (N:=some 76) (v:=?_) (a':=?_) #[true,false,true,false,false,false,false,false,false,false,false,false,false,false,false,false] rfl rfl (any_of HT_.out (by kernel_rfl)) (fun _ _ _ h=>h) (Or.inl ⟨by rfl,?_⟩) ?_ ?_
                  rotate_left
                  ·intro w'
                   go_simp
                   with_reducible rfl
                  rotate_left
                  ·simp only [Act.put,List.setIfInBounds_toArray,List.set_cons_zero,List.set_cons_succ,i64_w,i32_w]
                   rfl
                  refine pure_ (i:=3) (N:=some 77) (v:=?_) (a':=?_) #[true,false,true,true,false,false,false,false,false,false,false,false,false,false,false,false] rfl rfl (any_of HT_.out (by kernel_rfl)) (fun _ _ _ h=>h) (Or.inl ⟨by rfl,?_⟩) ?_ ?_
                  rotate_left
                  ·intro w'
                   go_simp
                   with_reducible rfl
                  rotate_left
                  ·simp only [Act.put,List.setIfInBounds_toArray,List.set_cons_zero,List.set_cons_succ,i64_w,i32_w]
                   rfl
                  refine pure_ (i:=5) (N:=some 79) (v:=?_) (a':=?_) #[true,false,true,true,false,true,false,false,false,false,false,false,false,false,false,false] rfl rfl (any_of HT_.out (by kernel_rfl)) (fun _ _ _ h=>h) (Or.inl ⟨by rfl,?_⟩) ?_ ?_
                  rotate_left
                  ·intro w'
                   go_simp
                   with_reducible rfl
                  rotate_left
                  ·simp only [Act.put,List.setIfInBounds_toArray,List.set_cons_zero,List.set_cons_succ,i64_w,i32_w]
                   rfl
                  refine pure_ (i:=8) (N:=some 82) (v:=?_) (a':=?_) #[true,false,true,true,false,true,false,false,true,false,false,false,false,false,false,false] rfl rfl (any_of HT_.out (by kernel_rfl)) (fun _ _ _ h=>h) (Or.inl ⟨by rfl,?_⟩) ?_ ?_
                  rotate_left
                  ·intro w'
                   go_simp
                   with_reducible rfl
                  rotate_left
                  ·simp only [Act.put,List.setIfInBounds_toArray,List.set_cons_zero,List.set_cons_succ,i64_w,i32_w]
                   rfl
                  refine pure_ (i:=10) (N:=some 84) (v:=?_) (a':=?_) #[true,false,true,true,false,true,false,false,true,false,true,false,false,false,false,false] rfl rfl (any_of HT_.out (by kernel_rfl)) (fun _ _ _ h=>h) (Or.inl ⟨by rfl,?_⟩) ?_ ?_
                  rotate_left
                  ·intro w'
                   go_simp
                   with_reducible rfl
                  rotate_left
                  ·simp only [Act.put,List.setIfInBounds_toArray,List.set_cons_zero,List.set_cons_succ,i64_w,i32_w]
                   rfl
                  refine take_ (i:=1) (N:=some 75) (v:=?_) (a':=?_) #[true,true,true,true,false,true,false,false,true,false,true,false,false,false,false,false] rfl rfl (take_ofW HT_.out HW_.out (by kernel_rfl)) (fun _ _ _ h=>h) (Or.inl ⟨by rfl,?_⟩) hHeld ?_ ?_
                  rotate_left
                  ·rintro w' ⟨s0,s1,s2,s3,s4,s5,s6,s7,s8,s9,s10,s11⟩
                   go_simp
                   with_reducible rfl
                  rotate_left
                  ·simp only [Act.put,List.setIfInBounds_toArray,List.set_cons_zero,List.set_cons_succ,i64_w,i32_w]
                   rfl
                  refine take_ (i:=4) (N:=some 78) (v:=?_) (a':=?_) #[true,true,true,true,true,true,false,false,true,false,true,false,false,false,false,false] rfl rfl (take_ofW HT_.out HW_.out (by kernel_rfl)) (fun _ _ _ h=>h) (Or.inl ⟨by rfl,?_⟩) hHeld ?_ ?_
                  rotate_left
                  ·rintro w' ⟨s0,s1,s2,s3,s4,s5,s6,s7,s8,s9,s10,s11⟩
                   go_simp
                   with_reducible rfl
                  rotate_left
                  ·simp only [Act.put,List.setIfInBounds_toArray,List.set_cons_zero,List.set_cons_succ,i64_w,i32_w]
                   rfl
                  refine pure_ (i:=6) (N:=some 80) (v:=?_) (a':=?_) #[true,true,true,true,true,true,true,false,true,false,true,false,false,false,false,false] rfl rfl (any_of HT_.out (by kernel_rfl)) (fun _ _ _ h=>h) (Or.inl ⟨by rfl,?_⟩) ?_ ?_
                  rotate_left
                  ·intro w'
                   go_simp
                   with_reducible rfl
                  rotate_left
                  ·simp only [Act.put,List.setIfInBounds_toArray,List.set_cons_zero,List.set_cons_succ,i64_w,i32_w]
                   rfl
                  refine take_ (i:=7) (N:=some 81) (v:=?_) (a':=?_) #[true,true,true,true,true,true,true,true,true,false,true,false,false,false,false,false] rfl rfl (take_ofW HT_.out HW_.out (by kernel_rfl)) (fun _ _ _ h=>h) (Or.inl ⟨by rfl,?_⟩) hHeld ?_ ?_
                  rotate_left
                  ·rintro w' ⟨s0,s1,s2,s3,s4,s5,s6,s7,s8,s9,s10,s11⟩
                   go_simp
                   with_reducible rfl
                  rotate_left
                  ·simp only [Act.put,List.setIfInBounds_toArray,List.set_cons_zero,List.set_cons_succ,i64_w,i32_w]
                   rfl
                  refine take_ (i:=9) (N:=some 83) (v:=?_) (a':=?_) #[true,true,true,true,true,true,true,true,true,true,true,false,false,false,false,false] rfl rfl (take_ofW HT_.out HW_.out (by kernel_rfl)) (fun _ _ _ h=>h) (Or.inl ⟨by rfl,?_⟩) hHeld ?_ ?_
                  rotate_left
                  ·rintro w' ⟨s0,s1,s2,s3,s4,s5,s6,s7,s8,s9,s10,s11⟩
                   go_simp
                   with_reducible rfl
                  rotate_left
                  ·simp only [Act.put,List.setIfInBounds_toArray,List.set_cons_zero,List.set_cons_succ,i64_w,i32_w]
                   rfl
                  refine pure_ (i:=11) (N:=some 85) (v:=?_) (a':=?_) #[true,true,true,true,true,true,true,true,true,true,true,true,false,false,false,false] rfl rfl (any_of HT_.out (by kernel_rfl)) (fun _ _ _ h=>h) (Or.inl ⟨by rfl,?_⟩) ?_ ?_
                  rotate_left
                  ·intro w'
                   go_simp
                   with_reducible rfl
                  rotate_left
                  ·simp only [Act.put,List.setIfInBounds_toArray,List.set_cons_zero,List.set_cons_succ,i64_w,i32_w]
                   rfl
                  refine take_ (i:=12) (N:=some 86) (v:=?_) (a':=?_) #[true,true,true,true,true,true,true,true,true,true,true,true,true,false,false,false] rfl rfl (take_ofW HT_.out HW_.out (by kernel_rfl)) (fun _ _ _ h=>h) (Or.inl ⟨by rfl,?_⟩) hHeld ?_ ?_
                  rotate_left
                  ·rintro w' ⟨s0,s1,s2,s3,s4,s5,s6,s7,s8,s9,s10,s11⟩
                   go_simp
                   with_reducible rfl
                  rotate_left
                  ·simp only [Act.put,List.setIfInBounds_toArray,List.set_cons_zero,List.set_cons_succ,i64_w,i32_w]
                   rfl
                  refine pure_ (i:=13) (N:=some 87) (v:=?_) (a':=?_) #[true,true,true,true,true,true,true,true,true,true,true,true,true,true,false,false] rfl rfl (any_of HT_.out (by kernel_rfl)) (fun _ _ _ h=>h) (Or.inl ⟨by rfl,?_⟩) ?_ ?_
                  rotate_left
                  ·intro w'
                   go_simp
                   with_reducible rfl
                  rotate_left
                  ·simp only [Act.put,List.setIfInBounds_toArray,List.set_cons_zero,List.set_cons_succ,i64_w,i32_w]
                   rfl
                  refine pure_ (i:=14) (N:=some 88) (v:=?_) (a':=?_) #[true,true,true,true,true,true,true,true,true,true,true,true,true,true,true,false] rfl rfl (any_of HT_.out (by kernel_rfl)) (fun _ _ _ h=>h) (Or.inl ⟨by rfl,?_⟩) ?_ ?_
                  rotate_left
                  ·intro w'
                   go_simp
                   with_reducible rfl
                  rotate_left
                  ·simp only [Act.put,List.setIfInBounds_toArray,List.set_cons_zero,List.set_cons_succ,i64_w,i32_w]
                   rfl
                  refine last_ (i:=15) (N:=none) #[true,true,true,true,true,true,true,true,true,true,true,true,true,true,true,true] rfl rfl (one_of HT_.out (by kernel_rfl)) (by decide) (fun K hK=>?_)
                  refine skip_ (w1:=?_) (by rfl) rfl ?_ ?_
                  rotate_left
                  ·go_simp
                   rfl
                  refine hK.out _ _ ?_
                  clear hK K
                  refine done_ (done_of HT_.out (by kernel_rfl)) ?_
                  try go_wp2
                  go_roundg k2
                  case measure=>have:=HK1.out;have:=HK2.out;omega
                  case rel=>exact ⟨(wrap64 (x47_2 + 1)),(y601),(y604),(.slice (some ⟨go34,0,none⟩) x597000_2.length co44),(.slice (some ⟨go39,0,none⟩) x597001_2.length co48),(by first|rfl|(simp;done)|(simp [*];done)),H',⟨by have:=HK1.out;have:=HK2.out;omega⟩,⟨by (with_reducible repeat (first|apply zrA|apply zrN|apply zrD));exact Kd.R_mono (Kd.R_far (p:=⟨go39,((ji29):Int).toNat,none⟩) (Kd.R_types HO_597000.out GG39.out (by decide)) (fun _ hk=>hk.2) (.int .i64 ji38)) (fun _ hk=>trivial)⟩,⟨by (with_reducible repeat (first|apply zrA|apply zrN|apply zrD));exact HQ49.out⟩,⟨by (with_reducible repeat (first|refine zbN ?_ _|refine zbD ?_|refine zbA ?_ _));refine blk_far ?_ (by have h_:=Kd.R_ne HO_597001.out BK587.out (by decide);intro e_;exact h_ (by rw [e_];rfl)) _;(with_reducible repeat (first|refine zbN ?_ _|refine zbD ?_|refine zbA ?_ _));exact BK587.out⟩,⟨by (with_reducible repeat (first|refine zbN ?_ _|refine zbD ?_|refine zbA ?_ _));refine blk_far ?_ (by have h_:=Kd.R_ne HO_597001.out BK596.out (by decide);intro e_;exact h_ (by rw [e_];rfl)) _;(with_reducible repeat (first|refine zbN ?_ _|refine zbD ?_|refine zbA ?_ _));exact BK596.out⟩,⟨by (with_reducible repeat (first|refine zbN ?_ _|refine zbD ?_|refine zbA ?_ _));refine blk_far ?_ (by have h_:=Kd.R_ne HO_597001.out BK598.out (by decide);intro e_;exact h_ (by rw [e_];rfl)) _;(with_reducible repeat (first|refine zbN ?_ _|refine zbD ?_|refine zbA ?_ _));exact BK598.out⟩,⟨by repeat (first|(with_reducible first|exact HB.out|apply zlA|apply zlN|apply zlD|refine zlS ?_ GB39.out|refine zlS ?_ GE587.out|refine zlS ?_ GE596.out|refine zlS ?_ GE598.out)|exact HB.out)⟩⟩
                 ·rw [if_neg c37] at H
                  exact absurd H (by simp)
                ·rw [if_neg c36] at H
                 exact absurd H (by simp)
               ·rw [if_neg c35] at H
                exact absurd H (by simp)
              ·replace c33:=Bool.eq_false_iff.mpr c33
               subst c33
               have H1:(if 0≤x47_2 then (if x47_2 < (((rd_T42 l1 x27_1).f4).length:Int) then (if (ji29) < (x597001_2.length:Int) then (if x47_2 < (((rd_T42 l1 x27_1).f5).length:Int) then (mapjnl_Replay.l1 k2 a0 ji17 l1 (l1.length:Int) x27_1 (((rd_T42 l1 x27_1).f4).length:Int) (wrap64 (x47_2 + 1)) (x597000_2.set ((ji29):Int).toNat (rdOf false ((rd_T42 l1 x27_1).f4) x47_2)) (x597001_2.set ((ji29):Int).toNat (mx (rd x597001_2 (ji29)) (rd ((rd_T42 l1 x27_1).f5) x47_2))) ji18 ((rd_T42 l1 x27_1).f0) ((rd_T42 l1 x27_1).f1) ((rd_T42 l1 x27_1).f2) ((rd_T42 l1 x27_1).f3) ((rd_T42 l1 x27_1).f4) ((rd_T42 l1 x27_1).f5) ((rd_T42 l1 x27_1).f6)) else (none)) else (none)) else (none)) else (none))=some (r1,r2,r3,r4,r5):=by rw [if_neg (show ¬ (false=true) by decide)] at H;exact H
               clear H
               have H:=H1
               clear H1
               by_cases c50:0≤x47_2
               ·rw [if_pos c50] at H
                have c50b0:decide (0≤x47_2)=true:=decide_eq_true c50
                clear c50
                by_cases c51:x47_2 < (((rd_T42 l1 x27_1).f4).length:Int)
                ·rw [if_pos c51] at H
                 have c51b0:decide (x47_2 < (((rd_T42 l1 x27_1).f4).length:Int))=true:=decide_eq_true c51
                 clear c51
                 obtain ⟨y606,hy606⟩:∃ y_:List Bool,y_=(x597000_2.set ((ji29):Int).toNat (rdOf false ((rd_T42 l1 x27_1).f4) x47_2)):=⟨_,rfl⟩
                 replace H:(if (ji29) < (x597001_2.length:Int) then (if x47_2 < (((rd_T42 l1 x27_1).f5).length:Int) then (mapjnl_Replay.l1 k2 a0 ji17 l1 (l1.length:Int) x27_1 (((rd_T42 l1 x27_1).f4).length:Int) (wrap64 (x47_2 + 1)) y606 (x597001_2.set ((ji29):Int).toNat (mx (rd x597001_2 (ji29)) (rd ((rd_T42 l1 x27_1).f5) x47_2))) ji18 ((rd_T42 l1 x27_1).f0) ((rd_T42 l1 x27_1).f1) ((rd_T42 l1 x27_1).f2) ((rd_T42 l1 x27_1).f3) ((rd_T42 l1 x27_1).f4) ((rd_T42 l1 x27_1).f5) ((rd_T42 l1 x27_1).f6)) else (none)) else (none))=some (r1,r2,r3,r4,r5):=by first|(rw [hy606];with_reducible exact H)|(have H2_:=(Option.bind_some _ _).symm.trans H;rw [hy606];with_reducible exact H2_)|(have H2_:=(Option.bind_some _ _).symm.trans H;with_reducible exact H2_)|with_reducible exact H|(rw [hy606];exact H)|exact H
                 have Ny606:=zm hy606
                 clear hy606
                 by_cases c53:(ji29) < (x597001_2.length:Int)
                 ·rw [if_pos c53] at H
                  have c53b0:decide ((ji29) < (x597001_2.length:Int))=true:=decide_eq_true c53
                  clear c53
                  by_cases c54:x47_2 < (((rd_T42 l1 x27_1).f5).length:Int)
                  ·rw [if_pos c54] at H
                   have c54b0:decide (x47_2 < (((rd_T42 l1 x27_1).f5).length:Int))=true:=decide_eq_true c54
                   clear c54
                   obtain ⟨ji55,hji55⟩:∃ j_:Int,(mx (rd x597001_2 (ji29)) (rd ((rd_T42 l1 x27_1).f5) x47_2))=j_:=⟨_,rfl⟩
                   replace H:(mapjnl_Replay.l1 k2 a0 ji17 l1 (l1.length:Int) x27_1 (((rd_T42 l1 x27_1).f4).length:Int) (wrap64 (x47_2 + 1)) y606 (x597001_2.set ((ji29):Int).toNat (ji55)) ji18 ((rd_T42 l1 x27_1).f0) ((rd_T42 l1 x27_1).f1) ((rd_T42 l1 x27_1).f2) ((rd_T42 l1 x27_1).f3) ((rd_T42 l1 x27_1).f4) ((rd_T42 l1 x27_1).f5) ((rd_T42 l1 x27_1).f6))=some (r1,r2,r3,r4,r5):=by first|(rw [hji55] at H;exact H)|(simp only [hji55] at H ⊢;exact H)
                   have hji55_:(if (rd x597001_2 (ji29)) < (rd ((rd_T42 l1 x27_1).f5) x47_2) then (rd ((rd_T42 l1 x27_1).f5) x47_2) else (rd x597001_2 (ji29)))=ji55:=hji55
                   obtain ⟨y609,hy609⟩:∃ y_:List Int,y_=(x597001_2.set ((ji29):Int).toNat (ji55)):=⟨_,rfl⟩
                   replace H:(mapjnl_Replay.l1 k2 a0 ji17 l1 (l1.length:Int) x27_1 (((rd_T42 l1 x27_1).f4).length:Int) (wrap64 (x47_2 + 1)) y606 y609 ji18 ((rd_T42 l1 x27_1).f0) ((rd_T42 l1 x27_1).f1) ((rd_T42 l1 x27_1).f2) ((rd_T42 l1 x27_1).f3) ((rd_T42 l1 x27_1).f4) ((rd_T42 l1 x27_1).f5) ((rd_T42 l1 x27_1).f6))=some (r1,r2,r3,r4,r5):=by first|(rw [hy609];with_reducible exact H)|(have H2_:=(Option.bind_some _ _).symm.trans H;rw [hy609];with_reducible exact H2_)|(have H2_:=(Option.bind_some _ _).symm.trans H;with_reducible exact H2_)|with_reducible exact H|(rw [hy609];exact H)|exact H
                   have Ny609:=zm hy609
                   clear hy609
                   have H':=zm H
                   clear H
                   have hnb57:=NB598_587.out
                   have hnc57:=NB587_598.out
                   have hnb58:=NB598_596.out
                   have hnc58:=NB596_598.out
                   have hcz59_0:wr.cell? ⟨gb598,0,none⟩=some (.int .i64 ((rd_T42 l1 x27_1).f0)):=(blk_cell BK598.out 0).trans rfl
                   have hcz59_1:wr.cell? ⟨gb598,1,none⟩=some (.int .i64 ((rd_T42 l1 x27_1).f1)):=(blk_cell BK598.out 1).trans rfl
                   have hcz59_2:wr.cell? ⟨gb598,2,none⟩=some (.int .i64 ((rd_T42 l1 x27_1).f2)):=(blk_cell BK598.out 2).trans rfl
                   have hcz59_3:wr.cell? ⟨gb598,3,none⟩=some (.int .i64 ((rd_T42 l1 x27_1).f3)):=(blk_cell BK598.out 3).trans rfl
                   have hcz59_4:wr.cell? ⟨gb598,4,none⟩=some (.slice A597_4 ((rd_T42 l1 x27_1).f4).length c597_4):=(blk_cell BK598.out 4).trans rfl
                   have hcz59_5:wr.cell? ⟨gb598,5,none⟩=some (.slice A597_5 ((rd_T42 l1 x27_1).f5).length c597_5):=(blk_cell BK598.out 5).trans rfl
                   have hcz59_6:wr.cell? ⟨gb598,6,none⟩=some (.slice A597_6 ((rd_T42 l1 x27_1).f6).length c597_6):=(blk_cell BK598.out 6).trans rfl
                   have hfz59_0:=blk_frozen BK598.out 0
                   have hfz59_1:=blk_frozen BK598.out 1
                   have hfz59_2:=blk_frozen BK598.out 2
                   have hfz59_3:=blk_frozen BK598.out 3
                   have hfz59_4:=blk_frozen BK598.out 4
                   have hfz59_5:=blk_frozen BK598.out 5
                   have hfz59_6:=blk_frozen BK598.out 6
                   try go_wp2
                   have n0_:=zm (zrD HO_597000.out)
                   have n1_:=zm (zrD HO_597001.out)
                   have n2_:=zm (zbD BK587.out)
                   have n3_:=zm (zbD BK596.out)
                   have n4_:=zm (zbD BK598.out)
                   have n5_:=zm (zlD HB.out)
                   clear HO_597000 HO_597001 BK587 BK596 BK598 HB
                   have HO_597000:=n0_
                   have HO_597001:=n1_
                   have BK587:=n2_
                   have BK596:=n3_
                   have BK598:=n4_
                   have HB:=n5_
                   clear n0_ n1_ n2_ n3_ n4_ n5_
                   obtain ⟨Ao61,co61,eo61⟩:=Kd.R_slice HO_597000.out
                   (first|subst eo61|(injection eo61 with f1_ f2_ f3_;have f4_:=f1_.symm;have f5_:=f3_.symm;clear f1_ f2_ f3_;subst f4_;subst f5_))
                   have p600:0≤((ji29):Int):=of_decide_eq_true (by first|(with_reducible assumption)|assumption)
                   have q600:(ji29) < (x597000_2.length:Int):=of_decide_eq_true (by first|(with_reducible assumption)|assumption)
                   obtain ⟨ad600,e600,hx600_0⟩:=Kd.at_bool (Kd.R_reads' HO_597000.out).2.2 (ji29) p600 q600
                   (try rw [← Nbq32.out] at hx600_0)
                   cases e600
                   replace p600:=eq_true p600
                   replace q600:=eq_true q600
                   have p605:0≤(x47_2:Int):=of_decide_eq_true (by first|(with_reducible assumption)|assumption)
                   have q605:x47_2 < (((rd_T42 l1 x27_1).f4).length:Int):=of_decide_eq_true (by first|(with_reducible assumption)|assumption)
                   obtain ⟨ad605,e605,hx605_0⟩:=Kd.at_bool HR597_4.out x47_2 p605 q605
                   have hw605_0:=hx605_0
                   (try rw [← Nbq32.out] at hx605_0)
                   cases e605
                   replace hx605_0:=(HB.out.cell (World.block_lt_of_cell? w _ hx605_0)).trans hx605_0
                   replace p605:=eq_true p605
                   replace q605:=eq_true q605
                   have p52:0≤((ji29):Int):=of_decide_eq_true (by first|(with_reducible assumption)|assumption)
                   have q52:((ji29):Int) < ((x597000_2.length:Int):Int):=of_decide_eq_true (by first|(with_reducible assumption)|assumption)
                   obtain ⟨go52,co52,eo52,gb52,gl52,cl52,HG52⟩:=Kd.R_form HO_597000.out (by omega)
                   (first|cases eo52|(injection eo52 with ea_ en_ ec_;(first|subst ea_|(injection ea_ with ea_;subst ea_));subst ec_;clear en_))
                   have GB52:=zm gb52
                   have GG52:=zm HG52
                   clear gb52 gl52 HG52
                   (first|simp only [add_plain] at hx600_0|skip)
                   obtain ⟨hx52_0,hf52_0⟩:=Kd.R_celln false HO_597000.out ((ji29):Int) p52 q52
                   replace p52:=eq_true p52
                   replace q52:=eq_true q52
                   have HP62:=Kd.R_putn HO_597000.out ((ji29):Int) (rdOf false ((rd_T42 l1 x27_1).f4) x47_2)
                   rw [← Ny606.out] at HP62
                   have HQ62:=zm HP62
                   clear HP62
                   refine start_ (n:=17) (S:=fun w'=>w'.cell? ⟨gb596,0,none⟩=some (.slice (some ⟨go52,0,none⟩) x597000_2.length co61)∧w'.cell? ⟨gb596,1,none⟩=some (u597001)∧w'.cell? ⟨gb596,2,none⟩=some (.int .i64 ji18)∧w'.cell? ⟨gb598,0,none⟩=some (.int .i64 ((rd_T42 l1 x27_1).f0))∧w'.cell? ⟨gb598,1,none⟩=some (.int .i64 ((rd_T42 l1 x27_1).f1))∧w'.cell? ⟨gb598,2,none⟩=some (.int .i64 ((rd_T42 l1 x27_1).f2))∧w'.cell? ⟨gb598,3,none⟩=some (.int .i64 ((rd_T42 l1 x27_1).f3))∧w'.cell? ⟨gb598,4,none⟩=some (.slice (some ad605) ((rd_T42 l1 x27_1).f4).length c597_4)∧w'.cell? ⟨gb598,5,none⟩=some (.slice A597_5 ((rd_T42 l1 x27_1).f5).length c597_5)∧w'.cell? ⟨gb598,6,none⟩=some (.slice A597_6 ((rd_T42 l1 x27_1).f6).length c597_6)∧w'.cell? ⟨go52,((ji29)).toNat,none⟩=some (.bool false)∧w'.cell? (ad605.add (x47_2).toNat)=some (.bool (rdOf false ((rd_T42 l1 x27_1).f4) x47_2))) (ds:=[16]) #[false,false,false,false,false,false,false,false,false,false,false,false,false,false,false,false,false] (by kernel_rfl) rfl rfl ⟨(blk_cell BK596.out 0).trans rfl,(blk_cell BK596.out 1).trans rfl,(blk_cell BK596.out 2).trans rfl,(blk_cell BK598.out 0).trans rfl,(blk_cell BK598.out 1).trans rfl,(blk_cell BK598.out 2).trans rfl,(blk_cell BK598.out 3).trans rfl,(blk_cell BK598.out 4).trans rfl,(blk_cell BK598.out 5).trans rfl,(blk_cell BK598.out 6).trans rfl,hx600_0,((HB.out.cell (World.block_lt_of_cell? w _ hw605_0)).trans hw605_0)⟩ (fun hHeld=>?_);refine with_tabW mapjnl_Replay.tab16 mapjnl_Replay.bits16 (fun HT_ HW_=>?_)
                   generalize wr.drew=w60 at HO_597000 HO_597001 BK587 BK596 BK598 HB GG52 HQ62 hf52_0 hx52_0 hx600_0 hx605_0 hHeld ⊢
                   refine pure_ (i:=0) (N:=some 58) (v:=?_) (a':=?_) #[true,false,false,false,false,false,false,false,false,false,false,false,false,false,false,false,false] rfl rfl (any_of HT_.out (by kernel_rfl)) (fun _ _ _ h=>h) (Or.inl ⟨by rfl,?_⟩) ?_ ?_
                   rotate_left
                   ·intro w'
                    go_simp
                    with_reducible rfl
                   rotate_left
                   ·simp only [Act.put,List.setIfInBounds_toArray,List.set_cons_zero,List.set_cons_succ,i64_w,i32_w]
                    rfl
                   refine pure_ (i:=2) (N:=some 60) (v:=?_) (a':=?_) #[true,false,true,false,false,false,false,false,false,false,false,false,false,false,false,false,false] rfl rfl (any_of HT_.out (by kernel_rfl)) (fun _ _ _ h=>h) (Or.inl ⟨by rfl,?_⟩) ?_ ?_
                   rotate_left
                   ·intro w'
                    go_simp
                    with_reducible rfl
                   rotate_left
                   ·simp only [Act.put,List.setIfInBounds_toArray,List.set_cons_zero,List.set_cons_succ,i64_w,i32_w]
                    rfl
                   refine pure_ (i:=3) (N:=some 61) (v:=?_) (a':=?_) #[true,false,true,true,false,false,false,false,false,false,false,false,false,false,false,false,false] rfl rfl (any_of HT_.out (by kernel_rfl)) (fun _ _ _ h=>h) (Or.inl ⟨by rfl,?_⟩) ?_ ?_
                   rotate_left
                   ·intro w'
                    go_simp
                    with_reducible rfl
                   rotate_left
                   ·simp only [Act.put,List.setIfInBounds_toArray,List.set_cons_zero,List.set_cons_succ,i64_w,i32_w]
                    rfl
                   refine pure_ (i:=5) (N:=some 63) (v:=?_) (a':=?_) #[true,false,true,true,false,true,false,false,false,false,false,false,false,false,false,false,false] rfl rfl (any_of HT_.out (by kernel_rfl)) (fun _ _ _ h=>h) (Or.inl ⟨by rfl,?_⟩) ?_ ?_
                   rotate_left
                   ·intro w'
                    go_simp
                    with_reducible rfl
                   rotate_left
                   ·simp only [Act.put,List.setIfInBounds_toArray,List.set_cons_zero,List.set_cons_succ,i64_w,i32_w]
                    rfl
                   refine take_ (i:=1) (N:=some 59) (v:=?_) (a':=?_) #[true,true,true,true,false,true,false,false,false,false,false,false,false,false,false,false,false] rfl rfl (take_ofW HT_.out HW_.out (by kernel_rfl)) (fun _ _ _ h=>h) (Or.inl ⟨by rfl,?_⟩) hHeld ?_ ?_
                   rotate_left
                   ·rintro w' ⟨s0,s1,s2,s3,s4,s5,s6,s7,s8,s9,s10,s11⟩
                    go_simp
                    with_reducible rfl
                   rotate_left
                   ·simp only [Act.put,List.setIfInBounds_toArray,List.set_cons_zero,List.set_cons_succ,i64_w,i32_w]
                    rfl
                   refine take_ (i:=4) (N:=some 62) (v:=?_) (a':=?_) #[true,true,true,true,true,true,false,false,false,false,false,false,false,false,false,false,false] rfl rfl (take_ofW HT_.out HW_.out (by kernel_rfl)) (fun _ _ _ h=>h) (Or.inl ⟨by rfl,?_⟩) hHeld ?_ ?_
                   rotate_left
                   ·rintro w' ⟨s0,s1,s2,s3,s4,s5,s6,s7,s8,s9,s10,s11⟩
                    go_simp
                    with_reducible rfl
                   rotate_left
                   ·simp only [Act.put,List.setIfInBounds_toArray,List.set_cons_zero,List.set_cons_succ,i64_w,i32_w]
                    rfl
                   refine pure_ (i:=6) (N:=some 64) (v:=?_) (a':=?_) #[true,true,true,true,true,true,true,false,false,false,false,false,false,false,false,false,false] rfl rfl (any_of HT_.out (by kernel_rfl)) (fun _ _ _ h=>h) (Or.inl ⟨by rfl,?_⟩) ?_ ?_
                   rotate_left
                   ·intro w'
                    go_simp
                    with_reducible rfl
                   rotate_left
                   ·simp only [Act.put,List.setIfInBounds_toArray,List.set_cons_zero,List.set_cons_succ,i64_w,i32_w]
                    rfl
                   refine take_ (i:=7) (N:=some 65) (v:=?_) (a':=?_) #[true,true,true,true,true,true,true,true,false,false,false,false,false,false,false,false,false] rfl rfl (take_ofW HT_.out HW_.out (by kernel_rfl)) (fun _ _ _ h=>h) (Or.inl ⟨by rfl,?_⟩) hHeld ?_ ?_
                   rotate_left
                   ·rintro w' ⟨s0,s1,s2,s3,s4,s5,s6,s7,s8,s9,s10,s11⟩
                    go_simp
                    with_reducible rfl
                   rotate_left
                   ·simp only [Act.put,List.setIfInBounds_toArray,List.set_cons_zero,List.set_cons_succ,i64_w,i32_w]
                    rfl
                   refine pure_ (i:=8) (N:=some 66) (v:=?_) (a':=?_) #[true,true,true,true,true,true,true,true,true,false,false,false,false,false,false,false,false] rfl rfl (any_of HT_.out (by kernel_rfl)) (fun _ _ _ h=>h) (Or.inl ⟨by rfl,?_⟩) ?_ ?_
                   rotate_left
                   ·intro w'
                    go_simp
                    with_reducible rfl
                   rotate_left
                   ·simp only [Act.put,List.setIfInBounds_toArray,List.set_cons_zero,List.set_cons_succ,i64_w,i32_w]
                    rfl
                   refine pure_ (i:=9) (N:=some 67) (v:=?_) (a':=?_) #[true,true,true,true,true,true,true,true,true,true,false,false,false,false,false,false,false] rfl rfl (any_of HT_.out (by kernel_rfl)) (fun _ _ _ h=>h) (Or.inl ⟨by rfl,?_⟩) ?_ ?_
                   rotate_left
                   ·intro w'
                    go_simp
                    with_reducible rfl
                   rotate_left
                   ·simp only [Act.put,List.setIfInBounds_toArray,List.set_cons_zero,List.set_cons_succ,i64_w,i32_w]
                    rfl
                   refine pure_ (i:=11) (N:=some 69) (v:=?_) (a':=?_) #[true,true,true,true,true,true,true,true,true,true,false,true,false,false,false,false,false] rfl rfl (any_of HT_.out (by kernel_rfl)) (fun _ _ _ h=>h) (Or.inl ⟨by rfl,?_⟩) ?_ ?_
                   rotate_left
                   ·intro w'
                    go_simp
                    with_reducible rfl
                   rotate_left
                   ·simp only [Act.put,List.setIfInBounds_toArray,List.set_cons_zero,List.set_cons_succ,i64_w,i32_w]
                    rfl
                   refine take_ (i:=10) (N:=some 68) (v:=?_) (a':=?_) #[true,true,true,true,true,true,true,true,true,true,true,true,false,false,false,false,false] rfl rfl (take_ofW HT_.out HW_.out (by kernel_rfl)) (fun _ _ _ h=>h) (Or.inl ⟨by rfl,?_⟩) hHeld ?_ ?_
                   rotate_left
                   ·rintro w' ⟨s0,s1,s2,s3,s4,s5,s6,s7,s8,s9,s10,s11⟩
                    go_simp
                    with_reducible rfl
                   rotate_left
                   ·simp only [Act.put,List.setIfInBounds_toArray,List.set_cons_zero,List.set_cons_succ,i64_w,i32_w]
                    rfl
                   refine pure_ (i:=12) (N:=some 70) (v:=?_) (a':=?_) #[true,true,true,true,true,true,true,true,true,true,true,true,true,false,false,false,false] rfl rfl (any_of HT_.out (by kernel_rfl)) (fun _ _ _ h=>h) (Or.inl ⟨by rfl,?_⟩) ?_ ?_
                   rotate_left
                   ·intro w'
                    go_simp
                    with_reducible rfl
                   rotate_left
                   ·simp only [Act.put,List.setIfInBounds_toArray,List.set_cons_zero,List.set_cons_succ,i64_w,i32_w]
                    rfl
                   refine take_ (i:=13) (N:=some 71) (v:=?_) (a':=?_) #[true,true,true,true,true,true,true,true,true,true,true,true,true,true,false,false,false] rfl rfl (take_ofW HT_.out HW_.out (by kernel_rfl)) (fun _ _ _ h=>h) (Or.inl ⟨by rfl,?_⟩) hHeld ?_ ?_
                   rotate_left
                   ·rintro w' ⟨s0,s1,s2,s3,s4,s5,s6,s7,s8,s9,s10,s11⟩
                    go_simp
                    with_reducible rfl
                   rotate_left
                   ·simp only [Act.put,List.setIfInBounds_toArray,List.set_cons_zero,List.set_cons_succ,i64_w,i32_w]
                    rfl
                   refine pure_ (i:=14) (N:=some 72) (v:=?_) (a':=?_) #[true,true,true,true,true,true,true,true,true,true,true,true,true,true,true,false,false] rfl rfl (any_of HT_.out (by kernel_rfl)) (fun _ _ _ h=>h) (Or.inl ⟨by rfl,?_⟩) ?_ ?_
                   rotate_left
                   ·intro w'
                    go_simp
                    with_reducible rfl
                   rotate_left
                   ·simp only [Act.put,List.setIfInBounds_toArray,List.set_cons_zero,List.set_cons_succ,i64_w,i32_w]
                    rfl
                   refine pure_ (i:=15) (N:=some 73) (v:=?_) (a':=?_) #[true,true,true,true,true,true,true,true,true,true,true,true,true,true,true,true,false] rfl rfl (any_of HT_.out (by kernel_rfl)) (fun _ _ _ h=>h) (Or.inl ⟨by rfl,?_⟩) ?_ ?_
                   rotate_left
                   ·intro w'
                    go_simp
                    with_reducible rfl
                   rotate_left
                   ·simp only [Act.put,List.setIfInBounds_toArray,List.set_cons_zero,List.set_cons_succ,i64_w,i32_w]
                    rfl
                   refine last_ (i:=16) (N:=none) #[true,true,true,true,true,true,true,true,true,true,true,true,true,true,true,true,true] rfl rfl (one_of HT_.out (by kernel_rfl)) (by decide) (fun K hK=>?_)
                   refine skip_ (w1:=?_) (by rfl) rfl ?_ ?_
                   rotate_left
                   ·go_simp
                    rfl
                   refine hK.out _ _ ?_
                   clear hK K
                   refine done_ (done_of HT_.out (by kernel_rfl)) ?_
                   try go_wp2
                   have n0_:Aside0 (Kd.R Kd.bool 4 (w60.setCell ⟨go52,((ji29):Int).toNat,none⟩ (.bool (rdOf false ((rd_T42 l1 x27_1).f4) x47_2))) w.heap.size (fun _=>True) (.slice (some ⟨go52,0,none⟩) x597000_2.length co61) y606):=⟨by (with_reducible repeat (first|apply zrA|apply zrN|apply zrD));exact HQ62.out⟩
                   have n1_:Aside0 (Kd.R (Kd.int .i64) 2 (w60.setCell ⟨go52,((ji29):Int).toNat,none⟩ (.bool (rdOf false ((rd_T42 l1 x27_1).f4) x47_2))) w.heap.size (fun _=>True) u597001 x597001_2):=⟨by (with_reducible repeat (first|apply zrA|apply zrN|apply zrD));exact Kd.R_mono (Kd.R_far (p:=⟨go52,((ji29):Int).toNat,none⟩) (Kd.R_types HO_597001.out GG52.out (by decide)) (fun _ hk=>hk.2) (.bool (rdOf false ((rd_T42 l1 x27_1).f4) x47_2))) (fun _ hk=>trivial)⟩
                   have n2_:Aside0 ((w60.setCell ⟨go52,((ji29):Int).toNat,none⟩ (.bool (rdOf false ((rd_T42 l1 x27_1).f4) x47_2))).heap[gb587]?=some (.cells #[.slice none 0 0,.slice none 0 0,.int .i64 0] 25 (0,0))):=⟨by (with_reducible repeat (first|refine zbN ?_ _|refine zbD ?_|refine zbA ?_ _));refine blk_far ?_ (by have h_:=Kd.R_ne HO_597000.out BK587.out (by decide);intro e_;exact h_ (by rw [e_];rfl)) _;(with_reducible repeat (first|refine zbN ?_ _|refine zbD ?_|refine zbA ?_ _));exact BK587.out⟩
                   have n3_:Aside0 ((w60.setCell ⟨go52,((ji29):Int).toNat,none⟩ (.bool (rdOf false ((rd_T42 l1 x27_1).f4) x47_2))).heap[gb596]?=some (.cells #[.slice (some ⟨go52,0,none⟩) x597000_2.length co61,u597001,.int .i64 ji18] 25 (0,0))):=⟨by (with_reducible repeat (first|refine zbN ?_ _|refine zbD ?_|refine zbA ?_ _));refine blk_far ?_ (by have h_:=Kd.R_ne HO_597000.out BK596.out (by decide);intro e_;exact h_ (by rw [e_];rfl)) _;(with_reducible repeat (first|refine zbN ?_ _|refine zbD ?_|refine zbA ?_ _));exact BK596.out⟩
                   have n4_:Aside0 ((w60.setCell ⟨go52,((ji29):Int).toNat,none⟩ (.bool (rdOf false ((rd_T42 l1 x27_1).f4) x47_2))).heap[gb598]?=some (.cells #[.int .i64 ((rd_T42 l1 x27_1).f0),.int .i64 ((rd_T42 l1 x27_1).f1),.int .i64 ((rd_T42 l1 x27_1).f2),.int .i64 ((rd_T42 l1 x27_1).f3),.slice (some ad605) ((rd_T42 l1 x27_1).f4).length c597_4,.slice A597_5 ((rd_T42 l1 x27_1).f5).length c597_5,.slice A597_6 ((rd_T42 l1 x27_1).f6).length c597_6] 42 (0,0))):=⟨by (with_reducible repeat (first|refine zbN ?_ _|refine zbD ?_|refine zbA ?_ _));refine blk_far ?_ (by have h_:=Kd.R_ne HO_597000.out BK598.out (by decide);intro e_;exact h_ (by rw [e_];rfl)) _;(with_reducible repeat (first|refine zbN ?_ _|refine zbD ?_|refine zbA ?_ _));exact BK598.out⟩
                   have n5_:Aside0 (Below w.heap.size w (w60.setCell ⟨go52,((ji29):Int).toNat,none⟩ (.bool (rdOf false ((rd_T42 l1 x27_1).f4) x47_2)))):=⟨by repeat (first|(with_reducible first|exact HB.out|apply zlA|apply zlN|apply zlD|refine zlS ?_ GB52.out|refine zlS ?_ GE587.out|refine zlS ?_ GE596.out|refine zlS ?_ GE598.out)|exact HB.out)⟩
                   (try clear HO_597000)
                   (try clear HO_597001)
                   (try clear BK587)
                   (try clear BK596)
                   (try clear BK598)
                   (try clear HB)
                   generalize (w60.setCell ⟨go52,((ji29):Int).toNat,none⟩ (.bool (rdOf false ((rd_T42 l1 x27_1).f4) x47_2)))=w63 at n0_ n1_ n2_ n3_ n4_ n5_ ⊢
                   have HO_597000:=n0_
                   have HO_597001:=n1_
                   have BK587:=n2_
                   have BK596:=n3_
                   have BK598:=n4_
                   have HB:=n5_
                   clear n0_ n1_ n2_ n3_ n4_ n5_
                   have n0_:=zm (zrD HO_597000.out)
                   have n1_:=zm (zrD HO_597001.out)
                   have n2_:=zm (zbD BK587.out)
                   have n3_:=zm (zbD BK596.out)
                   have n4_:=zm (zbD BK598.out)
                   have n5_:=zm (zlD HB.out)
                   clear HO_597000 HO_597001 BK587 BK596 BK598 HB
                   have HO_597000:=n0_
                   have HO_597001:=n1_
                   have BK587:=n2_
                   have BK596:=n3_
                   have BK598:=n4_
                   have HB:=n5_
                   clear n0_ n1_ n2_ n3_ n4_ n5_
                   obtain ⟨Ao65,co65,eo65⟩:=Kd.R_slice HO_597001.out
                   (first|subst eo65|(injection eo65 with f1_ f2_ f3_;have f4_:=f1_.symm;have f5_:=f3_.symm;clear f1_ f2_ f3_;subst f4_;subst f5_))
                   have p607:0≤((ji29):Int):=of_decide_eq_true (by first|(with_reducible assumption)|assumption)
                   have q607:(ji29) < (x597001_2.length:Int):=of_decide_eq_true (by first|(with_reducible assumption)|assumption)
                   obtain ⟨ad607,e607,hx607_0⟩:=Kd.at_int (Kd.R_reads' HO_597001.out).2.2 (ji29) p607 q607
                   cases e607
                   replace p607:=eq_true p607
                   replace q607:=eq_true q607
                   have p608:0≤(x47_2:Int):=of_decide_eq_true (by first|(with_reducible assumption)|assumption)
                   have q608:x47_2 < (((rd_T42 l1 x27_1).f5).length:Int):=of_decide_eq_true (by first|(with_reducible assumption)|assumption)
                   obtain ⟨ad608,e608,hx608_0⟩:=Kd.at_int HR597_5.out x47_2 p608 q608
                   have hw608_0:=hx608_0
                   cases e608
                   replace hx608_0:=(HB.out.cell (World.block_lt_of_cell? w _ hx608_0)).trans hx608_0
                   replace p608:=eq_true p608
                   replace q608:=eq_true q608
                   have p56:0≤((ji29):Int):=of_decide_eq_true (by first|(with_reducible assumption)|assumption)
                   have q56:((ji29):Int) < ((x597001_2.length:Int):Int):=of_decide_eq_true (by first|(with_reducible assumption)|assumption)
                   obtain ⟨go56,co56,eo56,gb56,gl56,cl56,HG56⟩:=Kd.R_form HO_597001.out (by omega)
                   (first|cases eo56|(injection eo56 with ea_ en_ ec_;(first|subst ea_|(injection ea_ with ea_;subst ea_));subst ec_;clear en_))
                   have GB56:=zm gb56
                   have GG56:=zm HG56
                   clear gb56 gl56 HG56
                   (first|simp only [add_plain] at hx607_0|skip)
                   obtain ⟨hx56_0,hf56_0⟩:=Kd.R_celln 0 HO_597001.out ((ji29):Int) p56 q56
                   replace p56:=eq_true p56
                   replace q56:=eq_true q56
                   have HP66:=Kd.R_putn HO_597001.out ((ji29):Int) ji55
                   rw [← Ny609.out] at HP66
                   have HQ66:=zm HP66
                   clear HP66
                   refine start_ (n:=16) (S:=fun w'=>w'.cell? ⟨gb596,0,none⟩=some (.slice (some ⟨go52,0,none⟩) x597000_2.length co61)∧w'.cell? ⟨gb596,1,none⟩=some (.slice (some ⟨go56,0,none⟩) x597001_2.length co65)∧w'.cell? ⟨gb596,2,none⟩=some (.int .i64 ji18)∧w'.cell? ⟨gb598,0,none⟩=some (.int .i64 ((rd_T42 l1 x27_1).f0))∧w'.cell? ⟨gb598,1,none⟩=some (.int .i64 ((rd_T42 l1 x27_1).f1))∧w'.cell? ⟨gb598,2,none⟩=some (.int .i64 ((rd_T42 l1 x27_1).f2))∧w'.cell? ⟨gb598,3,none⟩=some (.int .i64 ((rd_T42 l1 x27_1).f3))∧w'.cell? ⟨gb598,4,none⟩=some (.slice (some ad605) ((rd_T42 l1 x27_1).f4).length c597_4)∧w'.cell? ⟨gb598,5,none⟩=some (.slice (some ad608) ((rd_T42 l1 x27_1).f5).length c597_5)∧w'.cell? ⟨gb598,6,none⟩=some (.slice A597_6 ((rd_T42 l1 x27_1).f6).length c597_6)∧w'.cell? ⟨go56,((ji29)).toNat,none⟩=some (.int .i64 (rd x597001_2 (ji29)))∧w'.cell? (ad608.add (x47_2).toNat)=some (.int .i64 (rd ((rd_T42 l1 x27_1).f5) x47_2))) (ds:=[15]) #[false,false,false,false,false,false,false,false,false,false,false,false,false,false,false,false] (by kernel_rfl) rfl rfl ⟨(blk_cell BK596.out 0).trans rfl,(blk_cell BK596.out 1).trans rfl,(blk_cell BK596.out 2).trans rfl,(blk_cell BK598.out 0).trans rfl,(blk_cell BK598.out 1).trans rfl,(blk_cell BK598.out 2).trans rfl,(blk_cell BK598.out 3).trans rfl,(blk_cell BK598.out 4).trans rfl,(blk_cell BK598.out 5).trans rfl,(blk_cell BK598.out 6).trans rfl,hx607_0,((HB.out.cell (World.block_lt_of_cell? w _ hw608_0)).trans hw608_0)⟩ (fun hHeld=>?_);refine with_tabW mapjnl_Replay.tab17 mapjnl_Replay.bits17 (fun HT_ HW_=>?_)
                   generalize w63.drew=w64 at HO_597000 HO_597001 BK587 BK596 BK598 HB GG56 HQ62 HQ66 hf56_0 hx56_0 hx607_0 hx608_0 hHeld ⊢
                   refine pure_ (i:=0) (N:=some 74) (v:=?_) (a':=?_) #[true,false,false,false,false,false,false,false,false,false,false,false,false,false,false,false] rfl rfl (any_of HT_.out (by kernel_rfl)) (fun _ _ _ h=>h) (Or.inl ⟨by rfl,?_⟩) ?_ ?_
                   rotate_left
                   ·intro w'
                    go_simp
                    with_reducible rfl
                   rotate_left
                   ·simp only [Act.put,List.setIfInBounds_toArray,List.set_cons_zero,List.set_cons_succ,i64_w,i32_w]
                    rfl
                   refine pure_ (i:=2) (N:=some 76) (v:=?_) (a':=?_) #[true,false,true,false,false,false,false,false,false,false,false,false,false,false,false,false] rfl rfl (any_of HT_.out (by kernel_rfl)) (fun _ _ _ h=>h) (Or.inl ⟨by rfl,?_⟩) ?_ ?_
                   rotate_left
                   ·intro w'
                    go_simp
                    with_reducible rfl
                   rotate_left
                   ·simp only [Act.put,List.setIfInBounds_toArray,List.set_cons_zero,List.set_cons_succ,i64_w,i32_w]
                    rfl
                   refine pure_ (i:=3) (N:=some 77) (v:=?_) (a':=?_) #[true,false,true,true,false,false,false,false,false,false,false,false,false,false,false,false] rfl rfl (any_of HT_.out (by kernel_rfl)) (fun _ _ _ h=>h) (Or.inl ⟨by rfl,?_⟩) ?_ ?_
                   rotate_left
                   ·intro w'
                    go_simp
                    with_reducible rfl
                   rotate_left
                   ·simp only [Act.put,List.setIfInBounds_toArray,List.set_cons_zero,List.set_cons_succ,i64_w,i32_w]
                    rfl
                   refine pure_ (i:=5) (N:=some 79) (v:=?_) (a':=?_) #[true,false,true,true,false,true,false,false,false,false,false,false,false,false,false,false] rfl rfl (any_of HT_.out (by kernel_rfl)) (fun _ _ _ h=>h) (Or.inl ⟨by rfl,?_⟩) ?_ ?_
                   rotate_left
                   ·intro w'
                    go_simp
                    with_reducible rfl
                   rotate_left
                   ·simp only [Act.put,List.setIfInBounds_toArray,List.set_cons_zero,List.set_cons_succ,i64_w,i32_w]
                    rfl
                   refine pure_ (i:=8) (N:=some 82) (v:=?_) (a':=?_) #[true,false,true,true,false,true,false,false,true,false,false,false,false,false,false,false] rfl rfl (any_of HT_.out (by kernel_rfl)) (fun _ _ _ h=>h) (Or.inl ⟨by rfl,?_⟩) ?_ ?_
                   rotate_left
                   ·intro w'
                    go_simp
                    with_reducible rfl
                   rotate_left
                   ·simp only [Act.put,List.setIfInBounds_toArray,List.set_cons_zero,List.set_cons_succ,i64_w,i32_w]
                    rfl
                   refine pure_ (i:=10) (N:=some 84) (v:=?_) (a':=?_) #[true,false,true,true,false,true,false,false,true,false,true,false,false,false,false,false] rfl rfl (any_of HT_.out (by kernel_rfl)) (fun _ _ _ h=>h) (Or.inl ⟨by rfl,?_⟩) ?_ ?_
                   rotate_left
                   ·intro w'
                    go_simp
                    with_reducible rfl
                   rotate_left
                   ·simp only [Act.put,List.setIfInBounds_toArray,List.set_cons_zero,List.set_cons_succ,i64_w,i32_w]
                    rfl
                   refine take_ (i:=1) (N:=some 75) (v:=?_) (a':=?_) #[true,true,true,true,false,true,false,false,true,false,true,false,false,false,false,false] rfl rfl (take_ofW HT_.out HW_.out (by kernel_rfl)) (fun _ _ _ h=>h) (Or.inl ⟨by rfl,?_⟩) hHeld ?_ ?_
                   rotate_left
                   ·rintro w' ⟨s0,s1,s2,s3,s4,s5,s6,s7,s8,s9,s10,s11⟩
                    go_simp
                    with_reducible rfl
                   rotate_left
                   ·simp only [Act.put,List.setIfInBounds_toArray,List.set_cons_zero,List.set_cons_succ,i64_w,i32_w]
                    rfl
                   refine take_ (i:=4) (N:=some 78) (v:=?_) (a':=?_) #[true,true,true,true,true,true,false,false,true,false,true,false,false,false,false,false] rfl rfl (take_ofW HT_.out HW_.out (by kernel_rfl)) (fun _ _ _ h=>h) (Or.inl ⟨by rfl,?_⟩) hHeld ?_ ?_
                   rotate_left
                   ·rintro w' ⟨s0,s1,s2,s3,s4,s5,s6,s7,s8,s9,s10,s11⟩
                    go_simp
                    with_reducible rfl
                   rotate_left
                   ·simp only [Act.put,List.setIfInBounds_toArray,List.set_cons_zero,List.set_cons_succ,i64_w,i32_w]
                    rfl
                   refine pure_ (i:=6) (N:=some 80) (v:=?_) (a':=?_) #[true,true,true,true,true,true,true,false,true,false,true,false,false,false,false,false] rfl rfl (any_of HT_.out (by kernel_rfl)) (fun _ _ _ h=>h) (Or.inl ⟨by rfl,?_⟩) ?_ ?_
                   rotate_left
                   ·intro w'
                    go_simp
                    with_reducible rfl
                   rotate_left
                   ·simp only [Act.put,List.setIfInBounds_toArray,List.set_cons_zero,List.set_cons_succ,i64_w,i32_w]
                    rfl
                   refine take_ (i:=7) (N:=some 81) (v:=?_) (a':=?_) #[true,true,true,true,true,true,true,true,true,false,true,false,false,false,false,false] rfl rfl (take_ofW HT_.out HW_.out (by kernel_rfl)) (fun _ _ _ h=>h) (Or.inl ⟨by rfl,?_⟩) hHeld ?_ ?_
                   rotate_left
                   ·rintro w' ⟨s0,s1,s2,s3,s4,s5,s6,s7,s8,s9,s10,s11⟩
                    go_simp
                    with_reducible rfl
                   rotate_left
                   ·simp only [Act.put,List.setIfInBounds_toArray,List.set_cons_zero,List.set_cons_succ,i64_w,i32_w]
                    rfl
                   refine take_ (i:=9) (N:=some 83) (v:=?_) (a':=?_) #[true,true,true,true,true,true,true,true,true,true,true,false,false,false,false,false] rfl rfl (take_ofW HT_.out HW_.out (by kernel_rfl)) (fun _ _ _ h=>h) (Or.inl ⟨by rfl,?_⟩) hHeld ?_ ?_
                   rotate_left
                   ·rintro w' ⟨s0,s1,s2,s3,s4,s5,s6,s7,s8,s9,s10,s11⟩
                    go_simp
                    with_reducible rfl
                   rotate_left
                   ·simp only [Act.put,List.setIfInBounds_toArray,List.set_cons_zero,List.set_cons_succ,i64_w,i32_w]
                    rfl
                   refine pure_ (i:=11) (N:=some 85) (v:=?_) (a':=?_) #[true,true,true,true,true,true,true,true,true,true,true,true,false,false,false,false] rfl rfl (any_of HT_.out (by kernel_rfl)) (fun _ _ _ h=>h) (Or.inl ⟨by rfl,?_⟩) ?_ ?_
                   rotate_left
                   ·intro w'
                    go_simp
                    with_reducible rfl
                   rotate_left
                   ·simp only [Act.put,List.setIfInBounds_toArray,List.set_cons_zero,List.set_cons_succ,i64_w,i32_w]
                    rfl
                   refine take_ (i:=12) (N:=some 86) (v:=?_) (a':=?_) #[true,true,true,true,true,true,true,true,true,true,true,true,true,false,false,false] rfl rfl (take_ofW HT_.out HW_.out (by kernel_rfl)) (fun _ _ _ h=>h) (Or.inl ⟨by rfl,?_⟩) hHeld ?_ ?_
                   rotate_left
                   ·rintro w' ⟨s0,s1,s2,s3,s4,s5,s6,s7,s8,s9,s10,s11⟩
                    go_simp
                    with_reducible rfl
                   rotate_left
                   ·simp only [Act.put,List.setIfInBounds_toArray,List.set_cons_zero,List.set_cons_succ,i64_w,i32_w]
                    rfl
                   refine pure_ (i:=13) (N:=some 87) (v:=?_) (a':=?_) #[true,true,true,true,true,true,true,true,true,true,true,true,true,true,false,false] rfl rfl (any_of HT_.out (by kernel_rfl)) (fun _ _ _ h=>h) (Or.inl ⟨by rfl,?_⟩) ?_ ?_
                   rotate_left
                   ·intro w'
                    go_simp
                    with_reducible rfl
                   rotate_left
                   ·simp only [Act.put,List.setIfInBounds_toArray,List.set_cons_zero,List.set_cons_succ,i64_w,i32_w]
                    rfl
                   refine pure_ (i:=14) (N:=some 88) (v:=?_) (a':=?_) #[true,true,true,true,true,true,true,true,true,true,true,true,true,true,true,false] rfl rfl (any_of HT_.out (by kernel_rfl)) (fun _ _ _ h=>h) (Or.inl ⟨by rfl,?_⟩) ?_ ?_
                   rotate_left
                   ·intro w'
                    go_simp
                    with_reducible rfl
                   rotate_left
                   ·simp only [Act.put,List.setIfInBounds_toArray,List.set_cons_zero,List.set_cons_succ,i64_w,i32_w]
                    rfl
                   refine last_ (i:=15) (N:=none) #[true,true,true,true,true,true,true,true,true,true,true,true,true,true,true,true] rfl rfl (one_of HT_.out (by kernel_rfl)) (by decide) (fun K hK=>?_)
                   refine skip_ (w1:=?_) (by rfl) rfl ?_ ?_
                   rotate_left
                   ·go_simp
                    rfl
                   refine hK.out _ _ ?_
                   clear hK K
                   refine done_ (done_of HT_.out (by kernel_rfl)) ?_
                   try go_wp2
                   go_roundg k2
                   case measure=>have:=HK1.out;have:=HK2.out;omega
                   case rel=>exact ⟨(wrap64 (x47_2 + 1)),(y606),(y609),(.slice (some ⟨go52,0,none⟩) x597000_2.length co61),(.slice (some ⟨go56,0,none⟩) x597001_2.length co65),(by first|rfl|(simp;done)|(simp [*];done)),H',⟨by have:=HK1.out;have:=HK2.out;omega⟩,⟨by (with_reducible repeat (first|apply zrA|apply zrN|apply zrD));exact Kd.R_mono (Kd.R_far (p:=⟨go56,((ji29):Int).toNat,none⟩) (Kd.R_types HO_597000.out GG56.out (by decide)) (fun _ hk=>hk.2) (.int .i64 ji55)) (fun _ hk=>trivial)⟩,⟨by (with_reducible repeat (first|apply zrA|apply zrN|apply zrD));exact HQ66.out⟩,⟨by (with_reducible repeat (first|refine zbN ?_ _|refine zbD ?_|refine zbA ?_ _));refine blk_far ?_ (by have h_:=Kd.R_ne HO_597001.out BK587.out (by decide);intro e_;exact h_ (by rw [e_];rfl)) _;(with_reducible repeat (first|refine zbN ?_ _|refine zbD ?_|refine zbA ?_ _));exact BK587.out⟩,⟨by (with_reducible repeat (first|refine zbN ?_ _|refine zbD ?_|refine zbA ?_ _));refine blk_far ?_ (by have h_:=Kd.R_ne HO_597001.out BK596.out (by decide);intro e_;exact h_ (by rw [e_];rfl)) _;(with_reducible repeat (first|refine zbN ?_ _|refine zbD ?_|refine zbA ?_ _));exact BK596.out⟩,⟨by (with_reducible repeat (first|refine zbN ?_ _|refine zbD ?_|refine zbA ?_ _));refine blk_far ?_ (by have h_:=Kd.R_ne HO_597001.out BK598.out (by decide);intro e_;exact h_ (by rw [e_];rfl)) _;(with_reducible repeat (first|refine zbN ?_ _|refine zbD ?_|refine zbA ?_ _));exact BK598.out⟩,⟨by repeat (first|(with_reducible first|exact HB.out|apply zlA|apply zlN|apply zlD|refine zlS ?_ GB56.out|refine zlS ?_ GE587.out|refine zlS ?_ GE596.out|refine zlS ?_ GE598.out)|exact HB.out)⟩⟩
                  ·rw [if_neg c54] at H
                   exact absurd H (by simp)
                 ·rw [if_neg c53] at H
                  exact absurd H (by simp)
                ·rw [if_neg c51] at H
                 exact absurd H (by simp)
               ·rw [if_neg c50] at H
                exact absurd H (by simp)
             ·rw [if_neg c31] at H
              exact absurd H (by simp)
            ·rw [if_neg c30] at H
             exact absurd H (by simp)
           ·rw [if_neg c28] at H
            have c28b0:decide ((wrap64 ((wrap64 (((rd_T42 l1 x27_1).f2) * 64)) + x47_2)) < a0)=false:=decide_eq_false c28
            clear c28
            have H':=zm H
            clear H
            have hnb67:=NB598_587.out
            have hnc67:=NB587_598.out
            have hnb68:=NB598_596.out
            have hnc68:=NB596_598.out
            have hcz69_0:wr.cell? ⟨gb598,0,none⟩=some (.int .i64 ((rd_T42 l1 x27_1).f0)):=(blk_cell BK598.out 0).trans rfl
            have hcz69_1:wr.cell? ⟨gb598,1,none⟩=some (.int .i64 ((rd_T42 l1 x27_1).f1)):=(blk_cell BK598.out 1).trans rfl
            have hcz69_2:wr.cell? ⟨gb598,2,none⟩=some (.int .i64 ((rd_T42 l1 x27_1).f2)):=(blk_cell BK598.out 2).trans rfl
            have hcz69_3:wr.cell? ⟨gb598,3,none⟩=some (.int .i64 ((rd_T42 l1 x27_1).f3)):=(blk_cell BK598.out 3).trans rfl
            have hcz69_4:wr.cell? ⟨gb598,4,none⟩=some (.slice A597_4 ((rd_T42 l1 x27_1).f4).length c597_4):=(blk_cell BK598.out 4).trans rfl
            have hcz69_5:wr.cell? ⟨gb598,5,none⟩=some (.slice A597_5 ((rd_T42 l1 x27_1).f5).length c597_5):=(blk_cell BK598.out 5).trans rfl
            have hcz69_6:wr.cell? ⟨gb598,6,none⟩=some (.slice A597_6 ((rd_T42 l1 x27_1).f6).length c597_6):=(blk_cell BK598.out 6).trans rfl
            have hfz69_0:=blk_frozen BK598.out 0
            have hfz69_1:=blk_frozen BK598.out 1
            have hfz69_2:=blk_frozen BK598.out 2
            have hfz69_3:=blk_frozen BK598.out 3
            have hfz69_4:=blk_frozen BK598.out 4
            have hfz69_5:=blk_frozen BK598.out 5
            have hfz69_6:=blk_frozen BK598.out 6
            go_wp2
            go_roundg k2
            case measure=>have:=HK1.out;have:=HK2.out;omega
            case rel=>exact ⟨(wrap64 (x47_2 + 1)),(x597000_2),(x597001_2),(u597000),(u597001),(by first|rfl|(simp;done)|(simp [*];done)),H',⟨by have:=HK1.out;have:=HK2.out;omega⟩,⟨by (with_reducible repeat (first|apply zrA|apply zrN|apply zrD));exact HO_597000.out⟩,⟨by (with_reducible repeat (first|apply zrA|apply zrN|apply zrD));exact HO_597001.out⟩,⟨by (with_reducible repeat (first|refine zbN ?_ _|refine zbD ?_|refine zbA ?_ _));exact BK587.out⟩,⟨by (with_reducible repeat (first|refine zbN ?_ _|refine zbD ?_|refine zbA ?_ _));exact BK596.out⟩,⟨by (with_reducible repeat (first|refine zbN ?_ _|refine zbD ?_|refine zbA ?_ _));exact BK598.out⟩,⟨by repeat (first|(with_reducible first|exact HB.out|apply zlA|apply zlN|apply zlD|refine zlS ?_ GE587.out|refine zlS ?_ GE596.out|refine zlS ?_ GE598.out)|exact HB.out)⟩⟩
          ·rw [if_neg c27] at H
           have c27b0:decide (x47_2 < (((rd_T42 l1 x27_1).f4).length:Int))=false:=decide_eq_false c27
           clear c27
           have H':=zm H
           clear H
           have hnb70:=NB598_587.out
           have hnc70:=NB587_598.out
           have hnb71:=NB598_596.out
           have hnc71:=NB596_598.out
           have hcz72_0:wr.cell? ⟨gb598,0,none⟩=some (.int .i64 ((rd_T42 l1 x27_1).f0)):=(blk_cell BK598.out 0).trans rfl
           have hcz72_1:wr.cell? ⟨gb598,1,none⟩=some (.int .i64 ((rd_T42 l1 x27_1).f1)):=(blk_cell BK598.out 1).trans rfl
           have hcz72_2:wr.cell? ⟨gb598,2,none⟩=some (.int .i64 ((rd_T42 l1 x27_1).f2)):=(blk_cell BK598.out 2).trans rfl
           have hcz72_3:wr.cell? ⟨gb598,3,none⟩=some (.int .i64 ((rd_T42 l1 x27_1).f3)):=(blk_cell BK598.out 3).trans rfl
           have hcz72_4:wr.cell? ⟨gb598,4,none⟩=some (.slice A597_4 ((rd_T42 l1 x27_1).f4).length c597_4):=(blk_cell BK598.out 4).trans rfl
           have hcz72_5:wr.cell? ⟨gb598,5,none⟩=some (.slice A597_5 ((rd_T42 l1 x27_1).f5).length c597_5):=(blk_cell BK598.out 5).trans rfl
           have hcz72_6:wr.cell? ⟨gb598,6,none⟩=some (.slice A597_6 ((rd_T42 l1 x27_1).f6).length c597_6):=(blk_cell BK598.out 6).trans rfl
           have hfz72_0:=blk_frozen BK598.out 0
           have hfz72_1:=blk_frozen BK598.out 1
           have hfz72_2:=blk_frozen BK598.out 2
           have hfz72_3:=blk_frozen BK598.out 3
           have hfz72_4:=blk_frozen BK598.out 4
           have hfz72_5:=blk_frozen BK598.out 5
           have hfz72_6:=blk_frozen BK598.out 6
           go_wp2
           go_loopg [93] k2 (fun kq v93 w'=>∃ (x93_3:Int) (x597000_3:List Bool) (x597001_3:List Int) (x597002_3:Int) (u597000:Value) (u597001:Value),v93=.int .i64 x93_3∧Aside0 (mapjnl_Replay.l2 kq a0 ji17 l1 (l1.length:Int) x27_1 ((rd_T42 l1 x27_1).f6) (((rd_T42 l1 x27_1).f6).length:Int) x93_3 x597000_3 x597001_3 x597002_3=some (r1,r2,r3,r4,r5))∧Aside0 (kq≤k2)∧Aside0 (Kd.R Kd.bool 4 w' w.heap.size (fun _=>True) u597000 x597000_3)∧Aside0 (Kd.R (Kd.int .i64) 2 w' w.heap.size (fun _=>True) u597001 x597001_3)∧Aside0 (w'.heap[gb587]?=some (.cells #[(.slice none 0 0),(.slice none 0 0),.int .i64 0] 25 (0,0)))∧Aside0 (w'.heap[gb596]?=some (.cells #[u597000,u597001,.int .i64 x597002_3] 25 (0,0)))∧Aside0 (w'.heap[gb598]?=some (.cells #[.int .i64 ((rd_T42 l1 x27_1).f0),.int .i64 ((rd_T42 l1 x27_1).f1),.int .i64 ((rd_T42 l1 x27_1).f2),.int .i64 ((rd_T42 l1 x27_1).f3),(.slice A597_4 ((rd_T42 l1 x27_1).f4).length c597_4),(.slice A597_5 ((rd_T42 l1 x27_1).f5).length c597_5),(.slice A597_6 ((rd_T42 l1 x27_1).f6).length c597_6)] 42 (0,0)))∧Aside0 (Below w.heap.size w w'))
           case atStart=>exact ⟨(0),(x597000_2),(x597001_2),(ji18),(u597000),(u597001),(by first|rfl|(simp;done)|(simp [*];done)),H',⟨Nat.le_refl _⟩,⟨by (with_reducible repeat (first|apply zrA|apply zrN|apply zrD));exact HO_597000.out⟩,⟨by (with_reducible repeat (first|apply zrA|apply zrN|apply zrD));exact HO_597001.out⟩,⟨by (with_reducible repeat (first|refine zbN ?_ _|refine zbD ?_|refine zbA ?_ _));exact BK587.out⟩,⟨by (with_reducible repeat (first|refine zbN ?_ _|refine zbD ?_|refine zbA ?_ _));exact BK596.out⟩,⟨by (with_reducible repeat (first|refine zbN ?_ _|refine zbD ?_|refine zbA ?_ _));exact BK598.out⟩,⟨by repeat (first|(with_reducible first|exact HB.out|apply zlA|apply zlN|apply zlD|refine zlS ?_ GE587.out|refine zlS ?_ GE596.out|refine zlS ?_ GE598.out)|exact HB.out)⟩⟩
           case round =>
            clear H'
            try clear c2
            try clear p2
            try clear c3
            try clear q3
            try clear c5
            try clear p5
            try clear q5
            try clear hx5
            try clear hf5
            try clear c6
            try clear p6
            try clear q6
            try clear hx6
            try clear c7
            try clear c27
            try clear c27b0
            try clear c28
            try clear c28b0
            try clear c30
            try clear c31
            try clear q32
            try clear c33
            try clear c35
            try clear c36
            try clear c37
            try clear c50
            try clear c50b0
            try clear c51
            try clear c51b0
            try clear p52
            try clear q52
            try clear hx52
            try clear hf52
            try clear c53
            try clear c53b0
            try clear c54
            try clear c54b0
            try clear p56
            try clear q56
            try clear hx56
            try clear hf56
            try clear c57
            try clear c58
            try clear c59
            try clear p60
            try clear q60
            try clear hx60
            try clear p64
            try clear c67
            try clear c68
            try clear c70
            try clear c71
            try clear hcz59_0
            try clear hcz59_1
            try clear hcz59_2
            try clear hcz59_3
            try clear hcz59_4
            try clear hcz59_5
            try clear hcz59_6
            try clear hcz69_0
            try clear hcz69_1
            try clear hcz69_2
            try clear hcz69_3
            try clear hcz69_4
            try clear hcz69_5
            try clear hcz69_6
            try clear hcz72_0
            try clear hcz72_1
            try clear hcz72_2
            try clear hcz72_3
            try clear hcz72_4
            try clear hcz72_5
            try clear hcz72_6
            try clear hfz59_0
            try clear hfz59_1
            try clear hfz59_2
            try clear hfz59_3
            try clear hfz59_4
            try clear hfz59_5
            try clear hfz59_6
            try clear hfz69_0
            try clear hfz69_1
            try clear hfz69_2
            try clear hfz69_3
            try clear hfz69_4
            try clear hfz69_5
            try clear hfz69_6
            try clear hfz72_0
            try clear hfz72_1
            try clear hfz72_2
            try clear hfz72_3
            try clear hfz72_4
            try clear hfz72_5
            try clear hfz72_6
            try clear hx52_0
            try clear hx56_0
            try clear hx600_0
            try clear hx605_0
            try clear hx607_0
            try clear hx608_0
            try clear p52
            try clear p56
            try clear p600
            try clear p605
            try clear p607
            try clear p608
            try clear q52
            try clear q56
            try clear q600
            try clear q605
            try clear q607
            try clear q608
            obtain ⟨x93_3,x597000_3,x597001_3,x597002_3,u597000,u597001,rfl,HA,HK3,HO_597000,HO_597001,BK587,BK596,BK598,HB⟩:=hrel
            cases gk with
            | zero=>exact absurd HA.out (by simp [mapjnl_Replay.l2])
            | succ k3 =>
             have H:=HA.out
             clear HA
             simp only [mapjnl_Replay.l2] at H
             by_cases c73:x93_3 < (((rd_T42 l1 x27_1).f6).length:Int)
             ·rw [if_pos c73] at H
              have c73b0:decide (x93_3 < (((rd_T42 l1 x27_1).f6).length:Int))=true:=decide_eq_true c73
              clear c73
              by_cases c74:0≤x93_3
              ·rw [if_pos c74] at H
               have c74b0:decide (0≤x93_3)=true:=decide_eq_true c74
               clear c74
               by_cases c75:x93_3 < (((rd_T42 l1 x27_1).f6).length:Int)
               ·rw [if_pos c75] at H
                have c75b0:decide (x93_3 < (((rd_T42 l1 x27_1).f6).length:Int))=true:=decide_eq_true c75
                clear c75
                by_cases c76:((rd_T55 ((rd_T42 l1 x27_1).f6) x93_3).f1) < a0
                ·rw [if_pos c76] at H
                 have c76b0:decide (((rd_T55 ((rd_T42 l1 x27_1).f6) x93_3).f1) < a0)=true:=decide_eq_true c76
                 clear c76
                 replace H:=Option.bind_eq_some_iff.mp H
                 obtain ⟨⟨t612,t615,t618⟩,A770,H⟩:=H
                 replace H:(mapjnl_Replay.l2 k3 a0 ji17 l1 (l1.length:Int) x27_1 ((rd_T42 l1 x27_1).f6) (((rd_T42 l1 x27_1).f6).length:Int) (wrap64 (x93_3 + 1)) t612 t615 t618)=some (r1,r2,r3,r4,r5):=H
                 have A77:=zm A770
                 clear A770
                 have H':=zm H
                 clear H
                 have p610:0≤(x93_3:Int):=of_decide_eq_true (by first|(with_reducible assumption)|assumption)
                 have q610:x93_3 < (((rd_T42 l1 x27_1).f6).length:Int):=of_decide_eq_true (by first|(with_reducible assumption)|assumption)
                 obtain ⟨ad610,e610,hx610_0,hx610_1,hx610_2⟩:=at_T55 HR597_6.out x93_3 p610 q610
                 cases e610
                 replace hx610_0:=(HB.out.cell (World.block_lt_of_cell? w _ hx610_0)).trans hx610_0
                 replace hx610_1:=(HB.out.cell (World.block_lt_of_cell? w _ hx610_1)).trans hx610_1
                 replace hx610_2:=(HB.out.cell (World.block_lt_of_cell? w _ hx610_2)).trans hx610_2
                 replace p610:=eq_true p610
                 replace q610:=eq_true q610
                 go_wp2_with (first|((with_reducible refine gate_dst (N:=15) rfl ?_);refine box_event ?hg (N:=15) ?hd (cs:=#[.int .i64 0,.int .i64 0,.int .i64 0]) (t:=55) ?hr ?_;(case hd=>rfl);(case hg=>rfl);(case hr=>first|(go_simp;done)|(go_simp;rfl));intro gb611 hg w78 hbox hb;have n0_:=zm (Kd.R_below (by (with_reducible repeat (first|apply zrA|apply zrN|apply zrD));exact HO_597000.out) hb);have n1_:=zm (Kd.R_below (by (with_reducible repeat (first|apply zrA|apply zrN|apply zrD));exact HO_597001.out) hb);have n2_:=zm (zbB (g:=gb587) (o:=.cells #[.slice none 0 0,.slice none 0 0,.int .i64 0] 25 (0,0)) (by (with_reducible repeat (first|refine zbN ?_ _|refine zbD ?_|refine zbA ?_ _));exact BK587.out) hb);have n3_:=zm (zbB (g:=gb596) (o:=.cells #[u597000,u597001,.int .i64 x597002_3] 25 (0,0)) (by (with_reducible repeat (first|refine zbN ?_ _|refine zbD ?_|refine zbA ?_ _));exact BK596.out) hb);have n4_:=zm (zbB (g:=gb598) (o:=.cells #[.int .i64 ((rd_T42 l1 x27_1).f0),.int .i64 ((rd_T42 l1 x27_1).f1),.int .i64 ((rd_T42 l1 x27_1).f2),.int .i64 ((rd_T42 l1 x27_1).f3),.slice A597_4 ((rd_T42 l1 x27_1).f4).length c597_4,.slice A597_5 ((rd_T42 l1 x27_1).f5).length c597_5,.slice (some ad610) ((rd_T42 l1 x27_1).f6).length c597_6] 42 (0,0)) (by (with_reducible repeat (first|refine zbN ?_ _|refine zbD ?_|refine zbA ?_ _));exact BK598.out) hb);have n5_:=zm (below_step (by repeat (first|(with_reducible first|exact HB.out|apply zlA|apply zlN|apply zlD|refine zlS ?_ GE587.out|refine zlS ?_ GE596.out|refine zlS ?_ GE598.out)|exact HB.out)) hb);have n6_:=zm (hbox);have n7_:=zm ((by rw [hg];exact (below_size (by repeat (first|(with_reducible first|exact HB.out|apply zlA|apply zlN|apply zlD|refine zlS ?_ GE587.out|refine zlS ?_ GE596.out|refine zlS ?_ GE598.out)|exact HB.out))):w.heap.size≤gb611));have n8_:=zm ((by rw [hg];exact (below_size (by repeat (first|(with_reducible first|exact HB.out|apply zlA|apply zlN|apply zlD|refine zlS ?_ GE587.out|refine zlS ?_ GE596.out|refine zlS ?_ GE598.out)|exact HB.out))):w.heap.size≤gb611));have n9_:=zm ((by rw [hg];exact Nat.ne_of_lt (blk_lt (g:=gb587) (o:=.cells #[.slice none 0 0,.slice none 0 0,.int .i64 0] 25 (0,0)) (by (with_reducible repeat (first|refine zbN ?_ _|refine zbD ?_|refine zbA ?_ _));exact BK587.out)):gb587≠gb611));have n10_:=zm ((by rw [hg];exact Nat.ne_of_gt (blk_lt (g:=gb587) (o:=.cells #[.slice none 0 0,.slice none 0 0,.int .i64 0] 25 (0,0)) (by (with_reducible repeat (first|refine zbN ?_ _|refine zbD ?_|refine zbA ?_ _));exact BK587.out)):gb611≠gb587));have n11_:=zm ((by rw [hg];exact Nat.ne_of_lt (blk_lt (g:=gb596) (o:=.cells #[u597000,u597001,.int .i64 x597002_3] 25 (0,0)) (by (with_reducible repeat (first|refine zbN ?_ _|refine zbD ?_|refine zbA ?_ _));exact BK596.out)):gb596≠gb611));have n12_:=zm ((by rw [hg];exact Nat.ne_of_gt (blk_lt (g:=gb596) (o:=.cells #[u597000,u597001,.int .i64 x597002_3] 25 (0,0)) (by (with_reducible repeat (first|refine zbN ?_ _|refine zbD ?_|refine zbA ?_ _));exact BK596.out)):gb611≠gb596));have n13_:=zm ((by rw [hg];exact Nat.ne_of_lt (blk_lt (g:=gb598) (o:=.cells #[.int .i64 ((rd_T42 l1 x27_1).f0),.int .i64 ((rd_T42 l1 x27_1).f1),.int .i64 ((rd_T42 l1 x27_1).f2),.int .i64 ((rd_T42 l1 x27_1).f3),.slice A597_4 ((rd_T42 l1 x27_1).f4).length c597_4,.slice A597_5 ((rd_T42 l1 x27_1).f5).length c597_5,.slice (some ad610) ((rd_T42 l1 x27_1).f6).length c597_6] 42 (0,0)) (by (with_reducible repeat (first|refine zbN ?_ _|refine zbD ?_|refine zbA ?_ _));exact BK598.out)):gb598≠gb611));have n14_:=zm ((by rw [hg];exact Nat.ne_of_gt (blk_lt (g:=gb598) (o:=.cells #[.int .i64 ((rd_T42 l1 x27_1).f0),.int .i64 ((rd_T42 l1 x27_1).f1),.int .i64 ((rd_T42 l1 x27_1).f2),.int .i64 ((rd_T42 l1 x27_1).f3),.slice A597_4 ((rd_T42 l1 x27_1).f4).length c597_4,.slice A597_5 ((rd_T42 l1 x27_1).f5).length c597_5,.slice (some ad610) ((rd_T42 l1 x27_1).f6).length c597_6] 42 (0,0)) (by (with_reducible repeat (first|refine zbN ?_ _|refine zbD ?_|refine zbA ?_ _));exact BK598.out)):gb611≠gb598));clear HO_597000 HO_597001 BK587 BK596 BK598 HB;have HO_597000:=n0_;have HO_597001:=n1_;have BK587:=n2_;have BK596:=n3_;have BK598:=n4_;have HB:=n5_;have BK611:=n6_;have GW611:=n7_;have GE611:=n8_;have NB587_611:=n9_;have NB611_587:=n10_;have NB596_611:=n11_;have NB611_596:=n12_;have NB598_611:=n13_;have NB611_598:=n14_;clear n0_ n1_ n2_ n3_ n4_ n5_ n6_ n7_ n8_ n9_ n10_ n11_ n12_ n13_ n14_;clear hb hbox hg;have hnb79:=NB611_587.out;have hnc79:=NB587_611.out;have hnb80:=NB611_596.out;have hnc80:=NB596_611.out;have hnb81:=NB611_598.out;have hnc81:=NB598_611.out;have hcz82_0:w78.cell? ⟨gb611,0,none⟩=some (.int .i64 0):=(blk_cell BK611.out 0).trans rfl;have hcz82_1:w78.cell? ⟨gb611,1,none⟩=some (.int .i64 0):=(blk_cell BK611.out 1).trans rfl;have hcz82_2:w78.cell? ⟨gb611,2,none⟩=some (.int .i64 0):=(blk_cell BK611.out 2).trans rfl;have hfz82_0:=blk_frozen BK611.out 0;have hfz82_1:=blk_frozen BK611.out 1;have hfz82_2:=blk_frozen BK611.out 2)|((with_reducible refine gate_store (t:=55) (p:=15) rfl ?_);refine store_event (t:=55) (p:=15) (v:=?vo_w83) (w1:=(((w78.setCell ⟨gb611,0,none⟩ (.int .i64 ((rd_T55 ((rd_T42 l1 x27_1).f6) x93_3).f0))).setCell ⟨gb611,1,none⟩ (.int .i64 ((rd_T55 ((rd_T42 l1 x27_1).f6) x93_3).f1))).setCell ⟨gb611,2,none⟩ (.int .i64 ((rd_T55 ((rd_T42 l1 x27_1).f6) x93_3).f2)))) ?hg ?ho ?hn ?hr ?_;(case ho=>rfl);(case hg=>rfl);(case hn=>rfl);(case hr=>first|(go_simp;done)|(go_simp;rfl));intro w83 hw;have n0_:Aside0 (Kd.R Kd.bool 4 w83 w.heap.size (fun _=>True) u597000 x597000_3):=⟨(by rw [hw];exact (by (with_reducible repeat (first|apply zrA|apply zrN|apply zrD));exact Kd.R_mono (Kd.R_far (p:=⟨gb611,2,none⟩) (Kd.R_far (p:=⟨gb611,1,none⟩) (Kd.R_far (p:=⟨gb611,0,none⟩) (Kd.R_types HO_597000.out BK611.out (by decide)) (fun _ hk=>hk.2) (.int .i64 ((rd_T55 ((rd_T42 l1 x27_1).f6) x93_3).f0))) (fun _ hk=>hk.2) (.int .i64 ((rd_T55 ((rd_T42 l1 x27_1).f6) x93_3).f1))) (fun _ hk=>hk.2) (.int .i64 ((rd_T55 ((rd_T42 l1 x27_1).f6) x93_3).f2))) (fun _ hk=>trivial)))⟩;have n1_:Aside0 (Kd.R (Kd.int .i64) 2 w83 w.heap.size (fun _=>True) u597001 x597001_3):=⟨(by rw [hw];exact (by (with_reducible repeat (first|apply zrA|apply zrN|apply zrD));exact Kd.R_mono (Kd.R_far (p:=⟨gb611,2,none⟩) (Kd.R_far (p:=⟨gb611,1,none⟩) (Kd.R_far (p:=⟨gb611,0,none⟩) (Kd.R_types HO_597001.out BK611.out (by decide)) (fun _ hk=>hk.2) (.int .i64 ((rd_T55 ((rd_T42 l1 x27_1).f6) x93_3).f0))) (fun _ hk=>hk.2) (.int .i64 ((rd_T55 ((rd_T42 l1 x27_1).f6) x93_3).f1))) (fun _ hk=>hk.2) (.int .i64 ((rd_T55 ((rd_T42 l1 x27_1).f6) x93_3).f2))) (fun _ hk=>trivial)))⟩;have n2_:Aside0 (w83.heap[gb587]?=some (.cells #[.slice none 0 0,.slice none 0 0,.int .i64 0] 25 (0,0))):=⟨(by rw [hw];exact (by (with_reducible repeat (first|refine zbN ?_ _|refine zbD ?_|refine zbA ?_ _));refine blk_far ?_ NB587_611.out _;(with_reducible repeat (first|refine zbN ?_ _|refine zbD ?_|refine zbA ?_ _));refine blk_far ?_ NB587_611.out _;(with_reducible repeat (first|refine zbN ?_ _|refine zbD ?_|refine zbA ?_ _));refine blk_far ?_ NB587_611.out _;(with_reducible repeat (first|refine zbN ?_ _|refine zbD ?_|refine zbA ?_ _));exact BK587.out))⟩;have n3_:Aside0 (w83.heap[gb596]?=some (.cells #[u597000,u597001,.int .i64 x597002_3] 25 (0,0))):=⟨(by rw [hw];exact (by (with_reducible repeat (first|refine zbN ?_ _|refine zbD ?_|refine zbA ?_ _));refine blk_far ?_ NB596_611.out _;(with_reducible repeat (first|refine zbN ?_ _|refine zbD ?_|refine zbA ?_ _));refine blk_far ?_ NB596_611.out _;(with_reducible repeat (first|refine zbN ?_ _|refine zbD ?_|refine zbA ?_ _));refine blk_far ?_ NB596_611.out _;(with_reducible repeat (first|refine zbN ?_ _|refine zbD ?_|refine zbA ?_ _));exact BK596.out))⟩;have n4_:Aside0 (w83.heap[gb598]?=some (.cells #[.int .i64 ((rd_T42 l1 x27_1).f0),.int .i64 ((rd_T42 l1 x27_1).f1),.int .i64 ((rd_T42 l1 x27_1).f2),.int .i64 ((rd_T42 l1 x27_1).f3),.slice A597_4 ((rd_T42 l1 x27_1).f4).length c597_4,.slice A597_5 ((rd_T42 l1 x27_1).f5).length c597_5,.slice (some ad610) ((rd_T42 l1 x27_1).f6).length c597_6] 42 (0,0))):=⟨(by rw [hw];exact (by (with_reducible repeat (first|refine zbN ?_ _|refine zbD ?_|refine zbA ?_ _));refine blk_far ?_ NB598_611.out _;(with_reducible repeat (first|refine zbN ?_ _|refine zbD ?_|refine zbA ?_ _));refine blk_far ?_ NB598_611.out _;(with_reducible repeat (first|refine zbN ?_ _|refine zbD ?_|refine zbA ?_ _));refine blk_far ?_ NB598_611.out _;(with_reducible repeat (first|refine zbN ?_ _|refine zbD ?_|refine zbA ?_ _));exact BK598.out))⟩;have n5_:Aside0 (w83.heap[gb611]?=some (.cells #[.int .i64 ((rd_T55 ((rd_T42 l1 x27_1).f6) x93_3).f0),.int .i64 ((rd_T55 ((rd_T42 l1 x27_1).f6) x93_3).f1),.int .i64 ((rd_T55 ((rd_T42 l1 x27_1).f6) x93_3).f2)] 55 (0,0))):=⟨(by rw [hw];exact (by (with_reducible repeat (first|refine zbN ?_ _|refine zbD ?_|refine zbA ?_ _));refine blk_put (cs:=#[.int .i64 ((rd_T55 ((rd_T42 l1 x27_1).f6) x93_3).f0),.int .i64 ((rd_T55 ((rd_T42 l1 x27_1).f6) x93_3).f1),.int .i64 0]) ?_ 2 _ rfl;(with_reducible repeat (first|refine zbN ?_ _|refine zbD ?_|refine zbA ?_ _));refine blk_put (cs:=#[.int .i64 ((rd_T55 ((rd_T42 l1 x27_1).f6) x93_3).f0),.int .i64 0,.int .i64 0]) ?_ 1 _ rfl;(with_reducible repeat (first|refine zbN ?_ _|refine zbD ?_|refine zbA ?_ _));refine blk_put (cs:=#[.int .i64 0,.int .i64 0,.int .i64 0]) ?_ 0 _ rfl;(with_reducible repeat (first|refine zbN ?_ _|refine zbD ?_|refine zbA ?_ _));exact BK611.out))⟩;have n6_:Aside0 (Below w.heap.size w w83):=⟨(by rw [hw];exact (by repeat (first|(with_reducible first|exact HB.out|apply zlA|apply zlN|apply zlD|refine zlS ?_ GE587.out|refine zlS ?_ GE596.out|refine zlS ?_ GE598.out|refine zlS ?_ GE611.out)|exact HB.out)))⟩;clear hw HO_597000 HO_597001 BK587 BK596 BK598 BK611 HB;have HO_597000:=n0_;have HO_597001:=n1_;have BK587:=n2_;have BK596:=n3_;have BK598:=n4_;have BK611:=n5_;have HB:=n6_;clear n0_ n1_ n2_ n3_ n4_ n5_ n6_;have hcz84_0:w83.cell? ⟨gb611,0,none⟩=some (.int .i64 ((rd_T55 ((rd_T42 l1 x27_1).f6) x93_3).f0)):=(blk_cell BK611.out 0).trans rfl;have hcz84_1:w83.cell? ⟨gb611,1,none⟩=some (.int .i64 ((rd_T55 ((rd_T42 l1 x27_1).f6) x93_3).f1)):=(blk_cell BK611.out 1).trans rfl;have hcz84_2:w83.cell? ⟨gb611,2,none⟩=some (.int .i64 ((rd_T55 ((rd_T42 l1 x27_1).f6) x93_3).f2)):=(blk_cell BK611.out 2).trans rfl;have hfz84_0:=blk_frozen BK611.out 0;have hfz84_1:=blk_frozen BK611.out 1;have hfz84_2:=blk_frozen BK611.out 2;have hnb85:=NB596_587.out;have hnc85:=NB587_596.out;have hnb86:=NB596_598.out;have hnc86:=NB598_596.out;have hcz87_0:w83.cell? ⟨gb596,0,none⟩=some (u597000):=(blk_cell BK596.out 0).trans rfl;have hcz87_1:w83.cell? ⟨gb596,1,none⟩=some (u597001):=(blk_cell BK596.out 1).trans rfl;have hcz87_2:w83.cell? ⟨gb596,2,none⟩=some (.int .i64 x597002_3):=(blk_cell BK596.out 2).trans rfl;have hfz87_0:=blk_frozen BK596.out 0;have hfz87_1:=blk_frozen BK596.out 1;have hfz87_2:=blk_frozen BK596.out 2;obtain ⟨Ao88,co88,eo88⟩:=Kd.R_slice HO_597000.out;subst eo88;obtain ⟨Ao89,co89,eo89⟩:=Kd.R_slice HO_597001.out;subst eo89)|((with_reducible refine gate_callee (f:=62) rfl ?_);refine goesL_ (some 102) rfl rfl Try.func62 (by kernel_rfl) rfl #[.pointer (some ⟨gb596,0,none⟩),.agg #[.int .i64 ((rd_T55 ((rd_T42 l1 x27_1).f6) x93_3).f0),.int .i64 ((rd_T55 ((rd_T42 l1 x27_1).f6) x93_3).f1),.int .i64 ((rd_T55 ((rd_T42 l1 x27_1).f6) x93_3).f2)]] rfl (by (try simp only [List.map_toArray,List.map_cons,List.map_nil]);first|done|rfl|(simp only [List.length_drop,List.length_take];rfl)) ?_;(with_reducible refine (mapjnl_learn.calls gb596 (fun k_=>some k_=(.slice Ao88 x597000_3.length co88:Value).ownBlock) (.slice Ao88 x597000_3.length co88) x597000_3 (fun k_=>some k_=(.slice Ao89 x597001_3.length co89:Value).ownBlock) (.slice Ao89 x597001_3.length co89) x597001_3 x597002_3 ((rd_T55 ((rd_T42 l1 x27_1).f6) x93_3).f0) ((rd_T55 ((rd_T42 l1 x27_1).f6) x93_3).f1) ((rd_T55 ((rd_T42 l1 x27_1).f6) x93_3).f2) t612 t615 t618 w _ ?side1 ?side2 ?side3 ?side4 A77.out).mono ?_);(case side4=>exact (by (with_reducible repeat (first|refine zbN ?_ _|refine zbD ?_|refine zbA ?_ _));exact BK596.out));(case side1=>repeat (first|(with_reducible first|exact HB.out|apply zlA|apply zlN|apply zlD|refine zlS ?_ GE587.out|refine zlS ?_ GE596.out|refine zlS ?_ GE598.out|refine zlS ?_ GE611.out)|exact HB.out));(case side2=>exact Kd.R_tight rfl HO_597000.out);(case side3=>exact Kd.R_tight rfl HO_597001.out);rintro e w_ ⟨v613,v616,w90,rfl,rfl,ho0,ho1,hb,hkp⟩;refine ⟨_,rfl,?_⟩;have n0_:=zm (blk_kept (by (with_reducible repeat (first|refine zbN ?_ _|refine zbD ?_|refine zbA ?_ _));exact BK587.out) hkp (fun hs_=>Or.elim hs_ (fun e_=>(fun e_=>(Kd.R_ne HO_597000.out BK587.out (by decide)) e_) e_) (fun e_=>(fun e_=>(Kd.R_ne HO_597001.out BK587.out (by decide)) e_) e_)));have n1_:=zm (blk_kept (by (with_reducible repeat (first|refine zbN ?_ _|refine zbD ?_|refine zbA ?_ _));exact BK596.out) hkp (fun hs_=>Or.elim hs_ (fun e_=>(fun e_=>(Kd.R_ne HO_597000.out BK596.out (by decide)) e_) e_) (fun e_=>(fun e_=>(Kd.R_ne HO_597001.out BK596.out (by decide)) e_) e_)));have n2_:=zm (blk_kept (by (with_reducible repeat (first|refine zbN ?_ _|refine zbD ?_|refine zbA ?_ _));exact BK598.out) hkp (fun hs_=>Or.elim hs_ (fun e_=>(fun e_=>(Kd.R_ne HO_597000.out BK598.out (by decide)) e_) e_) (fun e_=>(fun e_=>(Kd.R_ne HO_597001.out BK598.out (by decide)) e_) e_)));have n3_:=zm (blk_kept (by (with_reducible repeat (first|refine zbN ?_ _|refine zbD ?_|refine zbA ?_ _));exact BK611.out) hkp (fun hs_=>Or.elim hs_ (fun e_=>(fun e_=>(Kd.R_ne HO_597000.out BK611.out (by decide)) e_) e_) (fun e_=>(fun e_=>(Kd.R_ne HO_597001.out BK611.out (by decide)) e_) e_)));have n4_:=zm (Kd.R_mono (ok':=fun k_=>True) ho0 (fun k_ hk_=>trivial));have n5_:=zm (Kd.R_mono (ok':=fun k_=>True) ho1 (fun k_ hk_=>trivial));have n6_:=zm (hb);clear BK587 BK596 BK598 BK611 HB HO_597000 HO_597001;have BK587:=n0_;have BK596:=n1_;have BK598:=n2_;have BK611:=n3_;have HO614:=n4_;have HO617:=n5_;have HB:=n6_;clear n0_ n1_ n2_ n3_ n4_ n5_ n6_;(try clear hb);(try clear hkp);(try clear ho0);(try clear ho1);obtain ⟨Ao91,co91,eo91⟩:=Kd.R_slice HO614.out;subst eo91;have hcz92_0:w90.cell? ⟨gb596,0,none⟩=some (.slice Ao88 x597000_3.length co88):=(blk_cell BK596.out 0).trans rfl;have hcz92_1:w90.cell? ⟨gb596,1,none⟩=some (.slice Ao89 x597001_3.length co89):=(blk_cell BK596.out 1).trans rfl;have hcz92_2:w90.cell? ⟨gb596,2,none⟩=some (.int .i64 x597002_3):=(blk_cell BK596.out 2).trans rfl;have hfz92_0:=blk_frozen BK596.out 0;have hfz92_1:=blk_frozen BK596.out 1;have hfz92_2:=blk_frozen BK596.out 2;obtain ⟨Ao93,co93,eo93⟩:=Kd.R_slice HO617.out;subst eo93))
                 go_roundg k3
                 case measure=>have:=HK1.out;have:=HK2.out;have:=HK3.out;omega
                 case rel=>exact ⟨(wrap64 (x93_3 + 1)),(t612),(t615),(t618),(.slice Ao91 t612.length co91),(.slice Ao93 t615.length co93),(by first|rfl|(simp;done)|(simp [*];done)),H',⟨by have:=HK1.out;have:=HK2.out;have:=HK3.out;omega⟩,⟨by (with_reducible repeat (first|apply zrA|apply zrN|apply zrD));exact Kd.R_mono (Kd.R_far (p:=⟨gb596,2,none⟩) (Kd.R_far (p:=⟨gb596,1,none⟩) (Kd.R_far (p:=⟨gb596,0,none⟩) (Kd.R_types HO614.out BK596.out (by decide)) (fun _ hk=>hk.2) (.slice Ao91 t612.length co91)) (fun _ hk=>hk.2) (.slice Ao93 t615.length co93)) (fun _ hk=>hk.2) (.int .i64 t618)) (fun _ hk=>trivial)⟩,⟨by (with_reducible repeat (first|apply zrA|apply zrN|apply zrD));exact Kd.R_mono (Kd.R_far (p:=⟨gb596,2,none⟩) (Kd.R_far (p:=⟨gb596,1,none⟩) (Kd.R_far (p:=⟨gb596,0,none⟩) (Kd.R_types HO617.out BK596.out (by decide)) (fun _ hk=>hk.2) (.slice Ao91 t612.length co91)) (fun _ hk=>hk.2) (.slice Ao93 t615.length co93)) (fun _ hk=>hk.2) (.int .i64 t618)) (fun _ hk=>trivial)⟩,⟨by (with_reducible repeat (first|refine zbN ?_ _|refine zbD ?_|refine zbA ?_ _));refine blk_far ?_ NB587_596.out _;(with_reducible repeat (first|refine zbN ?_ _|refine zbD ?_|refine zbA ?_ _));refine blk_far ?_ NB587_596.out _;(with_reducible repeat (first|refine zbN ?_ _|refine zbD ?_|refine zbA ?_ _));refine blk_far ?_ NB587_596.out _;(with_reducible repeat (first|refine zbN ?_ _|refine zbD ?_|refine zbA ?_ _));exact BK587.out⟩,⟨by (with_reducible repeat (first|refine zbN ?_ _|refine zbD ?_|refine zbA ?_ _));refine blk_put (cs:=#[.slice Ao91 t612.length co91,.slice Ao93 t615.length co93,.int .i64 x597002_3]) ?_ 2 _ rfl;(with_reducible repeat (first|refine zbN ?_ _|refine zbD ?_|refine zbA ?_ _));refine blk_put (cs:=#[.slice Ao91 t612.length co91,.slice Ao89 x597001_3.length co89,.int .i64 x597002_3]) ?_ 1 _ rfl;(with_reducible repeat (first|refine zbN ?_ _|refine zbD ?_|refine zbA ?_ _));refine blk_put (cs:=#[.slice Ao88 x597000_3.length co88,.slice Ao89 x597001_3.length co89,.int .i64 x597002_3]) ?_ 0 _ rfl;(with_reducible repeat (first|refine zbN ?_ _|refine zbD ?_|refine zbA ?_ _));exact BK596.out⟩,⟨by (with_reducible repeat (first|refine zbN ?_ _|refine zbD ?_|refine zbA ?_ _));refine blk_far ?_ NB598_596.out _;(with_reducible repeat (first|refine zbN ?_ _|refine zbD ?_|refine zbA ?_ _));refine blk_far ?_ NB598_596.out _;(with_reducible repeat (first|refine zbN ?_ _|refine zbD ?_|refine zbA ?_ _));refine blk_far ?_ NB598_596.out _;(with_reducible repeat (first|refine zbN ?_ _|refine zbD ?_|refine zbA ?_ _));exact BK598.out⟩,⟨by repeat (first|(with_reducible first|exact HB.out|apply zlA|apply zlN|apply zlD|refine zlS ?_ GE587.out|refine zlS ?_ GE596.out|refine zlS ?_ GE598.out|refine zlS ?_ GE611.out)|exact HB.out)⟩⟩
                ·rw [if_neg c76] at H
                 have c76b0:decide (((rd_T55 ((rd_T42 l1 x27_1).f6) x93_3).f1) < a0)=false:=decide_eq_false c76
                 clear c76
                 have H':=zm H
                 clear H
                 have p610:0≤(x93_3:Int):=of_decide_eq_true (by first|(with_reducible assumption)|assumption)
                 have q610:x93_3 < (((rd_T42 l1 x27_1).f6).length:Int):=of_decide_eq_true (by first|(with_reducible assumption)|assumption)
                 obtain ⟨ad610,e610,hx610_0,hx610_1,hx610_2⟩:=at_T55 HR597_6.out x93_3 p610 q610
                 cases e610
                 replace hx610_0:=(HB.out.cell (World.block_lt_of_cell? w _ hx610_0)).trans hx610_0
                 replace hx610_1:=(HB.out.cell (World.block_lt_of_cell? w _ hx610_1)).trans hx610_1
                 replace hx610_2:=(HB.out.cell (World.block_lt_of_cell? w _ hx610_2)).trans hx610_2
                 replace p610:=eq_true p610
                 replace q610:=eq_true q610
                 go_wp2_with (first|((with_reducible refine gate_dst (N:=15) rfl ?_);refine box_event ?hg (N:=15) ?hd (cs:=#[.int .i64 0,.int .i64 0,.int .i64 0]) (t:=55) ?hr ?_;(case hd=>rfl);(case hg=>rfl);(case hr=>first|(go_simp;done)|(go_simp;rfl));intro gb611 hg w94 hbox hb;have n0_:=zm (Kd.R_below (by (with_reducible repeat (first|apply zrA|apply zrN|apply zrD));exact HO_597000.out) hb);have n1_:=zm (Kd.R_below (by (with_reducible repeat (first|apply zrA|apply zrN|apply zrD));exact HO_597001.out) hb);have n2_:=zm (zbB (g:=gb587) (o:=.cells #[.slice none 0 0,.slice none 0 0,.int .i64 0] 25 (0,0)) (by (with_reducible repeat (first|refine zbN ?_ _|refine zbD ?_|refine zbA ?_ _));exact BK587.out) hb);have n3_:=zm (zbB (g:=gb596) (o:=.cells #[u597000,u597001,.int .i64 x597002_3] 25 (0,0)) (by (with_reducible repeat (first|refine zbN ?_ _|refine zbD ?_|refine zbA ?_ _));exact BK596.out) hb);have n4_:=zm (zbB (g:=gb598) (o:=.cells #[.int .i64 ((rd_T42 l1 x27_1).f0),.int .i64 ((rd_T42 l1 x27_1).f1),.int .i64 ((rd_T42 l1 x27_1).f2),.int .i64 ((rd_T42 l1 x27_1).f3),.slice A597_4 ((rd_T42 l1 x27_1).f4).length c597_4,.slice A597_5 ((rd_T42 l1 x27_1).f5).length c597_5,.slice (some ad610) ((rd_T42 l1 x27_1).f6).length c597_6] 42 (0,0)) (by (with_reducible repeat (first|refine zbN ?_ _|refine zbD ?_|refine zbA ?_ _));exact BK598.out) hb);have n5_:=zm (below_step (by repeat (first|(with_reducible first|exact HB.out|apply zlA|apply zlN|apply zlD|refine zlS ?_ GE587.out|refine zlS ?_ GE596.out|refine zlS ?_ GE598.out)|exact HB.out)) hb);have n6_:=zm (hbox);have n7_:=zm ((by rw [hg];exact (below_size (by repeat (first|(with_reducible first|exact HB.out|apply zlA|apply zlN|apply zlD|refine zlS ?_ GE587.out|refine zlS ?_ GE596.out|refine zlS ?_ GE598.out)|exact HB.out))):w.heap.size≤gb611));have n8_:=zm ((by rw [hg];exact (below_size (by repeat (first|(with_reducible first|exact HB.out|apply zlA|apply zlN|apply zlD|refine zlS ?_ GE587.out|refine zlS ?_ GE596.out|refine zlS ?_ GE598.out)|exact HB.out))):w.heap.size≤gb611));have n9_:=zm ((by rw [hg];exact Nat.ne_of_lt (blk_lt (g:=gb587) (o:=.cells #[.slice none 0 0,.slice none 0 0,.int .i64 0] 25 (0,0)) (by (with_reducible repeat (first|refine zbN ?_ _|refine zbD ?_|refine zbA ?_ _));exact BK587.out)):gb587≠gb611));have n10_:=zm ((by rw [hg];exact Nat.ne_of_gt (blk_lt (g:=gb587) (o:=.cells #[.slice none 0 0,.slice none 0 0,.int .i64 0] 25 (0,0)) (by (with_reducible repeat (first|refine zbN ?_ _|refine zbD ?_|refine zbA ?_ _));exact BK587.out)):gb611≠gb587));have n11_:=zm ((by rw [hg];exact Nat.ne_of_lt (blk_lt (g:=gb596) (o:=.cells #[u597000,u597001,.int .i64 x597002_3] 25 (0,0)) (by (with_reducible repeat (first|refine zbN ?_ _|refine zbD ?_|refine zbA ?_ _));exact BK596.out)):gb596≠gb611));have n12_:=zm ((by rw [hg];exact Nat.ne_of_gt (blk_lt (g:=gb596) (o:=.cells #[u597000,u597001,.int .i64 x597002_3] 25 (0,0)) (by (with_reducible repeat (first|refine zbN ?_ _|refine zbD ?_|refine zbA ?_ _));exact BK596.out)):gb611≠gb596));have n13_:=zm ((by rw [hg];exact Nat.ne_of_lt (blk_lt (g:=gb598) (o:=.cells #[.int .i64 ((rd_T42 l1 x27_1).f0),.int .i64 ((rd_T42 l1 x27_1).f1),.int .i64 ((rd_T42 l1 x27_1).f2),.int .i64 ((rd_T42 l1 x27_1).f3),.slice A597_4 ((rd_T42 l1 x27_1).f4).length c597_4,.slice A597_5 ((rd_T42 l1 x27_1).f5).length c597_5,.slice (some ad610) ((rd_T42 l1 x27_1).f6).length c597_6] 42 (0,0)) (by (with_reducible repeat (first|refine zbN ?_ _|refine zbD ?_|refine zbA ?_ _));exact BK598.out)):gb598≠gb611));have n14_:=zm ((by rw [hg];exact Nat.ne_of_gt (blk_lt (g:=gb598) (o:=.cells #[.int .i64 ((rd_T42 l1 x27_1).f0),.int .i64 ((rd_T42 l1 x27_1).f1),.int .i64 ((rd_T42 l1 x27_1).f2),.int .i64 ((rd_T42 l1 x27_1).f3),.slice A597_4 ((rd_T42 l1 x27_1).f4).length c597_4,.slice A597_5 ((rd_T42 l1 x27_1).f5).length c597_5,.slice (some ad610) ((rd_T42 l1 x27_1).f6).length c597_6] 42 (0,0)) (by (with_reducible repeat (first|refine zbN ?_ _|refine zbD ?_|refine zbA ?_ _));exact BK598.out)):gb611≠gb598));clear HO_597000 HO_597001 BK587 BK596 BK598 HB;have HO_597000:=n0_;have HO_597001:=n1_;have BK587:=n2_;have BK596:=n3_;have BK598:=n4_;have HB:=n5_;have BK611:=n6_;have GW611:=n7_;have GE611:=n8_;have NB587_611:=n9_;have NB611_587:=n10_;have NB596_611:=n11_;have NB611_596:=n12_;have NB598_611:=n13_;have NB611_598:=n14_;clear n0_ n1_ n2_ n3_ n4_ n5_ n6_ n7_ n8_ n9_ n10_ n11_ n12_ n13_ n14_;clear hb hbox hg;have hnb95:=NB611_587.out;have hnc95:=NB587_611.out;have hnb96:=NB611_596.out;have hnc96:=NB596_611.out;have hnb97:=NB611_598.out;have hnc97:=NB598_611.out;have hcz98_0:w94.cell? ⟨gb611,0,none⟩=some (.int .i64 0):=(blk_cell BK611.out 0).trans rfl;have hcz98_1:w94.cell? ⟨gb611,1,none⟩=some (.int .i64 0):=(blk_cell BK611.out 1).trans rfl;have hcz98_2:w94.cell? ⟨gb611,2,none⟩=some (.int .i64 0):=(blk_cell BK611.out 2).trans rfl;have hfz98_0:=blk_frozen BK611.out 0;have hfz98_1:=blk_frozen BK611.out 1;have hfz98_2:=blk_frozen BK611.out 2))
                 go_roundg k3
                 case measure=>have:=HK1.out;have:=HK2.out;have:=HK3.out;omega
                 case rel=>exact ⟨(wrap64 (x93_3 + 1)),(x597000_3),(x597001_3),(x597002_3),(u597000),(u597001),(by first|rfl|(simp;done)|(simp [*];done)),H',⟨by have:=HK1.out;have:=HK2.out;have:=HK3.out;omega⟩,⟨by (with_reducible repeat (first|apply zrA|apply zrN|apply zrD));exact Kd.R_mono (Kd.R_far (p:=⟨gb611,2,none⟩) (Kd.R_far (p:=⟨gb611,1,none⟩) (Kd.R_far (p:=⟨gb611,0,none⟩) (Kd.R_types HO_597000.out BK611.out (by decide)) (fun _ hk=>hk.2) (.int .i64 ((rd_T55 ((rd_T42 l1 x27_1).f6) x93_3).f0))) (fun _ hk=>hk.2) (.int .i64 ((rd_T55 ((rd_T42 l1 x27_1).f6) x93_3).f1))) (fun _ hk=>hk.2) (.int .i64 ((rd_T55 ((rd_T42 l1 x27_1).f6) x93_3).f2))) (fun _ hk=>trivial)⟩,⟨by (with_reducible repeat (first|apply zrA|apply zrN|apply zrD));exact Kd.R_mono (Kd.R_far (p:=⟨gb611,2,none⟩) (Kd.R_far (p:=⟨gb611,1,none⟩) (Kd.R_far (p:=⟨gb611,0,none⟩) (Kd.R_types HO_597001.out BK611.out (by decide)) (fun _ hk=>hk.2) (.int .i64 ((rd_T55 ((rd_T42 l1 x27_1).f6) x93_3).f0))) (fun _ hk=>hk.2) (.int .i64 ((rd_T55 ((rd_T42 l1 x27_1).f6) x93_3).f1))) (fun _ hk=>hk.2) (.int .i64 ((rd_T55 ((rd_T42 l1 x27_1).f6) x93_3).f2))) (fun _ hk=>trivial)⟩,⟨by (with_reducible repeat (first|refine zbN ?_ _|refine zbD ?_|refine zbA ?_ _));refine blk_far ?_ NB587_611.out _;(with_reducible repeat (first|refine zbN ?_ _|refine zbD ?_|refine zbA ?_ _));refine blk_far ?_ NB587_611.out _;(with_reducible repeat (first|refine zbN ?_ _|refine zbD ?_|refine zbA ?_ _));refine blk_far ?_ NB587_611.out _;(with_reducible repeat (first|refine zbN ?_ _|refine zbD ?_|refine zbA ?_ _));exact BK587.out⟩,⟨by (with_reducible repeat (first|refine zbN ?_ _|refine zbD ?_|refine zbA ?_ _));refine blk_far ?_ NB596_611.out _;(with_reducible repeat (first|refine zbN ?_ _|refine zbD ?_|refine zbA ?_ _));refine blk_far ?_ NB596_611.out _;(with_reducible repeat (first|refine zbN ?_ _|refine zbD ?_|refine zbA ?_ _));refine blk_far ?_ NB596_611.out _;(with_reducible repeat (first|refine zbN ?_ _|refine zbD ?_|refine zbA ?_ _));exact BK596.out⟩,⟨by (with_reducible repeat (first|refine zbN ?_ _|refine zbD ?_|refine zbA ?_ _));refine blk_far ?_ NB598_611.out _;(with_reducible repeat (first|refine zbN ?_ _|refine zbD ?_|refine zbA ?_ _));refine blk_far ?_ NB598_611.out _;(with_reducible repeat (first|refine zbN ?_ _|refine zbD ?_|refine zbA ?_ _));refine blk_far ?_ NB598_611.out _;(with_reducible repeat (first|refine zbN ?_ _|refine zbD ?_|refine zbA ?_ _));exact BK598.out⟩,⟨by repeat (first|(with_reducible first|exact HB.out|apply zlA|apply zlN|apply zlD|refine zlS ?_ GE587.out|refine zlS ?_ GE596.out|refine zlS ?_ GE598.out|refine zlS ?_ GE611.out)|exact HB.out)⟩⟩
               ·rw [if_neg c75] at H
                exact absurd H (by simp)
              ·rw [if_neg c74] at H
               exact absurd H (by simp)
             ·rw [if_neg c73] at H
              have c73b0:decide (x93_3 < (((rd_T42 l1 x27_1).f6).length:Int))=false:=decide_eq_false c73
              clear c73
              have H':=zm H
              clear H
              go_wp2
              go_roundg k3
              case measure=>have:=HK1.out;have:=HK2.out;have:=HK3.out;omega
              case rel=>exact ⟨(ji17),(wrap64 (x27_1 + 1)),(x597000_3),(x597001_3),(x597002_3),(u597000),(u597001),(by first|rfl|(simp;done)|(simp only [← hji17] <;> (first|rfl|simp))|(simp [*];done)),(by first|rfl|(simp;done)|(simp [*];done)),H',⟨by have:=HK1.out;have:=HK2.out;have:=HK3.out;omega⟩,⟨by (with_reducible repeat (first|apply zrA|apply zrN|apply zrD));exact HO_597000.out⟩,⟨by (with_reducible repeat (first|apply zrA|apply zrN|apply zrD));exact HO_597001.out⟩,⟨by (with_reducible repeat (first|refine zbN ?_ _|refine zbD ?_|refine zbA ?_ _));exact BK587.out⟩,⟨by (with_reducible repeat (first|refine zbN ?_ _|refine zbD ?_|refine zbA ?_ _));exact BK596.out⟩,⟨by repeat (first|(with_reducible first|exact HB.out|apply zlA|apply zlN|apply zlD|refine zlS ?_ GE587.out|refine zlS ?_ GE596.out|refine zlS ?_ GE598.out)|exact HB.out)⟩⟩
       ·replace c16:=Bool.eq_false_iff.mpr c16
        subst c16
        have H1:(mapjnl_Replay.l0 k1 a0 x9_1 l1 (l1.length:Int) (wrap64 (x27_1 + 1)) x597000_1 x597001_1 x597002_1)=some (r1,r2,r3,r4,r5):=by rw [if_neg (show ¬ (false=true) by decide)] at H;exact H
        clear H
        have H:=H1
        clear H1
        have H':=zm H
        clear H
        have p597:0≤(x27_1:Int):=of_decide_eq_true (by first|(with_reducible assumption)|assumption)
        have q597:x27_1 < (l1.length:Int):=of_decide_eq_true (by first|(with_reducible assumption)|assumption)
        obtain ⟨ad597,A597_4,c597_4,A597_5,c597_5,A597_6,c597_6,e597,hx597_0,hx597_1,hx597_2,hx597_3,hx597_4,hx597_5,hx597_6,hl597_4,hi597_4,hl597_5,hi597_5,hl597_6,hi597_6⟩:=at_T42 HR1.out x27_1 p597 q597
        cases e597
        replace hx597_0:=(HB.out.cell (World.block_lt_of_cell? w _ hx597_0)).trans hx597_0
        replace hx597_1:=(HB.out.cell (World.block_lt_of_cell? w _ hx597_1)).trans hx597_1
        replace hx597_2:=(HB.out.cell (World.block_lt_of_cell? w _ hx597_2)).trans hx597_2
        replace hx597_3:=(HB.out.cell (World.block_lt_of_cell? w _ hx597_3)).trans hx597_3
        replace hx597_4:=(HB.out.cell (World.block_lt_of_cell? w _ hx597_4)).trans hx597_4
        replace hx597_5:=(HB.out.cell (World.block_lt_of_cell? w _ hx597_5)).trans hx597_5
        replace hx597_6:=(HB.out.cell (World.block_lt_of_cell? w _ hx597_6)).trans hx597_6
        have HR597_4:=zm hi597_4
        have HC597_4:=zm hl597_4
        clear hi597_4 hl597_4
        have HR597_5:=zm hi597_5
        have HC597_5:=zm hl597_5
        clear hi597_5 hl597_5
        have HR597_6:=zm hi597_6
        have HC597_6:=zm hl597_6
        clear hi597_6 hl597_6
        replace p597:=eq_true p597
        replace q597:=eq_true q597
        go_wp2_with (first|((with_reducible refine gate_dst (N:=11) rfl ?_);refine box_event ?hg (N:=11) ?hd (cs:=#[.int .i64 0,.int .i64 0,.int .i64 0,.int .i64 0,.slice none 0 0,.slice none 0 0,.slice none 0 0]) (t:=42) ?hr ?_;(case hd=>rfl);(case hg=>rfl);(case hr=>first|(go_simp;done)|(go_simp;rfl));intro gb598 hg w99 hbox hb;have n0_:=zm (Kd.R_below (by (with_reducible repeat (first|apply zrA|apply zrN|apply zrD));exact HO_597000.out) hb);have n1_:=zm (Kd.R_below (by (with_reducible repeat (first|apply zrA|apply zrN|apply zrD));exact HO_597001.out) hb);have n2_:=zm (zbB (g:=gb587) (o:=.cells #[.slice none 0 0,.slice none 0 0,.int .i64 0] 25 (0,0)) (by (with_reducible repeat (first|refine zbN ?_ _|refine zbD ?_|refine zbA ?_ _));exact BK587.out) hb);have n3_:=zm (zbB (g:=gb596) (o:=.cells #[u597000,u597001,.int .i64 x597002_1] 25 (0,0)) (by (with_reducible repeat (first|refine zbN ?_ _|refine zbD ?_|refine zbA ?_ _));exact BK596.out) hb);have n4_:=zm (below_step (by repeat (first|(with_reducible first|exact HB.out|apply zlA|apply zlN|apply zlD|refine zlS ?_ GE587.out|refine zlS ?_ GE596.out)|exact HB.out)) hb);have n5_:=zm (hbox);have n6_:=zm ((by rw [hg];exact (below_size (by repeat (first|(with_reducible first|exact HB.out|apply zlA|apply zlN|apply zlD|refine zlS ?_ GE587.out|refine zlS ?_ GE596.out)|exact HB.out))):w.heap.size≤gb598));have n7_:=zm ((by rw [hg];exact (below_size (by repeat (first|(with_reducible first|exact HB.out|apply zlA|apply zlN|apply zlD|refine zlS ?_ GE587.out|refine zlS ?_ GE596.out)|exact HB.out))):w.heap.size≤gb598));have n8_:=zm ((by rw [hg];exact Nat.ne_of_lt (blk_lt (g:=gb587) (o:=.cells #[.slice none 0 0,.slice none 0 0,.int .i64 0] 25 (0,0)) (by (with_reducible repeat (first|refine zbN ?_ _|refine zbD ?_|refine zbA ?_ _));exact BK587.out)):gb587≠gb598));have n9_:=zm ((by rw [hg];exact Nat.ne_of_gt (blk_lt (g:=gb587) (o:=.cells #[.slice none 0 0,.slice none 0 0,.int .i64 0] 25 (0,0)) (by (with_reducible repeat (first|refine zbN ?_ _|refine zbD ?_|refine zbA ?_ _));exact BK587.out)):gb598≠gb587));have n10_:=zm ((by rw [hg];exact Nat.ne_of_lt (blk_lt (g:=gb596) (o:=.cells #[u597000,u597001,.int .i64 x597002_1] 25 (0,0)) (by (with_reducible repeat (first|refine zbN ?_ _|refine zbD ?_|refine zbA ?_ _));exact BK596.out)):gb596≠gb598));have n11_:=zm ((by rw [hg];exact Nat.ne_of_gt (blk_lt (g:=gb596) (o:=.cells #[u597000,u597001,.int .i64 x597002_1] 25 (0,0)) (by (with_reducible repeat (first|refine zbN ?_ _|refine zbD ?_|refine zbA ?_ _));exact BK596.out)):gb598≠gb596));clear HO_597000 HO_597001 BK587 BK596 HB;have HO_597000:=n0_;have HO_597001:=n1_;have BK587:=n2_;have BK596:=n3_;have HB:=n4_;have BK598:=n5_;have GW598:=n6_;have GE598:=n7_;have NB587_598:=n8_;have NB598_587:=n9_;have NB596_598:=n10_;have NB598_596:=n11_;clear n0_ n1_ n2_ n3_ n4_ n5_ n6_ n7_ n8_ n9_ n10_ n11_;clear hb hbox hg;have hnb100:=NB598_587.out;have hnc100:=NB587_598.out;have hnb101:=NB598_596.out;have hnc101:=NB596_598.out;have hcz102_0:w99.cell? ⟨gb598,0,none⟩=some (.int .i64 0):=(blk_cell BK598.out 0).trans rfl;have hcz102_1:w99.cell? ⟨gb598,1,none⟩=some (.int .i64 0):=(blk_cell BK598.out 1).trans rfl;have hcz102_2:w99.cell? ⟨gb598,2,none⟩=some (.int .i64 0):=(blk_cell BK598.out 2).trans rfl;have hcz102_3:w99.cell? ⟨gb598,3,none⟩=some (.int .i64 0):=(blk_cell BK598.out 3).trans rfl;have hcz102_4:w99.cell? ⟨gb598,4,none⟩=some (.slice none 0 0):=(blk_cell BK598.out 4).trans rfl;have hcz102_5:w99.cell? ⟨gb598,5,none⟩=some (.slice none 0 0):=(blk_cell BK598.out 5).trans rfl;have hcz102_6:w99.cell? ⟨gb598,6,none⟩=some (.slice none 0 0):=(blk_cell BK598.out 6).trans rfl;have hfz102_0:=blk_frozen BK598.out 0;have hfz102_1:=blk_frozen BK598.out 1;have hfz102_2:=blk_frozen BK598.out 2;have hfz102_3:=blk_frozen BK598.out 3;have hfz102_4:=blk_frozen BK598.out 4;have hfz102_5:=blk_frozen BK598.out 5;have hfz102_6:=blk_frozen BK598.out 6)|((with_reducible refine gate_callee (f:=72) rfl ?_);refine goesL_ (some 32) rfl rfl Try.func72 (by kernel_rfl) rfl #[.agg #[.int .i64 ((rd_T42 l1 x27_1).f0),.int .i64 ((rd_T42 l1 x27_1).f1),.int .i64 ((rd_T42 l1 x27_1).f2),.int .i64 ((rd_T42 l1 x27_1).f3),.slice A597_4 ((rd_T42 l1 x27_1).f4).length c597_4,.slice A597_5 ((rd_T42 l1 x27_1).f5).length c597_5,.slice A597_6 ((rd_T42 l1 x27_1).f6).length c597_6]] rfl (by (try simp only [List.map_toArray,List.map_cons,List.map_nil]);first|done|rfl|(simp only [List.length_drop,List.length_take];rfl)) ?_;(with_reducible refine (mapjnl_fits.calls k1 ((rd_T42 l1 x27_1).f0) ((rd_T42 l1 x27_1).f1) ((rd_T42 l1 x27_1).f2) ((rd_T42 l1 x27_1).f3) _ _ ((rd_T42 l1 x27_1).f4) _ _ ((rd_T42 l1 x27_1).f5) _ _ ((rd_T42 l1 x27_1).f6) false _ ?side1 ?side2 ?side3 ?side4 ?side5 ?side6 A15.out).mono ?_);(case side1=>exact Kd.C_below HR597_4.out (by repeat (first|(with_reducible first|exact HB.out|apply zlA|apply zlN|apply zlD|refine zlS ?_ GE587.out|refine zlS ?_ GE596.out|refine zlS ?_ GE598.out)|exact HB.out)));(case side2=>exact HC597_4.out);(case side3=>exact Kd.C_below HR597_5.out (by repeat (first|(with_reducible first|exact HB.out|apply zlA|apply zlN|apply zlD|refine zlS ?_ GE587.out|refine zlS ?_ GE596.out|refine zlS ?_ GE598.out)|exact HB.out)));(case side4=>exact HC597_5.out);(case side5=>exact Kd.C_below HR597_6.out (by repeat (first|(with_reducible first|exact HB.out|apply zlA|apply zlN|apply zlD|refine zlS ?_ GE587.out|refine zlS ?_ GE596.out|refine zlS ?_ GE598.out)|exact HB.out)));(case side6=>exact HC597_6.out);rintro e w103 ⟨rfl,hb⟩;refine ⟨_,rfl,?_⟩;have n0_:=zm (Kd.R_below (by (with_reducible repeat (first|apply zrA|apply zrN|apply zrD));exact (Kd.R_mono (Kd.R_far (p:=⟨gb598,6,none⟩) (Kd.R_far (p:=⟨gb598,5,none⟩) (Kd.R_far (p:=⟨gb598,4,none⟩) (Kd.R_far (p:=⟨gb598,3,none⟩) (Kd.R_far (p:=⟨gb598,2,none⟩) (Kd.R_far (p:=⟨gb598,1,none⟩) (Kd.R_far (p:=⟨gb598,0,none⟩) (Kd.R_types HO_597000.out BK598.out (by decide)) (fun _ hk=>hk.2) (.int .i64 ((rd_T42 l1 x27_1).f0))) (fun _ hk=>hk.2) (.int .i64 ((rd_T42 l1 x27_1).f1))) (fun _ hk=>hk.2) (.int .i64 ((rd_T42 l1 x27_1).f2))) (fun _ hk=>hk.2) (.int .i64 ((rd_T42 l1 x27_1).f3))) (fun _ hk=>hk.2) (.slice A597_4 ((rd_T42 l1 x27_1).f4).length c597_4)) (fun _ hk=>hk.2) (.slice A597_5 ((rd_T42 l1 x27_1).f5).length c597_5)) (fun _ hk=>hk.2) (.slice A597_6 ((rd_T42 l1 x27_1).f6).length c597_6)) (fun _ h_=>h_.1))) hb);have n1_:=zm (Kd.R_below (by (with_reducible repeat (first|apply zrA|apply zrN|apply zrD));exact (Kd.R_mono (Kd.R_far (p:=⟨gb598,6,none⟩) (Kd.R_far (p:=⟨gb598,5,none⟩) (Kd.R_far (p:=⟨gb598,4,none⟩) (Kd.R_far (p:=⟨gb598,3,none⟩) (Kd.R_far (p:=⟨gb598,2,none⟩) (Kd.R_far (p:=⟨gb598,1,none⟩) (Kd.R_far (p:=⟨gb598,0,none⟩) (Kd.R_types HO_597001.out BK598.out (by decide)) (fun _ hk=>hk.2) (.int .i64 ((rd_T42 l1 x27_1).f0))) (fun _ hk=>hk.2) (.int .i64 ((rd_T42 l1 x27_1).f1))) (fun _ hk=>hk.2) (.int .i64 ((rd_T42 l1 x27_1).f2))) (fun _ hk=>hk.2) (.int .i64 ((rd_T42 l1 x27_1).f3))) (fun _ hk=>hk.2) (.slice A597_4 ((rd_T42 l1 x27_1).f4).length c597_4)) (fun _ hk=>hk.2) (.slice A597_5 ((rd_T42 l1 x27_1).f5).length c597_5)) (fun _ hk=>hk.2) (.slice A597_6 ((rd_T42 l1 x27_1).f6).length c597_6)) (fun _ h_=>h_.1))) hb);have n2_:=zm (zbB (g:=gb587) (o:=.cells #[.slice none 0 0,.slice none 0 0,.int .i64 0] 25 (0,0)) (by (with_reducible repeat (first|refine zbN ?_ _|refine zbD ?_|refine zbA ?_ _));refine blk_far ?_ NB587_598.out _;(with_reducible repeat (first|refine zbN ?_ _|refine zbD ?_|refine zbA ?_ _));refine blk_far ?_ NB587_598.out _;(with_reducible repeat (first|refine zbN ?_ _|refine zbD ?_|refine zbA ?_ _));refine blk_far ?_ NB587_598.out _;(with_reducible repeat (first|refine zbN ?_ _|refine zbD ?_|refine zbA ?_ _));refine blk_far ?_ NB587_598.out _;(with_reducible repeat (first|refine zbN ?_ _|refine zbD ?_|refine zbA ?_ _));refine blk_far ?_ NB587_598.out _;(with_reducible repeat (first|refine zbN ?_ _|refine zbD ?_|refine zbA ?_ _));refine blk_far ?_ NB587_598.out _;(with_reducible repeat (first|refine zbN ?_ _|refine zbD ?_|refine zbA ?_ _));refine blk_far ?_ NB587_598.out _;(with_reducible repeat (first|refine zbN ?_ _|refine zbD ?_|refine zbA ?_ _));exact BK587.out) hb);have n3_:=zm (zbB (g:=gb596) (o:=.cells #[u597000,u597001,.int .i64 x597002_1] 25 (0,0)) (by (with_reducible repeat (first|refine zbN ?_ _|refine zbD ?_|refine zbA ?_ _));refine blk_far ?_ NB596_598.out _;(with_reducible repeat (first|refine zbN ?_ _|refine zbD ?_|refine zbA ?_ _));refine blk_far ?_ NB596_598.out _;(with_reducible repeat (first|refine zbN ?_ _|refine zbD ?_|refine zbA ?_ _));refine blk_far ?_ NB596_598.out _;(with_reducible repeat (first|refine zbN ?_ _|refine zbD ?_|refine zbA ?_ _));refine blk_far ?_ NB596_598.out _;(with_reducible repeat (first|refine zbN ?_ _|refine zbD ?_|refine zbA ?_ _));refine blk_far ?_ NB596_598.out _;(with_reducible repeat (first|refine zbN ?_ _|refine zbD ?_|refine zbA ?_ _));refine blk_far ?_ NB596_598.out _;(with_reducible repeat (first|refine zbN ?_ _|refine zbD ?_|refine zbA ?_ _));refine blk_far ?_ NB596_598.out _;(with_reducible repeat (first|refine zbN ?_ _|refine zbD ?_|refine zbA ?_ _));exact BK596.out) hb);have n4_:=zm (zbB (g:=gb598) (o:=.cells #[.int .i64 ((rd_T42 l1 x27_1).f0),.int .i64 ((rd_T42 l1 x27_1).f1),.int .i64 ((rd_T42 l1 x27_1).f2),.int .i64 ((rd_T42 l1 x27_1).f3),.slice A597_4 ((rd_T42 l1 x27_1).f4).length c597_4,.slice A597_5 ((rd_T42 l1 x27_1).f5).length c597_5,.slice A597_6 ((rd_T42 l1 x27_1).f6).length c597_6] 42 (0,0)) (by (with_reducible repeat (first|refine zbN ?_ _|refine zbD ?_|refine zbA ?_ _));refine blk_put (cs:=#[.int .i64 ((rd_T42 l1 x27_1).f0),.int .i64 ((rd_T42 l1 x27_1).f1),.int .i64 ((rd_T42 l1 x27_1).f2),.int .i64 ((rd_T42 l1 x27_1).f3),.slice A597_4 ((rd_T42 l1 x27_1).f4).length c597_4,.slice A597_5 ((rd_T42 l1 x27_1).f5).length c597_5,.slice none 0 0]) ?_ 6 _ rfl;(with_reducible repeat (first|refine zbN ?_ _|refine zbD ?_|refine zbA ?_ _));refine blk_put (cs:=#[.int .i64 ((rd_T42 l1 x27_1).f0),.int .i64 ((rd_T42 l1 x27_1).f1),.int .i64 ((rd_T42 l1 x27_1).f2),.int .i64 ((rd_T42 l1 x27_1).f3),.slice A597_4 ((rd_T42 l1 x27_1).f4).length c597_4,.slice none 0 0,.slice none 0 0]) ?_ 5 _ rfl;(with_reducible repeat (first|refine zbN ?_ _|refine zbD ?_|refine zbA ?_ _));refine blk_put (cs:=#[.int .i64 ((rd_T42 l1 x27_1).f0),.int .i64 ((rd_T42 l1 x27_1).f1),.int .i64 ((rd_T42 l1 x27_1).f2),.int .i64 ((rd_T42 l1 x27_1).f3),.slice none 0 0,.slice none 0 0,.slice none 0 0]) ?_ 4 _ rfl;(with_reducible repeat (first|refine zbN ?_ _|refine zbD ?_|refine zbA ?_ _));refine blk_put (cs:=#[.int .i64 ((rd_T42 l1 x27_1).f0),.int .i64 ((rd_T42 l1 x27_1).f1),.int .i64 ((rd_T42 l1 x27_1).f2),.int .i64 0,.slice none 0 0,.slice none 0 0,.slice none 0 0]) ?_ 3 _ rfl;(with_reducible repeat (first|refine zbN ?_ _|refine zbD ?_|refine zbA ?_ _));refine blk_put (cs:=#[.int .i64 ((rd_T42 l1 x27_1).f0),.int .i64 ((rd_T42 l1 x27_1).f1),.int .i64 0,.int .i64 0,.slice none 0 0,.slice none 0 0,.slice none 0 0]) ?_ 2 _ rfl;(with_reducible repeat (first|refine zbN ?_ _|refine zbD ?_|refine zbA ?_ _));refine blk_put (cs:=#[.int .i64 ((rd_T42 l1 x27_1).f0),.int .i64 0,.int .i64 0,.int .i64 0,.slice none 0 0,.slice none 0 0,.slice none 0 0]) ?_ 1 _ rfl;(with_reducible repeat (first|refine zbN ?_ _|refine zbD ?_|refine zbA ?_ _));refine blk_put (cs:=#[.int .i64 0,.int .i64 0,.int .i64 0,.int .i64 0,.slice none 0 0,.slice none 0 0,.slice none 0 0]) ?_ 0 _ rfl;(with_reducible repeat (first|refine zbN ?_ _|refine zbD ?_|refine zbA ?_ _));exact BK598.out) hb);have n5_:=zm (below_step (by repeat (first|(with_reducible first|exact HB.out|apply zlA|apply zlN|apply zlD|refine zlS ?_ GE587.out|refine zlS ?_ GE596.out|refine zlS ?_ GE598.out)|exact HB.out)) hb);clear HO_597000 HO_597001 BK587 BK596 BK598 HB;have HO_597000:=n0_;have HO_597001:=n1_;have BK587:=n2_;have BK596:=n3_;have BK598:=n4_;have HB:=n5_;clear n0_ n1_ n2_ n3_ n4_ n5_;(try clear hb);(try clear hb2);(try clear hk);(try clear hi)))
        go_roundg k1
        case measure=>have:=HK1.out;omega
        case rel=>exact ⟨(x9_1),(wrap64 (x27_1 + 1)),(x597000_1),(x597001_1),(x597002_1),(u597000),(u597001),(by first|rfl|(simp;done)|(simp [*];done)),(by first|rfl|(simp;done)|(simp [*];done)),H',⟨by have:=HK1.out;omega⟩,⟨by (with_reducible repeat (first|apply zrA|apply zrN|apply zrD));exact HO_597000.out⟩,⟨by (with_reducible repeat (first|apply zrA|apply zrN|apply zrD));exact HO_597001.out⟩,⟨by (with_reducible repeat (first|refine zbN ?_ _|refine zbD ?_|refine zbA ?_ _));exact BK587.out⟩,⟨by (with_reducible repeat (first|refine zbN ?_ _|refine zbD ?_|refine zbA ?_ _));exact BK596.out⟩,⟨by repeat (first|(with_reducible first|exact HB.out|apply zlA|apply zlN|apply zlD|refine zlS ?_ GE587.out|refine zlS ?_ GE596.out|refine zlS ?_ GE598.out)|exact HB.out)⟩⟩
      ·rw [if_neg c14] at H
       exact absurd H (by simp)
     ·rw [if_neg c13] at H
      exact absurd H (by simp)
    ·rw [if_neg c12] at H
     have c12b0:decide (x27_1 < (l1.length:Int))=false:=decide_eq_false c12
     clear c12
     simp only [Option.some.injEq,Prod.mk.injEq] at H
     obtain ⟨rfl,rfl,rfl,rfl,rfl⟩:=H
     have hnb104:=NB596_587.out
     have hnc104:=NB587_596.out
     have hcz105_0:wr.cell? ⟨gb596,0,none⟩=some (u597000):=(blk_cell BK596.out 0).trans rfl
     have hcz105_1:wr.cell? ⟨gb596,1,none⟩=some (u597001):=(blk_cell BK596.out 1).trans rfl
     have hcz105_2:wr.cell? ⟨gb596,2,none⟩=some (.int .i64 x597002_1):=(blk_cell BK596.out 2).trans rfl
     have hfz105_0:=blk_frozen BK596.out 0
     have hfz105_1:=blk_frozen BK596.out 1
     have hfz105_2:=blk_frozen BK596.out 2
     obtain ⟨Ao106,co106,eo106⟩:=Kd.R_slice HO_597000.out
     subst eo106
     have hcz107_0:wr.cell? ⟨gb587,0,none⟩=some (.slice none 0 0):=(blk_cell BK587.out 0).trans rfl
     have hcz107_1:wr.cell? ⟨gb587,1,none⟩=some (.slice none 0 0):=(blk_cell BK587.out 1).trans rfl
     have hcz107_2:wr.cell? ⟨gb587,2,none⟩=some (.int .i64 0):=(blk_cell BK587.out 2).trans rfl
     have hfz107_0:=blk_frozen BK587.out 0
     have hfz107_1:=blk_frozen BK587.out 1
     have hfz107_2:=blk_frozen BK587.out 2
     obtain ⟨Ao108,co108,eo108⟩:=Kd.R_slice HO_597001.out
     subst eo108
     go_wp2
     refine bodyPost_ret (results_ctt rfl _ _ gb587 25 #[.slice Ao106 x597000_1.length co106,.slice Ao108 x597001_1.length co108,.int .i64 x597002_1] (0,0) _ rfl (by (with_reducible repeat (first|refine zbN ?_ _|refine zbD ?_|refine zbA ?_ _));refine blk_put (cs:=#[.slice Ao106 x597000_1.length co106,.slice Ao108 x597001_1.length co108,.int .i64 0]) ?_ 2 _ rfl;(with_reducible repeat (first|refine zbN ?_ _|refine zbD ?_|refine zbA ?_ _));refine blk_put (cs:=#[.slice Ao106 x597000_1.length co106,.slice none 0 0,.int .i64 0]) ?_ 1 _ rfl;(with_reducible repeat (first|refine zbN ?_ _|refine zbD ?_|refine zbA ?_ _));refine blk_put (cs:=#[.slice none 0 0,.slice none 0 0,.int .i64 0]) ?_ 0 _ rfl;(with_reducible repeat (first|refine zbN ?_ _|refine zbD ?_|refine zbA ?_ _));exact BK587.out) Try.underlying25 rfl (by kernel_rfl)) rfl ?_
     exact ⟨_,_,by first|rfl|(simp [errW_none,errW_some] <;> rfl)|(simp [*,errW_none,errW_some] <;> rfl),by (with_reducible repeat (first|apply zrA|apply zrN|apply zrD));exact Kd.R_mono (Kd.R_far (p:=⟨gb587,2,none⟩) (Kd.R_far (p:=⟨gb587,1,none⟩) (Kd.R_far (p:=⟨gb587,0,none⟩) (Kd.R_types HO_597000.out BK587.out (by decide)) (fun _ hk=>hk.2) (.slice Ao106 x597000_1.length co106)) (fun _ hk=>hk.2) (.slice Ao108 x597001_1.length co108)) (fun _ hk=>hk.2) (.int .i64 x597002_1)) (fun _ hk=>trivial),by (with_reducible repeat (first|apply zrA|apply zrN|apply zrD));exact Kd.R_mono (Kd.R_far (p:=⟨gb587,2,none⟩) (Kd.R_far (p:=⟨gb587,1,none⟩) (Kd.R_far (p:=⟨gb587,0,none⟩) (Kd.R_types HO_597001.out BK587.out (by decide)) (fun _ hk=>hk.2) (.slice Ao106 x597000_1.length co106)) (fun _ hk=>hk.2) (.slice Ao108 x597001_1.length co108)) (fun _ hk=>hk.2) (.int .i64 x597002_1)) (fun _ hk=>trivial),by repeat (first|(with_reducible first|exact HB.out|apply zlA|apply zlN|apply zlD|refine zlS ?_ GE587.out|refine zlS ?_ GE596.out)|exact HB.out)⟩
 ·rw [if_neg c4] at H
  have c4b0:(t595 == 0)=false:=beq_eq_false_iff_ne.mpr c4
  have c4b1:(t595 != 0)=true:=bne_iff_ne.mpr c4
  simp only [Option.some.injEq,Prod.mk.injEq] at H
  obtain ⟨rfl,rfl,rfl,rfl,rfl⟩:=H
  go_enter Try.func39,Try.ntmps39
  go_wp2_with (first|((with_reducible refine gate_dst (N:=4) rfl ?_);refine box_event ?hg (N:=4) ?hd (cs:=#[.slice none 0 0,.slice none 0 0,.int .i64 0]) (t:=25) ?hr ?_;(case hd=>rfl);(case hg=>rfl);(case hr=>first|(go_simp;done)|(go_simp;rfl));intro gb587 hg w109 hbox hb;have n0_:=zm (below_step (by repeat (first|(with_reducible first|exact HB.out|apply zlA|apply zlN|apply zlD)|exact HB.out)) hb);have n1_:=zm (hbox);have n2_:=zm ((by rw [hg];exact (below_size (by repeat (first|(with_reducible first|exact HB.out|apply zlA|apply zlN|apply zlD)|exact HB.out))):w.heap.size≤gb587));have n3_:=zm ((by rw [hg];exact (below_size (by repeat (first|(with_reducible first|exact HB.out|apply zlA|apply zlN|apply zlD)|exact HB.out))):w.heap.size≤gb587));clear HB;have HB:=n0_;have BK587:=n1_;have GW587:=n2_;have GE587:=n3_;clear n0_ n1_ n2_ n3_;clear hb hbox hg)|((with_reducible refine gate_callee (f:=11) rfl ?_);refine goesL_ (some 18) rfl rfl Try.func11 (by kernel_rfl) rfl #[.int .i64 a0] rfl (by (try simp only [List.map_toArray,List.map_cons,List.map_nil]);first|done|rfl|(simp only [List.length_drop,List.length_take];rfl)) ?_;(with_reducible refine (mapjnl_New.calls a0 t588 t591 t594 t595 _ A3.out).mono ?_);rintro e w110 ⟨v589,v592,rfl,ho0,ho1,hb⟩;refine ⟨_,rfl,?_⟩;have n0_:=zm (Kd.R_lower ho0 (below_size (by repeat (first|(with_reducible first|exact HB.out|apply zlA|apply zlN|apply zlD|refine zlS ?_ GE587.out)|exact HB.out))));have n1_:=zm (Kd.R_lower ho1 (below_size (by repeat (first|(with_reducible first|exact HB.out|apply zlA|apply zlN|apply zlD|refine zlS ?_ GE587.out)|exact HB.out))));have n2_:=zm (zbB (g:=gb587) (o:=.cells #[.slice none 0 0,.slice none 0 0,.int .i64 0] 25 (0,0)) (by (with_reducible repeat (first|refine zbN ?_ _|refine zbD ?_|refine zbA ?_ _));exact BK587.out) hb);have n3_:=zm (below_step (by repeat (first|(with_reducible first|exact HB.out|apply zlA|apply zlN|apply zlD|refine zlS ?_ GE587.out)|exact HB.out)) hb);clear BK587 HB;have HO590:=n0_;have HO593:=n1_;have BK587:=n2_;have HB:=n3_;clear n0_ n1_ n2_ n3_;(try clear hb);(try clear hb2);(try clear hk);(try clear hi);(try clear ho0);(try clear ho1))|((with_reducible refine gate_dst (N:=7) rfl ?_);refine box_event ?hg (N:=7) ?hd (cs:=#[.slice none 0 0,.slice none 0 0,.int .i64 0]) (t:=25) ?hr ?_;(case hd=>rfl);(case hg=>rfl);(case hr=>first|(go_simp;done)|(go_simp;rfl));intro gb596 hg w111 hbox hb;have n0_:=zm (Kd.R_below (by (with_reducible repeat (first|apply zrA|apply zrN|apply zrD));exact HO590.out) hb);have n1_:=zm (Kd.R_below (by (with_reducible repeat (first|apply zrA|apply zrN|apply zrD));exact HO593.out) hb);have n2_:=zm (zbB (g:=gb587) (o:=.cells #[.slice none 0 0,.slice none 0 0,.int .i64 0] 25 (0,0)) (by (with_reducible repeat (first|refine zbN ?_ _|refine zbD ?_|refine zbA ?_ _));exact BK587.out) hb);have n3_:=zm (below_step (by repeat (first|(with_reducible first|exact HB.out|apply zlA|apply zlN|apply zlD|refine zlS ?_ GE587.out)|exact HB.out)) hb);have n4_:=zm (hbox);have n5_:=zm ((by rw [hg];exact (below_size (by repeat (first|(with_reducible first|exact HB.out|apply zlA|apply zlN|apply zlD|refine zlS ?_ GE587.out)|exact HB.out))):w.heap.size≤gb596));have n6_:=zm ((by rw [hg];exact (below_size (by repeat (first|(with_reducible first|exact HB.out|apply zlA|apply zlN|apply zlD|refine zlS ?_ GE587.out)|exact HB.out))):w.heap.size≤gb596));have n7_:=zm ((by rw [hg];exact Nat.ne_of_lt (blk_lt (g:=gb587) (o:=.cells #[.slice none 0 0,.slice none 0 0,.int .i64 0] 25 (0,0)) (by (with_reducible repeat (first|refine zbN ?_ _|refine zbD ?_|refine zbA ?_ _));exact BK587.out)):gb587≠gb596));have n8_:=zm ((by rw [hg];exact Nat.ne_of_gt (blk_lt (g:=gb587) (o:=.cells #[.slice none 0 0,.slice none 0 0,.int .i64 0] 25 (0,0)) (by (with_reducible repeat (first|refine zbN ?_ _|refine zbD ?_|refine zbA ?_ _));exact BK587.out)):gb596≠gb587));clear HO590 HO593 BK587 HB;have HO590:=n0_;have HO593:=n1_;have BK587:=n2_;have HB:=n3_;have BK596:=n4_;have GW596:=n5_;have GE596:=n6_;have NB587_596:=n7_;have NB596_587:=n8_;clear n0_ n1_ n2_ n3_ n4_ n5_ n6_ n7_ n8_;clear hb hbox hg;obtain ⟨Ao112,co112,eo112⟩:=Kd.R_slice HO590.out;subst eo112;have hnb113:=NB596_587.out;have hnc113:=NB587_596.out;have hcz114_0:w111.cell? ⟨gb596,0,none⟩=some (.slice none 0 0):=(blk_cell BK596.out 0).trans rfl;have hcz114_1:w111.cell? ⟨gb596,1,none⟩=some (.slice none 0 0):=(blk_cell BK596.out 1).trans rfl;have hcz114_2:w111.cell? ⟨gb596,2,none⟩=some (.int .i64 0):=(blk_cell BK596.out 2).trans rfl;have hfz114_0:=blk_frozen BK596.out 0;have hfz114_1:=blk_frozen BK596.out 1;have hfz114_2:=blk_frozen BK596.out 2;obtain ⟨Ao115,co115,eo115⟩:=Kd.R_slice HO593.out;subst eo115;have hcz116_0:w111.cell? ⟨gb587,0,none⟩=some (.slice none 0 0):=(blk_cell BK587.out 0).trans rfl;have hcz116_1:w111.cell? ⟨gb587,1,none⟩=some (.slice none 0 0):=(blk_cell BK587.out 1).trans rfl;have hcz116_2:w111.cell? ⟨gb587,2,none⟩=some (.int .i64 0):=(blk_cell BK587.out 2).trans rfl;have hfz116_0:=blk_frozen BK587.out 0;have hfz116_1:=blk_frozen BK587.out 1;have hfz116_2:=blk_frozen BK587.out 2))
  refine bodyPost_ret (results_ctt rfl _ _ gb587 25 #[.slice none 0 0,.slice none 0 0,.int .i64 0] (0,0) _ rfl (by (with_reducible repeat (first|refine zbN ?_ _|refine zbD ?_|refine zbA ?_ _));refine blk_put (cs:=#[.slice none 0 0,.slice none 0 0,.int .i64 0]) ?_ 2 _ rfl;(with_reducible repeat (first|refine zbN ?_ _|refine zbD ?_|refine zbA ?_ _));refine blk_put (cs:=#[.slice none 0 0,.slice none 0 0,.int .i64 0]) ?_ 1 _ rfl;(with_reducible repeat (first|refine zbN ?_ _|refine zbD ?_|refine zbA ?_ _));refine blk_put (cs:=#[.slice none 0 0,.slice none 0 0,.int .i64 0]) ?_ 0 _ rfl;(with_reducible repeat (first|refine zbN ?_ _|refine zbD ?_|refine zbA ?_ _));refine blk_far ?_ NB587_596.out _;(with_reducible repeat (first|refine zbN ?_ _|refine zbD ?_|refine zbA ?_ _));refine blk_far ?_ NB587_596.out _;(with_reducible repeat (first|refine zbN ?_ _|refine zbD ?_|refine zbA ?_ _));refine blk_far ?_ NB587_596.out _;(with_reducible repeat (first|refine zbN ?_ _|refine zbD ?_|refine zbA ?_ _));exact BK587.out) Try.underlying25 rfl (by kernel_rfl)) rfl ?_
  exact ⟨_,_,by first|rfl|(simp [errW_none,errW_some] <;> rfl)|(simp [*,errW_none,errW_some] <;> rfl),by first|exact Kd.R_nil _ _ _ _ _|exact Kd.N_nil _ _ _ _ _|exact Kd.V_nil _ _ _ _ _|exact Kd.Q_nil _ _ _ _ _|exact Kd.S_nil _ _ _ _ _,by first|exact Kd.R_nil _ _ _ _ _|exact Kd.N_nil _ _ _ _ _|exact Kd.V_nil _ _ _ _ _|exact Kd.Q_nil _ _ _ _ _|exact Kd.S_nil _ _ _ _ _,by repeat (first|(with_reducible first|exact HB.out|apply zlA|apply zlN|apply zlD|refine zlS ?_ GE587.out|refine zlS ?_ GE596.out)|exact HB.out)⟩
end Go.Proofs.Ytkhbmgclklmimaa.Print
end
section
namespace Go.Proofs.Ytkhbmgclklmimaa.Print
open Go.RowKit Go.Proofs.YtkhbmgclklmimaaW.PrintWords Go.Proofs.YtkhbmgclklmimaaW.PrintLast Go.Proofs.YtkhbmgclklmimaaW.PrintMore
attribute [local go_sem] max2_int min2_int max_two min_two max_three min_three max_four min_four   -- for this text's walks alone
attribute [local go_sem ↓] Go.Proofs.Ytkhbmgclklmimaa.Sem.isSome_setCell
attribute [local go_sem] Go.Instr.field Go.asAgg
set_option linter.unusedVariables false
set_option linter.unusedSimpArgs false
mutual
def slipwayref06_Records.j0:Nat → Int → List (S55) → Bool → Option (Int × Int × Int × Int × List Bool × List Int × (List (S55)) × Int)
 | 0,_,_,_=>none
 | k + 1,x0,x1,x12=>if x12=true then (some (0,0,0,0,([]:List Bool),([]:List Int),([]:List (S55)),1)) else (if (x1.length:Int) > 24 then (some (0,0,0,0,([]:List Bool),([]:List Int),([]:List (S55)),3)) else (slipwayref06_Records.l0 k x0 x1 0))
def slipwayref06_Records.l0:Nat → Int → List (S55) → Int → Option (Int × Int × Int × Int × List Bool × List Int × (List (S55)) × Int)
 | 0,_,_,_=>none
 | k + 1,x0,x1,x6=>if x6 < (x1.length:Int) then (if 0≤x6 then ((slipwayref06_may.f k ((rd_T55 x1 x6).f0) ((rd_T55 x1 x6).f1) ((rd_T55 x1 x6).f2)).bind fun t504=>(if t504=true then (slipwayref06_Records.l0 k x0 x1 (wrap64 (x6 + 1))) else (some (0,0,0,0,([]:List Bool),([]:List Int),([]:List (S55)),61)))) else (none)) else (if ([]:List (S55)).length + x1.length < 5864062014805 then (some (2,x0,0,0,([]:List Bool),([]:List Int),(([]:List (S55)) ++ x1),0)) else (none))
end
def slipwayref06_Records.f (k:Nat) (a0:Int) (l1:List (S55)):Option (Int × Int × Int × Int × List Bool × List Int × (List (S55)) × Int):=if a0 < 0 then (slipwayref06_Records.j0 k a0 l1 true) else (slipwayref06_Records.j0 k a0 l1 (decide (a0 > 1152921504606846976)))
set_option maxHeartbeats 8000000 in
set_option maxRecDepth 100000 in
theorem slipwayref06_Records.calls (k:Nat) (a0:Int) (A1:Option Addr) (c1:Nat) (l1:List (S55)) (r1:Int) (r2:Int) (r3:Int) (r4:Int) (r5:List Bool) (r6:List Int) (r7:List (S55)) (r8:Int) (w:World) (hr1:Kd.C k55 w A1 l1.length l1) (hc1:l1.length≤c1) (h:slipwayref06_Records.f k a0 l1=some (r1,r2,r3,r4,r5,r6,r7,r8)) :
  Calls Try.prog 30 #[.int .i64 a0,.slice A1 l1.length c1] w fun e w'=>∃ v4_ v5_ v6_:Value,e=.returned (.tuple #[.agg #[.int .i64 r1,.int .i64 r2,.int .i64 r3,.int .i64 r4,v4_,v5_,v6_],.int .i64 r8])∧Kd.R Kd.bool 4 w' w.heap.size (fun _=>True) v4_ r5∧Kd.R (Kd.int .i64) 2 w' w.heap.size (fun _=>True) v5_ r6∧Kd.R k55 55 w' w.heap.size (fun _=>True) v6_ r7∧Below w.heap.size w w':=by
 have hu42:=Try.underlying42
 have hu55:=Try.underlying55
 have HR1:=zm hr1
 have HC1:=zm hc1
 clear hr1 hc1
 have HB:=zm (Below.refl w.heap.size w)
 have H:(if a0 < 0 then (slipwayref06_Records.j0 k a0 l1 true) else (slipwayref06_Records.j0 k a0 l1 (decide (a0 > 1152921504606846976))))=some (r1,r2,r3,r4,r5,r6,r7,r8):=h
 clear h
 have HC3:=zm H
 clear H
 go_enter Try.func30,Try.ntmps30
 go_upto_region 1 with (first|((with_reducible refine gate_dst (N:=4) rfl ?_);refine box_event ?hg (N:=4) ?hd (cs:=#[.int .i64 0,.int .i64 0,.int .i64 0,.int .i64 0,.slice none 0 0,.slice none 0 0,.slice none 0 0]) (t:=42) ?hr ?_;(case hd=>rfl);(case hg=>rfl);(case hr=>first|(go_simp;done)|(go_simp;rfl));intro gb502 hg w4 hbox hb;have n0_:=zm (below_step (by repeat (first|(with_reducible first|exact HB.out|apply zlA|apply zlN|apply zlD)|exact HB.out)) hb);have n1_:=zm (hbox);have n2_:=zm ((by rw [hg];exact (below_size (by repeat (first|(with_reducible first|exact HB.out|apply zlA|apply zlN|apply zlD)|exact HB.out))):w.heap.size≤gb502));have n3_:=zm ((by rw [hg];exact (below_size (by repeat (first|(with_reducible first|exact HB.out|apply zlA|apply zlN|apply zlD)|exact HB.out))):w.heap.size≤gb502));clear HB;have HB:=n0_;have BK502:=n1_;have GW502:=n2_;have GE502:=n3_;clear n0_ n1_ n2_ n3_;clear hb hbox hg))
 (try simp only [Act.put,List.setIfInBounds_toArray,List.set_cons_zero,List.set_cons_succ])
 go_cut [12] (fun v12 wc=>∃ (kq:Nat) (x12_2:Bool),v12=.bool x12_2∧Aside0 (slipwayref06_Records.j0 kq a0 l1 x12_2=some (r1,r2,r3,r4,r5,r6,r7,r8))∧Aside0 (kq≤k)∧Aside0 (wc.heap[gb502]?=some (.cells #[.int .i64 0,.int .i64 0,.int .i64 0,.int .i64 0,(.slice none 0 0),(.slice none 0 0),(.slice none 0 0)] 42 (0,0)))∧Aside0 (Below w.heap.size w wc))
 case first =>
  have H:=HC3.out
  clear HC3
  by_cases c5:a0 < 0
  ·rw [if_pos c5] at H
   have c5b0:decide (a0 < 0)=true:=decide_eq_true c5
   clear c5
   (first|rw [c5b0]|(simp only [i64_w,i32_w];rw [c5b0])|skip)
   have H':=zm H
   clear H
   go_wp2
   go_meet
   case rel=>exact ⟨_,(true),(by first|rfl|(simp;done)|(simp [*];done)),H',⟨by first|omega|exact Nat.le_refl _⟩,⟨by (with_reducible repeat (first|refine zbN ?_ _|refine zbD ?_|refine zbA ?_ _));exact BK502.out⟩,⟨by repeat (first|(with_reducible first|exact HB.out|apply zlA|apply zlN|apply zlD|refine zlS ?_ GE502.out)|exact HB.out)⟩⟩
  ·rw [if_neg c5] at H
   have c5b0:decide (a0 < 0)=false:=decide_eq_false c5
   clear c5
   (first|rw [c5b0]|(simp only [i64_w,i32_w];rw [c5b0])|skip)
   have H':=zm H
   clear H
   go_wp2
   go_meet
   case rel=>exact ⟨_,(decide (a0 > 1152921504606846976)),(by first|rfl|(simp;done)|(simp [*];done)),H',⟨by first|omega|exact Nat.le_refl _⟩,⟨by (with_reducible repeat (first|refine zbN ?_ _|refine zbD ?_|refine zbA ?_ _));exact BK502.out⟩,⟨by repeat (first|(with_reducible first|exact HB.out|apply zlA|apply zlN|apply zlD|refine zlS ?_ GE502.out)|exact HB.out)⟩⟩
 case rest =>
  clear HC3
  try clear c1
  try clear p2
  try clear c3
  try clear c5
  try clear c5b0
  obtain ⟨kq,x12_2,rfl,HA,HJ2,BK502,HB⟩:=hcut
  cases kq with
  | zero=>exact absurd HA.out (by simp [slipwayref06_Records.j0])
  | succ kj2 =>
   have H:=HA.out
   clear HA
   simp only [slipwayref06_Records.j0] at H
   by_cases c6:x12_2=true
   ·subst c6
    have H1:(some (0,0,0,0,([]:List Bool),([]:List Int),([]:List (S55)),1))=some (r1,r2,r3,r4,r5,r6,r7,r8):=by rw [if_pos rfl] at H;exact H
    clear H
    have H:=H1
    clear H1
    simp only [Option.some.injEq,Prod.mk.injEq] at H
    obtain ⟨rfl,rfl,rfl,rfl,rfl,rfl,rfl,rfl⟩:=H
    have hcz7_0:wc.cell? ⟨gb502,0,none⟩=some (.int .i64 0):=(blk_cell BK502.out 0).trans rfl
    have hcz7_1:wc.cell? ⟨gb502,1,none⟩=some (.int .i64 0):=(blk_cell BK502.out 1).trans rfl
    have hcz7_2:wc.cell? ⟨gb502,2,none⟩=some (.int .i64 0):=(blk_cell BK502.out 2).trans rfl
    have hcz7_3:wc.cell? ⟨gb502,3,none⟩=some (.int .i64 0):=(blk_cell BK502.out 3).trans rfl
    have hcz7_4:wc.cell? ⟨gb502,4,none⟩=some (.slice none 0 0):=(blk_cell BK502.out 4).trans rfl
    have hcz7_5:wc.cell? ⟨gb502,5,none⟩=some (.slice none 0 0):=(blk_cell BK502.out 5).trans rfl
    have hcz7_6:wc.cell? ⟨gb502,6,none⟩=some (.slice none 0 0):=(blk_cell BK502.out 6).trans rfl
    have hfz7_0:=blk_frozen BK502.out 0
    have hfz7_1:=blk_frozen BK502.out 1
    have hfz7_2:=blk_frozen BK502.out 2
    have hfz7_3:=blk_frozen BK502.out 3
    have hfz7_4:=blk_frozen BK502.out 4
    have hfz7_5:=blk_frozen BK502.out 5
    have hfz7_6:=blk_frozen BK502.out 6
    go_wp2
    refine bodyPost_ret (results_ct rfl _ _ gb502 42 #[.int .i64 0,.int .i64 0,.int .i64 0,.int .i64 0,.slice none 0 0,.slice none 0 0,.slice none 0 0] (0,0) _ rfl (by (with_reducible repeat (first|refine zbN ?_ _|refine zbD ?_|refine zbA ?_ _));refine blk_put (cs:=#[.int .i64 0,.int .i64 0,.int .i64 0,.int .i64 0,.slice none 0 0,.slice none 0 0,.slice none 0 0]) ?_ 6 _ rfl;(with_reducible repeat (first|refine zbN ?_ _|refine zbD ?_|refine zbA ?_ _));refine blk_put (cs:=#[.int .i64 0,.int .i64 0,.int .i64 0,.int .i64 0,.slice none 0 0,.slice none 0 0,.slice none 0 0]) ?_ 5 _ rfl;(with_reducible repeat (first|refine zbN ?_ _|refine zbD ?_|refine zbA ?_ _));refine blk_put (cs:=#[.int .i64 0,.int .i64 0,.int .i64 0,.int .i64 0,.slice none 0 0,.slice none 0 0,.slice none 0 0]) ?_ 4 _ rfl;(with_reducible repeat (first|refine zbN ?_ _|refine zbD ?_|refine zbA ?_ _));refine blk_put (cs:=#[.int .i64 0,.int .i64 0,.int .i64 0,.int .i64 0,.slice none 0 0,.slice none 0 0,.slice none 0 0]) ?_ 3 _ rfl;(with_reducible repeat (first|refine zbN ?_ _|refine zbD ?_|refine zbA ?_ _));refine blk_put (cs:=#[.int .i64 0,.int .i64 0,.int .i64 0,.int .i64 0,.slice none 0 0,.slice none 0 0,.slice none 0 0]) ?_ 2 _ rfl;(with_reducible repeat (first|refine zbN ?_ _|refine zbD ?_|refine zbA ?_ _));refine blk_put (cs:=#[.int .i64 0,.int .i64 0,.int .i64 0,.int .i64 0,.slice none 0 0,.slice none 0 0,.slice none 0 0]) ?_ 1 _ rfl;(with_reducible repeat (first|refine zbN ?_ _|refine zbD ?_|refine zbA ?_ _));refine blk_put (cs:=#[.int .i64 0,.int .i64 0,.int .i64 0,.int .i64 0,.slice none 0 0,.slice none 0 0,.slice none 0 0]) ?_ 0 _ rfl;(with_reducible repeat (first|refine zbN ?_ _|refine zbD ?_|refine zbA ?_ _));exact BK502.out) Try.underlying42 rfl (by kernel_rfl)) rfl ?_
    exact ⟨_,_,_,by first|rfl|(simp [errW_none,errW_some] <;> rfl)|(simp [*,errW_none,errW_some] <;> rfl),by first|exact Kd.R_nil _ _ _ _ _|exact Kd.N_nil _ _ _ _ _|exact Kd.V_nil _ _ _ _ _|exact Kd.Q_nil _ _ _ _ _|exact Kd.S_nil _ _ _ _ _,by first|exact Kd.R_nil _ _ _ _ _|exact Kd.N_nil _ _ _ _ _|exact Kd.V_nil _ _ _ _ _|exact Kd.Q_nil _ _ _ _ _|exact Kd.S_nil _ _ _ _ _,by first|exact Kd.R_nil _ _ _ _ _|exact Kd.N_nil _ _ _ _ _|exact Kd.V_nil _ _ _ _ _|exact Kd.Q_nil _ _ _ _ _|exact Kd.S_nil _ _ _ _ _,by repeat (first|(with_reducible first|exact HB.out|apply zlA|apply zlN|apply zlD|refine zlS ?_ GE502.out)|exact HB.out)⟩
   ·replace c6:=Bool.eq_false_iff.mpr c6
    subst c6
    have H1:(if (l1.length:Int) > 24 then (some (0,0,0,0,([]:List Bool),([]:List Int),([]:List (S55)),3)) else (slipwayref06_Records.l0 kj2 a0 l1 0))=some (r1,r2,r3,r4,r5,r6,r7,r8):=by rw [if_neg (show ¬ (false=true) by decide)] at H;exact H
    clear H
    have H:=H1
    clear H1
    by_cases c8:(l1.length:Int) > 24
    ·rw [if_pos c8] at H
     have c8b0:decide (24 < (l1.length:Int))=true:=decide_eq_true c8
     have c8b1:decide (24 < l1.length)=true:=decide_eq_true (by omega)
     clear c8
     simp only [Option.some.injEq,Prod.mk.injEq] at H
     obtain ⟨rfl,rfl,rfl,rfl,rfl,rfl,rfl,rfl⟩:=H
     have hcz9_0:wc.cell? ⟨gb502,0,none⟩=some (.int .i64 0):=(blk_cell BK502.out 0).trans rfl
     have hcz9_1:wc.cell? ⟨gb502,1,none⟩=some (.int .i64 0):=(blk_cell BK502.out 1).trans rfl
     have hcz9_2:wc.cell? ⟨gb502,2,none⟩=some (.int .i64 0):=(blk_cell BK502.out 2).trans rfl
     have hcz9_3:wc.cell? ⟨gb502,3,none⟩=some (.int .i64 0):=(blk_cell BK502.out 3).trans rfl
     have hcz9_4:wc.cell? ⟨gb502,4,none⟩=some (.slice none 0 0):=(blk_cell BK502.out 4).trans rfl
     have hcz9_5:wc.cell? ⟨gb502,5,none⟩=some (.slice none 0 0):=(blk_cell BK502.out 5).trans rfl
     have hcz9_6:wc.cell? ⟨gb502,6,none⟩=some (.slice none 0 0):=(blk_cell BK502.out 6).trans rfl
     have hfz9_0:=blk_frozen BK502.out 0
     have hfz9_1:=blk_frozen BK502.out 1
     have hfz9_2:=blk_frozen BK502.out 2
     have hfz9_3:=blk_frozen BK502.out 3
     have hfz9_4:=blk_frozen BK502.out 4
     have hfz9_5:=blk_frozen BK502.out 5
     have hfz9_6:=blk_frozen BK502.out 6
     go_wp2
     refine bodyPost_ret (results_ct rfl _ _ gb502 42 #[.int .i64 0,.int .i64 0,.int .i64 0,.int .i64 0,.slice none 0 0,.slice none 0 0,.slice none 0 0] (0,0) _ rfl (by (with_reducible repeat (first|refine zbN ?_ _|refine zbD ?_|refine zbA ?_ _));refine blk_put (cs:=#[.int .i64 0,.int .i64 0,.int .i64 0,.int .i64 0,.slice none 0 0,.slice none 0 0,.slice none 0 0]) ?_ 6 _ rfl;(with_reducible repeat (first|refine zbN ?_ _|refine zbD ?_|refine zbA ?_ _));refine blk_put (cs:=#[.int .i64 0,.int .i64 0,.int .i64 0,.int .i64 0,.slice none 0 0,.slice none 0 0,.slice none 0 0]) ?_ 5 _ rfl;(with_reducible repeat (first|refine zbN ?_ _|refine zbD ?_|refine zbA ?_ _));refine blk_put (cs:=#[.int .i64 0,.int .i64 0,.int .i64 0,.int .i64 0,.slice none 0 0,.slice none 0 0,.slice none 0 0]) ?_ 4 _ rfl;(with_reducible repeat (first|refine zbN ?_ _|refine zbD ?_|refine zbA ?_ _));refine blk_put (cs:=#[.int .i64 0,.int .i64 0,.int .i64 0,.int .i64 0,.slice none 0 0,.slice none 0 0,.slice none 0 0]) ?_ 3 _ rfl;(with_reducible repeat (first|refine zbN ?_ _|refine zbD ?_|refine zbA ?_ _));refine blk_put (cs:=#[.int .i64 0,.int .i64 0,.int .i64 0,.int .i64 0,.slice none 0 0,.slice none 0 0,.slice none 0 0]) ?_ 2 _ rfl;(with_reducible repeat (first|refine zbN ?_ _|refine zbD ?_|refine zbA ?_ _));refine blk_put (cs:=#[.int .i64 0,.int .i64 0,.int .i64 0,.int .i64 0,.slice none 0 0,.slice none 0 0,.slice none 0 0]) ?_ 1 _ rfl;(with_reducible repeat (first|refine zbN ?_ _|refine zbD ?_|refine zbA ?_ _));refine blk_put (cs:=#[.int .i64 0,.int .i64 0,.int .i64 0,.int .i64 0,.slice none 0 0,.slice none 0 0,.slice none 0 0]) ?_ 0 _ rfl;(with_reducible repeat (first|refine zbN ?_ _|refine zbD ?_|refine zbA ?_ _));exact BK502.out) Try.underlying42 rfl (by kernel_rfl)) rfl ?_
     exact ⟨_,_,_,by first|rfl|(simp [errW_none,errW_some] <;> rfl)|(simp [*,errW_none,errW_some] <;> rfl),by first|exact Kd.R_nil _ _ _ _ _|exact Kd.N_nil _ _ _ _ _|exact Kd.V_nil _ _ _ _ _|exact Kd.Q_nil _ _ _ _ _|exact Kd.S_nil _ _ _ _ _,by first|exact Kd.R_nil _ _ _ _ _|exact Kd.N_nil _ _ _ _ _|exact Kd.V_nil _ _ _ _ _|exact Kd.Q_nil _ _ _ _ _|exact Kd.S_nil _ _ _ _ _,by first|exact Kd.R_nil _ _ _ _ _|exact Kd.N_nil _ _ _ _ _|exact Kd.V_nil _ _ _ _ _|exact Kd.Q_nil _ _ _ _ _|exact Kd.S_nil _ _ _ _ _,by repeat (first|(with_reducible first|exact HB.out|apply zlA|apply zlN|apply zlD|refine zlS ?_ GE502.out)|exact HB.out)⟩
    ·rw [if_neg c8] at H
     have c8b0:decide (24 < (l1.length:Int))=false:=decide_eq_false c8
     have c8b1:decide (24 < l1.length)=false:=decide_eq_false (by omega)
     clear c8
     have H':=zm H
     clear H
     go_wp2
     go_loopg [6] kj2 (fun kq v6 w'=>∃ (x6_2:Int) (x503000_2:Int) (x503001_2:Int) (x503002_2:Int) (x503003_2:Int),v6=.int .i64 x6_2∧Aside0 (slipwayref06_Records.l0 kq a0 l1 x6_2=some (r1,r2,r3,r4,r5,r6,r7,r8))∧Aside0 (kq≤kj2)∧Aside0 (w'.heap[gb502]?=some (.cells #[.int .i64 x503000_2,.int .i64 x503001_2,.int .i64 x503002_2,.int .i64 x503003_2,(.slice none 0 0),(.slice none 0 0),(.slice none 0 0)] 42 (0,0)))∧Aside0 (Below w.heap.size w w'))
     case atStart=>exact ⟨(0),(0),(0),(0),(0),(by first|rfl|(simp;done)|(simp [*];done)),H',⟨Nat.le_refl _⟩,⟨by (with_reducible repeat (first|refine zbN ?_ _|refine zbD ?_|refine zbA ?_ _));exact BK502.out⟩,⟨by repeat (first|(with_reducible first|exact HB.out|apply zlA|apply zlN|apply zlD|refine zlS ?_ GE502.out)|exact HB.out)⟩⟩
     case round =>
      clear H'
      try clear c1
      try clear p2
      try clear c3
      try clear c5
      try clear c5b0
      try clear c6
      try clear c8
      try clear c8b0
      try clear c8b1
      try clear hcz7_0
      try clear hcz7_1
      try clear hcz7_2
      try clear hcz7_3
      try clear hcz7_4
      try clear hcz7_5
      try clear hcz7_6
      try clear hcz9_0
      try clear hcz9_1
      try clear hcz9_2
      try clear hcz9_3
      try clear hcz9_4
      try clear hcz9_5
      try clear hcz9_6
      try clear hfz7_0
      try clear hfz7_1
      try clear hfz7_2
      try clear hfz7_3
      try clear hfz7_4
      try clear hfz7_5
      try clear hfz7_6
      try clear hfz9_0
      try clear hfz9_1
      try clear hfz9_2
      try clear hfz9_3
      try clear hfz9_4
      try clear hfz9_5
      try clear hfz9_6
      try clear p2
      obtain ⟨x6_2,x503000_2,x503001_2,x503002_2,x503003_2,rfl,HA,HK2,BK502,HB⟩:=hrel
      cases gk with
      | zero=>exact absurd HA.out (by simp [slipwayref06_Records.l0])
      | succ k2 =>
       have H:=HA.out
       clear HA
       simp only [slipwayref06_Records.l0] at H
       by_cases c10:x6_2 < (l1.length:Int)
       ·rw [if_pos c10] at H
        have c10b0:decide (x6_2 < (l1.length:Int))=true:=decide_eq_true c10
        clear c10
        by_cases c11:0≤x6_2
        ·rw [if_pos c11] at H
         have c11b0:decide (0≤x6_2)=true:=decide_eq_true c11
         clear c11
         replace H:=Option.bind_eq_some_iff.mp H
         obtain ⟨t504,A120,H⟩:=H
         replace H:(if t504=true then (slipwayref06_Records.l0 k2 a0 l1 (wrap64 (x6_2 + 1))) else (some (0,0,0,0,([]:List Bool),([]:List Int),([]:List (S55)),61)))=some (r1,r2,r3,r4,r5,r6,r7,r8):=H
         have A12:=zm A120
         clear A120
         by_cases c13:t504=true
         ·subst c13
          have H1:(slipwayref06_Records.l0 k2 a0 l1 (wrap64 (x6_2 + 1)))=some (r1,r2,r3,r4,r5,r6,r7,r8):=by rw [if_pos rfl] at H;exact H
          clear H
          have H:=H1
          clear H1
          have H':=zm H
          clear H
          have p503:0≤(x6_2:Int):=of_decide_eq_true (by first|(with_reducible assumption)|assumption)
          have q503:x6_2 < (l1.length:Int):=of_decide_eq_true (by first|(with_reducible assumption)|assumption)
          obtain ⟨ad503,e503,hx503_0,hx503_1,hx503_2⟩:=at_T55 HR1.out x6_2 p503 q503
          cases e503
          replace hx503_0:=(HB.out.cell (World.block_lt_of_cell? w _ hx503_0)).trans hx503_0
          replace hx503_1:=(HB.out.cell (World.block_lt_of_cell? w _ hx503_1)).trans hx503_1
          replace hx503_2:=(HB.out.cell (World.block_lt_of_cell? w _ hx503_2)).trans hx503_2
          replace p503:=eq_true p503
          replace q503:=eq_true q503
          go_wp2_with (first|((with_reducible refine gate_callee (f:=63) rfl ?_);refine goesL_ (some 28) rfl rfl Try.func63 (by kernel_rfl) rfl #[.agg #[.int .i64 ((rd_T55 l1 x6_2).f0),.int .i64 ((rd_T55 l1 x6_2).f1),.int .i64 ((rd_T55 l1 x6_2).f2)]] rfl (by (try simp only [List.map_toArray,List.map_cons,List.map_nil]);first|done|rfl|(simp only [List.length_drop,List.length_take];rfl)) ?_;(with_reducible refine (slipwayref06_may.calls k2 ((rd_T55 l1 x6_2).f0) ((rd_T55 l1 x6_2).f1) ((rd_T55 l1 x6_2).f2) true _ A12.out).mono ?_);rintro e w14 ⟨rfl,hb⟩;refine ⟨_,rfl,?_⟩;have n0_:=zm (zbB (g:=gb502) (o:=.cells #[.int .i64 x503000_2,.int .i64 x503001_2,.int .i64 x503002_2,.int .i64 x503003_2,.slice none 0 0,.slice none 0 0,.slice none 0 0] 42 (0,0)) (by (with_reducible repeat (first|refine zbN ?_ _|refine zbD ?_|refine zbA ?_ _));exact BK502.out) hb);have n1_:=zm (below_step (by repeat (first|(with_reducible first|exact HB.out|apply zlA|apply zlN|apply zlD|refine zlS ?_ GE502.out)|exact HB.out)) hb);clear BK502 HB;have BK502:=n0_;have HB:=n1_;clear n0_ n1_;(try clear hb);(try clear hb2);(try clear hk);(try clear hi)))
          go_roundg k2
          case measure=>have:=HJ2.out;have:=HK2.out;omega
          case rel=>exact ⟨(wrap64 (x6_2 + 1)),(x503000_2),(x503001_2),(x503002_2),(x503003_2),(by first|rfl|(simp;done)|(simp [*];done)),H',⟨by have:=HJ2.out;have:=HK2.out;omega⟩,⟨by (with_reducible repeat (first|refine zbN ?_ _|refine zbD ?_|refine zbA ?_ _));exact BK502.out⟩,⟨by repeat (first|(with_reducible first|exact HB.out|apply zlA|apply zlN|apply zlD|refine zlS ?_ GE502.out)|exact HB.out)⟩⟩
         ·replace c13:=Bool.eq_false_iff.mpr c13
          subst c13
          have H1:(some (0,0,0,0,([]:List Bool),([]:List Int),([]:List (S55)),61))=some (r1,r2,r3,r4,r5,r6,r7,r8):=by rw [if_neg (show ¬ (false=true) by decide)] at H;exact H
          clear H
          have H:=H1
          clear H1
          simp only [Option.some.injEq,Prod.mk.injEq] at H
          obtain ⟨rfl,rfl,rfl,rfl,rfl,rfl,rfl,rfl⟩:=H
          have p503:0≤(x6_2:Int):=of_decide_eq_true (by first|(with_reducible assumption)|assumption)
          have q503:x6_2 < (l1.length:Int):=of_decide_eq_true (by first|(with_reducible assumption)|assumption)
          obtain ⟨ad503,e503,hx503_0,hx503_1,hx503_2⟩:=at_T55 HR1.out x6_2 p503 q503
          cases e503
          replace hx503_0:=(HB.out.cell (World.block_lt_of_cell? w _ hx503_0)).trans hx503_0
          replace hx503_1:=(HB.out.cell (World.block_lt_of_cell? w _ hx503_1)).trans hx503_1
          replace hx503_2:=(HB.out.cell (World.block_lt_of_cell? w _ hx503_2)).trans hx503_2
          replace p503:=eq_true p503
          replace q503:=eq_true q503
          go_wp2_with (first|((with_reducible refine gate_callee (f:=63) rfl ?_);refine goesL_ (some 28) rfl rfl Try.func63 (by kernel_rfl) rfl #[.agg #[.int .i64 ((rd_T55 l1 x6_2).f0),.int .i64 ((rd_T55 l1 x6_2).f1),.int .i64 ((rd_T55 l1 x6_2).f2)]] rfl (by (try simp only [List.map_toArray,List.map_cons,List.map_nil]);first|done|rfl|(simp only [List.length_drop,List.length_take];rfl)) ?_;(with_reducible refine (slipwayref06_may.calls k2 ((rd_T55 l1 x6_2).f0) ((rd_T55 l1 x6_2).f1) ((rd_T55 l1 x6_2).f2) false _ A12.out).mono ?_);rintro e w15 ⟨rfl,hb⟩;refine ⟨_,rfl,?_⟩;have n0_:=zm (zbB (g:=gb502) (o:=.cells #[.int .i64 x503000_2,.int .i64 x503001_2,.int .i64 x503002_2,.int .i64 x503003_2,.slice none 0 0,.slice none 0 0,.slice none 0 0] 42 (0,0)) (by (with_reducible repeat (first|refine zbN ?_ _|refine zbD ?_|refine zbA ?_ _));exact BK502.out) hb);have n1_:=zm (below_step (by repeat (first|(with_reducible first|exact HB.out|apply zlA|apply zlN|apply zlD|refine zlS ?_ GE502.out)|exact HB.out)) hb);clear BK502 HB;have BK502:=n0_;have HB:=n1_;clear n0_ n1_;(try clear hb);(try clear hb2);(try clear hk);(try clear hi);have hcz16_0:w15.cell? ⟨gb502,0,none⟩=some (.int .i64 x503000_2):=(blk_cell BK502.out 0).trans rfl;have hcz16_1:w15.cell? ⟨gb502,1,none⟩=some (.int .i64 x503001_2):=(blk_cell BK502.out 1).trans rfl;have hcz16_2:w15.cell? ⟨gb502,2,none⟩=some (.int .i64 x503002_2):=(blk_cell BK502.out 2).trans rfl;have hcz16_3:w15.cell? ⟨gb502,3,none⟩=some (.int .i64 x503003_2):=(blk_cell BK502.out 3).trans rfl;have hcz16_4:w15.cell? ⟨gb502,4,none⟩=some (.slice none 0 0):=(blk_cell BK502.out 4).trans rfl;have hcz16_5:w15.cell? ⟨gb502,5,none⟩=some (.slice none 0 0):=(blk_cell BK502.out 5).trans rfl;have hcz16_6:w15.cell? ⟨gb502,6,none⟩=some (.slice none 0 0):=(blk_cell BK502.out 6).trans rfl;have hfz16_0:=blk_frozen BK502.out 0;have hfz16_1:=blk_frozen BK502.out 1;have hfz16_2:=blk_frozen BK502.out 2;have hfz16_3:=blk_frozen BK502.out 3;have hfz16_4:=blk_frozen BK502.out 4;have hfz16_5:=blk_frozen BK502.out 5;have hfz16_6:=blk_frozen BK502.out 6))
          refine bodyPost_ret (results_ct rfl _ _ gb502 42 #[.int .i64 0,.int .i64 0,.int .i64 0,.int .i64 0,.slice none 0 0,.slice none 0 0,.slice none 0 0] (0,0) _ rfl (by (with_reducible repeat (first|refine zbN ?_ _|refine zbD ?_|refine zbA ?_ _));refine blk_put (cs:=#[.int .i64 0,.int .i64 0,.int .i64 0,.int .i64 0,.slice none 0 0,.slice none 0 0,.slice none 0 0]) ?_ 6 _ rfl;(with_reducible repeat (first|refine zbN ?_ _|refine zbD ?_|refine zbA ?_ _));refine blk_put (cs:=#[.int .i64 0,.int .i64 0,.int .i64 0,.int .i64 0,.slice none 0 0,.slice none 0 0,.slice none 0 0]) ?_ 5 _ rfl;(with_reducible repeat (first|refine zbN ?_ _|refine zbD ?_|refine zbA ?_ _));refine blk_put (cs:=#[.int .i64 0,.int .i64 0,.int .i64 0,.int .i64 0,.slice none 0 0,.slice none 0 0,.slice none 0 0]) ?_ 4 _ rfl;(with_reducible repeat (first|refine zbN ?_ _|refine zbD ?_|refine zbA ?_ _));refine blk_put (cs:=#[.int .i64 0,.int .i64 0,.int .i64 0,.int .i64 x503003_2,.slice none 0 0,.slice none 0 0,.slice none 0 0]) ?_ 3 _ rfl;(with_reducible repeat (first|refine zbN ?_ _|refine zbD ?_|refine zbA ?_ _));refine blk_put (cs:=#[.int .i64 0,.int .i64 0,.int .i64 x503002_2,.int .i64 x503003_2,.slice none 0 0,.slice none 0 0,.slice none 0 0]) ?_ 2 _ rfl;(with_reducible repeat (first|refine zbN ?_ _|refine zbD ?_|refine zbA ?_ _));refine blk_put (cs:=#[.int .i64 0,.int .i64 x503001_2,.int .i64 x503002_2,.int .i64 x503003_2,.slice none 0 0,.slice none 0 0,.slice none 0 0]) ?_ 1 _ rfl;(with_reducible repeat (first|refine zbN ?_ _|refine zbD ?_|refine zbA ?_ _));refine blk_put (cs:=#[.int .i64 x503000_2,.int .i64 x503001_2,.int .i64 x503002_2,.int .i64 x503003_2,.slice none 0 0,.slice none 0 0,.slice none 0 0]) ?_ 0 _ rfl;(with_reducible repeat (first|refine zbN ?_ _|refine zbD ?_|refine zbA ?_ _));exact BK502.out) Try.underlying42 rfl (by kernel_rfl)) rfl ?_
          exact ⟨_,_,_,by first|rfl|(simp [errW_none,errW_some] <;> rfl)|(simp [*,errW_none,errW_some] <;> rfl),by first|exact Kd.R_nil _ _ _ _ _|exact Kd.N_nil _ _ _ _ _|exact Kd.V_nil _ _ _ _ _|exact Kd.Q_nil _ _ _ _ _|exact Kd.S_nil _ _ _ _ _,by first|exact Kd.R_nil _ _ _ _ _|exact Kd.N_nil _ _ _ _ _|exact Kd.V_nil _ _ _ _ _|exact Kd.Q_nil _ _ _ _ _|exact Kd.S_nil _ _ _ _ _,by first|exact Kd.R_nil _ _ _ _ _|exact Kd.N_nil _ _ _ _ _|exact Kd.V_nil _ _ _ _ _|exact Kd.Q_nil _ _ _ _ _|exact Kd.S_nil _ _ _ _ _,by repeat (first|(with_reducible first|exact HB.out|apply zlA|apply zlN|apply zlD|refine zlS ?_ GE502.out)|exact HB.out)⟩
        ·rw [if_neg c11] at H
         exact absurd H (by simp)
       ·rw [if_neg c10] at H
        have c10b0:decide (x6_2 < (l1.length:Int))=false:=decide_eq_false c10
        clear c10
        by_cases c17:([]:List (S55)).length + l1.length < 5864062014805
        ·rw [if_pos c17] at H
         have LMc17:=zm c17
         clear c17
         obtain ⟨y505,hy505⟩:∃ y_:List (S55),y_=(([]:List (S55)) ++ l1):=⟨_,rfl⟩
         replace H:(some (2,a0,0,0,([]:List Bool),([]:List Int),y505,0))=some (r1,r2,r3,r4,r5,r6,r7,r8):=by first|(rw [hy505];with_reducible exact H)|(have H2_:=(Option.bind_some _ _).symm.trans H;rw [hy505];with_reducible exact H2_)|(have H2_:=(Option.bind_some _ _).symm.trans H;with_reducible exact H2_)|with_reducible exact H|(rw [hy505];exact H)|exact H
         have Ny505:=zm hy505
         clear hy505
         simp only [Option.some.injEq,Prod.mk.injEq] at H
         obtain ⟨rfl,rfl,rfl,rfl,rfl,rfl,rfl,rfl⟩:=H
         go_wp2_with (first|((with_reducible refine gate_builtin (b:=.append) (xs:=#[.const (.slice none 0 0),.tmp 32]) rfl ?_);at_builtin;refine Kd.R_append_rows k55 (w0:=w) w.heap.size rfl (.const (.slice none 0 0)) (.tmp 32) 34 55 (.agg #[(.int .i64 0),(.int .i64 0),(.int .i64 0)]) 24 rfl Try.underlying34 info55 rfl (by decide) (by omega) (.slice none 0 0) ([]:List (S55)) l1 _ _ _ (fun _=>True) (fun _=>False) rfl rfl ?aO ?aR (fun _ _ h=>h) (fun _ h=>h.elim) ?aF ?aB ?aS ?aL ?_;(case aR=>repeat (first|exact (Kd.C_below HR1.out HB.out)|(with_reducible refine Kd.C_alloc ?_ _)|(with_reducible refine Kd.C_drewN ?_ _)|(with_reducible refine Kd.C_drew ?_)));(case aB=>exact (by repeat (first|(with_reducible first|exact HB.out|apply zlA|apply zlN|apply zlD|refine zlS ?_ GE502.out)|exact HB.out)));(case aF=>exact (fun _ _=>trivial));(case aO=>exact ((Kd.R_nil _ _ _ _ (fun _=>True))));(case aS=>exact (below_size (by repeat (first|(with_reducible first|exact HB.out|apply zlA|apply zlN|apply zlD|refine zlS ?_ GE502.out)|exact HB.out))));(case aL=>have:=LMc17.out;omega);intro v506 w18 ho hb hg hat;rw [← Ny505.out] at ho;have n0_:=zm (blk_grown (g:=gb502) (o:=.cells #[.int .i64 x503000_2,.int .i64 x503001_2,.int .i64 x503002_2,.int .i64 x503003_2,.slice none 0 0,.slice none 0 0,.slice none 0 0] 42 (0,0)) (by (with_reducible repeat (first|refine zbN ?_ _|refine zbD ?_|refine zbA ?_ _));exact BK502.out) hg (by simp [Value.ownBlock]));have n1_:=zm (hb);have n2_:=zm (ho);clear BK502 HB;have BK502:=n0_;have HB:=n1_;have HO507:=n2_;clear n0_ n1_ n2_;clear ho hb hg hat;obtain ⟨Ao19,co19,eo19⟩:=Kd.R_slice HO507.out;subst eo19;have hcz20_0:w18.cell? ⟨gb502,0,none⟩=some (.int .i64 x503000_2):=(blk_cell BK502.out 0).trans rfl;have hcz20_1:w18.cell? ⟨gb502,1,none⟩=some (.int .i64 x503001_2):=(blk_cell BK502.out 1).trans rfl;have hcz20_2:w18.cell? ⟨gb502,2,none⟩=some (.int .i64 x503002_2):=(blk_cell BK502.out 2).trans rfl;have hcz20_3:w18.cell? ⟨gb502,3,none⟩=some (.int .i64 x503003_2):=(blk_cell BK502.out 3).trans rfl;have hcz20_4:w18.cell? ⟨gb502,4,none⟩=some (.slice none 0 0):=(blk_cell BK502.out 4).trans rfl;have hcz20_5:w18.cell? ⟨gb502,5,none⟩=some (.slice none 0 0):=(blk_cell BK502.out 5).trans rfl;have hcz20_6:w18.cell? ⟨gb502,6,none⟩=some (.slice none 0 0):=(blk_cell BK502.out 6).trans rfl;have hfz20_0:=blk_frozen BK502.out 0;have hfz20_1:=blk_frozen BK502.out 1;have hfz20_2:=blk_frozen BK502.out 2;have hfz20_3:=blk_frozen BK502.out 3;have hfz20_4:=blk_frozen BK502.out 4;have hfz20_5:=blk_frozen BK502.out 5;have hfz20_6:=blk_frozen BK502.out 6))
         refine bodyPost_ret (results_ct rfl _ _ gb502 42 #[.int .i64 2,.int .i64 a0,.int .i64 0,.int .i64 0,.slice none 0 0,.slice none 0 0,.slice Ao19 y505.length co19] (0,0) _ rfl (by (with_reducible repeat (first|refine zbN ?_ _|refine zbD ?_|refine zbA ?_ _));refine blk_put (cs:=#[.int .i64 2,.int .i64 a0,.int .i64 0,.int .i64 0,.slice none 0 0,.slice none 0 0,.slice none 0 0]) ?_ 6 _ rfl;(with_reducible repeat (first|refine zbN ?_ _|refine zbD ?_|refine zbA ?_ _));refine blk_put (cs:=#[.int .i64 2,.int .i64 a0,.int .i64 0,.int .i64 0,.slice none 0 0,.slice none 0 0,.slice none 0 0]) ?_ 5 _ rfl;(with_reducible repeat (first|refine zbN ?_ _|refine zbD ?_|refine zbA ?_ _));refine blk_put (cs:=#[.int .i64 2,.int .i64 a0,.int .i64 0,.int .i64 0,.slice none 0 0,.slice none 0 0,.slice none 0 0]) ?_ 4 _ rfl;(with_reducible repeat (first|refine zbN ?_ _|refine zbD ?_|refine zbA ?_ _));refine blk_put (cs:=#[.int .i64 2,.int .i64 a0,.int .i64 0,.int .i64 x503003_2,.slice none 0 0,.slice none 0 0,.slice none 0 0]) ?_ 3 _ rfl;(with_reducible repeat (first|refine zbN ?_ _|refine zbD ?_|refine zbA ?_ _));refine blk_put (cs:=#[.int .i64 2,.int .i64 a0,.int .i64 x503002_2,.int .i64 x503003_2,.slice none 0 0,.slice none 0 0,.slice none 0 0]) ?_ 2 _ rfl;(with_reducible repeat (first|refine zbN ?_ _|refine zbD ?_|refine zbA ?_ _));refine blk_put (cs:=#[.int .i64 2,.int .i64 x503001_2,.int .i64 x503002_2,.int .i64 x503003_2,.slice none 0 0,.slice none 0 0,.slice none 0 0]) ?_ 1 _ rfl;(with_reducible repeat (first|refine zbN ?_ _|refine zbD ?_|refine zbA ?_ _));refine blk_put (cs:=#[.int .i64 x503000_2,.int .i64 x503001_2,.int .i64 x503002_2,.int .i64 x503003_2,.slice none 0 0,.slice none 0 0,.slice none 0 0]) ?_ 0 _ rfl;(with_reducible repeat (first|refine zbN ?_ _|refine zbD ?_|refine zbA ?_ _));exact BK502.out) Try.underlying42 rfl (by kernel_rfl)) rfl ?_
         exact ⟨_,_,_,by first|rfl|(simp [errW_none,errW_some] <;> rfl)|(simp [*,errW_none,errW_some] <;> rfl),by first|exact Kd.R_nil _ _ _ _ _|exact Kd.N_nil _ _ _ _ _|exact Kd.V_nil _ _ _ _ _|exact Kd.Q_nil _ _ _ _ _|exact Kd.S_nil _ _ _ _ _,by first|exact Kd.R_nil _ _ _ _ _|exact Kd.N_nil _ _ _ _ _|exact Kd.V_nil _ _ _ _ _|exact Kd.Q_nil _ _ _ _ _|exact Kd.S_nil _ _ _ _ _,by (with_reducible repeat (first|apply zrA|apply zrN|apply zrD));exact Kd.R_mono (Kd.R_far (p:=⟨gb502,6,none⟩) (Kd.R_far (p:=⟨gb502,5,none⟩) (Kd.R_far (p:=⟨gb502,4,none⟩) (Kd.R_far (p:=⟨gb502,3,none⟩) (Kd.R_far (p:=⟨gb502,2,none⟩) (Kd.R_far (p:=⟨gb502,1,none⟩) (Kd.R_far (p:=⟨gb502,0,none⟩) (Kd.R_types HO507.out BK502.out (by decide)) (fun _ hk=>hk.2) (.int .i64 2)) (fun _ hk=>hk.2) (.int .i64 a0)) (fun _ hk=>hk.2) (.int .i64 0)) (fun _ hk=>hk.2) (.int .i64 0)) (fun _ hk=>hk.2) (.slice none 0 0)) (fun _ hk=>hk.2) (.slice none 0 0)) (fun _ hk=>hk.2) (.slice Ao19 y505.length co19)) (fun _ hk=>trivial),by repeat (first|(with_reducible first|exact HB.out|apply zlA|apply zlN|apply zlD|refine zlS ?_ GE502.out)|exact HB.out)⟩
        ·rw [if_neg c17] at H
         exact absurd H (by simp)
end Go.Proofs.Ytkhbmgclklmimaa.Print
end
