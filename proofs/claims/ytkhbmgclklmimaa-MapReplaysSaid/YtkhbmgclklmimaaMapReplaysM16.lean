/- Texts of the proof of MapReplays, part 16. -/
import Derived.Test.YtkhbmgclklmimaaMapReplaysMA
import Derived.Test.YtkhbmgclklmimaaMapReplaysM14
import Derived.Test.YtkhbmgclklmimaaMapReplaysM15
section
namespace Go.Proofs.Ytkhbmgclklmimaa.Print
open Go.RowKit Go.Proofs.YtkhbmgclklmimaaW.PrintWords Go.Proofs.YtkhbmgclklmimaaW.PrintLast Go.Proofs.YtkhbmgclklmimaaW.PrintMore
attribute [local go_sem] max2_int min2_int max_two min_two max_three min_three max_four min_four   -- for this text's walks alone
attribute [local go_sem ↓] Go.Proofs.Ytkhbmgclklmimaa.Sem.isSome_setCell
attribute [local go_sem] Go.Instr.field Go.asAgg
set_option linter.unusedVariables false
set_option linter.unusedSimpArgs false
def slipwayref06_one.f (l0_0:List Bool) (l0_1:List Int) (a0_2:Int) (a1_0:Int) (a1_1:Int) (a1_2:Int):Option (List Bool × List Int × Int):=if a1_0=1 then (if 0≤a1_1 then (if a1_1 < (l0_0.length:Int) then (some ((l0_0.set (a1_1:Int).toNat true),l0_1,a0_2)) else (none)) else (none)) else (if a1_0=2 then (if 0≤a1_1 then (if a1_1 < (l0_1.length:Int) then (some (l0_0,(l0_1.set (a1_1:Int).toNat (mx (rd l0_1 a1_1) a1_2)),a0_2)) else (none)) else (none)) else (if a1_0=3 then (some (l0_0,l0_1,mx a0_2 a1_2)) else (some (l0_0,l0_1,a0_2))))
def slipwayref06_one.T5:Bool × List (List Nat × List Nat):=(true,[([],[]),([0],[0]),([],[]),([2],[2]),([],[]),([4],[4]),([],[]),([6],[6]),([5,7],[5,7]),([8],[8]),([],[]),([10],[10]),([9,11],[9,11]),([1,3,0,1,2,3,4,5,6,7,8,9,10,11,12],[1,3]),([13,12,0,1,2,3,4,5,6,7,8,9,10,11,12],[12,13])])
def slipwayref06_one.B5:List Nat:=[0,1,0,4,0,16,0,64,240,496,0,1024,4080,8191,16383]
theorem slipwayref06_one.tab5:rtab .any (opsOf Try.f64 5)=slipwayref06_one.T5:=by kernel_rfl
theorem slipwayref06_one.bits5:waitsOk slipwayref06_one.T5.2 slipwayref06_one.B5=true:=by kernel_rfl
set_option maxHeartbeats 8000000 in
set_option maxRecDepth 100000 in
theorem slipwayref06_one.calls (P0_0_:Nat → Prop) (u9000_:Value) (l0_0:List Bool) (P0_1_:Nat → Prop) (u9001_:Value) (l0_1:List Int) (a0_2:Int) (a1_0:Int) (a1_1:Int) (a1_2:Int) (r1:List Bool) (r2:List Int) (r3:Int) (w0 w:World) (hB:Below w0.heap.size w0 w) (ho0_0:Kd.R Kd.bool 4 w w0.heap.size P0_0_ u9000_ l0_0) (ho0_1:Kd.R (Kd.int .i64) 2 w w0.heap.size P0_1_ u9001_ l0_1) (h:slipwayref06_one.f l0_0 l0_1 a0_2 a1_0 a1_1 a1_2=some (r1,r2,r3)) :
  Calls Try.prog 64 #[.agg #[u9000_,u9001_,.int .i64 a0_2],.agg #[.int .i64 a1_0,.int .i64 a1_1,.int .i64 a1_2]] w fun e w'=>∃ v0_ v1_:Value,e=.returned (.agg #[v0_,v1_,.int .i64 r3])∧Kd.R Kd.bool 4 w' w0.heap.size (fun k_=>((P0_0_ k_∨P0_1_ k_)∨w.heap.size≤k_)) v0_ r1∧Kd.R (Kd.int .i64) 2 w' w0.heap.size (fun k_=>((P0_0_ k_∨P0_1_ k_)∨w.heap.size≤k_)) v1_ r2∧Below w0.heap.size w0 w'∧Kept w w' (fun k_=>P0_0_ k_∨P0_1_ k_):=by
 have hu25:=Try.underlying25
 have hu55:=Try.underlying55
 have HO0_0:=zm (show Kd.R Kd.bool 4 w w0.heap.size (fun k_=>((P0_0_ k_∨P0_1_ k_)∨w.heap.size≤k_)) u9000_ l0_0 from Kd.R_mono ho0_0 (fun k_ hk=>(.inl (.inl hk))))
 have HO0_1:=zm (show Kd.R (Kd.int .i64) 2 w w0.heap.size (fun k_=>((P0_0_ k_∨P0_1_ k_)∨w.heap.size≤k_)) u9001_ l0_1 from Kd.R_mono ho0_1 (fun k_ hk=>(.inl (.inr hk))))
 have HK:=zm (Kept.refl w (fun k_=>P0_0_ k_∨P0_1_ k_))
 have HW0:=zm hB.size
 have HB:=zm hB
 clear hB
 have H:(if a1_0=1 then (if 0≤a1_1 then (if a1_1 < (l0_0.length:Int) then (some ((l0_0.set (a1_1:Int).toNat true),l0_1,a0_2)) else (none)) else (none)) else (if a1_0=2 then (if 0≤a1_1 then (if a1_1 < (l0_1.length:Int) then (some (l0_0,(l0_1.set (a1_1:Int).toNat (mx (rd l0_1 a1_1) a1_2)),a0_2)) else (none)) else (none)) else (if a1_0=3 then (some (l0_0,l0_1,mx a0_2 a1_2)) else (some (l0_0,l0_1,a0_2)))))=some (r1,r2,r3):=h
 clear h
 by_cases c3:a1_0=1
 ·rw [if_pos c3] at H
  have c3b0:(a1_0 == 1)=true:=beq_iff_eq.mpr c3
  have c3b1:(a1_0 != 1)=false:=bne_eq_false_iff_eq.mpr c3
  clear c3
  by_cases c4:0≤a1_1
  ·rw [if_pos c4] at H
   have c4b0:decide (0≤a1_1)=true:=decide_eq_true c4
   clear c4
   by_cases c5:a1_1 < (l0_0.length:Int)
   ·rw [if_pos c5] at H
    have c5b0:decide (a1_1 < (l0_0.length:Int))=true:=decide_eq_true c5
    clear c5
    obtain ⟨y349,hy349⟩:∃ y_:List Bool,y_=(l0_0.set (a1_1:Int).toNat true):=⟨_,rfl⟩
    replace H:(some (y349,l0_1,a0_2))=some (r1,r2,r3):=by first|(rw [hy349];with_reducible exact H)|(have H2_:=(Option.bind_some _ _).symm.trans H;rw [hy349];with_reducible exact H2_)|(have H2_:=(Option.bind_some _ _).symm.trans H;with_reducible exact H2_)|with_reducible exact H|(rw [hy349];exact H)|exact H
    have Ny349:=zm hy349
    clear hy349
    simp only [Option.some.injEq,Prod.mk.injEq] at H
    obtain ⟨rfl,rfl,rfl⟩:=H
    obtain ⟨Ao7,co7,eo7⟩:=Kd.R_slice HO0_0.out
    subst eo7
    obtain ⟨Ao8,co8,eo8⟩:=Kd.R_slice HO0_1.out
    subst eo8
    go_enter Try.func64,Try.ntmps64
    go_wp2_with (first|((with_reducible refine gate_dst (N:=2) rfl ?_);refine box_event ?hg (N:=2) ?hd (cs:=#[.slice Ao7 l0_0.length co7,.slice Ao8 l0_1.length co8,.int .i64 a0_2]) (t:=25) ?hr ?_;(case hd=>rfl);(case hg=>rfl);(case hr=>first|(go_simp;done)|(go_simp;rfl));intro gb346 hg w9 hbox hb;have n0_:=zm (Kd.R_below (by (with_reducible repeat (first|apply zrA|apply zrN|apply zrD));exact HO0_0.out) hb);have n1_:=zm (Kd.R_below (by (with_reducible repeat (first|apply zrA|apply zrN|apply zrD));exact HO0_1.out) hb);have n2_:=zm (Kept.below (S:=(fun k_=>P0_0_ k_∨P0_1_ k_)) (by repeat (first|(with_reducible first|exact HK.out|apply Kept.alloc|apply Kept.drewN|apply Kept.drew)|exact HK.out)) hb);have n3_:=zm (below_step (by repeat (first|(with_reducible first|exact HB.out|apply zlA|apply zlN|apply zlD)|exact HB.out)) hb);have n4_:=zm (hbox);have n5_:=zm ((by rw [hg];exact (by first|exact HK.out.1|exact (show Kept w _ (fun k_=>P0_0_ k_∨P0_1_ k_) from by repeat (first|(with_reducible first|exact HK.out|apply Kept.alloc|apply Kept.drewN|apply Kept.drew)|exact HK.out)).1):w.heap.size≤gb346));have n6_:=zm ((by rw [hg];exact (below_size (by repeat (first|(with_reducible first|exact HB.out|apply zlA|apply zlN|apply zlD)|exact HB.out))):w0.heap.size≤gb346));clear HO0_0 HO0_1 HK HB;have HO0_0:=n0_;have HO0_1:=n1_;have HK:=n2_;have HB:=n3_;have BK346:=n4_;have GW346:=n5_;have GE346:=n6_;clear n0_ n1_ n2_ n3_ n4_ n5_ n6_;clear hb hbox hg)|((with_reducible refine gate_dst (N:=3) rfl ?_);refine box_event ?hg (N:=3) ?hd (cs:=#[.int .i64 a1_0,.int .i64 a1_1,.int .i64 a1_2]) (t:=55) ?hr ?_;(case hd=>rfl);(case hg=>rfl);(case hr=>first|(go_simp;done)|(go_simp;rfl));intro gb347 hg w10 hbox hb;have n0_:=zm (Kd.R_below (by (with_reducible repeat (first|apply zrA|apply zrN|apply zrD));exact HO0_0.out) hb);have n1_:=zm (Kd.R_below (by (with_reducible repeat (first|apply zrA|apply zrN|apply zrD));exact HO0_1.out) hb);have n2_:=zm (zbB (g:=gb346) (o:=.cells #[.slice Ao7 l0_0.length co7,.slice Ao8 l0_1.length co8,.int .i64 a0_2] 25 (0,0)) (by (with_reducible repeat (first|refine zbN ?_ _|refine zbD ?_|refine zbA ?_ _));exact BK346.out) hb);have n3_:=zm (Kept.below (S:=(fun k_=>P0_0_ k_∨P0_1_ k_)) (by repeat (first|(with_reducible first|exact HK.out|apply Kept.alloc|apply Kept.drewN|apply Kept.drew|refine Kept.setCell ?_ (.inr GW346.out) _)|exact HK.out)) hb);have n4_:=zm (below_step (by repeat (first|(with_reducible first|exact HB.out|apply zlA|apply zlN|apply zlD|refine zlS ?_ GE346.out)|exact HB.out)) hb);have n5_:=zm (hbox);have n6_:=zm ((by rw [hg];exact (by first|exact HK.out.1|exact (show Kept w _ (fun k_=>P0_0_ k_∨P0_1_ k_) from by repeat (first|(with_reducible first|exact HK.out|apply Kept.alloc|apply Kept.drewN|apply Kept.drew|refine Kept.setCell ?_ (.inr GW346.out) _)|exact HK.out)).1):w.heap.size≤gb347));have n7_:=zm ((by rw [hg];exact (below_size (by repeat (first|(with_reducible first|exact HB.out|apply zlA|apply zlN|apply zlD|refine zlS ?_ GE346.out)|exact HB.out))):w0.heap.size≤gb347));have n8_:=zm ((by rw [hg];exact Nat.ne_of_lt (blk_lt (g:=gb346) (o:=.cells #[.slice Ao7 l0_0.length co7,.slice Ao8 l0_1.length co8,.int .i64 a0_2] 25 (0,0)) (by (with_reducible repeat (first|refine zbN ?_ _|refine zbD ?_|refine zbA ?_ _));exact BK346.out)):gb346≠gb347));have n9_:=zm ((by rw [hg];exact Nat.ne_of_gt (blk_lt (g:=gb346) (o:=.cells #[.slice Ao7 l0_0.length co7,.slice Ao8 l0_1.length co8,.int .i64 a0_2] 25 (0,0)) (by (with_reducible repeat (first|refine zbN ?_ _|refine zbD ?_|refine zbA ?_ _));exact BK346.out)):gb347≠gb346));clear HO0_0 HO0_1 BK346 HK HB;have HO0_0:=n0_;have HO0_1:=n1_;have BK346:=n2_;have HK:=n3_;have HB:=n4_;have BK347:=n5_;have GW347:=n6_;have GE347:=n7_;have NB346_347:=n8_;have NB347_346:=n9_;clear n0_ n1_ n2_ n3_ n4_ n5_ n6_ n7_ n8_ n9_;clear hb hbox hg)|((with_reducible refine gate_dst (N:=4) rfl ?_);refine box_event ?hg (N:=4) ?hd (cs:=#[.slice none 0 0,.slice none 0 0,.int .i64 0]) (t:=25) ?hr ?_;(case hd=>rfl);(case hg=>rfl);(case hr=>first|(go_simp;done)|(go_simp;rfl));intro gb348 hg w11 hbox hb;have n0_:=zm (Kd.R_below (by (with_reducible repeat (first|apply zrA|apply zrN|apply zrD));exact HO0_0.out) hb);have n1_:=zm (Kd.R_below (by (with_reducible repeat (first|apply zrA|apply zrN|apply zrD));exact HO0_1.out) hb);have n2_:=zm (zbB (g:=gb346) (o:=.cells #[.slice Ao7 l0_0.length co7,.slice Ao8 l0_1.length co8,.int .i64 a0_2] 25 (0,0)) (by (with_reducible repeat (first|refine zbN ?_ _|refine zbD ?_|refine zbA ?_ _));exact BK346.out) hb);have n3_:=zm (zbB (g:=gb347) (o:=.cells #[.int .i64 a1_0,.int .i64 a1_1,.int .i64 a1_2] 55 (0,0)) (by (with_reducible repeat (first|refine zbN ?_ _|refine zbD ?_|refine zbA ?_ _));exact BK347.out) hb);have n4_:=zm (Kept.below (S:=(fun k_=>P0_0_ k_∨P0_1_ k_)) (by repeat (first|(with_reducible first|exact HK.out|apply Kept.alloc|apply Kept.drewN|apply Kept.drew|refine Kept.setCell ?_ (.inr GW346.out) _|refine Kept.setCell ?_ (.inr GW347.out) _)|exact HK.out)) hb);have n5_:=zm (below_step (by repeat (first|(with_reducible first|exact HB.out|apply zlA|apply zlN|apply zlD|refine zlS ?_ GE346.out|refine zlS ?_ GE347.out)|exact HB.out)) hb);have n6_:=zm (hbox);have n7_:=zm ((by rw [hg];exact (by first|exact HK.out.1|exact (show Kept w _ (fun k_=>P0_0_ k_∨P0_1_ k_) from by repeat (first|(with_reducible first|exact HK.out|apply Kept.alloc|apply Kept.drewN|apply Kept.drew|refine Kept.setCell ?_ (.inr GW346.out) _|refine Kept.setCell ?_ (.inr GW347.out) _)|exact HK.out)).1):w.heap.size≤gb348));have n8_:=zm ((by rw [hg];exact (below_size (by repeat (first|(with_reducible first|exact HB.out|apply zlA|apply zlN|apply zlD|refine zlS ?_ GE346.out|refine zlS ?_ GE347.out)|exact HB.out))):w0.heap.size≤gb348));have n9_:=zm ((by rw [hg];exact Nat.ne_of_lt (blk_lt (g:=gb346) (o:=.cells #[.slice Ao7 l0_0.length co7,.slice Ao8 l0_1.length co8,.int .i64 a0_2] 25 (0,0)) (by (with_reducible repeat (first|refine zbN ?_ _|refine zbD ?_|refine zbA ?_ _));exact BK346.out)):gb346≠gb348));have n10_:=zm ((by rw [hg];exact Nat.ne_of_gt (blk_lt (g:=gb346) (o:=.cells #[.slice Ao7 l0_0.length co7,.slice Ao8 l0_1.length co8,.int .i64 a0_2] 25 (0,0)) (by (with_reducible repeat (first|refine zbN ?_ _|refine zbD ?_|refine zbA ?_ _));exact BK346.out)):gb348≠gb346));have n11_:=zm ((by rw [hg];exact Nat.ne_of_lt (blk_lt (g:=gb347) (o:=.cells #[.int .i64 a1_0,.int .i64 a1_1,.int .i64 a1_2] 55 (0,0)) (by (with_reducible repeat (first|refine zbN ?_ _|refine zbD ?_|refine zbA ?_ _));exact BK347.out)):gb347≠gb348));have n12_:=zm ((by rw [hg];exact Nat.ne_of_gt (blk_lt (g:=gb347) (o:=.cells #[.int .i64 a1_0,.int .i64 a1_1,.int .i64 a1_2] 55 (0,0)) (by (with_reducible repeat (first|refine zbN ?_ _|refine zbD ?_|refine zbA ?_ _));exact BK347.out)):gb348≠gb347));clear HO0_0 HO0_1 BK346 BK347 HK HB;have HO0_0:=n0_;have HO0_1:=n1_;have BK346:=n2_;have BK347:=n3_;have HK:=n4_;have HB:=n5_;have BK348:=n6_;have GW348:=n7_;have GE348:=n8_;have NB346_348:=n9_;have NB348_346:=n10_;have NB347_348:=n11_;have NB348_347:=n12_;clear n0_ n1_ n2_ n3_ n4_ n5_ n6_ n7_ n8_ n9_ n10_ n11_ n12_;clear hb hbox hg;have hnb12:=NB347_346.out;have hnc12:=NB346_347.out;have hnb13:=NB347_348.out;have hnc13:=NB348_347.out;have hcz14_0:w11.cell? ⟨gb347,0,none⟩=some (.int .i64 a1_0):=(blk_cell BK347.out 0).trans rfl;have hcz14_1:w11.cell? ⟨gb347,1,none⟩=some (.int .i64 a1_1):=(blk_cell BK347.out 1).trans rfl;have hcz14_2:w11.cell? ⟨gb347,2,none⟩=some (.int .i64 a1_2):=(blk_cell BK347.out 2).trans rfl;have hfz14_0:=blk_frozen BK347.out 0;have hfz14_1:=blk_frozen BK347.out 1;have hfz14_2:=blk_frozen BK347.out 2;have hnb15:=NB346_348.out;have hnc15:=NB348_346.out;have hcz16_0:w11.cell? ⟨gb346,0,none⟩=some (.slice Ao7 l0_0.length co7):=(blk_cell BK346.out 0).trans rfl;have hcz16_1:w11.cell? ⟨gb346,1,none⟩=some (.slice Ao8 l0_1.length co8):=(blk_cell BK346.out 1).trans rfl;have hcz16_2:w11.cell? ⟨gb346,2,none⟩=some (.int .i64 a0_2):=(blk_cell BK346.out 2).trans rfl;have hfz16_0:=blk_frozen BK346.out 0;have hfz16_1:=blk_frozen BK346.out 1;have hfz16_2:=blk_frozen BK346.out 2;have p6:0≤(a1_1:Int):=of_decide_eq_true (by first|(with_reducible assumption)|assumption);have q6:(a1_1:Int) < ((l0_0.length:Int):Int):=of_decide_eq_true (by first|(with_reducible assumption)|assumption);obtain ⟨go6,co6,eo6,gb6,gl6,cl6,HG6⟩:=Kd.R_form HO0_0.out (by omega);(first|cases eo6|(injection eo6 with ea_ en_ ec_;(first|subst ea_|(injection ea_ with ea_;subst ea_));subst ec_;clear en_));have GB6:=zm gb6;have GG6:=zm HG6;clear gb6 gl6 HG6;have HMgo6:=zm (show ((P0_0_ go6∨P0_1_ go6)∨w.heap.size≤go6) from (HO0_0.out.1 _ rfl));obtain ⟨hx6_0,hf6_0⟩:=Kd.R_celln false HO0_0.out (a1_1:Int) p6 q6;replace p6:=eq_true p6;replace q6:=eq_true q6;obtain ⟨hy17_,hz17_⟩:=Kd.R_celln false HO0_0.out (a1_1:Int) (of_decide_eq_true (by first|(with_reducible assumption)|assumption)) (of_decide_eq_true (by first|(with_reducible assumption)|assumption));have HP17:=Kd.R_putg HO0_0.out (a1_1:Int) true)|((with_reducible refine gate_store (t:=4) (p:=13) rfl ?_);refine store_event (t:=4) (p:=13) (v:=?vo_w18) (w1:=(w11.setCell ⟨go6,(a1_1:Int).toNat,none⟩ (.bool true))) ?hg ?ho ?hn ?hr ?_;(case ho=>rfl);(case hg=>rfl);(case hn=>rfl);(case hr=>first|(go_simp;done)|(go_simp;rfl));intro w18 hw;have hg:w11.grownBy w18 (some go6):=(by rw [hw];exact HP17.2);have hp_:Kd.R Kd.bool 4 w18 w0.heap.size (fun k_=>((P0_0_ k_∨P0_1_ k_)∨w.heap.size≤k_)) (.slice (some ⟨go6,0,none⟩) l0_0.length co7) y349:=(by rw [hw,Ny349.out];exact HP17.1);clear HP17;have n0_:=zm (hp_);have n1_:=zm (Kd.R_over' (v:=(.slice (some ⟨go6,0,none⟩) l0_0.length co7)) (by (with_reducible repeat (first|apply zrA|apply zrN|apply zrD));exact HO0_1.out) (Kd.R_typed HO0_0.out) (by decide) hg);have n2_:=zm (blk_grown (g:=gb346) (o:=.cells #[.slice (some ⟨go6,0,none⟩) l0_0.length co7,.slice Ao8 l0_1.length co8,.int .i64 a0_2] 25 (0,0)) (by (with_reducible repeat (first|refine zbN ?_ _|refine zbD ?_|refine zbA ?_ _));exact BK346.out) hg (Kd.R_ne HO0_0.out BK346.out (by decide)));have n3_:=zm (blk_grown (g:=gb347) (o:=.cells #[.int .i64 a1_0,.int .i64 a1_1,.int .i64 a1_2] 55 (0,0)) (by (with_reducible repeat (first|refine zbN ?_ _|refine zbD ?_|refine zbA ?_ _));exact BK347.out) hg (Kd.R_ne HO0_0.out BK347.out (by decide)));have n4_:=zm (blk_grown (g:=gb348) (o:=.cells #[.slice none 0 0,.slice none 0 0,.int .i64 0] 25 (0,0)) (by (with_reducible repeat (first|refine zbN ?_ _|refine zbD ?_|refine zbA ?_ _));exact BK348.out) hg (Kd.R_ne HO0_0.out BK348.out (by decide)));have n5_:=zm ((by rw [hw];exact zlS (HB.out) GB6.out:Below w0.heap.size w0 w18));have n6_:=zm (Kept.of_grown (S:=(fun k_=>P0_0_ k_∨P0_1_ k_)) hg (by repeat (first|(with_reducible first|exact HK.out|apply Kept.alloc|apply Kept.drewN|apply Kept.drew|refine Kept.setCell ?_ (.inr GW346.out) _|refine Kept.setCell ?_ (.inr GW347.out) _|refine Kept.setCell ?_ (.inr GW348.out) _)|exact HK.out)) (fun k_ e_=>(HO0_0.out.1 k_ e_)));clear HO0_0 HO0_1 BK346 BK347 BK348 HB HK;have HO0_0:=n0_;have HO0_1:=n1_;have BK346:=n2_;have BK347:=n3_;have BK348:=n4_;have HB:=n5_;have HK:=n6_;clear n0_ n1_ n2_ n3_ n4_ n5_ n6_;clear hg hw hp_;have hcz19_0:w18.cell? ⟨gb346,0,none⟩=some (.slice (some ⟨go6,0,none⟩) l0_0.length co7):=(blk_cell BK346.out 0).trans rfl;have hcz19_1:w18.cell? ⟨gb346,1,none⟩=some (.slice Ao8 l0_1.length co8):=(blk_cell BK346.out 1).trans rfl;have hcz19_2:w18.cell? ⟨gb346,2,none⟩=some (.int .i64 a0_2):=(blk_cell BK346.out 2).trans rfl;have hfz19_0:=blk_frozen BK346.out 0;have hfz19_1:=blk_frozen BK346.out 1;have hfz19_2:=blk_frozen BK346.out 2;have hcz20_0:w18.cell? ⟨gb348,0,none⟩=some (.slice none 0 0):=(blk_cell BK348.out 0).trans rfl;have hcz20_1:w18.cell? ⟨gb348,1,none⟩=some (.slice none 0 0):=(blk_cell BK348.out 1).trans rfl;have hcz20_2:w18.cell? ⟨gb348,2,none⟩=some (.int .i64 0):=(blk_cell BK348.out 2).trans rfl;have hfz20_0:=blk_frozen BK348.out 0;have hfz20_1:=blk_frozen BK348.out 1;have hfz20_2:=blk_frozen BK348.out 2))
    refine bodyPost_ret (results_cell_row rfl _ _ gb348 25 #[.slice (some ⟨go6,0,none⟩) l0_0.length co7,.slice Ao8 l0_1.length co8,.int .i64 a0_2] (0,0) _ rfl (by (with_reducible repeat (first|refine zbN ?_ _|refine zbD ?_|refine zbA ?_ _));refine blk_put (cs:=#[.slice (some ⟨go6,0,none⟩) l0_0.length co7,.slice Ao8 l0_1.length co8,.int .i64 0]) ?_ 2 _ rfl;(with_reducible repeat (first|refine zbN ?_ _|refine zbD ?_|refine zbA ?_ _));refine blk_put (cs:=#[.slice (some ⟨go6,0,none⟩) l0_0.length co7,.slice none 0 0,.int .i64 0]) ?_ 1 _ rfl;(with_reducible repeat (first|refine zbN ?_ _|refine zbD ?_|refine zbA ?_ _));refine blk_put (cs:=#[.slice none 0 0,.slice none 0 0,.int .i64 0]) ?_ 0 _ rfl;(with_reducible repeat (first|refine zbN ?_ _|refine zbD ?_|refine zbA ?_ _));exact BK348.out) Try.underlying25 rfl (by kernel_rfl)) rfl ?_
    exact ⟨_,_,by first|rfl|(simp [errW_none,errW_some] <;> rfl)|(simp [*,errW_none,errW_some] <;> rfl),by (with_reducible repeat (first|apply zrA|apply zrN|apply zrD));exact Kd.R_mono (Kd.R_far (p:=⟨gb348,2,none⟩) (Kd.R_far (p:=⟨gb348,1,none⟩) (Kd.R_far (p:=⟨gb348,0,none⟩) (Kd.R_types HO0_0.out BK348.out (by decide)) (fun _ hk=>hk.2) (.slice (some ⟨go6,0,none⟩) l0_0.length co7)) (fun _ hk=>hk.2) (.slice Ao8 l0_1.length co8)) (fun _ hk=>hk.2) (.int .i64 a0_2)) (fun _ hk=>hk.1),by (with_reducible repeat (first|apply zrA|apply zrN|apply zrD));exact Kd.R_mono (Kd.R_far (p:=⟨gb348,2,none⟩) (Kd.R_far (p:=⟨gb348,1,none⟩) (Kd.R_far (p:=⟨gb348,0,none⟩) (Kd.R_types HO0_1.out BK348.out (by decide)) (fun _ hk=>hk.2) (.slice (some ⟨go6,0,none⟩) l0_0.length co7)) (fun _ hk=>hk.2) (.slice Ao8 l0_1.length co8)) (fun _ hk=>hk.2) (.int .i64 a0_2)) (fun _ hk=>hk.1),by repeat (first|(with_reducible first|exact HB.out|apply zlA|apply zlN|apply zlD|refine zlS ?_ GE346.out|refine zlS ?_ GE347.out|refine zlS ?_ GE348.out)|exact HB.out),by repeat (first|(with_reducible first|exact HK.out|apply Kept.alloc|apply Kept.drewN|apply Kept.drew|refine Kept.setCell ?_ (.inr GW346.out) _|refine Kept.setCell ?_ (.inr GW347.out) _|refine Kept.setCell ?_ (.inr GW348.out) _)|exact HK.out)⟩
   ·rw [if_neg c5] at H
    exact absurd H (by simp)
  ·rw [if_neg c4] at H
   exact absurd H (by simp)
 ·rw [if_neg c3] at H
  have c3b0:(a1_0 == 1)=false:=beq_eq_false_iff_ne.mpr c3
  have c3b1:(a1_0 != 1)=true:=bne_iff_ne.mpr c3
  by_cases c21:a1_0=2
  ·rw [if_pos c21] at H
   have c21b0:(a1_0 == 2)=true:=beq_iff_eq.mpr c21
   have c21b1:(a1_0 != 2)=false:=bne_eq_false_iff_eq.mpr c21
   clear c21
   by_cases c22:0≤a1_1
   ·rw [if_pos c22] at H
    have c22b0:decide (0≤a1_1)=true:=decide_eq_true c22
    clear c22
    by_cases c23:a1_1 < (l0_1.length:Int)
    ·rw [if_pos c23] at H
     have c23b0:decide (a1_1 < (l0_1.length:Int))=true:=decide_eq_true c23
     clear c23
     obtain ⟨ji24,hji24⟩:∃ j_:Int,(mx (rd l0_1 a1_1) a1_2)=j_:=⟨_,rfl⟩
     replace H:(some (l0_0,(l0_1.set (a1_1:Int).toNat (ji24)),a0_2))=some (r1,r2,r3):=by first|(rw [hji24] at H;exact H)|(simp only [hji24] at H ⊢;exact H)
     have hji24_:(if (rd l0_1 a1_1) < a1_2 then a1_2 else (rd l0_1 a1_1))=ji24:=hji24
     obtain ⟨y351,hy351⟩:∃ y_:List Int,y_=(l0_1.set (a1_1:Int).toNat (ji24)):=⟨_,rfl⟩
     replace H:(some (l0_0,y351,a0_2))=some (r1,r2,r3):=by first|(rw [hy351];with_reducible exact H)|(have H2_:=(Option.bind_some _ _).symm.trans H;rw [hy351];with_reducible exact H2_)|(have H2_:=(Option.bind_some _ _).symm.trans H;with_reducible exact H2_)|with_reducible exact H|(rw [hy351];exact H)|exact H
     have Ny351:=zm hy351
     clear hy351
     simp only [Option.some.injEq,Prod.mk.injEq] at H
     obtain ⟨rfl,rfl,rfl⟩:=H
     obtain ⟨Ao26,co26,eo26⟩:=Kd.R_slice HO0_0.out
     subst eo26
     obtain ⟨Ao27,co27,eo27⟩:=Kd.R_slice HO0_1.out
     subst eo27
     go_enter Try.func64,Try.ntmps64
     try go_wp2_with (first|((with_reducible refine gate_dst (N:=2) rfl ?_);refine box_event ?hg (N:=2) ?hd (cs:=#[.slice Ao26 l0_0.length co26,.slice Ao27 l0_1.length co27,.int .i64 a0_2]) (t:=25) ?hr ?_;(case hd=>rfl);(case hg=>rfl);(case hr=>first|(go_simp;done)|(go_simp;rfl));intro gb346 hg w28 hbox hb;have n0_:=zm (Kd.R_below (by (with_reducible repeat (first|apply zrA|apply zrN|apply zrD));exact HO0_0.out) hb);have n1_:=zm (Kd.R_below (by (with_reducible repeat (first|apply zrA|apply zrN|apply zrD));exact HO0_1.out) hb);have n2_:=zm (Kept.below (S:=(fun k_=>P0_0_ k_∨P0_1_ k_)) (by repeat (first|(with_reducible first|exact HK.out|apply Kept.alloc|apply Kept.drewN|apply Kept.drew)|exact HK.out)) hb);have n3_:=zm (below_step (by repeat (first|(with_reducible first|exact HB.out|apply zlA|apply zlN|apply zlD)|exact HB.out)) hb);have n4_:=zm (hbox);have n5_:=zm ((by rw [hg];exact (by first|exact HK.out.1|exact (show Kept w _ (fun k_=>P0_0_ k_∨P0_1_ k_) from by repeat (first|(with_reducible first|exact HK.out|apply Kept.alloc|apply Kept.drewN|apply Kept.drew)|exact HK.out)).1):w.heap.size≤gb346));have n6_:=zm ((by rw [hg];exact (below_size (by repeat (first|(with_reducible first|exact HB.out|apply zlA|apply zlN|apply zlD)|exact HB.out))):w0.heap.size≤gb346));clear HO0_0 HO0_1 HK HB;have HO0_0:=n0_;have HO0_1:=n1_;have HK:=n2_;have HB:=n3_;have BK346:=n4_;have GW346:=n5_;have GE346:=n6_;clear n0_ n1_ n2_ n3_ n4_ n5_ n6_;clear hb hbox hg)|((with_reducible refine gate_dst (N:=3) rfl ?_);refine box_event ?hg (N:=3) ?hd (cs:=#[.int .i64 a1_0,.int .i64 a1_1,.int .i64 a1_2]) (t:=55) ?hr ?_;(case hd=>rfl);(case hg=>rfl);(case hr=>first|(go_simp;done)|(go_simp;rfl));intro gb347 hg w29 hbox hb;have n0_:=zm (Kd.R_below (by (with_reducible repeat (first|apply zrA|apply zrN|apply zrD));exact HO0_0.out) hb);have n1_:=zm (Kd.R_below (by (with_reducible repeat (first|apply zrA|apply zrN|apply zrD));exact HO0_1.out) hb);have n2_:=zm (zbB (g:=gb346) (o:=.cells #[.slice Ao26 l0_0.length co26,.slice Ao27 l0_1.length co27,.int .i64 a0_2] 25 (0,0)) (by (with_reducible repeat (first|refine zbN ?_ _|refine zbD ?_|refine zbA ?_ _));exact BK346.out) hb);have n3_:=zm (Kept.below (S:=(fun k_=>P0_0_ k_∨P0_1_ k_)) (by repeat (first|(with_reducible first|exact HK.out|apply Kept.alloc|apply Kept.drewN|apply Kept.drew|refine Kept.setCell ?_ (.inr GW346.out) _)|exact HK.out)) hb);have n4_:=zm (below_step (by repeat (first|(with_reducible first|exact HB.out|apply zlA|apply zlN|apply zlD|refine zlS ?_ GE346.out)|exact HB.out)) hb);have n5_:=zm (hbox);have n6_:=zm ((by rw [hg];exact (by first|exact HK.out.1|exact (show Kept w _ (fun k_=>P0_0_ k_∨P0_1_ k_) from by repeat (first|(with_reducible first|exact HK.out|apply Kept.alloc|apply Kept.drewN|apply Kept.drew|refine Kept.setCell ?_ (.inr GW346.out) _)|exact HK.out)).1):w.heap.size≤gb347));have n7_:=zm ((by rw [hg];exact (below_size (by repeat (first|(with_reducible first|exact HB.out|apply zlA|apply zlN|apply zlD|refine zlS ?_ GE346.out)|exact HB.out))):w0.heap.size≤gb347));have n8_:=zm ((by rw [hg];exact Nat.ne_of_lt (blk_lt (g:=gb346) (o:=.cells #[.slice Ao26 l0_0.length co26,.slice Ao27 l0_1.length co27,.int .i64 a0_2] 25 (0,0)) (by (with_reducible repeat (first|refine zbN ?_ _|refine zbD ?_|refine zbA ?_ _));exact BK346.out)):gb346≠gb347));have n9_:=zm ((by rw [hg];exact Nat.ne_of_gt (blk_lt (g:=gb346) (o:=.cells #[.slice Ao26 l0_0.length co26,.slice Ao27 l0_1.length co27,.int .i64 a0_2] 25 (0,0)) (by (with_reducible repeat (first|refine zbN ?_ _|refine zbD ?_|refine zbA ?_ _));exact BK346.out)):gb347≠gb346));clear HO0_0 HO0_1 BK346 HK HB;have HO0_0:=n0_;have HO0_1:=n1_;have BK346:=n2_;have HK:=n3_;have HB:=n4_;have BK347:=n5_;have GW347:=n6_;have GE347:=n7_;have NB346_347:=n8_;have NB347_346:=n9_;clear n0_ n1_ n2_ n3_ n4_ n5_ n6_ n7_ n8_ n9_;clear hb hbox hg)|((with_reducible refine gate_dst (N:=4) rfl ?_);refine box_event ?hg (N:=4) ?hd (cs:=#[.slice none 0 0,.slice none 0 0,.int .i64 0]) (t:=25) ?hr ?_;(case hd=>rfl);(case hg=>rfl);(case hr=>first|(go_simp;done)|(go_simp;rfl));intro gb348 hg w30 hbox hb;have n0_:=zm (Kd.R_below (by (with_reducible repeat (first|apply zrA|apply zrN|apply zrD));exact HO0_0.out) hb);have n1_:=zm (Kd.R_below (by (with_reducible repeat (first|apply zrA|apply zrN|apply zrD));exact HO0_1.out) hb);have n2_:=zm (zbB (g:=gb346) (o:=.cells #[.slice Ao26 l0_0.length co26,.slice Ao27 l0_1.length co27,.int .i64 a0_2] 25 (0,0)) (by (with_reducible repeat (first|refine zbN ?_ _|refine zbD ?_|refine zbA ?_ _));exact BK346.out) hb);have n3_:=zm (zbB (g:=gb347) (o:=.cells #[.int .i64 a1_0,.int .i64 a1_1,.int .i64 a1_2] 55 (0,0)) (by (with_reducible repeat (first|refine zbN ?_ _|refine zbD ?_|refine zbA ?_ _));exact BK347.out) hb);have n4_:=zm (Kept.below (S:=(fun k_=>P0_0_ k_∨P0_1_ k_)) (by repeat (first|(with_reducible first|exact HK.out|apply Kept.alloc|apply Kept.drewN|apply Kept.drew|refine Kept.setCell ?_ (.inr GW346.out) _|refine Kept.setCell ?_ (.inr GW347.out) _)|exact HK.out)) hb);have n5_:=zm (below_step (by repeat (first|(with_reducible first|exact HB.out|apply zlA|apply zlN|apply zlD|refine zlS ?_ GE346.out|refine zlS ?_ GE347.out)|exact HB.out)) hb);have n6_:=zm (hbox);have n7_:=zm ((by rw [hg];exact (by first|exact HK.out.1|exact (show Kept w _ (fun k_=>P0_0_ k_∨P0_1_ k_) from by repeat (first|(with_reducible first|exact HK.out|apply Kept.alloc|apply Kept.drewN|apply Kept.drew|refine Kept.setCell ?_ (.inr GW346.out) _|refine Kept.setCell ?_ (.inr GW347.out) _)|exact HK.out)).1):w.heap.size≤gb348));have n8_:=zm ((by rw [hg];exact (below_size (by repeat (first|(with_reducible first|exact HB.out|apply zlA|apply zlN|apply zlD|refine zlS ?_ GE346.out|refine zlS ?_ GE347.out)|exact HB.out))):w0.heap.size≤gb348));have n9_:=zm ((by rw [hg];exact Nat.ne_of_lt (blk_lt (g:=gb346) (o:=.cells #[.slice Ao26 l0_0.length co26,.slice Ao27 l0_1.length co27,.int .i64 a0_2] 25 (0,0)) (by (with_reducible repeat (first|refine zbN ?_ _|refine zbD ?_|refine zbA ?_ _));exact BK346.out)):gb346≠gb348));have n10_:=zm ((by rw [hg];exact Nat.ne_of_gt (blk_lt (g:=gb346) (o:=.cells #[.slice Ao26 l0_0.length co26,.slice Ao27 l0_1.length co27,.int .i64 a0_2] 25 (0,0)) (by (with_reducible repeat (first|refine zbN ?_ _|refine zbD ?_|refine zbA ?_ _));exact BK346.out)):gb348≠gb346));have n11_:=zm ((by rw [hg];exact Nat.ne_of_lt (blk_lt (g:=gb347) (o:=.cells #[.int .i64 a1_0,.int .i64 a1_1,.int .i64 a1_2] 55 (0,0)) (by (with_reducible repeat (first|refine zbN ?_ _|refine zbD ?_|refine zbA ?_ _));exact BK347.out)):gb347≠gb348));have n12_:=zm ((by rw [hg];exact Nat.ne_of_gt (blk_lt (g:=gb347) (o:=.cells #[.int .i64 a1_0,.int .i64 a1_1,.int .i64 a1_2] 55 (0,0)) (by (with_reducible repeat (first|refine zbN ?_ _|refine zbD ?_|refine zbA ?_ _));exact BK347.out)):gb348≠gb347));clear HO0_0 HO0_1 BK346 BK347 HK HB;have HO0_0:=n0_;have HO0_1:=n1_;have BK346:=n2_;have BK347:=n3_;have HK:=n4_;have HB:=n5_;have BK348:=n6_;have GW348:=n7_;have GE348:=n8_;have NB346_348:=n9_;have NB348_346:=n10_;have NB347_348:=n11_;have NB348_347:=n12_;clear n0_ n1_ n2_ n3_ n4_ n5_ n6_ n7_ n8_ n9_ n10_ n11_ n12_;clear hb hbox hg;have hnb31:=NB347_346.out;have hnc31:=NB346_347.out;have hnb32:=NB347_348.out;have hnc32:=NB348_347.out;have hcz33_0:w30.cell? ⟨gb347,0,none⟩=some (.int .i64 a1_0):=(blk_cell BK347.out 0).trans rfl;have hcz33_1:w30.cell? ⟨gb347,1,none⟩=some (.int .i64 a1_1):=(blk_cell BK347.out 1).trans rfl;have hcz33_2:w30.cell? ⟨gb347,2,none⟩=some (.int .i64 a1_2):=(blk_cell BK347.out 2).trans rfl;have hfz33_0:=blk_frozen BK347.out 0;have hfz33_1:=blk_frozen BK347.out 1;have hfz33_2:=blk_frozen BK347.out 2))
     have n0_:=zm (zrD HO0_0.out)
     have n1_:=zm (zrD HO0_1.out)
     have n2_:=zm (zbD BK346.out)
     have n3_:=zm (zbD BK347.out)
     have n4_:=zm (zbD BK348.out)
     have n5_:=zm (Kept.drew HK.out)
     have n6_:=zm (zlD HB.out)
     clear HO0_0 HO0_1 BK346 BK347 BK348 HK HB
     have HO0_0:=n0_
     have HO0_1:=n1_
     have BK346:=n2_
     have BK347:=n3_
     have BK348:=n4_
     have HK:=n5_
     have HB:=n6_
     clear n0_ n1_ n2_ n3_ n4_ n5_ n6_
     have p350:0≤(a1_1:Int):=of_decide_eq_true (by first|(with_reducible assumption)|assumption)
     have q350:a1_1 < (l0_1.length:Int):=of_decide_eq_true (by first|(with_reducible assumption)|assumption)
     obtain ⟨ad350,e350,hx350_0⟩:=Kd.at_int (Kd.R_reads' HO0_1.out).2.2 a1_1 p350 q350
     cases e350
     replace p350:=eq_true p350
     replace q350:=eq_true q350
     have p25:0≤(a1_1:Int):=of_decide_eq_true (by first|(with_reducible assumption)|assumption)
     have q25:(a1_1:Int) < ((l0_1.length:Int):Int):=of_decide_eq_true (by first|(with_reducible assumption)|assumption)
     obtain ⟨go25,co25,eo25,gb25,gl25,cl25,HG25⟩:=Kd.R_form HO0_1.out (by omega)
     (first|cases eo25|(injection eo25 with ea_ en_ ec_;(first|subst ea_|(injection ea_ with ea_;subst ea_));subst ec_;clear en_))
     have GB25:=zm gb25
     have GG25:=zm HG25
     clear gb25 gl25 HG25
     have HMgo25:=zm (show ((P0_0_ go25∨P0_1_ go25)∨w.heap.size≤go25) from (HO0_1.out.1 _ rfl))
     (first|simp only [add_plain] at hx350_0|skip)
     obtain ⟨hx25_0,hf25_0⟩:=Kd.R_celln 0 HO0_1.out (a1_1:Int) p25 q25
     replace p25:=eq_true p25
     replace q25:=eq_true q25
     have HP35:=Kd.R_putn HO0_1.out (a1_1:Int) ji24
     rw [← Ny351.out] at HP35
     have HQ35:=zm HP35
     clear HP35
     refine start_ (n:=15) (S:=fun w'=>w'.cell? ⟨gb346,0,none⟩=some (.slice Ao26 l0_0.length co26)∧w'.cell? ⟨gb346,1,none⟩=some (.slice (some ⟨go25,0,none⟩) l0_1.length co27)∧w'.cell? ⟨gb346,2,none⟩=some (.int .i64 a0_2)∧w'.cell? ⟨gb347,0,none⟩=some (.int .i64 a1_0)∧w'.cell? ⟨gb347,1,none⟩=some (.int .i64 a1_1)∧w'.cell? ⟨gb347,2,none⟩=some (.int .i64 a1_2)∧w'.cell? ⟨go25,(a1_1).toNat,none⟩=some (.int .i64 (rd l0_1 a1_1))) (ds:=[14]) #[false,false,false,false,false,false,false,false,false,false,false,false,false,false,false] (by kernel_rfl) rfl rfl ⟨(blk_cell BK346.out 0).trans rfl,(blk_cell BK346.out 1).trans rfl,(blk_cell BK346.out 2).trans rfl,(blk_cell BK347.out 0).trans rfl,(blk_cell BK347.out 1).trans rfl,(blk_cell BK347.out 2).trans rfl,hx350_0⟩ (fun hHeld=>?_);refine with_tabW slipwayref06_one.tab5 slipwayref06_one.bits5 (fun HT_ HW_=>?_)
     generalize w30.drew=w34 at HO0_0 HO0_1 BK346 BK347 BK348 HK HB GG25 HQ35 hf25_0 hx25_0 hx350_0 hHeld ⊢
     refine pure_ (i:=0) (N:=some 16) (v:=?_) (a':=?_) #[true,false,false,false,false,false,false,false,false,false,false,false,false,false,false] rfl rfl (any_of HT_.out (by kernel_rfl)) (fun _ _ _ h=>h) (Or.inl ⟨by rfl,?_⟩) ?_ ?_
     rotate_left
     ·intro w'
      go_simp
      with_reducible rfl
     rotate_left
     ·simp only [Act.put,List.setIfInBounds_toArray,List.set_cons_zero,List.set_cons_succ,i64_w,i32_w]
      rfl
     refine pure_ (i:=2) (N:=some 18) (v:=?_) (a':=?_) #[true,false,true,false,false,false,false,false,false,false,false,false,false,false,false] rfl rfl (any_of HT_.out (by kernel_rfl)) (fun _ _ _ h=>h) (Or.inl ⟨by rfl,?_⟩) ?_ ?_
     rotate_left
     ·intro w'
      go_simp
      with_reducible rfl
     rotate_left
     ·simp only [Act.put,List.setIfInBounds_toArray,List.set_cons_zero,List.set_cons_succ,i64_w,i32_w]
      rfl
     refine pure_ (i:=4) (N:=some 20) (v:=?_) (a':=?_) #[true,false,true,false,true,false,false,false,false,false,false,false,false,false,false] rfl rfl (any_of HT_.out (by kernel_rfl)) (fun _ _ _ h=>h) (Or.inl ⟨by rfl,?_⟩) ?_ ?_
     rotate_left
     ·intro w'
      go_simp
      with_reducible rfl
     rotate_left
     ·simp only [Act.put,List.setIfInBounds_toArray,List.set_cons_zero,List.set_cons_succ,i64_w,i32_w]
      rfl
     refine pure_ (i:=6) (N:=some 22) (v:=?_) (a':=?_) #[true,false,true,false,true,false,true,false,false,false,false,false,false,false,false] rfl rfl (any_of HT_.out (by kernel_rfl)) (fun _ _ _ h=>h) (Or.inl ⟨by rfl,?_⟩) ?_ ?_
     rotate_left
     ·intro w'
      go_simp
      with_reducible rfl
     rotate_left
     ·simp only [Act.put,List.setIfInBounds_toArray,List.set_cons_zero,List.set_cons_succ,i64_w,i32_w]
      rfl
     refine pure_ (i:=10) (N:=some 26) (v:=?_) (a':=?_) #[true,false,true,false,true,false,true,false,false,false,true,false,false,false,false] rfl rfl (any_of HT_.out (by kernel_rfl)) (fun _ _ _ h=>h) (Or.inl ⟨by rfl,?_⟩) ?_ ?_
     rotate_left
     ·intro w'
      go_simp
      with_reducible rfl
     rotate_left
     ·simp only [Act.put,List.setIfInBounds_toArray,List.set_cons_zero,List.set_cons_succ,i64_w,i32_w]
      rfl
     refine take_ (i:=1) (N:=some 17) (v:=?_) (a':=?_) #[true,true,true,false,true,false,true,false,false,false,true,false,false,false,false] rfl rfl (take_ofW HT_.out HW_.out (by kernel_rfl)) (fun _ _ _ h=>h) (Or.inl ⟨by rfl,?_⟩) hHeld ?_ ?_
     rotate_left
     ·rintro w' ⟨s0,s1,s2,s3,s4,s5,s6⟩
      go_simp
      with_reducible rfl
     rotate_left
     ·simp only [Act.put,List.setIfInBounds_toArray,List.set_cons_zero,List.set_cons_succ,i64_w,i32_w]
      rfl
     refine take_ (i:=3) (N:=some 19) (v:=?_) (a':=?_) #[true,true,true,true,true,false,true,false,false,false,true,false,false,false,false] rfl rfl (take_ofW HT_.out HW_.out (by kernel_rfl)) (fun _ _ _ h=>h) (Or.inl ⟨by rfl,?_⟩) hHeld ?_ ?_
     rotate_left
     ·rintro w' ⟨s0,s1,s2,s3,s4,s5,s6⟩
      go_simp
      with_reducible rfl
     rotate_left
     ·simp only [Act.put,List.setIfInBounds_toArray,List.set_cons_zero,List.set_cons_succ,i64_w,i32_w]
      rfl
     refine take_ (i:=5) (N:=some 21) (v:=?_) (a':=?_) #[true,true,true,true,true,true,true,false,false,false,true,false,false,false,false] rfl rfl (take_ofW HT_.out HW_.out (by kernel_rfl)) (fun _ _ _ h=>h) (Or.inl ⟨by rfl,?_⟩) hHeld ?_ ?_
     rotate_left
     ·rintro w' ⟨s0,s1,s2,s3,s4,s5,s6⟩
      go_simp
      with_reducible rfl
     rotate_left
     ·simp only [Act.put,List.setIfInBounds_toArray,List.set_cons_zero,List.set_cons_succ,i64_w,i32_w]
      rfl
     refine take_ (i:=7) (N:=some 23) (v:=?_) (a':=?_) #[true,true,true,true,true,true,true,true,false,false,true,false,false,false,false] rfl rfl (take_ofW HT_.out HW_.out (by kernel_rfl)) (fun _ _ _ h=>h) (Or.inl ⟨by rfl,?_⟩) hHeld ?_ ?_
     rotate_left
     ·rintro w' ⟨s0,s1,s2,s3,s4,s5,s6⟩
      go_simp
      with_reducible rfl
     rotate_left
     ·simp only [Act.put,List.setIfInBounds_toArray,List.set_cons_zero,List.set_cons_succ,i64_w,i32_w]
      rfl
     refine pure_ (i:=8) (N:=some 24) (v:=?_) (a':=?_) #[true,true,true,true,true,true,true,true,true,false,true,false,false,false,false] rfl rfl (any_of HT_.out (by kernel_rfl)) (fun _ _ _ h=>h) (Or.inl ⟨by rfl,?_⟩) ?_ ?_
     rotate_left
     ·intro w'
      go_simp
      with_reducible rfl
     rotate_left
     ·simp only [Act.put,List.setIfInBounds_toArray,List.set_cons_zero,List.set_cons_succ,i64_w,i32_w]
      rfl
     refine take_ (i:=9) (N:=some 25) (v:=?_) (a':=?_) #[true,true,true,true,true,true,true,true,true,true,true,false,false,false,false] rfl rfl (take_ofW HT_.out HW_.out (by kernel_rfl)) (fun _ _ _ h=>h) (Or.inl ⟨by rfl,?_⟩) hHeld ?_ ?_
     rotate_left
     ·rintro w' ⟨s0,s1,s2,s3,s4,s5,s6⟩
      go_simp
      with_reducible rfl
     rotate_left
     ·simp only [Act.put,List.setIfInBounds_toArray,List.set_cons_zero,List.set_cons_succ,i64_w,i32_w]
      rfl
     refine take_ (i:=11) (N:=some 27) (v:=?_) (a':=?_) #[true,true,true,true,true,true,true,true,true,true,true,true,false,false,false] rfl rfl (take_ofW HT_.out HW_.out (by kernel_rfl)) (fun _ _ _ h=>h) (Or.inl ⟨by rfl,?_⟩) hHeld ?_ ?_
     rotate_left
     ·rintro w' ⟨s0,s1,s2,s3,s4,s5,s6⟩
      go_simp
      with_reducible rfl
     rotate_left
     ·simp only [Act.put,List.setIfInBounds_toArray,List.set_cons_zero,List.set_cons_succ,i64_w,i32_w]
      rfl
     refine pure_ (i:=12) (N:=some 28) (v:=?_) (a':=?_) #[true,true,true,true,true,true,true,true,true,true,true,true,true,false,false] rfl rfl (any_of HT_.out (by kernel_rfl)) (fun _ _ _ h=>h) (Or.inl ⟨by rfl,?_⟩) ?_ ?_
     rotate_left
     ·intro w'
      go_simp
      with_reducible rfl
     rotate_left
     ·simp only [Act.put,List.setIfInBounds_toArray,List.set_cons_zero,List.set_cons_succ,i64_w,i32_w]
      rfl
     refine pure_ (i:=13) (N:=some 29) (v:=?_) (a':=?_) #[true,true,true,true,true,true,true,true,true,true,true,true,true,true,false] rfl rfl (any_of HT_.out (by kernel_rfl)) (fun _ _ _ h=>h) (Or.inl ⟨by rfl,?_⟩) ?_ ?_
     rotate_left
     ·intro w'
      go_simp
      with_reducible rfl
     rotate_left
     ·simp only [Act.put,List.setIfInBounds_toArray,List.set_cons_zero,List.set_cons_succ,i64_w,i32_w]
      rfl
     refine last_ (i:=14) (N:=none) #[true,true,true,true,true,true,true,true,true,true,true,true,true,true,true] rfl rfl (one_of HT_.out (by kernel_rfl)) (by decide) (fun K hK=>?_)
     refine skip_ (w1:=?_) (by rfl) rfl ?_ ?_
     rotate_left
     ·go_simp
      rfl
     refine hK.out _ _ ?_
     clear hK K
     refine done_ (done_of HT_.out (by kernel_rfl)) ?_
     have n0_:Aside0 (Kd.R Kd.bool 4 (w34.setCell ⟨go25,(a1_1:Int).toNat,none⟩ (.int .i64 ji24)) w0.heap.size (fun k_=>((P0_0_ k_∨P0_1_ k_)∨w.heap.size≤k_)) (.slice Ao26 l0_0.length co26) l0_0):=⟨by (with_reducible repeat (first|apply zrA|apply zrN|apply zrD));exact Kd.R_mono (Kd.R_far (p:=⟨go25,(a1_1:Int).toNat,none⟩) (Kd.R_types HO0_0.out GG25.out (by decide)) (fun _ hk=>hk.2) (.int .i64 ji24)) (fun _ hk=>hk.1)⟩
     have n1_:Aside0 (Kd.R (Kd.int .i64) 2 (w34.setCell ⟨go25,(a1_1:Int).toNat,none⟩ (.int .i64 ji24)) w0.heap.size (fun k_=>((P0_0_ k_∨P0_1_ k_)∨w.heap.size≤k_)) (.slice (some ⟨go25,0,none⟩) l0_1.length co27) y351):=⟨by (with_reducible repeat (first|apply zrA|apply zrN|apply zrD));exact HQ35.out⟩
     have n2_:Aside0 ((w34.setCell ⟨go25,(a1_1:Int).toNat,none⟩ (.int .i64 ji24)).heap[gb346]?=some (.cells #[.slice Ao26 l0_0.length co26,.slice (some ⟨go25,0,none⟩) l0_1.length co27,.int .i64 a0_2] 25 (0,0))):=⟨by (with_reducible repeat (first|refine zbN ?_ _|refine zbD ?_|refine zbA ?_ _));refine blk_far ?_ (by have h_:=Kd.R_ne HO0_1.out BK346.out (by decide);intro e_;exact h_ (by rw [e_];rfl)) _;(with_reducible repeat (first|refine zbN ?_ _|refine zbD ?_|refine zbA ?_ _));exact BK346.out⟩
     have n3_:Aside0 ((w34.setCell ⟨go25,(a1_1:Int).toNat,none⟩ (.int .i64 ji24)).heap[gb347]?=some (.cells #[.int .i64 a1_0,.int .i64 a1_1,.int .i64 a1_2] 55 (0,0))):=⟨by (with_reducible repeat (first|refine zbN ?_ _|refine zbD ?_|refine zbA ?_ _));refine blk_far ?_ (by have h_:=Kd.R_ne HO0_1.out BK347.out (by decide);intro e_;exact h_ (by rw [e_];rfl)) _;(with_reducible repeat (first|refine zbN ?_ _|refine zbD ?_|refine zbA ?_ _));exact BK347.out⟩
     have n4_:Aside0 ((w34.setCell ⟨go25,(a1_1:Int).toNat,none⟩ (.int .i64 ji24)).heap[gb348]?=some (.cells #[.slice none 0 0,.slice none 0 0,.int .i64 0] 25 (0,0))):=⟨by (with_reducible repeat (first|refine zbN ?_ _|refine zbD ?_|refine zbA ?_ _));refine blk_far ?_ (by have h_:=Kd.R_ne HO0_1.out BK348.out (by decide);intro e_;exact h_ (by rw [e_];rfl)) _;(with_reducible repeat (first|refine zbN ?_ _|refine zbD ?_|refine zbA ?_ _));exact BK348.out⟩
     have n5_:Aside0 (Kept w (w34.setCell ⟨go25,(a1_1:Int).toNat,none⟩ (.int .i64 ji24)) (fun k_=>P0_0_ k_∨P0_1_ k_)):=⟨by repeat (first|(with_reducible first|exact HK.out|apply Kept.alloc|apply Kept.drewN|apply Kept.drew|refine Kept.setCell ?_ HMgo25.out _|refine Kept.setCell ?_ (.inr GW346.out) _|refine Kept.setCell ?_ (.inr GW347.out) _|refine Kept.setCell ?_ (.inr GW348.out) _)|exact HK.out)⟩
     have n6_:Aside0 (Below w0.heap.size w0 (w34.setCell ⟨go25,(a1_1:Int).toNat,none⟩ (.int .i64 ji24))):=⟨by repeat (first|(with_reducible first|exact HB.out|apply zlA|apply zlN|apply zlD|refine zlS ?_ GB25.out|refine zlS ?_ GE346.out|refine zlS ?_ GE347.out|refine zlS ?_ GE348.out)|exact HB.out)⟩
     (try clear HO0_0)
     (try clear HO0_1)
     (try clear BK346)
     (try clear BK347)
     (try clear BK348)
     (try clear HK)
     (try clear HB)
     generalize (w34.setCell ⟨go25,(a1_1:Int).toNat,none⟩ (.int .i64 ji24))=w36 at n0_ n1_ n2_ n3_ n4_ n5_ n6_ ⊢
     have HO0_0:=n0_
     have HO0_1:=n1_
     have BK346:=n2_
     have BK347:=n3_
     have BK348:=n4_
     have HK:=n5_
     have HB:=n6_
     clear n0_ n1_ n2_ n3_ n4_ n5_ n6_
     have hnb37:=NB346_348.out
     have hnc37:=NB348_346.out
     have hcz38_0:w36.cell? ⟨gb346,0,none⟩=some (.slice Ao26 l0_0.length co26):=(blk_cell BK346.out 0).trans rfl
     have hcz38_1:w36.cell? ⟨gb346,1,none⟩=some (.slice (some ⟨go25,0,none⟩) l0_1.length co27):=(blk_cell BK346.out 1).trans rfl
     have hcz38_2:w36.cell? ⟨gb346,2,none⟩=some (.int .i64 a0_2):=(blk_cell BK346.out 2).trans rfl
     have hfz38_0:=blk_frozen BK346.out 0
     have hfz38_1:=blk_frozen BK346.out 1
     have hfz38_2:=blk_frozen BK346.out 2
     have hcz39_0:w36.cell? ⟨gb348,0,none⟩=some (.slice none 0 0):=(blk_cell BK348.out 0).trans rfl
     have hcz39_1:w36.cell? ⟨gb348,1,none⟩=some (.slice none 0 0):=(blk_cell BK348.out 1).trans rfl
     have hcz39_2:w36.cell? ⟨gb348,2,none⟩=some (.int .i64 0):=(blk_cell BK348.out 2).trans rfl
     have hfz39_0:=blk_frozen BK348.out 0
     have hfz39_1:=blk_frozen BK348.out 1
     have hfz39_2:=blk_frozen BK348.out 2
     try go_wp2
     refine bodyPost_ret (results_cell_row rfl _ _ gb348 25 #[.slice Ao26 l0_0.length co26,.slice (some ⟨go25,0,none⟩) l0_1.length co27,.int .i64 a0_2] (0,0) _ rfl (by (with_reducible repeat (first|refine zbN ?_ _|refine zbD ?_|refine zbA ?_ _));refine blk_put (cs:=#[.slice Ao26 l0_0.length co26,.slice (some ⟨go25,0,none⟩) l0_1.length co27,.int .i64 0]) ?_ 2 _ rfl;(with_reducible repeat (first|refine zbN ?_ _|refine zbD ?_|refine zbA ?_ _));refine blk_put (cs:=#[.slice Ao26 l0_0.length co26,.slice none 0 0,.int .i64 0]) ?_ 1 _ rfl;(with_reducible repeat (first|refine zbN ?_ _|refine zbD ?_|refine zbA ?_ _));refine blk_put (cs:=#[.slice none 0 0,.slice none 0 0,.int .i64 0]) ?_ 0 _ rfl;(with_reducible repeat (first|refine zbN ?_ _|refine zbD ?_|refine zbA ?_ _));exact BK348.out) Try.underlying25 rfl (by kernel_rfl)) rfl ?_
     exact ⟨_,_,by first|rfl|(simp [errW_none,errW_some] <;> rfl)|(simp only [← hji24];first|rfl|(simp [errW_none,errW_some] <;> rfl))|(simp [*,errW_none,errW_some] <;> rfl),by (with_reducible repeat (first|apply zrA|apply zrN|apply zrD));exact Kd.R_mono (Kd.R_far (p:=⟨gb348,2,none⟩) (Kd.R_far (p:=⟨gb348,1,none⟩) (Kd.R_far (p:=⟨gb348,0,none⟩) (Kd.R_types HO0_0.out BK348.out (by decide)) (fun _ hk=>hk.2) (.slice Ao26 l0_0.length co26)) (fun _ hk=>hk.2) (.slice (some ⟨go25,0,none⟩) l0_1.length co27)) (fun _ hk=>hk.2) (.int .i64 a0_2)) (fun _ hk=>hk.1),by (with_reducible repeat (first|apply zrA|apply zrN|apply zrD));exact Kd.R_mono (Kd.R_far (p:=⟨gb348,2,none⟩) (Kd.R_far (p:=⟨gb348,1,none⟩) (Kd.R_far (p:=⟨gb348,0,none⟩) (Kd.R_types HO0_1.out BK348.out (by decide)) (fun _ hk=>hk.2) (.slice Ao26 l0_0.length co26)) (fun _ hk=>hk.2) (.slice (some ⟨go25,0,none⟩) l0_1.length co27)) (fun _ hk=>hk.2) (.int .i64 a0_2)) (fun _ hk=>hk.1),by repeat (first|(with_reducible first|exact HB.out|apply zlA|apply zlN|apply zlD|refine zlS ?_ GE346.out|refine zlS ?_ GE347.out|refine zlS ?_ GE348.out)|exact HB.out),by repeat (first|(with_reducible first|exact HK.out|apply Kept.alloc|apply Kept.drewN|apply Kept.drew|refine Kept.setCell ?_ (.inr GW346.out) _|refine Kept.setCell ?_ (.inr GW347.out) _|refine Kept.setCell ?_ (.inr GW348.out) _)|exact HK.out)⟩
    ·rw [if_neg c23] at H
     exact absurd H (by simp)
   ·rw [if_neg c22] at H
    exact absurd H (by simp)
  ·rw [if_neg c21] at H
   have c21b0:(a1_0 == 2)=false:=beq_eq_false_iff_ne.mpr c21
   have c21b1:(a1_0 != 2)=true:=bne_iff_ne.mpr c21
   by_cases c40:a1_0=3
   ·rw [if_pos c40] at H
    have c40b0:(a1_0 == 3)=true:=beq_iff_eq.mpr c40
    have c40b1:(a1_0 != 3)=false:=bne_eq_false_iff_eq.mpr c40
    clear c40
    obtain ⟨ji41,hji41⟩:∃ j_:Int,(mx a0_2 a1_2)=j_:=⟨_,rfl⟩
    replace H:(some (l0_0,l0_1,ji41))=some (r1,r2,r3):=by first|(rw [hji41] at H;exact H)|(simp only [hji41] at H ⊢;exact H)
    have hji41_:(if a0_2 < a1_2 then a1_2 else a0_2)=ji41:=hji41
    simp only [Option.some.injEq,Prod.mk.injEq] at H
    obtain ⟨rfl,rfl,rfl⟩:=H
    obtain ⟨Ao42,co42,eo42⟩:=Kd.R_slice HO0_0.out
    subst eo42
    obtain ⟨Ao43,co43,eo43⟩:=Kd.R_slice HO0_1.out
    subst eo43
    go_enter Try.func64,Try.ntmps64
    go_wp2_with (first|((with_reducible refine gate_dst (N:=2) rfl ?_);refine box_event ?hg (N:=2) ?hd (cs:=#[.slice Ao42 l0_0.length co42,.slice Ao43 l0_1.length co43,.int .i64 a0_2]) (t:=25) ?hr ?_;(case hd=>rfl);(case hg=>rfl);(case hr=>first|(go_simp;done)|(go_simp;rfl));intro gb346 hg w44 hbox hb;have n0_:=zm (Kd.R_below (by (with_reducible repeat (first|apply zrA|apply zrN|apply zrD));exact HO0_0.out) hb);have n1_:=zm (Kd.R_below (by (with_reducible repeat (first|apply zrA|apply zrN|apply zrD));exact HO0_1.out) hb);have n2_:=zm (Kept.below (S:=(fun k_=>P0_0_ k_∨P0_1_ k_)) (by repeat (first|(with_reducible first|exact HK.out|apply Kept.alloc|apply Kept.drewN|apply Kept.drew)|exact HK.out)) hb);have n3_:=zm (below_step (by repeat (first|(with_reducible first|exact HB.out|apply zlA|apply zlN|apply zlD)|exact HB.out)) hb);have n4_:=zm (hbox);have n5_:=zm ((by rw [hg];exact (by first|exact HK.out.1|exact (show Kept w _ (fun k_=>P0_0_ k_∨P0_1_ k_) from by repeat (first|(with_reducible first|exact HK.out|apply Kept.alloc|apply Kept.drewN|apply Kept.drew)|exact HK.out)).1):w.heap.size≤gb346));have n6_:=zm ((by rw [hg];exact (below_size (by repeat (first|(with_reducible first|exact HB.out|apply zlA|apply zlN|apply zlD)|exact HB.out))):w0.heap.size≤gb346));clear HO0_0 HO0_1 HK HB;have HO0_0:=n0_;have HO0_1:=n1_;have HK:=n2_;have HB:=n3_;have BK346:=n4_;have GW346:=n5_;have GE346:=n6_;clear n0_ n1_ n2_ n3_ n4_ n5_ n6_;clear hb hbox hg)|((with_reducible refine gate_dst (N:=3) rfl ?_);refine box_event ?hg (N:=3) ?hd (cs:=#[.int .i64 a1_0,.int .i64 a1_1,.int .i64 a1_2]) (t:=55) ?hr ?_;(case hd=>rfl);(case hg=>rfl);(case hr=>first|(go_simp;done)|(go_simp;rfl));intro gb347 hg w45 hbox hb;have n0_:=zm (Kd.R_below (by (with_reducible repeat (first|apply zrA|apply zrN|apply zrD));exact HO0_0.out) hb);have n1_:=zm (Kd.R_below (by (with_reducible repeat (first|apply zrA|apply zrN|apply zrD));exact HO0_1.out) hb);have n2_:=zm (zbB (g:=gb346) (o:=.cells #[.slice Ao42 l0_0.length co42,.slice Ao43 l0_1.length co43,.int .i64 a0_2] 25 (0,0)) (by (with_reducible repeat (first|refine zbN ?_ _|refine zbD ?_|refine zbA ?_ _));exact BK346.out) hb);have n3_:=zm (Kept.below (S:=(fun k_=>P0_0_ k_∨P0_1_ k_)) (by repeat (first|(with_reducible first|exact HK.out|apply Kept.alloc|apply Kept.drewN|apply Kept.drew|refine Kept.setCell ?_ (.inr GW346.out) _)|exact HK.out)) hb);have n4_:=zm (below_step (by repeat (first|(with_reducible first|exact HB.out|apply zlA|apply zlN|apply zlD|refine zlS ?_ GE346.out)|exact HB.out)) hb);have n5_:=zm (hbox);have n6_:=zm ((by rw [hg];exact (by first|exact HK.out.1|exact (show Kept w _ (fun k_=>P0_0_ k_∨P0_1_ k_) from by repeat (first|(with_reducible first|exact HK.out|apply Kept.alloc|apply Kept.drewN|apply Kept.drew|refine Kept.setCell ?_ (.inr GW346.out) _)|exact HK.out)).1):w.heap.size≤gb347));have n7_:=zm ((by rw [hg];exact (below_size (by repeat (first|(with_reducible first|exact HB.out|apply zlA|apply zlN|apply zlD|refine zlS ?_ GE346.out)|exact HB.out))):w0.heap.size≤gb347));have n8_:=zm ((by rw [hg];exact Nat.ne_of_lt (blk_lt (g:=gb346) (o:=.cells #[.slice Ao42 l0_0.length co42,.slice Ao43 l0_1.length co43,.int .i64 a0_2] 25 (0,0)) (by (with_reducible repeat (first|refine zbN ?_ _|refine zbD ?_|refine zbA ?_ _));exact BK346.out)):gb346≠gb347));have n9_:=zm ((by rw [hg];exact Nat.ne_of_gt (blk_lt (g:=gb346) (o:=.cells #[.slice Ao42 l0_0.length co42,.slice Ao43 l0_1.length co43,.int .i64 a0_2] 25 (0,0)) (by (with_reducible repeat (first|refine zbN ?_ _|refine zbD ?_|refine zbA ?_ _));exact BK346.out)):gb347≠gb346));clear HO0_0 HO0_1 BK346 HK HB;have HO0_0:=n0_;have HO0_1:=n1_;have BK346:=n2_;have HK:=n3_;have HB:=n4_;have BK347:=n5_;have GW347:=n6_;have GE347:=n7_;have NB346_347:=n8_;have NB347_346:=n9_;clear n0_ n1_ n2_ n3_ n4_ n5_ n6_ n7_ n8_ n9_;clear hb hbox hg)|((with_reducible refine gate_dst (N:=4) rfl ?_);refine box_event ?hg (N:=4) ?hd (cs:=#[.slice none 0 0,.slice none 0 0,.int .i64 0]) (t:=25) ?hr ?_;(case hd=>rfl);(case hg=>rfl);(case hr=>first|(go_simp;done)|(go_simp;rfl));intro gb348 hg w46 hbox hb;have n0_:=zm (Kd.R_below (by (with_reducible repeat (first|apply zrA|apply zrN|apply zrD));exact HO0_0.out) hb);have n1_:=zm (Kd.R_below (by (with_reducible repeat (first|apply zrA|apply zrN|apply zrD));exact HO0_1.out) hb);have n2_:=zm (zbB (g:=gb346) (o:=.cells #[.slice Ao42 l0_0.length co42,.slice Ao43 l0_1.length co43,.int .i64 a0_2] 25 (0,0)) (by (with_reducible repeat (first|refine zbN ?_ _|refine zbD ?_|refine zbA ?_ _));exact BK346.out) hb);have n3_:=zm (zbB (g:=gb347) (o:=.cells #[.int .i64 a1_0,.int .i64 a1_1,.int .i64 a1_2] 55 (0,0)) (by (with_reducible repeat (first|refine zbN ?_ _|refine zbD ?_|refine zbA ?_ _));exact BK347.out) hb);have n4_:=zm (Kept.below (S:=(fun k_=>P0_0_ k_∨P0_1_ k_)) (by repeat (first|(with_reducible first|exact HK.out|apply Kept.alloc|apply Kept.drewN|apply Kept.drew|refine Kept.setCell ?_ (.inr GW346.out) _|refine Kept.setCell ?_ (.inr GW347.out) _)|exact HK.out)) hb);have n5_:=zm (below_step (by repeat (first|(with_reducible first|exact HB.out|apply zlA|apply zlN|apply zlD|refine zlS ?_ GE346.out|refine zlS ?_ GE347.out)|exact HB.out)) hb);have n6_:=zm (hbox);have n7_:=zm ((by rw [hg];exact (by first|exact HK.out.1|exact (show Kept w _ (fun k_=>P0_0_ k_∨P0_1_ k_) from by repeat (first|(with_reducible first|exact HK.out|apply Kept.alloc|apply Kept.drewN|apply Kept.drew|refine Kept.setCell ?_ (.inr GW346.out) _|refine Kept.setCell ?_ (.inr GW347.out) _)|exact HK.out)).1):w.heap.size≤gb348));have n8_:=zm ((by rw [hg];exact (below_size (by repeat (first|(with_reducible first|exact HB.out|apply zlA|apply zlN|apply zlD|refine zlS ?_ GE346.out|refine zlS ?_ GE347.out)|exact HB.out))):w0.heap.size≤gb348));have n9_:=zm ((by rw [hg];exact Nat.ne_of_lt (blk_lt (g:=gb346) (o:=.cells #[.slice Ao42 l0_0.length co42,.slice Ao43 l0_1.length co43,.int .i64 a0_2] 25 (0,0)) (by (with_reducible repeat (first|refine zbN ?_ _|refine zbD ?_|refine zbA ?_ _));exact BK346.out)):gb346≠gb348));have n10_:=zm ((by rw [hg];exact Nat.ne_of_gt (blk_lt (g:=gb346) (o:=.cells #[.slice Ao42 l0_0.length co42,.slice Ao43 l0_1.length co43,.int .i64 a0_2] 25 (0,0)) (by (with_reducible repeat (first|refine zbN ?_ _|refine zbD ?_|refine zbA ?_ _));exact BK346.out)):gb348≠gb346));have n11_:=zm ((by rw [hg];exact Nat.ne_of_lt (blk_lt (g:=gb347) (o:=.cells #[.int .i64 a1_0,.int .i64 a1_1,.int .i64 a1_2] 55 (0,0)) (by (with_reducible repeat (first|refine zbN ?_ _|refine zbD ?_|refine zbA ?_ _));exact BK347.out)):gb347≠gb348));have n12_:=zm ((by rw [hg];exact Nat.ne_of_gt (blk_lt (g:=gb347) (o:=.cells #[.int .i64 a1_0,.int .i64 a1_1,.int .i64 a1_2] 55 (0,0)) (by (with_reducible repeat (first|refine zbN ?_ _|refine zbD ?_|refine zbA ?_ _));exact BK347.out)):gb348≠gb347));clear HO0_0 HO0_1 BK346 BK347 HK HB;have HO0_0:=n0_;have HO0_1:=n1_;have BK346:=n2_;have BK347:=n3_;have HK:=n4_;have HB:=n5_;have BK348:=n6_;have GW348:=n7_;have GE348:=n8_;have NB346_348:=n9_;have NB348_346:=n10_;have NB347_348:=n11_;have NB348_347:=n12_;clear n0_ n1_ n2_ n3_ n4_ n5_ n6_ n7_ n8_ n9_ n10_ n11_ n12_;clear hb hbox hg;have hnb47:=NB347_346.out;have hnc47:=NB346_347.out;have hnb48:=NB347_348.out;have hnc48:=NB348_347.out;have hcz49_0:w46.cell? ⟨gb347,0,none⟩=some (.int .i64 a1_0):=(blk_cell BK347.out 0).trans rfl;have hcz49_1:w46.cell? ⟨gb347,1,none⟩=some (.int .i64 a1_1):=(blk_cell BK347.out 1).trans rfl;have hcz49_2:w46.cell? ⟨gb347,2,none⟩=some (.int .i64 a1_2):=(blk_cell BK347.out 2).trans rfl;have hfz49_0:=blk_frozen BK347.out 0;have hfz49_1:=blk_frozen BK347.out 1;have hfz49_2:=blk_frozen BK347.out 2;have hnb50:=NB346_348.out;have hnc50:=NB348_346.out;have hcz51_0:w46.cell? ⟨gb346,0,none⟩=some (.slice Ao42 l0_0.length co42):=(blk_cell BK346.out 0).trans rfl;have hcz51_1:w46.cell? ⟨gb346,1,none⟩=some (.slice Ao43 l0_1.length co43):=(blk_cell BK346.out 1).trans rfl;have hcz51_2:w46.cell? ⟨gb346,2,none⟩=some (.int .i64 a0_2):=(blk_cell BK346.out 2).trans rfl;have hfz51_0:=blk_frozen BK346.out 0;have hfz51_1:=blk_frozen BK346.out 1;have hfz51_2:=blk_frozen BK346.out 2;have hcz52_0:w46.cell? ⟨gb348,0,none⟩=some (.slice none 0 0):=(blk_cell BK348.out 0).trans rfl;have hcz52_1:w46.cell? ⟨gb348,1,none⟩=some (.slice none 0 0):=(blk_cell BK348.out 1).trans rfl;have hcz52_2:w46.cell? ⟨gb348,2,none⟩=some (.int .i64 0):=(blk_cell BK348.out 2).trans rfl;have hfz52_0:=blk_frozen BK348.out 0;have hfz52_1:=blk_frozen BK348.out 1;have hfz52_2:=blk_frozen BK348.out 2))
    refine bodyPost_ret (results_cell_row rfl _ _ gb348 25 #[.slice Ao42 l0_0.length co42,.slice Ao43 l0_1.length co43,.int .i64 ji41] (0,0) _ rfl (by (with_reducible repeat (first|refine zbN ?_ _|refine zbD ?_|refine zbA ?_ _));refine blk_put (cs:=#[.slice Ao42 l0_0.length co42,.slice Ao43 l0_1.length co43,.int .i64 0]) ?_ 2 _ rfl;(with_reducible repeat (first|refine zbN ?_ _|refine zbD ?_|refine zbA ?_ _));refine blk_put (cs:=#[.slice Ao42 l0_0.length co42,.slice none 0 0,.int .i64 0]) ?_ 1 _ rfl;(with_reducible repeat (first|refine zbN ?_ _|refine zbD ?_|refine zbA ?_ _));refine blk_put (cs:=#[.slice none 0 0,.slice none 0 0,.int .i64 0]) ?_ 0 _ rfl;(with_reducible repeat (first|refine zbN ?_ _|refine zbD ?_|refine zbA ?_ _));refine blk_far ?_ NB348_346.out _;(with_reducible repeat (first|refine zbN ?_ _|refine zbD ?_|refine zbA ?_ _));exact BK348.out) Try.underlying25 rfl (by kernel_rfl)) rfl ?_
    exact ⟨_,_,by first|rfl|(simp [errW_none,errW_some] <;> rfl)|(simp only [← hji41];first|rfl|(simp [errW_none,errW_some] <;> rfl))|(simp [*,errW_none,errW_some] <;> rfl),by (with_reducible repeat (first|apply zrA|apply zrN|apply zrD));exact Kd.R_mono (Kd.R_far (p:=⟨gb348,2,none⟩) (Kd.R_far (p:=⟨gb348,1,none⟩) (Kd.R_far (p:=⟨gb348,0,none⟩) (Kd.R_far (p:=⟨gb346,2,none⟩) (Kd.R_types (Kd.R_types HO0_0.out BK346.out (by decide)) BK348.out (by decide)) (fun _ hk=>hk.1.2) (.int .i64 ji41)) (fun _ hk=>hk.2) (.slice Ao42 l0_0.length co42)) (fun _ hk=>hk.2) (.slice Ao43 l0_1.length co43)) (fun _ hk=>hk.2) (.int .i64 ji41)) (fun _ hk=>hk.1.1),by (with_reducible repeat (first|apply zrA|apply zrN|apply zrD));exact Kd.R_mono (Kd.R_far (p:=⟨gb348,2,none⟩) (Kd.R_far (p:=⟨gb348,1,none⟩) (Kd.R_far (p:=⟨gb348,0,none⟩) (Kd.R_far (p:=⟨gb346,2,none⟩) (Kd.R_types (Kd.R_types HO0_1.out BK346.out (by decide)) BK348.out (by decide)) (fun _ hk=>hk.1.2) (.int .i64 ji41)) (fun _ hk=>hk.2) (.slice Ao42 l0_0.length co42)) (fun _ hk=>hk.2) (.slice Ao43 l0_1.length co43)) (fun _ hk=>hk.2) (.int .i64 ji41)) (fun _ hk=>hk.1.1),by repeat (first|(with_reducible first|exact HB.out|apply zlA|apply zlN|apply zlD|refine zlS ?_ GE346.out|refine zlS ?_ GE347.out|refine zlS ?_ GE348.out)|exact HB.out),by repeat (first|(with_reducible first|exact HK.out|apply Kept.alloc|apply Kept.drewN|apply Kept.drew|refine Kept.setCell ?_ (.inr GW346.out) _|refine Kept.setCell ?_ (.inr GW347.out) _|refine Kept.setCell ?_ (.inr GW348.out) _)|exact HK.out)⟩
   ·rw [if_neg c40] at H
    have c40b0:(a1_0 == 3)=false:=beq_eq_false_iff_ne.mpr c40
    have c40b1:(a1_0 != 3)=true:=bne_iff_ne.mpr c40
    simp only [Option.some.injEq,Prod.mk.injEq] at H
    obtain ⟨rfl,rfl,rfl⟩:=H
    obtain ⟨Ao53,co53,eo53⟩:=Kd.R_slice HO0_0.out
    subst eo53
    obtain ⟨Ao54,co54,eo54⟩:=Kd.R_slice HO0_1.out
    subst eo54
    go_enter Try.func64,Try.ntmps64
    go_wp2_with (first|((with_reducible refine gate_dst (N:=2) rfl ?_);refine box_event ?hg (N:=2) ?hd (cs:=#[.slice Ao53 l0_0.length co53,.slice Ao54 l0_1.length co54,.int .i64 a0_2]) (t:=25) ?hr ?_;(case hd=>rfl);(case hg=>rfl);(case hr=>first|(go_simp;done)|(go_simp;rfl));intro gb346 hg w55 hbox hb;have n0_:=zm (Kd.R_below (by (with_reducible repeat (first|apply zrA|apply zrN|apply zrD));exact HO0_0.out) hb);have n1_:=zm (Kd.R_below (by (with_reducible repeat (first|apply zrA|apply zrN|apply zrD));exact HO0_1.out) hb);have n2_:=zm (Kept.below (S:=(fun k_=>P0_0_ k_∨P0_1_ k_)) (by repeat (first|(with_reducible first|exact HK.out|apply Kept.alloc|apply Kept.drewN|apply Kept.drew)|exact HK.out)) hb);have n3_:=zm (below_step (by repeat (first|(with_reducible first|exact HB.out|apply zlA|apply zlN|apply zlD)|exact HB.out)) hb);have n4_:=zm (hbox);have n5_:=zm ((by rw [hg];exact (by first|exact HK.out.1|exact (show Kept w _ (fun k_=>P0_0_ k_∨P0_1_ k_) from by repeat (first|(with_reducible first|exact HK.out|apply Kept.alloc|apply Kept.drewN|apply Kept.drew)|exact HK.out)).1):w.heap.size≤gb346));have n6_:=zm ((by rw [hg];exact (below_size (by repeat (first|(with_reducible first|exact HB.out|apply zlA|apply zlN|apply zlD)|exact HB.out))):w0.heap.size≤gb346));clear HO0_0 HO0_1 HK HB;have HO0_0:=n0_;have HO0_1:=n1_;have HK:=n2_;have HB:=n3_;have BK346:=n4_;have GW346:=n5_;have GE346:=n6_;clear n0_ n1_ n2_ n3_ n4_ n5_ n6_;clear hb hbox hg)|((with_reducible refine gate_dst (N:=3) rfl ?_);refine box_event ?hg (N:=3) ?hd (cs:=#[.int .i64 a1_0,.int .i64 a1_1,.int .i64 a1_2]) (t:=55) ?hr ?_;(case hd=>rfl);(case hg=>rfl);(case hr=>first|(go_simp;done)|(go_simp;rfl));intro gb347 hg w56 hbox hb;have n0_:=zm (Kd.R_below (by (with_reducible repeat (first|apply zrA|apply zrN|apply zrD));exact HO0_0.out) hb);have n1_:=zm (Kd.R_below (by (with_reducible repeat (first|apply zrA|apply zrN|apply zrD));exact HO0_1.out) hb);have n2_:=zm (zbB (g:=gb346) (o:=.cells #[.slice Ao53 l0_0.length co53,.slice Ao54 l0_1.length co54,.int .i64 a0_2] 25 (0,0)) (by (with_reducible repeat (first|refine zbN ?_ _|refine zbD ?_|refine zbA ?_ _));exact BK346.out) hb);have n3_:=zm (Kept.below (S:=(fun k_=>P0_0_ k_∨P0_1_ k_)) (by repeat (first|(with_reducible first|exact HK.out|apply Kept.alloc|apply Kept.drewN|apply Kept.drew|refine Kept.setCell ?_ (.inr GW346.out) _)|exact HK.out)) hb);have n4_:=zm (below_step (by repeat (first|(with_reducible first|exact HB.out|apply zlA|apply zlN|apply zlD|refine zlS ?_ GE346.out)|exact HB.out)) hb);have n5_:=zm (hbox);have n6_:=zm ((by rw [hg];exact (by first|exact HK.out.1|exact (show Kept w _ (fun k_=>P0_0_ k_∨P0_1_ k_) from by repeat (first|(with_reducible first|exact HK.out|apply Kept.alloc|apply Kept.drewN|apply Kept.drew|refine Kept.setCell ?_ (.inr GW346.out) _)|exact HK.out)).1):w.heap.size≤gb347));have n7_:=zm ((by rw [hg];exact (below_size (by repeat (first|(with_reducible first|exact HB.out|apply zlA|apply zlN|apply zlD|refine zlS ?_ GE346.out)|exact HB.out))):w0.heap.size≤gb347));have n8_:=zm ((by rw [hg];exact Nat.ne_of_lt (blk_lt (g:=gb346) (o:=.cells #[.slice Ao53 l0_0.length co53,.slice Ao54 l0_1.length co54,.int .i64 a0_2] 25 (0,0)) (by (with_reducible repeat (first|refine zbN ?_ _|refine zbD ?_|refine zbA ?_ _));exact BK346.out)):gb346≠gb347));have n9_:=zm ((by rw [hg];exact Nat.ne_of_gt (blk_lt (g:=gb346) (o:=.cells #[.slice Ao53 l0_0.length co53,.slice Ao54 l0_1.length co54,.int .i64 a0_2] 25 (0,0)) (by (with_reducible repeat (first|refine zbN ?_ _|refine zbD ?_|refine zbA ?_ _));exact BK346.out)):gb347≠gb346));clear HO0_0 HO0_1 BK346 HK HB;have HO0_0:=n0_;have HO0_1:=n1_;have BK346:=n2_;have HK:=n3_;have HB:=n4_;have BK347:=n5_;have GW347:=n6_;have GE347:=n7_;have NB346_347:=n8_;have NB347_346:=n9_;clear n0_ n1_ n2_ n3_ n4_ n5_ n6_ n7_ n8_ n9_;clear hb hbox hg)|((with_reducible refine gate_dst (N:=4) rfl ?_);refine box_event ?hg (N:=4) ?hd (cs:=#[.slice none 0 0,.slice none 0 0,.int .i64 0]) (t:=25) ?hr ?_;(case hd=>rfl);(case hg=>rfl);(case hr=>first|(go_simp;done)|(go_simp;rfl));intro gb348 hg w57 hbox hb;have n0_:=zm (Kd.R_below (by (with_reducible repeat (first|apply zrA|apply zrN|apply zrD));exact HO0_0.out) hb);have n1_:=zm (Kd.R_below (by (with_reducible repeat (first|apply zrA|apply zrN|apply zrD));exact HO0_1.out) hb);have n2_:=zm (zbB (g:=gb346) (o:=.cells #[.slice Ao53 l0_0.length co53,.slice Ao54 l0_1.length co54,.int .i64 a0_2] 25 (0,0)) (by (with_reducible repeat (first|refine zbN ?_ _|refine zbD ?_|refine zbA ?_ _));exact BK346.out) hb);have n3_:=zm (zbB (g:=gb347) (o:=.cells #[.int .i64 a1_0,.int .i64 a1_1,.int .i64 a1_2] 55 (0,0)) (by (with_reducible repeat (first|refine zbN ?_ _|refine zbD ?_|refine zbA ?_ _));exact BK347.out) hb);have n4_:=zm (Kept.below (S:=(fun k_=>P0_0_ k_∨P0_1_ k_)) (by repeat (first|(with_reducible first|exact HK.out|apply Kept.alloc|apply Kept.drewN|apply Kept.drew|refine Kept.setCell ?_ (.inr GW346.out) _|refine Kept.setCell ?_ (.inr GW347.out) _)|exact HK.out)) hb);have n5_:=zm (below_step (by repeat (first|(with_reducible first|exact HB.out|apply zlA|apply zlN|apply zlD|refine zlS ?_ GE346.out|refine zlS ?_ GE347.out)|exact HB.out)) hb);have n6_:=zm (hbox);have n7_:=zm ((by rw [hg];exact (by first|exact HK.out.1|exact (show Kept w _ (fun k_=>P0_0_ k_∨P0_1_ k_) from by repeat (first|(with_reducible first|exact HK.out|apply Kept.alloc|apply Kept.drewN|apply Kept.drew|refine Kept.setCell ?_ (.inr GW346.out) _|refine Kept.setCell ?_ (.inr GW347.out) _)|exact HK.out)).1):w.heap.size≤gb348));have n8_:=zm ((by rw [hg];exact (below_size (by repeat (first|(with_reducible first|exact HB.out|apply zlA|apply zlN|apply zlD|refine zlS ?_ GE346.out|refine zlS ?_ GE347.out)|exact HB.out))):w0.heap.size≤gb348));have n9_:=zm ((by rw [hg];exact Nat.ne_of_lt (blk_lt (g:=gb346) (o:=.cells #[.slice Ao53 l0_0.length co53,.slice Ao54 l0_1.length co54,.int .i64 a0_2] 25 (0,0)) (by (with_reducible repeat (first|refine zbN ?_ _|refine zbD ?_|refine zbA ?_ _));exact BK346.out)):gb346≠gb348));have n10_:=zm ((by rw [hg];exact Nat.ne_of_gt (blk_lt (g:=gb346) (o:=.cells #[.slice Ao53 l0_0.length co53,.slice Ao54 l0_1.length co54,.int .i64 a0_2] 25 (0,0)) (by (with_reducible repeat (first|refine zbN ?_ _|refine zbD ?_|refine zbA ?_ _));exact BK346.out)):gb348≠gb346));have n11_:=zm ((by rw [hg];exact Nat.ne_of_lt (blk_lt (g:=gb347) (o:=.cells #[.int .i64 a1_0,.int .i64 a1_1,.int .i64 a1_2] 55 (0,0)) (by (with_reducible repeat (first|refine zbN ?_ _|refine zbD ?_|refine zbA ?_ _));exact BK347.out)):gb347≠gb348));have n12_:=zm ((by rw [hg];exact Nat.ne_of_gt (blk_lt (g:=gb347) (o:=.cells #[.int .i64 a1_0,.int .i64 a1_1,.int .i64 a1_2] 55 (0,0)) (by (with_reducible repeat (first|refine zbN ?_ _|refine zbD ?_|refine zbA ?_ _));exact BK347.out)):gb348≠gb347));clear HO0_0 HO0_1 BK346 BK347 HK HB;have HO0_0:=n0_;have HO0_1:=n1_;have BK346:=n2_;have BK347:=n3_;have HK:=n4_;have HB:=n5_;have BK348:=n6_;have GW348:=n7_;have GE348:=n8_;have NB346_348:=n9_;have NB348_346:=n10_;have NB347_348:=n11_;have NB348_347:=n12_;clear n0_ n1_ n2_ n3_ n4_ n5_ n6_ n7_ n8_ n9_ n10_ n11_ n12_;clear hb hbox hg;have hnb58:=NB347_346.out;have hnc58:=NB346_347.out;have hnb59:=NB347_348.out;have hnc59:=NB348_347.out;have hcz60_0:w57.cell? ⟨gb347,0,none⟩=some (.int .i64 a1_0):=(blk_cell BK347.out 0).trans rfl;have hcz60_1:w57.cell? ⟨gb347,1,none⟩=some (.int .i64 a1_1):=(blk_cell BK347.out 1).trans rfl;have hcz60_2:w57.cell? ⟨gb347,2,none⟩=some (.int .i64 a1_2):=(blk_cell BK347.out 2).trans rfl;have hfz60_0:=blk_frozen BK347.out 0;have hfz60_1:=blk_frozen BK347.out 1;have hfz60_2:=blk_frozen BK347.out 2;have hnb61:=NB346_348.out;have hnc61:=NB348_346.out;have hcz62_0:w57.cell? ⟨gb346,0,none⟩=some (.slice Ao53 l0_0.length co53):=(blk_cell BK346.out 0).trans rfl;have hcz62_1:w57.cell? ⟨gb346,1,none⟩=some (.slice Ao54 l0_1.length co54):=(blk_cell BK346.out 1).trans rfl;have hcz62_2:w57.cell? ⟨gb346,2,none⟩=some (.int .i64 a0_2):=(blk_cell BK346.out 2).trans rfl;have hfz62_0:=blk_frozen BK346.out 0;have hfz62_1:=blk_frozen BK346.out 1;have hfz62_2:=blk_frozen BK346.out 2;have hcz63_0:w57.cell? ⟨gb348,0,none⟩=some (.slice none 0 0):=(blk_cell BK348.out 0).trans rfl;have hcz63_1:w57.cell? ⟨gb348,1,none⟩=some (.slice none 0 0):=(blk_cell BK348.out 1).trans rfl;have hcz63_2:w57.cell? ⟨gb348,2,none⟩=some (.int .i64 0):=(blk_cell BK348.out 2).trans rfl;have hfz63_0:=blk_frozen BK348.out 0;have hfz63_1:=blk_frozen BK348.out 1;have hfz63_2:=blk_frozen BK348.out 2))
    refine bodyPost_ret (results_cell_row rfl _ _ gb348 25 #[.slice Ao53 l0_0.length co53,.slice Ao54 l0_1.length co54,.int .i64 a0_2] (0,0) _ rfl (by (with_reducible repeat (first|refine zbN ?_ _|refine zbD ?_|refine zbA ?_ _));refine blk_put (cs:=#[.slice Ao53 l0_0.length co53,.slice Ao54 l0_1.length co54,.int .i64 0]) ?_ 2 _ rfl;(with_reducible repeat (first|refine zbN ?_ _|refine zbD ?_|refine zbA ?_ _));refine blk_put (cs:=#[.slice Ao53 l0_0.length co53,.slice none 0 0,.int .i64 0]) ?_ 1 _ rfl;(with_reducible repeat (first|refine zbN ?_ _|refine zbD ?_|refine zbA ?_ _));refine blk_put (cs:=#[.slice none 0 0,.slice none 0 0,.int .i64 0]) ?_ 0 _ rfl;(with_reducible repeat (first|refine zbN ?_ _|refine zbD ?_|refine zbA ?_ _));exact BK348.out) Try.underlying25 rfl (by kernel_rfl)) rfl ?_
    exact ⟨_,_,by first|rfl|(simp [errW_none,errW_some] <;> rfl)|(simp [*,errW_none,errW_some] <;> rfl),by (with_reducible repeat (first|apply zrA|apply zrN|apply zrD));exact Kd.R_mono (Kd.R_far (p:=⟨gb348,2,none⟩) (Kd.R_far (p:=⟨gb348,1,none⟩) (Kd.R_far (p:=⟨gb348,0,none⟩) (Kd.R_types HO0_0.out BK348.out (by decide)) (fun _ hk=>hk.2) (.slice Ao53 l0_0.length co53)) (fun _ hk=>hk.2) (.slice Ao54 l0_1.length co54)) (fun _ hk=>hk.2) (.int .i64 a0_2)) (fun _ hk=>hk.1),by (with_reducible repeat (first|apply zrA|apply zrN|apply zrD));exact Kd.R_mono (Kd.R_far (p:=⟨gb348,2,none⟩) (Kd.R_far (p:=⟨gb348,1,none⟩) (Kd.R_far (p:=⟨gb348,0,none⟩) (Kd.R_types HO0_1.out BK348.out (by decide)) (fun _ hk=>hk.2) (.slice Ao53 l0_0.length co53)) (fun _ hk=>hk.2) (.slice Ao54 l0_1.length co54)) (fun _ hk=>hk.2) (.int .i64 a0_2)) (fun _ hk=>hk.1),by repeat (first|(with_reducible first|exact HB.out|apply zlA|apply zlN|apply zlD|refine zlS ?_ GE346.out|refine zlS ?_ GE347.out|refine zlS ?_ GE348.out)|exact HB.out),by repeat (first|(with_reducible first|exact HK.out|apply Kept.alloc|apply Kept.drewN|apply Kept.drew|refine Kept.setCell ?_ (.inr GW346.out) _|refine Kept.setCell ?_ (.inr GW347.out) _|refine Kept.setCell ?_ (.inr GW348.out) _)|exact HK.out)⟩
end Go.Proofs.Ytkhbmgclklmimaa.Print
end
section
namespace Go.Proofs.Ytkhbmgclklmimaa.Print
open Go.RowKit Go.Proofs.YtkhbmgclklmimaaW.PrintWords Go.Proofs.YtkhbmgclklmimaaW.PrintLast Go.Proofs.YtkhbmgclklmimaaW.PrintMore
attribute [local go_sem] max2_int min2_int max_two min_two max_three min_three max_four min_four   -- for this text's walks alone
attribute [local go_sem ↓] Go.Proofs.Ytkhbmgclklmimaa.Sem.isSome_setCell
attribute [local go_sem] Go.Instr.field Go.asAgg
set_option linter.unusedVariables false
set_option linter.unusedSimpArgs false
attribute [local go_sem high] eqA55
def mapjnl_gen.f (a0:Int):Option (Bool):=if a0 ≥ 0 then (some (decide (a0≤1152921504606846976))) else (some false)
set_option maxHeartbeats 8000000 in
set_option maxRecDepth 100000 in
theorem mapjnl_gen.calls (a0:Int) (r:Bool) (w:World) (h:mapjnl_gen.f a0=some r) :
  Calls Try.prog 65 #[.int .i64 a0] w fun e w'=>e=.returned (.bool r)∧Drawn0 w w':=by
 have H:(if a0 ≥ 0 then (some (decide (a0≤1152921504606846976))) else (some false))=some r:=h
 clear h
 by_cases c2:a0 ≥ 0
 ·rw [if_pos c2] at H
  have c2b0:decide (0≤a0)=true:=decide_eq_true c2
  clear c2
  obtain rfl:=Option.some.inj H
  go_enter Try.func65,Try.ntmps65
  go_wp2
  go_ret
  exact ⟨by first|rfl|(simp;done)|(simp [*];done),by repeat (first|exact Drawn0.refl _|apply Drawn0.step)⟩
 ·rw [if_neg c2] at H
  have c2b0:decide (0≤a0)=false:=decide_eq_false c2
  clear c2
  obtain rfl:=Option.some.inj H
  go_enter Try.func65,Try.ntmps65
  go_wp2
  go_ret
  exact ⟨by first|rfl|(simp;done)|(simp [*];done),by repeat (first|exact Drawn0.refl _|apply Drawn0.step)⟩
end Go.Proofs.Ytkhbmgclklmimaa.Print
end
section
namespace Go.Proofs.Ytkhbmgclklmimaa.Print
open Go.RowKit Go.Proofs.YtkhbmgclklmimaaW.PrintWords Go.Proofs.YtkhbmgclklmimaaW.PrintLast Go.Proofs.YtkhbmgclklmimaaW.PrintMore
attribute [local go_sem] max2_int min2_int max_two min_two max_three min_three max_four min_four   -- for this text's walks alone
attribute [local go_sem ↓] Go.Proofs.Ytkhbmgclklmimaa.Sem.isSome_setCell
attribute [local go_sem] Go.Instr.field Go.asAgg
set_option linter.unusedVariables false
set_option linter.unusedSimpArgs false
def mapjnl_fits_1.f (a0:Int):Option (Bool):=(mapjnl_worn.f a0).bind fun t572=>(some (!t572))
set_option maxHeartbeats 8000000 in
set_option maxRecDepth 100000 in
theorem mapjnl_fits_1.calls (a0:Int) (r:Bool) (w:World) (h:mapjnl_fits_1.f a0=some r) :
  Calls Try.prog 82 #[.int .i64 a0] w fun e w'=>e=.returned (.bool r)∧Drawn0 w w':=by
 have H:((mapjnl_worn.f a0).bind fun t572=>(some (!t572)))=some r:=h
 clear h
 replace H:=Option.bind_eq_some_iff.mp H
 obtain ⟨t572,A20,H⟩:=H
 replace H:(some (!t572))=some r:=H
 have A2:=zm A20
 clear A20
 obtain rfl:=Option.some.inj H
 go_enter Try.func82,Try.ntmps82
 go_wp2_with (first|((with_reducible refine gate_callee (f:=58) rfl ?_);refine goesL_ (some 4) rfl rfl Try.func58 (by kernel_rfl) rfl #[.int .i64 a0] rfl (by (try simp only [List.map_toArray,List.map_cons,List.map_nil]);first|done|rfl|(simp only [List.length_drop,List.length_take];rfl)) ?_;(with_reducible refine (mapjnl_worn.calls a0 t572 _ A2.out).mono ?_);rintro e w' ⟨rfl,⟨nd,rfl⟩⟩;refine ⟨_,rfl,?_⟩))
 go_ret
 exact ⟨by first|rfl|(simp;done)|(simp [*];done),by repeat (first|exact Drawn0.refl _|apply Drawn0.step)⟩
def slices_IndexFunc_int64_int64_82.l0:Nat → List Int → Int → Int → Option (Int)
 | 0,_,_,_=>none
 | k + 1,x0,x7,x8=>if x8 < x7 then (if 0≤x8 then (if x8 < (x0.length:Int) then ((mapjnl_fits_1.f (rd x0 x8)).bind fun t574=>(if t574=true then (some x8) else (slices_IndexFunc_int64_int64_82.l0 k x0 x7 (wrap64 (x8 + 1))))) else (none)) else (none)) else (some (-1))
def slices_IndexFunc_int64_int64_82.f (k:Nat) (l0:List Int) :Option (Int):=slices_IndexFunc_int64_int64_82.l0 k l0 (l0.length:Int) 0
set_option maxHeartbeats 8000000 in
set_option maxRecDepth 100000 in
theorem slices_IndexFunc_int64_int64_82.calls (k:Nat) (A0:Option Addr) (c0:Nat) (l0:List Int)  (r:Int) (w:World) (hr0:Kd.C (Kd.int .i64) w A0 l0.length l0) (hc0:l0.length≤c0) (h:slices_IndexFunc_int64_int64_82.f k l0=some r) :
  Calls Try.prog 80 #[.slice A0 l0.length c0,.func (.func 82) #[] #[]] w fun e w'=>e=.returned (.int .i64 r)∧Below w.heap.size w w':=by
 have HR0:=zm hr0
 have HC0:=zm hc0
 clear hr0 hc0
 have HB:=zm (Below.refl w.heap.size w)
 have H:(slices_IndexFunc_int64_int64_82.l0 k l0 (l0.length:Int) 0)=some r:=h
 clear h
 have H':=zm H
 clear H
 go_enter Try.func80,Try.ntmps80
 go_wp2
 go_loopg [8] k (fun kq v8 w'=>∃ (x8_1:Int),v8=.int .i64 x8_1∧Aside0 (slices_IndexFunc_int64_int64_82.l0 kq l0 (l0.length:Int) x8_1=some r)∧Aside0 (kq≤k)∧Aside0 (Below w.heap.size w w'))
 case atStart=>exact ⟨(0),(by first|rfl|(simp;done)|(simp [*];done)),H',⟨Nat.le_refl _⟩,⟨by repeat (first|(with_reducible first|exact HB.out|apply zlA|apply zlN|apply zlD)|exact HB.out)⟩⟩
 case round =>
  clear H'
  try clear p2
  obtain ⟨x8_1,rfl,HA,HK1,HB⟩:=hrel
  cases gk with
  | zero=>exact absurd HA.out (by simp [slices_IndexFunc_int64_int64_82.l0])
  | succ k1 =>
   have H:=HA.out
   clear HA
   simp only [slices_IndexFunc_int64_int64_82.l0] at H
   by_cases c3:x8_1 < (l0.length:Int)
   ·rw [if_pos c3] at H
    have c3b0:decide (x8_1 < (l0.length:Int))=true:=decide_eq_true c3
    clear c3
    by_cases c4:0≤x8_1
    ·rw [if_pos c4] at H
     have c4b0:decide (0≤x8_1)=true:=decide_eq_true c4
     clear c4
     by_cases c5:x8_1 < (l0.length:Int)
     ·rw [if_pos c5] at H
      have c5b0:decide (x8_1 < (l0.length:Int))=true:=decide_eq_true c5
      clear c5
      replace H:=Option.bind_eq_some_iff.mp H
      obtain ⟨t574,A60,H⟩:=H
      replace H:(if t574=true then (some x8_1) else (slices_IndexFunc_int64_int64_82.l0 k1 l0 (l0.length:Int) (wrap64 (x8_1 + 1))))=some r:=H
      have A6:=zm A60
      clear A60
      by_cases c7:t574=true
      ·subst c7
       have H1:(some x8_1)=some r:=by rw [if_pos rfl] at H;exact H
       clear H
       have H:=H1
       clear H1
       obtain rfl:=Option.some.inj H
       have p573:0≤(x8_1:Int):=of_decide_eq_true (by first|(with_reducible assumption)|assumption)
       have q573:x8_1 < (l0.length:Int):=of_decide_eq_true (by first|(with_reducible assumption)|assumption)
       obtain ⟨ad573,e573,hx573_0⟩:=Kd.at_int HR0.out x8_1 p573 q573
       cases e573
       replace hx573_0:=(HB.out.cell (World.block_lt_of_cell? w _ hx573_0)).trans hx573_0
       replace p573:=eq_true p573
       replace q573:=eq_true q573
       go_wp2_with (first|(go_at_call 82;(with_reducible refine (mapjnl_fits_1.calls  (rd l0 x8_1) true _ A6.out).mono ?_);rintro e w' ⟨rfl,⟨nd,rfl⟩⟩))
       go_ret
       exact ⟨by first|rfl|(simp [errW_none,errW_some] <;> rfl)|(simp [*,errW_none,errW_some] <;> rfl),by repeat (first|(with_reducible first|exact HB.out|apply zlA|apply zlN|apply zlD)|exact HB.out)⟩
      ·replace c7:=Bool.eq_false_iff.mpr c7
       subst c7
       have H1:(slices_IndexFunc_int64_int64_82.l0 k1 l0 (l0.length:Int) (wrap64 (x8_1 + 1)))=some r:=by rw [if_neg (show ¬ (false=true) by decide)] at H;exact H
       clear H
       have H:=H1
       clear H1
       have H':=zm H
       clear H
       have p573:0≤(x8_1:Int):=of_decide_eq_true (by first|(with_reducible assumption)|assumption)
       have q573:x8_1 < (l0.length:Int):=of_decide_eq_true (by first|(with_reducible assumption)|assumption)
       obtain ⟨ad573,e573,hx573_0⟩:=Kd.at_int HR0.out x8_1 p573 q573
       cases e573
       replace hx573_0:=(HB.out.cell (World.block_lt_of_cell? w _ hx573_0)).trans hx573_0
       replace p573:=eq_true p573
       replace q573:=eq_true q573
       go_wp2_with (first|(go_at_call 82;(with_reducible refine (mapjnl_fits_1.calls  (rd l0 x8_1) false _ A6.out).mono ?_);rintro e w' ⟨rfl,⟨nd,rfl⟩⟩))
       go_roundg k1
       case measure=>have:=HK1.out;omega
       case rel=>exact ⟨(wrap64 (x8_1 + 1)),(by first|rfl|(simp;done)|(simp [*];done)),H',⟨by have:=HK1.out;omega⟩,⟨by repeat (first|(with_reducible first|exact HB.out|apply zlA|apply zlN|apply zlD)|exact HB.out)⟩⟩
     ·rw [if_neg c5] at H
      exact absurd H (by simp)
    ·rw [if_neg c4] at H
     exact absurd H (by simp)
   ·rw [if_neg c3] at H
    have c3b0:decide (x8_1 < (l0.length:Int))=false:=decide_eq_false c3
    clear c3
    obtain rfl:=Option.some.inj H
    go_wp2
    go_ret
    exact ⟨by first|rfl|(simp [errW_none,errW_some] <;> rfl)|(simp [*,errW_none,errW_some] <;> rfl),by repeat (first|(with_reducible first|exact HB.out|apply zlA|apply zlN|apply zlD)|exact HB.out)⟩
def slices_ContainsFunc_int64_int64_82.f (k:Nat) (l0:List Int) :Option (Bool):=(slices_IndexFunc_int64_int64_82.f k l0).bind fun t575=>(some (decide (t575 ≥ 0)))
set_option maxHeartbeats 8000000 in
set_option maxRecDepth 100000 in
theorem slices_ContainsFunc_int64_int64_82.calls (k:Nat) (A0:Option Addr) (c0:Nat) (l0:List Int)  (r:Bool) (w:World) (hr0:Kd.C (Kd.int .i64) w A0 l0.length l0) (hc0:l0.length≤c0) (h:slices_ContainsFunc_int64_int64_82.f k l0=some r) :
  Calls Try.prog 56 #[.slice A0 l0.length c0,.func (.func 82) #[] #[]] w fun e w'=>e=.returned (.bool r)∧Below w.heap.size w w':=by
 have HR0:=zm hr0
 have HC0:=zm hc0
 clear hr0 hc0
 have HB:=zm (Below.refl w.heap.size w)
 have H:((slices_IndexFunc_int64_int64_82.f k l0).bind fun t575=>(some (decide (t575 ≥ 0))))=some r:=h
 clear h
 replace H:=Option.bind_eq_some_iff.mp H
 obtain ⟨t575,A30,H⟩:=H
 replace H:(some (decide (t575 ≥ 0)))=some r:=H
 have A3:=zm A30
 clear A30
 obtain rfl:=Option.some.inj H
 go_enter Try.func56,Try.ntmps56
 go_wp2_with (first|((with_reducible refine gate_callee (f:=80) rfl ?_);refine goesL_ (some 7) rfl rfl Try.func80 (by kernel_rfl) rfl #[.slice A0 l0.length c0,.func (.func 82) #[] #[]] rfl (by (try simp only [List.map_toArray,List.map_cons,List.map_nil]);first|done|rfl|(simp only [List.length_drop,List.length_take];rfl)) ?_;(with_reducible refine (slices_IndexFunc_int64_int64_82.calls k _ _ l0  t575 _ ?side1 ?side2 A3.out).mono ?_);(case side1=>repeat (first|exact HR0.out|(with_reducible refine Kd.C_alloc ?_ _)|(with_reducible refine Kd.C_drewN ?_ _)|(with_reducible refine Kd.C_drew ?_)));(case side2=>exact HC0.out);rintro e w4 ⟨rfl,hb⟩;refine ⟨_,rfl,?_⟩;have n0_:=zm (below_step (by repeat (first|(with_reducible first|exact HB.out|apply zlA|apply zlN|apply zlD)|exact HB.out)) hb);clear HB;have HB:=n0_;clear n0_;(try clear hb);(try clear hb2);(try clear hk);(try clear hi)))
 go_ret
 exact ⟨by first|rfl|(simp [errW_none,errW_some] <;> rfl)|(simp [*,errW_none,errW_some] <;> rfl),by repeat (first|(with_reducible first|exact HB.out|apply zlA|apply zlN|apply zlD)|exact HB.out)⟩
def mapjnl_fits_2.f (k:Nat) (a0_0:Int) (a0_1:Int) (a0_2:Int):Option (Bool):=(mapjnl_record.f k a0_0 a0_1 a0_2).bind fun t577=>(some (!t577))
set_option maxHeartbeats 8000000 in
set_option maxRecDepth 100000 in
theorem mapjnl_fits_2.calls (k:Nat) (a0_0:Int) (a0_1:Int) (a0_2:Int) (r:Bool) (w:World) (h:mapjnl_fits_2.f k a0_0 a0_1 a0_2=some r) :
  Calls Try.prog 83 #[.agg #[.int .i64 a0_0,.int .i64 a0_1,.int .i64 a0_2]] w fun e w'=>e=.returned (.bool r)∧Below w.heap.size w w':=by
 have hu55:=Try.underlying55
 have HB:=zm (Below.refl w.heap.size w)
 have H:((mapjnl_record.f k a0_0 a0_1 a0_2).bind fun t577=>(some (!t577)))=some r:=h
 clear h
 replace H:=Option.bind_eq_some_iff.mp H
 obtain ⟨t577,A20,H⟩:=H
 replace H:(some (!t577))=some r:=H
 have A2:=zm A20
 clear A20
 obtain rfl:=Option.some.inj H
 go_enter Try.func83,Try.ntmps83
 go_wp2_with (first|((with_reducible refine gate_dst (N:=1) rfl ?_);refine box_event ?hg (N:=1) ?hd (cs:=#[.int .i64 a0_0,.int .i64 a0_1,.int .i64 a0_2]) (t:=55) ?hr ?_;(case hd=>rfl);(case hg=>rfl);(case hr=>first|(go_simp;done)|(go_simp;rfl));intro gb576 hg w3 hbox hb;have n0_:=zm (below_step (by repeat (first|(with_reducible first|exact HB.out|apply zlA|apply zlN|apply zlD)|exact HB.out)) hb);have n1_:=zm (hbox);have n2_:=zm ((by rw [hg];exact (below_size (by repeat (first|(with_reducible first|exact HB.out|apply zlA|apply zlN|apply zlD)|exact HB.out))):w.heap.size≤gb576));have n3_:=zm ((by rw [hg];exact (below_size (by repeat (first|(with_reducible first|exact HB.out|apply zlA|apply zlN|apply zlD)|exact HB.out))):w.heap.size≤gb576));clear HB;have HB:=n0_;have BK576:=n1_;have GW576:=n2_;have GE576:=n3_;clear n0_ n1_ n2_ n3_;clear hb hbox hg;have hcz4_0:w3.cell? ⟨gb576,0,none⟩=some (.int .i64 a0_0):=(blk_cell BK576.out 0).trans rfl;have hcz4_1:w3.cell? ⟨gb576,1,none⟩=some (.int .i64 a0_1):=(blk_cell BK576.out 1).trans rfl;have hcz4_2:w3.cell? ⟨gb576,2,none⟩=some (.int .i64 a0_2):=(blk_cell BK576.out 2).trans rfl;have hfz4_0:=blk_frozen BK576.out 0;have hfz4_1:=blk_frozen BK576.out 1;have hfz4_2:=blk_frozen BK576.out 2)|((with_reducible refine gate_callee (f:=61) rfl ?_);refine goesL_ (some 4) rfl rfl Try.func61 (by kernel_rfl) rfl #[.agg #[.int .i64 a0_0,.int .i64 a0_1,.int .i64 a0_2]] rfl (by (try simp only [List.map_toArray,List.map_cons,List.map_nil]);first|done|rfl|(simp only [List.length_drop,List.length_take];rfl)) ?_;(with_reducible refine (mapjnl_record.calls k a0_0 a0_1 a0_2 t577 _ A2.out).mono ?_);rintro e w5 ⟨rfl,hb⟩;refine ⟨_,rfl,?_⟩;have n0_:=zm (zbB (g:=gb576) (o:=.cells #[.int .i64 a0_0,.int .i64 a0_1,.int .i64 a0_2] 55 (0,0)) (by (with_reducible repeat (first|refine zbN ?_ _|refine zbD ?_|refine zbA ?_ _));exact BK576.out) hb);have n1_:=zm (below_step (by repeat (first|(with_reducible first|exact HB.out|apply zlA|apply zlN|apply zlD|refine zlS ?_ GE576.out)|exact HB.out)) hb);clear BK576 HB;have BK576:=n0_;have HB:=n1_;clear n0_ n1_;(try clear hb);(try clear hb2);(try clear hk);(try clear hi)))
 go_ret
 exact ⟨by first|rfl|(simp [errW_none,errW_some] <;> rfl)|(simp [*,errW_none,errW_some] <;> rfl),by repeat (first|(with_reducible first|exact HB.out|apply zlA|apply zlN|apply zlD|refine zlS ?_ GE576.out)|exact HB.out)⟩
def api_MapRecord_81_83.l0:Nat → List (S55) → Int → Int → Option (Int)
 | 0,_,_,_=>none
 | k + 1,x0,x7,x8=>if x8 < x7 then (if 0≤x8 then (if x8 < (x0.length:Int) then ((mapjnl_fits_2.f k ((rd_T55 x0 x8).f0) ((rd_T55 x0 x8).f1) ((rd_T55 x0 x8).f2)).bind fun t579=>(if t579=true then (some x8) else (api_MapRecord_81_83.l0 k x0 x7 (wrap64 (x8 + 1))))) else (none)) else (none)) else (some (-1))
def api_MapRecord_81_83.f (k:Nat) (l0:List (S55)) :Option (Int):=api_MapRecord_81_83.l0 k l0 (l0.length:Int) 0
set_option maxHeartbeats 8000000 in
set_option maxRecDepth 100000 in
theorem api_MapRecord_81_83.calls (k:Nat) (A0:Option Addr) (c0:Nat) (l0:List (S55))  (r:Int) (w:World) (hr0:Kd.C k55 w A0 l0.length l0) (hc0:l0.length≤c0) (h:api_MapRecord_81_83.f k l0=some r) :
  Calls Try.prog 81 #[.slice A0 l0.length c0,.func (.func 83) #[] #[]] w fun e w'=>e=.returned (.int .i64 r)∧Below w.heap.size w w':=by
 have hu55:=Try.underlying55
 have HR0:=zm hr0
 have HC0:=zm hc0
 clear hr0 hc0
 have HB:=zm (Below.refl w.heap.size w)
 have H:(api_MapRecord_81_83.l0 k l0 (l0.length:Int) 0)=some r:=h
 clear h
 have H':=zm H
 clear H
 go_enter Try.func81,Try.ntmps81
 go_wp2
 go_loopg [8] k (fun kq v8 w'=>∃ (x8_1:Int),v8=.int .i64 x8_1∧Aside0 (api_MapRecord_81_83.l0 kq l0 (l0.length:Int) x8_1=some r)∧Aside0 (kq≤k)∧Aside0 (Below w.heap.size w w'))
 case atStart=>exact ⟨(0),(by first|rfl|(simp;done)|(simp [*];done)),H',⟨Nat.le_refl _⟩,⟨by repeat (first|(with_reducible first|exact HB.out|apply zlA|apply zlN|apply zlD)|exact HB.out)⟩⟩
 case round =>
  clear H'
  try clear p2
  obtain ⟨x8_1,rfl,HA,HK1,HB⟩:=hrel
  cases gk with
  | zero=>exact absurd HA.out (by simp [api_MapRecord_81_83.l0])
  | succ k1 =>
   have H:=HA.out
   clear HA
   simp only [api_MapRecord_81_83.l0] at H
   by_cases c3:x8_1 < (l0.length:Int)
   ·rw [if_pos c3] at H
    have c3b0:decide (x8_1 < (l0.length:Int))=true:=decide_eq_true c3
    clear c3
    by_cases c4:0≤x8_1
    ·rw [if_pos c4] at H
     have c4b0:decide (0≤x8_1)=true:=decide_eq_true c4
     clear c4
     by_cases c5:x8_1 < (l0.length:Int)
     ·rw [if_pos c5] at H
      have c5b0:decide (x8_1 < (l0.length:Int))=true:=decide_eq_true c5
      clear c5
      replace H:=Option.bind_eq_some_iff.mp H
      obtain ⟨t579,A60,H⟩:=H
      replace H:(if t579=true then (some x8_1) else (api_MapRecord_81_83.l0 k1 l0 (l0.length:Int) (wrap64 (x8_1 + 1))))=some r:=H
      have A6:=zm A60
      clear A60
      by_cases c7:t579=true
      ·subst c7
       have H1:(some x8_1)=some r:=by rw [if_pos rfl] at H;exact H
       clear H
       have H:=H1
       clear H1
       obtain rfl:=Option.some.inj H
       have p578:0≤(x8_1:Int):=of_decide_eq_true (by first|(with_reducible assumption)|assumption)
       have q578:x8_1 < (l0.length:Int):=of_decide_eq_true (by first|(with_reducible assumption)|assumption)
       obtain ⟨ad578,e578,hx578_0,hx578_1,hx578_2⟩:=at_T55 HR0.out x8_1 p578 q578
       cases e578
       replace hx578_0:=(HB.out.cell (World.block_lt_of_cell? w _ hx578_0)).trans hx578_0
       replace hx578_1:=(HB.out.cell (World.block_lt_of_cell? w _ hx578_1)).trans hx578_1
       replace hx578_2:=(HB.out.cell (World.block_lt_of_cell? w _ hx578_2)).trans hx578_2
       replace p578:=eq_true p578
       replace q578:=eq_true q578
       go_wp2_with (first|(go_at_call 83;(with_reducible refine (mapjnl_fits_2.calls  k1 ((rd_T55 l0 x8_1).f0) ((rd_T55 l0 x8_1).f1) ((rd_T55 l0 x8_1).f2) true _ A6.out).mono ?_);rintro e w8 ⟨rfl,hb⟩;have n0_:=zm (below_step (by repeat (first|(with_reducible first|exact HB.out|apply zlA|apply zlN|apply zlD)|exact HB.out)) hb);clear HB;have HB:=n0_;clear n0_;(try clear hb);(try clear hb2);(try clear hk);(try clear hi)))
       go_ret
       exact ⟨by first|rfl|(simp [errW_none,errW_some] <;> rfl)|(simp [*,errW_none,errW_some] <;> rfl),by repeat (first|(with_reducible first|exact HB.out|apply zlA|apply zlN|apply zlD)|exact HB.out)⟩
      ·replace c7:=Bool.eq_false_iff.mpr c7
       subst c7
       have H1:(api_MapRecord_81_83.l0 k1 l0 (l0.length:Int) (wrap64 (x8_1 + 1)))=some r:=by rw [if_neg (show ¬ (false=true) by decide)] at H;exact H
       clear H
       have H:=H1
       clear H1
       have H':=zm H
       clear H
       have p578:0≤(x8_1:Int):=of_decide_eq_true (by first|(with_reducible assumption)|assumption)
       have q578:x8_1 < (l0.length:Int):=of_decide_eq_true (by first|(with_reducible assumption)|assumption)
       obtain ⟨ad578,e578,hx578_0,hx578_1,hx578_2⟩:=at_T55 HR0.out x8_1 p578 q578
       cases e578
       replace hx578_0:=(HB.out.cell (World.block_lt_of_cell? w _ hx578_0)).trans hx578_0
       replace hx578_1:=(HB.out.cell (World.block_lt_of_cell? w _ hx578_1)).trans hx578_1
       replace hx578_2:=(HB.out.cell (World.block_lt_of_cell? w _ hx578_2)).trans hx578_2
       replace p578:=eq_true p578
       replace q578:=eq_true q578
       go_wp2_with (first|(go_at_call 83;(with_reducible refine (mapjnl_fits_2.calls  k1 ((rd_T55 l0 x8_1).f0) ((rd_T55 l0 x8_1).f1) ((rd_T55 l0 x8_1).f2) false _ A6.out).mono ?_);rintro e w9 ⟨rfl,hb⟩;have n0_:=zm (below_step (by repeat (first|(with_reducible first|exact HB.out|apply zlA|apply zlN|apply zlD)|exact HB.out)) hb);clear HB;have HB:=n0_;clear n0_;(try clear hb);(try clear hb2);(try clear hk);(try clear hi)))
       go_roundg k1
       case measure=>have:=HK1.out;omega
       case rel=>exact ⟨(wrap64 (x8_1 + 1)),(by first|rfl|(simp;done)|(simp [*];done)),H',⟨by have:=HK1.out;omega⟩,⟨by repeat (first|(with_reducible first|exact HB.out|apply zlA|apply zlN|apply zlD)|exact HB.out)⟩⟩
     ·rw [if_neg c5] at H
      exact absurd H (by simp)
    ·rw [if_neg c4] at H
     exact absurd H (by simp)
   ·rw [if_neg c3] at H
    have c3b0:decide (x8_1 < (l0.length:Int))=false:=decide_eq_false c3
    clear c3
    obtain rfl:=Option.some.inj H
    go_wp2
    go_ret
    exact ⟨by first|rfl|(simp [errW_none,errW_some] <;> rfl)|(simp [*,errW_none,errW_some] <;> rfl),by repeat (first|(with_reducible first|exact HB.out|apply zlA|apply zlN|apply zlD)|exact HB.out)⟩
def api_MapRecord_68_83.f (k:Nat) (l0:List (S55)) :Option (Bool):=(api_MapRecord_81_83.f k l0).bind fun t580=>(some (decide (t580 ≥ 0)))
set_option maxHeartbeats 8000000 in
set_option maxRecDepth 100000 in
theorem api_MapRecord_68_83.calls (k:Nat) (A0:Option Addr) (c0:Nat) (l0:List (S55))  (r:Bool) (w:World) (hr0:Kd.C k55 w A0 l0.length l0) (hc0:l0.length≤c0) (h:api_MapRecord_68_83.f k l0=some r) :
  Calls Try.prog 68 #[.slice A0 l0.length c0,.func (.func 83) #[] #[]] w fun e w'=>e=.returned (.bool r)∧Below w.heap.size w w':=by
 have HR0:=zm hr0
 have HC0:=zm hc0
 clear hr0 hc0
 have HB:=zm (Below.refl w.heap.size w)
 have H:((api_MapRecord_81_83.f k l0).bind fun t580=>(some (decide (t580 ≥ 0))))=some r:=h
 clear h
 replace H:=Option.bind_eq_some_iff.mp H
 obtain ⟨t580,A30,H⟩:=H
 replace H:(some (decide (t580 ≥ 0)))=some r:=H
 have A3:=zm A30
 clear A30
 obtain rfl:=Option.some.inj H
 go_enter Try.func68,Try.ntmps68
 go_wp2_with (first|((with_reducible refine gate_callee (f:=81) rfl ?_);refine goesL_ (some 7) rfl rfl Try.func81 (by kernel_rfl) rfl #[.slice A0 l0.length c0,.func (.func 83) #[] #[]] rfl (by (try simp only [List.map_toArray,List.map_cons,List.map_nil]);first|done|rfl|(simp only [List.length_drop,List.length_take];rfl)) ?_;(with_reducible refine (api_MapRecord_81_83.calls k _ _ l0  t580 _ ?side1 ?side2 A3.out).mono ?_);(case side1=>repeat (first|exact HR0.out|(with_reducible refine Kd.C_alloc ?_ _)|(with_reducible refine Kd.C_drewN ?_ _)|(with_reducible refine Kd.C_drew ?_)));(case side2=>exact HC0.out);rintro e w4 ⟨rfl,hb⟩;refine ⟨_,rfl,?_⟩;have n0_:=zm (below_step (by repeat (first|(with_reducible first|exact HB.out|apply zlA|apply zlN|apply zlD)|exact HB.out)) hb);clear HB;have HB:=n0_;clear n0_;(try clear hb);(try clear hb2);(try clear hk);(try clear hi)))
 go_ret
 exact ⟨by first|rfl|(simp [errW_none,errW_some] <;> rfl)|(simp [*,errW_none,errW_some] <;> rfl),by repeat (first|(with_reducible first|exact HB.out|apply zlA|apply zlN|apply zlD)|exact HB.out)⟩
end Go.Proofs.Ytkhbmgclklmimaa.Print
end
section
namespace Go.Proofs.Ytkhbmgclklmimaa.Print
open Go.RowKit Go.Proofs.YtkhbmgclklmimaaW.PrintWords Go.Proofs.YtkhbmgclklmimaaW.PrintLast Go.Proofs.YtkhbmgclklmimaaW.PrintMore
attribute [local go_sem] max2_int min2_int max_two min_two max_three min_three max_four min_four   -- for this text's walks alone
attribute [local go_sem ↓] Go.Proofs.Ytkhbmgclklmimaa.Sem.isSome_setCell
attribute [local go_sem] Go.Instr.field Go.asAgg
set_option linter.unusedVariables false
set_option linter.unusedSimpArgs false
def mapjnl_fits.f (k:Nat) (a0_0:Int) (a0_1:Int) (a0_2:Int) (a0_3:Int) (l0_4:List Bool) (l0_5:List Int) (l0_6:List (S55)):Option (Bool):=if a0_0=1 then ((mapjnl_gen.f a0_1).bind fun t582=>(if t582=true then (if a0_2 ≥ 0 then (if a0_2≤3 then (if (l0_4.length:Int) ≥ 1 then (if (l0_4.length:Int)≤64 then (if (l0_5.length:Int)=(l0_4.length:Int) then ((mapjnl_seq.f a0_3).bind fun t583=>(if t583=true then (if (l0_6.length:Int)=0 then ((slices_ContainsFunc_int64_int64_82.f k l0_5).bind fun t584=>(some (!t584))) else (some false)) else (some false))) else (some false)) else (some false)) else (some false)) else (some false)) else (some false)) else (some false))) else (if a0_0=2 then ((mapjnl_gen.f a0_1).bind fun t585=>(if t585=true then (if a0_2=0 then (if a0_3=0 then (if (l0_4.length:Int)=0 then (if (l0_5.length:Int)=0 then (if (l0_6.length:Int)≤24 then ((api_MapRecord_68_83.f k l0_6).bind fun t586=>(some (!t586))) else (some false)) else (some false)) else (some false)) else (some false)) else (some false)) else (some false))) else (some false))
set_option maxHeartbeats 8000000 in
set_option maxRecDepth 100000 in
theorem mapjnl_fits.calls (k:Nat) (a0_0:Int) (a0_1:Int) (a0_2:Int) (a0_3:Int) (A0_4:Option Addr) (c0_4:Nat) (l0_4:List Bool) (A0_5:Option Addr) (c0_5:Nat) (l0_5:List Int) (A0_6:Option Addr) (c0_6:Nat) (l0_6:List (S55)) (r:Bool) (w:World) (hr0_4:Kd.C Kd.bool w A0_4 l0_4.length l0_4) (hc0_4:l0_4.length≤c0_4) (hr0_5:Kd.C (Kd.int .i64) w A0_5 l0_5.length l0_5) (hc0_5:l0_5.length≤c0_5) (hr0_6:Kd.C k55 w A0_6 l0_6.length l0_6) (hc0_6:l0_6.length≤c0_6) (h:mapjnl_fits.f k a0_0 a0_1 a0_2 a0_3 l0_4 l0_5 l0_6=some r) :
  Calls Try.prog 72 #[.agg #[.int .i64 a0_0,.int .i64 a0_1,.int .i64 a0_2,.int .i64 a0_3,.slice A0_4 l0_4.length c0_4,.slice A0_5 l0_5.length c0_5,.slice A0_6 l0_6.length c0_6]] w fun e w'=>e=.returned (.bool r)∧Below w.heap.size w w':=by
 have hu42:=Try.underlying42
 have HR0_4:=zm hr0_4
 have HC0_4:=zm hc0_4
 clear hr0_4 hc0_4
 have HR0_5:=zm hr0_5
 have HC0_5:=zm hc0_5
 clear hr0_5 hc0_5
 have HR0_6:=zm hr0_6
 have HC0_6:=zm hc0_6
 clear hr0_6 hc0_6
 have HB:=zm (Below.refl w.heap.size w)
 have H:(if a0_0=1 then ((mapjnl_gen.f a0_1).bind fun t582=>(if t582=true then (if a0_2 ≥ 0 then (if a0_2≤3 then (if (l0_4.length:Int) ≥ 1 then (if (l0_4.length:Int)≤64 then (if (l0_5.length:Int)=(l0_4.length:Int) then ((mapjnl_seq.f a0_3).bind fun t583=>(if t583=true then (if (l0_6.length:Int)=0 then ((slices_ContainsFunc_int64_int64_82.f k l0_5).bind fun t584=>(some (!t584))) else (some false)) else (some false))) else (some false)) else (some false)) else (some false)) else (some false)) else (some false)) else (some false))) else (if a0_0=2 then ((mapjnl_gen.f a0_1).bind fun t585=>(if t585=true then (if a0_2=0 then (if a0_3=0 then (if (l0_4.length:Int)=0 then (if (l0_5.length:Int)=0 then (if (l0_6.length:Int)≤24 then ((api_MapRecord_68_83.f k l0_6).bind fun t586=>(some (!t586))) else (some false)) else (some false)) else (some false)) else (some false)) else (some false)) else (some false))) else (some false)))=some r:=h
 clear h
 by_cases c2:a0_0=1
 ·rw [if_pos c2] at H
  have c2b0:(a0_0 == 1)=true:=beq_iff_eq.mpr c2
  have c2b1:(a0_0 != 1)=false:=bne_eq_false_iff_eq.mpr c2
  clear c2
  replace H:=Option.bind_eq_some_iff.mp H
  obtain ⟨t582,A30,H⟩:=H
  replace H:(if t582=true then (if a0_2 ≥ 0 then (if a0_2≤3 then (if (l0_4.length:Int) ≥ 1 then (if (l0_4.length:Int)≤64 then (if (l0_5.length:Int)=(l0_4.length:Int) then ((mapjnl_seq.f a0_3).bind fun t583=>(if t583=true then (if (l0_6.length:Int)=0 then ((slices_ContainsFunc_int64_int64_82.f k l0_5).bind fun t584=>(some (!t584))) else (some false)) else (some false))) else (some false)) else (some false)) else (some false)) else (some false)) else (some false)) else (some false))=some r:=H
  have A3:=zm A30
  clear A30
  by_cases c4:t582=true
  ·subst c4
   have H1:(if a0_2 ≥ 0 then (if a0_2≤3 then (if (l0_4.length:Int) ≥ 1 then (if (l0_4.length:Int)≤64 then (if (l0_5.length:Int)=(l0_4.length:Int) then ((mapjnl_seq.f a0_3).bind fun t583=>(if t583=true then (if (l0_6.length:Int)=0 then ((slices_ContainsFunc_int64_int64_82.f k l0_5).bind fun t584=>(some (!t584))) else (some false)) else (some false))) else (some false)) else (some false)) else (some false)) else (some false)) else (some false))=some r:=by rw [if_pos rfl] at H;exact H
   clear H
   have H:=H1
   clear H1
   by_cases c5:a0_2 ≥ 0
   ·rw [if_pos c5] at H
    have c5b0:decide (0≤a0_2)=true:=decide_eq_true c5
    clear c5
    by_cases c6:a0_2≤3
    ·rw [if_pos c6] at H
     have c6b0:decide (a0_2≤3)=true:=decide_eq_true c6
     clear c6
     by_cases c7:(l0_4.length:Int) ≥ 1
     ·rw [if_pos c7] at H
      have c7b0:decide (1≤(l0_4.length:Int))=true:=decide_eq_true c7
      have c7b1:decide (1≤l0_4.length)=true:=decide_eq_true (by omega)
      clear c7
      by_cases c8:(l0_4.length:Int)≤64
      ·rw [if_pos c8] at H
       have c8b0:decide ((l0_4.length:Int)≤64)=true:=decide_eq_true c8
       have c8b1:decide (l0_4.length≤64)=true:=decide_eq_true (by omega)
       clear c8
       by_cases c9:(l0_5.length:Int)=(l0_4.length:Int)
       ·rw [if_pos c9] at H
        have c9b0:((l0_5.length:Int) == (l0_4.length:Int))=true:=beq_iff_eq.mpr c9
        have c9b1:((l0_5.length:Int) != (l0_4.length:Int))=false:=bne_eq_false_iff_eq.mpr c9
        have c9b2:(l0_5.length == l0_4.length)=true:=by first|simpa using c9|(simp at c9 ⊢;omega)
        clear c9
        replace H:=Option.bind_eq_some_iff.mp H
        obtain ⟨t583,A100,H⟩:=H
        replace H:(if t583=true then (if (l0_6.length:Int)=0 then ((slices_ContainsFunc_int64_int64_82.f k l0_5).bind fun t584=>(some (!t584))) else (some false)) else (some false))=some r:=H
        have A10:=zm A100
        clear A100
        by_cases c11:t583=true
        ·subst c11
         have H1:(if (l0_6.length:Int)=0 then ((slices_ContainsFunc_int64_int64_82.f k l0_5).bind fun t584=>(some (!t584))) else (some false))=some r:=by rw [if_pos rfl] at H;exact H
         clear H
         have H:=H1
         clear H1
         by_cases c12:(l0_6.length:Int)=0
         ·rw [if_pos c12] at H
          have c12b0:((l0_6.length:Int) == 0)=true:=beq_iff_eq.mpr c12
          have c12b1:((l0_6.length:Int) != 0)=false:=bne_eq_false_iff_eq.mpr c12
          clear c12
          replace H:=Option.bind_eq_some_iff.mp H
          obtain ⟨t584,A130,H⟩:=H
          replace H:(some (!t584))=some r:=H
          have A13:=zm A130
          clear A130
          obtain rfl:=Option.some.inj H
          go_enter Try.func72,Try.ntmps72
          go_wp2_with (first|((with_reducible refine gate_dst (N:=1) rfl ?_);(try (refine gate_guard (by rfl) ?_;dsimp only));refine box_event ?hg (N:=1) ?hd (cs:=#[.int .i64 a0_0,.int .i64 a0_1,.int .i64 a0_2,.int .i64 a0_3,.slice A0_4 l0_4.length c0_4,.slice A0_5 l0_5.length c0_5,.slice A0_6 l0_6.length c0_6]) (t:=42) ?hr ?_;(case hd=>rfl);(case hg=>rfl);(case hr=>first|(go_simp;done)|(go_simp;rfl));intro gb581 hg w14 hbox hb;have n0_:=zm (below_step (by repeat (first|(with_reducible first|exact HB.out|apply zlA|apply zlN|apply zlD)|exact HB.out)) hb);have n1_:=zm (hbox);have n2_:=zm ((by rw [hg];exact (below_size (by repeat (first|(with_reducible first|exact HB.out|apply zlA|apply zlN|apply zlD)|exact HB.out))):w.heap.size≤gb581));have n3_:=zm ((by rw [hg];exact (below_size (by repeat (first|(with_reducible first|exact HB.out|apply zlA|apply zlN|apply zlD)|exact HB.out))):w.heap.size≤gb581));clear HB;have HB:=n0_;have BK581:=n1_;have GW581:=n2_;have GE581:=n3_;clear n0_ n1_ n2_ n3_;clear hb hbox hg;have hcz15_0:w14.cell? ⟨gb581,0,none⟩=some (.int .i64 a0_0):=(blk_cell BK581.out 0).trans rfl;have hcz15_1:w14.cell? ⟨gb581,1,none⟩=some (.int .i64 a0_1):=(blk_cell BK581.out 1).trans rfl;have hcz15_2:w14.cell? ⟨gb581,2,none⟩=some (.int .i64 a0_2):=(blk_cell BK581.out 2).trans rfl;have hcz15_3:w14.cell? ⟨gb581,3,none⟩=some (.int .i64 a0_3):=(blk_cell BK581.out 3).trans rfl;have hcz15_4:w14.cell? ⟨gb581,4,none⟩=some (.slice A0_4 l0_4.length c0_4):=(blk_cell BK581.out 4).trans rfl;have hcz15_5:w14.cell? ⟨gb581,5,none⟩=some (.slice A0_5 l0_5.length c0_5):=(blk_cell BK581.out 5).trans rfl;have hcz15_6:w14.cell? ⟨gb581,6,none⟩=some (.slice A0_6 l0_6.length c0_6):=(blk_cell BK581.out 6).trans rfl;have hfz15_0:=blk_frozen BK581.out 0;have hfz15_1:=blk_frozen BK581.out 1;have hfz15_2:=blk_frozen BK581.out 2;have hfz15_3:=blk_frozen BK581.out 3;have hfz15_4:=blk_frozen BK581.out 4;have hfz15_5:=blk_frozen BK581.out 5;have hfz15_6:=blk_frozen BK581.out 6)|((with_reducible refine gate_callee (f:=65) rfl ?_);refine goesL_ (some 9) rfl rfl Try.func65 (by kernel_rfl) rfl #[.int .i64 a0_1] rfl (by (try simp only [List.map_toArray,List.map_cons,List.map_nil]);first|done|rfl|(simp only [List.length_drop,List.length_take];rfl)) ?_;(with_reducible refine (mapjnl_gen.calls a0_1 true _ A3.out).mono ?_);rintro e w' ⟨rfl,⟨nd,rfl⟩⟩;refine ⟨_,rfl,?_⟩)|(go_at_call 55;(with_reducible refine (mapjnl_seq.calls a0_3 true _ A10.out).mono ?_);rintro e w' ⟨rfl,⟨nd,rfl⟩⟩)|(go_at_call 56;(with_reducible refine (slices_ContainsFunc_int64_int64_82.calls k _ _ l0_5  t584 _ ?side1 ?side2 A13.out).mono ?_);(case side1=>repeat (first|exact (Kd.C_below HR0_5.out (by repeat (first|(with_reducible first|exact HB.out|apply zlA|apply zlN|apply zlD|refine zlS ?_ GE581.out)|exact HB.out)))|(with_reducible refine Kd.C_alloc ?_ _)|(with_reducible refine Kd.C_drewN ?_ _)|(with_reducible refine Kd.C_drew ?_)));(case side2=>exact HC0_5.out);rintro e w16 ⟨rfl,hb⟩;have n0_:=zm (zbB (g:=gb581) (o:=.cells #[.int .i64 a0_0,.int .i64 a0_1,.int .i64 a0_2,.int .i64 a0_3,.slice A0_4 l0_4.length c0_4,.slice A0_5 l0_5.length c0_5,.slice A0_6 l0_6.length c0_6] 42 (0,0)) (by (with_reducible repeat (first|refine zbN ?_ _|refine zbD ?_|refine zbA ?_ _));exact BK581.out) hb);have n1_:=zm (below_step (by repeat (first|(with_reducible first|exact HB.out|apply zlA|apply zlN|apply zlD|refine zlS ?_ GE581.out)|exact HB.out)) hb);clear BK581 HB;have BK581:=n0_;have HB:=n1_;clear n0_ n1_;(try clear hb);(try clear hb2);(try clear hk);(try clear hi)))
          go_ret
          exact ⟨by first|rfl|(simp [errW_none,errW_some] <;> rfl)|(simp [*,errW_none,errW_some] <;> rfl),by repeat (first|(with_reducible first|exact HB.out|apply zlA|apply zlN|apply zlD|refine zlS ?_ GE581.out)|exact HB.out)⟩
         ·rw [if_neg c12] at H
          have c12b0:((l0_6.length:Int) == 0)=false:=beq_eq_false_iff_ne.mpr c12
          have c12b1:((l0_6.length:Int) != 0)=true:=bne_iff_ne.mpr c12
          have c12b2:¬ (l0_6=[]):=fun h_=>c12 (by rw [h_];rfl)
          obtain rfl:=Option.some.inj H
          go_enter Try.func72,Try.ntmps72
          go_wp2_with (first|((with_reducible refine gate_dst (N:=1) rfl ?_);(try (refine gate_guard (by rfl) ?_;dsimp only));refine box_event ?hg (N:=1) ?hd (cs:=#[.int .i64 a0_0,.int .i64 a0_1,.int .i64 a0_2,.int .i64 a0_3,.slice A0_4 l0_4.length c0_4,.slice A0_5 l0_5.length c0_5,.slice A0_6 l0_6.length c0_6]) (t:=42) ?hr ?_;(case hd=>rfl);(case hg=>rfl);(case hr=>first|(go_simp;done)|(go_simp;rfl));intro gb581 hg w17 hbox hb;have n0_:=zm (below_step (by repeat (first|(with_reducible first|exact HB.out|apply zlA|apply zlN|apply zlD)|exact HB.out)) hb);have n1_:=zm (hbox);have n2_:=zm ((by rw [hg];exact (below_size (by repeat (first|(with_reducible first|exact HB.out|apply zlA|apply zlN|apply zlD)|exact HB.out))):w.heap.size≤gb581));have n3_:=zm ((by rw [hg];exact (below_size (by repeat (first|(with_reducible first|exact HB.out|apply zlA|apply zlN|apply zlD)|exact HB.out))):w.heap.size≤gb581));clear HB;have HB:=n0_;have BK581:=n1_;have GW581:=n2_;have GE581:=n3_;clear n0_ n1_ n2_ n3_;clear hb hbox hg;have hcz18_0:w17.cell? ⟨gb581,0,none⟩=some (.int .i64 a0_0):=(blk_cell BK581.out 0).trans rfl;have hcz18_1:w17.cell? ⟨gb581,1,none⟩=some (.int .i64 a0_1):=(blk_cell BK581.out 1).trans rfl;have hcz18_2:w17.cell? ⟨gb581,2,none⟩=some (.int .i64 a0_2):=(blk_cell BK581.out 2).trans rfl;have hcz18_3:w17.cell? ⟨gb581,3,none⟩=some (.int .i64 a0_3):=(blk_cell BK581.out 3).trans rfl;have hcz18_4:w17.cell? ⟨gb581,4,none⟩=some (.slice A0_4 l0_4.length c0_4):=(blk_cell BK581.out 4).trans rfl;have hcz18_5:w17.cell? ⟨gb581,5,none⟩=some (.slice A0_5 l0_5.length c0_5):=(blk_cell BK581.out 5).trans rfl;have hcz18_6:w17.cell? ⟨gb581,6,none⟩=some (.slice A0_6 l0_6.length c0_6):=(blk_cell BK581.out 6).trans rfl;have hfz18_0:=blk_frozen BK581.out 0;have hfz18_1:=blk_frozen BK581.out 1;have hfz18_2:=blk_frozen BK581.out 2;have hfz18_3:=blk_frozen BK581.out 3;have hfz18_4:=blk_frozen BK581.out 4;have hfz18_5:=blk_frozen BK581.out 5;have hfz18_6:=blk_frozen BK581.out 6)|((with_reducible refine gate_callee (f:=65) rfl ?_);refine goesL_ (some 9) rfl rfl Try.func65 (by kernel_rfl) rfl #[.int .i64 a0_1] rfl (by (try simp only [List.map_toArray,List.map_cons,List.map_nil]);first|done|rfl|(simp only [List.length_drop,List.length_take];rfl)) ?_;(with_reducible refine (mapjnl_gen.calls a0_1 true _ A3.out).mono ?_);rintro e w' ⟨rfl,⟨nd,rfl⟩⟩;refine ⟨_,rfl,?_⟩)|(go_at_call 55;(with_reducible refine (mapjnl_seq.calls a0_3 true _ A10.out).mono ?_);rintro e w' ⟨rfl,⟨nd,rfl⟩⟩))
          go_ret
          exact ⟨by first|rfl|(simp [errW_none,errW_some] <;> rfl)|(simp [*,errW_none,errW_some] <;> rfl),by repeat (first|(with_reducible first|exact HB.out|apply zlA|apply zlN|apply zlD|refine zlS ?_ GE581.out)|exact HB.out)⟩
        ·replace c11:=Bool.eq_false_iff.mpr c11
         subst c11
         have H1:(some false)=some r:=by rw [if_neg (show ¬ (false=true) by decide)] at H;exact H
         clear H
         have H:=H1
         clear H1
         obtain rfl:=Option.some.inj H
         go_enter Try.func72,Try.ntmps72
         go_wp2_with (first|((with_reducible refine gate_dst (N:=1) rfl ?_);(try (refine gate_guard (by rfl) ?_;dsimp only));refine box_event ?hg (N:=1) ?hd (cs:=#[.int .i64 a0_0,.int .i64 a0_1,.int .i64 a0_2,.int .i64 a0_3,.slice A0_4 l0_4.length c0_4,.slice A0_5 l0_5.length c0_5,.slice A0_6 l0_6.length c0_6]) (t:=42) ?hr ?_;(case hd=>rfl);(case hg=>rfl);(case hr=>first|(go_simp;done)|(go_simp;rfl));intro gb581 hg w19 hbox hb;have n0_:=zm (below_step (by repeat (first|(with_reducible first|exact HB.out|apply zlA|apply zlN|apply zlD)|exact HB.out)) hb);have n1_:=zm (hbox);have n2_:=zm ((by rw [hg];exact (below_size (by repeat (first|(with_reducible first|exact HB.out|apply zlA|apply zlN|apply zlD)|exact HB.out))):w.heap.size≤gb581));have n3_:=zm ((by rw [hg];exact (below_size (by repeat (first|(with_reducible first|exact HB.out|apply zlA|apply zlN|apply zlD)|exact HB.out))):w.heap.size≤gb581));clear HB;have HB:=n0_;have BK581:=n1_;have GW581:=n2_;have GE581:=n3_;clear n0_ n1_ n2_ n3_;clear hb hbox hg;have hcz20_0:w19.cell? ⟨gb581,0,none⟩=some (.int .i64 a0_0):=(blk_cell BK581.out 0).trans rfl;have hcz20_1:w19.cell? ⟨gb581,1,none⟩=some (.int .i64 a0_1):=(blk_cell BK581.out 1).trans rfl;have hcz20_2:w19.cell? ⟨gb581,2,none⟩=some (.int .i64 a0_2):=(blk_cell BK581.out 2).trans rfl;have hcz20_3:w19.cell? ⟨gb581,3,none⟩=some (.int .i64 a0_3):=(blk_cell BK581.out 3).trans rfl;have hcz20_4:w19.cell? ⟨gb581,4,none⟩=some (.slice A0_4 l0_4.length c0_4):=(blk_cell BK581.out 4).trans rfl;have hcz20_5:w19.cell? ⟨gb581,5,none⟩=some (.slice A0_5 l0_5.length c0_5):=(blk_cell BK581.out 5).trans rfl;have hcz20_6:w19.cell? ⟨gb581,6,none⟩=some (.slice A0_6 l0_6.length c0_6):=(blk_cell BK581.out 6).trans rfl;have hfz20_0:=blk_frozen BK581.out 0;have hfz20_1:=blk_frozen BK581.out 1;have hfz20_2:=blk_frozen BK581.out 2;have hfz20_3:=blk_frozen BK581.out 3;have hfz20_4:=blk_frozen BK581.out 4;have hfz20_5:=blk_frozen BK581.out 5;have hfz20_6:=blk_frozen BK581.out 6)|((with_reducible refine gate_callee (f:=65) rfl ?_);refine goesL_ (some 9) rfl rfl Try.func65 (by kernel_rfl) rfl #[.int .i64 a0_1] rfl (by (try simp only [List.map_toArray,List.map_cons,List.map_nil]);first|done|rfl|(simp only [List.length_drop,List.length_take];rfl)) ?_;(with_reducible refine (mapjnl_gen.calls a0_1 true _ A3.out).mono ?_);rintro e w' ⟨rfl,⟨nd,rfl⟩⟩;refine ⟨_,rfl,?_⟩)|(go_at_call 55;(with_reducible refine (mapjnl_seq.calls a0_3 false _ A10.out).mono ?_);rintro e w' ⟨rfl,⟨nd,rfl⟩⟩))
         go_ret
         exact ⟨by first|rfl|(simp [errW_none,errW_some] <;> rfl)|(simp [*,errW_none,errW_some] <;> rfl),by repeat (first|(with_reducible first|exact HB.out|apply zlA|apply zlN|apply zlD|refine zlS ?_ GE581.out)|exact HB.out)⟩
       ·rw [if_neg c9] at H
        have c9b0:((l0_5.length:Int) == (l0_4.length:Int))=false:=beq_eq_false_iff_ne.mpr c9
        have c9b1:((l0_5.length:Int) != (l0_4.length:Int))=true:=bne_iff_ne.mpr c9
        have c9b2:(l0_5.length == l0_4.length)=false:=by first|simpa using c9|(simp at c9 ⊢;omega)
        obtain rfl:=Option.some.inj H
        go_enter Try.func72,Try.ntmps72
        go_wp2_with (first|((with_reducible refine gate_dst (N:=1) rfl ?_);(try (refine gate_guard (by rfl) ?_;dsimp only));refine box_event ?hg (N:=1) ?hd (cs:=#[.int .i64 a0_0,.int .i64 a0_1,.int .i64 a0_2,.int .i64 a0_3,.slice A0_4 l0_4.length c0_4,.slice A0_5 l0_5.length c0_5,.slice A0_6 l0_6.length c0_6]) (t:=42) ?hr ?_;(case hd=>rfl);(case hg=>rfl);(case hr=>first|(go_simp;done)|(go_simp;rfl));intro gb581 hg w21 hbox hb;have n0_:=zm (below_step (by repeat (first|(with_reducible first|exact HB.out|apply zlA|apply zlN|apply zlD)|exact HB.out)) hb);have n1_:=zm (hbox);have n2_:=zm ((by rw [hg];exact (below_size (by repeat (first|(with_reducible first|exact HB.out|apply zlA|apply zlN|apply zlD)|exact HB.out))):w.heap.size≤gb581));have n3_:=zm ((by rw [hg];exact (below_size (by repeat (first|(with_reducible first|exact HB.out|apply zlA|apply zlN|apply zlD)|exact HB.out))):w.heap.size≤gb581));clear HB;have HB:=n0_;have BK581:=n1_;have GW581:=n2_;have GE581:=n3_;clear n0_ n1_ n2_ n3_;clear hb hbox hg;have hcz22_0:w21.cell? ⟨gb581,0,none⟩=some (.int .i64 a0_0):=(blk_cell BK581.out 0).trans rfl;have hcz22_1:w21.cell? ⟨gb581,1,none⟩=some (.int .i64 a0_1):=(blk_cell BK581.out 1).trans rfl;have hcz22_2:w21.cell? ⟨gb581,2,none⟩=some (.int .i64 a0_2):=(blk_cell BK581.out 2).trans rfl;have hcz22_3:w21.cell? ⟨gb581,3,none⟩=some (.int .i64 a0_3):=(blk_cell BK581.out 3).trans rfl;have hcz22_4:w21.cell? ⟨gb581,4,none⟩=some (.slice A0_4 l0_4.length c0_4):=(blk_cell BK581.out 4).trans rfl;have hcz22_5:w21.cell? ⟨gb581,5,none⟩=some (.slice A0_5 l0_5.length c0_5):=(blk_cell BK581.out 5).trans rfl;have hcz22_6:w21.cell? ⟨gb581,6,none⟩=some (.slice A0_6 l0_6.length c0_6):=(blk_cell BK581.out 6).trans rfl;have hfz22_0:=blk_frozen BK581.out 0;have hfz22_1:=blk_frozen BK581.out 1;have hfz22_2:=blk_frozen BK581.out 2;have hfz22_3:=blk_frozen BK581.out 3;have hfz22_4:=blk_frozen BK581.out 4;have hfz22_5:=blk_frozen BK581.out 5;have hfz22_6:=blk_frozen BK581.out 6)|((with_reducible refine gate_callee (f:=65) rfl ?_);refine goesL_ (some 9) rfl rfl Try.func65 (by kernel_rfl) rfl #[.int .i64 a0_1] rfl (by (try simp only [List.map_toArray,List.map_cons,List.map_nil]);first|done|rfl|(simp only [List.length_drop,List.length_take];rfl)) ?_;(with_reducible refine (mapjnl_gen.calls a0_1 true _ A3.out).mono ?_);rintro e w' ⟨rfl,⟨nd,rfl⟩⟩;refine ⟨_,rfl,?_⟩))
        go_ret
        exact ⟨by first|rfl|(simp [errW_none,errW_some] <;> rfl)|(simp [*,errW_none,errW_some] <;> rfl),by repeat (first|(with_reducible first|exact HB.out|apply zlA|apply zlN|apply zlD|refine zlS ?_ GE581.out)|exact HB.out)⟩
      ·rw [if_neg c8] at H
       have c8b0:decide ((l0_4.length:Int)≤64)=false:=decide_eq_false c8
       have c8b1:decide (l0_4.length≤64)=false:=decide_eq_false (by omega)
       clear c8
       obtain rfl:=Option.some.inj H
       go_enter Try.func72,Try.ntmps72
       go_wp2_with (first|((with_reducible refine gate_dst (N:=1) rfl ?_);(try (refine gate_guard (by rfl) ?_;dsimp only));refine box_event ?hg (N:=1) ?hd (cs:=#[.int .i64 a0_0,.int .i64 a0_1,.int .i64 a0_2,.int .i64 a0_3,.slice A0_4 l0_4.length c0_4,.slice A0_5 l0_5.length c0_5,.slice A0_6 l0_6.length c0_6]) (t:=42) ?hr ?_;(case hd=>rfl);(case hg=>rfl);(case hr=>first|(go_simp;done)|(go_simp;rfl));intro gb581 hg w23 hbox hb;have n0_:=zm (below_step (by repeat (first|(with_reducible first|exact HB.out|apply zlA|apply zlN|apply zlD)|exact HB.out)) hb);have n1_:=zm (hbox);have n2_:=zm ((by rw [hg];exact (below_size (by repeat (first|(with_reducible first|exact HB.out|apply zlA|apply zlN|apply zlD)|exact HB.out))):w.heap.size≤gb581));have n3_:=zm ((by rw [hg];exact (below_size (by repeat (first|(with_reducible first|exact HB.out|apply zlA|apply zlN|apply zlD)|exact HB.out))):w.heap.size≤gb581));clear HB;have HB:=n0_;have BK581:=n1_;have GW581:=n2_;have GE581:=n3_;clear n0_ n1_ n2_ n3_;clear hb hbox hg;have hcz24_0:w23.cell? ⟨gb581,0,none⟩=some (.int .i64 a0_0):=(blk_cell BK581.out 0).trans rfl;have hcz24_1:w23.cell? ⟨gb581,1,none⟩=some (.int .i64 a0_1):=(blk_cell BK581.out 1).trans rfl;have hcz24_2:w23.cell? ⟨gb581,2,none⟩=some (.int .i64 a0_2):=(blk_cell BK581.out 2).trans rfl;have hcz24_3:w23.cell? ⟨gb581,3,none⟩=some (.int .i64 a0_3):=(blk_cell BK581.out 3).trans rfl;have hcz24_4:w23.cell? ⟨gb581,4,none⟩=some (.slice A0_4 l0_4.length c0_4):=(blk_cell BK581.out 4).trans rfl;have hcz24_5:w23.cell? ⟨gb581,5,none⟩=some (.slice A0_5 l0_5.length c0_5):=(blk_cell BK581.out 5).trans rfl;have hcz24_6:w23.cell? ⟨gb581,6,none⟩=some (.slice A0_6 l0_6.length c0_6):=(blk_cell BK581.out 6).trans rfl;have hfz24_0:=blk_frozen BK581.out 0;have hfz24_1:=blk_frozen BK581.out 1;have hfz24_2:=blk_frozen BK581.out 2;have hfz24_3:=blk_frozen BK581.out 3;have hfz24_4:=blk_frozen BK581.out 4;have hfz24_5:=blk_frozen BK581.out 5;have hfz24_6:=blk_frozen BK581.out 6)|((with_reducible refine gate_callee (f:=65) rfl ?_);refine goesL_ (some 9) rfl rfl Try.func65 (by kernel_rfl) rfl #[.int .i64 a0_1] rfl (by (try simp only [List.map_toArray,List.map_cons,List.map_nil]);first|done|rfl|(simp only [List.length_drop,List.length_take];rfl)) ?_;(with_reducible refine (mapjnl_gen.calls a0_1 true _ A3.out).mono ?_);rintro e w' ⟨rfl,⟨nd,rfl⟩⟩;refine ⟨_,rfl,?_⟩))
       go_ret
       exact ⟨by first|rfl|(simp [errW_none,errW_some] <;> rfl)|(simp [*,errW_none,errW_some] <;> rfl),by repeat (first|(with_reducible first|exact HB.out|apply zlA|apply zlN|apply zlD|refine zlS ?_ GE581.out)|exact HB.out)⟩
     ·rw [if_neg c7] at H
      have c7b0:decide (1≤(l0_4.length:Int))=false:=decide_eq_false c7
      have c7b1:decide (1≤l0_4.length)=false:=decide_eq_false (by omega)
      clear c7
      obtain rfl:=Option.some.inj H
      go_enter Try.func72,Try.ntmps72
      go_wp2_with (first|((with_reducible refine gate_dst (N:=1) rfl ?_);(try (refine gate_guard (by rfl) ?_;dsimp only));refine box_event ?hg (N:=1) ?hd (cs:=#[.int .i64 a0_0,.int .i64 a0_1,.int .i64 a0_2,.int .i64 a0_3,.slice A0_4 l0_4.length c0_4,.slice A0_5 l0_5.length c0_5,.slice A0_6 l0_6.length c0_6]) (t:=42) ?hr ?_;(case hd=>rfl);(case hg=>rfl);(case hr=>first|(go_simp;done)|(go_simp;rfl));intro gb581 hg w25 hbox hb;have n0_:=zm (below_step (by repeat (first|(with_reducible first|exact HB.out|apply zlA|apply zlN|apply zlD)|exact HB.out)) hb);have n1_:=zm (hbox);have n2_:=zm ((by rw [hg];exact (below_size (by repeat (first|(with_reducible first|exact HB.out|apply zlA|apply zlN|apply zlD)|exact HB.out))):w.heap.size≤gb581));have n3_:=zm ((by rw [hg];exact (below_size (by repeat (first|(with_reducible first|exact HB.out|apply zlA|apply zlN|apply zlD)|exact HB.out))):w.heap.size≤gb581));clear HB;have HB:=n0_;have BK581:=n1_;have GW581:=n2_;have GE581:=n3_;clear n0_ n1_ n2_ n3_;clear hb hbox hg;have hcz26_0:w25.cell? ⟨gb581,0,none⟩=some (.int .i64 a0_0):=(blk_cell BK581.out 0).trans rfl;have hcz26_1:w25.cell? ⟨gb581,1,none⟩=some (.int .i64 a0_1):=(blk_cell BK581.out 1).trans rfl;have hcz26_2:w25.cell? ⟨gb581,2,none⟩=some (.int .i64 a0_2):=(blk_cell BK581.out 2).trans rfl;have hcz26_3:w25.cell? ⟨gb581,3,none⟩=some (.int .i64 a0_3):=(blk_cell BK581.out 3).trans rfl;have hcz26_4:w25.cell? ⟨gb581,4,none⟩=some (.slice A0_4 l0_4.length c0_4):=(blk_cell BK581.out 4).trans rfl;have hcz26_5:w25.cell? ⟨gb581,5,none⟩=some (.slice A0_5 l0_5.length c0_5):=(blk_cell BK581.out 5).trans rfl;have hcz26_6:w25.cell? ⟨gb581,6,none⟩=some (.slice A0_6 l0_6.length c0_6):=(blk_cell BK581.out 6).trans rfl;have hfz26_0:=blk_frozen BK581.out 0;have hfz26_1:=blk_frozen BK581.out 1;have hfz26_2:=blk_frozen BK581.out 2;have hfz26_3:=blk_frozen BK581.out 3;have hfz26_4:=blk_frozen BK581.out 4;have hfz26_5:=blk_frozen BK581.out 5;have hfz26_6:=blk_frozen BK581.out 6)|((with_reducible refine gate_callee (f:=65) rfl ?_);refine goesL_ (some 9) rfl rfl Try.func65 (by kernel_rfl) rfl #[.int .i64 a0_1] rfl (by (try simp only [List.map_toArray,List.map_cons,List.map_nil]);first|done|rfl|(simp only [List.length_drop,List.length_take];rfl)) ?_;(with_reducible refine (mapjnl_gen.calls a0_1 true _ A3.out).mono ?_);rintro e w' ⟨rfl,⟨nd,rfl⟩⟩;refine ⟨_,rfl,?_⟩))
      go_ret
      exact ⟨by first|rfl|(simp [errW_none,errW_some] <;> rfl)|(simp [*,errW_none,errW_some] <;> rfl),by repeat (first|(with_reducible first|exact HB.out|apply zlA|apply zlN|apply zlD|refine zlS ?_ GE581.out)|exact HB.out)⟩
    ·rw [if_neg c6] at H
     have c6b0:decide (a0_2≤3)=false:=decide_eq_false c6
     clear c6
     obtain rfl:=Option.some.inj H
     go_enter Try.func72,Try.ntmps72
     go_wp2_with (first|((with_reducible refine gate_dst (N:=1) rfl ?_);(try (refine gate_guard (by rfl) ?_;dsimp only));refine box_event ?hg (N:=1) ?hd (cs:=#[.int .i64 a0_0,.int .i64 a0_1,.int .i64 a0_2,.int .i64 a0_3,.slice A0_4 l0_4.length c0_4,.slice A0_5 l0_5.length c0_5,.slice A0_6 l0_6.length c0_6]) (t:=42) ?hr ?_;(case hd=>rfl);(case hg=>rfl);(case hr=>first|(go_simp;done)|(go_simp;rfl));intro gb581 hg w27 hbox hb;have n0_:=zm (below_step (by repeat (first|(with_reducible first|exact HB.out|apply zlA|apply zlN|apply zlD)|exact HB.out)) hb);have n1_:=zm (hbox);have n2_:=zm ((by rw [hg];exact (below_size (by repeat (first|(with_reducible first|exact HB.out|apply zlA|apply zlN|apply zlD)|exact HB.out))):w.heap.size≤gb581));have n3_:=zm ((by rw [hg];exact (below_size (by repeat (first|(with_reducible first|exact HB.out|apply zlA|apply zlN|apply zlD)|exact HB.out))):w.heap.size≤gb581));clear HB;have HB:=n0_;have BK581:=n1_;have GW581:=n2_;have GE581:=n3_;clear n0_ n1_ n2_ n3_;clear hb hbox hg;have hcz28_0:w27.cell? ⟨gb581,0,none⟩=some (.int .i64 a0_0):=(blk_cell BK581.out 0).trans rfl;have hcz28_1:w27.cell? ⟨gb581,1,none⟩=some (.int .i64 a0_1):=(blk_cell BK581.out 1).trans rfl;have hcz28_2:w27.cell? ⟨gb581,2,none⟩=some (.int .i64 a0_2):=(blk_cell BK581.out 2).trans rfl;have hcz28_3:w27.cell? ⟨gb581,3,none⟩=some (.int .i64 a0_3):=(blk_cell BK581.out 3).trans rfl;have hcz28_4:w27.cell? ⟨gb581,4,none⟩=some (.slice A0_4 l0_4.length c0_4):=(blk_cell BK581.out 4).trans rfl;have hcz28_5:w27.cell? ⟨gb581,5,none⟩=some (.slice A0_5 l0_5.length c0_5):=(blk_cell BK581.out 5).trans rfl;have hcz28_6:w27.cell? ⟨gb581,6,none⟩=some (.slice A0_6 l0_6.length c0_6):=(blk_cell BK581.out 6).trans rfl;have hfz28_0:=blk_frozen BK581.out 0;have hfz28_1:=blk_frozen BK581.out 1;have hfz28_2:=blk_frozen BK581.out 2;have hfz28_3:=blk_frozen BK581.out 3;have hfz28_4:=blk_frozen BK581.out 4;have hfz28_5:=blk_frozen BK581.out 5;have hfz28_6:=blk_frozen BK581.out 6)|((with_reducible refine gate_callee (f:=65) rfl ?_);refine goesL_ (some 9) rfl rfl Try.func65 (by kernel_rfl) rfl #[.int .i64 a0_1] rfl (by (try simp only [List.map_toArray,List.map_cons,List.map_nil]);first|done|rfl|(simp only [List.length_drop,List.length_take];rfl)) ?_;(with_reducible refine (mapjnl_gen.calls a0_1 true _ A3.out).mono ?_);rintro e w' ⟨rfl,⟨nd,rfl⟩⟩;refine ⟨_,rfl,?_⟩))
     go_ret
     exact ⟨by first|rfl|(simp [errW_none,errW_some] <;> rfl)|(simp [*,errW_none,errW_some] <;> rfl),by repeat (first|(with_reducible first|exact HB.out|apply zlA|apply zlN|apply zlD|refine zlS ?_ GE581.out)|exact HB.out)⟩
   ·rw [if_neg c5] at H
    have c5b0:decide (0≤a0_2)=false:=decide_eq_false c5
    clear c5
    obtain rfl:=Option.some.inj H
    go_enter Try.func72,Try.ntmps72
    go_wp2_with (first|((with_reducible refine gate_dst (N:=1) rfl ?_);(try (refine gate_guard (by rfl) ?_;dsimp only));refine box_event ?hg (N:=1) ?hd (cs:=#[.int .i64 a0_0,.int .i64 a0_1,.int .i64 a0_2,.int .i64 a0_3,.slice A0_4 l0_4.length c0_4,.slice A0_5 l0_5.length c0_5,.slice A0_6 l0_6.length c0_6]) (t:=42) ?hr ?_;(case hd=>rfl);(case hg=>rfl);(case hr=>first|(go_simp;done)|(go_simp;rfl));intro gb581 hg w29 hbox hb;have n0_:=zm (below_step (by repeat (first|(with_reducible first|exact HB.out|apply zlA|apply zlN|apply zlD)|exact HB.out)) hb);have n1_:=zm (hbox);have n2_:=zm ((by rw [hg];exact (below_size (by repeat (first|(with_reducible first|exact HB.out|apply zlA|apply zlN|apply zlD)|exact HB.out))):w.heap.size≤gb581));have n3_:=zm ((by rw [hg];exact (below_size (by repeat (first|(with_reducible first|exact HB.out|apply zlA|apply zlN|apply zlD)|exact HB.out))):w.heap.size≤gb581));clear HB;have HB:=n0_;have BK581:=n1_;have GW581:=n2_;have GE581:=n3_;clear n0_ n1_ n2_ n3_;clear hb hbox hg;have hcz30_0:w29.cell? ⟨gb581,0,none⟩=some (.int .i64 a0_0):=(blk_cell BK581.out 0).trans rfl;have hcz30_1:w29.cell? ⟨gb581,1,none⟩=some (.int .i64 a0_1):=(blk_cell BK581.out 1).trans rfl;have hcz30_2:w29.cell? ⟨gb581,2,none⟩=some (.int .i64 a0_2):=(blk_cell BK581.out 2).trans rfl;have hcz30_3:w29.cell? ⟨gb581,3,none⟩=some (.int .i64 a0_3):=(blk_cell BK581.out 3).trans rfl;have hcz30_4:w29.cell? ⟨gb581,4,none⟩=some (.slice A0_4 l0_4.length c0_4):=(blk_cell BK581.out 4).trans rfl;have hcz30_5:w29.cell? ⟨gb581,5,none⟩=some (.slice A0_5 l0_5.length c0_5):=(blk_cell BK581.out 5).trans rfl;have hcz30_6:w29.cell? ⟨gb581,6,none⟩=some (.slice A0_6 l0_6.length c0_6):=(blk_cell BK581.out 6).trans rfl;have hfz30_0:=blk_frozen BK581.out 0;have hfz30_1:=blk_frozen BK581.out 1;have hfz30_2:=blk_frozen BK581.out 2;have hfz30_3:=blk_frozen BK581.out 3;have hfz30_4:=blk_frozen BK581.out 4;have hfz30_5:=blk_frozen BK581.out 5;have hfz30_6:=blk_frozen BK581.out 6)|((with_reducible refine gate_callee (f:=65) rfl ?_);refine goesL_ (some 9) rfl rfl Try.func65 (by kernel_rfl) rfl #[.int .i64 a0_1] rfl (by (try simp only [List.map_toArray,List.map_cons,List.map_nil]);first|done|rfl|(simp only [List.length_drop,List.length_take];rfl)) ?_;(with_reducible refine (mapjnl_gen.calls a0_1 true _ A3.out).mono ?_);rintro e w' ⟨rfl,⟨nd,rfl⟩⟩;refine ⟨_,rfl,?_⟩))
    go_ret
    exact ⟨by first|rfl|(simp [errW_none,errW_some] <;> rfl)|(simp [*,errW_none,errW_some] <;> rfl),by repeat (first|(with_reducible first|exact HB.out|apply zlA|apply zlN|apply zlD|refine zlS ?_ GE581.out)|exact HB.out)⟩
  ·replace c4:=Bool.eq_false_iff.mpr c4
   subst c4
   have H1:(some false)=some r:=by rw [if_neg (show ¬ (false=true) by decide)] at H;exact H
   clear H
   have H:=H1
   clear H1
   obtain rfl:=Option.some.inj H
   go_enter Try.func72,Try.ntmps72
   go_wp2_with (first|((with_reducible refine gate_dst (N:=1) rfl ?_);(try (refine gate_guard (by rfl) ?_;dsimp only));refine box_event ?hg (N:=1) ?hd (cs:=#[.int .i64 a0_0,.int .i64 a0_1,.int .i64 a0_2,.int .i64 a0_3,.slice A0_4 l0_4.length c0_4,.slice A0_5 l0_5.length c0_5,.slice A0_6 l0_6.length c0_6]) (t:=42) ?hr ?_;(case hd=>rfl);(case hg=>rfl);(case hr=>first|(go_simp;done)|(go_simp;rfl));intro gb581 hg w31 hbox hb;have n0_:=zm (below_step (by repeat (first|(with_reducible first|exact HB.out|apply zlA|apply zlN|apply zlD)|exact HB.out)) hb);have n1_:=zm (hbox);have n2_:=zm ((by rw [hg];exact (below_size (by repeat (first|(with_reducible first|exact HB.out|apply zlA|apply zlN|apply zlD)|exact HB.out))):w.heap.size≤gb581));have n3_:=zm ((by rw [hg];exact (below_size (by repeat (first|(with_reducible first|exact HB.out|apply zlA|apply zlN|apply zlD)|exact HB.out))):w.heap.size≤gb581));clear HB;have HB:=n0_;have BK581:=n1_;have GW581:=n2_;have GE581:=n3_;clear n0_ n1_ n2_ n3_;clear hb hbox hg;have hcz32_0:w31.cell? ⟨gb581,0,none⟩=some (.int .i64 a0_0):=(blk_cell BK581.out 0).trans rfl;have hcz32_1:w31.cell? ⟨gb581,1,none⟩=some (.int .i64 a0_1):=(blk_cell BK581.out 1).trans rfl;have hcz32_2:w31.cell? ⟨gb581,2,none⟩=some (.int .i64 a0_2):=(blk_cell BK581.out 2).trans rfl;have hcz32_3:w31.cell? ⟨gb581,3,none⟩=some (.int .i64 a0_3):=(blk_cell BK581.out 3).trans rfl;have hcz32_4:w31.cell? ⟨gb581,4,none⟩=some (.slice A0_4 l0_4.length c0_4):=(blk_cell BK581.out 4).trans rfl;have hcz32_5:w31.cell? ⟨gb581,5,none⟩=some (.slice A0_5 l0_5.length c0_5):=(blk_cell BK581.out 5).trans rfl;have hcz32_6:w31.cell? ⟨gb581,6,none⟩=some (.slice A0_6 l0_6.length c0_6):=(blk_cell BK581.out 6).trans rfl;have hfz32_0:=blk_frozen BK581.out 0;have hfz32_1:=blk_frozen BK581.out 1;have hfz32_2:=blk_frozen BK581.out 2;have hfz32_3:=blk_frozen BK581.out 3;have hfz32_4:=blk_frozen BK581.out 4;have hfz32_5:=blk_frozen BK581.out 5;have hfz32_6:=blk_frozen BK581.out 6)|((with_reducible refine gate_callee (f:=65) rfl ?_);refine goesL_ (some 9) rfl rfl Try.func65 (by kernel_rfl) rfl #[.int .i64 a0_1] rfl (by (try simp only [List.map_toArray,List.map_cons,List.map_nil]);first|done|rfl|(simp only [List.length_drop,List.length_take];rfl)) ?_;(with_reducible refine (mapjnl_gen.calls a0_1 false _ A3.out).mono ?_);rintro e w' ⟨rfl,⟨nd,rfl⟩⟩;refine ⟨_,rfl,?_⟩))
   go_ret
   exact ⟨by first|rfl|(simp [errW_none,errW_some] <;> rfl)|(simp [*,errW_none,errW_some] <;> rfl),by repeat (first|(with_reducible first|exact HB.out|apply zlA|apply zlN|apply zlD|refine zlS ?_ GE581.out)|exact HB.out)⟩
 ·rw [if_neg c2] at H
  have c2b0:(a0_0 == 1)=false:=beq_eq_false_iff_ne.mpr c2
  have c2b1:(a0_0 != 1)=true:=bne_iff_ne.mpr c2
  by_cases c33:a0_0=2
  ·rw [if_pos c33] at H
   have c33b0:(a0_0 == 2)=true:=beq_iff_eq.mpr c33
   have c33b1:(a0_0 != 2)=false:=bne_eq_false_iff_eq.mpr c33
   clear c33
   replace H:=Option.bind_eq_some_iff.mp H
   obtain ⟨t585,A340,H⟩:=H
   replace H:(if t585=true then (if a0_2=0 then (if a0_3=0 then (if (l0_4.length:Int)=0 then (if (l0_5.length:Int)=0 then (if (l0_6.length:Int)≤24 then ((api_MapRecord_68_83.f k l0_6).bind fun t586=>(some (!t586))) else (some false)) else (some false)) else (some false)) else (some false)) else (some false)) else (some false))=some r:=H
   have A34:=zm A340
   clear A340
   by_cases c35:t585=true
   ·subst c35
    have H1:(if a0_2=0 then (if a0_3=0 then (if (l0_4.length:Int)=0 then (if (l0_5.length:Int)=0 then (if (l0_6.length:Int)≤24 then ((api_MapRecord_68_83.f k l0_6).bind fun t586=>(some (!t586))) else (some false)) else (some false)) else (some false)) else (some false)) else (some false))=some r:=by rw [if_pos rfl] at H;exact H
    clear H
    have H:=H1
    clear H1
    by_cases c36:a0_2=0
    ·rw [if_pos c36] at H
     have c36b0:(a0_2 == 0)=true:=beq_iff_eq.mpr c36
     have c36b1:(a0_2 != 0)=false:=bne_eq_false_iff_eq.mpr c36
     clear c36
     by_cases c37:a0_3=0
     ·rw [if_pos c37] at H
      have c37b0:(a0_3 == 0)=true:=beq_iff_eq.mpr c37
      have c37b1:(a0_3 != 0)=false:=bne_eq_false_iff_eq.mpr c37
      clear c37
      by_cases c38:(l0_4.length:Int)=0
      ·rw [if_pos c38] at H
       have c38b0:((l0_4.length:Int) == 0)=true:=beq_iff_eq.mpr c38
       have c38b1:((l0_4.length:Int) != 0)=false:=bne_eq_false_iff_eq.mpr c38
       clear c38
       by_cases c39:(l0_5.length:Int)=0
       ·rw [if_pos c39] at H
        have c39b0:((l0_5.length:Int) == 0)=true:=beq_iff_eq.mpr c39
        have c39b1:((l0_5.length:Int) != 0)=false:=bne_eq_false_iff_eq.mpr c39
        clear c39
        by_cases c40:(l0_6.length:Int)≤24
        ·rw [if_pos c40] at H
         have c40b0:decide ((l0_6.length:Int)≤24)=true:=decide_eq_true c40
         have c40b1:decide (l0_6.length≤24)=true:=decide_eq_true (by omega)
         clear c40
         replace H:=Option.bind_eq_some_iff.mp H
         obtain ⟨t586,A410,H⟩:=H
         replace H:(some (!t586))=some r:=H
         have A41:=zm A410
         clear A410
         obtain rfl:=Option.some.inj H
         go_enter Try.func72,Try.ntmps72
         go_wp2_with (first|((with_reducible refine gate_dst (N:=1) rfl ?_);(try (refine gate_guard (by rfl) ?_;dsimp only));refine box_event ?hg (N:=1) ?hd (cs:=#[.int .i64 a0_0,.int .i64 a0_1,.int .i64 a0_2,.int .i64 a0_3,.slice A0_4 l0_4.length c0_4,.slice A0_5 l0_5.length c0_5,.slice A0_6 l0_6.length c0_6]) (t:=42) ?hr ?_;(case hd=>rfl);(case hg=>rfl);(case hr=>first|(go_simp;done)|(go_simp;rfl));intro gb581 hg w42 hbox hb;have n0_:=zm (below_step (by repeat (first|(with_reducible first|exact HB.out|apply zlA|apply zlN|apply zlD)|exact HB.out)) hb);have n1_:=zm (hbox);have n2_:=zm ((by rw [hg];exact (below_size (by repeat (first|(with_reducible first|exact HB.out|apply zlA|apply zlN|apply zlD)|exact HB.out))):w.heap.size≤gb581));have n3_:=zm ((by rw [hg];exact (below_size (by repeat (first|(with_reducible first|exact HB.out|apply zlA|apply zlN|apply zlD)|exact HB.out))):w.heap.size≤gb581));clear HB;have HB:=n0_;have BK581:=n1_;have GW581:=n2_;have GE581:=n3_;clear n0_ n1_ n2_ n3_;clear hb hbox hg;have hcz43_0:w42.cell? ⟨gb581,0,none⟩=some (.int .i64 a0_0):=(blk_cell BK581.out 0).trans rfl;have hcz43_1:w42.cell? ⟨gb581,1,none⟩=some (.int .i64 a0_1):=(blk_cell BK581.out 1).trans rfl;have hcz43_2:w42.cell? ⟨gb581,2,none⟩=some (.int .i64 a0_2):=(blk_cell BK581.out 2).trans rfl;have hcz43_3:w42.cell? ⟨gb581,3,none⟩=some (.int .i64 a0_3):=(blk_cell BK581.out 3).trans rfl;have hcz43_4:w42.cell? ⟨gb581,4,none⟩=some (.slice A0_4 l0_4.length c0_4):=(blk_cell BK581.out 4).trans rfl;have hcz43_5:w42.cell? ⟨gb581,5,none⟩=some (.slice A0_5 l0_5.length c0_5):=(blk_cell BK581.out 5).trans rfl;have hcz43_6:w42.cell? ⟨gb581,6,none⟩=some (.slice A0_6 l0_6.length c0_6):=(blk_cell BK581.out 6).trans rfl;have hfz43_0:=blk_frozen BK581.out 0;have hfz43_1:=blk_frozen BK581.out 1;have hfz43_2:=blk_frozen BK581.out 2;have hfz43_3:=blk_frozen BK581.out 3;have hfz43_4:=blk_frozen BK581.out 4;have hfz43_5:=blk_frozen BK581.out 5;have hfz43_6:=blk_frozen BK581.out 6)|((with_reducible refine gate_callee (f:=65) rfl ?_);refine goesL_ (some 62) rfl rfl Try.func65 (by kernel_rfl) rfl #[.int .i64 a0_1] rfl (by (try simp only [List.map_toArray,List.map_cons,List.map_nil]);first|done|rfl|(simp only [List.length_drop,List.length_take];rfl)) ?_;(with_reducible refine (mapjnl_gen.calls a0_1 true _ A34.out).mono ?_);rintro e w' ⟨rfl,⟨nd,rfl⟩⟩;refine ⟨_,rfl,?_⟩)|(go_at_call 68;(with_reducible refine (api_MapRecord_68_83.calls k _ _ l0_6  t586 _ ?side1 ?side2 A41.out).mono ?_);(case side1=>repeat (first|exact (Kd.C_below HR0_6.out (by repeat (first|(with_reducible first|exact HB.out|apply zlA|apply zlN|apply zlD|refine zlS ?_ GE581.out)|exact HB.out)))|(with_reducible refine Kd.C_alloc ?_ _)|(with_reducible refine Kd.C_drewN ?_ _)|(with_reducible refine Kd.C_drew ?_)));(case side2=>exact HC0_6.out);rintro e w44 ⟨rfl,hb⟩;have n0_:=zm (zbB (g:=gb581) (o:=.cells #[.int .i64 a0_0,.int .i64 a0_1,.int .i64 a0_2,.int .i64 a0_3,.slice A0_4 l0_4.length c0_4,.slice A0_5 l0_5.length c0_5,.slice A0_6 l0_6.length c0_6] 42 (0,0)) (by (with_reducible repeat (first|refine zbN ?_ _|refine zbD ?_|refine zbA ?_ _));exact BK581.out) hb);have n1_:=zm (below_step (by repeat (first|(with_reducible first|exact HB.out|apply zlA|apply zlN|apply zlD|refine zlS ?_ GE581.out)|exact HB.out)) hb);clear BK581 HB;have BK581:=n0_;have HB:=n1_;clear n0_ n1_;(try clear hb);(try clear hb2);(try clear hk);(try clear hi)))
         go_ret
         exact ⟨by first|rfl|(simp [errW_none,errW_some] <;> rfl)|(simp [*,errW_none,errW_some] <;> rfl),by repeat (first|(with_reducible first|exact HB.out|apply zlA|apply zlN|apply zlD|refine zlS ?_ GE581.out)|exact HB.out)⟩
        ·rw [if_neg c40] at H
         have c40b0:decide ((l0_6.length:Int)≤24)=false:=decide_eq_false c40
         have c40b1:decide (l0_6.length≤24)=false:=decide_eq_false (by omega)
         clear c40
         obtain rfl:=Option.some.inj H
         go_enter Try.func72,Try.ntmps72
         go_wp2_with (first|((with_reducible refine gate_dst (N:=1) rfl ?_);(try (refine gate_guard (by rfl) ?_;dsimp only));refine box_event ?hg (N:=1) ?hd (cs:=#[.int .i64 a0_0,.int .i64 a0_1,.int .i64 a0_2,.int .i64 a0_3,.slice A0_4 l0_4.length c0_4,.slice A0_5 l0_5.length c0_5,.slice A0_6 l0_6.length c0_6]) (t:=42) ?hr ?_;(case hd=>rfl);(case hg=>rfl);(case hr=>first|(go_simp;done)|(go_simp;rfl));intro gb581 hg w45 hbox hb;have n0_:=zm (below_step (by repeat (first|(with_reducible first|exact HB.out|apply zlA|apply zlN|apply zlD)|exact HB.out)) hb);have n1_:=zm (hbox);have n2_:=zm ((by rw [hg];exact (below_size (by repeat (first|(with_reducible first|exact HB.out|apply zlA|apply zlN|apply zlD)|exact HB.out))):w.heap.size≤gb581));have n3_:=zm ((by rw [hg];exact (below_size (by repeat (first|(with_reducible first|exact HB.out|apply zlA|apply zlN|apply zlD)|exact HB.out))):w.heap.size≤gb581));clear HB;have HB:=n0_;have BK581:=n1_;have GW581:=n2_;have GE581:=n3_;clear n0_ n1_ n2_ n3_;clear hb hbox hg;have hcz46_0:w45.cell? ⟨gb581,0,none⟩=some (.int .i64 a0_0):=(blk_cell BK581.out 0).trans rfl;have hcz46_1:w45.cell? ⟨gb581,1,none⟩=some (.int .i64 a0_1):=(blk_cell BK581.out 1).trans rfl;have hcz46_2:w45.cell? ⟨gb581,2,none⟩=some (.int .i64 a0_2):=(blk_cell BK581.out 2).trans rfl;have hcz46_3:w45.cell? ⟨gb581,3,none⟩=some (.int .i64 a0_3):=(blk_cell BK581.out 3).trans rfl;have hcz46_4:w45.cell? ⟨gb581,4,none⟩=some (.slice A0_4 l0_4.length c0_4):=(blk_cell BK581.out 4).trans rfl;have hcz46_5:w45.cell? ⟨gb581,5,none⟩=some (.slice A0_5 l0_5.length c0_5):=(blk_cell BK581.out 5).trans rfl;have hcz46_6:w45.cell? ⟨gb581,6,none⟩=some (.slice A0_6 l0_6.length c0_6):=(blk_cell BK581.out 6).trans rfl;have hfz46_0:=blk_frozen BK581.out 0;have hfz46_1:=blk_frozen BK581.out 1;have hfz46_2:=blk_frozen BK581.out 2;have hfz46_3:=blk_frozen BK581.out 3;have hfz46_4:=blk_frozen BK581.out 4;have hfz46_5:=blk_frozen BK581.out 5;have hfz46_6:=blk_frozen BK581.out 6)|((with_reducible refine gate_callee (f:=65) rfl ?_);refine goesL_ (some 62) rfl rfl Try.func65 (by kernel_rfl) rfl #[.int .i64 a0_1] rfl (by (try simp only [List.map_toArray,List.map_cons,List.map_nil]);first|done|rfl|(simp only [List.length_drop,List.length_take];rfl)) ?_;(with_reducible refine (mapjnl_gen.calls a0_1 true _ A34.out).mono ?_);rintro e w' ⟨rfl,⟨nd,rfl⟩⟩;refine ⟨_,rfl,?_⟩))
         go_ret
         exact ⟨by first|rfl|(simp [errW_none,errW_some] <;> rfl)|(simp [*,errW_none,errW_some] <;> rfl),by repeat (first|(with_reducible first|exact HB.out|apply zlA|apply zlN|apply zlD|refine zlS ?_ GE581.out)|exact HB.out)⟩
       ·rw [if_neg c39] at H
        have c39b0:((l0_5.length:Int) == 0)=false:=beq_eq_false_iff_ne.mpr c39
        have c39b1:((l0_5.length:Int) != 0)=true:=bne_iff_ne.mpr c39
        have c39b2:¬ (l0_5=[]):=fun h_=>c39 (by rw [h_];rfl)
        obtain rfl:=Option.some.inj H
        go_enter Try.func72,Try.ntmps72
        go_wp2_with (first|((with_reducible refine gate_dst (N:=1) rfl ?_);(try (refine gate_guard (by rfl) ?_;dsimp only));refine box_event ?hg (N:=1) ?hd (cs:=#[.int .i64 a0_0,.int .i64 a0_1,.int .i64 a0_2,.int .i64 a0_3,.slice A0_4 l0_4.length c0_4,.slice A0_5 l0_5.length c0_5,.slice A0_6 l0_6.length c0_6]) (t:=42) ?hr ?_;(case hd=>rfl);(case hg=>rfl);(case hr=>first|(go_simp;done)|(go_simp;rfl));intro gb581 hg w47 hbox hb;have n0_:=zm (below_step (by repeat (first|(with_reducible first|exact HB.out|apply zlA|apply zlN|apply zlD)|exact HB.out)) hb);have n1_:=zm (hbox);have n2_:=zm ((by rw [hg];exact (below_size (by repeat (first|(with_reducible first|exact HB.out|apply zlA|apply zlN|apply zlD)|exact HB.out))):w.heap.size≤gb581));have n3_:=zm ((by rw [hg];exact (below_size (by repeat (first|(with_reducible first|exact HB.out|apply zlA|apply zlN|apply zlD)|exact HB.out))):w.heap.size≤gb581));clear HB;have HB:=n0_;have BK581:=n1_;have GW581:=n2_;have GE581:=n3_;clear n0_ n1_ n2_ n3_;clear hb hbox hg;have hcz48_0:w47.cell? ⟨gb581,0,none⟩=some (.int .i64 a0_0):=(blk_cell BK581.out 0).trans rfl;have hcz48_1:w47.cell? ⟨gb581,1,none⟩=some (.int .i64 a0_1):=(blk_cell BK581.out 1).trans rfl;have hcz48_2:w47.cell? ⟨gb581,2,none⟩=some (.int .i64 a0_2):=(blk_cell BK581.out 2).trans rfl;have hcz48_3:w47.cell? ⟨gb581,3,none⟩=some (.int .i64 a0_3):=(blk_cell BK581.out 3).trans rfl;have hcz48_4:w47.cell? ⟨gb581,4,none⟩=some (.slice A0_4 l0_4.length c0_4):=(blk_cell BK581.out 4).trans rfl;have hcz48_5:w47.cell? ⟨gb581,5,none⟩=some (.slice A0_5 l0_5.length c0_5):=(blk_cell BK581.out 5).trans rfl;have hcz48_6:w47.cell? ⟨gb581,6,none⟩=some (.slice A0_6 l0_6.length c0_6):=(blk_cell BK581.out 6).trans rfl;have hfz48_0:=blk_frozen BK581.out 0;have hfz48_1:=blk_frozen BK581.out 1;have hfz48_2:=blk_frozen BK581.out 2;have hfz48_3:=blk_frozen BK581.out 3;have hfz48_4:=blk_frozen BK581.out 4;have hfz48_5:=blk_frozen BK581.out 5;have hfz48_6:=blk_frozen BK581.out 6)|((with_reducible refine gate_callee (f:=65) rfl ?_);refine goesL_ (some 62) rfl rfl Try.func65 (by kernel_rfl) rfl #[.int .i64 a0_1] rfl (by (try simp only [List.map_toArray,List.map_cons,List.map_nil]);first|done|rfl|(simp only [List.length_drop,List.length_take];rfl)) ?_;(with_reducible refine (mapjnl_gen.calls a0_1 true _ A34.out).mono ?_);rintro e w' ⟨rfl,⟨nd,rfl⟩⟩;refine ⟨_,rfl,?_⟩))
        go_ret
        exact ⟨by first|rfl|(simp [errW_none,errW_some] <;> rfl)|(simp [*,errW_none,errW_some] <;> rfl),by repeat (first|(with_reducible first|exact HB.out|apply zlA|apply zlN|apply zlD|refine zlS ?_ GE581.out)|exact HB.out)⟩
      ·rw [if_neg c38] at H
       have c38b0:((l0_4.length:Int) == 0)=false:=beq_eq_false_iff_ne.mpr c38
       have c38b1:((l0_4.length:Int) != 0)=true:=bne_iff_ne.mpr c38
       have c38b2:¬ (l0_4=[]):=fun h_=>c38 (by rw [h_];rfl)
       obtain rfl:=Option.some.inj H
       go_enter Try.func72,Try.ntmps72
       go_wp2_with (first|((with_reducible refine gate_dst (N:=1) rfl ?_);(try (refine gate_guard (by rfl) ?_;dsimp only));refine box_event ?hg (N:=1) ?hd (cs:=#[.int .i64 a0_0,.int .i64 a0_1,.int .i64 a0_2,.int .i64 a0_3,.slice A0_4 l0_4.length c0_4,.slice A0_5 l0_5.length c0_5,.slice A0_6 l0_6.length c0_6]) (t:=42) ?hr ?_;(case hd=>rfl);(case hg=>rfl);(case hr=>first|(go_simp;done)|(go_simp;rfl));intro gb581 hg w49 hbox hb;have n0_:=zm (below_step (by repeat (first|(with_reducible first|exact HB.out|apply zlA|apply zlN|apply zlD)|exact HB.out)) hb);have n1_:=zm (hbox);have n2_:=zm ((by rw [hg];exact (below_size (by repeat (first|(with_reducible first|exact HB.out|apply zlA|apply zlN|apply zlD)|exact HB.out))):w.heap.size≤gb581));have n3_:=zm ((by rw [hg];exact (below_size (by repeat (first|(with_reducible first|exact HB.out|apply zlA|apply zlN|apply zlD)|exact HB.out))):w.heap.size≤gb581));clear HB;have HB:=n0_;have BK581:=n1_;have GW581:=n2_;have GE581:=n3_;clear n0_ n1_ n2_ n3_;clear hb hbox hg;have hcz50_0:w49.cell? ⟨gb581,0,none⟩=some (.int .i64 a0_0):=(blk_cell BK581.out 0).trans rfl;have hcz50_1:w49.cell? ⟨gb581,1,none⟩=some (.int .i64 a0_1):=(blk_cell BK581.out 1).trans rfl;have hcz50_2:w49.cell? ⟨gb581,2,none⟩=some (.int .i64 a0_2):=(blk_cell BK581.out 2).trans rfl;have hcz50_3:w49.cell? ⟨gb581,3,none⟩=some (.int .i64 a0_3):=(blk_cell BK581.out 3).trans rfl;have hcz50_4:w49.cell? ⟨gb581,4,none⟩=some (.slice A0_4 l0_4.length c0_4):=(blk_cell BK581.out 4).trans rfl;have hcz50_5:w49.cell? ⟨gb581,5,none⟩=some (.slice A0_5 l0_5.length c0_5):=(blk_cell BK581.out 5).trans rfl;have hcz50_6:w49.cell? ⟨gb581,6,none⟩=some (.slice A0_6 l0_6.length c0_6):=(blk_cell BK581.out 6).trans rfl;have hfz50_0:=blk_frozen BK581.out 0;have hfz50_1:=blk_frozen BK581.out 1;have hfz50_2:=blk_frozen BK581.out 2;have hfz50_3:=blk_frozen BK581.out 3;have hfz50_4:=blk_frozen BK581.out 4;have hfz50_5:=blk_frozen BK581.out 5;have hfz50_6:=blk_frozen BK581.out 6)|((with_reducible refine gate_callee (f:=65) rfl ?_);refine goesL_ (some 62) rfl rfl Try.func65 (by kernel_rfl) rfl #[.int .i64 a0_1] rfl (by (try simp only [List.map_toArray,List.map_cons,List.map_nil]);first|done|rfl|(simp only [List.length_drop,List.length_take];rfl)) ?_;(with_reducible refine (mapjnl_gen.calls a0_1 true _ A34.out).mono ?_);rintro e w' ⟨rfl,⟨nd,rfl⟩⟩;refine ⟨_,rfl,?_⟩))
       go_ret
       exact ⟨by first|rfl|(simp [errW_none,errW_some] <;> rfl)|(simp [*,errW_none,errW_some] <;> rfl),by repeat (first|(with_reducible first|exact HB.out|apply zlA|apply zlN|apply zlD|refine zlS ?_ GE581.out)|exact HB.out)⟩
     ·rw [if_neg c37] at H
      have c37b0:(a0_3 == 0)=false:=beq_eq_false_iff_ne.mpr c37
      have c37b1:(a0_3 != 0)=true:=bne_iff_ne.mpr c37
      obtain rfl:=Option.some.inj H
      go_enter Try.func72,Try.ntmps72
      go_wp2_with (first|((with_reducible refine gate_dst (N:=1) rfl ?_);(try (refine gate_guard (by rfl) ?_;dsimp only));refine box_event ?hg (N:=1) ?hd (cs:=#[.int .i64 a0_0,.int .i64 a0_1,.int .i64 a0_2,.int .i64 a0_3,.slice A0_4 l0_4.length c0_4,.slice A0_5 l0_5.length c0_5,.slice A0_6 l0_6.length c0_6]) (t:=42) ?hr ?_;(case hd=>rfl);(case hg=>rfl);(case hr=>first|(go_simp;done)|(go_simp;rfl));intro gb581 hg w51 hbox hb;have n0_:=zm (below_step (by repeat (first|(with_reducible first|exact HB.out|apply zlA|apply zlN|apply zlD)|exact HB.out)) hb);have n1_:=zm (hbox);have n2_:=zm ((by rw [hg];exact (below_size (by repeat (first|(with_reducible first|exact HB.out|apply zlA|apply zlN|apply zlD)|exact HB.out))):w.heap.size≤gb581));have n3_:=zm ((by rw [hg];exact (below_size (by repeat (first|(with_reducible first|exact HB.out|apply zlA|apply zlN|apply zlD)|exact HB.out))):w.heap.size≤gb581));clear HB;have HB:=n0_;have BK581:=n1_;have GW581:=n2_;have GE581:=n3_;clear n0_ n1_ n2_ n3_;clear hb hbox hg;have hcz52_0:w51.cell? ⟨gb581,0,none⟩=some (.int .i64 a0_0):=(blk_cell BK581.out 0).trans rfl;have hcz52_1:w51.cell? ⟨gb581,1,none⟩=some (.int .i64 a0_1):=(blk_cell BK581.out 1).trans rfl;have hcz52_2:w51.cell? ⟨gb581,2,none⟩=some (.int .i64 a0_2):=(blk_cell BK581.out 2).trans rfl;have hcz52_3:w51.cell? ⟨gb581,3,none⟩=some (.int .i64 a0_3):=(blk_cell BK581.out 3).trans rfl;have hcz52_4:w51.cell? ⟨gb581,4,none⟩=some (.slice A0_4 l0_4.length c0_4):=(blk_cell BK581.out 4).trans rfl;have hcz52_5:w51.cell? ⟨gb581,5,none⟩=some (.slice A0_5 l0_5.length c0_5):=(blk_cell BK581.out 5).trans rfl;have hcz52_6:w51.cell? ⟨gb581,6,none⟩=some (.slice A0_6 l0_6.length c0_6):=(blk_cell BK581.out 6).trans rfl;have hfz52_0:=blk_frozen BK581.out 0;have hfz52_1:=blk_frozen BK581.out 1;have hfz52_2:=blk_frozen BK581.out 2;have hfz52_3:=blk_frozen BK581.out 3;have hfz52_4:=blk_frozen BK581.out 4;have hfz52_5:=blk_frozen BK581.out 5;have hfz52_6:=blk_frozen BK581.out 6)|((with_reducible refine gate_callee (f:=65) rfl ?_);refine goesL_ (some 62) rfl rfl Try.func65 (by kernel_rfl) rfl #[.int .i64 a0_1] rfl (by (try simp only [List.map_toArray,List.map_cons,List.map_nil]);first|done|rfl|(simp only [List.length_drop,List.length_take];rfl)) ?_;(with_reducible refine (mapjnl_gen.calls a0_1 true _ A34.out).mono ?_);rintro e w' ⟨rfl,⟨nd,rfl⟩⟩;refine ⟨_,rfl,?_⟩))
      go_ret
      exact ⟨by first|rfl|(simp [errW_none,errW_some] <;> rfl)|(simp [*,errW_none,errW_some] <;> rfl),by repeat (first|(with_reducible first|exact HB.out|apply zlA|apply zlN|apply zlD|refine zlS ?_ GE581.out)|exact HB.out)⟩
    ·rw [if_neg c36] at H
     have c36b0:(a0_2 == 0)=false:=beq_eq_false_iff_ne.mpr c36
     have c36b1:(a0_2 != 0)=true:=bne_iff_ne.mpr c36
     obtain rfl:=Option.some.inj H
     go_enter Try.func72,Try.ntmps72
     go_wp2_with (first|((with_reducible refine gate_dst (N:=1) rfl ?_);(try (refine gate_guard (by rfl) ?_;dsimp only));refine box_event ?hg (N:=1) ?hd (cs:=#[.int .i64 a0_0,.int .i64 a0_1,.int .i64 a0_2,.int .i64 a0_3,.slice A0_4 l0_4.length c0_4,.slice A0_5 l0_5.length c0_5,.slice A0_6 l0_6.length c0_6]) (t:=42) ?hr ?_;(case hd=>rfl);(case hg=>rfl);(case hr=>first|(go_simp;done)|(go_simp;rfl));intro gb581 hg w53 hbox hb;have n0_:=zm (below_step (by repeat (first|(with_reducible first|exact HB.out|apply zlA|apply zlN|apply zlD)|exact HB.out)) hb);have n1_:=zm (hbox);have n2_:=zm ((by rw [hg];exact (below_size (by repeat (first|(with_reducible first|exact HB.out|apply zlA|apply zlN|apply zlD)|exact HB.out))):w.heap.size≤gb581));have n3_:=zm ((by rw [hg];exact (below_size (by repeat (first|(with_reducible first|exact HB.out|apply zlA|apply zlN|apply zlD)|exact HB.out))):w.heap.size≤gb581));clear HB;have HB:=n0_;have BK581:=n1_;have GW581:=n2_;have GE581:=n3_;clear n0_ n1_ n2_ n3_;clear hb hbox hg;have hcz54_0:w53.cell? ⟨gb581,0,none⟩=some (.int .i64 a0_0):=(blk_cell BK581.out 0).trans rfl;have hcz54_1:w53.cell? ⟨gb581,1,none⟩=some (.int .i64 a0_1):=(blk_cell BK581.out 1).trans rfl;have hcz54_2:w53.cell? ⟨gb581,2,none⟩=some (.int .i64 a0_2):=(blk_cell BK581.out 2).trans rfl;have hcz54_3:w53.cell? ⟨gb581,3,none⟩=some (.int .i64 a0_3):=(blk_cell BK581.out 3).trans rfl;have hcz54_4:w53.cell? ⟨gb581,4,none⟩=some (.slice A0_4 l0_4.length c0_4):=(blk_cell BK581.out 4).trans rfl;have hcz54_5:w53.cell? ⟨gb581,5,none⟩=some (.slice A0_5 l0_5.length c0_5):=(blk_cell BK581.out 5).trans rfl;have hcz54_6:w53.cell? ⟨gb581,6,none⟩=some (.slice A0_6 l0_6.length c0_6):=(blk_cell BK581.out 6).trans rfl;have hfz54_0:=blk_frozen BK581.out 0;have hfz54_1:=blk_frozen BK581.out 1;have hfz54_2:=blk_frozen BK581.out 2;have hfz54_3:=blk_frozen BK581.out 3;have hfz54_4:=blk_frozen BK581.out 4;have hfz54_5:=blk_frozen BK581.out 5;have hfz54_6:=blk_frozen BK581.out 6)|((with_reducible refine gate_callee (f:=65) rfl ?_);refine goesL_ (some 62) rfl rfl Try.func65 (by kernel_rfl) rfl #[.int .i64 a0_1] rfl (by (try simp only [List.map_toArray,List.map_cons,List.map_nil]);first|done|rfl|(simp only [List.length_drop,List.length_take];rfl)) ?_;(with_reducible refine (mapjnl_gen.calls a0_1 true _ A34.out).mono ?_);rintro e w' ⟨rfl,⟨nd,rfl⟩⟩;refine ⟨_,rfl,?_⟩))
     go_ret
     exact ⟨by first|rfl|(simp [errW_none,errW_some] <;> rfl)|(simp [*,errW_none,errW_some] <;> rfl),by repeat (first|(with_reducible first|exact HB.out|apply zlA|apply zlN|apply zlD|refine zlS ?_ GE581.out)|exact HB.out)⟩
   ·replace c35:=Bool.eq_false_iff.mpr c35
    subst c35
    have H1:(some false)=some r:=by rw [if_neg (show ¬ (false=true) by decide)] at H;exact H
    clear H
    have H:=H1
    clear H1
    obtain rfl:=Option.some.inj H
    go_enter Try.func72,Try.ntmps72
    go_wp2_with (first|((with_reducible refine gate_dst (N:=1) rfl ?_);(try (refine gate_guard (by rfl) ?_;dsimp only));refine box_event ?hg (N:=1) ?hd (cs:=#[.int .i64 a0_0,.int .i64 a0_1,.int .i64 a0_2,.int .i64 a0_3,.slice A0_4 l0_4.length c0_4,.slice A0_5 l0_5.length c0_5,.slice A0_6 l0_6.length c0_6]) (t:=42) ?hr ?_;(case hd=>rfl);(case hg=>rfl);(case hr=>first|(go_simp;done)|(go_simp;rfl));intro gb581 hg w55 hbox hb;have n0_:=zm (below_step (by repeat (first|(with_reducible first|exact HB.out|apply zlA|apply zlN|apply zlD)|exact HB.out)) hb);have n1_:=zm (hbox);have n2_:=zm ((by rw [hg];exact (below_size (by repeat (first|(with_reducible first|exact HB.out|apply zlA|apply zlN|apply zlD)|exact HB.out))):w.heap.size≤gb581));have n3_:=zm ((by rw [hg];exact (below_size (by repeat (first|(with_reducible first|exact HB.out|apply zlA|apply zlN|apply zlD)|exact HB.out))):w.heap.size≤gb581));clear HB;have HB:=n0_;have BK581:=n1_;have GW581:=n2_;have GE581:=n3_;clear n0_ n1_ n2_ n3_;clear hb hbox hg;have hcz56_0:w55.cell? ⟨gb581,0,none⟩=some (.int .i64 a0_0):=(blk_cell BK581.out 0).trans rfl;have hcz56_1:w55.cell? ⟨gb581,1,none⟩=some (.int .i64 a0_1):=(blk_cell BK581.out 1).trans rfl;have hcz56_2:w55.cell? ⟨gb581,2,none⟩=some (.int .i64 a0_2):=(blk_cell BK581.out 2).trans rfl;have hcz56_3:w55.cell? ⟨gb581,3,none⟩=some (.int .i64 a0_3):=(blk_cell BK581.out 3).trans rfl;have hcz56_4:w55.cell? ⟨gb581,4,none⟩=some (.slice A0_4 l0_4.length c0_4):=(blk_cell BK581.out 4).trans rfl;have hcz56_5:w55.cell? ⟨gb581,5,none⟩=some (.slice A0_5 l0_5.length c0_5):=(blk_cell BK581.out 5).trans rfl;have hcz56_6:w55.cell? ⟨gb581,6,none⟩=some (.slice A0_6 l0_6.length c0_6):=(blk_cell BK581.out 6).trans rfl;have hfz56_0:=blk_frozen BK581.out 0;have hfz56_1:=blk_frozen BK581.out 1;have hfz56_2:=blk_frozen BK581.out 2;have hfz56_3:=blk_frozen BK581.out 3;have hfz56_4:=blk_frozen BK581.out 4;have hfz56_5:=blk_frozen BK581.out 5;have hfz56_6:=blk_frozen BK581.out 6)|((with_reducible refine gate_callee (f:=65) rfl ?_);refine goesL_ (some 62) rfl rfl Try.func65 (by kernel_rfl) rfl #[.int .i64 a0_1] rfl (by (try simp only [List.map_toArray,List.map_cons,List.map_nil]);first|done|rfl|(simp only [List.length_drop,List.length_take];rfl)) ?_;(with_reducible refine (mapjnl_gen.calls a0_1 false _ A34.out).mono ?_);rintro e w' ⟨rfl,⟨nd,rfl⟩⟩;refine ⟨_,rfl,?_⟩))
    go_ret
    exact ⟨by first|rfl|(simp [errW_none,errW_some] <;> rfl)|(simp [*,errW_none,errW_some] <;> rfl),by repeat (first|(with_reducible first|exact HB.out|apply zlA|apply zlN|apply zlD|refine zlS ?_ GE581.out)|exact HB.out)⟩
  ·rw [if_neg c33] at H
   have c33b0:(a0_0 == 2)=false:=beq_eq_false_iff_ne.mpr c33
   have c33b1:(a0_0 != 2)=true:=bne_iff_ne.mpr c33
   obtain rfl:=Option.some.inj H
   go_enter Try.func72,Try.ntmps72
   go_wp2_with (first|((with_reducible refine gate_dst (N:=1) rfl ?_);(try (refine gate_guard (by rfl) ?_;dsimp only));refine box_event ?hg (N:=1) ?hd (cs:=#[.int .i64 a0_0,.int .i64 a0_1,.int .i64 a0_2,.int .i64 a0_3,.slice A0_4 l0_4.length c0_4,.slice A0_5 l0_5.length c0_5,.slice A0_6 l0_6.length c0_6]) (t:=42) ?hr ?_;(case hd=>rfl);(case hg=>rfl);(case hr=>first|(go_simp;done)|(go_simp;rfl));intro gb581 hg w57 hbox hb;have n0_:=zm (below_step (by repeat (first|(with_reducible first|exact HB.out|apply zlA|apply zlN|apply zlD)|exact HB.out)) hb);have n1_:=zm (hbox);have n2_:=zm ((by rw [hg];exact (below_size (by repeat (first|(with_reducible first|exact HB.out|apply zlA|apply zlN|apply zlD)|exact HB.out))):w.heap.size≤gb581));have n3_:=zm ((by rw [hg];exact (below_size (by repeat (first|(with_reducible first|exact HB.out|apply zlA|apply zlN|apply zlD)|exact HB.out))):w.heap.size≤gb581));clear HB;have HB:=n0_;have BK581:=n1_;have GW581:=n2_;have GE581:=n3_;clear n0_ n1_ n2_ n3_;clear hb hbox hg;have hcz58_0:w57.cell? ⟨gb581,0,none⟩=some (.int .i64 a0_0):=(blk_cell BK581.out 0).trans rfl;have hcz58_1:w57.cell? ⟨gb581,1,none⟩=some (.int .i64 a0_1):=(blk_cell BK581.out 1).trans rfl;have hcz58_2:w57.cell? ⟨gb581,2,none⟩=some (.int .i64 a0_2):=(blk_cell BK581.out 2).trans rfl;have hcz58_3:w57.cell? ⟨gb581,3,none⟩=some (.int .i64 a0_3):=(blk_cell BK581.out 3).trans rfl;have hcz58_4:w57.cell? ⟨gb581,4,none⟩=some (.slice A0_4 l0_4.length c0_4):=(blk_cell BK581.out 4).trans rfl;have hcz58_5:w57.cell? ⟨gb581,5,none⟩=some (.slice A0_5 l0_5.length c0_5):=(blk_cell BK581.out 5).trans rfl;have hcz58_6:w57.cell? ⟨gb581,6,none⟩=some (.slice A0_6 l0_6.length c0_6):=(blk_cell BK581.out 6).trans rfl;have hfz58_0:=blk_frozen BK581.out 0;have hfz58_1:=blk_frozen BK581.out 1;have hfz58_2:=blk_frozen BK581.out 2;have hfz58_3:=blk_frozen BK581.out 3;have hfz58_4:=blk_frozen BK581.out 4;have hfz58_5:=blk_frozen BK581.out 5;have hfz58_6:=blk_frozen BK581.out 6))
   go_ret
   exact ⟨by first|rfl|(simp [errW_none,errW_some] <;> rfl)|(simp [*,errW_none,errW_some] <;> rfl),by repeat (first|(with_reducible first|exact HB.out|apply zlA|apply zlN|apply zlD|refine zlS ?_ GE581.out)|exact HB.out)⟩
end Go.Proofs.Ytkhbmgclklmimaa.Print
end
