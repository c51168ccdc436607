/- Texts of the proof of PoolTells, part 14. -/
import Derived.Test.YtlegmnpngcadhaaPoolTellsMA
import Derived.Test.YtlegmnpngcadhaaPoolTellsM13
import Derived.RangeFuncNested
import Derived.RangeFuncBox
import Derived.RangeFuncLeaves
import Derived.Shelf.Abstract
import Derived.WalkKit
import Derived.OwnWalkIn
import Derived.TacticsInMore
import Derived.LoopNIn
import Derived.LoopIn
import Derived.Stop.RegionWithIn
import Derived.Maps.AppendAt
section
namespace Go.Proofs.Ytlegmnpngcadhaa.Print
open Go.RowKit Go.Proofs.YtlegmnpngcadhaaW.PrintWords Go.Proofs.YtlegmnpngcadhaaW.PrintLast Go.Proofs.YtlegmnpngcadhaaW.PrintMore
attribute [local go_sem] max2_int min2_int max_two min_two max_three min_three max_four min_four   -- for this text's walks alone
attribute [local go_sem ↓] Go.Proofs.Ytlegmnpngcadhaa.Sem.isSome_setCell
attribute [local go_sem] Go.Instr.field Go.asAgg
set_option linter.unusedVariables false
set_option linter.unusedSimpArgs false
def pool_turned.f (l0_0:List Int) (l0_1:List Int) (a1:Int) (a2:Int) (a3:Int):Option (List Int × List Int):=(pool_Clone.f l0_0 l0_1).bind fun bt187=>(if 0≤a1 then (if a1 < (bt187.1.length:Int) then (if a1 < (bt187.2.length:Int) then (some ((bt187.1.set (a1:Int).toNat a2),(bt187.2.set (a1:Int).toNat (mn (wrap64 ((rd bt187.2 a1) + a3)) 16777215)))) else (none)) else (none)) else (none))
def pool_turned.T3:Bool × List (List Nat × List Nat):=(true,[([],[]),([0],[0]),([],[]),([],[]),([3],[3]),([],[]),([4,5],[4,5]),([6],[6]),([],[]),([7,8],[7,8]),([9],[9]),([1,2,0,1,2,3,4,5,6,7,8,9,10],[1,2]),([11,10,0,1,2,3,4,5,6,7,8,9,10],[10,11])])
def pool_turned.B3:List Nat:=[0,1,0,0,8,0,56,120,0,504,1016,2047,4095]
theorem pool_turned.tab3:rtab .any (opsOf Try.f43 3)=pool_turned.T3:=by kernel_rfl
theorem pool_turned.bits3:waitsOk pool_turned.T3.2 pool_turned.B3=true:=by kernel_rfl
set_option maxHeartbeats 8000000 in
set_option maxRecDepth 100000 in
theorem pool_turned.calls (A0_0:Option Addr) (c0_0:Nat) (l0_0:List Int) (A0_1:Option Addr) (c0_1:Nat) (l0_1:List Int) (a1:Int) (a2:Int) (a3:Int) (r1:List Int) (r2:List Int) (w:World) (hr0_0:Kd.C (Kd.int .i64) w A0_0 l0_0.length l0_0) (hc0_0:l0_0.length≤c0_0) (hr0_1:Kd.C (Kd.int .i64) w A0_1 l0_1.length l0_1) (hc0_1:l0_1.length≤c0_1) (h:pool_turned.f l0_0 l0_1 a1 a2 a3=some (r1,r2)) :
  Calls Try.prog 43 #[.agg #[.slice A0_0 l0_0.length c0_0,.slice A0_1 l0_1.length c0_1],.int .i64 a1,.int .i64 a2,.int .i64 a3] w fun e w'=>∃ v0_ v1_:Value,e=.returned (.agg #[v0_,v1_])∧Kd.R (Kd.int .i64) 3 w' w.heap.size (fun _=>True) v0_ r1∧Kd.R (Kd.int .i64) 2 w' w.heap.size (fun _=>True) v1_ r2∧Below w.heap.size w w':=by
 have hu25:=Try.underlying25
 have HR0_0:=zm hr0_0
 have HC0_0:=zm hc0_0
 clear hr0_0 hc0_0
 have HR0_1:=zm hr0_1
 have HC0_1:=zm hc0_1
 clear hr0_1 hc0_1
 have HB:=zm (Below.refl w.heap.size w)
 have H:((pool_Clone.f l0_0 l0_1).bind fun bt187=>(if 0≤a1 then (if a1 < (bt187.1.length:Int) then (if a1 < (bt187.2.length:Int) then (some ((bt187.1.set (a1:Int).toNat a2),(bt187.2.set (a1:Int).toNat (mn (wrap64 ((rd bt187.2 a1) + a3)) 16777215)))) else (none)) else (none)) else (none)))=some (r1,r2):=h
 clear h
 replace H:=Option.bind_eq_some_iff.mp H
 obtain ⟨⟨t187,t190⟩,A50,H⟩:=H
 replace H:(if 0≤a1 then (if a1 < (t187.length:Int) then (if a1 < (t190.length:Int) then (some ((t187.set (a1:Int).toNat a2),(t190.set (a1:Int).toNat (mn (wrap64 ((rd t190 a1) + a3)) 16777215)))) else (none)) else (none)) else (none))=some (r1,r2):=H
 have A5:=zm A50
 clear A50
 by_cases c6:0≤a1
 ·rw [if_pos c6] at H
  have c6b0:decide (0≤a1)=true:=decide_eq_true c6
  clear c6
  by_cases c7:a1 < (t187.length:Int)
  ·rw [if_pos c7] at H
   have c7b0:decide (a1 < (t187.length:Int))=true:=decide_eq_true c7
   clear c7
   obtain ⟨y194,hy194⟩:∃ y_:List Int,y_=(t187.set (a1:Int).toNat a2):=⟨_,rfl⟩
   replace H:(if a1 < (t190.length:Int) then (some (y194,(t190.set (a1:Int).toNat (mn (wrap64 ((rd t190 a1) + a3)) 16777215)))) else (none))=some (r1,r2):=by first|(rw [hy194];with_reducible exact H)|(have H2_:=(Option.bind_some _ _).symm.trans H;rw [hy194];with_reducible exact H2_)|(have H2_:=(Option.bind_some _ _).symm.trans H;with_reducible exact H2_)|with_reducible exact H|(rw [hy194];exact H)|exact H
   have Ny194:=zm hy194
   clear hy194
   by_cases c9:a1 < (t190.length:Int)
   ·rw [if_pos c9] at H
    have c9b0:decide (a1 < (t190.length:Int))=true:=decide_eq_true c9
    clear c9
    obtain ⟨ji10,hji10⟩:∃ j_:Int,(mn (wrap64 ((rd t190 a1) + a3)) 16777215)=j_:=⟨_,rfl⟩
    replace H:(some (y194,(t190.set (a1:Int).toNat (ji10))))=some (r1,r2):=by first|(rw [hji10] at H;exact H)|(simp only [hji10] at H ⊢;exact H)
    (try rw [hji10] at A5)
    (try (have hji10h:ji10≤16777215:=by (rw [← hji10];unfold mn;(repeat' split) <;> omega)))
    (try (have hji10g:ji10≤64:=by omega))
    have hji10_:(if 16777215 < (wrap64 ((rd t190 a1) + a3)) then 16777215 else (wrap64 ((rd t190 a1) + a3)))=ji10:=hji10
    obtain ⟨y196,hy196⟩:∃ y_:List Int,y_=(t190.set (a1:Int).toNat (ji10)):=⟨_,rfl⟩
    replace H:(some (y194,y196))=some (r1,r2):=by first|(rw [hy196];with_reducible exact H)|(have H2_:=(Option.bind_some _ _).symm.trans H;rw [hy196];with_reducible exact H2_)|(have H2_:=(Option.bind_some _ _).symm.trans H;with_reducible exact H2_)|with_reducible exact H|(rw [hy196];exact H)|exact H
    have Ny196:=zm hy196
    clear hy196
    simp only [Option.some.injEq,Prod.mk.injEq] at H
    obtain ⟨rfl,rfl⟩:=H
    go_enter Try.func43,Try.ntmps43
    try go_wp2_with (first|((with_reducible refine gate_dst (N:=4) rfl ?_);refine box_event ?hg (N:=4) ?hd (cs:=#[.slice A0_0 l0_0.length c0_0,.slice A0_1 l0_1.length c0_1]) (t:=25) ?hr ?_;(case hd=>rfl);(case hg=>rfl);(case hr=>first|(go_simp;done)|(go_simp;rfl));intro gb185 hg w12 hbox hb;have n0_:=zm (below_step (by repeat (first|(with_reducible first|exact HB.out|apply zlA|apply zlN|apply zlD)|exact HB.out)) hb);have n1_:=zm (hbox);have n2_:=zm ((by rw [hg];exact (below_size (by repeat (first|(with_reducible first|exact HB.out|apply zlA|apply zlN|apply zlD)|exact HB.out))):w.heap.size≤gb185));have n3_:=zm ((by rw [hg];exact (below_size (by repeat (first|(with_reducible first|exact HB.out|apply zlA|apply zlN|apply zlD)|exact HB.out))):w.heap.size≤gb185));clear HB;have HB:=n0_;have BK185:=n1_;have GW185:=n2_;have GE185:=n3_;clear n0_ n1_ n2_ n3_;clear hb hbox hg)|((with_reducible refine gate_dst (N:=8) rfl ?_);refine box_event ?hg (N:=8) ?hd (cs:=#[.slice none 0 0,.slice none 0 0]) (t:=25) ?hr ?_;(case hd=>rfl);(case hg=>rfl);(case hr=>first|(go_simp;done)|(go_simp;rfl));intro gb186 hg w13 hbox hb;have n0_:=zm (zbB (g:=gb185) (o:=.cells #[.slice A0_0 l0_0.length c0_0,.slice A0_1 l0_1.length c0_1] 25 (0,0)) (by (with_reducible repeat (first|refine zbN ?_ _|refine zbD ?_|refine zbA ?_ _));exact BK185.out) hb);have n1_:=zm (below_step (by repeat (first|(with_reducible first|exact HB.out|apply zlA|apply zlN|apply zlD|refine zlS ?_ GE185.out)|exact HB.out)) hb);have n2_:=zm (hbox);have n3_:=zm ((by rw [hg];exact (below_size (by repeat (first|(with_reducible first|exact HB.out|apply zlA|apply zlN|apply zlD|refine zlS ?_ GE185.out)|exact HB.out))):w.heap.size≤gb186));have n4_:=zm ((by rw [hg];exact (below_size (by repeat (first|(with_reducible first|exact HB.out|apply zlA|apply zlN|apply zlD|refine zlS ?_ GE185.out)|exact HB.out))):w.heap.size≤gb186));have n5_:=zm ((by rw [hg];exact Nat.ne_of_lt (blk_lt (g:=gb185) (o:=.cells #[.slice A0_0 l0_0.length c0_0,.slice A0_1 l0_1.length c0_1] 25 (0,0)) (by (with_reducible repeat (first|refine zbN ?_ _|refine zbD ?_|refine zbA ?_ _));exact BK185.out)):gb185≠gb186));have n6_:=zm ((by rw [hg];exact Nat.ne_of_gt (blk_lt (g:=gb185) (o:=.cells #[.slice A0_0 l0_0.length c0_0,.slice A0_1 l0_1.length c0_1] 25 (0,0)) (by (with_reducible repeat (first|refine zbN ?_ _|refine zbD ?_|refine zbA ?_ _));exact BK185.out)):gb186≠gb185));clear BK185 HB;have BK185:=n0_;have HB:=n1_;have BK186:=n2_;have GW186:=n3_;have GE186:=n4_;have NB185_186:=n5_;have NB186_185:=n6_;clear n0_ n1_ n2_ n3_ n4_ n5_ n6_;clear hb hbox hg;have hnb14:=NB185_186.out;have hnc14:=NB186_185.out;have hcz15_0:w13.cell? ⟨gb185,0,none⟩=some (.slice A0_0 l0_0.length c0_0):=(blk_cell BK185.out 0).trans rfl;have hcz15_1:w13.cell? ⟨gb185,1,none⟩=some (.slice A0_1 l0_1.length c0_1):=(blk_cell BK185.out 1).trans rfl;have hfz15_0:=blk_frozen BK185.out 0;have hfz15_1:=blk_frozen BK185.out 1)|((with_reducible refine gate_callee (f:=34) rfl ?_);refine goesL_ (some 11) rfl rfl Try.func34 (by kernel_rfl) rfl #[.agg #[.slice A0_0 l0_0.length c0_0,.slice A0_1 l0_1.length c0_1]] rfl (by (try simp only [List.map_toArray,List.map_cons,List.map_nil]);first|done|rfl|(simp only [List.length_drop,List.length_take];rfl)) ?_;(with_reducible refine (pool_Clone.calls _ _ l0_0 _ _ l0_1 t187 t190 _ ?side1 ?side2 ?side3 ?side4 A5.out).mono ?_);(case side1=>repeat (first|exact (Kd.C_below HR0_0.out HB.out)|(with_reducible refine Kd.C_alloc ?_ _)|(with_reducible refine Kd.C_drewN ?_ _)|(with_reducible refine Kd.C_drew ?_)));(case side2=>exact HC0_0.out);(case side3=>repeat (first|exact (Kd.C_below HR0_1.out HB.out)|(with_reducible refine Kd.C_alloc ?_ _)|(with_reducible refine Kd.C_drewN ?_ _)|(with_reducible refine Kd.C_drew ?_)));(case side4=>exact HC0_1.out);rintro e w16 ⟨v188,v191,rfl,ho0,ho1,hb⟩;refine ⟨_,rfl,?_⟩;have n0_:=zm (Kd.R_lower ho0 (below_size (by repeat (first|(with_reducible first|exact HB.out|apply zlA|apply zlN|apply zlD|refine zlS ?_ GE185.out|refine zlS ?_ GE186.out)|exact HB.out))));have n1_:=zm (Kd.R_lower ho1 (below_size (by repeat (first|(with_reducible first|exact HB.out|apply zlA|apply zlN|apply zlD|refine zlS ?_ GE185.out|refine zlS ?_ GE186.out)|exact HB.out))));have n2_:=zm (zbB (g:=gb185) (o:=.cells #[.slice A0_0 l0_0.length c0_0,.slice A0_1 l0_1.length c0_1] 25 (0,0)) (by (with_reducible repeat (first|refine zbN ?_ _|refine zbD ?_|refine zbA ?_ _));exact BK185.out) hb);have n3_:=zm (zbB (g:=gb186) (o:=.cells #[.slice none 0 0,.slice none 0 0] 25 (0,0)) (by (with_reducible repeat (first|refine zbN ?_ _|refine zbD ?_|refine zbA ?_ _));exact BK186.out) hb);have n4_:=zm (below_step (by repeat (first|(with_reducible first|exact HB.out|apply zlA|apply zlN|apply zlD|refine zlS ?_ GE185.out|refine zlS ?_ GE186.out)|exact HB.out)) hb);clear BK185 BK186 HB;have HO189:=n0_;have HO192:=n1_;have BK185:=n2_;have BK186:=n3_;have HB:=n4_;clear n0_ n1_ n2_ n3_ n4_;(try clear hb);(try clear hb2);(try clear hk);(try clear hi);(try clear ho0);(try clear ho1))|((with_reducible refine gate_dst (N:=9) rfl ?_);refine box_event ?hg (N:=9) ?hd (cs:=#[.slice none 0 0,.slice none 0 0]) (t:=25) ?hr ?_;(case hd=>rfl);(case hg=>rfl);(case hr=>first|(go_simp;done)|(go_simp;rfl));intro gb193 hg w17 hbox hb;have n0_:=zm (Kd.R_below (by (with_reducible repeat (first|apply zrA|apply zrN|apply zrD));exact HO189.out) hb);have n1_:=zm (Kd.R_below (by (with_reducible repeat (first|apply zrA|apply zrN|apply zrD));exact HO192.out) hb);have n2_:=zm (zbB (g:=gb185) (o:=.cells #[.slice A0_0 l0_0.length c0_0,.slice A0_1 l0_1.length c0_1] 25 (0,0)) (by (with_reducible repeat (first|refine zbN ?_ _|refine zbD ?_|refine zbA ?_ _));exact BK185.out) hb);have n3_:=zm (zbB (g:=gb186) (o:=.cells #[.slice none 0 0,.slice none 0 0] 25 (0,0)) (by (with_reducible repeat (first|refine zbN ?_ _|refine zbD ?_|refine zbA ?_ _));exact BK186.out) hb);have n4_:=zm (below_step (by repeat (first|(with_reducible first|exact HB.out|apply zlA|apply zlN|apply zlD|refine zlS ?_ GE185.out|refine zlS ?_ GE186.out)|exact HB.out)) hb);have n5_:=zm (hbox);have n6_:=zm ((by rw [hg];exact (below_size (by repeat (first|(with_reducible first|exact HB.out|apply zlA|apply zlN|apply zlD|refine zlS ?_ GE185.out|refine zlS ?_ GE186.out)|exact HB.out))):w.heap.size≤gb193));have n7_:=zm ((by rw [hg];exact (below_size (by repeat (first|(with_reducible first|exact HB.out|apply zlA|apply zlN|apply zlD|refine zlS ?_ GE185.out|refine zlS ?_ GE186.out)|exact HB.out))):w.heap.size≤gb193));have n8_:=zm ((by rw [hg];exact Nat.ne_of_lt (blk_lt (g:=gb185) (o:=.cells #[.slice A0_0 l0_0.length c0_0,.slice A0_1 l0_1.length c0_1] 25 (0,0)) (by (with_reducible repeat (first|refine zbN ?_ _|refine zbD ?_|refine zbA ?_ _));exact BK185.out)):gb185≠gb193));have n9_:=zm ((by rw [hg];exact Nat.ne_of_gt (blk_lt (g:=gb185) (o:=.cells #[.slice A0_0 l0_0.length c0_0,.slice A0_1 l0_1.length c0_1] 25 (0,0)) (by (with_reducible repeat (first|refine zbN ?_ _|refine zbD ?_|refine zbA ?_ _));exact BK185.out)):gb193≠gb185));have n10_:=zm ((by rw [hg];exact Nat.ne_of_lt (blk_lt (g:=gb186) (o:=.cells #[.slice none 0 0,.slice none 0 0] 25 (0,0)) (by (with_reducible repeat (first|refine zbN ?_ _|refine zbD ?_|refine zbA ?_ _));exact BK186.out)):gb186≠gb193));have n11_:=zm ((by rw [hg];exact Nat.ne_of_gt (blk_lt (g:=gb186) (o:=.cells #[.slice none 0 0,.slice none 0 0] 25 (0,0)) (by (with_reducible repeat (first|refine zbN ?_ _|refine zbD ?_|refine zbA ?_ _));exact BK186.out)):gb193≠gb186));clear HO189 HO192 BK185 BK186 HB;have HO189:=n0_;have HO192:=n1_;have BK185:=n2_;have BK186:=n3_;have HB:=n4_;have BK193:=n5_;have GW193:=n6_;have GE193:=n7_;have NB185_193:=n8_;have NB193_185:=n9_;have NB186_193:=n10_;have NB193_186:=n11_;clear n0_ n1_ n2_ n3_ n4_ n5_ n6_ n7_ n8_ n9_ n10_ n11_;clear hb hbox hg;obtain ⟨Ao18,co18,eo18⟩:=Kd.R_slice HO189.out;subst eo18;have hnb19:=NB193_185.out;have hnc19:=NB185_193.out;have hnb20:=NB193_186.out;have hnc20:=NB186_193.out;have hcz21_0:w17.cell? ⟨gb193,0,none⟩=some (.slice none 0 0):=(blk_cell BK193.out 0).trans rfl;have hcz21_1:w17.cell? ⟨gb193,1,none⟩=some (.slice none 0 0):=(blk_cell BK193.out 1).trans rfl;have hfz21_0:=blk_frozen BK193.out 0;have hfz21_1:=blk_frozen BK193.out 1;obtain ⟨Ao22,co22,eo22⟩:=Kd.R_slice HO192.out;subst eo22)|((with_reducible refine gate_store (t:=25) (p:=9) rfl ?_);refine store_event (t:=25) (p:=9) (v:=?vo_w23) (w1:=((w17.setCell ⟨gb193,0,none⟩ (.slice Ao18 t187.length co18)).setCell ⟨gb193,1,none⟩ (.slice Ao22 t190.length co22))) ?hg ?ho ?hn ?hr ?_;(case ho=>rfl);(case hg=>rfl);(case hn=>rfl);(case hr=>first|(go_simp;done)|(go_simp;rfl));intro w23 hw;have n0_:Aside0 (Kd.R (Kd.int .i64) 3 w23 w.heap.size (fun _=>True) (.slice Ao18 t187.length co18) t187):=⟨(by rw [hw];exact (by (with_reducible repeat (first|apply zrA|apply zrN|apply zrD));exact Kd.R_mono (Kd.R_far (p:=⟨gb193,1,none⟩) (Kd.R_far (p:=⟨gb193,0,none⟩) (Kd.R_types HO189.out BK193.out (by decide)) (fun _ hk=>hk.2) (.slice Ao18 t187.length co18)) (fun _ hk=>hk.2) (.slice Ao22 t190.length co22)) (fun _ hk=>trivial)))⟩;have n1_:Aside0 (Kd.R (Kd.int .i64) 2 w23 w.heap.size (fun _=>True) (.slice Ao22 t190.length co22) t190):=⟨(by rw [hw];exact (by (with_reducible repeat (first|apply zrA|apply zrN|apply zrD));exact Kd.R_mono (Kd.R_far (p:=⟨gb193,1,none⟩) (Kd.R_far (p:=⟨gb193,0,none⟩) (Kd.R_types HO192.out BK193.out (by decide)) (fun _ hk=>hk.2) (.slice Ao18 t187.length co18)) (fun _ hk=>hk.2) (.slice Ao22 t190.length co22)) (fun _ hk=>trivial)))⟩;have n2_:Aside0 (w23.heap[gb185]?=some (.cells #[.slice A0_0 l0_0.length c0_0,.slice A0_1 l0_1.length c0_1] 25 (0,0))):=⟨(by rw [hw];exact (by (with_reducible repeat (first|refine zbN ?_ _|refine zbD ?_|refine zbA ?_ _));refine blk_far ?_ NB185_193.out _;(with_reducible repeat (first|refine zbN ?_ _|refine zbD ?_|refine zbA ?_ _));refine blk_far ?_ NB185_193.out _;(with_reducible repeat (first|refine zbN ?_ _|refine zbD ?_|refine zbA ?_ _));exact BK185.out))⟩;have n3_:Aside0 (w23.heap[gb186]?=some (.cells #[.slice none 0 0,.slice none 0 0] 25 (0,0))):=⟨(by rw [hw];exact (by (with_reducible repeat (first|refine zbN ?_ _|refine zbD ?_|refine zbA ?_ _));refine blk_far ?_ NB186_193.out _;(with_reducible repeat (first|refine zbN ?_ _|refine zbD ?_|refine zbA ?_ _));refine blk_far ?_ NB186_193.out _;(with_reducible repeat (first|refine zbN ?_ _|refine zbD ?_|refine zbA ?_ _));exact BK186.out))⟩;have n4_:Aside0 (w23.heap[gb193]?=some (.cells #[.slice Ao18 t187.length co18,.slice Ao22 t190.length co22] 25 (0,0))):=⟨(by rw [hw];exact (by (with_reducible repeat (first|refine zbN ?_ _|refine zbD ?_|refine zbA ?_ _));refine blk_put (cs:=#[.slice Ao18 t187.length co18,.slice none 0 0]) ?_ 1 _ rfl;(with_reducible repeat (first|refine zbN ?_ _|refine zbD ?_|refine zbA ?_ _));refine blk_put (cs:=#[.slice none 0 0,.slice none 0 0]) ?_ 0 _ rfl;(with_reducible repeat (first|refine zbN ?_ _|refine zbD ?_|refine zbA ?_ _));exact BK193.out))⟩;have n5_:Aside0 (Below w.heap.size w w23):=⟨(by rw [hw];exact (by repeat (first|(with_reducible first|exact HB.out|apply zlA|apply zlN|apply zlD|refine zlS ?_ GE185.out|refine zlS ?_ GE186.out|refine zlS ?_ GE193.out)|exact HB.out)))⟩;clear hw HO189 HO192 BK185 BK186 BK193 HB;have HO189:=n0_;have HO192:=n1_;have BK185:=n2_;have BK186:=n3_;have BK193:=n4_;have HB:=n5_;clear n0_ n1_ n2_ n3_ n4_ n5_;have hcz24_0:w23.cell? ⟨gb193,0,none⟩=some (.slice Ao18 t187.length co18):=(blk_cell BK193.out 0).trans rfl;have hcz24_1:w23.cell? ⟨gb193,1,none⟩=some (.slice Ao22 t190.length co22):=(blk_cell BK193.out 1).trans rfl;have hfz24_0:=blk_frozen BK193.out 0;have hfz24_1:=blk_frozen BK193.out 1;have p8:0≤(a1:Int):=of_decide_eq_true (by first|(with_reducible assumption)|assumption);have q8:(a1:Int) < ((t187.length:Int):Int):=of_decide_eq_true (by first|(with_reducible assumption)|assumption);obtain ⟨go8,co8,eo8,gb8,gl8,cl8,HG8⟩:=Kd.R_form HO189.out (by omega);(first|cases eo8|(injection eo8 with ea_ en_ ec_;(first|subst ea_|(injection ea_ with ea_;subst ea_));subst ec_;clear en_));have GB8:=zm gb8;have GG8:=zm HG8;clear gb8 gl8 HG8;obtain ⟨hx8_0,hf8_0⟩:=Kd.R_celln 0 HO189.out (a1:Int) p8 q8;replace p8:=eq_true p8;replace q8:=eq_true q8;obtain ⟨hy25_,hz25_⟩:=Kd.R_celln 0 HO189.out (a1:Int) (of_decide_eq_true (by first|(with_reducible assumption)|assumption)) (of_decide_eq_true (by first|(with_reducible assumption)|assumption));have HP25:=Kd.R_putg HO189.out (a1:Int) a2)|((with_reducible refine gate_store (t:=3) (p:=16) rfl ?_);refine store_event (t:=3) (p:=16) (v:=?vo_w26) (w1:=(w23.setCell ⟨go8,(a1:Int).toNat,none⟩ (.int .i64 a2))) ?hg ?ho ?hn ?hr ?_;(case ho=>rfl);(case hg=>rfl);(case hn=>rfl);(case hr=>first|(go_simp;done)|(go_simp;rfl));intro w26 hw;have hg:w23.grownBy w26 (some go8):=(by rw [hw];exact HP25.2);have hp_:Kd.R (Kd.int .i64) 3 w26 w.heap.size (fun _=>True) (.slice (some ⟨go8,0,none⟩) t187.length co18) y194:=(by rw [hw,Ny194.out];exact HP25.1);clear HP25;have n0_:=zm (blk_grown (g:=gb185) (o:=.cells #[.slice A0_0 l0_0.length c0_0,.slice A0_1 l0_1.length c0_1] 25 (0,0)) (by (with_reducible repeat (first|refine zbN ?_ _|refine zbD ?_|refine zbA ?_ _));exact BK185.out) hg (Kd.R_ne HO189.out BK185.out (by decide)));have n1_:=zm (blk_grown (g:=gb186) (o:=.cells #[.slice none 0 0,.slice none 0 0] 25 (0,0)) (by (with_reducible repeat (first|refine zbN ?_ _|refine zbD ?_|refine zbA ?_ _));exact BK186.out) hg (Kd.R_ne HO189.out BK186.out (by decide)));have n2_:=zm (hp_);have n3_:=zm (Kd.R_over' (v:=(.slice (some ⟨go8,0,none⟩) t187.length co18)) (by (with_reducible repeat (first|apply zrA|apply zrN|apply zrD));exact HO192.out) (Kd.R_typed HO189.out) (by decide) hg);have n4_:=zm (blk_grown (g:=gb193) (o:=.cells #[.slice (some ⟨go8,0,none⟩) t187.length co18,.slice Ao22 t190.length co22] 25 (0,0)) (by (with_reducible repeat (first|refine zbN ?_ _|refine zbD ?_|refine zbA ?_ _));exact BK193.out) hg (Kd.R_ne HO189.out BK193.out (by decide)));have n5_:=zm ((by rw [hw];exact zlS (HB.out) GB8.out:Below w.heap.size w w26));clear BK185 BK186 HO189 HO192 BK193 HB;have BK185:=n0_;have BK186:=n1_;have HO189:=n2_;have HO192:=n3_;have BK193:=n4_;have HB:=n5_;clear n0_ n1_ n2_ n3_ n4_ n5_;clear hg hw hp_))
    have n0_:=zm (zrD HO189.out)
    have n1_:=zm (zrD HO192.out)
    have n2_:=zm (zbD BK185.out)
    have n3_:=zm (zbD BK186.out)
    have n4_:=zm (zbD BK193.out)
    have n5_:=zm (zlD HB.out)
    clear HO189 HO192 BK185 BK186 BK193 HB
    have HO189:=n0_
    have HO192:=n1_
    have BK185:=n2_
    have BK186:=n3_
    have BK193:=n4_
    have HB:=n5_
    clear n0_ n1_ n2_ n3_ n4_ n5_
    have p195:0≤(a1:Int):=of_decide_eq_true (by first|(with_reducible assumption)|assumption)
    have q195:a1 < (t190.length:Int):=of_decide_eq_true (by first|(with_reducible assumption)|assumption)
    obtain ⟨ad195,e195,hx195_0⟩:=Kd.at_int (Kd.R_reads' HO192.out).2.2 a1 p195 q195
    cases e195
    replace p195:=eq_true p195
    replace q195:=eq_true q195
    have p11:0≤(a1:Int):=of_decide_eq_true (by first|(with_reducible assumption)|assumption)
    have q11:(a1:Int) < ((t190.length:Int):Int):=of_decide_eq_true (by first|(with_reducible assumption)|assumption)
    obtain ⟨go11,co11,eo11,gb11,gl11,cl11,HG11⟩:=Kd.R_form HO192.out (by omega)
    (first|cases eo11|(injection eo11 with ea_ en_ ec_;(first|subst ea_|(injection ea_ with ea_;subst ea_));subst ec_;clear en_))
    have GB11:=zm gb11
    have GG11:=zm HG11
    clear gb11 gl11 HG11
    (first|simp only [add_plain] at hx195_0|skip)
    obtain ⟨hx11_0,hf11_0⟩:=Kd.R_celln 0 HO192.out (a1:Int) p11 q11
    replace p11:=eq_true p11
    replace q11:=eq_true q11
    have HP28:=Kd.R_putn HO192.out (a1:Int) ji10
    rw [← Ny196.out] at HP28
    have HQ28:=zm HP28
    clear HP28
    refine start_ (n:=13) (S:=fun w'=>w'.cell? ⟨gb193,0,none⟩=some (.slice (some ⟨go8,0,none⟩) t187.length co18)∧w'.cell? ⟨gb193,1,none⟩=some (.slice (some ⟨go11,0,none⟩) t190.length co22)∧w'.cell? ⟨go11,(a1).toNat,none⟩=some (.int .i64 (rd t190 a1))) (ds:=[12]) #[false,false,false,false,false,false,false,false,false,false,false,false,false] (by kernel_rfl) rfl rfl ⟨(blk_cell BK193.out 0).trans rfl,(blk_cell BK193.out 1).trans rfl,hx195_0⟩ (fun hHeld=>?_);refine with_tabW pool_turned.tab3 pool_turned.bits3 (fun HT_ HW_=>?_)
    generalize w26.drew=w27 at HO189 HO192 BK185 BK186 BK193 HB GG11 HQ28 hf11_0 hx11_0 hx195_0 hHeld ⊢
    refine pure_ (i:=0) (N:=some 17) (v:=?_) (a':=?_) #[true,false,false,false,false,false,false,false,false,false,false,false,false] rfl rfl (any_of HT_.out (by kernel_rfl)) (fun _ _ _ h=>h) (Or.inl ⟨by rfl,?_⟩) ?_ ?_
    rotate_left
    ·intro w'
     go_simp
     with_reducible rfl
    rotate_left
    ·simp only [Act.put,List.setIfInBounds_toArray,List.set_cons_zero,List.set_cons_succ,i64_w,i32_w]
     rfl
    refine pure_ (i:=2) (N:=some 19) (v:=?_) (a':=?_) #[true,false,true,false,false,false,false,false,false,false,false,false,false] rfl rfl (any_of HT_.out (by kernel_rfl)) (fun _ _ _ h=>h) (Or.inl ⟨by rfl,?_⟩) ?_ ?_
    rotate_left
    ·intro w'
     go_simp
     with_reducible rfl
    rotate_left
    ·simp only [Act.put,List.setIfInBounds_toArray,List.set_cons_zero,List.set_cons_succ,i64_w,i32_w]
     rfl
    refine pure_ (i:=3) (N:=some 20) (v:=?_) (a':=?_) #[true,false,true,true,false,false,false,false,false,false,false,false,false] rfl rfl (any_of HT_.out (by kernel_rfl)) (fun _ _ _ h=>h) (Or.inl ⟨by rfl,?_⟩) ?_ ?_
    rotate_left
    ·intro w'
     go_simp
     with_reducible rfl
    rotate_left
    ·simp only [Act.put,List.setIfInBounds_toArray,List.set_cons_zero,List.set_cons_succ,i64_w,i32_w]
     rfl
    refine pure_ (i:=5) (N:=some 22) (v:=?_) (a':=?_) #[true,false,true,true,false,true,false,false,false,false,false,false,false] rfl rfl (any_of HT_.out (by kernel_rfl)) (fun _ _ _ h=>h) (Or.inl ⟨by rfl,?_⟩) ?_ ?_
    rotate_left
    ·intro w'
     go_simp
     with_reducible rfl
    rotate_left
    ·simp only [Act.put,List.setIfInBounds_toArray,List.set_cons_zero,List.set_cons_succ,i64_w,i32_w]
     rfl
    refine pure_ (i:=8) (N:=some 25) (v:=?_) (a':=?_) #[true,false,true,true,false,true,false,false,true,false,false,false,false] rfl rfl (any_of HT_.out (by kernel_rfl)) (fun _ _ _ h=>h) (Or.inl ⟨by rfl,?_⟩) ?_ ?_
    rotate_left
    ·intro w'
     go_simp
     with_reducible rfl
    rotate_left
    ·simp only [Act.put,List.setIfInBounds_toArray,List.set_cons_zero,List.set_cons_succ,i64_w,i32_w]
     rfl
    refine take_ (i:=1) (N:=some 18) (v:=?_) (a':=?_) #[true,true,true,true,false,true,false,false,true,false,false,false,false] rfl rfl (take_ofW HT_.out HW_.out (by kernel_rfl)) (fun _ _ _ h=>h) (Or.inl ⟨by rfl,?_⟩) hHeld ?_ ?_
    rotate_left
    ·rintro w' ⟨s0,s1,s2⟩
     go_simp
     with_reducible rfl
    rotate_left
    ·simp only [Act.put,List.setIfInBounds_toArray,List.set_cons_zero,List.set_cons_succ,i64_w,i32_w]
     rfl
    refine take_ (i:=4) (N:=some 21) (v:=?_) (a':=?_) #[true,true,true,true,true,true,false,false,true,false,false,false,false] rfl rfl (take_ofW HT_.out HW_.out (by kernel_rfl)) (fun _ _ _ h=>h) (Or.inl ⟨by rfl,?_⟩) hHeld ?_ ?_
    rotate_left
    ·rintro w' ⟨s0,s1,s2⟩
     go_simp
     with_reducible rfl
    rotate_left
    ·simp only [Act.put,List.setIfInBounds_toArray,List.set_cons_zero,List.set_cons_succ,i64_w,i32_w]
     rfl
    refine pure_ (i:=6) (N:=some 23) (v:=?_) (a':=?_) #[true,true,true,true,true,true,true,false,true,false,false,false,false] rfl rfl (any_of HT_.out (by kernel_rfl)) (fun _ _ _ h=>h) (Or.inl ⟨by rfl,?_⟩) ?_ ?_
    rotate_left
    ·intro w'
     go_simp
     with_reducible rfl
    rotate_left
    ·simp only [Act.put,List.setIfInBounds_toArray,List.set_cons_zero,List.set_cons_succ,i64_w,i32_w]
     rfl
    refine take_ (i:=7) (N:=some 24) (v:=?_) (a':=?_) #[true,true,true,true,true,true,true,true,true,false,false,false,false] rfl rfl (take_ofW HT_.out HW_.out (by kernel_rfl)) (fun _ _ _ h=>h) (Or.inl ⟨by rfl,?_⟩) hHeld ?_ ?_
    rotate_left
    ·rintro w' ⟨s0,s1,s2⟩
     go_simp
     with_reducible rfl
    rotate_left
    ·simp only [Act.put,List.setIfInBounds_toArray,List.set_cons_zero,List.set_cons_succ,i64_w,i32_w]
     rfl
    refine pure_ (i:=9) (N:=some 26) (v:=?_) (a':=?_) #[true,true,true,true,true,true,true,true,true,true,false,false,false] rfl rfl (any_of HT_.out (by kernel_rfl)) (fun _ _ _ h=>h) (Or.inl ⟨by rfl,?_⟩) ?_ ?_
    rotate_left
    ·intro w'
     go_simp
     with_reducible rfl
    rotate_left
    ·simp only [Act.put,List.setIfInBounds_toArray,List.set_cons_zero,List.set_cons_succ,i64_w,i32_w]
     rfl
    refine pure_ (i:=10) (N:=some 27) (v:=?_) (a':=?_) #[true,true,true,true,true,true,true,true,true,true,true,false,false] rfl rfl (any_of HT_.out (by kernel_rfl)) (fun _ _ _ h=>h) (Or.inl ⟨by rfl,?_⟩) ?_ ?_
    rotate_left
    ·intro w'
     go_simp
     with_reducible rfl
    rotate_left
    ·simp only [Act.put,List.setIfInBounds_toArray,List.set_cons_zero,List.set_cons_succ,i64_w,i32_w]
     rfl
    refine pure_ (i:=11) (N:=some 28) (v:=?_) (a':=?_) #[true,true,true,true,true,true,true,true,true,true,true,true,false] rfl rfl (any_of HT_.out (by kernel_rfl)) (fun _ _ _ h=>h) (Or.inl ⟨by rfl,?_⟩) ?_ ?_
    rotate_left
    ·intro w'
     go_simp
     with_reducible rfl
    rotate_left
    ·simp only [Act.put,List.setIfInBounds_toArray,List.set_cons_zero,List.set_cons_succ,i64_w,i32_w]
     rfl
    refine last_ (i:=12) (N:=none) #[true,true,true,true,true,true,true,true,true,true,true,true,true] rfl rfl (one_of HT_.out (by kernel_rfl)) (by decide) (fun K hK=>?_)
    refine skip_ (w1:=?_) (by rfl) rfl ?_ ?_
    rotate_left
    ·go_simp
     rfl
    refine hK.out _ _ ?_
    clear hK K
    refine done_ (done_of HT_.out (by kernel_rfl)) ?_
    have n0_:Aside0 (Kd.R (Kd.int .i64) 3 (w27.setCell ⟨go11,(a1:Int).toNat,none⟩ (.int .i64 ji10)) w.heap.size (fun _=>True) (.slice (some ⟨go8,0,none⟩) t187.length co18) y194):=⟨by (with_reducible repeat (first|apply zrA|apply zrN|apply zrD));exact Kd.R_mono (Kd.R_far (p:=⟨go11,(a1:Int).toNat,none⟩) (Kd.R_types HO189.out GG11.out (by decide)) (fun _ hk=>hk.2) (.int .i64 ji10)) (fun _ hk=>trivial)⟩
    have n1_:Aside0 (Kd.R (Kd.int .i64) 2 (w27.setCell ⟨go11,(a1:Int).toNat,none⟩ (.int .i64 ji10)) w.heap.size (fun _=>True) (.slice (some ⟨go11,0,none⟩) t190.length co22) y196):=⟨by (with_reducible repeat (first|apply zrA|apply zrN|apply zrD));exact HQ28.out⟩
    have n2_:Aside0 ((w27.setCell ⟨go11,(a1:Int).toNat,none⟩ (.int .i64 ji10)).heap[gb185]?=some (.cells #[.slice A0_0 l0_0.length c0_0,.slice A0_1 l0_1.length c0_1] 25 (0,0))):=⟨by (with_reducible repeat (first|refine zbN ?_ _|refine zbD ?_|refine zbA ?_ _));refine blk_far ?_ (by have h_:=Kd.R_ne HO192.out BK185.out (by decide);intro e_;exact h_ (by rw [e_];rfl)) _;(with_reducible repeat (first|refine zbN ?_ _|refine zbD ?_|refine zbA ?_ _));exact BK185.out⟩
    have n3_:Aside0 ((w27.setCell ⟨go11,(a1:Int).toNat,none⟩ (.int .i64 ji10)).heap[gb186]?=some (.cells #[.slice none 0 0,.slice none 0 0] 25 (0,0))):=⟨by (with_reducible repeat (first|refine zbN ?_ _|refine zbD ?_|refine zbA ?_ _));refine blk_far ?_ (by have h_:=Kd.R_ne HO192.out BK186.out (by decide);intro e_;exact h_ (by rw [e_];rfl)) _;(with_reducible repeat (first|refine zbN ?_ _|refine zbD ?_|refine zbA ?_ _));exact BK186.out⟩
    have n4_:Aside0 ((w27.setCell ⟨go11,(a1:Int).toNat,none⟩ (.int .i64 ji10)).heap[gb193]?=some (.cells #[.slice (some ⟨go8,0,none⟩) t187.length co18,.slice (some ⟨go11,0,none⟩) t190.length co22] 25 (0,0))):=⟨by (with_reducible repeat (first|refine zbN ?_ _|refine zbD ?_|refine zbA ?_ _));refine blk_far ?_ (by have h_:=Kd.R_ne HO192.out BK193.out (by decide);intro e_;exact h_ (by rw [e_];rfl)) _;(with_reducible repeat (first|refine zbN ?_ _|refine zbD ?_|refine zbA ?_ _));exact BK193.out⟩
    have n5_:Aside0 (Below w.heap.size w (w27.setCell ⟨go11,(a1:Int).toNat,none⟩ (.int .i64 ji10))):=⟨by repeat (first|(with_reducible first|exact HB.out|apply zlA|apply zlN|apply zlD|refine zlS ?_ GB11.out|refine zlS ?_ GE185.out|refine zlS ?_ GE186.out|refine zlS ?_ GE193.out)|exact HB.out)⟩
    (try clear HO189)
    (try clear HO192)
    (try clear BK185)
    (try clear BK186)
    (try clear BK193)
    (try clear HB)
    generalize (w27.setCell ⟨go11,(a1:Int).toNat,none⟩ (.int .i64 ji10))=w29 at n0_ n1_ n2_ n3_ n4_ n5_ ⊢
    have HO189:=n0_
    have HO192:=n1_
    have BK185:=n2_
    have BK186:=n3_
    have BK193:=n4_
    have HB:=n5_
    clear n0_ n1_ n2_ n3_ n4_ n5_
    have hcz30_0:w29.cell? ⟨gb193,0,none⟩=some (.slice (some ⟨go8,0,none⟩) t187.length co18):=(blk_cell BK193.out 0).trans rfl
    have hcz30_1:w29.cell? ⟨gb193,1,none⟩=some (.slice (some ⟨go11,0,none⟩) t190.length co22):=(blk_cell BK193.out 1).trans rfl
    have hfz30_0:=blk_frozen BK193.out 0
    have hfz30_1:=blk_frozen BK193.out 1
    have hcz31_0:w29.cell? ⟨gb186,0,none⟩=some (.slice none 0 0):=(blk_cell BK186.out 0).trans rfl
    have hcz31_1:w29.cell? ⟨gb186,1,none⟩=some (.slice none 0 0):=(blk_cell BK186.out 1).trans rfl
    have hfz31_0:=blk_frozen BK186.out 0
    have hfz31_1:=blk_frozen BK186.out 1
    try go_wp2
    refine bodyPost_ret (results_cell_row rfl _ _ gb186 25 #[.slice (some ⟨go8,0,none⟩) t187.length co18,.slice (some ⟨go11,0,none⟩) t190.length co22] (0,0) _ rfl (by (with_reducible repeat (first|refine zbN ?_ _|refine zbD ?_|refine zbA ?_ _));refine blk_put (cs:=#[.slice (some ⟨go8,0,none⟩) t187.length co18,.slice none 0 0]) ?_ 1 _ rfl;(with_reducible repeat (first|refine zbN ?_ _|refine zbD ?_|refine zbA ?_ _));refine blk_put (cs:=#[.slice none 0 0,.slice none 0 0]) ?_ 0 _ rfl;(with_reducible repeat (first|refine zbN ?_ _|refine zbD ?_|refine zbA ?_ _));exact BK186.out) Try.underlying25 rfl (by kernel_rfl)) rfl ?_
    exact ⟨_,_,by first|rfl|(simp [errW_none,errW_some] <;> rfl)|(simp only [← hji10];first|rfl|(simp [errW_none,errW_some] <;> rfl))|(simp [*,errW_none,errW_some] <;> rfl),by (with_reducible repeat (first|apply zrA|apply zrN|apply zrD));exact Kd.R_mono (Kd.R_far (p:=⟨gb186,1,none⟩) (Kd.R_far (p:=⟨gb186,0,none⟩) (Kd.R_types HO189.out BK186.out (by decide)) (fun _ hk=>hk.2) (.slice (some ⟨go8,0,none⟩) t187.length co18)) (fun _ hk=>hk.2) (.slice (some ⟨go11,0,none⟩) t190.length co22)) (fun _ hk=>trivial),by (with_reducible repeat (first|apply zrA|apply zrN|apply zrD));exact Kd.R_mono (Kd.R_far (p:=⟨gb186,1,none⟩) (Kd.R_far (p:=⟨gb186,0,none⟩) (Kd.R_types HO192.out BK186.out (by decide)) (fun _ hk=>hk.2) (.slice (some ⟨go8,0,none⟩) t187.length co18)) (fun _ hk=>hk.2) (.slice (some ⟨go11,0,none⟩) t190.length co22)) (fun _ hk=>trivial),by repeat (first|(with_reducible first|exact HB.out|apply zlA|apply zlN|apply zlD|refine zlS ?_ GE185.out|refine zlS ?_ GE186.out|refine zlS ?_ GE193.out)|exact HB.out)⟩
   ·rw [if_neg c9] at H
    exact absurd H (by simp)
  ·rw [if_neg c7] at H
   exact absurd H (by simp)
 ·rw [if_neg c6] at H
  exact absurd H (by simp)
def pool_Take.f (k:Nat) (l0_0:List Int) (l0_1:List Int) (a1:Int) (a2:Int):Option (List Int × List Int × Int):=(pool_asks.f k l0_0 l0_1 a1).bind fun t199=>(if t199=0 then ((pool_role.f k a2).bind fun bt200=>(if bt200.2=true then (if 0≤a1 then (if a1 < (l0_0.length:Int) then (if (rd l0_0 a1)=1 then ((pool_turned.f l0_0 l0_1 a1 a2 0).bind fun bt203=>(some (bt203.1,bt203.2,0))) else (some (([]:List Int),([]:List Int),41))) else (none)) else (none)) else (some (([]:List Int),([]:List Int),41)))) else (some (([]:List Int),([]:List Int),t199)))
theorem pool_Take.mono:∀ a0 a1 a2 a3 k,LeO (pool_Take.f k a0 a1 a2 a3) (pool_Take.f (k + 1) a0 a1 a2 a3):=by
 intro a0 a1 a2 a3 k
 unfold pool_Take.f
 repeat' first
   | (with_reducible exact pool_asks.mono _ _ _ _)
   | (with_reducible exact pool_role.mono _ _)
   | (with_reducible exact LeO.refl _)
   | (with_reducible exact LeO.none _)
   | (with_reducible refine LeO.ite ?_ ?_)
   | (with_reducible refine LeO.bind ?_ (fun _=>?_))
   | exact pool_asks.mono _ _ _ _
   | exact pool_role.mono _ _
   | exact LeO.none _
   | refine LeO.ite ?_ ?_
   | refine LeO.bind ?_ (fun _=>?_)
set_option maxHeartbeats 8000000 in
set_option maxRecDepth 100000 in
theorem pool_Take.calls (k:Nat) (A0_0:Option Addr) (c0_0:Nat) (l0_0:List Int) (A0_1:Option Addr) (c0_1:Nat) (l0_1:List Int) (a1:Int) (a2:Int) (r1:List Int) (r2:List Int) (r3:Int) (w:World) (hr0_0:Kd.C (Kd.int .i64) w A0_0 l0_0.length l0_0) (hc0_0:l0_0.length≤c0_0) (hr0_1:Kd.C (Kd.int .i64) w A0_1 l0_1.length l0_1) (hc0_1:l0_1.length≤c0_1) (h:pool_Take.f k l0_0 l0_1 a1 a2=some (r1,r2,r3)) :
  Calls Try.prog 19 #[.agg #[.slice A0_0 l0_0.length c0_0,.slice A0_1 l0_1.length c0_1],.int .i64 a1,.int .i64 a2] w fun e w'=>∃ v0_ v1_:Value,e=.returned (.tuple #[.agg #[v0_,v1_],.int .i64 r3])∧Kd.R (Kd.int .i64) 3 w' w.heap.size (fun _=>True) v0_ r1∧Kd.R (Kd.int .i64) 2 w' w.heap.size (fun _=>True) v1_ r2∧Below w.heap.size w w':=by
 have hu25:=Try.underlying25
 have HR0_0:=zm hr0_0
 have HC0_0:=zm hc0_0
 clear hr0_0 hc0_0
 have HR0_1:=zm hr0_1
 have HC0_1:=zm hc0_1
 clear hr0_1 hc0_1
 have HB:=zm (Below.refl w.heap.size w)
 have H:((pool_asks.f k l0_0 l0_1 a1).bind fun t199=>(if t199=0 then ((pool_role.f k a2).bind fun bt200=>(if bt200.2=true then (if 0≤a1 then (if a1 < (l0_0.length:Int) then (if (rd l0_0 a1)=1 then ((pool_turned.f l0_0 l0_1 a1 a2 0).bind fun bt203=>(some (bt203.1,bt203.2,0))) else (some (([]:List Int),([]:List Int),41))) else (none)) else (none)) else (some (([]:List Int),([]:List Int),41)))) else (some (([]:List Int),([]:List Int),t199))))=some (r1,r2,r3):=h
 clear h
 replace H:=Option.bind_eq_some_iff.mp H
 obtain ⟨t199,A40,H⟩:=H
 replace H:(if t199=0 then ((pool_role.f k a2).bind fun bt200=>(if bt200.2=true then (if 0≤a1 then (if a1 < (l0_0.length:Int) then (if (rd l0_0 a1)=1 then ((pool_turned.f l0_0 l0_1 a1 a2 0).bind fun bt203=>(some (bt203.1,bt203.2,0))) else (some (([]:List Int),([]:List Int),41))) else (none)) else (none)) else (some (([]:List Int),([]:List Int),41)))) else (some (([]:List Int),([]:List Int),t199)))=some (r1,r2,r3):=H
 have A4:=zm A40
 clear A40
 by_cases c5:t199=0
 ·rw [if_pos c5] at H
  have c5b0:(t199 == 0)=true:=beq_iff_eq.mpr c5
  have c5b1:(t199 != 0)=false:=bne_eq_false_iff_eq.mpr c5
  clear c5
  replace H:=Option.bind_eq_some_iff.mp H
  obtain ⟨⟨t200,t201⟩,A60,H⟩:=H
  replace H:(if t201=true then (if 0≤a1 then (if a1 < (l0_0.length:Int) then (if (rd l0_0 a1)=1 then ((pool_turned.f l0_0 l0_1 a1 a2 0).bind fun bt203=>(some (bt203.1,bt203.2,0))) else (some (([]:List Int),([]:List Int),41))) else (none)) else (none)) else (some (([]:List Int),([]:List Int),41)))=some (r1,r2,r3):=H
  have A6:=zm A60
  clear A60
  by_cases c7:t201=true
  ·subst c7
   have H1:(if 0≤a1 then (if a1 < (l0_0.length:Int) then (if (rd l0_0 a1)=1 then ((pool_turned.f l0_0 l0_1 a1 a2 0).bind fun bt203=>(some (bt203.1,bt203.2,0))) else (some (([]:List Int),([]:List Int),41))) else (none)) else (none))=some (r1,r2,r3):=by rw [if_pos rfl] at H;exact H
   clear H
   have H:=H1
   clear H1
   by_cases c8:0≤a1
   ·rw [if_pos c8] at H
    have c8b0:decide (0≤a1)=true:=decide_eq_true c8
    clear c8
    by_cases c9:a1 < (l0_0.length:Int)
    ·rw [if_pos c9] at H
     have c9b0:decide (a1 < (l0_0.length:Int))=true:=decide_eq_true c9
     clear c9
     by_cases c10:(rd l0_0 a1)=1
     ·rw [if_pos c10] at H
      have c10b0:((rd l0_0 a1) == 1)=true:=beq_iff_eq.mpr c10
      have c10b1:((rd l0_0 a1) != 1)=false:=bne_eq_false_iff_eq.mpr c10
      clear c10
      replace H:=Option.bind_eq_some_iff.mp H
      obtain ⟨⟨t203,t206⟩,A110,H⟩:=H
      replace H:(some (t203,t206,0))=some (r1,r2,r3):=H
      have A11:=zm A110
      clear A110
      simp only [Option.some.injEq,Prod.mk.injEq] at H
      obtain ⟨rfl,rfl,rfl⟩:=H
      go_enter Try.func19,Try.ntmps19
      go_wp2_with (first|((with_reducible refine gate_dst (N:=3) rfl ?_);refine box_event ?hg (N:=3) ?hd (cs:=#[.slice A0_0 l0_0.length c0_0,.slice A0_1 l0_1.length c0_1]) (t:=25) ?hr ?_;(case hd=>rfl);(case hg=>rfl);(case hr=>first|(go_simp;done)|(go_simp;rfl));intro gb197 hg w12 hbox hb;have n0_:=zm (below_step (by repeat (first|(with_reducible first|exact HB.out|apply zlA|apply zlN|apply zlD)|exact HB.out)) hb);have n1_:=zm (hbox);have n2_:=zm ((by rw [hg];exact (below_size (by repeat (first|(with_reducible first|exact HB.out|apply zlA|apply zlN|apply zlD)|exact HB.out))):w.heap.size≤gb197));have n3_:=zm ((by rw [hg];exact (below_size (by repeat (first|(with_reducible first|exact HB.out|apply zlA|apply zlN|apply zlD)|exact HB.out))):w.heap.size≤gb197));clear HB;have HB:=n0_;have BK197:=n1_;have GW197:=n2_;have GE197:=n3_;clear n0_ n1_ n2_ n3_;clear hb hbox hg)|((with_reducible refine gate_dst (N:=6) rfl ?_);refine box_event ?hg (N:=6) ?hd (cs:=#[.slice none 0 0,.slice none 0 0]) (t:=25) ?hr ?_;(case hd=>rfl);(case hg=>rfl);(case hr=>first|(go_simp;done)|(go_simp;rfl));intro gb198 hg w13 hbox hb;have n0_:=zm (zbB (g:=gb197) (o:=.cells #[.slice A0_0 l0_0.length c0_0,.slice A0_1 l0_1.length c0_1] 25 (0,0)) (by (with_reducible repeat (first|refine zbN ?_ _|refine zbD ?_|refine zbA ?_ _));exact BK197.out) hb);have n1_:=zm (below_step (by repeat (first|(with_reducible first|exact HB.out|apply zlA|apply zlN|apply zlD|refine zlS ?_ GE197.out)|exact HB.out)) hb);have n2_:=zm (hbox);have n3_:=zm ((by rw [hg];exact (below_size (by repeat (first|(with_reducible first|exact HB.out|apply zlA|apply zlN|apply zlD|refine zlS ?_ GE197.out)|exact HB.out))):w.heap.size≤gb198));have n4_:=zm ((by rw [hg];exact (below_size (by repeat (first|(with_reducible first|exact HB.out|apply zlA|apply zlN|apply zlD|refine zlS ?_ GE197.out)|exact HB.out))):w.heap.size≤gb198));have n5_:=zm ((by rw [hg];exact Nat.ne_of_lt (blk_lt (g:=gb197) (o:=.cells #[.slice A0_0 l0_0.length c0_0,.slice A0_1 l0_1.length c0_1] 25 (0,0)) (by (with_reducible repeat (first|refine zbN ?_ _|refine zbD ?_|refine zbA ?_ _));exact BK197.out)):gb197≠gb198));have n6_:=zm ((by rw [hg];exact Nat.ne_of_gt (blk_lt (g:=gb197) (o:=.cells #[.slice A0_0 l0_0.length c0_0,.slice A0_1 l0_1.length c0_1] 25 (0,0)) (by (with_reducible repeat (first|refine zbN ?_ _|refine zbD ?_|refine zbA ?_ _));exact BK197.out)):gb198≠gb197));clear BK197 HB;have BK197:=n0_;have HB:=n1_;have BK198:=n2_;have GW198:=n3_;have GE198:=n4_;have NB197_198:=n5_;have NB198_197:=n6_;clear n0_ n1_ n2_ n3_ n4_ n5_ n6_;clear hb hbox hg;have hnb14:=NB197_198.out;have hnc14:=NB198_197.out;have hcz15_0:w13.cell? ⟨gb197,0,none⟩=some (.slice A0_0 l0_0.length c0_0):=(blk_cell BK197.out 0).trans rfl;have hcz15_1:w13.cell? ⟨gb197,1,none⟩=some (.slice A0_1 l0_1.length c0_1):=(blk_cell BK197.out 1).trans rfl;have hfz15_0:=blk_frozen BK197.out 0;have hfz15_1:=blk_frozen BK197.out 1)|((with_reducible refine gate_callee (f:=42) rfl ?_);refine goesL_ (some 13) rfl rfl Try.func42 (by kernel_rfl) rfl #[.agg #[.slice A0_0 l0_0.length c0_0,.slice A0_1 l0_1.length c0_1],.int .i64 a1] rfl (by (try simp only [List.map_toArray,List.map_cons,List.map_nil]);first|done|rfl|(simp only [List.length_drop,List.length_take];rfl)) ?_;(with_reducible refine (pool_asks.calls k _ _ l0_0 _ _ l0_1 a1 t199 _ ?side1 ?side2 ?side3 ?side4 A4.out).mono ?_);(case side1=>repeat (first|exact (Kd.C_below HR0_0.out HB.out)|(with_reducible refine Kd.C_alloc ?_ _)|(with_reducible refine Kd.C_drewN ?_ _)|(with_reducible refine Kd.C_drew ?_)));(case side2=>exact HC0_0.out);(case side3=>repeat (first|exact (Kd.C_below HR0_1.out HB.out)|(with_reducible refine Kd.C_alloc ?_ _)|(with_reducible refine Kd.C_drewN ?_ _)|(with_reducible refine Kd.C_drew ?_)));(case side4=>exact HC0_1.out);rintro e w16 ⟨rfl,hb⟩;refine ⟨_,rfl,?_⟩;have n0_:=zm (zbB (g:=gb197) (o:=.cells #[.slice A0_0 l0_0.length c0_0,.slice A0_1 l0_1.length c0_1] 25 (0,0)) (by (with_reducible repeat (first|refine zbN ?_ _|refine zbD ?_|refine zbA ?_ _));exact BK197.out) hb);have n1_:=zm (zbB (g:=gb198) (o:=.cells #[.slice none 0 0,.slice none 0 0] 25 (0,0)) (by (with_reducible repeat (first|refine zbN ?_ _|refine zbD ?_|refine zbA ?_ _));exact BK198.out) hb);have n2_:=zm (below_step (by repeat (first|(with_reducible first|exact HB.out|apply zlA|apply zlN|apply zlD|refine zlS ?_ GE197.out|refine zlS ?_ GE198.out)|exact HB.out)) hb);clear BK197 BK198 HB;have BK197:=n0_;have BK198:=n1_;have HB:=n2_;clear n0_ n1_ n2_;(try clear hb);(try clear hb2);(try clear hk);(try clear hi))|((with_reducible refine gate_callee (f:=37) rfl ?_);refine goesL_ (some 20) rfl rfl Try.func37 (by kernel_rfl) rfl #[.int .i64 a2] rfl (by (try simp only [List.map_toArray,List.map_cons,List.map_nil]);first|done|rfl|(simp only [List.length_drop,List.length_take];rfl)) ?_;(with_reducible refine (pool_role.calls k a2 t200 true _ A6.out).mono ?_);rintro e w' ⟨rfl,⟨nd,rfl⟩⟩;refine ⟨_,rfl,?_⟩;(try (rw [drewN_self w16];generalize hq_:World.drewN w16 _=w16;have n0_:Aside0 (w16.heap[gb197]?=some (.cells #[.slice A0_0 l0_0.length c0_0,.slice A0_1 l0_1.length c0_1] 25 (0,0))):=⟨by rw [← hq_];exact (by (with_reducible repeat (first|refine zbN ?_ _|refine zbD ?_|refine zbA ?_ _));exact BK197.out)⟩;have n1_:Aside0 (w16.heap[gb198]?=some (.cells #[.slice none 0 0,.slice none 0 0] 25 (0,0))):=⟨by rw [← hq_];exact (by (with_reducible repeat (first|refine zbN ?_ _|refine zbD ?_|refine zbA ?_ _));exact BK198.out)⟩;have n2_:Aside0 (Below w.heap.size w w16):=⟨by rw [← hq_];exact (by repeat (first|(with_reducible first|exact HB.out|apply zlA|apply zlN|apply zlD|refine zlS ?_ GE197.out|refine zlS ?_ GE198.out)|exact HB.out))⟩;clear BK197 BK198 HB hq_;have BK197:=n0_;have BK198:=n1_;have HB:=n2_;clear n0_ n1_ n2_));have hcz17_0:w16.cell? ⟨gb197,0,none⟩=some (.slice A0_0 l0_0.length c0_0):=(blk_cell BK197.out 0).trans rfl;have hcz17_1:w16.cell? ⟨gb197,1,none⟩=some (.slice A0_1 l0_1.length c0_1):=(blk_cell BK197.out 1).trans rfl;have hfz17_0:=blk_frozen BK197.out 0;have hfz17_1:=blk_frozen BK197.out 1;have p202:0≤(a1:Int):=of_decide_eq_true (by first|(with_reducible assumption)|assumption);have q202:a1 < (l0_0.length:Int):=of_decide_eq_true (by first|(with_reducible assumption)|assumption);obtain ⟨ad202,e202,hx202_0⟩:=Kd.at_int HR0_0.out a1 p202 q202;cases e202;replace hx202_0:=(HB.out.cell (World.block_lt_of_cell? w _ hx202_0)).trans hx202_0;replace p202:=eq_true p202;replace q202:=eq_true q202)|((with_reducible refine gate_callee (f:=43) rfl ?_);refine goesL_ (some 37) rfl rfl Try.func43 (by kernel_rfl) rfl #[.agg #[.slice (some ad202) l0_0.length c0_0,.slice A0_1 l0_1.length c0_1],.int .i64 a1,.int .i64 a2,.int .i64 0] rfl (by (try simp only [List.map_toArray,List.map_cons,List.map_nil]);first|done|rfl|(simp only [List.length_drop,List.length_take];rfl)) ?_;(with_reducible refine (pool_turned.calls _ _ l0_0 _ _ l0_1 a1 a2 0 t203 t206 _ ?side1 ?side2 ?side3 ?side4 A11.out).mono ?_);(case side1=>repeat (first|exact (Kd.C_below HR0_0.out HB.out)|(with_reducible refine Kd.C_alloc ?_ _)|(with_reducible refine Kd.C_drewN ?_ _)|(with_reducible refine Kd.C_drew ?_)));(case side2=>exact HC0_0.out);(case side3=>repeat (first|exact (Kd.C_below HR0_1.out HB.out)|(with_reducible refine Kd.C_alloc ?_ _)|(with_reducible refine Kd.C_drewN ?_ _)|(with_reducible refine Kd.C_drew ?_)));(case side4=>exact HC0_1.out);rintro e w18 ⟨v204,v207,rfl,ho0,ho1,hb⟩;refine ⟨_,rfl,?_⟩;have n0_:=zm (Kd.R_lower ho0 (below_size (by repeat (first|(with_reducible first|exact HB.out|apply zlA|apply zlN|apply zlD|refine zlS ?_ GE197.out|refine zlS ?_ GE198.out)|exact HB.out))));have n1_:=zm (Kd.R_lower ho1 (below_size (by repeat (first|(with_reducible first|exact HB.out|apply zlA|apply zlN|apply zlD|refine zlS ?_ GE197.out|refine zlS ?_ GE198.out)|exact HB.out))));have n2_:=zm (zbB (g:=gb197) (o:=.cells #[.slice (some ad202) l0_0.length c0_0,.slice A0_1 l0_1.length c0_1] 25 (0,0)) (by (with_reducible repeat (first|refine zbN ?_ _|refine zbD ?_|refine zbA ?_ _));exact BK197.out) hb);have n3_:=zm (zbB (g:=gb198) (o:=.cells #[.slice none 0 0,.slice none 0 0] 25 (0,0)) (by (with_reducible repeat (first|refine zbN ?_ _|refine zbD ?_|refine zbA ?_ _));exact BK198.out) hb);have n4_:=zm (below_step (by repeat (first|(with_reducible first|exact HB.out|apply zlA|apply zlN|apply zlD|refine zlS ?_ GE197.out|refine zlS ?_ GE198.out)|exact HB.out)) hb);clear BK197 BK198 HB;have HO205:=n0_;have HO208:=n1_;have BK197:=n2_;have BK198:=n3_;have HB:=n4_;clear n0_ n1_ n2_ n3_ n4_;(try clear hb);(try clear hb2);(try clear hk);(try clear hi);(try clear ho0);(try clear ho1);obtain ⟨Ao19,co19,eo19⟩:=Kd.R_slice HO205.out;subst eo19;have hcz20_0:w18.cell? ⟨gb198,0,none⟩=some (.slice none 0 0):=(blk_cell BK198.out 0).trans rfl;have hcz20_1:w18.cell? ⟨gb198,1,none⟩=some (.slice none 0 0):=(blk_cell BK198.out 1).trans rfl;have hfz20_0:=blk_frozen BK198.out 0;have hfz20_1:=blk_frozen BK198.out 1;obtain ⟨Ao21,co21,eo21⟩:=Kd.R_slice HO208.out;subst eo21))
      refine bodyPost_ret (results_ct rfl _ _ gb198 25 #[.slice Ao19 t203.length co19,.slice Ao21 t206.length co21] (0,0) _ rfl (by (with_reducible repeat (first|refine zbN ?_ _|refine zbD ?_|refine zbA ?_ _));refine blk_put (cs:=#[.slice Ao19 t203.length co19,.slice none 0 0]) ?_ 1 _ rfl;(with_reducible repeat (first|refine zbN ?_ _|refine zbD ?_|refine zbA ?_ _));refine blk_put (cs:=#[.slice none 0 0,.slice none 0 0]) ?_ 0 _ rfl;(with_reducible repeat (first|refine zbN ?_ _|refine zbD ?_|refine zbA ?_ _));exact BK198.out) Try.underlying25 rfl (by kernel_rfl)) rfl ?_
      exact ⟨_,_,by first|rfl|(simp [errW_none,errW_some] <;> rfl)|(simp [*,errW_none,errW_some] <;> rfl),by (with_reducible repeat (first|apply zrA|apply zrN|apply zrD));exact Kd.R_mono (Kd.R_far (p:=⟨gb198,1,none⟩) (Kd.R_far (p:=⟨gb198,0,none⟩) (Kd.R_types HO205.out BK198.out (by decide)) (fun _ hk=>hk.2) (.slice Ao19 t203.length co19)) (fun _ hk=>hk.2) (.slice Ao21 t206.length co21)) (fun _ hk=>trivial),by (with_reducible repeat (first|apply zrA|apply zrN|apply zrD));exact Kd.R_mono (Kd.R_far (p:=⟨gb198,1,none⟩) (Kd.R_far (p:=⟨gb198,0,none⟩) (Kd.R_types HO208.out BK198.out (by decide)) (fun _ hk=>hk.2) (.slice Ao19 t203.length co19)) (fun _ hk=>hk.2) (.slice Ao21 t206.length co21)) (fun _ hk=>trivial),by repeat (first|(with_reducible first|exact HB.out|apply zlA|apply zlN|apply zlD|refine zlS ?_ GE197.out|refine zlS ?_ GE198.out)|exact HB.out)⟩
     ·rw [if_neg c10] at H
      have c10b0:((rd l0_0 a1) == 1)=false:=beq_eq_false_iff_ne.mpr c10
      have c10b1:((rd l0_0 a1) != 1)=true:=bne_iff_ne.mpr c10
      simp only [Option.some.injEq,Prod.mk.injEq] at H
      obtain ⟨rfl,rfl,rfl⟩:=H
      go_enter Try.func19,Try.ntmps19
      go_wp2_with (first|((with_reducible refine gate_dst (N:=3) rfl ?_);refine box_event ?hg (N:=3) ?hd (cs:=#[.slice A0_0 l0_0.length c0_0,.slice A0_1 l0_1.length c0_1]) (t:=25) ?hr ?_;(case hd=>rfl);(case hg=>rfl);(case hr=>first|(go_simp;done)|(go_simp;rfl));intro gb197 hg w22 hbox hb;have n0_:=zm (below_step (by repeat (first|(with_reducible first|exact HB.out|apply zlA|apply zlN|apply zlD)|exact HB.out)) hb);have n1_:=zm (hbox);have n2_:=zm ((by rw [hg];exact (below_size (by repeat (first|(with_reducible first|exact HB.out|apply zlA|apply zlN|apply zlD)|exact HB.out))):w.heap.size≤gb197));have n3_:=zm ((by rw [hg];exact (below_size (by repeat (first|(with_reducible first|exact HB.out|apply zlA|apply zlN|apply zlD)|exact HB.out))):w.heap.size≤gb197));clear HB;have HB:=n0_;have BK197:=n1_;have GW197:=n2_;have GE197:=n3_;clear n0_ n1_ n2_ n3_;clear hb hbox hg)|((with_reducible refine gate_dst (N:=6) rfl ?_);refine box_event ?hg (N:=6) ?hd (cs:=#[.slice none 0 0,.slice none 0 0]) (t:=25) ?hr ?_;(case hd=>rfl);(case hg=>rfl);(case hr=>first|(go_simp;done)|(go_simp;rfl));intro gb198 hg w23 hbox hb;have n0_:=zm (zbB (g:=gb197) (o:=.cells #[.slice A0_0 l0_0.length c0_0,.slice A0_1 l0_1.length c0_1] 25 (0,0)) (by (with_reducible repeat (first|refine zbN ?_ _|refine zbD ?_|refine zbA ?_ _));exact BK197.out) hb);have n1_:=zm (below_step (by repeat (first|(with_reducible first|exact HB.out|apply zlA|apply zlN|apply zlD|refine zlS ?_ GE197.out)|exact HB.out)) hb);have n2_:=zm (hbox);have n3_:=zm ((by rw [hg];exact (below_size (by repeat (first|(with_reducible first|exact HB.out|apply zlA|apply zlN|apply zlD|refine zlS ?_ GE197.out)|exact HB.out))):w.heap.size≤gb198));have n4_:=zm ((by rw [hg];exact (below_size (by repeat (first|(with_reducible first|exact HB.out|apply zlA|apply zlN|apply zlD|refine zlS ?_ GE197.out)|exact HB.out))):w.heap.size≤gb198));have n5_:=zm ((by rw [hg];exact Nat.ne_of_lt (blk_lt (g:=gb197) (o:=.cells #[.slice A0_0 l0_0.length c0_0,.slice A0_1 l0_1.length c0_1] 25 (0,0)) (by (with_reducible repeat (first|refine zbN ?_ _|refine zbD ?_|refine zbA ?_ _));exact BK197.out)):gb197≠gb198));have n6_:=zm ((by rw [hg];exact Nat.ne_of_gt (blk_lt (g:=gb197) (o:=.cells #[.slice A0_0 l0_0.length c0_0,.slice A0_1 l0_1.length c0_1] 25 (0,0)) (by (with_reducible repeat (first|refine zbN ?_ _|refine zbD ?_|refine zbA ?_ _));exact BK197.out)):gb198≠gb197));clear BK197 HB;have BK197:=n0_;have HB:=n1_;have BK198:=n2_;have GW198:=n3_;have GE198:=n4_;have NB197_198:=n5_;have NB198_197:=n6_;clear n0_ n1_ n2_ n3_ n4_ n5_ n6_;clear hb hbox hg;have hnb24:=NB197_198.out;have hnc24:=NB198_197.out;have hcz25_0:w23.cell? ⟨gb197,0,none⟩=some (.slice A0_0 l0_0.length c0_0):=(blk_cell BK197.out 0).trans rfl;have hcz25_1:w23.cell? ⟨gb197,1,none⟩=some (.slice A0_1 l0_1.length c0_1):=(blk_cell BK197.out 1).trans rfl;have hfz25_0:=blk_frozen BK197.out 0;have hfz25_1:=blk_frozen BK197.out 1)|((with_reducible refine gate_callee (f:=42) rfl ?_);refine goesL_ (some 13) rfl rfl Try.func42 (by kernel_rfl) rfl #[.agg #[.slice A0_0 l0_0.length c0_0,.slice A0_1 l0_1.length c0_1],.int .i64 a1] rfl (by (try simp only [List.map_toArray,List.map_cons,List.map_nil]);first|done|rfl|(simp only [List.length_drop,List.length_take];rfl)) ?_;(with_reducible refine (pool_asks.calls k _ _ l0_0 _ _ l0_1 a1 t199 _ ?side1 ?side2 ?side3 ?side4 A4.out).mono ?_);(case side1=>repeat (first|exact (Kd.C_below HR0_0.out HB.out)|(with_reducible refine Kd.C_alloc ?_ _)|(with_reducible refine Kd.C_drewN ?_ _)|(with_reducible refine Kd.C_drew ?_)));(case side2=>exact HC0_0.out);(case side3=>repeat (first|exact (Kd.C_below HR0_1.out HB.out)|(with_reducible refine Kd.C_alloc ?_ _)|(with_reducible refine Kd.C_drewN ?_ _)|(with_reducible refine Kd.C_drew ?_)));(case side4=>exact HC0_1.out);rintro e w26 ⟨rfl,hb⟩;refine ⟨_,rfl,?_⟩;have n0_:=zm (zbB (g:=gb197) (o:=.cells #[.slice A0_0 l0_0.length c0_0,.slice A0_1 l0_1.length c0_1] 25 (0,0)) (by (with_reducible repeat (first|refine zbN ?_ _|refine zbD ?_|refine zbA ?_ _));exact BK197.out) hb);have n1_:=zm (zbB (g:=gb198) (o:=.cells #[.slice none 0 0,.slice none 0 0] 25 (0,0)) (by (with_reducible repeat (first|refine zbN ?_ _|refine zbD ?_|refine zbA ?_ _));exact BK198.out) hb);have n2_:=zm (below_step (by repeat (first|(with_reducible first|exact HB.out|apply zlA|apply zlN|apply zlD|refine zlS ?_ GE197.out|refine zlS ?_ GE198.out)|exact HB.out)) hb);clear BK197 BK198 HB;have BK197:=n0_;have BK198:=n1_;have HB:=n2_;clear n0_ n1_ n2_;(try clear hb);(try clear hb2);(try clear hk);(try clear hi))|((with_reducible refine gate_callee (f:=37) rfl ?_);refine goesL_ (some 20) rfl rfl Try.func37 (by kernel_rfl) rfl #[.int .i64 a2] rfl (by (try simp only [List.map_toArray,List.map_cons,List.map_nil]);first|done|rfl|(simp only [List.length_drop,List.length_take];rfl)) ?_;(with_reducible refine (pool_role.calls k a2 t200 true _ A6.out).mono ?_);rintro e w' ⟨rfl,⟨nd,rfl⟩⟩;refine ⟨_,rfl,?_⟩;(try (rw [drewN_self w26];generalize hq_:World.drewN w26 _=w26;have n0_:Aside0 (w26.heap[gb197]?=some (.cells #[.slice A0_0 l0_0.length c0_0,.slice A0_1 l0_1.length c0_1] 25 (0,0))):=⟨by rw [← hq_];exact (by (with_reducible repeat (first|refine zbN ?_ _|refine zbD ?_|refine zbA ?_ _));exact BK197.out)⟩;have n1_:Aside0 (w26.heap[gb198]?=some (.cells #[.slice none 0 0,.slice none 0 0] 25 (0,0))):=⟨by rw [← hq_];exact (by (with_reducible repeat (first|refine zbN ?_ _|refine zbD ?_|refine zbA ?_ _));exact BK198.out)⟩;have n2_:Aside0 (Below w.heap.size w w26):=⟨by rw [← hq_];exact (by repeat (first|(with_reducible first|exact HB.out|apply zlA|apply zlN|apply zlD|refine zlS ?_ GE197.out|refine zlS ?_ GE198.out)|exact HB.out))⟩;clear BK197 BK198 HB hq_;have BK197:=n0_;have BK198:=n1_;have HB:=n2_;clear n0_ n1_ n2_));have hcz27_0:w26.cell? ⟨gb197,0,none⟩=some (.slice A0_0 l0_0.length c0_0):=(blk_cell BK197.out 0).trans rfl;have hcz27_1:w26.cell? ⟨gb197,1,none⟩=some (.slice A0_1 l0_1.length c0_1):=(blk_cell BK197.out 1).trans rfl;have hfz27_0:=blk_frozen BK197.out 0;have hfz27_1:=blk_frozen BK197.out 1;have p202:0≤(a1:Int):=of_decide_eq_true (by first|(with_reducible assumption)|assumption);have q202:a1 < (l0_0.length:Int):=of_decide_eq_true (by first|(with_reducible assumption)|assumption);obtain ⟨ad202,e202,hx202_0⟩:=Kd.at_int HR0_0.out a1 p202 q202;cases e202;replace hx202_0:=(HB.out.cell (World.block_lt_of_cell? w _ hx202_0)).trans hx202_0;replace p202:=eq_true p202;replace q202:=eq_true q202;have hcz28_0:w26.cell? ⟨gb198,0,none⟩=some (.slice none 0 0):=(blk_cell BK198.out 0).trans rfl;have hcz28_1:w26.cell? ⟨gb198,1,none⟩=some (.slice none 0 0):=(blk_cell BK198.out 1).trans rfl;have hfz28_0:=blk_frozen BK198.out 0;have hfz28_1:=blk_frozen BK198.out 1))
      refine bodyPost_ret (results_ct rfl _ _ gb198 25 #[.slice none 0 0,.slice none 0 0] (0,0) _ rfl (by (with_reducible repeat (first|refine zbN ?_ _|refine zbD ?_|refine zbA ?_ _));refine blk_put (cs:=#[.slice none 0 0,.slice none 0 0]) ?_ 1 _ rfl;(with_reducible repeat (first|refine zbN ?_ _|refine zbD ?_|refine zbA ?_ _));refine blk_put (cs:=#[.slice none 0 0,.slice none 0 0]) ?_ 0 _ rfl;(with_reducible repeat (first|refine zbN ?_ _|refine zbD ?_|refine zbA ?_ _));exact BK198.out) Try.underlying25 rfl (by kernel_rfl)) rfl ?_
      exact ⟨_,_,by first|rfl|(simp [errW_none,errW_some] <;> rfl)|(simp [*,errW_none,errW_some] <;> rfl),by first|exact Kd.R_nil _ _ _ _ _|exact Kd.N_nil _ _ _ _ _|exact Kd.V_nil _ _ _ _ _|exact Kd.Q_nil _ _ _ _ _|exact Kd.S_nil _ _ _ _ _,by first|exact Kd.R_nil _ _ _ _ _|exact Kd.N_nil _ _ _ _ _|exact Kd.V_nil _ _ _ _ _|exact Kd.Q_nil _ _ _ _ _|exact Kd.S_nil _ _ _ _ _,by repeat (first|(with_reducible first|exact HB.out|apply zlA|apply zlN|apply zlD|refine zlS ?_ GE197.out|refine zlS ?_ GE198.out)|exact HB.out)⟩
    ·rw [if_neg c9] at H
     exact absurd H (by simp)
   ·rw [if_neg c8] at H
    exact absurd H (by simp)
  ·replace c7:=Bool.eq_false_iff.mpr c7
   subst c7
   have H1:(some (([]:List Int),([]:List Int),41))=some (r1,r2,r3):=by rw [if_neg (show ¬ (false=true) by decide)] at H;exact H
   clear H
   have H:=H1
   clear H1
   simp only [Option.some.injEq,Prod.mk.injEq] at H
   obtain ⟨rfl,rfl,rfl⟩:=H
   go_enter Try.func19,Try.ntmps19
   go_wp2_with (first|((with_reducible refine gate_dst (N:=3) rfl ?_);refine box_event ?hg (N:=3) ?hd (cs:=#[.slice A0_0 l0_0.length c0_0,.slice A0_1 l0_1.length c0_1]) (t:=25) ?hr ?_;(case hd=>rfl);(case hg=>rfl);(case hr=>first|(go_simp;done)|(go_simp;rfl));intro gb197 hg w29 hbox hb;have n0_:=zm (below_step (by repeat (first|(with_reducible first|exact HB.out|apply zlA|apply zlN|apply zlD)|exact HB.out)) hb);have n1_:=zm (hbox);have n2_:=zm ((by rw [hg];exact (below_size (by repeat (first|(with_reducible first|exact HB.out|apply zlA|apply zlN|apply zlD)|exact HB.out))):w.heap.size≤gb197));have n3_:=zm ((by rw [hg];exact (below_size (by repeat (first|(with_reducible first|exact HB.out|apply zlA|apply zlN|apply zlD)|exact HB.out))):w.heap.size≤gb197));clear HB;have HB:=n0_;have BK197:=n1_;have GW197:=n2_;have GE197:=n3_;clear n0_ n1_ n2_ n3_;clear hb hbox hg)|((with_reducible refine gate_dst (N:=6) rfl ?_);refine box_event ?hg (N:=6) ?hd (cs:=#[.slice none 0 0,.slice none 0 0]) (t:=25) ?hr ?_;(case hd=>rfl);(case hg=>rfl);(case hr=>first|(go_simp;done)|(go_simp;rfl));intro gb198 hg w30 hbox hb;have n0_:=zm (zbB (g:=gb197) (o:=.cells #[.slice A0_0 l0_0.length c0_0,.slice A0_1 l0_1.length c0_1] 25 (0,0)) (by (with_reducible repeat (first|refine zbN ?_ _|refine zbD ?_|refine zbA ?_ _));exact BK197.out) hb);have n1_:=zm (below_step (by repeat (first|(with_reducible first|exact HB.out|apply zlA|apply zlN|apply zlD|refine zlS ?_ GE197.out)|exact HB.out)) hb);have n2_:=zm (hbox);have n3_:=zm ((by rw [hg];exact (below_size (by repeat (first|(with_reducible first|exact HB.out|apply zlA|apply zlN|apply zlD|refine zlS ?_ GE197.out)|exact HB.out))):w.heap.size≤gb198));have n4_:=zm ((by rw [hg];exact (below_size (by repeat (first|(with_reducible first|exact HB.out|apply zlA|apply zlN|apply zlD|refine zlS ?_ GE197.out)|exact HB.out))):w.heap.size≤gb198));have n5_:=zm ((by rw [hg];exact Nat.ne_of_lt (blk_lt (g:=gb197) (o:=.cells #[.slice A0_0 l0_0.length c0_0,.slice A0_1 l0_1.length c0_1] 25 (0,0)) (by (with_reducible repeat (first|refine zbN ?_ _|refine zbD ?_|refine zbA ?_ _));exact BK197.out)):gb197≠gb198));have n6_:=zm ((by rw [hg];exact Nat.ne_of_gt (blk_lt (g:=gb197) (o:=.cells #[.slice A0_0 l0_0.length c0_0,.slice A0_1 l0_1.length c0_1] 25 (0,0)) (by (with_reducible repeat (first|refine zbN ?_ _|refine zbD ?_|refine zbA ?_ _));exact BK197.out)):gb198≠gb197));clear BK197 HB;have BK197:=n0_;have HB:=n1_;have BK198:=n2_;have GW198:=n3_;have GE198:=n4_;have NB197_198:=n5_;have NB198_197:=n6_;clear n0_ n1_ n2_ n3_ n4_ n5_ n6_;clear hb hbox hg;have hnb31:=NB197_198.out;have hnc31:=NB198_197.out;have hcz32_0:w30.cell? ⟨gb197,0,none⟩=some (.slice A0_0 l0_0.length c0_0):=(blk_cell BK197.out 0).trans rfl;have hcz32_1:w30.cell? ⟨gb197,1,none⟩=some (.slice A0_1 l0_1.length c0_1):=(blk_cell BK197.out 1).trans rfl;have hfz32_0:=blk_frozen BK197.out 0;have hfz32_1:=blk_frozen BK197.out 1)|((with_reducible refine gate_callee (f:=42) rfl ?_);refine goesL_ (some 13) rfl rfl Try.func42 (by kernel_rfl) rfl #[.agg #[.slice A0_0 l0_0.length c0_0,.slice A0_1 l0_1.length c0_1],.int .i64 a1] rfl (by (try simp only [List.map_toArray,List.map_cons,List.map_nil]);first|done|rfl|(simp only [List.length_drop,List.length_take];rfl)) ?_;(with_reducible refine (pool_asks.calls k _ _ l0_0 _ _ l0_1 a1 t199 _ ?side1 ?side2 ?side3 ?side4 A4.out).mono ?_);(case side1=>repeat (first|exact (Kd.C_below HR0_0.out HB.out)|(with_reducible refine Kd.C_alloc ?_ _)|(with_reducible refine Kd.C_drewN ?_ _)|(with_reducible refine Kd.C_drew ?_)));(case side2=>exact HC0_0.out);(case side3=>repeat (first|exact (Kd.C_below HR0_1.out HB.out)|(with_reducible refine Kd.C_alloc ?_ _)|(with_reducible refine Kd.C_drewN ?_ _)|(with_reducible refine Kd.C_drew ?_)));(case side4=>exact HC0_1.out);rintro e w33 ⟨rfl,hb⟩;refine ⟨_,rfl,?_⟩;have n0_:=zm (zbB (g:=gb197) (o:=.cells #[.slice A0_0 l0_0.length c0_0,.slice A0_1 l0_1.length c0_1] 25 (0,0)) (by (with_reducible repeat (first|refine zbN ?_ _|refine zbD ?_|refine zbA ?_ _));exact BK197.out) hb);have n1_:=zm (zbB (g:=gb198) (o:=.cells #[.slice none 0 0,.slice none 0 0] 25 (0,0)) (by (with_reducible repeat (first|refine zbN ?_ _|refine zbD ?_|refine zbA ?_ _));exact BK198.out) hb);have n2_:=zm (below_step (by repeat (first|(with_reducible first|exact HB.out|apply zlA|apply zlN|apply zlD|refine zlS ?_ GE197.out|refine zlS ?_ GE198.out)|exact HB.out)) hb);clear BK197 BK198 HB;have BK197:=n0_;have BK198:=n1_;have HB:=n2_;clear n0_ n1_ n2_;(try clear hb);(try clear hb2);(try clear hk);(try clear hi))|((with_reducible refine gate_callee (f:=37) rfl ?_);refine goesL_ (some 20) rfl rfl Try.func37 (by kernel_rfl) rfl #[.int .i64 a2] rfl (by (try simp only [List.map_toArray,List.map_cons,List.map_nil]);first|done|rfl|(simp only [List.length_drop,List.length_take];rfl)) ?_;(with_reducible refine (pool_role.calls k a2 t200 false _ A6.out).mono ?_);rintro e w' ⟨rfl,⟨nd,rfl⟩⟩;refine ⟨_,rfl,?_⟩;(try (rw [drewN_self w33];generalize hq_:World.drewN w33 _=w33;have n0_:Aside0 (w33.heap[gb197]?=some (.cells #[.slice A0_0 l0_0.length c0_0,.slice A0_1 l0_1.length c0_1] 25 (0,0))):=⟨by rw [← hq_];exact (by (with_reducible repeat (first|refine zbN ?_ _|refine zbD ?_|refine zbA ?_ _));exact BK197.out)⟩;have n1_:Aside0 (w33.heap[gb198]?=some (.cells #[.slice none 0 0,.slice none 0 0] 25 (0,0))):=⟨by rw [← hq_];exact (by (with_reducible repeat (first|refine zbN ?_ _|refine zbD ?_|refine zbA ?_ _));exact BK198.out)⟩;have n2_:Aside0 (Below w.heap.size w w33):=⟨by rw [← hq_];exact (by repeat (first|(with_reducible first|exact HB.out|apply zlA|apply zlN|apply zlD|refine zlS ?_ GE197.out|refine zlS ?_ GE198.out)|exact HB.out))⟩;clear BK197 BK198 HB hq_;have BK197:=n0_;have BK198:=n1_;have HB:=n2_;clear n0_ n1_ n2_));have hcz34_0:w33.cell? ⟨gb198,0,none⟩=some (.slice none 0 0):=(blk_cell BK198.out 0).trans rfl;have hcz34_1:w33.cell? ⟨gb198,1,none⟩=some (.slice none 0 0):=(blk_cell BK198.out 1).trans rfl;have hfz34_0:=blk_frozen BK198.out 0;have hfz34_1:=blk_frozen BK198.out 1))
   refine bodyPost_ret (results_ct rfl _ _ gb198 25 #[.slice none 0 0,.slice none 0 0] (0,0) _ rfl (by (with_reducible repeat (first|refine zbN ?_ _|refine zbD ?_|refine zbA ?_ _));refine blk_put (cs:=#[.slice none 0 0,.slice none 0 0]) ?_ 1 _ rfl;(with_reducible repeat (first|refine zbN ?_ _|refine zbD ?_|refine zbA ?_ _));refine blk_put (cs:=#[.slice none 0 0,.slice none 0 0]) ?_ 0 _ rfl;(with_reducible repeat (first|refine zbN ?_ _|refine zbD ?_|refine zbA ?_ _));exact BK198.out) Try.underlying25 rfl (by kernel_rfl)) rfl ?_
   exact ⟨_,_,by first|rfl|(simp [errW_none,errW_some] <;> rfl)|(simp [*,errW_none,errW_some] <;> rfl),by first|exact Kd.R_nil _ _ _ _ _|exact Kd.N_nil _ _ _ _ _|exact Kd.V_nil _ _ _ _ _|exact Kd.Q_nil _ _ _ _ _|exact Kd.S_nil _ _ _ _ _,by first|exact Kd.R_nil _ _ _ _ _|exact Kd.N_nil _ _ _ _ _|exact Kd.V_nil _ _ _ _ _|exact Kd.Q_nil _ _ _ _ _|exact Kd.S_nil _ _ _ _ _,by repeat (first|(with_reducible first|exact HB.out|apply zlA|apply zlN|apply zlD|refine zlS ?_ GE197.out|refine zlS ?_ GE198.out)|exact HB.out)⟩
 ·rw [if_neg c5] at H
  have c5b0:(t199 == 0)=false:=beq_eq_false_iff_ne.mpr c5
  have c5b1:(t199 != 0)=true:=bne_iff_ne.mpr c5
  simp only [Option.some.injEq,Prod.mk.injEq] at H
  obtain ⟨rfl,rfl,rfl⟩:=H
  go_enter Try.func19,Try.ntmps19
  go_wp2_with (first|((with_reducible refine gate_dst (N:=3) rfl ?_);refine box_event ?hg (N:=3) ?hd (cs:=#[.slice A0_0 l0_0.length c0_0,.slice A0_1 l0_1.length c0_1]) (t:=25) ?hr ?_;(case hd=>rfl);(case hg=>rfl);(case hr=>first|(go_simp;done)|(go_simp;rfl));intro gb197 hg w35 hbox hb;have n0_:=zm (below_step (by repeat (first|(with_reducible first|exact HB.out|apply zlA|apply zlN|apply zlD)|exact HB.out)) hb);have n1_:=zm (hbox);have n2_:=zm ((by rw [hg];exact (below_size (by repeat (first|(with_reducible first|exact HB.out|apply zlA|apply zlN|apply zlD)|exact HB.out))):w.heap.size≤gb197));have n3_:=zm ((by rw [hg];exact (below_size (by repeat (first|(with_reducible first|exact HB.out|apply zlA|apply zlN|apply zlD)|exact HB.out))):w.heap.size≤gb197));clear HB;have HB:=n0_;have BK197:=n1_;have GW197:=n2_;have GE197:=n3_;clear n0_ n1_ n2_ n3_;clear hb hbox hg)|((with_reducible refine gate_dst (N:=6) rfl ?_);refine box_event ?hg (N:=6) ?hd (cs:=#[.slice none 0 0,.slice none 0 0]) (t:=25) ?hr ?_;(case hd=>rfl);(case hg=>rfl);(case hr=>first|(go_simp;done)|(go_simp;rfl));intro gb198 hg w36 hbox hb;have n0_:=zm (zbB (g:=gb197) (o:=.cells #[.slice A0_0 l0_0.length c0_0,.slice A0_1 l0_1.length c0_1] 25 (0,0)) (by (with_reducible repeat (first|refine zbN ?_ _|refine zbD ?_|refine zbA ?_ _));exact BK197.out) hb);have n1_:=zm (below_step (by repeat (first|(with_reducible first|exact HB.out|apply zlA|apply zlN|apply zlD|refine zlS ?_ GE197.out)|exact HB.out)) hb);have n2_:=zm (hbox);have n3_:=zm ((by rw [hg];exact (below_size (by repeat (first|(with_reducible first|exact HB.out|apply zlA|apply zlN|apply zlD|refine zlS ?_ GE197.out)|exact HB.out))):w.heap.size≤gb198));have n4_:=zm ((by rw [hg];exact (below_size (by repeat (first|(with_reducible first|exact HB.out|apply zlA|apply zlN|apply zlD|refine zlS ?_ GE197.out)|exact HB.out))):w.heap.size≤gb198));have n5_:=zm ((by rw [hg];exact Nat.ne_of_lt (blk_lt (g:=gb197) (o:=.cells #[.slice A0_0 l0_0.length c0_0,.slice A0_1 l0_1.length c0_1] 25 (0,0)) (by (with_reducible repeat (first|refine zbN ?_ _|refine zbD ?_|refine zbA ?_ _));exact BK197.out)):gb197≠gb198));have n6_:=zm ((by rw [hg];exact Nat.ne_of_gt (blk_lt (g:=gb197) (o:=.cells #[.slice A0_0 l0_0.length c0_0,.slice A0_1 l0_1.length c0_1] 25 (0,0)) (by (with_reducible repeat (first|refine zbN ?_ _|refine zbD ?_|refine zbA ?_ _));exact BK197.out)):gb198≠gb197));clear BK197 HB;have BK197:=n0_;have HB:=n1_;have BK198:=n2_;have GW198:=n3_;have GE198:=n4_;have NB197_198:=n5_;have NB198_197:=n6_;clear n0_ n1_ n2_ n3_ n4_ n5_ n6_;clear hb hbox hg;have hnb37:=NB197_198.out;have hnc37:=NB198_197.out;have hcz38_0:w36.cell? ⟨gb197,0,none⟩=some (.slice A0_0 l0_0.length c0_0):=(blk_cell BK197.out 0).trans rfl;have hcz38_1:w36.cell? ⟨gb197,1,none⟩=some (.slice A0_1 l0_1.length c0_1):=(blk_cell BK197.out 1).trans rfl;have hfz38_0:=blk_frozen BK197.out 0;have hfz38_1:=blk_frozen BK197.out 1)|((with_reducible refine gate_callee (f:=42) rfl ?_);refine goesL_ (some 13) rfl rfl Try.func42 (by kernel_rfl) rfl #[.agg #[.slice A0_0 l0_0.length c0_0,.slice A0_1 l0_1.length c0_1],.int .i64 a1] rfl (by (try simp only [List.map_toArray,List.map_cons,List.map_nil]);first|done|rfl|(simp only [List.length_drop,List.length_take];rfl)) ?_;(with_reducible refine (pool_asks.calls k _ _ l0_0 _ _ l0_1 a1 t199 _ ?side1 ?side2 ?side3 ?side4 A4.out).mono ?_);(case side1=>repeat (first|exact (Kd.C_below HR0_0.out HB.out)|(with_reducible refine Kd.C_alloc ?_ _)|(with_reducible refine Kd.C_drewN ?_ _)|(with_reducible refine Kd.C_drew ?_)));(case side2=>exact HC0_0.out);(case side3=>repeat (first|exact (Kd.C_below HR0_1.out HB.out)|(with_reducible refine Kd.C_alloc ?_ _)|(with_reducible refine Kd.C_drewN ?_ _)|(with_reducible refine Kd.C_drew ?_)));(case side4=>exact HC0_1.out);rintro e w39 ⟨rfl,hb⟩;refine ⟨_,rfl,?_⟩;have n0_:=zm (zbB (g:=gb197) (o:=.cells #[.slice A0_0 l0_0.length c0_0,.slice A0_1 l0_1.length c0_1] 25 (0,0)) (by (with_reducible repeat (first|refine zbN ?_ _|refine zbD ?_|refine zbA ?_ _));exact BK197.out) hb);have n1_:=zm (zbB (g:=gb198) (o:=.cells #[.slice none 0 0,.slice none 0 0] 25 (0,0)) (by (with_reducible repeat (first|refine zbN ?_ _|refine zbD ?_|refine zbA ?_ _));exact BK198.out) hb);have n2_:=zm (below_step (by repeat (first|(with_reducible first|exact HB.out|apply zlA|apply zlN|apply zlD|refine zlS ?_ GE197.out|refine zlS ?_ GE198.out)|exact HB.out)) hb);clear BK197 BK198 HB;have BK197:=n0_;have BK198:=n1_;have HB:=n2_;clear n0_ n1_ n2_;(try clear hb);(try clear hb2);(try clear hk);(try clear hi);have hcz40_0:w39.cell? ⟨gb198,0,none⟩=some (.slice none 0 0):=(blk_cell BK198.out 0).trans rfl;have hcz40_1:w39.cell? ⟨gb198,1,none⟩=some (.slice none 0 0):=(blk_cell BK198.out 1).trans rfl;have hfz40_0:=blk_frozen BK198.out 0;have hfz40_1:=blk_frozen BK198.out 1))
  refine bodyPost_ret (results_ct rfl _ _ gb198 25 #[.slice none 0 0,.slice none 0 0] (0,0) _ rfl (by (with_reducible repeat (first|refine zbN ?_ _|refine zbD ?_|refine zbA ?_ _));refine blk_put (cs:=#[.slice none 0 0,.slice none 0 0]) ?_ 1 _ rfl;(with_reducible repeat (first|refine zbN ?_ _|refine zbD ?_|refine zbA ?_ _));refine blk_put (cs:=#[.slice none 0 0,.slice none 0 0]) ?_ 0 _ rfl;(with_reducible repeat (first|refine zbN ?_ _|refine zbD ?_|refine zbA ?_ _));exact BK198.out) Try.underlying25 rfl (by kernel_rfl)) rfl ?_
  exact ⟨_,_,by first|rfl|(simp [errW_none,errW_some] <;> rfl)|(simp [*,errW_none,errW_some] <;> rfl),by first|exact Kd.R_nil _ _ _ _ _|exact Kd.N_nil _ _ _ _ _|exact Kd.V_nil _ _ _ _ _|exact Kd.Q_nil _ _ _ _ _|exact Kd.S_nil _ _ _ _ _,by first|exact Kd.R_nil _ _ _ _ _|exact Kd.N_nil _ _ _ _ _|exact Kd.V_nil _ _ _ _ _|exact Kd.Q_nil _ _ _ _ _|exact Kd.S_nil _ _ _ _ _,by repeat (first|(with_reducible first|exact HB.out|apply zlA|apply zlN|apply zlD|refine zlS ?_ GE197.out|refine zlS ?_ GE198.out)|exact HB.out)⟩
end Go.Proofs.Ytlegmnpngcadhaa.Print
end
section
namespace Go.Proofs.Ytlegmnpngcadhaa.Print
open Go.RowKit Go.Proofs.YtlegmnpngcadhaaW.PrintWords Go.Proofs.YtlegmnpngcadhaaW.PrintLast Go.Proofs.YtlegmnpngcadhaaW.PrintMore
attribute [local go_sem] max2_int min2_int max_two min_two max_three min_three max_four min_four   -- for this text's walks alone
attribute [local go_sem ↓] Go.Proofs.Ytlegmnpngcadhaa.Sem.isSome_setCell
attribute [local go_sem] Go.Instr.field Go.asAgg
set_option linter.unusedVariables false
set_option linter.unusedSimpArgs false
def slipwaylaw04_begun.f (k:Nat) :Option (Bool):=(pool_New.f k 16 (([0]:List Int))).bind fun bt212=>((pool_Choose.f k bt212.1 bt212.2.1).bind fun bt220=>((pool_Take.f k bt212.1 bt212.2.1 1 2).bind fun bt222=>((pool_Choose.f k bt222.1 bt222.2.1).bind fun bt230=>((pool_Capacity.f k 16 4 1 2 2).bind fun bt232=>(if bt212.2.2=0 then (if bt220.1=1 then (if bt220.2=true then (if bt222.2.2=0 then (if bt230.1=2 then (if bt230.2=true then (if bt232.1=6 then (some (bt232.2 == 0)) else (none)) else (none)) else (none)) else (none)) else (none)) else (none)) else (none))))))
theorem slipwaylaw04_begun.mono:∀ k,LeO (slipwaylaw04_begun.f k ) (slipwaylaw04_begun.f (k + 1) ):=by
 intro  k
 unfold slipwaylaw04_begun.f
 repeat' first
   | (with_reducible exact pool_Capacity.mono _ _ _ _ _ _)
   | (with_reducible exact pool_Choose.mono _ _ _)
   | (with_reducible exact pool_New.mono _ _ _)
   | (with_reducible exact pool_Take.mono _ _ _ _ _)
   | (with_reducible exact LeO.refl _)
   | (with_reducible exact LeO.none _)
   | (with_reducible refine LeO.ite ?_ ?_)
   | (with_reducible refine LeO.bind ?_ (fun _=>?_))
   | exact pool_Capacity.mono _ _ _ _ _ _
   | exact pool_Choose.mono _ _ _
   | exact pool_New.mono _ _ _
   | exact pool_Take.mono _ _ _ _ _
   | exact LeO.none _
   | refine LeO.ite ?_ ?_
   | refine LeO.bind ?_ (fun _=>?_)
set_option maxHeartbeats 8000000 in
set_option maxRecDepth 100000 in
theorem slipwaylaw04_begun.calls (k:Nat)  (r:Bool) (w:World) (h:slipwaylaw04_begun.f k =some r) :
  Calls Try.prog 12 #[] w fun e w'=>e=.returned (.bool r)∧Below w.heap.size w w':=by
 have hu25:=Try.underlying25
 have hu27:=Try.underlying27
 have HB:=zm (Below.refl w.heap.size w)
 have H:((pool_New.f k 16 (([0]:List Int))).bind fun bt212=>((pool_Choose.f k bt212.1 bt212.2.1).bind fun bt220=>((pool_Take.f k bt212.1 bt212.2.1 1 2).bind fun bt222=>((pool_Choose.f k bt222.1 bt222.2.1).bind fun bt230=>((pool_Capacity.f k 16 4 1 2 2).bind fun bt232=>(if bt212.2.2=0 then (if bt220.1=1 then (if bt220.2=true then (if bt222.2.2=0 then (if bt230.1=2 then (if bt230.2=true then (if bt232.1=6 then (some (bt232.2 == 0)) else (none)) else (none)) else (none)) else (none)) else (none)) else (none)) else (none)))))))=some r:=h
 clear h
 obtain ⟨y209,hy209⟩:∃ y_:List Int,y_=(([0]:List Int)):=⟨_,rfl⟩
 replace H:((pool_New.f k 16 y209).bind fun bt212=>((pool_Choose.f k bt212.1 bt212.2.1).bind fun bt220=>((pool_Take.f k bt212.1 bt212.2.1 1 2).bind fun bt222=>((pool_Choose.f k bt222.1 bt222.2.1).bind fun bt230=>((pool_Capacity.f k 16 4 1 2 2).bind fun bt232=>(if bt212.2.2=0 then (if bt220.1=1 then (if bt220.2=true then (if bt222.2.2=0 then (if bt230.1=2 then (if bt230.2=true then (if bt232.1=6 then (some (bt232.2 == 0)) else (none)) else (none)) else (none)) else (none)) else (none)) else (none)) else (none)))))))=some r:=by first|(rw [hy209];with_reducible exact H)|(have H2_:=(Option.bind_some _ _).symm.trans H;rw [hy209];with_reducible exact H2_)|(have H2_:=(Option.bind_some _ _).symm.trans H;with_reducible exact H2_)|with_reducible exact H|(rw [hy209];exact H)|exact H
 have Ny209:=zm hy209
 clear hy209
 replace H:=Option.bind_eq_some_iff.mp H
 obtain ⟨⟨t212,t215,t218⟩,A10,H⟩:=H
 replace H:((pool_Choose.f k t212 t215).bind fun bt220=>((pool_Take.f k t212 t215 1 2).bind fun bt222=>((pool_Choose.f k bt222.1 bt222.2.1).bind fun bt230=>((pool_Capacity.f k 16 4 1 2 2).bind fun bt232=>(if t218=0 then (if bt220.1=1 then (if bt220.2=true then (if bt222.2.2=0 then (if bt230.1=2 then (if bt230.2=true then (if bt232.1=6 then (some (bt232.2 == 0)) else (none)) else (none)) else (none)) else (none)) else (none)) else (none)) else (none))))))=some r:=H
 have A1:=zm A10
 clear A10
 replace H:=Option.bind_eq_some_iff.mp H
 obtain ⟨⟨t220,t221⟩,A20,H⟩:=H
 replace H:((pool_Take.f k t212 t215 1 2).bind fun bt222=>((pool_Choose.f k bt222.1 bt222.2.1).bind fun bt230=>((pool_Capacity.f k 16 4 1 2 2).bind fun bt232=>(if t218=0 then (if t220=1 then (if t221=true then (if bt222.2.2=0 then (if bt230.1=2 then (if bt230.2=true then (if bt232.1=6 then (some (bt232.2 == 0)) else (none)) else (none)) else (none)) else (none)) else (none)) else (none)) else (none)))))=some r:=H
 have A2:=zm A20
 clear A20
 replace H:=Option.bind_eq_some_iff.mp H
 obtain ⟨⟨t222,t225,t228⟩,A30,H⟩:=H
 replace H:((pool_Choose.f k t222 t225).bind fun bt230=>((pool_Capacity.f k 16 4 1 2 2).bind fun bt232=>(if t218=0 then (if t220=1 then (if t221=true then (if t228=0 then (if bt230.1=2 then (if bt230.2=true then (if bt232.1=6 then (some (bt232.2 == 0)) else (none)) else (none)) else (none)) else (none)) else (none)) else (none)) else (none))))=some r:=H
 have A3:=zm A30
 clear A30
 replace H:=Option.bind_eq_some_iff.mp H
 obtain ⟨⟨t230,t231⟩,A40,H⟩:=H
 replace H:((pool_Capacity.f k 16 4 1 2 2).bind fun bt232=>(if t218=0 then (if t220=1 then (if t221=true then (if t228=0 then (if t230=2 then (if t231=true then (if bt232.1=6 then (some (bt232.2 == 0)) else (none)) else (none)) else (none)) else (none)) else (none)) else (none)) else (none)))=some r:=H
 have A4:=zm A40
 clear A40
 replace H:=Option.bind_eq_some_iff.mp H
 obtain ⟨⟨t232,t233⟩,A50,H⟩:=H
 replace H:(if t218=0 then (if t220=1 then (if t221=true then (if t228=0 then (if t230=2 then (if t231=true then (if t232=6 then (some (t233 == 0)) else (none)) else (none)) else (none)) else (none)) else (none)) else (none)) else (none))=some r:=H
 have A5:=zm A50
 clear A50
 by_cases c6:t218=0
 ·rw [if_pos c6] at H
  have c6b0:(t218 == 0)=true:=beq_iff_eq.mpr c6
  have c6b1:(t218 != 0)=false:=bne_eq_false_iff_eq.mpr c6
  clear c6
  by_cases c7:t220=1
  ·rw [if_pos c7] at H
   have c7b0:(t220 == 1)=true:=beq_iff_eq.mpr c7
   have c7b1:(t220 != 1)=false:=bne_eq_false_iff_eq.mpr c7
   clear c7
   by_cases c8:t221=true
   ·subst c8
    have H1:(if t228=0 then (if t230=2 then (if t231=true then (if t232=6 then (some (t233 == 0)) else (none)) else (none)) else (none)) else (none))=some r:=by rw [if_pos rfl] at H;exact H
    clear H
    have H:=H1
    clear H1
    by_cases c9:t228=0
    ·rw [if_pos c9] at H
     have c9b0:(t228 == 0)=true:=beq_iff_eq.mpr c9
     have c9b1:(t228 != 0)=false:=bne_eq_false_iff_eq.mpr c9
     clear c9
     by_cases c10:t230=2
     ·rw [if_pos c10] at H
      have c10b0:(t230 == 2)=true:=beq_iff_eq.mpr c10
      have c10b1:(t230 != 2)=false:=bne_eq_false_iff_eq.mpr c10
      clear c10
      by_cases c11:t231=true
      ·subst c11
       have H1:(if t232=6 then (some (t233 == 0)) else (none))=some r:=by rw [if_pos rfl] at H;exact H
       clear H
       have H:=H1
       clear H1
       by_cases c12:t232=6
       ·rw [if_pos c12] at H
        have c12b0:(t232 == 6)=true:=beq_iff_eq.mpr c12
        have c12b1:(t232 != 6)=false:=bne_eq_false_iff_eq.mpr c12
        clear c12
        obtain rfl:=Option.some.inj H
        go_enter Try.func12,Try.ntmps12
        go_wp2_with (first|((with_reducible refine gate_dst (N:=12) rfl ?_);refine Kd.R_lit (Kd.int .i64) _ 3 ?hg (N:=12) ?hd (xs:=([0]:List Int)) (inner:=[.int .i64 0]) (ok:=fun _=>True) (okp:=fun _=>True) ?hr ?hp (fun _ hk=>hk) trivial (Below.refl _ _) (Nat.le_refl _) (by simp) ?_;(case hd=>rfl);(case hg=>rfl);(case hr=>first|(go_simp;done)|(go_simp;rfl));(case hp=>exact (Reps.one (show Kd.M (Kd.int .i64) _ _ _ 0 [.int .i64 0] from rfl) (Reps.none _ _)));intro v210 w13 ho14 hb hg_ hnew_;clear hg_ hnew_;(first|rw [← Ny209.out] at ho14|(simp only [Int.reduceToNat] at ho14;rw [← Ny209.out] at ho14));have n0_:=zm (Kd.R_lower ho14 (below_size (by repeat (first|(with_reducible first|exact HB.out|apply zlA|apply zlN|apply zlD)|exact HB.out))));have n1_:=zm (below_step (by repeat (first|(with_reducible first|exact HB.out|apply zlA|apply zlN|apply zlD)|exact HB.out)) hb);clear HB;have HO211:=n0_;have HB:=n1_;clear n0_ n1_;clear hb ho14;obtain ⟨Ao15,co15,eo15⟩:=Kd.R_slice HO211.out;subst eo15)|((with_reducible refine gate_callee (f:=8) rfl ?_);refine goesL_ (some 13) rfl rfl Try.func8 (by kernel_rfl) rfl #[.int .i64 16,.slice Ao15 y209.length co15] rfl (by (try simp only [List.map_toArray,List.map_cons,List.map_nil]);first|done|rfl|(simp only [List.length_drop,List.length_take];rfl)) ?_;(with_reducible refine (pool_New.calls k 16 _ _ y209 t212 t215 t218 _ ?side1 ?side2 A1.out).mono ?_);(case side1=>repeat (first|exact (Kd.R_reads' HO211.out).2.2|(with_reducible refine Kd.C_alloc ?_ _)|(with_reducible refine Kd.C_drewN ?_ _)|(with_reducible refine Kd.C_drew ?_)));(case side2=>exact (Kd.R_reads' HO211.out).2.1);rintro e w16 ⟨v213,v216,rfl,ho0,ho1,hb⟩;refine ⟨_,rfl,?_⟩;have n0_:=zm (Kd.R_elder' (by (with_reducible repeat (first|apply zrA|apply zrN|apply zrD));exact HO211.out) (Kd.R_base ho0) hb);have n1_:=zm (Kd.R_lower (Kd.R_new' ho0 (Kd.R_lt (by (with_reducible repeat (first|apply zrA|apply zrN|apply zrD));exact HO211.out))) (below_size (by repeat (first|(with_reducible first|exact HB.out|apply zlA|apply zlN|apply zlD)|exact HB.out))));have n2_:=zm (Kd.R_lower ho1 (below_size (by repeat (first|(with_reducible first|exact HB.out|apply zlA|apply zlN|apply zlD)|exact HB.out))));have n3_:=zm (below_step (by repeat (first|(with_reducible first|exact HB.out|apply zlA|apply zlN|apply zlD)|exact HB.out)) hb);clear HO211 HB;have HO211:=n0_;have HO214:=n1_;have HO217:=n2_;have HB:=n3_;clear n0_ n1_ n2_ n3_;(try clear hb);(try clear hb2);(try clear hk);(try clear hi);(try clear ho0);(try clear ho1))|((with_reducible refine gate_dst (N:=1) rfl ?_);refine box_event ?hg (N:=1) ?hd (cs:=#[.slice none 0 0,.slice none 0 0]) (t:=25) ?hr ?_;(case hd=>rfl);(case hg=>rfl);(case hr=>first|(go_simp;done)|(go_simp;rfl));intro gb219 hg w17 hbox hb;have n0_:=zm (Kd.R_below (by (with_reducible repeat (first|apply zrA|apply zrN|apply zrD));exact HO211.out) hb);have n1_:=zm (Kd.R_below (by (with_reducible repeat (first|apply zrA|apply zrN|apply zrD));exact HO214.out) hb);have n2_:=zm (Kd.R_below (by (with_reducible repeat (first|apply zrA|apply zrN|apply zrD));exact HO217.out) hb);have n3_:=zm (below_step (by repeat (first|(with_reducible first|exact HB.out|apply zlA|apply zlN|apply zlD)|exact HB.out)) hb);have n4_:=zm (hbox);have n5_:=zm ((by rw [hg];exact (below_size (by repeat (first|(with_reducible first|exact HB.out|apply zlA|apply zlN|apply zlD)|exact HB.out))):w.heap.size≤gb219));have n6_:=zm ((by rw [hg];exact (below_size (by repeat (first|(with_reducible first|exact HB.out|apply zlA|apply zlN|apply zlD)|exact HB.out))):w.heap.size≤gb219));clear HO211 HO214 HO217 HB;have HO211:=n0_;have HO214:=n1_;have HO217:=n2_;have HB:=n3_;have BK219:=n4_;have GW219:=n5_;have GE219:=n6_;clear n0_ n1_ n2_ n3_ n4_ n5_ n6_;clear hb hbox hg;obtain ⟨Ao18,co18,eo18⟩:=Kd.R_slice HO214.out;subst eo18;have hcz19_0:w17.cell? ⟨gb219,0,none⟩=some (.slice none 0 0):=(blk_cell BK219.out 0).trans rfl;have hcz19_1:w17.cell? ⟨gb219,1,none⟩=some (.slice none 0 0):=(blk_cell BK219.out 1).trans rfl;have hfz19_0:=blk_frozen BK219.out 0;have hfz19_1:=blk_frozen BK219.out 1;obtain ⟨Ao20,co20,eo20⟩:=Kd.R_slice HO217.out;subst eo20)|((with_reducible refine gate_callee (f:=18) rfl ?_);refine goesL_ (some 18) rfl rfl Try.func18 (by kernel_rfl) rfl #[.agg #[.slice Ao18 t212.length co18,.slice Ao20 t215.length co20]] rfl (by (try simp only [List.map_toArray,List.map_cons,List.map_nil]);first|done|rfl|(simp only [List.length_drop,List.length_take];rfl)) ?_;(with_reducible refine (pool_Choose.calls k _ _ t212 _ _ t215 t220 true _ ?side1 ?side2 ?side3 ?side4 A2.out).mono ?_);(case side1=>refine (Kd.R_reads' (e:=3) (base:=w.heap.size) (ok:=fun k_=>(True∧some k_≠(.slice Ao15 y209.length co15:Value).ownBlock)) (n:=t212.length) (c:=co18) ?_).2.2;exact (by (with_reducible repeat (first|apply zrA|apply zrN|apply zrD));exact (Kd.R_mono (Kd.R_far (p:=⟨gb219,1,none⟩) (Kd.R_far (p:=⟨gb219,0,none⟩) (Kd.R_types HO214.out BK219.out (by decide)) (fun _ hk=>hk.2) (.slice Ao18 t212.length co18)) (fun _ hk=>hk.2) (.slice Ao20 t215.length co20)) (fun _ h_=>h_.1))));(case side2=>exact (Kd.R_reads' HO214.out).2.1);(case side3=>refine (Kd.R_reads' (e:=2) (base:=w.heap.size) (ok:=fun k_=>True) (n:=t215.length) (c:=co20) ?_).2.2;exact (by (with_reducible repeat (first|apply zrA|apply zrN|apply zrD));exact (Kd.R_mono (Kd.R_far (p:=⟨gb219,1,none⟩) (Kd.R_far (p:=⟨gb219,0,none⟩) (Kd.R_types HO217.out BK219.out (by decide)) (fun _ hk=>hk.2) (.slice Ao18 t212.length co18)) (fun _ hk=>hk.2) (.slice Ao20 t215.length co20)) (fun _ h_=>h_.1))));(case side4=>exact (Kd.R_reads' HO217.out).2.1);rintro e w21 ⟨rfl,hb⟩;refine ⟨_,rfl,?_⟩;have n0_:=zm (Kd.R_below (by (with_reducible repeat (first|apply zrA|apply zrN|apply zrD));exact (Kd.R_mono (Kd.R_far (p:=⟨gb219,1,none⟩) (Kd.R_far (p:=⟨gb219,0,none⟩) (Kd.R_types HO211.out BK219.out (by decide)) (fun _ hk=>hk.2) (.slice Ao18 t212.length co18)) (fun _ hk=>hk.2) (.slice Ao20 t215.length co20)) (fun _ h_=>h_.1))) hb);have n1_:=zm (Kd.R_below (by (with_reducible repeat (first|apply zrA|apply zrN|apply zrD));exact (Kd.R_mono (Kd.R_far (p:=⟨gb219,1,none⟩) (Kd.R_far (p:=⟨gb219,0,none⟩) (Kd.R_types HO214.out BK219.out (by decide)) (fun _ hk=>hk.2) (.slice Ao18 t212.length co18)) (fun _ hk=>hk.2) (.slice Ao20 t215.length co20)) (fun _ h_=>h_.1))) hb);have n2_:=zm (Kd.R_below (by (with_reducible repeat (first|apply zrA|apply zrN|apply zrD));exact (Kd.R_mono (Kd.R_far (p:=⟨gb219,1,none⟩) (Kd.R_far (p:=⟨gb219,0,none⟩) (Kd.R_types HO217.out BK219.out (by decide)) (fun _ hk=>hk.2) (.slice Ao18 t212.length co18)) (fun _ hk=>hk.2) (.slice Ao20 t215.length co20)) (fun _ h_=>h_.1))) hb);have n3_:=zm (zbB (g:=gb219) (o:=.cells #[.slice Ao18 t212.length co18,.slice Ao20 t215.length co20] 25 (0,0)) (by (with_reducible repeat (first|refine zbN ?_ _|refine zbD ?_|refine zbA ?_ _));refine blk_put (cs:=#[.slice Ao18 t212.length co18,.slice none 0 0]) ?_ 1 _ rfl;(with_reducible repeat (first|refine zbN ?_ _|refine zbD ?_|refine zbA ?_ _));refine blk_put (cs:=#[.slice none 0 0,.slice none 0 0]) ?_ 0 _ rfl;(with_reducible repeat (first|refine zbN ?_ _|refine zbD ?_|refine zbA ?_ _));exact BK219.out) hb);have n4_:=zm (below_step (by repeat (first|(with_reducible first|exact HB.out|apply zlA|apply zlN|apply zlD|refine zlS ?_ GE219.out)|exact HB.out)) hb);clear HO211 HO214 HO217 BK219 HB;have HO211:=n0_;have HO214:=n1_;have HO217:=n2_;have BK219:=n3_;have HB:=n4_;clear n0_ n1_ n2_ n3_ n4_;(try clear hb);(try clear hb2);(try clear hk);(try clear hi);have hcz22_0:w21.cell? ⟨gb219,0,none⟩=some (.slice Ao18 t212.length co18):=(blk_cell BK219.out 0).trans rfl;have hcz22_1:w21.cell? ⟨gb219,1,none⟩=some (.slice Ao20 t215.length co20):=(blk_cell BK219.out 1).trans rfl;have hfz22_0:=blk_frozen BK219.out 0;have hfz22_1:=blk_frozen BK219.out 1)|((with_reducible refine gate_callee (f:=19) rfl ?_);refine goesL_ (some 23) rfl rfl Try.func19 (by kernel_rfl) rfl #[.agg #[.slice Ao18 t212.length co18,.slice Ao20 t215.length co20],.int .i64 1,.int .i64 2] rfl (by (try simp only [List.map_toArray,List.map_cons,List.map_nil]);first|done|rfl|(simp only [List.length_drop,List.length_take];rfl)) ?_;(with_reducible refine (pool_Take.calls k _ _ t212 _ _ t215 1 2 t222 t225 t228 _ ?side1 ?side2 ?side3 ?side4 A3.out).mono ?_);(case side1=>repeat (first|exact (Kd.R_reads' HO214.out).2.2|(with_reducible refine Kd.C_alloc ?_ _)|(with_reducible refine Kd.C_drewN ?_ _)|(with_reducible refine Kd.C_drew ?_)));(case side2=>exact (Kd.R_reads' HO214.out).2.1);(case side3=>repeat (first|exact (Kd.R_reads' HO217.out).2.2|(with_reducible refine Kd.C_alloc ?_ _)|(with_reducible refine Kd.C_drewN ?_ _)|(with_reducible refine Kd.C_drew ?_)));(case side4=>exact (Kd.R_reads' HO217.out).2.1);rintro e w23 ⟨v223,v226,rfl,ho0,ho1,hb⟩;refine ⟨_,rfl,?_⟩;have n0_:=zm (Kd.R_elder' (by (with_reducible repeat (first|apply zrA|apply zrN|apply zrD));exact HO211.out) (Kd.R_base ho0) hb);have n1_:=zm (Kd.R_elder' (by (with_reducible repeat (first|apply zrA|apply zrN|apply zrD));exact HO214.out) (Kd.R_base ho0) hb);have n2_:=zm (Kd.R_elder' (by (with_reducible repeat (first|apply zrA|apply zrN|apply zrD));exact HO217.out) (Kd.R_base ho1) hb);have n3_:=zm (Kd.R_lower (Kd.R_new' (Kd.R_new' ho0 (Kd.R_lt (by (with_reducible repeat (first|apply zrA|apply zrN|apply zrD));exact HO211.out))) (Kd.R_lt (by (with_reducible repeat (first|apply zrA|apply zrN|apply zrD));exact HO214.out))) (below_size (by repeat (first|(with_reducible first|exact HB.out|apply zlA|apply zlN|apply zlD|refine zlS ?_ GE219.out)|exact HB.out))));have n4_:=zm (Kd.R_lower (Kd.R_new' ho1 (Kd.R_lt (by (with_reducible repeat (first|apply zrA|apply zrN|apply zrD));exact HO217.out))) (below_size (by repeat (first|(with_reducible first|exact HB.out|apply zlA|apply zlN|apply zlD|refine zlS ?_ GE219.out)|exact HB.out))));have n5_:=zm (zbB (g:=gb219) (o:=.cells #[.slice Ao18 t212.length co18,.slice Ao20 t215.length co20] 25 (0,0)) (by (with_reducible repeat (first|refine zbN ?_ _|refine zbD ?_|refine zbA ?_ _));exact BK219.out) hb);have n6_:=zm (below_step (by repeat (first|(with_reducible first|exact HB.out|apply zlA|apply zlN|apply zlD|refine zlS ?_ GE219.out)|exact HB.out)) hb);clear HO211 HO214 HO217 BK219 HB;have HO211:=n0_;have HO214:=n1_;have HO217:=n2_;have HO224:=n3_;have HO227:=n4_;have BK219:=n5_;have HB:=n6_;clear n0_ n1_ n2_ n3_ n4_ n5_ n6_;(try clear hb);(try clear hb2);(try clear hk);(try clear hi);(try clear ho0);(try clear ho1))|((with_reducible refine gate_dst (N:=5) rfl ?_);refine box_event ?hg (N:=5) ?hd (cs:=#[.slice none 0 0,.slice none 0 0]) (t:=25) ?hr ?_;(case hd=>rfl);(case hg=>rfl);(case hr=>first|(go_simp;done)|(go_simp;rfl));intro gb229 hg w24 hbox hb;have n0_:=zm (Kd.R_below (by (with_reducible repeat (first|apply zrA|apply zrN|apply zrD));exact HO211.out) hb);have n1_:=zm (Kd.R_below (by (with_reducible repeat (first|apply zrA|apply zrN|apply zrD));exact HO214.out) hb);have n2_:=zm (Kd.R_below (by (with_reducible repeat (first|apply zrA|apply zrN|apply zrD));exact HO217.out) hb);have n3_:=zm (Kd.R_below (by (with_reducible repeat (first|apply zrA|apply zrN|apply zrD));exact HO224.out) hb);have n4_:=zm (Kd.R_below (by (with_reducible repeat (first|apply zrA|apply zrN|apply zrD));exact HO227.out) hb);have n5_:=zm (zbB (g:=gb219) (o:=.cells #[.slice Ao18 t212.length co18,.slice Ao20 t215.length co20] 25 (0,0)) (by (with_reducible repeat (first|refine zbN ?_ _|refine zbD ?_|refine zbA ?_ _));exact BK219.out) hb);have n6_:=zm (below_step (by repeat (first|(with_reducible first|exact HB.out|apply zlA|apply zlN|apply zlD|refine zlS ?_ GE219.out)|exact HB.out)) hb);have n7_:=zm (hbox);have n8_:=zm ((by rw [hg];exact (below_size (by repeat (first|(with_reducible first|exact HB.out|apply zlA|apply zlN|apply zlD|refine zlS ?_ GE219.out)|exact HB.out))):w.heap.size≤gb229));have n9_:=zm ((by rw [hg];exact (below_size (by repeat (first|(with_reducible first|exact HB.out|apply zlA|apply zlN|apply zlD|refine zlS ?_ GE219.out)|exact HB.out))):w.heap.size≤gb229));have n10_:=zm ((by rw [hg];exact Nat.ne_of_lt (blk_lt (g:=gb219) (o:=.cells #[.slice Ao18 t212.length co18,.slice Ao20 t215.length co20] 25 (0,0)) (by (with_reducible repeat (first|refine zbN ?_ _|refine zbD ?_|refine zbA ?_ _));exact BK219.out)):gb219≠gb229));have n11_:=zm ((by rw [hg];exact Nat.ne_of_gt (blk_lt (g:=gb219) (o:=.cells #[.slice Ao18 t212.length co18,.slice Ao20 t215.length co20] 25 (0,0)) (by (with_reducible repeat (first|refine zbN ?_ _|refine zbD ?_|refine zbA ?_ _));exact BK219.out)):gb229≠gb219));clear HO211 HO214 HO217 HO224 HO227 BK219 HB;have HO211:=n0_;have HO214:=n1_;have HO217:=n2_;have HO224:=n3_;have HO227:=n4_;have BK219:=n5_;have HB:=n6_;have BK229:=n7_;have GW229:=n8_;have GE229:=n9_;have NB219_229:=n10_;have NB229_219:=n11_;clear n0_ n1_ n2_ n3_ n4_ n5_ n6_ n7_ n8_ n9_ n10_ n11_;clear hb hbox hg;obtain ⟨Ao25,co25,eo25⟩:=Kd.R_slice HO224.out;subst eo25;have hnb26:=NB229_219.out;have hnc26:=NB219_229.out;have hcz27_0:w24.cell? ⟨gb229,0,none⟩=some (.slice none 0 0):=(blk_cell BK229.out 0).trans rfl;have hcz27_1:w24.cell? ⟨gb229,1,none⟩=some (.slice none 0 0):=(blk_cell BK229.out 1).trans rfl;have hfz27_0:=blk_frozen BK229.out 0;have hfz27_1:=blk_frozen BK229.out 1;obtain ⟨Ao28,co28,eo28⟩:=Kd.R_slice HO227.out;subst eo28)|((with_reducible refine gate_callee (f:=18) rfl ?_);refine goesL_ (some 28) rfl rfl Try.func18 (by kernel_rfl) rfl #[.agg #[.slice Ao25 t222.length co25,.slice Ao28 t225.length co28]] rfl (by (try simp only [List.map_toArray,List.map_cons,List.map_nil]);first|done|rfl|(simp only [List.length_drop,List.length_take];rfl)) ?_;(with_reducible refine (pool_Choose.calls k _ _ t222 _ _ t225 t230 true _ ?side1 ?side2 ?side3 ?side4 A4.out).mono ?_);(case side1=>refine (Kd.R_reads' (e:=3) (base:=w.heap.size) (ok:=fun k_=>((True∧some k_≠(.slice Ao15 y209.length co15:Value).ownBlock)∧some k_≠(.slice Ao18 t212.length co18:Value).ownBlock)) (n:=t222.length) (c:=co25) ?_).2.2;exact (by (with_reducible repeat (first|apply zrA|apply zrN|apply zrD));exact (Kd.R_mono (Kd.R_far (p:=⟨gb229,1,none⟩) (Kd.R_far (p:=⟨gb229,0,none⟩) (Kd.R_types HO224.out BK229.out (by decide)) (fun _ hk=>hk.2) (.slice Ao25 t222.length co25)) (fun _ hk=>hk.2) (.slice Ao28 t225.length co28)) (fun _ h_=>h_.1))));(case side2=>exact (Kd.R_reads' HO224.out).2.1);(case side3=>refine (Kd.R_reads' (e:=2) (base:=w.heap.size) (ok:=fun k_=>(True∧some k_≠(.slice Ao20 t215.length co20:Value).ownBlock)) (n:=t225.length) (c:=co28) ?_).2.2;exact (by (with_reducible repeat (first|apply zrA|apply zrN|apply zrD));exact (Kd.R_mono (Kd.R_far (p:=⟨gb229,1,none⟩) (Kd.R_far (p:=⟨gb229,0,none⟩) (Kd.R_types HO227.out BK229.out (by decide)) (fun _ hk=>hk.2) (.slice Ao25 t222.length co25)) (fun _ hk=>hk.2) (.slice Ao28 t225.length co28)) (fun _ h_=>h_.1))));(case side4=>exact (Kd.R_reads' HO227.out).2.1);rintro e w29 ⟨rfl,hb⟩;refine ⟨_,rfl,?_⟩;have n0_:=zm (Kd.R_below (by (with_reducible repeat (first|apply zrA|apply zrN|apply zrD));exact (Kd.R_mono (Kd.R_far (p:=⟨gb229,1,none⟩) (Kd.R_far (p:=⟨gb229,0,none⟩) (Kd.R_types HO211.out BK229.out (by decide)) (fun _ hk=>hk.2) (.slice Ao25 t222.length co25)) (fun _ hk=>hk.2) (.slice Ao28 t225.length co28)) (fun _ h_=>h_.1))) hb);have n1_:=zm (Kd.R_below (by (with_reducible repeat (first|apply zrA|apply zrN|apply zrD));exact (Kd.R_mono (Kd.R_far (p:=⟨gb229,1,none⟩) (Kd.R_far (p:=⟨gb229,0,none⟩) (Kd.R_types HO214.out BK229.out (by decide)) (fun _ hk=>hk.2) (.slice Ao25 t222.length co25)) (fun _ hk=>hk.2) (.slice Ao28 t225.length co28)) (fun _ h_=>h_.1))) hb);have n2_:=zm (Kd.R_below (by (with_reducible repeat (first|apply zrA|apply zrN|apply zrD));exact (Kd.R_mono (Kd.R_far (p:=⟨gb229,1,none⟩) (Kd.R_far (p:=⟨gb229,0,none⟩) (Kd.R_types HO217.out BK229.out (by decide)) (fun _ hk=>hk.2) (.slice Ao25 t222.length co25)) (fun _ hk=>hk.2) (.slice Ao28 t225.length co28)) (fun _ h_=>h_.1))) hb);have n3_:=zm (Kd.R_below (by (with_reducible repeat (first|apply zrA|apply zrN|apply zrD));exact (Kd.R_mono (Kd.R_far (p:=⟨gb229,1,none⟩) (Kd.R_far (p:=⟨gb229,0,none⟩) (Kd.R_types HO224.out BK229.out (by decide)) (fun _ hk=>hk.2) (.slice Ao25 t222.length co25)) (fun _ hk=>hk.2) (.slice Ao28 t225.length co28)) (fun _ h_=>h_.1))) hb);have n4_:=zm (Kd.R_below (by (with_reducible repeat (first|apply zrA|apply zrN|apply zrD));exact (Kd.R_mono (Kd.R_far (p:=⟨gb229,1,none⟩) (Kd.R_far (p:=⟨gb229,0,none⟩) (Kd.R_types HO227.out BK229.out (by decide)) (fun _ hk=>hk.2) (.slice Ao25 t222.length co25)) (fun _ hk=>hk.2) (.slice Ao28 t225.length co28)) (fun _ h_=>h_.1))) hb);have n5_:=zm (zbB (g:=gb219) (o:=.cells #[.slice Ao18 t212.length co18,.slice Ao20 t215.length co20] 25 (0,0)) (by (with_reducible repeat (first|refine zbN ?_ _|refine zbD ?_|refine zbA ?_ _));refine blk_far ?_ NB219_229.out _;(with_reducible repeat (first|refine zbN ?_ _|refine zbD ?_|refine zbA ?_ _));refine blk_far ?_ NB219_229.out _;(with_reducible repeat (first|refine zbN ?_ _|refine zbD ?_|refine zbA ?_ _));exact BK219.out) hb);have n6_:=zm (zbB (g:=gb229) (o:=.cells #[.slice Ao25 t222.length co25,.slice Ao28 t225.length co28] 25 (0,0)) (by (with_reducible repeat (first|refine zbN ?_ _|refine zbD ?_|refine zbA ?_ _));refine blk_put (cs:=#[.slice Ao25 t222.length co25,.slice none 0 0]) ?_ 1 _ rfl;(with_reducible repeat (first|refine zbN ?_ _|refine zbD ?_|refine zbA ?_ _));refine blk_put (cs:=#[.slice none 0 0,.slice none 0 0]) ?_ 0 _ rfl;(with_reducible repeat (first|refine zbN ?_ _|refine zbD ?_|refine zbA ?_ _));exact BK229.out) hb);have n7_:=zm (below_step (by repeat (first|(with_reducible first|exact HB.out|apply zlA|apply zlN|apply zlD|refine zlS ?_ GE219.out|refine zlS ?_ GE229.out)|exact HB.out)) hb);clear HO211 HO214 HO217 HO224 HO227 BK219 BK229 HB;have HO211:=n0_;have HO214:=n1_;have HO217:=n2_;have HO224:=n3_;have HO227:=n4_;have BK219:=n5_;have BK229:=n6_;have HB:=n7_;clear n0_ n1_ n2_ n3_ n4_ n5_ n6_ n7_;(try clear hb);(try clear hb2);(try clear hk);(try clear hi))|((with_reducible refine gate_callee (f:=10) rfl ?_);refine goesL_ (some 33) rfl rfl Try.func10 (by kernel_rfl) rfl #[.agg #[.int .i64 16,.int .i64 4],.int .i64 1,.int .i64 2,.int .i64 2] rfl (by (try simp only [List.map_toArray,List.map_cons,List.map_nil]);first|done|rfl|(simp only [List.length_drop,List.length_take];rfl)) ?_;(with_reducible refine (pool_Capacity.calls k 16 4 1 2 2 t232 t233 _ A5.out).mono ?_);rintro e w30 ⟨rfl,hb⟩;refine ⟨_,rfl,?_⟩;have n0_:=zm (Kd.R_below (by (with_reducible repeat (first|apply zrA|apply zrN|apply zrD));exact HO211.out) hb);have n1_:=zm (Kd.R_below (by (with_reducible repeat (first|apply zrA|apply zrN|apply zrD));exact HO214.out) hb);have n2_:=zm (Kd.R_below (by (with_reducible repeat (first|apply zrA|apply zrN|apply zrD));exact HO217.out) hb);have n3_:=zm (Kd.R_below (by (with_reducible repeat (first|apply zrA|apply zrN|apply zrD));exact HO224.out) hb);have n4_:=zm (Kd.R_below (by (with_reducible repeat (first|apply zrA|apply zrN|apply zrD));exact HO227.out) hb);have n5_:=zm (zbB (g:=gb219) (o:=.cells #[.slice Ao18 t212.length co18,.slice Ao20 t215.length co20] 25 (0,0)) (by (with_reducible repeat (first|refine zbN ?_ _|refine zbD ?_|refine zbA ?_ _));exact BK219.out) hb);have n6_:=zm (zbB (g:=gb229) (o:=.cells #[.slice Ao25 t222.length co25,.slice Ao28 t225.length co28] 25 (0,0)) (by (with_reducible repeat (first|refine zbN ?_ _|refine zbD ?_|refine zbA ?_ _));exact BK229.out) hb);have n7_:=zm (below_step (by repeat (first|(with_reducible first|exact HB.out|apply zlA|apply zlN|apply zlD|refine zlS ?_ GE219.out|refine zlS ?_ GE229.out)|exact HB.out)) hb);clear HO211 HO214 HO217 HO224 HO227 BK219 BK229 HB;have HO211:=n0_;have HO214:=n1_;have HO217:=n2_;have HO224:=n3_;have HO227:=n4_;have BK219:=n5_;have BK229:=n6_;have HB:=n7_;clear n0_ n1_ n2_ n3_ n4_ n5_ n6_ n7_;(try clear hb);(try clear hb2);(try clear hk);(try clear hi)))
        go_ret
        exact ⟨by first|rfl|(simp [errW_none,errW_some] <;> rfl)|(simp [*,errW_none,errW_some] <;> rfl),by repeat (first|(with_reducible first|exact HB.out|apply zlA|apply zlN|apply zlD|refine zlS ?_ GE219.out|refine zlS ?_ GE229.out)|exact HB.out)⟩
       ·rw [if_neg c12] at H
        exact absurd H (by simp)
      ·replace c11:=Bool.eq_false_iff.mpr c11
       subst c11
       have H1:(none)=some r:=by rw [if_neg (show ¬ (false=true) by decide)] at H;exact H
       clear H
       have H:=H1
       clear H1
       exact absurd H (by simp)
     ·rw [if_neg c10] at H
      exact absurd H (by simp)
    ·rw [if_neg c9] at H
     exact absurd H (by simp)
   ·replace c8:=Bool.eq_false_iff.mpr c8
    subst c8
    have H1:(none)=some r:=by rw [if_neg (show ¬ (false=true) by decide)] at H;exact H
    clear H
    have H:=H1
    clear H1
    exact absurd H (by simp)
  ·rw [if_neg c7] at H
   exact absurd H (by simp)
 ·rw [if_neg c6] at H
  exact absurd H (by simp)
end Go.Proofs.Ytlegmnpngcadhaa.Print
end
section
namespace Go.Proofs.Ytlegmnpngcadhaa.Print
open Go.RowKit Go.Proofs.YtlegmnpngcadhaaW.PrintWords Go.Proofs.YtlegmnpngcadhaaW.PrintLast Go.Proofs.YtlegmnpngcadhaaW.PrintMore
attribute [local go_sem] max2_int min2_int max_two min_two max_three min_three max_four min_four   -- for this text's walks alone
attribute [local go_sem ↓] Go.Proofs.Ytlegmnpngcadhaa.Sem.isSome_setCell
attribute [local go_sem] Go.Instr.field Go.asAgg
set_option linter.unusedVariables false
set_option linter.unusedSimpArgs false
def pool_Count.f (k:Nat) (l0_0:List Int) (l0_1:List Int) (a1:Int):Option (Int):=(pool_of.f k l0_0 l0_1 a1).bind fun t272=>(some (t272.length:Int))
set_option maxHeartbeats 8000000 in
set_option maxRecDepth 100000 in
theorem pool_Count.calls (k:Nat) (A0_0:Option Addr) (c0_0:Nat) (l0_0:List Int) (A0_1:Option Addr) (c0_1:Nat) (l0_1:List Int) (a1:Int) (r:Int) (w:World) (hr0_0:Kd.C (Kd.int .i64) w A0_0 l0_0.length l0_0) (hc0_0:l0_0.length≤c0_0) (hr0_1:Kd.C (Kd.int .i64) w A0_1 l0_1.length l0_1) (hc0_1:l0_1.length≤c0_1) (h:pool_Count.f k l0_0 l0_1 a1=some r) :
  Calls Try.prog 16 #[.agg #[.slice A0_0 l0_0.length c0_0,.slice A0_1 l0_1.length c0_1],.int .i64 a1] w fun e w'=>e=.returned (.int .i64 r)∧Below w.heap.size w w':=by
 have hu25:=Try.underlying25
 have HR0_0:=zm hr0_0
 have HC0_0:=zm hc0_0
 clear hr0_0 hc0_0
 have HR0_1:=zm hr0_1
 have HC0_1:=zm hc0_1
 clear hr0_1 hc0_1
 have HB:=zm (Below.refl w.heap.size w)
 have H:((pool_of.f k l0_0 l0_1 a1).bind fun t272=>(some (t272.length:Int)))=some r:=h
 clear h
 replace H:=Option.bind_eq_some_iff.mp H
 obtain ⟨t272,A30,H⟩:=H
 replace H:(some (t272.length:Int))=some r:=H
 have A3:=zm A30
 clear A30
 obtain rfl:=Option.some.inj H
 go_enter Try.func16,Try.ntmps16
 go_wp2_with (first|((with_reducible refine gate_dst (N:=2) rfl ?_);refine box_event ?hg (N:=2) ?hd (cs:=#[.slice A0_0 l0_0.length c0_0,.slice A0_1 l0_1.length c0_1]) (t:=25) ?hr ?_;(case hd=>rfl);(case hg=>rfl);(case hr=>first|(go_simp;done)|(go_simp;rfl));intro gb271 hg w4 hbox hb;have n0_:=zm (below_step (by repeat (first|(with_reducible first|exact HB.out|apply zlA|apply zlN|apply zlD)|exact HB.out)) hb);have n1_:=zm (hbox);have n2_:=zm ((by rw [hg];exact (below_size (by repeat (first|(with_reducible first|exact HB.out|apply zlA|apply zlN|apply zlD)|exact HB.out))):w.heap.size≤gb271));have n3_:=zm ((by rw [hg];exact (below_size (by repeat (first|(with_reducible first|exact HB.out|apply zlA|apply zlN|apply zlD)|exact HB.out))):w.heap.size≤gb271));clear HB;have HB:=n0_;have BK271:=n1_;have GW271:=n2_;have GE271:=n3_;clear n0_ n1_ n2_ n3_;clear hb hbox hg;have hcz5_0:w4.cell? ⟨gb271,0,none⟩=some (.slice A0_0 l0_0.length c0_0):=(blk_cell BK271.out 0).trans rfl;have hcz5_1:w4.cell? ⟨gb271,1,none⟩=some (.slice A0_1 l0_1.length c0_1):=(blk_cell BK271.out 1).trans rfl;have hfz5_0:=blk_frozen BK271.out 0;have hfz5_1:=blk_frozen BK271.out 1)|((with_reducible refine gate_callee (f:=39) rfl ?_);refine goesL_ (some 7) rfl rfl Try.func39 (by kernel_rfl) rfl #[.agg #[.slice A0_0 l0_0.length c0_0,.slice A0_1 l0_1.length c0_1],.int .i64 a1] rfl (by (try simp only [List.map_toArray,List.map_cons,List.map_nil]);first|done|rfl|(simp only [List.length_drop,List.length_take];rfl)) ?_;(with_reducible refine (pool_of.calls k _ _ l0_0 _ _ l0_1 a1 t272 _ ?side1 ?side2 ?side3 ?side4 A3.out).mono ?_);(case side1=>repeat (first|exact (Kd.C_below HR0_0.out HB.out)|(with_reducible refine Kd.C_alloc ?_ _)|(with_reducible refine Kd.C_drewN ?_ _)|(with_reducible refine Kd.C_drew ?_)));(case side2=>exact HC0_0.out);(case side3=>repeat (first|exact (Kd.C_below HR0_1.out HB.out)|(with_reducible refine Kd.C_alloc ?_ _)|(with_reducible refine Kd.C_drewN ?_ _)|(with_reducible refine Kd.C_drew ?_)));(case side4=>exact HC0_1.out);rintro e w6 ⟨v273,rfl,ho0,hb⟩;refine ⟨_,rfl,?_⟩;have n0_:=zm (Kd.R_lower ho0 (below_size (by repeat (first|(with_reducible first|exact HB.out|apply zlA|apply zlN|apply zlD|refine zlS ?_ GE271.out)|exact HB.out))));have n1_:=zm (zbB (g:=gb271) (o:=.cells #[.slice A0_0 l0_0.length c0_0,.slice A0_1 l0_1.length c0_1] 25 (0,0)) (by (with_reducible repeat (first|refine zbN ?_ _|refine zbD ?_|refine zbA ?_ _));exact BK271.out) hb);have n2_:=zm (below_step (by repeat (first|(with_reducible first|exact HB.out|apply zlA|apply zlN|apply zlD|refine zlS ?_ GE271.out)|exact HB.out)) hb);clear BK271 HB;have HO274:=n0_;have BK271:=n1_;have HB:=n2_;clear n0_ n1_ n2_;(try clear hb);(try clear hb2);(try clear hk);(try clear hi);(try clear ho0);obtain ⟨Ao7,co7,eo7⟩:=Kd.R_slice HO274.out;subst eo7))
 go_ret
 exact ⟨by first|rfl|(simp [errW_none,errW_some] <;> rfl)|(simp [*,errW_none,errW_some] <;> rfl),by repeat (first|(with_reducible first|exact HB.out|apply zlA|apply zlN|apply zlD|refine zlS ?_ GE271.out)|exact HB.out)⟩
def slices_Equal_int_int.l0:Nat → List Int → List Int → Int → Int → Option (Bool)
 | 0,_,_,_,_=>none
 | k + 1,x0,x1,x12,x13=>if x13 < x12 then (if 0≤x13 then (if x13 < (x0.length:Int) then (if x13 < (x1.length:Int) then (if (rd x0 x13)=(rd x1 x13) then (slices_Equal_int_int.l0 k x0 x1 x12 (wrap64 (x13 + 1))) else (some false)) else (none)) else (none)) else (none)) else (some true)
def slices_Equal_int_int.f (k:Nat) (l0:List Int) (l1:List Int):Option (Bool):=if (l0.length:Int)=(l1.length:Int) then (slices_Equal_int_int.l0 k l0 l1 (l0.length:Int) 0) else (some false)
set_option maxHeartbeats 8000000 in
set_option maxRecDepth 100000 in
theorem slices_Equal_int_int.calls (k:Nat) (A0:Option Addr) (c0:Nat) (l0:List Int) (A1:Option Addr) (c1:Nat) (l1:List Int) (r:Bool) (w:World) (hr0:Kd.C (Kd.int .i64) w A0 l0.length l0) (hc0:l0.length≤c0) (hr1:Kd.C (Kd.int .i64) w A1 l1.length l1) (hc1:l1.length≤c1) (h:slices_Equal_int_int.f k l0 l1=some r) :
  Calls Try.prog 27 #[.slice A0 l0.length c0,.slice A1 l1.length c1] w fun e w'=>e=.returned (.bool r)∧Drawn0 w w':=by
 have HR0:=zm hr0
 have HC0:=zm hc0
 clear hr0 hc0
 have HR1:=zm hr1
 have HC1:=zm hc1
 clear hr1 hc1
 have H:(if (l0.length:Int)=(l1.length:Int) then (slices_Equal_int_int.l0 k l0 l1 (l0.length:Int) 0) else (some false))=some r:=h
 clear h
 by_cases c3:(l0.length:Int)=(l1.length:Int)
 ·rw [if_pos c3] at H
  have c3b0:((l0.length:Int) == (l1.length:Int))=true:=beq_iff_eq.mpr c3
  have c3b1:((l0.length:Int) != (l1.length:Int))=false:=bne_eq_false_iff_eq.mpr c3
  have c3b2:(l0.length == l1.length)=true:=by first|simpa using c3|(simp at c3 ⊢;omega)
  clear c3
  have H':=zm H
  clear H
  go_enter Try.func27,Try.ntmps27
  go_wp2
  repeat (go_quiet (fail);try go_wp2)
  go_loopg [13] k (fun kq v13 w'=>∃ (x13_1:Int),v13=.int .i64 x13_1∧Aside0 (slices_Equal_int_int.l0 kq l0 l1 (l0.length:Int) x13_1=some r)∧Aside0 (kq≤k)∧Drawn0 w w')
  case atStart=>exact ⟨(0),(by first|rfl|(simp;done)|(simp [*];done)),H',⟨Nat.le_refl _⟩,by repeat (first|exact Drawn0.refl _|apply Drawn0.step)⟩
  case round =>
   clear H'
   try clear c1
   try clear c2
   try clear p2
   try clear c3
   try clear c3b0
   try clear c3b1
   try clear c3b2
   obtain ⟨x13_1,rfl,HA,HK1,⟨m1,rfl⟩⟩:=hrel
   cases gk with
   | zero=>exact absurd HA.out (by simp [slices_Equal_int_int.l0])
   | succ k1 =>
    have H:=HA.out
    clear HA
    simp only [slices_Equal_int_int.l0] at H
    by_cases c4:x13_1 < (l0.length:Int)
    ·rw [if_pos c4] at H
     have c4b0:decide (x13_1 < (l0.length:Int))=true:=decide_eq_true c4
     clear c4
     by_cases c5:0≤x13_1
     ·rw [if_pos c5] at H
      have c5b0:decide (0≤x13_1)=true:=decide_eq_true c5
      clear c5
      by_cases c6:x13_1 < (l0.length:Int)
      ·rw [if_pos c6] at H
       have c6b0:decide (x13_1 < (l0.length:Int))=true:=decide_eq_true c6
       clear c6
       by_cases c7:x13_1 < (l1.length:Int)
       ·rw [if_pos c7] at H
        have c7b0:decide (x13_1 < (l1.length:Int))=true:=decide_eq_true c7
        clear c7
        by_cases c8:(rd l0 x13_1)=(rd l1 x13_1)
        ·rw [if_pos c8] at H
         have c8b0:((rd l0 x13_1) == (rd l1 x13_1))=true:=beq_iff_eq.mpr c8
         have c8b1:((rd l0 x13_1) != (rd l1 x13_1))=false:=bne_eq_false_iff_eq.mpr c8
         clear c8
         have H':=zm H
         clear H
         have p275:0≤(x13_1:Int):=of_decide_eq_true (by first|(with_reducible assumption)|assumption)
         have q275:x13_1 < (l0.length:Int):=of_decide_eq_true (by first|(with_reducible assumption)|assumption)
         obtain ⟨ad275,e275,hx275_0⟩:=Kd.at_int HR0.out x13_1 p275 q275
         cases e275
         replace p275:=eq_true p275
         replace q275:=eq_true q275
         have p276:0≤(x13_1:Int):=of_decide_eq_true (by first|(with_reducible assumption)|assumption)
         have q276:x13_1 < (l1.length:Int):=of_decide_eq_true (by first|(with_reducible assumption)|assumption)
         obtain ⟨ad276,e276,hx276_0⟩:=Kd.at_int HR1.out x13_1 p276 q276
         cases e276
         replace p276:=eq_true p276
         replace q276:=eq_true q276
         go_wp2
         repeat (go_quiet (fail);try go_wp2)
         go_roundg k1
         case measure=>have:=HK1.out;omega
         case rel=>exact ⟨(wrap64 (x13_1 + 1)),(by first|rfl|(simp;done)|(simp [*];done)),H',⟨by have:=HK1.out;omega⟩,by repeat (first|exact Drawn0.refl _|apply Drawn0.step)⟩
        ·rw [if_neg c8] at H
         have c8b0:((rd l0 x13_1) == (rd l1 x13_1))=false:=beq_eq_false_iff_ne.mpr c8
         have c8b1:((rd l0 x13_1) != (rd l1 x13_1))=true:=bne_iff_ne.mpr c8
         obtain rfl:=Option.some.inj H
         have p275:0≤(x13_1:Int):=of_decide_eq_true (by first|(with_reducible assumption)|assumption)
         have q275:x13_1 < (l0.length:Int):=of_decide_eq_true (by first|(with_reducible assumption)|assumption)
         obtain ⟨ad275,e275,hx275_0⟩:=Kd.at_int HR0.out x13_1 p275 q275
         cases e275
         replace p275:=eq_true p275
         replace q275:=eq_true q275
         have p276:0≤(x13_1:Int):=of_decide_eq_true (by first|(with_reducible assumption)|assumption)
         have q276:x13_1 < (l1.length:Int):=of_decide_eq_true (by first|(with_reducible assumption)|assumption)
         obtain ⟨ad276,e276,hx276_0⟩:=Kd.at_int HR1.out x13_1 p276 q276
         cases e276
         replace p276:=eq_true p276
         replace q276:=eq_true q276
         go_wp2
         repeat (go_quiet (fail);try go_wp2)
         go_ret
         exact ⟨by first|rfl|(simp;done)|(simp [*];done),by repeat (first|exact Drawn0.refl _|apply Drawn0.step)⟩
       ·rw [if_neg c7] at H
        exact absurd H (by simp)
      ·rw [if_neg c6] at H
       exact absurd H (by simp)
     ·rw [if_neg c5] at H
      exact absurd H (by simp)
    ·rw [if_neg c4] at H
     have c4b0:decide (x13_1 < (l0.length:Int))=false:=decide_eq_false c4
     clear c4
     obtain rfl:=Option.some.inj H
     go_wp2
     repeat (go_quiet (fail);try go_wp2)
     go_ret
     exact ⟨by first|rfl|(simp;done)|(simp [*];done),by repeat (first|exact Drawn0.refl _|apply Drawn0.step)⟩
 ·rw [if_neg c3] at H
  have c3b0:((l0.length:Int) == (l1.length:Int))=false:=beq_eq_false_iff_ne.mpr c3
  have c3b1:((l0.length:Int) != (l1.length:Int))=true:=bne_iff_ne.mpr c3
  have c3b2:(l0.length == l1.length)=false:=by first|simpa using c3|(simp at c3 ⊢;omega)
  obtain rfl:=Option.some.inj H
  go_enter Try.func27,Try.ntmps27
  go_wp2
  repeat (go_quiet (fail);try go_wp2)
  go_ret
  exact ⟨by first|rfl|(simp;done)|(simp [*];done),by repeat (first|exact Drawn0.refl _|apply Drawn0.step)⟩
end Go.Proofs.Ytlegmnpngcadhaa.Print
end
section
namespace Go.Proofs.Ytlegmnpngcadhaa.Print
open Go.RowKit Go.Proofs.YtlegmnpngcadhaaW.PrintWords Go.Proofs.YtlegmnpngcadhaaW.PrintLast Go.Proofs.YtlegmnpngcadhaaW.PrintMore
attribute [local go_sem] max2_int min2_int max_two min_two max_three min_three max_four min_four   -- for this text's walks alone
attribute [local go_sem ↓] Go.Proofs.Ytlegmnpngcadhaa.Sem.isSome_setCell
attribute [local go_sem] Go.Instr.field Go.asAgg
set_option linter.unusedVariables false
set_option linter.unusedSimpArgs false
mutual
def slipwayref04_Check.j0:Nat → Int → Bool → List Int → List Int → Option (Int)
 | 0,_,_,_,_=>none
 | k + 1,x3,x20,x235000,x235001=>if x20=true then (some 40) else (slipwayref04_Check.l0 k x3 0 x235000 x235001)
def slipwayref04_Check.l0:Nat → Int → Int → List Int → List Int → Option (Int)
 | 0,_,_,_,_=>none
 | k + 1,x3,x4,x235000,x235001=>if x4 < x3 then (if 0≤x4 then (if x4 < (x235000.length:Int) then (if (rd x235000 x4) < 1 then (some 40) else (if (rd x235000 x4) > 6 then (some 40) else (if x4 < (x235001.length:Int) then (if (rd x235001 x4) < 0 then (some 40) else (if (rd x235001 x4) > 16777215 then (some 40) else (slipwayref04_Check.l0 k x3 (wrap64 (x4 + 1)) x235000 x235001))) else (none)))) else (none)) else (none)) else (some 0)
end
def slipwayref04_Check.f (k:Nat) (l0_0:List Int) (l0_1:List Int):Option (Int):=if (l0_0.length:Int) < 16 then (slipwayref04_Check.j0 k (l0_0.length:Int) true l0_0 l0_1) else (if (l0_0.length:Int) > 256 then (slipwayref04_Check.j0 k (l0_0.length:Int) true l0_0 l0_1) else (slipwayref04_Check.j0 k (l0_0.length:Int) ((l0_1.length:Int) != (l0_0.length:Int)) l0_0 l0_1))
set_option maxHeartbeats 8000000 in
set_option maxRecDepth 100000 in
theorem slipwayref04_Check.calls (k:Nat) (A0_0:Option Addr) (c0_0:Nat) (l0_0:List Int) (A0_1:Option Addr) (c0_1:Nat) (l0_1:List Int) (r:Int) (w:World) (hr0_0:Kd.C (Kd.int .i64) w A0_0 l0_0.length l0_0) (hc0_0:l0_0.length≤c0_0) (hr0_1:Kd.C (Kd.int .i64) w A0_1 l0_1.length l0_1) (hc0_1:l0_1.length≤c0_1) (h:slipwayref04_Check.f k l0_0 l0_1=some r) :
  Calls Try.prog 14 #[.agg #[.slice A0_0 l0_0.length c0_0,.slice A0_1 l0_1.length c0_1]] w fun e w'=>e=.returned (.int .i64 r)∧Below w.heap.size w w':=by
 have hu25:=Try.underlying25
 have HR0_0:=zm hr0_0
 have HC0_0:=zm hc0_0
 clear hr0_0 hc0_0
 have HR0_1:=zm hr0_1
 have HC0_1:=zm hc0_1
 clear hr0_1 hc0_1
 have HB:=zm (Below.refl w.heap.size w)
 have H:(if (l0_0.length:Int) < 16 then (slipwayref04_Check.j0 k (l0_0.length:Int) true l0_0 l0_1) else (if (l0_0.length:Int) > 256 then (slipwayref04_Check.j0 k (l0_0.length:Int) true l0_0 l0_1) else (slipwayref04_Check.j0 k (l0_0.length:Int) ((l0_1.length:Int) != (l0_0.length:Int)) l0_0 l0_1)))=some r:=h
 clear h
 have HC2:=zm H
 clear H
 go_enter Try.func14,Try.ntmps14
 go_upto_region 2 with (first|((with_reducible refine gate_dst (N:=1) rfl ?_);(try (refine gate_guard (by rfl) ?_;dsimp only));refine box_event ?hg (N:=1) ?hd (cs:=#[.slice A0_0 l0_0.length c0_0,.slice A0_1 l0_1.length c0_1]) (t:=25) ?hr ?_;(case hd=>rfl);(case hg=>rfl);(case hr=>first|(go_simp;done)|(go_simp;rfl));intro gb234 hg w3 hbox hb;have n0_:=zm (below_step (by repeat (first|(with_reducible first|exact HB.out|apply zlA|apply zlN|apply zlD)|exact HB.out)) hb);have n1_:=zm (hbox);have n2_:=zm ((by rw [hg];exact (below_size (by repeat (first|(with_reducible first|exact HB.out|apply zlA|apply zlN|apply zlD)|exact HB.out))):w.heap.size≤gb234));have n3_:=zm ((by rw [hg];exact (below_size (by repeat (first|(with_reducible first|exact HB.out|apply zlA|apply zlN|apply zlD)|exact HB.out))):w.heap.size≤gb234));clear HB;have HB:=n0_;have BK234:=n1_;have GW234:=n2_;have GE234:=n3_;clear n0_ n1_ n2_ n3_;clear hb hbox hg;have hcz4_0:w3.cell? ⟨gb234,0,none⟩=some (.slice A0_0 l0_0.length c0_0):=(blk_cell BK234.out 0).trans rfl;have hcz4_1:w3.cell? ⟨gb234,1,none⟩=some (.slice A0_1 l0_1.length c0_1):=(blk_cell BK234.out 1).trans rfl;have hfz4_0:=blk_frozen BK234.out 0;have hfz4_1:=blk_frozen BK234.out 1))
 (try simp only [Act.put,List.setIfInBounds_toArray,List.set_cons_zero,List.set_cons_succ])
 go_cut [20] (fun v20 wc=>∃ (kq:Nat) (x20_1:Bool),v20=.bool x20_1∧Aside0 (slipwayref04_Check.j0 kq (l0_0.length:Int) x20_1 l0_0 l0_1=some r)∧Aside0 (kq≤k)∧Aside0 (wc.heap[gb234]?=some (.cells #[(.slice A0_0 l0_0.length c0_0),(.slice A0_1 l0_1.length c0_1)] 25 (0,0)))∧Aside0 (Below w.heap.size w wc))
 case first =>
  have H:=HC2.out
  clear HC2
  by_cases c5:(l0_0.length:Int) < 16
  ·rw [if_pos c5] at H
   have c5b0:decide ((l0_0.length:Int) < 16)=true:=decide_eq_true c5
   have c5b1:decide (l0_0.length < 16)=true:=decide_eq_true (by omega)
   clear c5
   (first|rw [c5b0]|(simp only [i64_w,i32_w];rw [c5b0])|skip)
   have H':=zm H
   clear H
   go_wp2
   go_meet
   case rel=>exact ⟨_,(true),(by first|rfl|(simp;done)|(simp [*];done)),H',⟨by first|omega|exact Nat.le_refl _⟩,⟨by (with_reducible repeat (first|refine zbN ?_ _|refine zbD ?_|refine zbA ?_ _));exact BK234.out⟩,⟨by repeat (first|(with_reducible first|exact HB.out|apply zlA|apply zlN|apply zlD|refine zlS ?_ GE234.out)|exact HB.out)⟩⟩
  ·rw [if_neg c5] at H
   have c5b0:decide ((l0_0.length:Int) < 16)=false:=decide_eq_false c5
   have c5b1:decide (l0_0.length < 16)=false:=decide_eq_false (by omega)
   clear c5
   (first|rw [c5b0]|(simp only [i64_w,i32_w];rw [c5b0])|skip)
   by_cases c6:(l0_0.length:Int) > 256
   ·rw [if_pos c6] at H
    have c6b0:decide (256 < (l0_0.length:Int))=true:=decide_eq_true c6
    have c6b1:decide (256 < l0_0.length)=true:=decide_eq_true (by omega)
    clear c6
    have H':=zm H
    clear H
    go_wp2
    go_meet
    case rel=>exact ⟨_,(true),(by first|rfl|(simp;done)|(simp [*];done)),H',⟨by first|omega|exact Nat.le_refl _⟩,⟨by (with_reducible repeat (first|refine zbN ?_ _|refine zbD ?_|refine zbA ?_ _));exact BK234.out⟩,⟨by repeat (first|(with_reducible first|exact HB.out|apply zlA|apply zlN|apply zlD|refine zlS ?_ GE234.out)|exact HB.out)⟩⟩
   ·rw [if_neg c6] at H
    have c6b0:decide (256 < (l0_0.length:Int))=false:=decide_eq_false c6
    have c6b1:decide (256 < l0_0.length)=false:=decide_eq_false (by omega)
    clear c6
    have H':=zm H
    clear H
    have hcz7_0:w3.cell? ⟨gb234,0,none⟩=some (.slice A0_0 l0_0.length c0_0):=(blk_cell BK234.out 0).trans rfl
    have hcz7_1:w3.cell? ⟨gb234,1,none⟩=some (.slice A0_1 l0_1.length c0_1):=(blk_cell BK234.out 1).trans rfl
    have hfz7_0:=blk_frozen BK234.out 0
    have hfz7_1:=blk_frozen BK234.out 1
    go_wp2
    go_meet
    case rel=>exact ⟨_,(((l0_1.length:Int) != (l0_0.length:Int))),(by first|rfl|(simp;done)|(simp [*];done)),H',⟨by first|omega|exact Nat.le_refl _⟩,⟨by (with_reducible repeat (first|refine zbN ?_ _|refine zbD ?_|refine zbA ?_ _));exact BK234.out⟩,⟨by repeat (first|(with_reducible first|exact HB.out|apply zlA|apply zlN|apply zlD|refine zlS ?_ GE234.out)|exact HB.out)⟩⟩
 case rest =>
  clear HC2
  try clear c1
  try clear p2
  try clear c5
  try clear c5b0
  try clear c5b1
  try clear c6
  try clear c6b0
  try clear c6b1
  try clear hcz4_0
  try clear hcz4_1
  try clear hcz7_0
  try clear hcz7_1
  try clear hfz4_0
  try clear hfz4_1
  try clear hfz7_0
  try clear hfz7_1
  obtain ⟨kq,x20_1,rfl,HA,HJ1,BK234,HB⟩:=hcut
  cases kq with
  | zero=>exact absurd HA.out (by simp [slipwayref04_Check.j0])
  | succ kj1 =>
   have H:=HA.out
   clear HA
   simp only [slipwayref04_Check.j0] at H
   by_cases c8:x20_1=true
   ·subst c8
    have H1:(some 40)=some r:=by rw [if_pos rfl] at H;exact H
    clear H
    have H:=H1
    clear H1
    obtain rfl:=Option.some.inj H
    go_wp2
    go_ret
    exact ⟨by first|rfl|(simp [errW_none,errW_some] <;> rfl)|(simp [*,errW_none,errW_some] <;> rfl),by repeat (first|(with_reducible first|exact HB.out|apply zlA|apply zlN|apply zlD|refine zlS ?_ GE234.out)|exact HB.out)⟩
   ·replace c8:=Bool.eq_false_iff.mpr c8
    subst c8
    have H1:(slipwayref04_Check.l0 kj1 (l0_0.length:Int) 0 l0_0 l0_1)=some r:=by rw [if_neg (show ¬ (false=true) by decide)] at H;exact H
    clear H
    have H:=H1
    clear H1
    have H':=zm H
    clear H
    go_wp2
    go_loopg [4] kj1 (fun kq v4 w'=>∃ (x4_2:Int),v4=.int .i64 x4_2∧Aside0 (slipwayref04_Check.l0 kq (l0_0.length:Int) x4_2 l0_0 l0_1=some r)∧Aside0 (kq≤kj1)∧Aside0 (w'.heap[gb234]?=some (.cells #[(.slice A0_0 l0_0.length c0_0),(.slice A0_1 l0_1.length c0_1)] 25 (0,0)))∧Aside0 (Below w.heap.size w w'))
    case atStart=>exact ⟨(0),(by first|rfl|(simp;done)|(simp [*];done)),H',⟨Nat.le_refl _⟩,⟨by (with_reducible repeat (first|refine zbN ?_ _|refine zbD ?_|refine zbA ?_ _));exact BK234.out⟩,⟨by repeat (first|(with_reducible first|exact HB.out|apply zlA|apply zlN|apply zlD|refine zlS ?_ GE234.out)|exact HB.out)⟩⟩
    case round =>
     clear H'
     try clear c1
     try clear p2
     try clear c5
     try clear c5b0
     try clear c5b1
     try clear c6
     try clear c6b0
     try clear c6b1
     try clear c8
     try clear hcz4_0
     try clear hcz4_1
     try clear hcz7_0
     try clear hcz7_1
     try clear hfz4_0
     try clear hfz4_1
     try clear hfz7_0
     try clear hfz7_1
     try clear p2
     obtain ⟨x4_2,rfl,HA,HK2,BK234,HB⟩:=hrel
     cases gk with
     | zero=>exact absurd HA.out (by simp [slipwayref04_Check.l0])
     | succ k2 =>
      have H:=HA.out
      clear HA
      simp only [slipwayref04_Check.l0] at H
      by_cases c9:x4_2 < (l0_0.length:Int)
      ·rw [if_pos c9] at H
       have c9b0:decide (x4_2 < (l0_0.length:Int))=true:=decide_eq_true c9
       clear c9
       by_cases c10:0≤x4_2
       ·rw [if_pos c10] at H
        have c10b0:decide (0≤x4_2)=true:=decide_eq_true c10
        clear c10
        by_cases c11:x4_2 < (l0_0.length:Int)
        ·rw [if_pos c11] at H
         have c11b0:decide (x4_2 < (l0_0.length:Int))=true:=decide_eq_true c11
         clear c11
         by_cases c12:(rd l0_0 x4_2) < 1
         ·rw [if_pos c12] at H
          have c12b0:decide ((rd l0_0 x4_2) < 1)=true:=decide_eq_true c12
          clear c12
          obtain rfl:=Option.some.inj H
          have hcz13_0:wr.cell? ⟨gb234,0,none⟩=some (.slice A0_0 l0_0.length c0_0):=(blk_cell BK234.out 0).trans rfl
          have hcz13_1:wr.cell? ⟨gb234,1,none⟩=some (.slice A0_1 l0_1.length c0_1):=(blk_cell BK234.out 1).trans rfl
          have hfz13_0:=blk_frozen BK234.out 0
          have hfz13_1:=blk_frozen BK234.out 1
          have p235:0≤(x4_2:Int):=of_decide_eq_true (by first|(with_reducible assumption)|assumption)
          have q235:x4_2 < (l0_0.length:Int):=of_decide_eq_true (by first|(with_reducible assumption)|assumption)
          obtain ⟨ad235,e235,hx235_0⟩:=Kd.at_int HR0_0.out x4_2 p235 q235
          cases e235
          replace hx235_0:=(HB.out.cell (World.block_lt_of_cell? w _ hx235_0)).trans hx235_0
          replace p235:=eq_true p235
          replace q235:=eq_true q235
          go_wp2
          go_ret
          exact ⟨by first|rfl|(simp [errW_none,errW_some] <;> rfl)|(simp [*,errW_none,errW_some] <;> rfl),by repeat (first|(with_reducible first|exact HB.out|apply zlA|apply zlN|apply zlD|refine zlS ?_ GE234.out)|exact HB.out)⟩
         ·rw [if_neg c12] at H
          have c12b0:decide ((rd l0_0 x4_2) < 1)=false:=decide_eq_false c12
          clear c12
          by_cases c14:(rd l0_0 x4_2) > 6
          ·rw [if_pos c14] at H
           have c14b0:decide (6 < (rd l0_0 x4_2))=true:=decide_eq_true c14
           clear c14
           obtain rfl:=Option.some.inj H
           have hcz15_0:wr.cell? ⟨gb234,0,none⟩=some (.slice A0_0 l0_0.length c0_0):=(blk_cell BK234.out 0).trans rfl
           have hcz15_1:wr.cell? ⟨gb234,1,none⟩=some (.slice A0_1 l0_1.length c0_1):=(blk_cell BK234.out 1).trans rfl
           have hfz15_0:=blk_frozen BK234.out 0
           have hfz15_1:=blk_frozen BK234.out 1
           have p235:0≤(x4_2:Int):=of_decide_eq_true (by first|(with_reducible assumption)|assumption)
           have q235:x4_2 < (l0_0.length:Int):=of_decide_eq_true (by first|(with_reducible assumption)|assumption)
           obtain ⟨ad235,e235,hx235_0⟩:=Kd.at_int HR0_0.out x4_2 p235 q235
           cases e235
           replace hx235_0:=(HB.out.cell (World.block_lt_of_cell? w _ hx235_0)).trans hx235_0
           replace p235:=eq_true p235
           replace q235:=eq_true q235
           have p236:0≤(x4_2:Int):=of_decide_eq_true (by first|(with_reducible assumption)|assumption)
           have q236:x4_2 < (l0_0.length:Int):=of_decide_eq_true (by first|(with_reducible assumption)|assumption)
           obtain ⟨ad236,e236,hx236_0⟩:=Kd.at_int HR0_0.out x4_2 p236 q236
           obtain rfl:ad235=ad236:=(by injection e236)
           replace hx236_0:=(HB.out.cell (World.block_lt_of_cell? w _ hx236_0)).trans hx236_0
           replace p236:=eq_true p236
           replace q236:=eq_true q236
           go_wp2
           go_ret
           exact ⟨by first|rfl|(simp [errW_none,errW_some] <;> rfl)|(simp [*,errW_none,errW_some] <;> rfl),by repeat (first|(with_reducible first|exact HB.out|apply zlA|apply zlN|apply zlD|refine zlS ?_ GE234.out)|exact HB.out)⟩
          ·rw [if_neg c14] at H
           have c14b0:decide (6 < (rd l0_0 x4_2))=false:=decide_eq_false c14
           clear c14
           by_cases c16:x4_2 < (l0_1.length:Int)
           ·rw [if_pos c16] at H
            have c16b0:decide (x4_2 < (l0_1.length:Int))=true:=decide_eq_true c16
            clear c16
            by_cases c17:(rd l0_1 x4_2) < 0
            ·rw [if_pos c17] at H
             have c17b0:decide ((rd l0_1 x4_2) < 0)=true:=decide_eq_true c17
             clear c17
             obtain rfl:=Option.some.inj H
             have hcz18_0:wr.cell? ⟨gb234,0,none⟩=some (.slice A0_0 l0_0.length c0_0):=(blk_cell BK234.out 0).trans rfl
             have hcz18_1:wr.cell? ⟨gb234,1,none⟩=some (.slice A0_1 l0_1.length c0_1):=(blk_cell BK234.out 1).trans rfl
             have hfz18_0:=blk_frozen BK234.out 0
             have hfz18_1:=blk_frozen BK234.out 1
             have p235:0≤(x4_2:Int):=of_decide_eq_true (by first|(with_reducible assumption)|assumption)
             have q235:x4_2 < (l0_0.length:Int):=of_decide_eq_true (by first|(with_reducible assumption)|assumption)
             obtain ⟨ad235,e235,hx235_0⟩:=Kd.at_int HR0_0.out x4_2 p235 q235
             cases e235
             replace hx235_0:=(HB.out.cell (World.block_lt_of_cell? w _ hx235_0)).trans hx235_0
             replace p235:=eq_true p235
             replace q235:=eq_true q235
             have p236:0≤(x4_2:Int):=of_decide_eq_true (by first|(with_reducible assumption)|assumption)
             have q236:x4_2 < (l0_0.length:Int):=of_decide_eq_true (by first|(with_reducible assumption)|assumption)
             obtain ⟨ad236,e236,hx236_0⟩:=Kd.at_int HR0_0.out x4_2 p236 q236
             obtain rfl:ad235=ad236:=(by injection e236)
             replace hx236_0:=(HB.out.cell (World.block_lt_of_cell? w _ hx236_0)).trans hx236_0
             replace p236:=eq_true p236
             replace q236:=eq_true q236
             have p237:0≤(x4_2:Int):=of_decide_eq_true (by first|(with_reducible assumption)|assumption)
             have q237:x4_2 < (l0_1.length:Int):=of_decide_eq_true (by first|(with_reducible assumption)|assumption)
             obtain ⟨ad237,e237,hx237_0⟩:=Kd.at_int HR0_1.out x4_2 p237 q237
             cases e237
             replace hx237_0:=(HB.out.cell (World.block_lt_of_cell? w _ hx237_0)).trans hx237_0
             replace p237:=eq_true p237
             replace q237:=eq_true q237
             go_wp2
             go_ret
             exact ⟨by first|rfl|(simp [errW_none,errW_some] <;> rfl)|(simp [*,errW_none,errW_some] <;> rfl),by repeat (first|(with_reducible first|exact HB.out|apply zlA|apply zlN|apply zlD|refine zlS ?_ GE234.out)|exact HB.out)⟩
            ·rw [if_neg c17] at H
             have c17b0:decide ((rd l0_1 x4_2) < 0)=false:=decide_eq_false c17
             clear c17
             by_cases c19:(rd l0_1 x4_2) > 16777215
             ·rw [if_pos c19] at H
              have c19b0:decide (16777215 < (rd l0_1 x4_2))=true:=decide_eq_true c19
              clear c19
              obtain rfl:=Option.some.inj H
              have hcz20_0:wr.cell? ⟨gb234,0,none⟩=some (.slice A0_0 l0_0.length c0_0):=(blk_cell BK234.out 0).trans rfl
              have hcz20_1:wr.cell? ⟨gb234,1,none⟩=some (.slice A0_1 l0_1.length c0_1):=(blk_cell BK234.out 1).trans rfl
              have hfz20_0:=blk_frozen BK234.out 0
              have hfz20_1:=blk_frozen BK234.out 1
              have p235:0≤(x4_2:Int):=of_decide_eq_true (by first|(with_reducible assumption)|assumption)
              have q235:x4_2 < (l0_0.length:Int):=of_decide_eq_true (by first|(with_reducible assumption)|assumption)
              obtain ⟨ad235,e235,hx235_0⟩:=Kd.at_int HR0_0.out x4_2 p235 q235
              cases e235
              replace hx235_0:=(HB.out.cell (World.block_lt_of_cell? w _ hx235_0)).trans hx235_0
              replace p235:=eq_true p235
              replace q235:=eq_true q235
              have p236:0≤(x4_2:Int):=of_decide_eq_true (by first|(with_reducible assumption)|assumption)
              have q236:x4_2 < (l0_0.length:Int):=of_decide_eq_true (by first|(with_reducible assumption)|assumption)
              obtain ⟨ad236,e236,hx236_0⟩:=Kd.at_int HR0_0.out x4_2 p236 q236
              obtain rfl:ad235=ad236:=(by injection e236)
              replace hx236_0:=(HB.out.cell (World.block_lt_of_cell? w _ hx236_0)).trans hx236_0
              replace p236:=eq_true p236
              replace q236:=eq_true q236
              have p237:0≤(x4_2:Int):=of_decide_eq_true (by first|(with_reducible assumption)|assumption)
              have q237:x4_2 < (l0_1.length:Int):=of_decide_eq_true (by first|(with_reducible assumption)|assumption)
              obtain ⟨ad237,e237,hx237_0⟩:=Kd.at_int HR0_1.out x4_2 p237 q237
              cases e237
              replace hx237_0:=(HB.out.cell (World.block_lt_of_cell? w _ hx237_0)).trans hx237_0
              replace p237:=eq_true p237
              replace q237:=eq_true q237
              have p238:0≤(x4_2:Int):=of_decide_eq_true (by first|(with_reducible assumption)|assumption)
              have q238:x4_2 < (l0_1.length:Int):=of_decide_eq_true (by first|(with_reducible assumption)|assumption)
              obtain ⟨ad238,e238,hx238_0⟩:=Kd.at_int HR0_1.out x4_2 p238 q238
              obtain rfl:ad237=ad238:=(by injection e238)
              replace hx238_0:=(HB.out.cell (World.block_lt_of_cell? w _ hx238_0)).trans hx238_0
              replace p238:=eq_true p238
              replace q238:=eq_true q238
              go_wp2
              go_ret
              exact ⟨by first|rfl|(simp [errW_none,errW_some] <;> rfl)|(simp [*,errW_none,errW_some] <;> rfl),by repeat (first|(with_reducible first|exact HB.out|apply zlA|apply zlN|apply zlD|refine zlS ?_ GE234.out)|exact HB.out)⟩
             ·rw [if_neg c19] at H
              have c19b0:decide (16777215 < (rd l0_1 x4_2))=false:=decide_eq_false c19
              clear c19
              have H':=zm H
              clear H
              have hcz21_0:wr.cell? ⟨gb234,0,none⟩=some (.slice A0_0 l0_0.length c0_0):=(blk_cell BK234.out 0).trans rfl
              have hcz21_1:wr.cell? ⟨gb234,1,none⟩=some (.slice A0_1 l0_1.length c0_1):=(blk_cell BK234.out 1).trans rfl
              have hfz21_0:=blk_frozen BK234.out 0
              have hfz21_1:=blk_frozen BK234.out 1
              have p235:0≤(x4_2:Int):=of_decide_eq_true (by first|(with_reducible assumption)|assumption)
              have q235:x4_2 < (l0_0.length:Int):=of_decide_eq_true (by first|(with_reducible assumption)|assumption)
              obtain ⟨ad235,e235,hx235_0⟩:=Kd.at_int HR0_0.out x4_2 p235 q235
              cases e235
              replace hx235_0:=(HB.out.cell (World.block_lt_of_cell? w _ hx235_0)).trans hx235_0
              replace p235:=eq_true p235
              replace q235:=eq_true q235
              have p236:0≤(x4_2:Int):=of_decide_eq_true (by first|(with_reducible assumption)|assumption)
              have q236:x4_2 < (l0_0.length:Int):=of_decide_eq_true (by first|(with_reducible assumption)|assumption)
              obtain ⟨ad236,e236,hx236_0⟩:=Kd.at_int HR0_0.out x4_2 p236 q236
              obtain rfl:ad235=ad236:=(by injection e236)
              replace hx236_0:=(HB.out.cell (World.block_lt_of_cell? w _ hx236_0)).trans hx236_0
              replace p236:=eq_true p236
              replace q236:=eq_true q236
              have p237:0≤(x4_2:Int):=of_decide_eq_true (by first|(with_reducible assumption)|assumption)
              have q237:x4_2 < (l0_1.length:Int):=of_decide_eq_true (by first|(with_reducible assumption)|assumption)
              obtain ⟨ad237,e237,hx237_0⟩:=Kd.at_int HR0_1.out x4_2 p237 q237
              cases e237
              replace hx237_0:=(HB.out.cell (World.block_lt_of_cell? w _ hx237_0)).trans hx237_0
              replace p237:=eq_true p237
              replace q237:=eq_true q237
              have p238:0≤(x4_2:Int):=of_decide_eq_true (by first|(with_reducible assumption)|assumption)
              have q238:x4_2 < (l0_1.length:Int):=of_decide_eq_true (by first|(with_reducible assumption)|assumption)
              obtain ⟨ad238,e238,hx238_0⟩:=Kd.at_int HR0_1.out x4_2 p238 q238
              obtain rfl:ad237=ad238:=(by injection e238)
              replace hx238_0:=(HB.out.cell (World.block_lt_of_cell? w _ hx238_0)).trans hx238_0
              replace p238:=eq_true p238
              replace q238:=eq_true q238
              go_wp2
              go_roundg k2
              case measure=>have:=HJ1.out;have:=HK2.out;omega
              case rel=>exact ⟨(wrap64 (x4_2 + 1)),(by first|rfl|(simp;done)|(simp [*];done)),H',⟨by have:=HJ1.out;have:=HK2.out;omega⟩,⟨by (with_reducible repeat (first|refine zbN ?_ _|refine zbD ?_|refine zbA ?_ _));exact BK234.out⟩,⟨by repeat (first|(with_reducible first|exact HB.out|apply zlA|apply zlN|apply zlD|refine zlS ?_ GE234.out)|exact HB.out)⟩⟩
           ·rw [if_neg c16] at H
            exact absurd H (by simp)
        ·rw [if_neg c11] at H
         exact absurd H (by simp)
       ·rw [if_neg c10] at H
        exact absurd H (by simp)
      ·rw [if_neg c9] at H
       have c9b0:decide (x4_2 < (l0_0.length:Int))=false:=decide_eq_false c9
       clear c9
       obtain rfl:=Option.some.inj H
       go_wp2
       go_ret
       exact ⟨by first|rfl|(simp [errW_none,errW_some] <;> rfl)|(simp [*,errW_none,errW_some] <;> rfl),by repeat (first|(with_reducible first|exact HB.out|apply zlA|apply zlN|apply zlD|refine zlS ?_ GE234.out)|exact HB.out)⟩
end Go.Proofs.Ytlegmnpngcadhaa.Print
end
section
namespace Go.Proofs.Ytlegmnpngcadhaa.Print
open Go.RowKit Go.Proofs.YtlegmnpngcadhaaW.PrintWords Go.Proofs.YtlegmnpngcadhaaW.PrintLast Go.Proofs.YtlegmnpngcadhaaW.PrintMore
attribute [local go_sem] max2_int min2_int max_two min_two max_three min_three max_four min_four   -- for this text's walks alone
attribute [local go_sem ↓] Go.Proofs.Ytlegmnpngcadhaa.Sem.isSome_setCell
attribute [local go_sem] Go.Instr.field Go.asAgg
set_option linter.unusedVariables false
set_option linter.unusedSimpArgs false
mutual
def slipwayref04_Spread.l0:Nat → Int → Int → Int → List Int → List Int → Option (Int × Int)
 | 0,_,_,_,_,_=>none
 | k + 1,x4,x5,x6,x310000,x310001=>if x6 < (x310000.length:Int) then (slipwayref04_Spread.j1 k x4 x5 x6 (decide (x6 < (x310001.length:Int))) x310000 x310001) else (slipwayref04_Spread.j1 k x4 x5 x6 false x310000 x310001)
def slipwayref04_Spread.j1:Nat → Int → Int → Int → Bool → List Int → List Int → Option (Int × Int)
 | 0,_,_,_,_,_,_=>none
 | k + 1,x4,x5,x6,x21,x310000,x310001=>if x21=true then (if 0≤x6 then (if x6 < (x310000.length:Int) then (if (rd x310000 x6)=6 then (slipwayref04_Spread.l0 k x4 x5 (wrap64 (x6 + 1)) x310000 x310001) else (if x4 < 0 then (if x6 < (x310001.length:Int) then (slipwayref04_Spread.l0 k (rd x310001 x6) (mx x5 (rd x310001 x6)) (wrap64 (x6 + 1)) x310000 x310001) else (none)) else (if x6 < (x310001.length:Int) then (if (rd x310001 x6) < x4 then (slipwayref04_Spread.l0 k (rd x310001 x6) (mx x5 (rd x310001 x6)) (wrap64 (x6 + 1)) x310000 x310001) else (slipwayref04_Spread.l0 k x4 (mx x5 (rd x310001 x6)) (wrap64 (x6 + 1)) x310000 x310001)) else (none)))) else (none)) else (none)) else (some (mx x4 0,x5))
end
def slipwayref04_Spread.f (k:Nat) (l0_0:List Int) (l0_1:List Int):Option (Int × Int):=(slipwayref04_Check.f k l0_0 l0_1).bind fun t310=>(if t310=0 then (slipwayref04_Spread.l0 k (-1) 0 0 l0_0 l0_1) else (some (0,0)))
set_option maxHeartbeats 8000000 in
set_option maxRecDepth 100000 in
theorem slipwayref04_Spread.calls (k:Nat) (A0_0:Option Addr) (c0_0:Nat) (l0_0:List Int) (A0_1:Option Addr) (c0_1:Nat) (l0_1:List Int) (r1:Int) (r2:Int) (w:World) (hr0_0:Kd.C (Kd.int .i64) w A0_0 l0_0.length l0_0) (hc0_0:l0_0.length≤c0_0) (hr0_1:Kd.C (Kd.int .i64) w A0_1 l0_1.length l0_1) (hc0_1:l0_1.length≤c0_1) (h:slipwayref04_Spread.f k l0_0 l0_1=some (r1,r2)) :
  Calls Try.prog 24 #[.agg #[.slice A0_0 l0_0.length c0_0,.slice A0_1 l0_1.length c0_1]] w fun e w'=>e=.returned (.tuple #[.int .i64 r1,.int .i64 r2])∧Below w.heap.size w w':=by
 have hu25:=Try.underlying25
 have HR0_0:=zm hr0_0
 have HC0_0:=zm hc0_0
 clear hr0_0 hc0_0
 have HR0_1:=zm hr0_1
 have HC0_1:=zm hc0_1
 clear hr0_1 hc0_1
 have HB:=zm (Below.refl w.heap.size w)
 have H:((slipwayref04_Check.f k l0_0 l0_1).bind fun t310=>(if t310=0 then (slipwayref04_Spread.l0 k (-1) 0 0 l0_0 l0_1) else (some (0,0))))=some (r1,r2):=h
 clear h
 replace H:=Option.bind_eq_some_iff.mp H
 obtain ⟨t310,A20,H⟩:=H
 replace H:(if t310=0 then (slipwayref04_Spread.l0 k (-1) 0 0 l0_0 l0_1) else (some (0,0)))=some (r1,r2):=H
 have A2:=zm A20
 clear A20
 by_cases c3:t310=0
 ·rw [if_pos c3] at H
  have c3b0:(t310 == 0)=true:=beq_iff_eq.mpr c3
  have c3b1:(t310 != 0)=false:=bne_eq_false_iff_eq.mpr c3
  clear c3
  have H':=zm H
  clear H
  go_enter Try.func24,Try.ntmps24
  go_wp2_with (first|((with_reducible refine gate_dst (N:=1) rfl ?_);(try (refine gate_guard (by rfl) ?_;dsimp only));refine box_event ?hg (N:=1) ?hd (cs:=#[.slice A0_0 l0_0.length c0_0,.slice A0_1 l0_1.length c0_1]) (t:=25) ?hr ?_;(case hd=>rfl);(case hg=>rfl);(case hr=>first|(go_simp;done)|(go_simp;rfl));intro gb309 hg w4 hbox hb;have n0_:=zm (below_step (by repeat (first|(with_reducible first|exact HB.out|apply zlA|apply zlN|apply zlD)|exact HB.out)) hb);have n1_:=zm (hbox);have n2_:=zm ((by rw [hg];exact (below_size (by repeat (first|(with_reducible first|exact HB.out|apply zlA|apply zlN|apply zlD)|exact HB.out))):w.heap.size≤gb309));have n3_:=zm ((by rw [hg];exact (below_size (by repeat (first|(with_reducible first|exact HB.out|apply zlA|apply zlN|apply zlD)|exact HB.out))):w.heap.size≤gb309));clear HB;have HB:=n0_;have BK309:=n1_;have GW309:=n2_;have GE309:=n3_;clear n0_ n1_ n2_ n3_;clear hb hbox hg;have hcz5_0:w4.cell? ⟨gb309,0,none⟩=some (.slice A0_0 l0_0.length c0_0):=(blk_cell BK309.out 0).trans rfl;have hcz5_1:w4.cell? ⟨gb309,1,none⟩=some (.slice A0_1 l0_1.length c0_1):=(blk_cell BK309.out 1).trans rfl;have hfz5_0:=blk_frozen BK309.out 0;have hfz5_1:=blk_frozen BK309.out 1)|((with_reducible refine gate_callee (f:=14) rfl ?_);refine goesL_ (some 8) rfl rfl Try.func14 (by kernel_rfl) rfl #[.agg #[.slice A0_0 l0_0.length c0_0,.slice A0_1 l0_1.length c0_1]] rfl (by (try simp only [List.map_toArray,List.map_cons,List.map_nil]);first|done|rfl|(simp only [List.length_drop,List.length_take];rfl)) ?_;(with_reducible refine (slipwayref04_Check.calls k _ _ l0_0 _ _ l0_1 t310 _ ?side1 ?side2 ?side3 ?side4 A2.out).mono ?_);(case side1=>repeat (first|exact (Kd.C_below HR0_0.out HB.out)|(with_reducible refine Kd.C_alloc ?_ _)|(with_reducible refine Kd.C_drewN ?_ _)|(with_reducible refine Kd.C_drew ?_)));(case side2=>exact HC0_0.out);(case side3=>repeat (first|exact (Kd.C_below HR0_1.out HB.out)|(with_reducible refine Kd.C_alloc ?_ _)|(with_reducible refine Kd.C_drewN ?_ _)|(with_reducible refine Kd.C_drew ?_)));(case side4=>exact HC0_1.out);rintro e w6 ⟨rfl,hb⟩;refine ⟨_,rfl,?_⟩;have n0_:=zm (zbB (g:=gb309) (o:=.cells #[.slice A0_0 l0_0.length c0_0,.slice A0_1 l0_1.length c0_1] 25 (0,0)) (by (with_reducible repeat (first|refine zbN ?_ _|refine zbD ?_|refine zbA ?_ _));exact BK309.out) hb);have n1_:=zm (below_step (by repeat (first|(with_reducible first|exact HB.out|apply zlA|apply zlN|apply zlD|refine zlS ?_ GE309.out)|exact HB.out)) hb);clear BK309 HB;have BK309:=n0_;have HB:=n1_;clear n0_ n1_;(try clear hb);(try clear hb2);(try clear hk);(try clear hi)))
  go_loopg [4,5,6] k (fun kq v4 v5 v6 w'=>∃ (x4_1:Int) (x5_1:Int) (x6_1:Int),v4=.int .i64 x4_1∧v5=.int .i64 x5_1∧v6=.int .i64 x6_1∧Aside0 (slipwayref04_Spread.l0 kq x4_1 x5_1 x6_1 l0_0 l0_1=some (r1,r2))∧Aside0 (kq≤k)∧Aside0 (w'.heap[gb309]?=some (.cells #[(.slice A0_0 l0_0.length c0_0),(.slice A0_1 l0_1.length c0_1)] 25 (0,0)))∧Aside0 (Below w.heap.size w w'))
  case atStart=>exact ⟨((-1)),(0),(0),(by first|rfl|(simp;done)|(simp [*];done)),(by first|rfl|(simp;done)|(simp [*];done)),(by first|rfl|(simp;done)|(simp [*];done)),H',⟨Nat.le_refl _⟩,⟨by (with_reducible repeat (first|refine zbN ?_ _|refine zbD ?_|refine zbA ?_ _));exact BK309.out⟩,⟨by repeat (first|(with_reducible first|exact HB.out|apply zlA|apply zlN|apply zlD|refine zlS ?_ GE309.out)|exact HB.out)⟩⟩
  case round =>
   clear H'
   try clear c1
   try clear c2
   try clear p2
   try clear c3
   try clear c3b0
   try clear c3b1
   try clear hcz5_0
   try clear hcz5_1
   try clear hfz5_0
   try clear hfz5_1
   obtain ⟨x4_1,x5_1,x6_1,rfl,rfl,rfl,HA,HK1,BK309,HB⟩:=hrel
   cases gk with
   | zero=>exact absurd HA.out (by simp [slipwayref04_Spread.l0])
   | succ k1 =>
    have H:=HA.out
    clear HA
    simp only [slipwayref04_Spread.l0] at H
    have HC7:=zm H
    clear H
    go_upto_region 5 with (fail)
    go_cut [21] (fun v21 wc=>∃ (kq:Nat) (x21_6:Bool),v21=.bool x21_6∧Aside0 (slipwayref04_Spread.j1 kq x4_1 x5_1 x6_1 x21_6 l0_0 l0_1=some (r1,r2))∧Aside0 (kq≤k1)∧Aside0 (wc.heap[gb309]?=some (.cells #[(.slice A0_0 l0_0.length c0_0),(.slice A0_1 l0_1.length c0_1)] 25 (0,0)))∧Aside0 (Below w.heap.size w wc))
    case first =>
     have H:=HC7.out
     clear HC7
     by_cases c8:x6_1 < (l0_0.length:Int)
     ·rw [if_pos c8] at H
      have c8b0:decide (x6_1 < (l0_0.length:Int))=true:=decide_eq_true c8
      clear c8
      (first|rw [c8b0]|(simp only [i64_w,i32_w];rw [c8b0])|skip)
      have H':=zm H
      clear H
      have hcz9_0:wr.cell? ⟨gb309,0,none⟩=some (.slice A0_0 l0_0.length c0_0):=(blk_cell BK309.out 0).trans rfl
      have hcz9_1:wr.cell? ⟨gb309,1,none⟩=some (.slice A0_1 l0_1.length c0_1):=(blk_cell BK309.out 1).trans rfl
      have hfz9_0:=blk_frozen BK309.out 0
      have hfz9_1:=blk_frozen BK309.out 1
      go_wp2
      go_meet
      case rel=>exact ⟨_,(decide (x6_1 < (l0_1.length:Int))),(by first|rfl|(simp;done)|(simp [*];done)),H',⟨by have:=HK1.out;first|omega|exact Nat.le_refl _⟩,⟨by (with_reducible repeat (first|refine zbN ?_ _|refine zbD ?_|refine zbA ?_ _));exact BK309.out⟩,⟨by repeat (first|(with_reducible first|exact HB.out|apply zlA|apply zlN|apply zlD|refine zlS ?_ GE309.out)|exact HB.out)⟩⟩
     ·rw [if_neg c8] at H
      have c8b0:decide (x6_1 < (l0_0.length:Int))=false:=decide_eq_false c8
      clear c8
      (first|rw [c8b0]|(simp only [i64_w,i32_w];rw [c8b0])|skip)
      have H':=zm H
      clear H
      have hcz10_0:wr.cell? ⟨gb309,0,none⟩=some (.slice A0_0 l0_0.length c0_0):=(blk_cell BK309.out 0).trans rfl
      have hcz10_1:wr.cell? ⟨gb309,1,none⟩=some (.slice A0_1 l0_1.length c0_1):=(blk_cell BK309.out 1).trans rfl
      have hfz10_0:=blk_frozen BK309.out 0
      have hfz10_1:=blk_frozen BK309.out 1
      go_wp2
      go_meet
      case rel=>exact ⟨_,(false),(by first|rfl|(simp;done)|(simp [*];done)),H',⟨by have:=HK1.out;first|omega|exact Nat.le_refl _⟩,⟨by (with_reducible repeat (first|refine zbN ?_ _|refine zbD ?_|refine zbA ?_ _));exact BK309.out⟩,⟨by repeat (first|(with_reducible first|exact HB.out|apply zlA|apply zlN|apply zlD|refine zlS ?_ GE309.out)|exact HB.out)⟩⟩
    case rest =>
     clear HC7
     try clear c1
     try clear c2
     try clear p2
     try clear c3
     try clear c3b0
     try clear c3b1
     try clear c8
     try clear c8b0
     try clear hcz10_0
     try clear hcz10_1
     try clear hcz5_0
     try clear hcz5_1
     try clear hcz9_0
     try clear hcz9_1
     try clear hfz10_0
     try clear hfz10_1
     try clear hfz5_0
     try clear hfz5_1
     try clear hfz9_0
     try clear hfz9_1
     try clear p2
     obtain ⟨kq,x21_6,rfl,HA,HJ6,BK309,HB⟩:=hcut
     cases kq with
     | zero=>exact absurd HA.out (by simp [slipwayref04_Spread.j1])
     | succ kj6 =>
      have H:=HA.out
      clear HA
      simp only [slipwayref04_Spread.j1] at H
      by_cases c11:x21_6=true
      ·subst c11
       have H1:(if 0≤x6_1 then (if x6_1 < (l0_0.length:Int) then (if (rd l0_0 x6_1)=6 then (slipwayref04_Spread.l0 kj6 x4_1 x5_1 (wrap64 (x6_1 + 1)) l0_0 l0_1) else (if x4_1 < 0 then (if x6_1 < (l0_1.length:Int) then (slipwayref04_Spread.l0 kj6 (rd l0_1 x6_1) (mx x5_1 (rd l0_1 x6_1)) (wrap64 (x6_1 + 1)) l0_0 l0_1) else (none)) else (if x6_1 < (l0_1.length:Int) then (if (rd l0_1 x6_1) < x4_1 then (slipwayref04_Spread.l0 kj6 (rd l0_1 x6_1) (mx x5_1 (rd l0_1 x6_1)) (wrap64 (x6_1 + 1)) l0_0 l0_1) else (slipwayref04_Spread.l0 kj6 x4_1 (mx x5_1 (rd l0_1 x6_1)) (wrap64 (x6_1 + 1)) l0_0 l0_1)) else (none)))) else (none)) else (none))=some (r1,r2):=by rw [if_pos rfl] at H;exact H
       clear H
       have H:=H1
       clear H1
       by_cases c12:0≤x6_1
       ·rw [if_pos c12] at H
        have c12b0:decide (0≤x6_1)=true:=decide_eq_true c12
        clear c12
        by_cases c13:x6_1 < (l0_0.length:Int)
        ·rw [if_pos c13] at H
         have c13b0:decide (x6_1 < (l0_0.length:Int))=true:=decide_eq_true c13
         clear c13
         by_cases c14:(rd l0_0 x6_1)=6
         ·rw [if_pos c14] at H
          have c14b0:((rd l0_0 x6_1) == 6)=true:=beq_iff_eq.mpr c14
          have c14b1:((rd l0_0 x6_1) != 6)=false:=bne_eq_false_iff_eq.mpr c14
          clear c14
          have H':=zm H
          clear H
          have hcz15_0:wc.cell? ⟨gb309,0,none⟩=some (.slice A0_0 l0_0.length c0_0):=(blk_cell BK309.out 0).trans rfl
          have hcz15_1:wc.cell? ⟨gb309,1,none⟩=some (.slice A0_1 l0_1.length c0_1):=(blk_cell BK309.out 1).trans rfl
          have hfz15_0:=blk_frozen BK309.out 0
          have hfz15_1:=blk_frozen BK309.out 1
          have p311:0≤(x6_1:Int):=of_decide_eq_true (by first|(with_reducible assumption)|assumption)
          have q311:x6_1 < (l0_0.length:Int):=of_decide_eq_true (by first|(with_reducible assumption)|assumption)
          obtain ⟨ad311,e311,hx311_0⟩:=Kd.at_int HR0_0.out x6_1 p311 q311
          cases e311
          replace hx311_0:=(HB.out.cell (World.block_lt_of_cell? w _ hx311_0)).trans hx311_0
          replace p311:=eq_true p311
          replace q311:=eq_true q311
          go_wp2
          go_roundg kj6
          case measure=>have:=HK1.out;have:=HJ6.out;omega
          case rel=>exact ⟨(x4_1),(x5_1),(wrap64 (x6_1 + 1)),(by first|rfl|(simp;done)|(simp [*];done)),(by first|rfl|(simp;done)|(simp [*];done)),(by first|rfl|(simp;done)|(simp [*];done)),H',⟨by have:=HK1.out;have:=HJ6.out;omega⟩,⟨by (with_reducible repeat (first|refine zbN ?_ _|refine zbD ?_|refine zbA ?_ _));exact BK309.out⟩,⟨by repeat (first|(with_reducible first|exact HB.out|apply zlA|apply zlN|apply zlD|refine zlS ?_ GE309.out)|exact HB.out)⟩⟩
         ·rw [if_neg c14] at H
          have c14b0:((rd l0_0 x6_1) == 6)=false:=beq_eq_false_iff_ne.mpr c14
          have c14b1:((rd l0_0 x6_1) != 6)=true:=bne_iff_ne.mpr c14
          by_cases c16:x4_1 < 0
          ·rw [if_pos c16] at H
           have c16b0:decide (x4_1 < 0)=true:=decide_eq_true c16
           clear c16
           by_cases c17:x6_1 < (l0_1.length:Int)
           ·rw [if_pos c17] at H
            have c17b0:decide (x6_1 < (l0_1.length:Int))=true:=decide_eq_true c17
            clear c17
            obtain ⟨ji18,hji18⟩:∃ j_:Int,(mx x5_1 (rd l0_1 x6_1))=j_:=⟨_,rfl⟩
            replace H:(slipwayref04_Spread.l0 kj6 (rd l0_1 x6_1) ji18 (wrap64 (x6_1 + 1)) l0_0 l0_1)=some (r1,r2):=by first|(rw [hji18] at H;exact H)|(simp only [hji18] at H ⊢;exact H)
            have hji18_:(if x5_1 < (rd l0_1 x6_1) then (rd l0_1 x6_1) else x5_1)=ji18:=hji18
            have H':=zm H
            clear H
            have hcz19_0:wc.cell? ⟨gb309,0,none⟩=some (.slice A0_0 l0_0.length c0_0):=(blk_cell BK309.out 0).trans rfl
            have hcz19_1:wc.cell? ⟨gb309,1,none⟩=some (.slice A0_1 l0_1.length c0_1):=(blk_cell BK309.out 1).trans rfl
            have hfz19_0:=blk_frozen BK309.out 0
            have hfz19_1:=blk_frozen BK309.out 1
            have p311:0≤(x6_1:Int):=of_decide_eq_true (by first|(with_reducible assumption)|assumption)
            have q311:x6_1 < (l0_0.length:Int):=of_decide_eq_true (by first|(with_reducible assumption)|assumption)
            obtain ⟨ad311,e311,hx311_0⟩:=Kd.at_int HR0_0.out x6_1 p311 q311
            cases e311
            replace hx311_0:=(HB.out.cell (World.block_lt_of_cell? w _ hx311_0)).trans hx311_0
            replace p311:=eq_true p311
            replace q311:=eq_true q311
            have p312:0≤(x6_1:Int):=of_decide_eq_true (by first|(with_reducible assumption)|assumption)
            have q312:x6_1 < (l0_1.length:Int):=of_decide_eq_true (by first|(with_reducible assumption)|assumption)
            obtain ⟨ad312,e312,hx312_0⟩:=Kd.at_int HR0_1.out x6_1 p312 q312
            cases e312
            replace hx312_0:=(HB.out.cell (World.block_lt_of_cell? w _ hx312_0)).trans hx312_0
            replace p312:=eq_true p312
            replace q312:=eq_true q312
            have p313:0≤(x6_1:Int):=of_decide_eq_true (by first|(with_reducible assumption)|assumption)
            have q313:x6_1 < (l0_1.length:Int):=of_decide_eq_true (by first|(with_reducible assumption)|assumption)
            obtain ⟨ad313,e313,hx313_0⟩:=Kd.at_int HR0_1.out x6_1 p313 q313
            obtain rfl:ad312=ad313:=(by injection e313)
            replace hx313_0:=(HB.out.cell (World.block_lt_of_cell? w _ hx313_0)).trans hx313_0
            replace p313:=eq_true p313
            replace q313:=eq_true q313
            go_wp2
            go_roundg kj6
            case measure=>have:=HK1.out;have:=HJ6.out;omega
            case rel=>exact ⟨(rd l0_1 x6_1),(ji18),(wrap64 (x6_1 + 1)),(by first|rfl|(simp;done)|(simp [*];done)),(by first|rfl|(simp;done)|(simp only [← hji18] <;> (first|rfl|simp))|(simp [*];done)),(by first|rfl|(simp;done)|(simp [*];done)),H',⟨by have:=HK1.out;have:=HJ6.out;omega⟩,⟨by (with_reducible repeat (first|refine zbN ?_ _|refine zbD ?_|refine zbA ?_ _));exact BK309.out⟩,⟨by repeat (first|(with_reducible first|exact HB.out|apply zlA|apply zlN|apply zlD|refine zlS ?_ GE309.out)|exact HB.out)⟩⟩
           ·rw [if_neg c17] at H
            exact absurd H (by simp)
          ·rw [if_neg c16] at H
           have c16b0:decide (x4_1 < 0)=false:=decide_eq_false c16
           clear c16
           by_cases c20:x6_1 < (l0_1.length:Int)
           ·rw [if_pos c20] at H
            have c20b0:decide (x6_1 < (l0_1.length:Int))=true:=decide_eq_true c20
            clear c20
            by_cases c21:(rd l0_1 x6_1) < x4_1
            ·rw [if_pos c21] at H
             have c21b0:decide ((rd l0_1 x6_1) < x4_1)=true:=decide_eq_true c21
             clear c21
             obtain ⟨ji22,hji22⟩:∃ j_:Int,(mx x5_1 (rd l0_1 x6_1))=j_:=⟨_,rfl⟩
             replace H:(slipwayref04_Spread.l0 kj6 (rd l0_1 x6_1) ji22 (wrap64 (x6_1 + 1)) l0_0 l0_1)=some (r1,r2):=by first|(rw [hji22] at H;exact H)|(simp only [hji22] at H ⊢;exact H)
             have hji22_:(if x5_1 < (rd l0_1 x6_1) then (rd l0_1 x6_1) else x5_1)=ji22:=hji22
             have H':=zm H
             clear H
             have hcz23_0:wc.cell? ⟨gb309,0,none⟩=some (.slice A0_0 l0_0.length c0_0):=(blk_cell BK309.out 0).trans rfl
             have hcz23_1:wc.cell? ⟨gb309,1,none⟩=some (.slice A0_1 l0_1.length c0_1):=(blk_cell BK309.out 1).trans rfl
             have hfz23_0:=blk_frozen BK309.out 0
             have hfz23_1:=blk_frozen BK309.out 1
             have p311:0≤(x6_1:Int):=of_decide_eq_true (by first|(with_reducible assumption)|assumption)
             have q311:x6_1 < (l0_0.length:Int):=of_decide_eq_true (by first|(with_reducible assumption)|assumption)
             obtain ⟨ad311,e311,hx311_0⟩:=Kd.at_int HR0_0.out x6_1 p311 q311
             cases e311
             replace hx311_0:=(HB.out.cell (World.block_lt_of_cell? w _ hx311_0)).trans hx311_0
             replace p311:=eq_true p311
             replace q311:=eq_true q311
             have p314:0≤(x6_1:Int):=of_decide_eq_true (by first|(with_reducible assumption)|assumption)
             have q314:x6_1 < (l0_1.length:Int):=of_decide_eq_true (by first|(with_reducible assumption)|assumption)
             obtain ⟨ad314,e314,hx314_0⟩:=Kd.at_int HR0_1.out x6_1 p314 q314
             cases e314
             replace hx314_0:=(HB.out.cell (World.block_lt_of_cell? w _ hx314_0)).trans hx314_0
             replace p314:=eq_true p314
             replace q314:=eq_true q314
             have p315:0≤(x6_1:Int):=of_decide_eq_true (by first|(with_reducible assumption)|assumption)
             have q315:x6_1 < (l0_1.length:Int):=of_decide_eq_true (by first|(with_reducible assumption)|assumption)
             obtain ⟨ad315,e315,hx315_0⟩:=Kd.at_int HR0_1.out x6_1 p315 q315
             obtain rfl:ad314=ad315:=(by injection e315)
             replace hx315_0:=(HB.out.cell (World.block_lt_of_cell? w _ hx315_0)).trans hx315_0
             replace p315:=eq_true p315
             replace q315:=eq_true q315
             have p316:0≤(x6_1:Int):=of_decide_eq_true (by first|(with_reducible assumption)|assumption)
             have q316:x6_1 < (l0_1.length:Int):=of_decide_eq_true (by first|(with_reducible assumption)|assumption)
             obtain ⟨ad316,e316,hx316_0⟩:=Kd.at_int HR0_1.out x6_1 p316 q316
             obtain rfl:ad314=ad316:=(by injection e316)
             replace hx316_0:=(HB.out.cell (World.block_lt_of_cell? w _ hx316_0)).trans hx316_0
             replace p316:=eq_true p316
             replace q316:=eq_true q316
             go_wp2
             go_roundg kj6
             case measure=>have:=HK1.out;have:=HJ6.out;omega
             case rel=>exact ⟨(rd l0_1 x6_1),(ji22),(wrap64 (x6_1 + 1)),(by first|rfl|(simp;done)|(simp [*];done)),(by first|rfl|(simp;done)|(simp only [← hji22] <;> (first|rfl|simp))|(simp [*];done)),(by first|rfl|(simp;done)|(simp [*];done)),H',⟨by have:=HK1.out;have:=HJ6.out;omega⟩,⟨by (with_reducible repeat (first|refine zbN ?_ _|refine zbD ?_|refine zbA ?_ _));exact BK309.out⟩,⟨by repeat (first|(with_reducible first|exact HB.out|apply zlA|apply zlN|apply zlD|refine zlS ?_ GE309.out)|exact HB.out)⟩⟩
            ·rw [if_neg c21] at H
             have c21b0:decide ((rd l0_1 x6_1) < x4_1)=false:=decide_eq_false c21
             clear c21
             obtain ⟨ji24,hji24⟩:∃ j_:Int,(mx x5_1 (rd l0_1 x6_1))=j_:=⟨_,rfl⟩
             replace H:(slipwayref04_Spread.l0 kj6 x4_1 ji24 (wrap64 (x6_1 + 1)) l0_0 l0_1)=some (r1,r2):=by first|(rw [hji24] at H;exact H)|(simp only [hji24] at H ⊢;exact H)
             have hji24_:(if x5_1 < (rd l0_1 x6_1) then (rd l0_1 x6_1) else x5_1)=ji24:=hji24
             have H':=zm H
             clear H
             have hcz25_0:wc.cell? ⟨gb309,0,none⟩=some (.slice A0_0 l0_0.length c0_0):=(blk_cell BK309.out 0).trans rfl
             have hcz25_1:wc.cell? ⟨gb309,1,none⟩=some (.slice A0_1 l0_1.length c0_1):=(blk_cell BK309.out 1).trans rfl
             have hfz25_0:=blk_frozen BK309.out 0
             have hfz25_1:=blk_frozen BK309.out 1
             have p311:0≤(x6_1:Int):=of_decide_eq_true (by first|(with_reducible assumption)|assumption)
             have q311:x6_1 < (l0_0.length:Int):=of_decide_eq_true (by first|(with_reducible assumption)|assumption)
             obtain ⟨ad311,e311,hx311_0⟩:=Kd.at_int HR0_0.out x6_1 p311 q311
             cases e311
             replace hx311_0:=(HB.out.cell (World.block_lt_of_cell? w _ hx311_0)).trans hx311_0
             replace p311:=eq_true p311
             replace q311:=eq_true q311
             have p314:0≤(x6_1:Int):=of_decide_eq_true (by first|(with_reducible assumption)|assumption)
             have q314:x6_1 < (l0_1.length:Int):=of_decide_eq_true (by first|(with_reducible assumption)|assumption)
             obtain ⟨ad314,e314,hx314_0⟩:=Kd.at_int HR0_1.out x6_1 p314 q314
             cases e314
             replace hx314_0:=(HB.out.cell (World.block_lt_of_cell? w _ hx314_0)).trans hx314_0
             replace p314:=eq_true p314
             replace q314:=eq_true q314
             have p317:0≤(x6_1:Int):=of_decide_eq_true (by first|(with_reducible assumption)|assumption)
             have q317:x6_1 < (l0_1.length:Int):=of_decide_eq_true (by first|(with_reducible assumption)|assumption)
             obtain ⟨ad317,e317,hx317_0⟩:=Kd.at_int HR0_1.out x6_1 p317 q317
             obtain rfl:ad314=ad317:=(by injection e317)
             replace hx317_0:=(HB.out.cell (World.block_lt_of_cell? w _ hx317_0)).trans hx317_0
             replace p317:=eq_true p317
             replace q317:=eq_true q317
             go_wp2
             go_roundg kj6
             case measure=>have:=HK1.out;have:=HJ6.out;omega
             case rel=>exact ⟨(x4_1),(ji24),(wrap64 (x6_1 + 1)),(by first|rfl|(simp;done)|(simp [*];done)),(by first|rfl|(simp;done)|(simp only [← hji24] <;> (first|rfl|simp))|(simp [*];done)),(by first|rfl|(simp;done)|(simp [*];done)),H',⟨by have:=HK1.out;have:=HJ6.out;omega⟩,⟨by (with_reducible repeat (first|refine zbN ?_ _|refine zbD ?_|refine zbA ?_ _));exact BK309.out⟩,⟨by repeat (first|(with_reducible first|exact HB.out|apply zlA|apply zlN|apply zlD|refine zlS ?_ GE309.out)|exact HB.out)⟩⟩
           ·rw [if_neg c20] at H
            exact absurd H (by simp)
        ·rw [if_neg c13] at H
         exact absurd H (by simp)
       ·rw [if_neg c12] at H
        exact absurd H (by simp)
      ·replace c11:=Bool.eq_false_iff.mpr c11
       subst c11
       have H1:(some (mx x4_1 0,x5_1))=some (r1,r2):=by rw [if_neg (show ¬ (false=true) by decide)] at H;exact H
       clear H
       have H:=H1
       clear H1
       obtain ⟨ji26,hji26⟩:∃ j_:Int,(mx x4_1 0)=j_:=⟨_,rfl⟩
       replace H:(some (ji26,x5_1))=some (r1,r2):=by first|(rw [hji26] at H;exact H)|(simp only [hji26] at H ⊢;exact H)
       have hji26_:(if x4_1 < 0 then 0 else x4_1)=ji26:=hji26
       simp only [Option.some.injEq,Prod.mk.injEq] at H
       obtain ⟨rfl,rfl⟩:=H
       go_wp2
       go_ret2
       exact ⟨by first|rfl|(simp [errW_none,errW_some] <;> rfl)|(simp only [← hji26];first|rfl|(simp [errW_none,errW_some] <;> rfl))|(simp [*,errW_none,errW_some] <;> rfl),by repeat (first|(with_reducible first|exact HB.out|apply zlA|apply zlN|apply zlD|refine zlS ?_ GE309.out)|exact HB.out)⟩
 ·rw [if_neg c3] at H
  have c3b0:(t310 == 0)=false:=beq_eq_false_iff_ne.mpr c3
  have c3b1:(t310 != 0)=true:=bne_iff_ne.mpr c3
  simp only [Option.some.injEq,Prod.mk.injEq] at H
  obtain ⟨rfl,rfl⟩:=H
  go_enter Try.func24,Try.ntmps24
  go_wp2_with (first|((with_reducible refine gate_dst (N:=1) rfl ?_);(try (refine gate_guard (by rfl) ?_;dsimp only));refine box_event ?hg (N:=1) ?hd (cs:=#[.slice A0_0 l0_0.length c0_0,.slice A0_1 l0_1.length c0_1]) (t:=25) ?hr ?_;(case hd=>rfl);(case hg=>rfl);(case hr=>first|(go_simp;done)|(go_simp;rfl));intro gb309 hg w27 hbox hb;have n0_:=zm (below_step (by repeat (first|(with_reducible first|exact HB.out|apply zlA|apply zlN|apply zlD)|exact HB.out)) hb);have n1_:=zm (hbox);have n2_:=zm ((by rw [hg];exact (below_size (by repeat (first|(with_reducible first|exact HB.out|apply zlA|apply zlN|apply zlD)|exact HB.out))):w.heap.size≤gb309));have n3_:=zm ((by rw [hg];exact (below_size (by repeat (first|(with_reducible first|exact HB.out|apply zlA|apply zlN|apply zlD)|exact HB.out))):w.heap.size≤gb309));clear HB;have HB:=n0_;have BK309:=n1_;have GW309:=n2_;have GE309:=n3_;clear n0_ n1_ n2_ n3_;clear hb hbox hg;have hcz28_0:w27.cell? ⟨gb309,0,none⟩=some (.slice A0_0 l0_0.length c0_0):=(blk_cell BK309.out 0).trans rfl;have hcz28_1:w27.cell? ⟨gb309,1,none⟩=some (.slice A0_1 l0_1.length c0_1):=(blk_cell BK309.out 1).trans rfl;have hfz28_0:=blk_frozen BK309.out 0;have hfz28_1:=blk_frozen BK309.out 1)|((with_reducible refine gate_callee (f:=14) rfl ?_);refine goesL_ (some 8) rfl rfl Try.func14 (by kernel_rfl) rfl #[.agg #[.slice A0_0 l0_0.length c0_0,.slice A0_1 l0_1.length c0_1]] rfl (by (try simp only [List.map_toArray,List.map_cons,List.map_nil]);first|done|rfl|(simp only [List.length_drop,List.length_take];rfl)) ?_;(with_reducible refine (slipwayref04_Check.calls k _ _ l0_0 _ _ l0_1 t310 _ ?side1 ?side2 ?side3 ?side4 A2.out).mono ?_);(case side1=>repeat (first|exact (Kd.C_below HR0_0.out HB.out)|(with_reducible refine Kd.C_alloc ?_ _)|(with_reducible refine Kd.C_drewN ?_ _)|(with_reducible refine Kd.C_drew ?_)));(case side2=>exact HC0_0.out);(case side3=>repeat (first|exact (Kd.C_below HR0_1.out HB.out)|(with_reducible refine Kd.C_alloc ?_ _)|(with_reducible refine Kd.C_drewN ?_ _)|(with_reducible refine Kd.C_drew ?_)));(case side4=>exact HC0_1.out);rintro e w29 ⟨rfl,hb⟩;refine ⟨_,rfl,?_⟩;have n0_:=zm (zbB (g:=gb309) (o:=.cells #[.slice A0_0 l0_0.length c0_0,.slice A0_1 l0_1.length c0_1] 25 (0,0)) (by (with_reducible repeat (first|refine zbN ?_ _|refine zbD ?_|refine zbA ?_ _));exact BK309.out) hb);have n1_:=zm (below_step (by repeat (first|(with_reducible first|exact HB.out|apply zlA|apply zlN|apply zlD|refine zlS ?_ GE309.out)|exact HB.out)) hb);clear BK309 HB;have BK309:=n0_;have HB:=n1_;clear n0_ n1_;(try clear hb);(try clear hb2);(try clear hk);(try clear hi)))
  go_ret2
  exact ⟨by first|rfl|(simp [errW_none,errW_some] <;> rfl)|(simp [*,errW_none,errW_some] <;> rfl),by repeat (first|(with_reducible first|exact HB.out|apply zlA|apply zlN|apply zlD|refine zlS ?_ GE309.out)|exact HB.out)⟩
end Go.Proofs.Ytlegmnpngcadhaa.Print
end
section
namespace Go.Proofs.Ytlegmnpngcadhaa.Print
open Go.RowKit Go.Proofs.YtlegmnpngcadhaaW.PrintWords Go.Proofs.YtlegmnpngcadhaaW.PrintLast Go.Proofs.YtlegmnpngcadhaaW.PrintMore
attribute [local go_sem] max2_int min2_int max_two min_two max_three min_three max_four min_four   -- for this text's walks alone
attribute [local go_sem ↓] Go.Proofs.Ytlegmnpngcadhaa.Sem.isSome_setCell
attribute [local go_sem] Go.Instr.field Go.asAgg
set_option linter.unusedVariables false
set_option linter.unusedSimpArgs false
-- NOT PRINTED: function 46 (slices_Values_int_int)
-- NOT PRINTED: function 29 (pool_All)
def slices_Min_int64_int64.l0:Nat → List Int → Int → Int → Option (Int)
 | 0,_,_,_=>none
 | k + 1,x0,x3,x4=>if x4 < (x0.length:Int) then (if 0≤x4 then (slices_Min_int64_int64.l0 k x0 (mn x3 (rd x0 x4)) (wrap64 (x4 + 1))) else (none)) else (some x3)
def slices_Min_int64_int64.f (k:Nat) (l0:List Int):Option (Int):=if (l0.length:Int) < 1 then (none) else (if 0 < (l0.length:Int) then (slices_Min_int64_int64.l0 k l0 (rd l0 0) 1) else (none))
set_option maxHeartbeats 8000000 in
set_option maxRecDepth 100000 in
theorem slices_Min_int64_int64.calls (k:Nat) (A0:Option Addr) (c0:Nat) (l0:List Int) (r:Int) (w:World) (hr0:Kd.C (Kd.int .i64) w A0 l0.length l0) (hc0:l0.length≤c0) (h:slices_Min_int64_int64.f k l0=some r) :
  Calls Try.prog 44 #[.slice A0 l0.length c0] w fun e w'=>e=.returned (.int .i64 r)∧Below w.heap.size w w':=by
 have HR0:=zm hr0
 have HC0:=zm hc0
 clear hr0 hc0
 have HB:=zm (Below.refl w.heap.size w)
 have H:(if (l0.length:Int) < 1 then (none) else (if 0 < (l0.length:Int) then (slices_Min_int64_int64.l0 k l0 (rd l0 0) 1) else (none)))=some r:=h
 clear h
 by_cases c2:(l0.length:Int) < 1
 ·rw [if_pos c2] at H
  exact absurd H (by simp)
 ·rw [if_neg c2] at H
  have c2b0:decide ((l0.length:Int) < 1)=false:=decide_eq_false c2
  have c2b1:decide (l0.length < 1)=false:=decide_eq_false (by omega)
  clear c2
  by_cases c3:0 < (l0.length:Int)
  ·rw [if_pos c3] at H
   have c3b0:decide (0 < (l0.length:Int))=true:=decide_eq_true c3
   have c3b1:decide (0 < l0.length)=true:=decide_eq_true (by omega)
   clear c3
   have H':=zm H
   clear H
   have p305:0≤(0:Int):=(by omega)
   have q305:0 < (l0.length:Int):=of_decide_eq_true (by first|(with_reducible assumption)|assumption)
   obtain ⟨ad305,e305,hx305_0⟩:=Kd.at_int HR0.out 0 p305 q305
   cases e305
   have qi305:(0 < l0.length)=True:=eq_true (by omega)
   (try rw [show ((0:Int)).toNat=0 from rfl] at hx305_0)
   (try rw [Addr.add_zero'] at hx305_0)
   replace p305:=eq_true p305
   replace q305:=eq_true q305
   go_enter Try.func44,Try.ntmps44
   go_wp2
   go_loopg [3,4] k (fun kq v3 v4 w'=>∃ (x3_1:Int) (x4_1:Int),v3=.int .i64 x3_1∧v4=.int .i64 x4_1∧Aside0 (slices_Min_int64_int64.l0 kq l0 x3_1 x4_1=some r)∧Aside0 (kq≤k)∧Aside0 (Below w.heap.size w w'))
   case atStart=>exact ⟨(rd l0 0),(1),(by first|rfl|(simp;done)|(simp [*];done)),(by first|rfl|(simp;done)|(simp [*];done)),H',⟨Nat.le_refl _⟩,⟨by repeat (first|(with_reducible first|exact HB.out|apply zlA|apply zlN|apply zlD)|exact HB.out)⟩⟩
   case round =>
    clear H'
    try clear c2
    try clear c2b0
    try clear c2b1
    try clear p2
    try clear c3
    try clear c3b0
    try clear c3b1
    try clear p3
    try clear q3
    try clear hx3
    try clear qi3
    try clear hx305_0
    try clear p305
    try clear q305
    obtain ⟨x3_1,x4_1,rfl,rfl,HA,HK1,HB⟩:=hrel
    cases gk with
    | zero=>exact absurd HA.out (by simp [slices_Min_int64_int64.l0])
    | succ k1 =>
     have H:=HA.out
     clear HA
     simp only [slices_Min_int64_int64.l0] at H
     by_cases c4:x4_1 < (l0.length:Int)
     ·rw [if_pos c4] at H
      have c4b0:decide (x4_1 < (l0.length:Int))=true:=decide_eq_true c4
      clear c4
      by_cases c5:0≤x4_1
      ·rw [if_pos c5] at H
       have c5b0:decide (0≤x4_1)=true:=decide_eq_true c5
       clear c5
       obtain ⟨ji6,hji6⟩:∃ j_:Int,(mn x3_1 (rd l0 x4_1))=j_:=⟨_,rfl⟩
       replace H:(slices_Min_int64_int64.l0 k1 l0 ji6 (wrap64 (x4_1 + 1)))=some r:=by first|(rw [hji6] at H;exact H)|(simp only [hji6] at H ⊢;exact H)
       have hji6_:(if (rd l0 x4_1) < x3_1 then (rd l0 x4_1) else x3_1)=ji6:=hji6
       have H':=zm H
       clear H
       have p306:0≤(x4_1:Int):=of_decide_eq_true (by first|(with_reducible assumption)|assumption)
       have q306:x4_1 < (l0.length:Int):=of_decide_eq_true (by first|(with_reducible assumption)|assumption)
       obtain ⟨ad306,e306,hx306_0⟩:=Kd.at_int HR0.out x4_1 p306 q306
       obtain rfl:ad305=ad306:=(by injection e306)
       replace hx306_0:=(HB.out.cell (World.block_lt_of_cell? w _ hx306_0)).trans hx306_0
       replace p306:=eq_true p306
       replace q306:=eq_true q306
       go_wp2
       go_roundg k1
       case measure=>have:=HK1.out;omega
       case rel=>exact ⟨(ji6),(wrap64 (x4_1 + 1)),(by first|rfl|(simp;done)|(simp only [← hji6] <;> (first|rfl|simp))|(simp [*];done)),(by first|rfl|(simp;done)|(simp [*];done)),H',⟨by have:=HK1.out;omega⟩,⟨by repeat (first|(with_reducible first|exact HB.out|apply zlA|apply zlN|apply zlD)|exact HB.out)⟩⟩
      ·rw [if_neg c5] at H
       exact absurd H (by simp)
     ·rw [if_neg c4] at H
      have c4b0:decide (x4_1 < (l0.length:Int))=false:=decide_eq_false c4
      clear c4
      obtain rfl:=Option.some.inj H
      go_wp2
      go_ret
      exact ⟨by first|rfl|(simp [errW_none,errW_some] <;> rfl)|(simp [*,errW_none,errW_some] <;> rfl),by repeat (first|(with_reducible first|exact HB.out|apply zlA|apply zlN|apply zlD)|exact HB.out)⟩
  ·rw [if_neg c3] at H
   exact absurd H (by simp)
def slices_Max_int64_int64.l0:Nat → List Int → Int → Int → Option (Int)
 | 0,_,_,_=>none
 | k + 1,x0,x3,x4=>if x4 < (x0.length:Int) then (if 0≤x4 then (slices_Max_int64_int64.l0 k x0 (mx x3 (rd x0 x4)) (wrap64 (x4 + 1))) else (none)) else (some x3)
def slices_Max_int64_int64.f (k:Nat) (l0:List Int):Option (Int):=if (l0.length:Int) < 1 then (none) else (if 0 < (l0.length:Int) then (slices_Max_int64_int64.l0 k l0 (rd l0 0) 1) else (none))
set_option maxHeartbeats 8000000 in
set_option maxRecDepth 100000 in
theorem slices_Max_int64_int64.calls (k:Nat) (A0:Option Addr) (c0:Nat) (l0:List Int) (r:Int) (w:World) (hr0:Kd.C (Kd.int .i64) w A0 l0.length l0) (hc0:l0.length≤c0) (h:slices_Max_int64_int64.f k l0=some r) :
  Calls Try.prog 45 #[.slice A0 l0.length c0] w fun e w'=>e=.returned (.int .i64 r)∧Below w.heap.size w w':=by
 have HR0:=zm hr0
 have HC0:=zm hc0
 clear hr0 hc0
 have HB:=zm (Below.refl w.heap.size w)
 have H:(if (l0.length:Int) < 1 then (none) else (if 0 < (l0.length:Int) then (slices_Max_int64_int64.l0 k l0 (rd l0 0) 1) else (none)))=some r:=h
 clear h
 by_cases c2:(l0.length:Int) < 1
 ·rw [if_pos c2] at H
  exact absurd H (by simp)
 ·rw [if_neg c2] at H
  have c2b0:decide ((l0.length:Int) < 1)=false:=decide_eq_false c2
  have c2b1:decide (l0.length < 1)=false:=decide_eq_false (by omega)
  clear c2
  by_cases c3:0 < (l0.length:Int)
  ·rw [if_pos c3] at H
   have c3b0:decide (0 < (l0.length:Int))=true:=decide_eq_true c3
   have c3b1:decide (0 < l0.length)=true:=decide_eq_true (by omega)
   clear c3
   have H':=zm H
   clear H
   have p307:0≤(0:Int):=(by omega)
   have q307:0 < (l0.length:Int):=of_decide_eq_true (by first|(with_reducible assumption)|assumption)
   obtain ⟨ad307,e307,hx307_0⟩:=Kd.at_int HR0.out 0 p307 q307
   cases e307
   have qi307:(0 < l0.length)=True:=eq_true (by omega)
   (try rw [show ((0:Int)).toNat=0 from rfl] at hx307_0)
   (try rw [Addr.add_zero'] at hx307_0)
   replace p307:=eq_true p307
   replace q307:=eq_true q307
   go_enter Try.func45,Try.ntmps45
   go_wp2
   go_loopg [3,4] k (fun kq v3 v4 w'=>∃ (x3_1:Int) (x4_1:Int),v3=.int .i64 x3_1∧v4=.int .i64 x4_1∧Aside0 (slices_Max_int64_int64.l0 kq l0 x3_1 x4_1=some r)∧Aside0 (kq≤k)∧Aside0 (Below w.heap.size w w'))
   case atStart=>exact ⟨(rd l0 0),(1),(by first|rfl|(simp;done)|(simp [*];done)),(by first|rfl|(simp;done)|(simp [*];done)),H',⟨Nat.le_refl _⟩,⟨by repeat (first|(with_reducible first|exact HB.out|apply zlA|apply zlN|apply zlD)|exact HB.out)⟩⟩
   case round =>
    clear H'
    try clear c2
    try clear c2b0
    try clear c2b1
    try clear p2
    try clear c3
    try clear c3b0
    try clear c3b1
    try clear p3
    try clear q3
    try clear hx3
    try clear qi3
    try clear hx307_0
    try clear p307
    try clear q307
    obtain ⟨x3_1,x4_1,rfl,rfl,HA,HK1,HB⟩:=hrel
    cases gk with
    | zero=>exact absurd HA.out (by simp [slices_Max_int64_int64.l0])
    | succ k1 =>
     have H:=HA.out
     clear HA
     simp only [slices_Max_int64_int64.l0] at H
     by_cases c4:x4_1 < (l0.length:Int)
     ·rw [if_pos c4] at H
      have c4b0:decide (x4_1 < (l0.length:Int))=true:=decide_eq_true c4
      clear c4
      by_cases c5:0≤x4_1
      ·rw [if_pos c5] at H
       have c5b0:decide (0≤x4_1)=true:=decide_eq_true c5
       clear c5
       obtain ⟨ji6,hji6⟩:∃ j_:Int,(mx x3_1 (rd l0 x4_1))=j_:=⟨_,rfl⟩
       replace H:(slices_Max_int64_int64.l0 k1 l0 ji6 (wrap64 (x4_1 + 1)))=some r:=by first|(rw [hji6] at H;exact H)|(simp only [hji6] at H ⊢;exact H)
       have hji6_:(if x3_1 < (rd l0 x4_1) then (rd l0 x4_1) else x3_1)=ji6:=hji6
       have H':=zm H
       clear H
       have p308:0≤(x4_1:Int):=of_decide_eq_true (by first|(with_reducible assumption)|assumption)
       have q308:x4_1 < (l0.length:Int):=of_decide_eq_true (by first|(with_reducible assumption)|assumption)
       obtain ⟨ad308,e308,hx308_0⟩:=Kd.at_int HR0.out x4_1 p308 q308
       obtain rfl:ad307=ad308:=(by injection e308)
       replace hx308_0:=(HB.out.cell (World.block_lt_of_cell? w _ hx308_0)).trans hx308_0
       replace p308:=eq_true p308
       replace q308:=eq_true q308
       go_wp2
       go_roundg k1
       case measure=>have:=HK1.out;omega
       case rel=>exact ⟨(ji6),(wrap64 (x4_1 + 1)),(by first|rfl|(simp;done)|(simp only [← hji6] <;> (first|rfl|simp))|(simp [*];done)),(by first|rfl|(simp;done)|(simp [*];done)),H',⟨by have:=HK1.out;omega⟩,⟨by repeat (first|(with_reducible first|exact HB.out|apply zlA|apply zlN|apply zlD)|exact HB.out)⟩⟩
      ·rw [if_neg c5] at H
       exact absurd H (by simp)
     ·rw [if_neg c4] at H
      have c4b0:decide (x4_1 < (l0.length:Int))=false:=decide_eq_false c4
      clear c4
      obtain rfl:=Option.some.inj H
      go_wp2
      go_ret
      exact ⟨by first|rfl|(simp [errW_none,errW_some] <;> rfl)|(simp [*,errW_none,errW_some] <;> rfl),by repeat (first|(with_reducible first|exact HB.out|apply zlA|apply zlN|apply zlD)|exact HB.out)⟩
  ·rw [if_neg c3] at H
   exact absurd H (by simp)
end Go.Proofs.Ytlegmnpngcadhaa.Print
end
section
namespace Go.Proofs.Ytlegmnpngcadhaa.Print
open Go.RowKit Go.Proofs.YtlegmnpngcadhaaW.PrintWords Go.Proofs.YtlegmnpngcadhaaW.PrintLast Go.Proofs.YtlegmnpngcadhaaW.PrintMore
attribute [local go_sem] max2_int min2_int max_two min_two max_three min_three max_four min_four   -- for this text's walks alone
attribute [local go_sem ↓] Go.Proofs.Ytlegmnpngcadhaa.Sem.isSome_setCell
attribute [local go_sem] Go.Instr.field Go.asAgg
set_option linter.unusedVariables false
set_option linter.unusedSimpArgs false
-- RANGEFUNC
section
open Go.Shelf
attribute [local go_sem] Oper.semAt_some
namespace ItI
abbrev itEncs (p:Int):Array Value:=#[.int .i64 p]
def itKp (Bs:Nat) (A:Option Addr) (X Y:World):Prop:=Y.heap[Bs]?=X.heap[Bs]?∧∀ ad,A=some ad → Y.heap[ad.block]?=X.heap[ad.block]?
theorem itC_same {X Y:World} {A:Option Addr} {l:List Int} (h:Kd.C (Kd.int .i64) X A l.length l) (hk:∀ ad,A=some ad → Y.heap[ad.block]?=X.heap[ad.block]?):Kd.C (Kd.int .i64) Y A l.length l:=by
 refine ⟨h.1,h.2.1,fun hn=>?_⟩
 obtain ⟨ad,e,hc⟩:=h.2.2 hn
 refine ⟨ad,e,fun j p hj=>?_⟩
 obtain ⟨c,h1,h2,h3⟩:=hc j p hj
 refine ⟨c,h1,h2,fun i u hu=>?_⟩
 rw [World.cell?_of_block (w:=X) (w':=Y) (a:=ad.add (j * (Kd.int .i64).sz + i)) (by rw [add_block];exact hk ad e)]
 exact h3 i u hu
theorem itTake_rd (l:List Int) (q:Nat) (h:q < l.length):l.take q ++ [rd l (q:Int)]=l.take (q + 1):=by
 rw [List.take_add_one,rd,Int.toNat_natCast,List.getD_eq_getElem?_getD,List.getElem?_eq_getElem h]
 rfl
set_option maxRecDepth 100000 in
set_option maxHeartbeats 4000000 in
theorem all_stops (l:List Int) (A:Option Addr) (c:Nat) (Bs:Nat) (w:World) (hBs:w.heap[Bs]?=some (.cells #[.slice A l.length c] 22 (0,0))) (hC:Kd.C (Kd.int .i64) w A l.length l) (hlc:l.length≤c) (hA:∀ ad,A=some ad → ad.block < w.heap.size)
  (n:Nat) (hn:1≤n) :
  SeqStopsK Fence.wide n Try.prog 52 #[.pointer (some ⟨Bs,0,none⟩)] itEncs (itKp Bs A) (fun xs=>xs=l) (fun xs=>∃ q,xs=l.take q) l.length w:=fun L J Jx W hW hJ hJx hY h0=>by
 have hlt:Bs < w.heap.size:=(Array.getElem?_eq_some_iff.1 hBs).1
 have hbx:W.heap[Bs]?=some (.cells #[.slice A l.length c] 22 (0,0)):=(hW.block Bs hlt).trans hBs
 have hCW:Kd.C (Kd.int .i64) W A l.length l:=itC_same hC (fun ad e=>hW.block _ (hA ad e))
 have hc0:W.cell? ⟨Bs,0,none⟩=some (.slice A l.length c):=(blk_cell hbx 0).trans rfl
 have hu22:=Try.underlying22
 have hl63:=hC.2.1
 clear hC hA hBs hW
 refine callsIn_of_wp Try.func52 rfl (by trivial) ?_ rfl
 simp only [Try.ntmps52,List.size_toArray,List.length_cons,List.length_nil,Nat.reduceAdd,Nat.reduceSub,Array.replicate_succ,Array.replicate_zero,List.push_toArray,List.append_toArray,List.nil_append,List.cons_append]
 gi_wp2
 clear hc0
 gi_loopw [7] (fun i wr=>∃ q:Nat,q≤l.length∧i=.int .i64 q∧J (l.take q) wr∧Hid (wr.heap[Bs]?=some (.cells #[.slice A l.length c] 22 (0,0)))∧Hid (Kd.C (Kd.int .i64) wr A l.length l))
  (fun i _=>l.length - (intOf i).toNat)
 case atStart=>exact ⟨0,Nat.zero_le _,rfl,h0,hbx,hCW⟩
 case round =>
  obtain ⟨q,hq,rfl,hJs,hbr,hCr⟩:=hrel
  by_cases hlt:q < l.length
  ·obtain ⟨ad,rfl,hx0⟩:=Kd.at_int hCr.out (q:Int) (by omega) (by omega)
   rw [Int.toNat_natCast] at hx0
   obtain ⟨fn,tmps,assign,body,hy,hR⟩:=hY _ (rd l (q:Int)) wr hJs (by rw [List.length_take];omega)
   dsimp only [itEncs] at hy
   gi_wp2
   refine hR.mono ?_
   rintro e w3 (⟨rfl,hJ3,hk3⟩|⟨rfl,hx3⟩)
   ·have hC3:Kd.C (Kd.int .i64) w3 (some ad) l.length l:=itC_same hCr.out hk3.2
    have hb3:w3.heap[Bs]?=some (.cells #[.slice (some ad) l.length c] 22 (0,0)):=hk3.1.trans hbr.out
    gi_wp2
    go_roundw
    case rel=>exact ⟨q + 1,by omega,by simp,by rw [← itTake_rd l q hlt];exact hJ3,hb3,hC3⟩
    case measure=>simp [intOf];omega
   ·gi_wp2
    refine bodyPost_ret (results_none rfl _ _ _) rfl ?_
    exact ⟨⟨_,rfl⟩,.inr ⟨_,⟨q + 1,itTake_rd l q hlt⟩,hx3⟩⟩
  ·obtain rfl:q=l.length:=by omega
   gi_wp2
   go_end0
   exact ⟨⟨_,rfl⟩,.inl ⟨_,rfl,by rw [List.take_length] at hJs;exact hJs⟩⟩
set_option maxHeartbeats 4000000 in
theorem values_in (l:List Int) (A:Option Addr) (c:Nat) (w:World) (n:Nat) (hn:1≤n) :
  CallsIn Fence.wide n Try.prog 46 #[.slice A l.length c] w fun e w'=>e=.returned (.func (.func 52) #[] #[.pointer (some ⟨w.heap.size,0,none⟩)])∧w'=w.alloc (.cells #[.slice A l.length c] 22 (0,0)):=by
 refine callsIn_of_wp Try.func46 rfl (by trivial) ?_ rfl
 simp only [Try.ntmps46,List.size_toArray,List.length_cons,List.length_nil,Nat.reduceAdd,Nat.reduceSub,Array.replicate_succ,Array.replicate_zero,List.push_toArray,List.append_toArray,List.nil_append,List.cons_append]
 gi_wp2
 go_ret
 exact ⟨rfl,rfl⟩
set_option maxRecDepth 100000 in
set_option maxHeartbeats 4000000 in
theorem all_in (k:Nat) (A0:Option Addr) (c0:Nat) (l0:List Int) (A1:Option Addr) (c1:Nat) (l1:List Int) (a:Int) (l:List Int) (w:World) (hr0:Kd.C (Kd.int .i64) w A0 l0.length l0) (hc0:l0.length≤c0) (hr1:Kd.C (Kd.int .i64) w A1 l1.length l1) (hc1:l1.length≤c1) (hp:pool_of.f k l0 l1 a=some l) (n:Nat) (hn:2≤n) :
  CallsIn Fence.wide n Try.prog 29 #[.agg #[.slice A0 l0.length c0,.slice A1 l1.length c1],.int .i64 a] w fun e w'=>∃ (Bs:Nat) (A:Option Addr) (c:Nat),e=.returned (.func (.func 52) #[] #[.pointer (some ⟨Bs,0,none⟩)])∧w'.heap[Bs]?=some (.cells #[.slice A l.length c] 22 (0,0))∧Kd.C (Kd.int .i64) w' A l.length l∧l.length≤c∧(∀ ad,A=some ad → w.heap.size≤ad.block∧ad.block < w'.heap.size)∧w.heap.size≤Bs∧Below w.heap.size w w':=by
 have hu25:=Try.underlying25
 refine callsIn_of_wp Try.func29 rfl (by trivial) ?_ rfl
 simp only [Try.ntmps29,List.size_toArray,List.length_cons,List.length_nil,Nat.reduceAdd,Nat.reduceSub,Array.replicate_succ,Array.replicate_zero,List.push_toArray,List.append_toArray,List.nil_append,List.cons_append]
 gi_wp2
 refine ⟨trivial,fun _=>by omega,(callsIn_wide.mpr (pool_of.calls k A0 c0 l0 A1 c1 l1 a l _ (Kd.C_alloc hr0 _) hc0 (Kd.C_alloc hr1 _) hc1 hp)).mono ?_⟩
 rintro e w2 ⟨v,rfl,hR,hb⟩
 obtain ⟨A,c,rfl,hlc,hC⟩:=Kd.R_reads hR
 have hlt:=Kd.R_lt hR
 have hsz:(w.alloc (.cells #[.slice A0 l0.length c0,.slice A1 l1.length c1] 25 (0,0))).heap.size=w.heap.size + 1:=by simp [World.size_alloc]
 rw [hsz] at hb hR
 have hb2:Below w.heap.size w w2:=(zlA (Below.refl _ _) _).trans (hb.mono (by omega))
 simp only []
 gi_wp2
 refine ⟨trivial,fun _=>by omega,(values_in l A c w2 _ (by omega)).mono ?_⟩
 rintro e w3 ⟨rfl,rfl⟩
 simp only []
 gi_wp2
 go_ret
 exact ⟨w2.heap.size,A,c,rfl,World.alloc_heap_new w2 _,Kd.C_alloc hC _,hlc,fun ad e=>⟨by have:=Kd.R_base hR _ (by rw [e];rfl);omega,Nat.lt_of_lt_of_le (hlt _ (by rw [e];rfl)) (by rw [World.size_alloc];omega)⟩,hb2.size,zlA hb2 _⟩
set_option maxRecDepth 100000 in
set_option maxHeartbeats 4000000 in
theorem all_stopsP {Pr:Int → Prop} (l:List {b:Int // Pr b}) (A:Option Addr) (c:Nat) (Bs:Nat) (w:World) (hBs:w.heap[Bs]?=some (.cells #[.slice A l.length c] 22 (0,0))) (hC:Kd.C (Kd.int .i64) w A (l.map (·.1)).length (l.map (·.1))) (hlc:l.length≤c) (hA:∀ ad,A=some ad → ad.block < w.heap.size)
  (n:Nat) (hn:1≤n) :
  SeqStopsK Fence.wide n Try.prog 52 #[.pointer (some ⟨Bs,0,none⟩)] (fun (p:{b:Int // Pr b})=>(#[.int .i64 p.1]:Array Value)) (itKp Bs A) (fun xs=>xs=l) (fun xs=>∃ q,xs=l.take q) l.length w:=fun L J Jx W hW hJ hJx hY h0=>by
 have hlt:Bs < w.heap.size:=(Array.getElem?_eq_some_iff.1 hBs).1
 have hbx:W.heap[Bs]?=some (.cells #[.slice A l.length c] 22 (0,0)):=(hW.block Bs hlt).trans hBs
 have hCW:Kd.C (Kd.int .i64) W A (l.map (·.1)).length (l.map (·.1)):=itC_same hC (fun ad e=>hW.block _ (hA ad e))
 have hc0:W.cell? ⟨Bs,0,none⟩=some (.slice A l.length c):=(blk_cell hbx 0).trans rfl
 have hu22:=Try.underlying22
 have hl63:l.length≤9223372036854775807:=by have:=hC.2.1;rwa [List.length_map] at this
 clear hC hA hBs hW
 refine callsIn_of_wp Try.func52 rfl (by trivial) ?_ rfl
 simp only [Try.ntmps52,List.size_toArray,List.length_cons,List.length_nil,Nat.reduceAdd,Nat.reduceSub,Array.replicate_succ,Array.replicate_zero,List.push_toArray,List.append_toArray,List.nil_append,List.cons_append]
 gi_wp2
 clear hc0
 gi_loopw [7] (fun i wr=>∃ q:Nat,q≤l.length∧i=.int .i64 q∧J (l.take q) wr∧Hid (wr.heap[Bs]?=some (.cells #[.slice A l.length c] 22 (0,0)))∧Hid (Kd.C (Kd.int .i64) wr A (l.map (·.1)).length (l.map (·.1))))
  (fun i _=>l.length - (intOf i).toNat)
 case atStart=>exact ⟨0,Nat.zero_le _,rfl,h0,hbx,hCW⟩
 case round =>
  obtain ⟨q,hq,rfl,hJs,hbr,hCr⟩:=hrel
  by_cases hlt:q < l.length
  ·obtain ⟨ad,rfl,hx0⟩:=Kd.at_int hCr.out (q:Int) (by omega) (by rw [List.length_map];omega)
   rw [Int.toNat_natCast,show rd (l.map (·.1)) (q:Int)=(l[q]).1 by simp [rd,List.getD_eq_getElem?_getD,hlt]] at hx0
   obtain ⟨fn,tmps,assign,body,hy,hR⟩:=hY _ l[q] wr hJs (by rw [List.length_take];omega)
   gi_wp2
   refine hR.mono ?_
   rintro e w3 (⟨rfl,hJ3,hk3⟩|⟨rfl,hx3⟩)
   ·have hC3:Kd.C (Kd.int .i64) w3 (some ad) (l.map (·.1)).length (l.map (·.1)):=itC_same hCr.out hk3.2
    have hb3:w3.heap[Bs]?=some (.cells #[.slice (some ad) l.length c] 22 (0,0)):=hk3.1.trans hbr.out
    gi_wp2
    go_roundw
    case rel=>exact ⟨q + 1,by omega,by simp,by rw [List.take_succ_eq_append_getElem hlt];exact hJ3,hb3,hC3⟩
    case measure=>simp [intOf];omega
   ·gi_wp2
    refine bodyPost_ret (results_none rfl _ _ _) rfl ?_
    exact ⟨⟨_,rfl⟩,.inr ⟨_,⟨q + 1,(List.take_succ_eq_append_getElem hlt).symm⟩,hx3⟩⟩
  ·obtain rfl:q=l.length:=by omega
   gi_wp2
   go_end0
   rw [List.take_length] at hJs
   first|exact ⟨⟨_,rfl⟩,.inl ⟨_,rfl,hJs⟩⟩|exact ⟨⟨_,rfl⟩,.inl hJs⟩
theorem run_eql_func_nil {P:Program} (w:World) {t:TypeId} {ps rs:Array TypeId} {vr:Bool} (ht:P.underlying t=some (.func ps rs vr)) (f:Fn) (a b:Array Value):(binOp .eql t (.func f a b) .nilFunc).run P w=.ok (.bool false) w:=by
 have h:∀ d:Nat,(Op.equalIn (d + 1) t (.func f a b) .nilFunc).run P w=.ok false w:=fun d=>by simp [Op.equalIn,run_underlying ht]
 simp only [binOp]
 simp [Op.equal,Op.maxDepth,h 9999]
def itVals (l:List Int):List Value:=l.map fun x=>.int .i64 x
theorem vals_snoc (l:List Int) (p:Int):itVals (l ++ [p])=itVals l ++ [.int .i64 p]:=by simp [itVals]
theorem R_of_vals {W:World} {base e:Nat} {v:Value} {l:List Int} (h:W.ownsRow base e 1 v l.length (itVals l)):Kd.R (Kd.int .i64) e W base (fun _=>True) v l:=Kd.R_of_own h (fun _ _=>trivial)
theorem own_abide {W W':World} {row:Option Nat} {base e:Nat} {v:Value} {k:Nat} {xs:List Value} (h:W.ownsRow base e 1 v k xs) (hg:W.grownBy W' row)
  (hr:∀ r,row=some r → ∃ o:Obj,W.heap[r]?=some o∧o.isCells=false):W'.ownsRow base e 1 v k xs:=by
 refine h.kept hg ?_
 rcases h.2 with ⟨rfl,_⟩|⟨g,cap,cur,rfl,_,hgb,_⟩
 ·exact .inl rfl
 ·refine .inr fun e'=>?_
  obtain ⟨o,ho,hw⟩:=hr g (by simpa [Value.ownBlock] using e'.symm)
  rw [hgb] at ho
  cases ho
  cases hw
theorem itOwn_slice {W:World} {base e:Nat} {v:Value} {k:Nat} {xs:List Value} (h:W.ownsRow base e 1 v k xs):∃ A c,v=.slice A k c:=by
 rcases h.2 with ⟨rfl,rfl⟩|⟨g,cap,cur,rfl,_⟩
 ·exact ⟨none,0,rfl⟩
 ·exact ⟨_,_,rfl⟩
structure Sta (most:Int) (B0:Nat) (w W0:World) (pre:List Int) (W:World):Prop where
 box:∃ v,W.heap[w.heap.size + 1]?=some (.cells #[v] 22 (0,0))∧W.ownsRow B0 3 1 v (pre.take most.toNat).length (itVals (pre.take most.toNat))
 mst:W.heap[w.heap.size]?=some (.cells #[.int .i64 most] 3 (0,0))
 below:Below w.heap.size w W
 size:W0.heap.size≤W.heap.size
theorem Sta.own {most:Int} {B0:Nat} {w W0:World} (hB:w.heap.size≤B0) (hB2:w.heap.size + 2≤B0) {pre:List Int} {A B:World} {row:Option Nat} (h:Sta most B0 w W0 pre A) (hg:A.grownBy B row)
  (hr:∀ k,row=some k → W0.heap.size≤k∧∃ o:Obj,A.heap[k]?=some o∧o.isCells=false) (hW0:w.heap.size + 2≤W0.heap.size):Sta most B0 w W0 pre B:=by
 obtain ⟨⟨v,hv,ho⟩,hm,hb,hs⟩:=h
 exact ⟨⟨v,(hg.block _ (Array.getElem?_eq_some_iff.1 hv).1 (fun e=>by have:=(hr _ e.symm).1;omega)).trans hv,own_abide ho hg (fun r e=>(hr r e).2)⟩,(hg.block _ (Array.getElem?_eq_some_iff.1 hm).1 (fun e=>by have:=(hr _ e.symm).1;omega)).trans hm,
  hb.grown hg hb.size (fun q e=>by have:=(hr q e).1;omega),Nat.le_trans hs hg.size⟩
set_option maxRecDepth 100000 in
set_option maxHeartbeats 4000000 in
theorem told_in (l:List Int) (hl:l.length < 100000) (A:Option Addr) (c:Nat) (Bs:Nat) (most:Int) (w:World) (hBs:w.heap[Bs]?=some (.cells #[.slice A l.length c] 22 (0,0))) (hC:Kd.C (Kd.int .i64) w A l.length l) (hlc:l.length≤c) (hA:∀ ad,A=some ad → ad.block < w.heap.size) :
  CallsIn Fence.wide 3 Try.prog 28 #[.func (.func 52) #[] #[.pointer (some ⟨Bs,0,none⟩)],.int .i64 most] w fun e w'=>∃ v0_:Value,e=.returned v0_∧Kd.R (Kd.int .i64) 3 w' w.heap.size (fun _=>True) v0_ (l.take most.toNat)∧Below w.heap.size w w':=by
 have hBl:Bs < w.heap.size:=(Array.getElem?_eq_some_iff.1 hBs).1
 refine callsIn_of_wp_marks Try.func28 rfl (by trivial) ?_ rfl
 simp only [Try.ntmps28,List.size_toArray,List.length_cons,List.length_nil,Nat.reduceAdd,Nat.reduceSub,Array.replicate_succ,Array.replicate_zero,List.push_toArray,List.append_toArray,List.nil_append,List.cons_append]
 have hu22:=Try.underlying22
 have heq:=fun W=>run_eql_func_nil (P:=Try.prog) W Try.underlying53 (.func 52) #[] #[.pointer (some ⟨Bs,0,none⟩)]
 gi_wp2
 have hz0:(w.alloc (.cells #[.int .i64 most] 3 (0,0))).heap.size=w.heap.size + 1:=by simp [World.size_alloc]
 have hS0:((w.alloc (.cells #[.int .i64 most] 3 (0,0))).alloc (.cells #[.slice none 0 0] 22 (0,0))).heap.size=w.heap.size + 2:=by simp [World.size_alloc]
 have hM0:((w.alloc (.cells #[.int .i64 most] 3 (0,0))).alloc (.cells #[.slice none 0 0] 22 (0,0))).heap[w.heap.size]?=some (.cells #[.int .i64 most] 3 (0,0)):=zbA (World.alloc_heap_new w _) _
 have hL0:((w.alloc (.cells #[.int .i64 most] 3 (0,0))).alloc (.cells #[.slice none 0 0] 22 (0,0))).heap[w.heap.size + 1]?=some (.cells #[.slice none 0 0] 22 (0,0)):=by
  have h1:=World.alloc_heap_new (w.alloc (.cells #[.int .i64 most] 3 (0,0))) (.cells #[.slice none 0 0] 22 (0,0))
  rwa [hz0] at h1
 have hW0:Below w.heap.size w ((w.alloc (.cells #[.int .i64 most] 3 (0,0))).alloc (.cells #[.slice none 0 0] 22 (0,0))):=zlA (zlA (Below.refl _ _) _) _
 have hB0:=zbA (zbA hBs (.cells #[.int .i64 most] 3 (0,0))) (.cells #[.slice none 0 0] 22 (0,0))
 have hC0:=Kd.C_alloc (Kd.C_alloc hC (.cells #[.int .i64 most] 3 (0,0))) (.cells #[.slice none 0 0] 22 (0,0))
 generalize ((w.alloc (.cells #[.int .i64 most] 3 (0,0))).alloc (.cells #[.slice none 0 0] 22 (0,0)))=W0 at hS0 hM0 hL0 hW0 hB0 hC0 ⊢
 clear hz0 heq
 have hKp:∀ {W W':World},Below w.heap.size W W' → itKp Bs A W W':=fun h=>⟨h.block _ hBl,fun ad e=>h.block _ (hA ad e)⟩
 obtain ⟨i0,hi,hzz⟩:=Option.map_eq_some_iff.1 info3
 simp only [Prod.mk.injEq] at hzz
 obtain ⟨hz1,hz2,hz3⟩:=hzz
 refine wpIn_rangeFunc_ownH (F:=Fence.wide) rfl (by decide) (gf:=52) (lb:=#[.pointer (some ⟨Bs,0,none⟩)]) rfl (by trivial) (enters_of Try.func52 (by kernel_rfl) rfl) (all_stops l A c Bs W0 hB0 hC0 hlc (fun ad e=>by have:=hA ad e;omega) 2 (by decide))
  (fun h1 h2=>⟨h2.1.trans h1.1,fun ad e=>(h2.2 ad e).trans (h1.2 ad e)⟩) (fun W q o o' hl ho hc _=>⟨World.putObj_heap_other (by omega),fun ad e=>World.putObj_heap_other (by have:=hA ad e;omega)⟩) (Below.refl _ _) (fun _=>rfl)
  (fun pre W=>Sta most (w.heap.size + 2) w W0 pre W∧pre.length≤most.toNat)
  (fun cd pre W=>(cd=.exit 0∧most.toNat≤pre.length)∧Sta most (w.heap.size + 2) w W0 pre W)
  (fun s A B row hs hg' hr=>⟨hs.1.own (by omega) (Nat.le_refl _) hg' hr (by omega),hs.2⟩)
  (fun _ s A B row hs hg' hr=>⟨hs.1,hs.2.own (by omega) (Nat.le_refl _) hg' hr (by omega)⟩)
  ⟨⟨⟨_,hL0,by simpa [itVals] using World.ownsRow_nil _ _ _ _⟩,hM0,hW0,Nat.le_refl _⟩,Nat.zero_le _⟩
  (fun x a' W=>a'={ tmps:=#[.func (.func 52) #[] #[.pointer (some ⟨Bs,0,none⟩)],.int .i64 most,undef,.pointer (some ⟨w.heap.size,0,none⟩),.slice none 0 0,.pointer (some ⟨w.heap.size + 1,0,none⟩),.int .i64 x,.func (.func 52) #[] #[.pointer (some ⟨Bs,0,none⟩)],.bool false,.func (.func 52) #[] #[.pointer (some ⟨Bs,0,none⟩)],.int .i64 x,undef,undef,undef,undef,undef,undef,undef,undef,undef],defers:=[] })
  (fun x a' s A B row hs hg' hr=>hs)
  ?assign ?body ?done ?stop
 case assign =>
  intro L pre x W K hI hK
  gi_wp2
  exact hK _ _ (KeepsFrom.refl _ _) (hKp (Below.refl _ _)) hI rfl
 case body =>
  rintro L pre x a' W hL hLr ⟨⟨⟨v,hv,ho⟩,hm,hb,hs⟩,hpl⟩ rfl hlen
  have htk:pre.take most.toNat=pre:=List.take_of_length_le hpl
  rw [htk] at ho
  obtain ⟨A',c',hvv,_⟩:=Kd.R_reads (R_of_vals ho)
  subst hvv
  have hc3:W.cell? ⟨w.heap.size,0,none⟩=some (.int .i64 most):=(blk_cell hm 0).trans rfl
  have hc5:W.cell? ⟨w.heap.size + 1,0,none⟩=some (.slice A' pre.length c'):=(blk_cell hv 0).trans rfl
  have hf5:=blk_frozen hv 0
  by_cases hge:most≤(pre.length:Int)
  ·gi_wp2
   have e:pre.length=most.toNat:=by omega
   refine ⟨KeepsFrom.refl _ _,⟨rfl,by rw [List.length_append];omega⟩,⟨_,hv,?_⟩,hm,hb,hs⟩
   rw [List.take_append_of_le_length (by omega),htk]
   exact ho
  ·have hnew:∀ j u,[Value.int .i64 x][j]?=some u → (W.alloc (.cells #[.int .i64 x] 3 (0,0))).cell? ((⟨W.heap.size,0,none⟩:Addr).add j)=some u:=fun j u hj=>by
    rw [Addr.add_lit,Nat.zero_add,blk_cell (World.alloc_heap_new W _) j]
    simpa using hj
   have hLl:=(Array.getElem?_eq_some_iff.1 hv).1
   have hMl:=(Array.getElem?_eq_some_iff.1 hm).1
   have hne:∀ {j:Nat},j < w.heap.size + 2 → some j≠(Value.slice A' pre.length c').ownBlock:=fun {j} hj e=>by
    have:=(ho.lt _ e.symm).1
    omega
   gi_wp2_with (gi_at_builtin;refine wpListIn_append_own _ rfl _ _ 22 rfl (w.heap.size + 2) 3 i0 (.int .i64 0) 1 8 Try.underlying22 hi hz1 hz2 hz3 rfl (by decide) _ _ _ rfl (ho.alloc _) ⟨W.heap.size,0,none⟩ 1 1 [.int .i64 x] rfl rfl hnew (by intro u hu;simp at hu;rcases hu with rfl;rfl) (by simp [maxLen];omega) (by omega) (by have:=hs;simp [World.size_alloc];omega) ?_;intro v' w3 hown' hg3 _;obtain ⟨A2,c2,rfl⟩:=itOwn_slice hown';have hv3:w3.heap[w.heap.size + 1]?=some (.cells #[.slice A' pre.length c'] 22 (0,0)):=(hg3.block _ (by rw [World.size_alloc];omega) (hne (by omega))).trans (zbA hv _);have hc6:w3.cell? ⟨w.heap.size + 1,0,none⟩=some (.slice A' pre.length c'):=(blk_cell hv3 0).trans rfl;have hf6:=blk_frozen hv3 0)
   have hwl:w.heap.size + 2≤W.heap.size:=by omega
   have hB4:∀ X,Below w.heap.size X W → Below w.heap.size X (w3.setCell ⟨w.heap.size + 1,0,none⟩ (.slice A2 (pre.length + 1) c2)):=fun X h =>
    Below.setCell ((h.alloc (by omega) _).grown hg3 (by rw [World.size_alloc];omega) (fun k e=>by have:=(ho.lt _ e).1;omega)) (show w.heap.size≤w.heap.size + 1 by omega) _
   have hko:KeepsOthers W (w3.setCell ⟨w.heap.size + 1,0,none⟩ (.slice A2 (pre.length + 1) c2)):=by
    refine ((KeepsOthers.alloc W _).trans (KeepsOthers.of_grownBy hg3 (fun j o hj hjo=>?_))).trans (KeepsOthers.setCell _ _ _)
    obtain ⟨cells,hcs⟩:=own_typed ho j hj
    rw [zbA hcs _] at hjo
    cases hjo
    rfl
   have htk2:(pre ++ [x]).take most.toNat=pre ++ [x]:=List.take_of_length_le (by rw [List.length_append,List.length_singleton];omega)
   refine ⟨hko.from _,hKp (hB4 _ (Below.refl _ _)),⟨⟨_,blk_put hv3 0 _ rfl,?_⟩,?_,hB4 _ hb,Nat.le_trans hs hko.size⟩,by rw [List.length_append,List.length_singleton];omega⟩
   ·rw [htk2,vals_snoc,List.length_append,List.length_singleton]
    refine own_move hown' (fun k hk=>?_)
    exact Below.heap_setCell _ _ _ _ (fun e=>by have:=(hown'.lt _ hk).1;have e2:k=w.heap.size + 1:=e;omega)
   ·refine (Below.heap_setCell _ _ _ _ (show w.heap.size≠w.heap.size + 1 by omega)).trans ?_
    exact (hg3.block _ (by rw [World.size_alloc];omega) (hne (by omega))).trans (zbA hm _)
 case done =>
  rintro D xs W hD rfl ⟨⟨⟨v,hv,ho⟩,hm,hb,hs⟩,hpl⟩ hK
  have hc5:W.cell? ⟨w.heap.size + 1,0,none⟩=some v:=(blk_cell hv 0).trans rfl
  gi_wp2
  refine ⟨by simp,.inl ⟨_,_,rfl,run_takeDeferred hK,?_⟩⟩
  exact ⟨_,results_tmp rfl _ _ _,_,rfl,Kd.R_lower (R_of_vals (own_abide ho (grownBy_putObj' W D _) (fun r e=>by cases e;exact ⟨_,hK,rfl⟩))) (show w.heap.size≤w.heap.size + 2 by omega),hb.grown (grownBy_putObj' W D _) hb.size (fun q e=>by cases e;omega)⟩
 case stop =>
  rintro D cd pre W hD ⟨q,rfl⟩ ⟨⟨rfl,hpq⟩,⟨v,hv,ho⟩,hm,hb,hs⟩ hK
  have hc5:W.cell? ⟨w.heap.size + 1,0,none⟩=some v:=(blk_cell hv 0).trans rfl
  have htq:(l.take q).take most.toNat=l.take most.toNat:=by
   rw [List.take_take]
   rw [List.length_take] at hpq
   by_cases h:most.toNat≤q
   ·rw [Nat.min_eq_left h]
   ·omega
  rw [htq] at ho
  gi_wp2
  refine ⟨by simp,.inl ⟨_,_,rfl,run_takeDeferred hK,?_⟩⟩
  exact ⟨_,results_tmp rfl _ _ _,_,rfl,Kd.R_lower (R_of_vals (own_abide ho (grownBy_putObj' W D _) (fun r e=>by cases e;exact ⟨_,hK,rfl⟩))) (show w.heap.size≤w.heap.size + 2 by omega),hb.grown (grownBy_putObj' W D _) hb.size (fun q e=>by cases e;omega)⟩
def appSem (ats:Array TypeId) (ty:TypeId) (args:Array Value):Sem Value:=Builtin.append_ ats ty args
theorem builtin_app {ats:Array TypeId} {ty:TypeId} {cs:Array Bool} {args:Array Value}:builtin .append ats ty cs args=(do pure (.value (← appSem ats ty args))):=rfl
theorem upon_app {F:Fence} {n:Nat} {P:Program} {o:Oper} {a:Act} {K:Act → World → Prop} {Q:Exit → Act → World → Prop} {w:World} (base t ty e:Nat) (i:TypeInfo) (z:Value) (size bytes:Nat) (ht:P.underlying t=some (.slice e)) (hi:P.info? e=some i) (hz:i.zero=some z)
  (hsize:i.size=size) (hby:i.bytes=bytes) (hzs:z.cells.size=size) (hsz:0 < size) (v:Value) (q:Nat) (xs:List Value) (hown:w.ownsRow base e size v q xs)
  (ad:Addr) (m c:Nat) (news:List Value) (hl:news.length=m * size) (hnews:∀ j u,news[j]?=some u → w.cell? (ad.add j)=some u) (h1:∀ u ∈ news,u.oneCell'=true) (h63:q + m≤maxLen) (hbytes:(q + m) * bytes≤140737488355328) (hbase:base≤w.heap.size)
  (h:∀ v' w',w'.ownsRow base e size v' (q + m) (xs ++ news) → w.grownBy w' v.ownBlock → (v'.ownBlock=v.ownBlock∨v'.ownBlock=some w.heap.size) → K (a.put o.dst v') w') :
  Oper.uponIn F n P o a K Q (((appSem #[t,t] ty #[v,.slice (some ad) m c]).run P w).andThen fun a w'=>.ok (.value a) w'):=by
 obtain ⟨v',w',hr,h2,h3,_,h5⟩:=run_append_own_at (P:=P) (w:=w) base t ty e i z size bytes ht hi hz hsize hby hzs hsz v q xs hown ad m c news hl hnews h1 h63 hbytes hbase
 have hr':(appSem #[t,t] ty #[v,.slice (some ad) m c]).run P w=.ok v' w':=hr
 rw [hr']
 exact h v' w' h2 h3 h5
def itAcc (wl:List Int) (ls:Nat → List Int) (j:Nat):List Int:=((List.range j).flatMap ls).map (rd wl)
theorem acc_succ (wl:List Int) (ls:Nat → List Int) (j:Nat):itAcc wl ls (j + 1)=itAcc wl ls j ++ (ls j).map (rd wl):=by
 simp [itAcc,List.range_succ]
theorem acc_len (wl:List Int) (ls:Nat → List Int) (h:∀ j,j < 5 → (ls j).length < 100000):∀ j,j≤5 → (itAcc wl ls j).length≤j * 100000
 | 0,_=>by simp [itAcc]
 | j + 1,hj=>by
  rw [acc_succ,List.length_append,List.length_map]
  have:=acc_len wl ls h j (by omega)
  have:=h j (by omega)
  omega
def onlyN (G:Exit → Act → World → Prop):Exit → Act → World → Prop
 | .normal,a,w=>G .normal a w
 | _,_,_=>False
theorem only_normal {F:Fence} {n:Nat} {P:Program} {c:Code} {a:Act} {w:World} {G:Exit → Act → World → Prop} (h:c.wpIn F n P (onlyN G) a w):c.wpIn F n P G a w :=
 wpIn_mono h (fun e a w hq=>by cases e <;> first|exact hq|exact hq.elim)
theorem leaves_all {F:Fence} {n:Nat} {P:Program} {fn:Func} {tmps:Array Value} {R:Ending → World → Prop} {w:World} (fin:∀ W',Below w.heap.size w W' → LeavesInM F n P fn tmps R [] .returning W') :
  ∀ (Dl:List Nat) (W:World),Below w.heap.size w W → Dl.Pairwise (·≠·) → (∀ D ∈ Dl,w.heap.size≤D∧W.heap[D]?=some (.deferred (some []))) → LeavesInM F n P fn tmps R (Dl.map fun D=>{ target:=.collected D,args:=#[] }) .returning W
 | [],W,hb,_,_=>fin W hb
 | D :: Dl,W,hb,hp,h=>by
  obtain ⟨hB,hK⟩:=h D (List.mem_cons_self ..)
  obtain ⟨hp1,hp2⟩:=List.pairwise_cons.1 hp
  refine ⟨by simp,.inl ⟨_,_,rfl,run_takeDeferred hK,?_⟩⟩
  exact leaves_all fin Dl _ (hb.grown (grownBy_putObj' W D _) hb.size (fun q e=>by cases e;omega)) hp2 (fun E hE=>⟨(h E (List.mem_cons_of_mem _ hE)).1,(World.putObj_heap_other (hp1 E hE).symm).trans (h E (List.mem_cons_of_mem _ hE)).2⟩)
structure Sp (A0:Option Addr) (n0 c0:Nat) (A1:Option Addr) (n1 c1:Nat) (s1 s2:Nat) (w:World) (xs:List Int) (W:World):Prop where
 box:∃ v,W.heap[w.heap.size + 1]?=some (.cells #[v] 23 (0,0))∧W.ownsRow (w.heap.size + 3) 2 1 v xs.length (itVals xs)∧∀ k,v.ownBlock=some k → k < s1∨s2≤k
 pool:W.heap[w.heap.size]?=some (.cells #[.slice A0 n0 c0,.slice A1 n1 c1] 25 (0,0))
 lit:W.heap[w.heap.size + 2]?=some (.cells #[.int .i64 1,.int .i64 2,.int .i64 3,.int .i64 4,.int .i64 5] 3 (0,0))
 below:Below w.heap.size w W
 size:s2≤W.heap.size
theorem Sp.own {A0:Option Addr} {n0 c0:Nat} {A1:Option Addr} {n1 c1:Nat} {s1 s2:Nat} {w:World} (hs:w.heap.size + 3≤s2) {xs:List Int} {A B:World} {row:Option Nat} (h:Sp A0 n0 c0 A1 n1 c1 s1 s2 w xs A) (hg:A.grownBy B row)
  (hr:∀ k,row=some k → s2≤k∧∃ o:Obj,A.heap[k]?=some o∧o.isCells=false):Sp A0 n0 c0 A1 n1 c1 s1 s2 w xs B:=by
 obtain ⟨⟨v,hv,ho,hf⟩,hp,hl,hb,hz⟩:=h
 exact ⟨⟨v,(hg.block _ (Array.getElem?_eq_some_iff.1 hv).1 (fun e=>by have:=(hr _ e.symm).1;omega)).trans hv,own_abide ho hg (fun r e=>(hr r e).2),hf⟩,(hg.block _ (Array.getElem?_eq_some_iff.1 hp).1 (fun e=>by have:=(hr _ e.symm).1;omega)).trans hp,(hg.block _ (Array.getElem?_eq_some_iff.1 hl).1 (fun e=>by have:=(hr _ e.symm).1;omega)).trans hl,
  hb.grown hg hb.size (fun q e=>by have:=(hr q e).1;omega),Nat.le_trans hz hg.size⟩
section
attribute [local go_sem ↓ high] builtin_app
set_option maxRecDepth 100000 in
set_option maxHeartbeats 4000000 in
theorem spread_in (k:Nat) (A0:Option Addr) (c0:Nat) (r:List Int) (A1:Option Addr) (c1:Nat) (wl:List Int) (ls:Nat → List Int) (lo hi:Int) (w:World) (hr0:Kd.C (Kd.int .i64) w A0 r.length r) (hc0:r.length≤c0) (hr1:Kd.C (Kd.int .i64) w A1 wl.length wl) (hc1:wl.length≤c1)
  (hls:∀ j:Nat,j < 5 → pool_of.f k r wl ((j:Int) + 1)=some (ls j)) (hln:∀ j,j < 5 → (ls j).length < 100000) (hbd:∀ j,j < 5 → ∀ b ∈ ls j,0≤b∧b < (wl.length:Int))
  (hlo:itAcc wl ls 5≠[] → slices_Min_int64_int64.f k (itAcc wl ls 5)=some lo) (hhi:itAcc wl ls 5≠[] → slices_Max_int64_int64.f k (itAcc wl ls 5)=some hi) :
  CallsIn Fence.wide 6 Try.prog 21 #[.agg #[.slice A0 r.length c0,.slice A1 wl.length c1]] w fun e w'=>e=.returned (.tuple #[.int .i64 (if itAcc wl ls 5=[] then 0 else lo),.int .i64 (if itAcc wl ls 5=[] then 0 else hi)])∧Below w.heap.size w w':=by
 have hu25:=Try.underlying25
 have hu23:=Try.underlying23
 have hu22:=Try.underlying22
 refine callsIn_of_wp_marks Try.func21 rfl (by trivial) ?_ rfl
 simp only [Try.ntmps21,List.size_toArray,List.length_cons,List.length_nil,Nat.reduceAdd,Nat.reduceSub,Array.replicate_succ,Array.replicate_zero,List.push_toArray,List.append_toArray,List.nil_append,List.cons_append]
 gi_wp2
 have hsz:(((w.alloc (.cells #[.slice A0 r.length c0,.slice A1 wl.length c1] 25 (0,0))).alloc (.cells #[.slice none 0 0] 23 (0,0))).alloc (.cells #[.int .i64 1,.int .i64 2,.int .i64 3,.int .i64 4,.int .i64 5] 3 (0,0))).heap.size=w.heap.size + 3:=by simp [World.size_alloc]
 have hSp:Sp A0 r.length c0 A1 wl.length c1 0 0 w (itAcc wl ls 0) (((w.alloc (.cells #[.slice A0 r.length c0,.slice A1 wl.length c1] 25 (0,0))).alloc (.cells #[.slice none 0 0] 23 (0,0))).alloc (.cells #[.int .i64 1,.int .i64 2,.int .i64 3,.int .i64 4,.int .i64 5] 3 (0,0))):=by
  have h1:=World.alloc_heap_new (w.alloc (.cells #[.slice A0 r.length c0,.slice A1 wl.length c1] 25 (0,0))) (.cells #[.slice none 0 0] 23 (0,0))
  have h2:=World.alloc_heap_new ((w.alloc (.cells #[.slice A0 r.length c0,.slice A1 wl.length c1] 25 (0,0))).alloc (.cells #[.slice none 0 0] 23 (0,0))) (.cells #[.int .i64 1,.int .i64 2,.int .i64 3,.int .i64 4,.int .i64 5] 3 (0,0))
  rw [show (w.alloc (.cells #[.slice A0 r.length c0,.slice A1 wl.length c1] 25 (0,0))).heap.size=w.heap.size + 1 by simp [World.size_alloc]] at h1
  rw [show ((w.alloc (.cells #[.slice A0 r.length c0,.slice A1 wl.length c1] 25 (0,0))).alloc (.cells #[.slice none 0 0] 23 (0,0))).heap.size=w.heap.size + 2 by simp [World.size_alloc]] at h2
  exact ⟨⟨_,zbA h1 _,by simpa [itAcc,itVals] using World.ownsRow_nil _ _ _ _,fun k _=>.inr (Nat.zero_le _)⟩,zbA (zbA (World.alloc_heap_new w _) _) _,h2,zlA (zlA (zlA (Below.refl _ _) _) _) _,Nat.zero_le _⟩
 obtain ⟨i0,hi0,hzz⟩:=Option.map_eq_some_iff.1 info2
 simp only [Prod.mk.injEq] at hzz
 obtain ⟨hz1,hz2,hz3⟩:=hzz
 generalize (((w.alloc (.cells #[.slice A0 r.length c0,.slice A1 wl.length c1] 25 (0,0))).alloc (.cells #[.slice none 0 0] 23 (0,0))).alloc (.cells #[.int .i64 1,.int .i64 2,.int .i64 3,.int .i64 4,.int .i64 5] 3 (0,0)))=W0 at hsz hSp ⊢
 clear hsz
 refine wpIn_loop (fun a wr=>∃ (j:Nat) (Dl:List Nat) (u6 u11 u12 u13 u14 u15 u16 u26:Value),a={ tmps:=#[.agg #[.slice A0 r.length c0,.slice A1 wl.length c1],.pointer (some ⟨w.heap.size,0,none⟩),.int .i64 0,.int .i64 0,.pointer (some ⟨w.heap.size + 1,0,none⟩),undef,u6,undef,.slice (some ⟨w.heap.size + 1 + 1,0,none⟩) 5 5,.int .i64 5,.int .i64 j,u11,u12,u13,u14,u15,u16,undef,undef,undef,undef,undef,undef,undef,undef,undef,u26,undef,undef,undef,undef,undef,undef,undef],defers:=Dl.map fun D=>{ target:=.collected D,args:=#[] } }∧j≤5∧Sp A0 r.length c0 A1 wl.length c1 0 0 w (itAcc wl ls j) wr∧Hid (Dl.Pairwise (·≠·))∧Hid (∀ D ∈ Dl,w.heap.size≤D∧wr.heap[D]?=some (.deferred (some []))))
  (fun a _=>5 - (intOf (a.tmps.getD 10 undef)).toNat) ⟨0,[],_,_,_,_,_,_,_,_,rfl,by omega,hSp,.nil,fun D hD=>by cases hD⟩ ?round
 case round =>
  rintro a wr ⟨j,Dl,u6,u11,u12,u13,u14,u15,u16,u26,rfl,hj,hS,hDp,hDa⟩
  have hws:w.heap.size + 3≤wr.heap.size:=(Array.getElem?_eq_some_iff.1 hS.lit).1
  by_cases hlt:j < 5
  ·have hd:decide ((j:Int) < 5)=true:=decide_eq_true (by omega)
   have hlj:wr.cell? ⟨w.heap.size + 1 + 1,j,none⟩=some (.int .i64 ((j:Int) + 1)):=(blk_cell hS.lit j).trans (by
    rcases j with _|_|_|_|_|j
    all_goals first|rfl|omega)
   have hcp0:wr.cell? ⟨w.heap.size,0,none⟩=some (.slice A0 r.length c0):=(blk_cell hS.pool 0).trans rfl
   have hcp1:wr.cell? ⟨w.heap.size,1,none⟩=some (.slice A1 wl.length c1):=(blk_cell hS.pool 1).trans rfl
   gi_wp2
   refine ⟨trivial,(all_in k A0 c0 r A1 c1 wl ((j:Int) + 1) (ls j) wr (Kd.C_below hr0 hS.below) hc0 (Kd.C_below hr1 hS.below) hc1 (hls j hlt) _ (by omega)).mono ?_⟩
   rintro e W1 ⟨Bs,A,c,rfl,hBs,hC,hlc,hA,hBg,hb⟩
   simp only []
   clear hcp0 hcp1 hlj hd
   have hS1:Sp A0 r.length c0 A1 wl.length c1 wr.heap.size W1.heap.size w (itAcc wl ls j) W1:=by
    obtain ⟨⟨v,hv,ho,hf⟩,hp,hl,hbw,hz⟩:=hS
    exact ⟨⟨v,(hb.block _ (Array.getElem?_eq_some_iff.1 hv).1).trans hv,pw_own_below ho hb,fun k e=>.inl (own_lt ho k e)⟩,(hb.block _ (Array.getElem?_eq_some_iff.1 hp).1).trans hp,(hb.block _ (Array.getElem?_eq_some_iff.1 hl).1).trans hl,hbw.trans (hb.mono hbw.size),Nat.le_refl _⟩
   have hw1:=hb.size
   have hDl:∀ D ∈ Dl,D < wr.heap.size:=fun D hD=>(Array.getElem?_eq_some_iff.1 (hDa.out D hD).2).1
   have hBl:Bs < W1.heap.size:=(Array.getElem?_eq_some_iff.1 hBs).1
   clear hS
   gi_wp2
   obtain ⟨lp,hlp⟩:∃ lp:List {b:Int // 0≤b∧b < (wl.length:Int)},lp.map (·.1)=ls j:=⟨(ls j).attach.map fun x=>⟨x.1,hbd j hlt x.1 x.2⟩,by simp [List.map_map,Function.comp_def]⟩
   rw [← hlp] at hC hlc hBs
   have hlpn:lp.length < 100000:=by have:=hln j hlt;rw [← hlp,List.length_map] at this;exact this
   rw [List.length_map] at hlc hBs
   refine wpIn_rangeFunc_ownH (F:=Fence.wide) rfl (by decide) (gf:=52) (lb:=#[.pointer (some ⟨Bs,0,none⟩)]) rfl (by trivial) (enters_of Try.func52 (by kernel_rfl) rfl) (all_stopsP lp A c Bs W1 hBs hC hlc (fun ad e=>(hA ad e).2) 5 (by decide))
    (fun h1 h2=>⟨h2.1.trans h1.1,fun ad e=>(h2.2 ad e).trans (h1.2 ad e)⟩) (fun W q o o' hl ho hc _=>⟨World.putObj_heap_other (by omega),fun ad e=>World.putObj_heap_other (by have:=(hA ad e).2;omega)⟩) (Below.refl _ _) (fun _=>rfl)
    (fun pre W=>Sp A0 r.length c0 A1 wl.length c1 wr.heap.size W1.heap.size w (itAcc wl ls j ++ pre.map (fun p=>rd wl p.1)) W∧Hid (∀ D ∈ Dl,W.heap[D]?=some (.deferred (some []))))
    (fun _ _ _=>False)
    (fun s A B row hs hg' hr=>⟨hs.1.own (by omega) hg' hr,fun D hD=>(hg'.block D (Array.getElem?_eq_some_iff.1 (hs.2.out D hD)).1 (fun e=>by have:=(hr D e.symm).1;have:=hDl D hD;omega)).trans (hs.2.out D hD)⟩)
    (fun _ _ _ _ _ hs _ _=>hs)
    ⟨by rw [List.map_nil,List.append_nil];exact hS1,fun D hD=>(hb.block D (hDl D hD)).trans (hDa.out D hD).2⟩
    (fun x a' W=>a'={ tmps:=#[.agg #[.slice A0 r.length c0,.slice A1 wl.length c1],.pointer (some ⟨w.heap.size,0,none⟩),.int .i64 0,.int .i64 0,.pointer (some ⟨w.heap.size + 1,0,none⟩),undef,.int .i64 ((j:Int) + 1),.int .i64 x.1,.slice (some ⟨w.heap.size + 1 + 1,0,none⟩) 5 5,.int .i64 5,.int .i64 j,.bool true,.pointer (some ⟨w.heap.size + 1 + 1,j,none⟩),.int .i64 ((j:Int) + 1),.agg #[.slice A0 r.length c0,.slice A1 wl.length c1],.int .i64 ((j:Int) + 1),.func (.func 52) #[] #[.pointer (some ⟨Bs,0,none⟩)],.int .i64 x.1,undef,undef,undef,undef,undef,undef,undef,undef,u26,undef,undef,undef,undef,undef,undef,undef],defers:=[] })
    (fun x a' s A B row hs hg' hr=>hs)
    ?assign ?body ?done ?stop
   case assign =>
    intro L pre x W K hI hK
    gi_wp2
    exact hK _ _ (KeepsFrom.refl _ _) ⟨rfl,fun _ _=>rfl⟩ hI rfl
   case body =>
    rintro L pre x a' W hL hLr ⟨hS2,hDW⟩ rfl hlen
    obtain ⟨⟨v,hv,ho,hf⟩,hp,hl,hbw,hz⟩:=hS2
    obtain ⟨A',c',hvv,_⟩:=Kd.R_reads (R_of_vals ho)
    subst hvv
    have hc4:W.cell? ⟨w.heap.size + 1,0,none⟩=some (.slice A' (itAcc wl ls j ++ pre.map (fun p=>rd wl p.1)).length c'):=(blk_cell hv 0).trans rfl
    have hf4:=blk_frozen hv 0
    have hp1:W.cell? ⟨w.heap.size,1,none⟩=some (.slice A1 wl.length c1):=(blk_cell hp 1).trans rfl
    have hCw:=Kd.C_below hr1 hbw
    obtain ⟨ax,rfl,hx1⟩:=Kd.at_int hCw x.1 x.2.1 x.2.2
    have hx2:=x.2.1
    have hx3:=x.2.2
    have hal:=acc_len wl ls hln j (by omega)
    have hc4':(W.alloc (.cells #[.int .i64 (rd wl x.1)] 2 (0,0))).cell? ⟨w.heap.size + 1,0,none⟩=some (.slice A' (itAcc wl ls j ++ pre.map (fun p=>rd wl p.1)).length c'):=(blk_cell (zbA hv _) 0).trans rfl
    have hlt3:W.heap[w.heap.size + 1]?=some (.cells #[.slice A' (itAcc wl ls j ++ pre.map (fun p=>rd wl p.1)).length c'] 23 (0,0)):=hv
    rw [List.length_append,List.length_map] at ho hv hlt3 hf
    have hnew:∀ q u,[Value.int .i64 (rd wl x.1)][q]?=some u → (W.alloc (.cells #[.int .i64 (rd wl x.1)] 2 (0,0))).drew.cell? ((⟨W.heap.size,0,none⟩:Addr).add q)=some u:=fun q u hq=>by
     show (W.alloc (.cells #[.int .i64 (rd wl x.1)] 2 (0,0))).cell? _=_
     rw [Addr.add_lit,Nat.zero_add,blk_cell (World.alloc_heap_new W _) q]
     simpa using hq
    have hne:∀ {q:Nat},q < w.heap.size + 3 → some q≠(Value.slice A' ((itAcc wl ls j).length + pre.length) c').ownBlock:=fun {q} hq e=>by
     have:=(ho.lt _ e.symm).1
     omega
    have hod:(W.alloc (.cells #[.int .i64 (rd wl x.1)] 2 (0,0))).drew.ownsRow (w.heap.size + 3) 2 1 (.slice A' ((itAcc wl ls j).length + pre.length) c') ((itAcc wl ls j).length + pre.length) (itVals (itAcc wl ls j ++ pre.map (fun p=>rd wl p.1))):=ho.alloc _
    have fin:∀ (w3:World) (A2:Option Addr) (c2:Nat),(W.alloc (.cells #[.int .i64 (rd wl x.1)] 2 (0,0))).drew.grownBy w3 (Value.slice A' ((itAcc wl ls j).length + pre.length) c').ownBlock →
      w3.ownsRow (w.heap.size + 3) 2 1 (.slice A2 ((itAcc wl ls j).length + pre.length + 1) c2) ((itAcc wl ls j).length + pre.length + 1) (itVals (itAcc wl ls j ++ pre.map (fun p=>rd wl p.1)) ++ [.int .i64 (rd wl x.1)]) →
      ((Value.slice A2 ((itAcc wl ls j).length + pre.length + 1) c2).ownBlock=(Value.slice A' ((itAcc wl ls j).length + pre.length) c').ownBlock∨(Value.slice A2 ((itAcc wl ls j).length + pre.length + 1) c2).ownBlock=some (W.alloc (.cells #[.int .i64 (rd wl x.1)] 2 (0,0))).drew.heap.size) →
      w3.heap[w.heap.size + 1]?=some (.cells #[.slice A' ((itAcc wl ls j).length + pre.length) c'] 23 (0,0)) →
      KeepsFrom W1.heap.size W (w3.setCell ⟨w.heap.size + 1,0,none⟩ (.slice A2 ((itAcc wl ls j).length + pre.length + 1) c2))∧itKp Bs A W (w3.setCell ⟨w.heap.size + 1,0,none⟩ (.slice A2 ((itAcc wl ls j).length + pre.length + 1) c2)) ∧
       Sp A0 r.length c0 (some ax) wl.length c1 wr.heap.size W1.heap.size w (itAcc wl ls j ++ (pre ++ [x]).map (fun p=>rd wl p.1)) (w3.setCell ⟨w.heap.size + 1,0,none⟩ (.slice A2 ((itAcc wl ls j).length + pre.length + 1) c2))∧Hid (∀ D ∈ Dl,(w3.setCell ⟨w.heap.size + 1,0,none⟩ (.slice A2 ((itAcc wl ls j).length + pre.length + 1) c2)).heap[D]?=some (.deferred (some []))):=by
     intro w3 A2 c2 hg3 hown' hat3 hv3
     have hg4:(W.alloc (.cells #[.int .i64 (rd wl x.1)] 2 (0,0))).grownBy w3 (Value.slice A' ((itAcc wl ls j).length + pre.length) c').ownBlock:=⟨hg3.os,hg3.tape,hg3.output,hg3.size,hg3.block⟩
     have hws1:(W.alloc (.cells #[.int .i64 (rd wl x.1)] 2 (0,0))).heap.size=W.heap.size + 1:=by rw [World.size_alloc]
     have hko:KeepsOthers W (w3.setCell ⟨w.heap.size + 1,0,none⟩ (.slice A2 ((itAcc wl ls j).length + pre.length + 1) c2)):=by
      refine ((KeepsOthers.alloc W _).trans (KeepsOthers.of_grownBy hg4 (fun q o hq hqo=>?_))).trans (KeepsOthers.setCell _ _ _)
      obtain ⟨cells,hcs⟩:=own_typed ho q hq
      rw [zbA hcs _] at hqo
      cases hqo
      rfl
     have hel:∀ q:Nat,wr.heap.size≤q → q < W1.heap.size → (w3.setCell ⟨w.heap.size + 1,0,none⟩ (.slice A2 ((itAcc wl ls j).length + pre.length + 1) c2)).heap[q]?=W.heap[q]?:=fun q h1 h2 =>
      ((Below.heap_setCell _ _ _ _ (show q≠w.heap.size + 1 by omega)).trans (hg4.block q (by rw [hws1];omega) (fun e=>by have:=hf q e.symm;omega))).trans ((World.grownBy_alloc W _ none).block q (by omega) (by simp))
     have hold:∀ q:Nat,q < w.heap.size + 3 → q≠w.heap.size + 1 → (w3.setCell ⟨w.heap.size + 1,0,none⟩ (.slice A2 ((itAcc wl ls j).length + pre.length + 1) c2)).heap[q]?=W.heap[q]?:=fun q h1 h2 =>
      ((Below.heap_setCell _ _ _ _ h2).trans (hg4.block q (by rw [hws1];omega) (hne h1))).trans ((World.grownBy_alloc W _ none).block q (by omega) (by simp))
     refine ⟨hko.from _,⟨hel Bs hBg hBl,fun ad e=>hel _ (hA ad e).1 (hA ad e).2⟩,⟨⟨_,blk_put hv3 0 _ rfl,?_,?_⟩,(hold _ (by omega) (by omega)).trans hp,(hold _ (by omega) (by omega)).trans hl,?_,Nat.le_trans hz hko.size⟩,?_⟩
     ·rw [List.map_append,List.map_singleton,← List.append_assoc,vals_snoc,List.length_append,List.length_append,List.length_map,List.length_singleton]
      exact own_move hown' (fun k hk=>Below.heap_setCell _ _ _ _ (fun e=>by have:=(hown'.lt _ hk).1;have e2:k=w.heap.size + 1:=e;omega))
     ·intro k hk
      rcases hat3 with h|h
      ·exact hf k (h.symm.trans hk)
      ·have e2:=h.symm.trans hk
       have e3:(W.alloc (.cells #[.int .i64 (rd wl x.1)] 2 (0,0))).heap.size=k:=Option.some.inj e2
       rw [hws1] at e3
       exact .inr (by omega)
     ·exact Below.setCell ((hbw.alloc (by omega) _).grown hg4 (by rw [hws1];omega) (fun k e=>by have:=(ho.lt _ e).1;omega)) (show w.heap.size≤w.heap.size + 1 by omega) _
     ·refine (fun D hD=>?_:∀ D ∈ Dl,(w3.setCell ⟨w.heap.size + 1,0,none⟩ (.slice A2 ((itAcc wl ls j).length + pre.length + 1) c2)).heap[D]?=some (.deferred (some [])))
      have hDd:=hDW.out D hD
      have hDlt:=(Array.getElem?_eq_some_iff.1 hDd).1
      refine (((Below.heap_setCell _ _ _ _ (show D≠w.heap.size + 1 from fun e=>by rw [e,hv] at hDd;cases hDd)).trans (hg4.block D (by rw [hws1];omega) (fun e=>?_))).trans ((World.grownBy_alloc W _ none).block D hDlt (by simp))).trans hDd
      obtain ⟨cells,hcs⟩:=own_typed ho D e.symm
      rw [hDd] at hcs
      cases hcs
    gi_wp2
    gi_region_with (refine upon_app (w.heap.size + 3) 23 23 2 i0 (.int .i64 0) 1 8 hu23 hi0 hz1 hz2 hz3 rfl (by decide) _ _ _ hod ⟨W.heap.size,0,none⟩ 1 1 [.int .i64 (rd wl x.1)] rfl hnew (by intro u hu;simp at hu;rcases hu with rfl;rfl) (by simp [maxLen];omega) (by omega) (by show _≤(W.alloc _).heap.size;rw [World.size_alloc];omega) ?_;intro v' w3 hown' hg3 hat3;obtain ⟨A2,c2,rfl⟩:=itOwn_slice hown';have hv3:w3.heap[w.heap.size + 1]?=some (.cells #[.slice A' ((itAcc wl ls j).length + pre.length) c'] 23 (0,0)):=(hg3.block _ (by show _ < (W.alloc _).heap.size;rw [World.size_alloc];omega) (hne (by omega))).trans (zbA hv _);have hc6:w3.cell? ⟨w.heap.size + 1,0,none⟩=some (.slice A' ((itAcc wl ls j).length + pre.length) c'):=(blk_cell hv3 0).trans rfl;have hf6:=blk_frozen hv3 0)
    all_goals exact fin _ _ _ hg3 hown' hat3 hv3
   case done =>
    rintro D xs W hD rfl ⟨hS2,hDW⟩ hK
    have hDl2:∀ E ∈ Dl,w.heap.size≤E:=fun E hE=>(hDa.out E hE).1
    have hS3:Sp A0 r.length c0 A1 wl.length c1 0 0 w (itAcc wl ls (j + 1)) W:=by
     obtain ⟨⟨v,hv,ho,hf⟩,hp,hl,hbw,hz⟩:=hS2
     have e:itAcc wl ls (j + 1)=itAcc wl ls j ++ xs.map (fun p=>rd wl p.1):=by rw [acc_succ,← hlp,List.map_map];rfl
     rw [e]
     exact ⟨⟨v,hv,ho,fun k _=>.inr (Nat.zero_le _)⟩,hp,hl,hbw,Nat.zero_le _⟩
    gi_wp2
    refine ⟨⟨j + 1,D :: Dl,_,_,_,_,_,_,_,_,rfl,by omega,hS3,List.pairwise_cons.2 ⟨fun E hE e=>by have:=hDl E hE;omega,hDp.out⟩,(fun E hE=>?_:∀ E ∈ D :: Dl,w.heap.size≤E∧W.heap[E]?=some (.deferred (some [])))⟩,by simp [intOf];omega⟩
    rcases List.mem_cons.1 hE with rfl|hE
    ·exact ⟨by omega,hK⟩
    ·exact ⟨hDl2 E hE,hDW.out E hE⟩
   case stop =>
    rintro D cd pre W _ _ h _
    exact h.elim
  ·have hd:decide ((j:Int) < 5)=false:=decide_eq_false (by omega)
   obtain rfl:j=5:=by omega
   obtain ⟨⟨v,hv,ho,hf⟩,hp,hl,hbw,hz⟩:=hS
   obtain ⟨A',c',hvv,hlm,hCm⟩:=Kd.R_reads (R_of_vals ho)
   subst hvv
   have hc5:wr.cell? ⟨w.heap.size + 1,0,none⟩=some (.slice A' (itAcc wl ls 5).length c'):=(blk_cell hv 0).trans rfl
   by_cases he:itAcc wl ls 5=[]
   ·have hl0:((itAcc wl ls 5).length:Int)=0:=by rw [he];rfl
    gi_wp2
    refine leaves_all (w:=w) (fun W' hb'=>?_) Dl wr hbw hDp.out (fun D hD=>hDa.out D hD)
    exact ⟨_,results_tmp2 rfl _ _ _,rfl,hb'⟩
   ·have hl0:(((itAcc wl ls 5).length:Int) == 0)=false:=by
     have:(itAcc wl ls 5).length≠0:=fun e=>he (List.length_eq_zero_iff.1 e)
     exact beq_eq_false_iff_ne.mpr (by omega)
    gi_wp2
    refine only_normal ?_
    gi_region_with (first|(refine ⟨trivial,(callsIn_wide.mpr (slices_Min_int64_int64.calls k A' c' _ lo _ (by first|exact Kd.C_drew hCm|exact hCm) hlm (hlo he))).mono ?_⟩;rintro e W2 ⟨rfl,hb2⟩;have hc7:W2.cell? ⟨w.heap.size + 1,0,none⟩=some (.slice A' (itAcc wl ls 5).length c'):=pw_cell_below hb2 hc5;have hC2:=Kd.C_below (Kd.C_drew hCm) hb2)|(refine ⟨trivial,(callsIn_wide.mpr (slices_Max_int64_int64.calls k A' c' _ hi _ (by first|exact hC2|exact Kd.C_drew hC2) hlm (hhi he))).mono ?_⟩;rintro e W3 ⟨rfl,hb3⟩))
    all_goals
     unfold onlyN
     gi_wp2
     refine leaves_all (w:=w) (fun W' hb'=>?_) Dl _ ((below_drew hbw).trans ((hb2.trans (hb3.mono hb2.size)).mono hbw.size)) hDp.out (fun D hD=>⟨(hDa.out D hD).1,?_⟩)
     ·exact ⟨_,results_tmp2 rfl _ _ _,rfl,hb'⟩
     ·have hlt2:=(Array.getElem?_eq_some_iff.1 (hDa.out D hD).2).1
      exact (hb3.block D (Nat.lt_of_lt_of_le hlt2 hb2.size)).trans ((hb2.block D hlt2).trans (hDa.out D hD).2)
end
end ItI
end
def pool_Spread.all (w:List Int) (s:List (List Int)):Option (List Int):=if ∀ x ∈ s,x.length < 100000∧∀ b ∈ x,0≤b∧b < (w.length:Int) then some (s.flatten.map (rd w)) else none
def pool_Spread.f (k:Nat) (l0_0:List Int) (l0_1:List Int):Option (Int × Int):=(pool_of.f k l0_0 l0_1 1).bind fun s1=>(pool_of.f k l0_0 l0_1 2).bind fun s2=>(pool_of.f k l0_0 l0_1 3).bind fun s3=>(pool_of.f k l0_0 l0_1 4).bind fun s4=>(pool_of.f k l0_0 l0_1 5).bind fun s5 =>
 (pool_Spread.all l0_1 [s1,s2,s3,s4,s5]).bind fun l=>if l=[] then some (0,0) else (slices_Min_int64_int64.f k l).bind fun a=>(slices_Max_int64_int64.f k l).bind fun b=>some (a,b)
theorem pool_Spread.calls (k:Nat) (A0_0:Option Addr) (c0_0:Nat) (l0_0:List Int) (A0_1:Option Addr) (c0_1:Nat) (l0_1:List Int) (r1:Int) (r2:Int) (w:World) (hr0_0:Kd.C (Kd.int .i64) w A0_0 l0_0.length l0_0) (hc0_0:l0_0.length≤c0_0) (hr0_1:Kd.C (Kd.int .i64) w A0_1 l0_1.length l0_1) (hc0_1:l0_1.length≤c0_1) (h:pool_Spread.f k l0_0 l0_1=some (r1,r2)) :
  Calls Try.prog 21 #[.agg #[.slice A0_0 l0_0.length c0_0,.slice A0_1 l0_1.length c0_1]] w fun e w'=>e=.returned (.tuple #[.int .i64 r1,.int .i64 r2])∧Below w.heap.size w w':=by
 unfold pool_Spread.f at h
 obtain ⟨s1,h1,h⟩:=Option.bind_eq_some_iff.mp h
 obtain ⟨s2,h2,h⟩:=Option.bind_eq_some_iff.mp h
 obtain ⟨s3,h3,h⟩:=Option.bind_eq_some_iff.mp h
 obtain ⟨s4,h4,h⟩:=Option.bind_eq_some_iff.mp h
 obtain ⟨s5,h5,h⟩:=Option.bind_eq_some_iff.mp h
 obtain ⟨l,hl,h⟩:=Option.bind_eq_some_iff.mp h
 unfold pool_Spread.all at hl
 by_cases c:∀ x ∈ [s1,s2,s3,s4,s5],x.length < 100000∧∀ b ∈ x,0≤b∧b < (l0_1.length:Int)
 ·rw [if_pos c] at hl
  have el:ItI.itAcc l0_1 (fun j=>[s1,s2,s3,s4,s5].getD j []) 5=l:=by
   cases hl
   simp [ItI.itAcc,List.range_succ]
  have hm:∀ j:Nat,j < 5 → [s1,s2,s3,s4,s5].getD j [] ∈ [s1,s2,s3,s4,s5]:=fun j hj=>by
   rw [List.getD_eq_getElem?_getD,List.getElem?_eq_getElem (by simpa using hj)]
   exact List.getElem_mem _
  have key:=fun (lo hi:Int)=>ItI.spread_in k A0_0 c0_0 l0_0 A0_1 c0_1 l0_1 (fun j=>[s1,s2,s3,s4,s5].getD j []) lo hi w hr0_0 hc0_0 hr0_1 hc0_1 (fun j hj=>by
    rcases j with _|_|_|_|_|j
    ·exact h1
    ·exact h2
    ·exact h3
    ·exact h4
    ·exact h5
    ·omega) (fun j hj=>(c _ (hm j hj)).1) (fun j hj=>(c _ (hm j hj)).2)
  rw [el] at key
  by_cases e:l=[]
  ·rw [if_pos e] at h
   cases h
   have:=callsIn_wide.mp (key 0 0 (fun n=>absurd e n) (fun n=>absurd e n))
   rw [if_pos e] at this
   exact this
  ·rw [if_neg e] at h
   obtain ⟨a,ha,h⟩:=Option.bind_eq_some_iff.mp h
   obtain ⟨b,hb,h⟩:=Option.bind_eq_some_iff.mp h
   cases h
   have:=callsIn_wide.mp (key _ _ (fun _=>ha) (fun _=>hb))
   rw [if_neg e,if_neg e] at this
   exact this
 ·rw [if_neg c] at hl
  cases hl
end Go.Proofs.Ytlegmnpngcadhaa.Print
end
section
namespace Go.Proofs.Ytlegmnpngcadhaa.Print
open Go.RowKit Go.Proofs.YtlegmnpngcadhaaW.PrintWords Go.Proofs.YtlegmnpngcadhaaW.PrintLast Go.Proofs.YtlegmnpngcadhaaW.PrintMore
attribute [local go_sem] max2_int min2_int max_two min_two max_three min_three max_four min_four   -- for this text's walks alone
attribute [local go_sem ↓] Go.Proofs.Ytlegmnpngcadhaa.Sem.isSome_setCell
attribute [local go_sem] Go.Instr.field Go.asAgg
set_option linter.unusedVariables false
set_option linter.unusedSimpArgs false
mutual
def slipwayref04_Choose.l0:Nat → Int → Int → List Int → List Int → Option (Int × Bool)
 | 0,_,_,_,_=>none
 | k + 1,x4,x5,x351000,x351001=>if x5 < (x351000.length:Int) then (slipwayref04_Choose.j1 k x4 x5 (decide (x5 < (x351001.length:Int))) x351000 x351001) else (slipwayref04_Choose.j1 k x4 x5 false x351000 x351001)
def slipwayref04_Choose.j1:Nat → Int → Int → Bool → List Int → List Int → Option (Int × Bool)
 | 0,_,_,_,_,_=>none
 | k + 1,x4,x5,x20,x351000,x351001=>if x20=true then (if 0≤x5 then (if x5 < (x351000.length:Int) then (if (rd x351000 x5)=1 then (if x4 < 0 then (slipwayref04_Choose.l0 k x5 (wrap64 (x5 + 1)) x351000 x351001) else (if x5 < (x351001.length:Int) then (if 0≤x4 then (if x4 < (x351001.length:Int) then (if (rd x351001 x5) < (rd x351001 x4) then (slipwayref04_Choose.l0 k x5 (wrap64 (x5 + 1)) x351000 x351001) else (slipwayref04_Choose.l0 k x4 (wrap64 (x5 + 1)) x351000 x351001)) else (none)) else (none)) else (none))) else (slipwayref04_Choose.l0 k x4 (wrap64 (x5 + 1)) x351000 x351001)) else (none)) else (none)) else (if x4 < 0 then (some (0,false)) else (some (x4,true)))
end
def slipwayref04_Choose.f (k:Nat) (l0_0:List Int) (l0_1:List Int):Option (Int × Bool):=(slipwayref04_Check.f k l0_0 l0_1).bind fun t351=>(if t351=0 then (slipwayref04_Choose.l0 k (-1) 0 l0_0 l0_1) else (some (0,false)))
set_option maxHeartbeats 8000000 in
set_option maxRecDepth 100000 in
theorem slipwayref04_Choose.calls (k:Nat) (A0_0:Option Addr) (c0_0:Nat) (l0_0:List Int) (A0_1:Option Addr) (c0_1:Nat) (l0_1:List Int) (r1:Int) (r2:Bool) (w:World) (hr0_0:Kd.C (Kd.int .i64) w A0_0 l0_0.length l0_0) (hc0_0:l0_0.length≤c0_0) (hr0_1:Kd.C (Kd.int .i64) w A0_1 l0_1.length l0_1) (hc0_1:l0_1.length≤c0_1) (h:slipwayref04_Choose.f k l0_0 l0_1=some (r1,r2)) :
  Calls Try.prog 22 #[.agg #[.slice A0_0 l0_0.length c0_0,.slice A0_1 l0_1.length c0_1]] w fun e w'=>e=.returned (.tuple #[.int .i64 r1,.bool r2])∧Below w.heap.size w w':=by
 have hu25:=Try.underlying25
 have HR0_0:=zm hr0_0
 have HC0_0:=zm hc0_0
 clear hr0_0 hc0_0
 have HR0_1:=zm hr0_1
 have HC0_1:=zm hc0_1
 clear hr0_1 hc0_1
 have HB:=zm (Below.refl w.heap.size w)
 have H:((slipwayref04_Check.f k l0_0 l0_1).bind fun t351=>(if t351=0 then (slipwayref04_Choose.l0 k (-1) 0 l0_0 l0_1) else (some (0,false))))=some (r1,r2):=h
 clear h
 replace H:=Option.bind_eq_some_iff.mp H
 obtain ⟨t351,A20,H⟩:=H
 replace H:(if t351=0 then (slipwayref04_Choose.l0 k (-1) 0 l0_0 l0_1) else (some (0,false)))=some (r1,r2):=H
 have A2:=zm A20
 clear A20
 by_cases c3:t351=0
 ·rw [if_pos c3] at H
  have c3b0:(t351 == 0)=true:=beq_iff_eq.mpr c3
  have c3b1:(t351 != 0)=false:=bne_eq_false_iff_eq.mpr c3
  clear c3
  have H':=zm H
  clear H
  go_enter Try.func22,Try.ntmps22
  go_wp2_with (first|((with_reducible refine gate_dst (N:=1) rfl ?_);(try (refine gate_guard (by rfl) ?_;dsimp only));refine box_event ?hg (N:=1) ?hd (cs:=#[.slice A0_0 l0_0.length c0_0,.slice A0_1 l0_1.length c0_1]) (t:=25) ?hr ?_;(case hd=>rfl);(case hg=>rfl);(case hr=>first|(go_simp;done)|(go_simp;rfl));intro gb350 hg w4 hbox hb;have n0_:=zm (below_step (by repeat (first|(with_reducible first|exact HB.out|apply zlA|apply zlN|apply zlD)|exact HB.out)) hb);have n1_:=zm (hbox);have n2_:=zm ((by rw [hg];exact (below_size (by repeat (first|(with_reducible first|exact HB.out|apply zlA|apply zlN|apply zlD)|exact HB.out))):w.heap.size≤gb350));have n3_:=zm ((by rw [hg];exact (below_size (by repeat (first|(with_reducible first|exact HB.out|apply zlA|apply zlN|apply zlD)|exact HB.out))):w.heap.size≤gb350));clear HB;have HB:=n0_;have BK350:=n1_;have GW350:=n2_;have GE350:=n3_;clear n0_ n1_ n2_ n3_;clear hb hbox hg;have hcz5_0:w4.cell? ⟨gb350,0,none⟩=some (.slice A0_0 l0_0.length c0_0):=(blk_cell BK350.out 0).trans rfl;have hcz5_1:w4.cell? ⟨gb350,1,none⟩=some (.slice A0_1 l0_1.length c0_1):=(blk_cell BK350.out 1).trans rfl;have hfz5_0:=blk_frozen BK350.out 0;have hfz5_1:=blk_frozen BK350.out 1)|(go_at_call 14;(with_reducible refine (slipwayref04_Check.calls k _ _ l0_0 _ _ l0_1 t351 _ ?side1 ?side2 ?side3 ?side4 A2.out).mono ?_);(case side1=>repeat (first|exact (Kd.C_below HR0_0.out HB.out)|(with_reducible refine Kd.C_alloc ?_ _)|(with_reducible refine Kd.C_drewN ?_ _)|(with_reducible refine Kd.C_drew ?_)));(case side2=>exact HC0_0.out);(case side3=>repeat (first|exact (Kd.C_below HR0_1.out HB.out)|(with_reducible refine Kd.C_alloc ?_ _)|(with_reducible refine Kd.C_drewN ?_ _)|(with_reducible refine Kd.C_drew ?_)));(case side4=>exact HC0_1.out);rintro e w6 ⟨rfl,hb⟩;have n0_:=zm (zbB (g:=gb350) (o:=.cells #[.slice A0_0 l0_0.length c0_0,.slice A0_1 l0_1.length c0_1] 25 (0,0)) (by (with_reducible repeat (first|refine zbN ?_ _|refine zbD ?_|refine zbA ?_ _));exact BK350.out) hb);have n1_:=zm (below_step (by repeat (first|(with_reducible first|exact HB.out|apply zlA|apply zlN|apply zlD|refine zlS ?_ GE350.out)|exact HB.out)) hb);clear BK350 HB;have BK350:=n0_;have HB:=n1_;clear n0_ n1_;(try clear hb);(try clear hb2);(try clear hk);(try clear hi)))
  repeat (go_quiet (first|((with_reducible refine gate_dst (N:=1) rfl ?_);(try (refine gate_guard (by rfl) ?_;dsimp only));refine box_event ?hg (N:=1) ?hd (cs:=#[.slice A0_0 l0_0.length c0_0,.slice A0_1 l0_1.length c0_1]) (t:=25) ?hr ?_;(case hd=>rfl);(case hg=>rfl);(case hr=>first|(go_simp;done)|(go_simp;rfl));intro gb350 hg w4 hbox hb;have n0_:=zm (below_step (by repeat (first|(with_reducible first|exact HB.out|apply zlA|apply zlN|apply zlD)|exact HB.out)) hb);have n1_:=zm (hbox);have n2_:=zm ((by rw [hg];exact (below_size (by repeat (first|(with_reducible first|exact HB.out|apply zlA|apply zlN|apply zlD)|exact HB.out))):w.heap.size≤gb350));have n3_:=zm ((by rw [hg];exact (below_size (by repeat (first|(with_reducible first|exact HB.out|apply zlA|apply zlN|apply zlD)|exact HB.out))):w.heap.size≤gb350));clear HB;have HB:=n0_;have BK350:=n1_;have GW350:=n2_;have GE350:=n3_;clear n0_ n1_ n2_ n3_;clear hb hbox hg;have hcz5_0:w4.cell? ⟨gb350,0,none⟩=some (.slice A0_0 l0_0.length c0_0):=(blk_cell BK350.out 0).trans rfl;have hcz5_1:w4.cell? ⟨gb350,1,none⟩=some (.slice A0_1 l0_1.length c0_1):=(blk_cell BK350.out 1).trans rfl;have hfz5_0:=blk_frozen BK350.out 0;have hfz5_1:=blk_frozen BK350.out 1)|(go_at_call 14;(with_reducible refine (slipwayref04_Check.calls k _ _ l0_0 _ _ l0_1 t351 _ ?side1 ?side2 ?side3 ?side4 A2.out).mono ?_);(case side1=>repeat (first|exact (Kd.C_below HR0_0.out HB.out)|(with_reducible refine Kd.C_alloc ?_ _)|(with_reducible refine Kd.C_drewN ?_ _)|(with_reducible refine Kd.C_drew ?_)));(case side2=>exact HC0_0.out);(case side3=>repeat (first|exact (Kd.C_below HR0_1.out HB.out)|(with_reducible refine Kd.C_alloc ?_ _)|(with_reducible refine Kd.C_drewN ?_ _)|(with_reducible refine Kd.C_drew ?_)));(case side4=>exact HC0_1.out);rintro e w6 ⟨rfl,hb⟩;have n0_:=zm (zbB (g:=gb350) (o:=.cells #[.slice A0_0 l0_0.length c0_0,.slice A0_1 l0_1.length c0_1] 25 (0,0)) (by (with_reducible repeat (first|refine zbN ?_ _|refine zbD ?_|refine zbA ?_ _));exact BK350.out) hb);have n1_:=zm (below_step (by repeat (first|(with_reducible first|exact HB.out|apply zlA|apply zlN|apply zlD|refine zlS ?_ GE350.out)|exact HB.out)) hb);clear BK350 HB;have BK350:=n0_;have HB:=n1_;clear n0_ n1_;(try clear hb);(try clear hb2);(try clear hk);(try clear hi)));try go_wp2_with (first|((with_reducible refine gate_dst (N:=1) rfl ?_);(try (refine gate_guard (by rfl) ?_;dsimp only));refine box_event ?hg (N:=1) ?hd (cs:=#[.slice A0_0 l0_0.length c0_0,.slice A0_1 l0_1.length c0_1]) (t:=25) ?hr ?_;(case hd=>rfl);(case hg=>rfl);(case hr=>first|(go_simp;done)|(go_simp;rfl));intro gb350 hg w4 hbox hb;have n0_:=zm (below_step (by repeat (first|(with_reducible first|exact HB.out|apply zlA|apply zlN|apply zlD)|exact HB.out)) hb);have n1_:=zm (hbox);have n2_:=zm ((by rw [hg];exact (below_size (by repeat (first|(with_reducible first|exact HB.out|apply zlA|apply zlN|apply zlD)|exact HB.out))):w.heap.size≤gb350));have n3_:=zm ((by rw [hg];exact (below_size (by repeat (first|(with_reducible first|exact HB.out|apply zlA|apply zlN|apply zlD)|exact HB.out))):w.heap.size≤gb350));clear HB;have HB:=n0_;have BK350:=n1_;have GW350:=n2_;have GE350:=n3_;clear n0_ n1_ n2_ n3_;clear hb hbox hg;have hcz5_0:w4.cell? ⟨gb350,0,none⟩=some (.slice A0_0 l0_0.length c0_0):=(blk_cell BK350.out 0).trans rfl;have hcz5_1:w4.cell? ⟨gb350,1,none⟩=some (.slice A0_1 l0_1.length c0_1):=(blk_cell BK350.out 1).trans rfl;have hfz5_0:=blk_frozen BK350.out 0;have hfz5_1:=blk_frozen BK350.out 1)|(go_at_call 14;(with_reducible refine (slipwayref04_Check.calls k _ _ l0_0 _ _ l0_1 t351 _ ?side1 ?side2 ?side3 ?side4 A2.out).mono ?_);(case side1=>repeat (first|exact (Kd.C_below HR0_0.out HB.out)|(with_reducible refine Kd.C_alloc ?_ _)|(with_reducible refine Kd.C_drewN ?_ _)|(with_reducible refine Kd.C_drew ?_)));(case side2=>exact HC0_0.out);(case side3=>repeat (first|exact (Kd.C_below HR0_1.out HB.out)|(with_reducible refine Kd.C_alloc ?_ _)|(with_reducible refine Kd.C_drewN ?_ _)|(with_reducible refine Kd.C_drew ?_)));(case side4=>exact HC0_1.out);rintro e w6 ⟨rfl,hb⟩;have n0_:=zm (zbB (g:=gb350) (o:=.cells #[.slice A0_0 l0_0.length c0_0,.slice A0_1 l0_1.length c0_1] 25 (0,0)) (by (with_reducible repeat (first|refine zbN ?_ _|refine zbD ?_|refine zbA ?_ _));exact BK350.out) hb);have n1_:=zm (below_step (by repeat (first|(with_reducible first|exact HB.out|apply zlA|apply zlN|apply zlD|refine zlS ?_ GE350.out)|exact HB.out)) hb);clear BK350 HB;have BK350:=n0_;have HB:=n1_;clear n0_ n1_;(try clear hb);(try clear hb2);(try clear hk);(try clear hi))))
  go_loopg [4,5] k (fun kq v4 v5 w'=>∃ (x4_1:Int) (x5_1:Int),v4=.int .i64 x4_1∧v5=.int .i64 x5_1∧Aside0 (slipwayref04_Choose.l0 kq x4_1 x5_1 l0_0 l0_1=some (r1,r2))∧Aside0 (kq≤k)∧Aside0 (w'.heap[gb350]?=some (.cells #[(.slice A0_0 l0_0.length c0_0),(.slice A0_1 l0_1.length c0_1)] 25 (0,0)))∧Aside0 (Below w.heap.size w w'))
  case atStart=>exact ⟨((-1)),(0),(by first|rfl|(simp;done)|(simp [*];done)),(by first|rfl|(simp;done)|(simp [*];done)),H',⟨Nat.le_refl _⟩,⟨by (with_reducible repeat (first|refine zbN ?_ _|refine zbD ?_|refine zbA ?_ _));exact BK350.out⟩,⟨by repeat (first|(with_reducible first|exact HB.out|apply zlA|apply zlN|apply zlD|refine zlS ?_ GE350.out)|exact HB.out)⟩⟩
  case round =>
   clear H'
   try clear c2
   try clear p2
   try clear c3
   try clear c3b0
   try clear c3b1
   try clear hcz5_0
   try clear hcz5_1
   try clear hfz5_0
   try clear hfz5_1
   obtain ⟨x4_1,x5_1,rfl,rfl,HA,HK1,BK350,HB⟩:=hrel
   cases gk with
   | zero=>exact absurd HA.out (by simp [slipwayref04_Choose.l0])
   | succ k1 =>
    have H:=HA.out
    clear HA
    simp only [slipwayref04_Choose.l0] at H
    have HC7:=zm H
    clear H
    go_upto_region 5 with (fail)
    repeat (go_quiet (fail);go_upto_region 5 with (fail))
    go_cut [20] (fun v20 wc=>∃ (kq:Nat) (x20_6:Bool),v20=.bool x20_6∧Aside0 (slipwayref04_Choose.j1 kq x4_1 x5_1 x20_6 l0_0 l0_1=some (r1,r2))∧Aside0 (kq≤k1)∧Aside0 (wc.heap[gb350]?=some (.cells #[(.slice A0_0 l0_0.length c0_0),(.slice A0_1 l0_1.length c0_1)] 25 (0,0)))∧Aside0 (Below w.heap.size w wc))
    case first =>
     have H:=HC7.out
     clear HC7
     by_cases c8:x5_1 < (l0_0.length:Int)
     ·rw [if_pos c8] at H
      have c8b0:decide (x5_1 < (l0_0.length:Int))=true:=decide_eq_true c8
      clear c8
      (first|rw [c8b0]|(simp only [i64_w,i32_w];rw [c8b0])|skip)
      have H':=zm H
      clear H
      have hcz9_0:wr.cell? ⟨gb350,0,none⟩=some (.slice A0_0 l0_0.length c0_0):=(blk_cell BK350.out 0).trans rfl
      have hcz9_1:wr.cell? ⟨gb350,1,none⟩=some (.slice A0_1 l0_1.length c0_1):=(blk_cell BK350.out 1).trans rfl
      have hfz9_0:=blk_frozen BK350.out 0
      have hfz9_1:=blk_frozen BK350.out 1
      go_wp2
      repeat (go_quiet (fail);try go_wp2)
      go_meet
      case rel=>exact ⟨_,(decide (x5_1 < (l0_1.length:Int))),(by first|rfl|(simp;done)|(simp [*];done)),H',⟨by have:=HK1.out;first|omega|exact Nat.le_refl _⟩,⟨by (with_reducible repeat (first|refine zbN ?_ _|refine zbD ?_|refine zbA ?_ _));exact BK350.out⟩,⟨by repeat (first|(with_reducible first|exact HB.out|apply zlA|apply zlN|apply zlD|refine zlS ?_ GE350.out)|exact HB.out)⟩⟩
     ·rw [if_neg c8] at H
      have c8b0:decide (x5_1 < (l0_0.length:Int))=false:=decide_eq_false c8
      clear c8
      (first|rw [c8b0]|(simp only [i64_w,i32_w];rw [c8b0])|skip)
      have H':=zm H
      clear H
      have hcz10_0:wr.cell? ⟨gb350,0,none⟩=some (.slice A0_0 l0_0.length c0_0):=(blk_cell BK350.out 0).trans rfl
      have hcz10_1:wr.cell? ⟨gb350,1,none⟩=some (.slice A0_1 l0_1.length c0_1):=(blk_cell BK350.out 1).trans rfl
      have hfz10_0:=blk_frozen BK350.out 0
      have hfz10_1:=blk_frozen BK350.out 1
      go_wp2
      repeat (go_quiet (fail);try go_wp2)
      go_meet
      case rel=>exact ⟨_,(false),(by first|rfl|(simp;done)|(simp [*];done)),H',⟨by have:=HK1.out;first|omega|exact Nat.le_refl _⟩,⟨by (with_reducible repeat (first|refine zbN ?_ _|refine zbD ?_|refine zbA ?_ _));exact BK350.out⟩,⟨by repeat (first|(with_reducible first|exact HB.out|apply zlA|apply zlN|apply zlD|refine zlS ?_ GE350.out)|exact HB.out)⟩⟩
    case rest =>
     clear HC7
     try clear c2
     try clear p2
     try clear c3
     try clear c3b0
     try clear c3b1
     try clear c8
     try clear c8b0
     try clear hcz10_0
     try clear hcz10_1
     try clear hcz5_0
     try clear hcz5_1
     try clear hcz9_0
     try clear hcz9_1
     try clear hfz10_0
     try clear hfz10_1
     try clear hfz5_0
     try clear hfz5_1
     try clear hfz9_0
     try clear hfz9_1
     try clear p2
     obtain ⟨kq,x20_6,rfl,HA,HJ6,BK350,HB⟩:=hcut
     cases kq with
     | zero=>exact absurd HA.out (by simp [slipwayref04_Choose.j1])
     | succ kj6 =>
      have H:=HA.out
      clear HA
      simp only [slipwayref04_Choose.j1] at H
      by_cases c11:x20_6=true
      ·subst c11
       have H1:(if 0≤x5_1 then (if x5_1 < (l0_0.length:Int) then (if (rd l0_0 x5_1)=1 then (if x4_1 < 0 then (slipwayref04_Choose.l0 kj6 x5_1 (wrap64 (x5_1 + 1)) l0_0 l0_1) else (if x5_1 < (l0_1.length:Int) then (if 0≤x4_1 then (if x4_1 < (l0_1.length:Int) then (if (rd l0_1 x5_1) < (rd l0_1 x4_1) then (slipwayref04_Choose.l0 kj6 x5_1 (wrap64 (x5_1 + 1)) l0_0 l0_1) else (slipwayref04_Choose.l0 kj6 x4_1 (wrap64 (x5_1 + 1)) l0_0 l0_1)) else (none)) else (none)) else (none))) else (slipwayref04_Choose.l0 kj6 x4_1 (wrap64 (x5_1 + 1)) l0_0 l0_1)) else (none)) else (none))=some (r1,r2):=by rw [if_pos rfl] at H;exact H
       clear H
       have H:=H1
       clear H1
       by_cases c12:0≤x5_1
       ·rw [if_pos c12] at H
        have c12b0:decide (0≤x5_1)=true:=decide_eq_true c12
        clear c12
        by_cases c13:x5_1 < (l0_0.length:Int)
        ·rw [if_pos c13] at H
         have c13b0:decide (x5_1 < (l0_0.length:Int))=true:=decide_eq_true c13
         clear c13
         by_cases c14:(rd l0_0 x5_1)=1
         ·rw [if_pos c14] at H
          have c14b0:((rd l0_0 x5_1) == 1)=true:=beq_iff_eq.mpr c14
          have c14b1:((rd l0_0 x5_1) != 1)=false:=bne_eq_false_iff_eq.mpr c14
          clear c14
          by_cases c15:x4_1 < 0
          ·rw [if_pos c15] at H
           have c15b0:decide (x4_1 < 0)=true:=decide_eq_true c15
           clear c15
           have H':=zm H
           clear H
           have hcz16_0:wc.cell? ⟨gb350,0,none⟩=some (.slice A0_0 l0_0.length c0_0):=(blk_cell BK350.out 0).trans rfl
           have hcz16_1:wc.cell? ⟨gb350,1,none⟩=some (.slice A0_1 l0_1.length c0_1):=(blk_cell BK350.out 1).trans rfl
           have hfz16_0:=blk_frozen BK350.out 0
           have hfz16_1:=blk_frozen BK350.out 1
           have p352:0≤(x5_1:Int):=of_decide_eq_true (by first|(with_reducible assumption)|assumption)
           have q352:x5_1 < (l0_0.length:Int):=of_decide_eq_true (by first|(with_reducible assumption)|assumption)
           obtain ⟨ad352,e352,hx352_0⟩:=Kd.at_int HR0_0.out x5_1 p352 q352
           cases e352
           replace hx352_0:=(HB.out.cell (World.block_lt_of_cell? w _ hx352_0)).trans hx352_0
           replace p352:=eq_true p352
           replace q352:=eq_true q352
           go_wp2
           repeat (go_quiet (fail);try go_wp2)
           go_roundg kj6
           case measure=>have:=HK1.out;have:=HJ6.out;omega
           case rel=>exact ⟨(x5_1),(wrap64 (x5_1 + 1)),(by first|rfl|(simp;done)|(simp [*];done)),(by first|rfl|(simp;done)|(simp [*];done)),H',⟨by have:=HK1.out;have:=HJ6.out;omega⟩,⟨by (with_reducible repeat (first|refine zbN ?_ _|refine zbD ?_|refine zbA ?_ _));exact BK350.out⟩,⟨by repeat (first|(with_reducible first|exact HB.out|apply zlA|apply zlN|apply zlD|refine zlS ?_ GE350.out)|exact HB.out)⟩⟩
          ·rw [if_neg c15] at H
           have c15b0:decide (x4_1 < 0)=false:=decide_eq_false c15
           clear c15
           by_cases c17:x5_1 < (l0_1.length:Int)
           ·rw [if_pos c17] at H
            have c17b0:decide (x5_1 < (l0_1.length:Int))=true:=decide_eq_true c17
            clear c17
            by_cases c18:0≤x4_1
            ·rw [if_pos c18] at H
             have c18b0:decide (0≤x4_1)=true:=decide_eq_true c18
             clear c18
             by_cases c19:x4_1 < (l0_1.length:Int)
             ·rw [if_pos c19] at H
              have c19b0:decide (x4_1 < (l0_1.length:Int))=true:=decide_eq_true c19
              clear c19
              by_cases c20:(rd l0_1 x5_1) < (rd l0_1 x4_1)
              ·rw [if_pos c20] at H
               have c20b0:decide ((rd l0_1 x5_1) < (rd l0_1 x4_1))=true:=decide_eq_true c20
               clear c20
               have H':=zm H
               clear H
               have hcz21_0:wc.cell? ⟨gb350,0,none⟩=some (.slice A0_0 l0_0.length c0_0):=(blk_cell BK350.out 0).trans rfl
               have hcz21_1:wc.cell? ⟨gb350,1,none⟩=some (.slice A0_1 l0_1.length c0_1):=(blk_cell BK350.out 1).trans rfl
               have hfz21_0:=blk_frozen BK350.out 0
               have hfz21_1:=blk_frozen BK350.out 1
               have p352:0≤(x5_1:Int):=of_decide_eq_true (by first|(with_reducible assumption)|assumption)
               have q352:x5_1 < (l0_0.length:Int):=of_decide_eq_true (by first|(with_reducible assumption)|assumption)
               obtain ⟨ad352,e352,hx352_0⟩:=Kd.at_int HR0_0.out x5_1 p352 q352
               cases e352
               replace hx352_0:=(HB.out.cell (World.block_lt_of_cell? w _ hx352_0)).trans hx352_0
               replace p352:=eq_true p352
               replace q352:=eq_true q352
               have p353:0≤(x5_1:Int):=of_decide_eq_true (by first|(with_reducible assumption)|assumption)
               have q353:x5_1 < (l0_1.length:Int):=of_decide_eq_true (by first|(with_reducible assumption)|assumption)
               obtain ⟨ad353,e353,hx353_0⟩:=Kd.at_int HR0_1.out x5_1 p353 q353
               cases e353
               replace hx353_0:=(HB.out.cell (World.block_lt_of_cell? w _ hx353_0)).trans hx353_0
               replace p353:=eq_true p353
               replace q353:=eq_true q353
               have p354:0≤(x4_1:Int):=of_decide_eq_true (by first|(with_reducible assumption)|assumption)
               have q354:x4_1 < (l0_1.length:Int):=of_decide_eq_true (by first|(with_reducible assumption)|assumption)
               obtain ⟨ad354,e354,hx354_0⟩:=Kd.at_int HR0_1.out x4_1 p354 q354
               obtain rfl:ad353=ad354:=(by injection e354)
               replace hx354_0:=(HB.out.cell (World.block_lt_of_cell? w _ hx354_0)).trans hx354_0
               replace p354:=eq_true p354
               replace q354:=eq_true q354
               go_wp2
               repeat (go_quiet (fail);try go_wp2)
               go_roundg kj6
               case measure=>have:=HK1.out;have:=HJ6.out;omega
               case rel=>exact ⟨(x5_1),(wrap64 (x5_1 + 1)),(by first|rfl|(simp;done)|(simp [*];done)),(by first|rfl|(simp;done)|(simp [*];done)),H',⟨by have:=HK1.out;have:=HJ6.out;omega⟩,⟨by (with_reducible repeat (first|refine zbN ?_ _|refine zbD ?_|refine zbA ?_ _));exact BK350.out⟩,⟨by repeat (first|(with_reducible first|exact HB.out|apply zlA|apply zlN|apply zlD|refine zlS ?_ GE350.out)|exact HB.out)⟩⟩
              ·rw [if_neg c20] at H
               have c20b0:decide ((rd l0_1 x5_1) < (rd l0_1 x4_1))=false:=decide_eq_false c20
               clear c20
               have H':=zm H
               clear H
               have hcz22_0:wc.cell? ⟨gb350,0,none⟩=some (.slice A0_0 l0_0.length c0_0):=(blk_cell BK350.out 0).trans rfl
               have hcz22_1:wc.cell? ⟨gb350,1,none⟩=some (.slice A0_1 l0_1.length c0_1):=(blk_cell BK350.out 1).trans rfl
               have hfz22_0:=blk_frozen BK350.out 0
               have hfz22_1:=blk_frozen BK350.out 1
               have p352:0≤(x5_1:Int):=of_decide_eq_true (by first|(with_reducible assumption)|assumption)
               have q352:x5_1 < (l0_0.length:Int):=of_decide_eq_true (by first|(with_reducible assumption)|assumption)
               obtain ⟨ad352,e352,hx352_0⟩:=Kd.at_int HR0_0.out x5_1 p352 q352
               cases e352
               replace hx352_0:=(HB.out.cell (World.block_lt_of_cell? w _ hx352_0)).trans hx352_0
               replace p352:=eq_true p352
               replace q352:=eq_true q352
               have p353:0≤(x5_1:Int):=of_decide_eq_true (by first|(with_reducible assumption)|assumption)
               have q353:x5_1 < (l0_1.length:Int):=of_decide_eq_true (by first|(with_reducible assumption)|assumption)
               obtain ⟨ad353,e353,hx353_0⟩:=Kd.at_int HR0_1.out x5_1 p353 q353
               cases e353
               replace hx353_0:=(HB.out.cell (World.block_lt_of_cell? w _ hx353_0)).trans hx353_0
               replace p353:=eq_true p353
               replace q353:=eq_true q353
               have p354:0≤(x4_1:Int):=of_decide_eq_true (by first|(with_reducible assumption)|assumption)
               have q354:x4_1 < (l0_1.length:Int):=of_decide_eq_true (by first|(with_reducible assumption)|assumption)
               obtain ⟨ad354,e354,hx354_0⟩:=Kd.at_int HR0_1.out x4_1 p354 q354
               obtain rfl:ad353=ad354:=(by injection e354)
               replace hx354_0:=(HB.out.cell (World.block_lt_of_cell? w _ hx354_0)).trans hx354_0
               replace p354:=eq_true p354
               replace q354:=eq_true q354
               go_wp2
               repeat (go_quiet (fail);try go_wp2)
               go_roundg kj6
               case measure=>have:=HK1.out;have:=HJ6.out;omega
               case rel=>exact ⟨(x4_1),(wrap64 (x5_1 + 1)),(by first|rfl|(simp;done)|(simp [*];done)),(by first|rfl|(simp;done)|(simp [*];done)),H',⟨by have:=HK1.out;have:=HJ6.out;omega⟩,⟨by (with_reducible repeat (first|refine zbN ?_ _|refine zbD ?_|refine zbA ?_ _));exact BK350.out⟩,⟨by repeat (first|(with_reducible first|exact HB.out|apply zlA|apply zlN|apply zlD|refine zlS ?_ GE350.out)|exact HB.out)⟩⟩
             ·rw [if_neg c19] at H
              exact absurd H (by simp)
            ·rw [if_neg c18] at H
             exact absurd H (by simp)
           ·rw [if_neg c17] at H
            exact absurd H (by simp)
         ·rw [if_neg c14] at H
          have c14b0:((rd l0_0 x5_1) == 1)=false:=beq_eq_false_iff_ne.mpr c14
          have c14b1:((rd l0_0 x5_1) != 1)=true:=bne_iff_ne.mpr c14
          have H':=zm H
          clear H
          have hcz23_0:wc.cell? ⟨gb350,0,none⟩=some (.slice A0_0 l0_0.length c0_0):=(blk_cell BK350.out 0).trans rfl
          have hcz23_1:wc.cell? ⟨gb350,1,none⟩=some (.slice A0_1 l0_1.length c0_1):=(blk_cell BK350.out 1).trans rfl
          have hfz23_0:=blk_frozen BK350.out 0
          have hfz23_1:=blk_frozen BK350.out 1
          have p352:0≤(x5_1:Int):=of_decide_eq_true (by first|(with_reducible assumption)|assumption)
          have q352:x5_1 < (l0_0.length:Int):=of_decide_eq_true (by first|(with_reducible assumption)|assumption)
          obtain ⟨ad352,e352,hx352_0⟩:=Kd.at_int HR0_0.out x5_1 p352 q352
          cases e352
          replace hx352_0:=(HB.out.cell (World.block_lt_of_cell? w _ hx352_0)).trans hx352_0
          replace p352:=eq_true p352
          replace q352:=eq_true q352
          go_wp2
          repeat (go_quiet (fail);try go_wp2)
          go_roundg kj6
          case measure=>have:=HK1.out;have:=HJ6.out;omega
          case rel=>exact ⟨(x4_1),(wrap64 (x5_1 + 1)),(by first|rfl|(simp;done)|(simp [*];done)),(by first|rfl|(simp;done)|(simp [*];done)),H',⟨by have:=HK1.out;have:=HJ6.out;omega⟩,⟨by (with_reducible repeat (first|refine zbN ?_ _|refine zbD ?_|refine zbA ?_ _));exact BK350.out⟩,⟨by repeat (first|(with_reducible first|exact HB.out|apply zlA|apply zlN|apply zlD|refine zlS ?_ GE350.out)|exact HB.out)⟩⟩
        ·rw [if_neg c13] at H
         exact absurd H (by simp)
       ·rw [if_neg c12] at H
        exact absurd H (by simp)
      ·replace c11:=Bool.eq_false_iff.mpr c11
       subst c11
       have H1:(if x4_1 < 0 then (some (0,false)) else (some (x4_1,true)))=some (r1,r2):=by rw [if_neg (show ¬ (false=true) by decide)] at H;exact H
       clear H
       have H:=H1
       clear H1
       by_cases c24:x4_1 < 0
       ·rw [if_pos c24] at H
        have c24b0:decide (x4_1 < 0)=true:=decide_eq_true c24
        clear c24
        simp only [Option.some.injEq,Prod.mk.injEq] at H
        obtain ⟨rfl,rfl⟩:=H
        go_wp2
        repeat (go_quiet (fail);try go_wp2)
        go_ret2
        exact ⟨by first|rfl|(simp [errW_none,errW_some] <;> rfl)|(simp [*,errW_none,errW_some] <;> rfl),by repeat (first|(with_reducible first|exact HB.out|apply zlA|apply zlN|apply zlD|refine zlS ?_ GE350.out)|exact HB.out)⟩
       ·rw [if_neg c24] at H
        have c24b0:decide (x4_1 < 0)=false:=decide_eq_false c24
        clear c24
        simp only [Option.some.injEq,Prod.mk.injEq] at H
        obtain ⟨rfl,rfl⟩:=H
        go_wp2
        repeat (go_quiet (fail);try go_wp2)
        go_ret2
        exact ⟨by first|rfl|(simp [errW_none,errW_some] <;> rfl)|(simp [*,errW_none,errW_some] <;> rfl),by repeat (first|(with_reducible first|exact HB.out|apply zlA|apply zlN|apply zlD|refine zlS ?_ GE350.out)|exact HB.out)⟩
 ·rw [if_neg c3] at H
  have c3b0:(t351 == 0)=false:=beq_eq_false_iff_ne.mpr c3
  have c3b1:(t351 != 0)=true:=bne_iff_ne.mpr c3
  simp only [Option.some.injEq,Prod.mk.injEq] at H
  obtain ⟨rfl,rfl⟩:=H
  go_enter Try.func22,Try.ntmps22
  go_wp2_with (first|((with_reducible refine gate_dst (N:=1) rfl ?_);(try (refine gate_guard (by rfl) ?_;dsimp only));refine box_event ?hg (N:=1) ?hd (cs:=#[.slice A0_0 l0_0.length c0_0,.slice A0_1 l0_1.length c0_1]) (t:=25) ?hr ?_;(case hd=>rfl);(case hg=>rfl);(case hr=>first|(go_simp;done)|(go_simp;rfl));intro gb350 hg w25 hbox hb;have n0_:=zm (below_step (by repeat (first|(with_reducible first|exact HB.out|apply zlA|apply zlN|apply zlD)|exact HB.out)) hb);have n1_:=zm (hbox);have n2_:=zm ((by rw [hg];exact (below_size (by repeat (first|(with_reducible first|exact HB.out|apply zlA|apply zlN|apply zlD)|exact HB.out))):w.heap.size≤gb350));have n3_:=zm ((by rw [hg];exact (below_size (by repeat (first|(with_reducible first|exact HB.out|apply zlA|apply zlN|apply zlD)|exact HB.out))):w.heap.size≤gb350));clear HB;have HB:=n0_;have BK350:=n1_;have GW350:=n2_;have GE350:=n3_;clear n0_ n1_ n2_ n3_;clear hb hbox hg;have hcz26_0:w25.cell? ⟨gb350,0,none⟩=some (.slice A0_0 l0_0.length c0_0):=(blk_cell BK350.out 0).trans rfl;have hcz26_1:w25.cell? ⟨gb350,1,none⟩=some (.slice A0_1 l0_1.length c0_1):=(blk_cell BK350.out 1).trans rfl;have hfz26_0:=blk_frozen BK350.out 0;have hfz26_1:=blk_frozen BK350.out 1)|(go_at_call 14;(with_reducible refine (slipwayref04_Check.calls k _ _ l0_0 _ _ l0_1 t351 _ ?side1 ?side2 ?side3 ?side4 A2.out).mono ?_);(case side1=>repeat (first|exact (Kd.C_below HR0_0.out HB.out)|(with_reducible refine Kd.C_alloc ?_ _)|(with_reducible refine Kd.C_drewN ?_ _)|(with_reducible refine Kd.C_drew ?_)));(case side2=>exact HC0_0.out);(case side3=>repeat (first|exact (Kd.C_below HR0_1.out HB.out)|(with_reducible refine Kd.C_alloc ?_ _)|(with_reducible refine Kd.C_drewN ?_ _)|(with_reducible refine Kd.C_drew ?_)));(case side4=>exact HC0_1.out);rintro e w27 ⟨rfl,hb⟩;have n0_:=zm (zbB (g:=gb350) (o:=.cells #[.slice A0_0 l0_0.length c0_0,.slice A0_1 l0_1.length c0_1] 25 (0,0)) (by (with_reducible repeat (first|refine zbN ?_ _|refine zbD ?_|refine zbA ?_ _));exact BK350.out) hb);have n1_:=zm (below_step (by repeat (first|(with_reducible first|exact HB.out|apply zlA|apply zlN|apply zlD|refine zlS ?_ GE350.out)|exact HB.out)) hb);clear BK350 HB;have BK350:=n0_;have HB:=n1_;clear n0_ n1_;(try clear hb);(try clear hb2);(try clear hk);(try clear hi)))
  repeat (go_quiet (first|((with_reducible refine gate_dst (N:=1) rfl ?_);(try (refine gate_guard (by rfl) ?_;dsimp only));refine box_event ?hg (N:=1) ?hd (cs:=#[.slice A0_0 l0_0.length c0_0,.slice A0_1 l0_1.length c0_1]) (t:=25) ?hr ?_;(case hd=>rfl);(case hg=>rfl);(case hr=>first|(go_simp;done)|(go_simp;rfl));intro gb350 hg w25 hbox hb;have n0_:=zm (below_step (by repeat (first|(with_reducible first|exact HB.out|apply zlA|apply zlN|apply zlD)|exact HB.out)) hb);have n1_:=zm (hbox);have n2_:=zm ((by rw [hg];exact (below_size (by repeat (first|(with_reducible first|exact HB.out|apply zlA|apply zlN|apply zlD)|exact HB.out))):w.heap.size≤gb350));have n3_:=zm ((by rw [hg];exact (below_size (by repeat (first|(with_reducible first|exact HB.out|apply zlA|apply zlN|apply zlD)|exact HB.out))):w.heap.size≤gb350));clear HB;have HB:=n0_;have BK350:=n1_;have GW350:=n2_;have GE350:=n3_;clear n0_ n1_ n2_ n3_;clear hb hbox hg;have hcz26_0:w25.cell? ⟨gb350,0,none⟩=some (.slice A0_0 l0_0.length c0_0):=(blk_cell BK350.out 0).trans rfl;have hcz26_1:w25.cell? ⟨gb350,1,none⟩=some (.slice A0_1 l0_1.length c0_1):=(blk_cell BK350.out 1).trans rfl;have hfz26_0:=blk_frozen BK350.out 0;have hfz26_1:=blk_frozen BK350.out 1)|(go_at_call 14;(with_reducible refine (slipwayref04_Check.calls k _ _ l0_0 _ _ l0_1 t351 _ ?side1 ?side2 ?side3 ?side4 A2.out).mono ?_);(case side1=>repeat (first|exact (Kd.C_below HR0_0.out HB.out)|(with_reducible refine Kd.C_alloc ?_ _)|(with_reducible refine Kd.C_drewN ?_ _)|(with_reducible refine Kd.C_drew ?_)));(case side2=>exact HC0_0.out);(case side3=>repeat (first|exact (Kd.C_below HR0_1.out HB.out)|(with_reducible refine Kd.C_alloc ?_ _)|(with_reducible refine Kd.C_drewN ?_ _)|(with_reducible refine Kd.C_drew ?_)));(case side4=>exact HC0_1.out);rintro e w27 ⟨rfl,hb⟩;have n0_:=zm (zbB (g:=gb350) (o:=.cells #[.slice A0_0 l0_0.length c0_0,.slice A0_1 l0_1.length c0_1] 25 (0,0)) (by (with_reducible repeat (first|refine zbN ?_ _|refine zbD ?_|refine zbA ?_ _));exact BK350.out) hb);have n1_:=zm (below_step (by repeat (first|(with_reducible first|exact HB.out|apply zlA|apply zlN|apply zlD|refine zlS ?_ GE350.out)|exact HB.out)) hb);clear BK350 HB;have BK350:=n0_;have HB:=n1_;clear n0_ n1_;(try clear hb);(try clear hb2);(try clear hk);(try clear hi)));try go_wp2_with (first|((with_reducible refine gate_dst (N:=1) rfl ?_);(try (refine gate_guard (by rfl) ?_;dsimp only));refine box_event ?hg (N:=1) ?hd (cs:=#[.slice A0_0 l0_0.length c0_0,.slice A0_1 l0_1.length c0_1]) (t:=25) ?hr ?_;(case hd=>rfl);(case hg=>rfl);(case hr=>first|(go_simp;done)|(go_simp;rfl));intro gb350 hg w25 hbox hb;have n0_:=zm (below_step (by repeat (first|(with_reducible first|exact HB.out|apply zlA|apply zlN|apply zlD)|exact HB.out)) hb);have n1_:=zm (hbox);have n2_:=zm ((by rw [hg];exact (below_size (by repeat (first|(with_reducible first|exact HB.out|apply zlA|apply zlN|apply zlD)|exact HB.out))):w.heap.size≤gb350));have n3_:=zm ((by rw [hg];exact (below_size (by repeat (first|(with_reducible first|exact HB.out|apply zlA|apply zlN|apply zlD)|exact HB.out))):w.heap.size≤gb350));clear HB;have HB:=n0_;have BK350:=n1_;have GW350:=n2_;have GE350:=n3_;clear n0_ n1_ n2_ n3_;clear hb hbox hg;have hcz26_0:w25.cell? ⟨gb350,0,none⟩=some (.slice A0_0 l0_0.length c0_0):=(blk_cell BK350.out 0).trans rfl;have hcz26_1:w25.cell? ⟨gb350,1,none⟩=some (.slice A0_1 l0_1.length c0_1):=(blk_cell BK350.out 1).trans rfl;have hfz26_0:=blk_frozen BK350.out 0;have hfz26_1:=blk_frozen BK350.out 1)|(go_at_call 14;(with_reducible refine (slipwayref04_Check.calls k _ _ l0_0 _ _ l0_1 t351 _ ?side1 ?side2 ?side3 ?side4 A2.out).mono ?_);(case side1=>repeat (first|exact (Kd.C_below HR0_0.out HB.out)|(with_reducible refine Kd.C_alloc ?_ _)|(with_reducible refine Kd.C_drewN ?_ _)|(with_reducible refine Kd.C_drew ?_)));(case side2=>exact HC0_0.out);(case side3=>repeat (first|exact (Kd.C_below HR0_1.out HB.out)|(with_reducible refine Kd.C_alloc ?_ _)|(with_reducible refine Kd.C_drewN ?_ _)|(with_reducible refine Kd.C_drew ?_)));(case side4=>exact HC0_1.out);rintro e w27 ⟨rfl,hb⟩;have n0_:=zm (zbB (g:=gb350) (o:=.cells #[.slice A0_0 l0_0.length c0_0,.slice A0_1 l0_1.length c0_1] 25 (0,0)) (by (with_reducible repeat (first|refine zbN ?_ _|refine zbD ?_|refine zbA ?_ _));exact BK350.out) hb);have n1_:=zm (below_step (by repeat (first|(with_reducible first|exact HB.out|apply zlA|apply zlN|apply zlD|refine zlS ?_ GE350.out)|exact HB.out)) hb);clear BK350 HB;have BK350:=n0_;have HB:=n1_;clear n0_ n1_;(try clear hb);(try clear hb2);(try clear hk);(try clear hi))))
  go_ret2
  exact ⟨by first|rfl|(simp [errW_none,errW_some] <;> rfl)|(simp [*,errW_none,errW_some] <;> rfl),by repeat (first|(with_reducible first|exact HB.out|apply zlA|apply zlN|apply zlD|refine zlS ?_ GE350.out)|exact HB.out)⟩
end Go.Proofs.Ytlegmnpngcadhaa.Print
end
section
namespace Go.Proofs.Ytlegmnpngcadhaa.Print
open Go.RowKit Go.Proofs.YtlegmnpngcadhaaW.PrintWords Go.Proofs.YtlegmnpngcadhaaW.PrintLast Go.Proofs.YtlegmnpngcadhaaW.PrintMore
attribute [local go_sem] max2_int min2_int max_two min_two max_three min_three max_four min_four   -- for this text's walks alone
attribute [local go_sem ↓] Go.Proofs.Ytlegmnpngcadhaa.Sem.isSome_setCell
attribute [local go_sem] Go.Instr.field Go.asAgg
set_option linter.unusedVariables false
set_option linter.unusedSimpArgs false
def slipwayref04_All.l0:Nat → Int → List Int → Int → List Int → List Int → Option (List Int)
 | 0,_,_,_,_,_=>none
 | k + 1,x1,x5,x6,x356000,x356001=>if x6 < (x356000.length:Int) then (if 0≤x6 then (if (rd x356000 x6)=x1 then (if x5.length < 17592186044416 then (slipwayref04_All.l0 k x1 (x5 ++ [x6]) (wrap64 (x6 + 1)) x356000 x356001) else (none)) else (slipwayref04_All.l0 k x1 x5 (wrap64 (x6 + 1)) x356000 x356001)) else (none)) else (some x5)
def slipwayref04_All.f (k:Nat) (l0_0:List Int) (l0_1:List Int) (a1:Int):Option (List Int):=(slipwayref04_Check.f k l0_0 l0_1).bind fun t356=>(if t356=0 then (slipwayref04_All.l0 k a1 ([]:List Int) 0 l0_0 l0_1) else (some ([]:List Int)))
set_option maxHeartbeats 8000000 in
set_option maxRecDepth 100000 in
theorem slipwayref04_All.calls (k:Nat) (A0_0:Option Addr) (c0_0:Nat) (l0_0:List Int) (A0_1:Option Addr) (c0_1:Nat) (l0_1:List Int) (a1:Int) (r:List Int) (w:World) (hr0_0:Kd.C (Kd.int .i64) w A0_0 l0_0.length l0_0) (hc0_0:l0_0.length≤c0_0) (hr0_1:Kd.C (Kd.int .i64) w A0_1 l0_1.length l0_1) (hc0_1:l0_1.length≤c0_1) (h:slipwayref04_All.f k l0_0 l0_1 a1=some r) :
  Calls Try.prog 23 #[.agg #[.slice A0_0 l0_0.length c0_0,.slice A0_1 l0_1.length c0_1],.int .i64 a1] w fun e w'=>∃ v0_:Value,e=.returned (v0_)∧Kd.R (Kd.int .i64) 3 w' w.heap.size (fun _=>True) v0_ r∧Below w.heap.size w w':=by
 have hu25:=Try.underlying25
 have HR0_0:=zm hr0_0
 have HC0_0:=zm hc0_0
 clear hr0_0 hc0_0
 have HR0_1:=zm hr0_1
 have HC0_1:=zm hc0_1
 clear hr0_1 hc0_1
 have HB:=zm (Below.refl w.heap.size w)
 have H:((slipwayref04_Check.f k l0_0 l0_1).bind fun t356=>(if t356=0 then (slipwayref04_All.l0 k a1 ([]:List Int) 0 l0_0 l0_1) else (some ([]:List Int))))=some r:=h
 clear h
 replace H:=Option.bind_eq_some_iff.mp H
 obtain ⟨t356,A30,H⟩:=H
 replace H:(if t356=0 then (slipwayref04_All.l0 k a1 ([]:List Int) 0 l0_0 l0_1) else (some ([]:List Int)))=some r:=H
 have A3:=zm A30
 clear A30
 by_cases c4:t356=0
 ·rw [if_pos c4] at H
  have c4b0:(t356 == 0)=true:=beq_iff_eq.mpr c4
  have c4b1:(t356 != 0)=false:=bne_eq_false_iff_eq.mpr c4
  clear c4
  have H':=zm H
  clear H
  go_enter Try.func23,Try.ntmps23
  go_wp2_with (first|((with_reducible refine gate_dst (N:=2) rfl ?_);refine box_event ?hg (N:=2) ?hd (cs:=#[.slice A0_0 l0_0.length c0_0,.slice A0_1 l0_1.length c0_1]) (t:=25) ?hr ?_;(case hd=>rfl);(case hg=>rfl);(case hr=>first|(go_simp;done)|(go_simp;rfl));intro gb355 hg w5 hbox hb;have n0_:=zm (below_step (by repeat (first|(with_reducible first|exact HB.out|apply zlA|apply zlN|apply zlD)|exact HB.out)) hb);have n1_:=zm (hbox);have n2_:=zm ((by rw [hg];exact (below_size (by repeat (first|(with_reducible first|exact HB.out|apply zlA|apply zlN|apply zlD)|exact HB.out))):w.heap.size≤gb355));have n3_:=zm ((by rw [hg];exact (below_size (by repeat (first|(with_reducible first|exact HB.out|apply zlA|apply zlN|apply zlD)|exact HB.out))):w.heap.size≤gb355));clear HB;have HB:=n0_;have BK355:=n1_;have GW355:=n2_;have GE355:=n3_;clear n0_ n1_ n2_ n3_;clear hb hbox hg;have hcz6_0:w5.cell? ⟨gb355,0,none⟩=some (.slice A0_0 l0_0.length c0_0):=(blk_cell BK355.out 0).trans rfl;have hcz6_1:w5.cell? ⟨gb355,1,none⟩=some (.slice A0_1 l0_1.length c0_1):=(blk_cell BK355.out 1).trans rfl;have hfz6_0:=blk_frozen BK355.out 0;have hfz6_1:=blk_frozen BK355.out 1)|((with_reducible refine gate_callee (f:=14) rfl ?_);refine goesL_ (some 8) rfl rfl Try.func14 (by kernel_rfl) rfl #[.agg #[.slice A0_0 l0_0.length c0_0,.slice A0_1 l0_1.length c0_1]] rfl (by (try simp only [List.map_toArray,List.map_cons,List.map_nil]);first|done|rfl|(simp only [List.length_drop,List.length_take];rfl)) ?_;(with_reducible refine (slipwayref04_Check.calls k _ _ l0_0 _ _ l0_1 t356 _ ?side1 ?side2 ?side3 ?side4 A3.out).mono ?_);(case side1=>repeat (first|exact (Kd.C_below HR0_0.out HB.out)|(with_reducible refine Kd.C_alloc ?_ _)|(with_reducible refine Kd.C_drewN ?_ _)|(with_reducible refine Kd.C_drew ?_)));(case side2=>exact HC0_0.out);(case side3=>repeat (first|exact (Kd.C_below HR0_1.out HB.out)|(with_reducible refine Kd.C_alloc ?_ _)|(with_reducible refine Kd.C_drewN ?_ _)|(with_reducible refine Kd.C_drew ?_)));(case side4=>exact HC0_1.out);rintro e w7 ⟨rfl,hb⟩;refine ⟨_,rfl,?_⟩;have n0_:=zm (zbB (g:=gb355) (o:=.cells #[.slice A0_0 l0_0.length c0_0,.slice A0_1 l0_1.length c0_1] 25 (0,0)) (by (with_reducible repeat (first|refine zbN ?_ _|refine zbD ?_|refine zbA ?_ _));exact BK355.out) hb);have n1_:=zm (below_step (by repeat (first|(with_reducible first|exact HB.out|apply zlA|apply zlN|apply zlD|refine zlS ?_ GE355.out)|exact HB.out)) hb);clear BK355 HB;have BK355:=n0_;have HB:=n1_;clear n0_ n1_;(try clear hb);(try clear hb2);(try clear hk);(try clear hi)))
  go_loopg [5,6] k (fun kq v5 v6 w'=>∃ (x5_1:List Int) (x6_1:Int),v6=.int .i64 x6_1∧Aside0 (slipwayref04_All.l0 kq a1 x5_1 x6_1 l0_0 l0_1=some r)∧Aside0 (kq≤k)∧Aside0 (Kd.R (Kd.int .i64) 3 w' w.heap.size (fun _=>True) v5 x5_1)∧Aside0 (w'.heap[gb355]?=some (.cells #[(.slice A0_0 l0_0.length c0_0),(.slice A0_1 l0_1.length c0_1)] 25 (0,0)))∧Aside0 (Below w.heap.size w w'))
  case atStart=>exact ⟨(([]:List Int)),(0),(by first|rfl|(simp;done)|(simp [*];done)),H',⟨Nat.le_refl _⟩,⟨by first|exact Kd.R_nil _ _ _ _ _|exact Kd.N_nil _ _ _ _ _|exact Kd.V_nil _ _ _ _ _|exact Kd.Q_nil _ _ _ _ _|exact Kd.S_nil _ _ _ _ _⟩,⟨by (with_reducible repeat (first|refine zbN ?_ _|refine zbD ?_|refine zbA ?_ _));exact BK355.out⟩,⟨by repeat (first|(with_reducible first|exact HB.out|apply zlA|apply zlN|apply zlD|refine zlS ?_ GE355.out)|exact HB.out)⟩⟩
  case round =>
   clear H'
   try clear c1
   try clear c2
   try clear p2
   try clear c4
   try clear c4b0
   try clear c4b1
   try clear hcz6_0
   try clear hcz6_1
   try clear hfz6_0
   try clear hfz6_1
   obtain ⟨x5_1,x6_1,rfl,HA,HK1,HO_5,BK355,HB⟩:=hrel
   cases gk with
   | zero=>exact absurd HA.out (by simp [slipwayref04_All.l0])
   | succ k1 =>
    have H:=HA.out
    clear HA
    simp only [slipwayref04_All.l0] at H
    by_cases c8:x6_1 < (l0_0.length:Int)
    ·rw [if_pos c8] at H
     have c8b0:decide (x6_1 < (l0_0.length:Int))=true:=decide_eq_true c8
     clear c8
     by_cases c9:0≤x6_1
     ·rw [if_pos c9] at H
      have c9b0:decide (0≤x6_1)=true:=decide_eq_true c9
      clear c9
      by_cases c10:(rd l0_0 x6_1)=a1
      ·rw [if_pos c10] at H
       have c10b0:((rd l0_0 x6_1) == a1)=true:=beq_iff_eq.mpr c10
       have c10b1:((rd l0_0 x6_1) != a1)=false:=bne_eq_false_iff_eq.mpr c10
       clear c10
       by_cases c11:x5_1.length < 17592186044416
       ·rw [if_pos c11] at H
        have LMc11:=zm c11
        clear c11
        obtain ⟨y358,hy358⟩:∃ y_:List Int,y_=(x5_1 ++ [x6_1]):=⟨_,rfl⟩
        replace H:(slipwayref04_All.l0 k1 a1 y358 (wrap64 (x6_1 + 1)) l0_0 l0_1)=some r:=by first|(rw [hy358];with_reducible exact H)|(have H2_:=(Option.bind_some _ _).symm.trans H;rw [hy358];with_reducible exact H2_)|(have H2_:=(Option.bind_some _ _).symm.trans H;with_reducible exact H2_)|with_reducible exact H|(rw [hy358];exact H)|exact H
        have Ny358:=zm hy358
        clear hy358
        have H':=zm H
        clear H
        have hcz12_0:wr.cell? ⟨gb355,0,none⟩=some (.slice A0_0 l0_0.length c0_0):=(blk_cell BK355.out 0).trans rfl
        have hcz12_1:wr.cell? ⟨gb355,1,none⟩=some (.slice A0_1 l0_1.length c0_1):=(blk_cell BK355.out 1).trans rfl
        have hfz12_0:=blk_frozen BK355.out 0
        have hfz12_1:=blk_frozen BK355.out 1
        have p357:0≤(x6_1:Int):=of_decide_eq_true (by first|(with_reducible assumption)|assumption)
        have q357:x6_1 < (l0_0.length:Int):=of_decide_eq_true (by first|(with_reducible assumption)|assumption)
        obtain ⟨ad357,e357,hx357_0⟩:=Kd.at_int HR0_0.out x6_1 p357 q357
        cases e357
        replace hx357_0:=(HB.out.cell (World.block_lt_of_cell? w _ hx357_0)).trans hx357_0
        replace p357:=eq_true p357
        replace q357:=eq_true q357
        go_wp2_with (first|((with_reducible refine gate_builtin (b:=.append) (xs:=#[.tmp 24,.tmp 26]) rfl ?_);at_builtin;refine Kd.R_append (Kd.int .i64) (w0:=w) w.heap.size rfl (.tmp 24) (.tmp 26) 22 3 (.int .i64 0) 8 rfl Try.underlying22 info3 rfl (by decide) (by omega) u5 x5_1 x6_1 [.int .i64 x6_1] (fun _=>True) (fun _=>False) rfl rfl ?aP (fun _ hk=>hk.elim) ?aF ?aO ?aB ?aS ?aL ?_;(case aP=>exact rfl);(case aB=>exact (by repeat (first|(with_reducible first|exact HB.out|apply zlA|apply zlN|apply zlD|refine zlS ?_ GE355.out)|exact HB.out)));(case aF=>exact (fun _ _=>trivial));(case aO=>exact (by (with_reducible repeat (first|apply zrA|apply zrN|apply zrD));exact HO_5.out));(case aS=>exact (below_size (by repeat (first|(with_reducible first|exact HB.out|apply zlA|apply zlN|apply zlD|refine zlS ?_ GE355.out)|exact HB.out))));(case aL=>have:=LMc11.out;omega);intro v359 w13 ho hb hg hat;rw [← Ny358.out] at ho;have n0_:=zm (blk_grown (g:=gb355) (o:=.cells #[.slice (some ad357) l0_0.length c0_0,.slice A0_1 l0_1.length c0_1] 25 (0,0)) (by (with_reducible repeat (first|refine zbN ?_ _|refine zbD ?_|refine zbA ?_ _));exact BK355.out) hg (Kd.R_ne HO_5.out BK355.out (by decide)));have n1_:=zm (hb);have n2_:=zm (ho);clear BK355 HB HO_5;have BK355:=n0_;have HB:=n1_;have HO360:=n2_;clear n0_ n1_ n2_;clear ho hb hg hat))
        go_roundg k1
        case measure=>have:=HK1.out;omega
        case rel=>exact ⟨(y358),(wrap64 (x6_1 + 1)),(by first|rfl|(simp;done)|(simp [*];done)),H',⟨by have:=HK1.out;omega⟩,⟨by (with_reducible repeat (first|apply zrA|apply zrN|apply zrD));exact HO360.out⟩,⟨by (with_reducible repeat (first|refine zbN ?_ _|refine zbD ?_|refine zbA ?_ _));exact BK355.out⟩,⟨by repeat (first|(with_reducible first|exact HB.out|apply zlA|apply zlN|apply zlD|refine zlS ?_ GE355.out)|exact HB.out)⟩⟩
       ·rw [if_neg c11] at H
        exact absurd H (by simp)
      ·rw [if_neg c10] at H
       have c10b0:((rd l0_0 x6_1) == a1)=false:=beq_eq_false_iff_ne.mpr c10
       have c10b1:((rd l0_0 x6_1) != a1)=true:=bne_iff_ne.mpr c10
       have H':=zm H
       clear H
       have hcz14_0:wr.cell? ⟨gb355,0,none⟩=some (.slice A0_0 l0_0.length c0_0):=(blk_cell BK355.out 0).trans rfl
       have hcz14_1:wr.cell? ⟨gb355,1,none⟩=some (.slice A0_1 l0_1.length c0_1):=(blk_cell BK355.out 1).trans rfl
       have hfz14_0:=blk_frozen BK355.out 0
       have hfz14_1:=blk_frozen BK355.out 1
       have p357:0≤(x6_1:Int):=of_decide_eq_true (by first|(with_reducible assumption)|assumption)
       have q357:x6_1 < (l0_0.length:Int):=of_decide_eq_true (by first|(with_reducible assumption)|assumption)
       obtain ⟨ad357,e357,hx357_0⟩:=Kd.at_int HR0_0.out x6_1 p357 q357
       cases e357
       replace hx357_0:=(HB.out.cell (World.block_lt_of_cell? w _ hx357_0)).trans hx357_0
       replace p357:=eq_true p357
       replace q357:=eq_true q357
       go_wp2
       go_roundg k1
       case measure=>have:=HK1.out;omega
       case rel=>exact ⟨(x5_1),(wrap64 (x6_1 + 1)),(by first|rfl|(simp;done)|(simp [*];done)),H',⟨by have:=HK1.out;omega⟩,⟨by (with_reducible repeat (first|apply zrA|apply zrN|apply zrD));exact HO_5.out⟩,⟨by (with_reducible repeat (first|refine zbN ?_ _|refine zbD ?_|refine zbA ?_ _));exact BK355.out⟩,⟨by repeat (first|(with_reducible first|exact HB.out|apply zlA|apply zlN|apply zlD|refine zlS ?_ GE355.out)|exact HB.out)⟩⟩
     ·rw [if_neg c9] at H
      exact absurd H (by simp)
    ·rw [if_neg c8] at H
     have c8b0:decide (x6_1 < (l0_0.length:Int))=false:=decide_eq_false c8
     clear c8
     obtain rfl:=Option.some.inj H
     have hcz15_0:wr.cell? ⟨gb355,0,none⟩=some (.slice A0_0 l0_0.length c0_0):=(blk_cell BK355.out 0).trans rfl
     have hcz15_1:wr.cell? ⟨gb355,1,none⟩=some (.slice A0_1 l0_1.length c0_1):=(blk_cell BK355.out 1).trans rfl
     have hfz15_0:=blk_frozen BK355.out 0
     have hfz15_1:=blk_frozen BK355.out 1
     go_wp2
     go_ret
     exact ⟨_,by first|rfl|(simp [errW_none,errW_some] <;> rfl)|(simp [*,errW_none,errW_some] <;> rfl),by (with_reducible repeat (first|apply zrA|apply zrN|apply zrD));exact HO_5.out,by repeat (first|(with_reducible first|exact HB.out|apply zlA|apply zlN|apply zlD|refine zlS ?_ GE355.out)|exact HB.out)⟩
 ·rw [if_neg c4] at H
  have c4b0:(t356 == 0)=false:=beq_eq_false_iff_ne.mpr c4
  have c4b1:(t356 != 0)=true:=bne_iff_ne.mpr c4
  obtain rfl:=Option.some.inj H
  go_enter Try.func23,Try.ntmps23
  go_wp2_with (first|((with_reducible refine gate_dst (N:=2) rfl ?_);refine box_event ?hg (N:=2) ?hd (cs:=#[.slice A0_0 l0_0.length c0_0,.slice A0_1 l0_1.length c0_1]) (t:=25) ?hr ?_;(case hd=>rfl);(case hg=>rfl);(case hr=>first|(go_simp;done)|(go_simp;rfl));intro gb355 hg w16 hbox hb;have n0_:=zm (below_step (by repeat (first|(with_reducible first|exact HB.out|apply zlA|apply zlN|apply zlD)|exact HB.out)) hb);have n1_:=zm (hbox);have n2_:=zm ((by rw [hg];exact (below_size (by repeat (first|(with_reducible first|exact HB.out|apply zlA|apply zlN|apply zlD)|exact HB.out))):w.heap.size≤gb355));have n3_:=zm ((by rw [hg];exact (below_size (by repeat (first|(with_reducible first|exact HB.out|apply zlA|apply zlN|apply zlD)|exact HB.out))):w.heap.size≤gb355));clear HB;have HB:=n0_;have BK355:=n1_;have GW355:=n2_;have GE355:=n3_;clear n0_ n1_ n2_ n3_;clear hb hbox hg;have hcz17_0:w16.cell? ⟨gb355,0,none⟩=some (.slice A0_0 l0_0.length c0_0):=(blk_cell BK355.out 0).trans rfl;have hcz17_1:w16.cell? ⟨gb355,1,none⟩=some (.slice A0_1 l0_1.length c0_1):=(blk_cell BK355.out 1).trans rfl;have hfz17_0:=blk_frozen BK355.out 0;have hfz17_1:=blk_frozen BK355.out 1)|((with_reducible refine gate_callee (f:=14) rfl ?_);refine goesL_ (some 8) rfl rfl Try.func14 (by kernel_rfl) rfl #[.agg #[.slice A0_0 l0_0.length c0_0,.slice A0_1 l0_1.length c0_1]] rfl (by (try simp only [List.map_toArray,List.map_cons,List.map_nil]);first|done|rfl|(simp only [List.length_drop,List.length_take];rfl)) ?_;(with_reducible refine (slipwayref04_Check.calls k _ _ l0_0 _ _ l0_1 t356 _ ?side1 ?side2 ?side3 ?side4 A3.out).mono ?_);(case side1=>repeat (first|exact (Kd.C_below HR0_0.out HB.out)|(with_reducible refine Kd.C_alloc ?_ _)|(with_reducible refine Kd.C_drewN ?_ _)|(with_reducible refine Kd.C_drew ?_)));(case side2=>exact HC0_0.out);(case side3=>repeat (first|exact (Kd.C_below HR0_1.out HB.out)|(with_reducible refine Kd.C_alloc ?_ _)|(with_reducible refine Kd.C_drewN ?_ _)|(with_reducible refine Kd.C_drew ?_)));(case side4=>exact HC0_1.out);rintro e w18 ⟨rfl,hb⟩;refine ⟨_,rfl,?_⟩;have n0_:=zm (zbB (g:=gb355) (o:=.cells #[.slice A0_0 l0_0.length c0_0,.slice A0_1 l0_1.length c0_1] 25 (0,0)) (by (with_reducible repeat (first|refine zbN ?_ _|refine zbD ?_|refine zbA ?_ _));exact BK355.out) hb);have n1_:=zm (below_step (by repeat (first|(with_reducible first|exact HB.out|apply zlA|apply zlN|apply zlD|refine zlS ?_ GE355.out)|exact HB.out)) hb);clear BK355 HB;have BK355:=n0_;have HB:=n1_;clear n0_ n1_;(try clear hb);(try clear hb2);(try clear hk);(try clear hi)))
  go_ret
  exact ⟨_,by first|rfl|(simp [errW_none,errW_some] <;> rfl)|(simp [*,errW_none,errW_some] <;> rfl),by first|exact Kd.R_nil _ _ _ _ _|exact Kd.N_nil _ _ _ _ _|exact Kd.V_nil _ _ _ _ _|exact Kd.Q_nil _ _ _ _ _|exact Kd.S_nil _ _ _ _ _,by repeat (first|(with_reducible first|exact HB.out|apply zlA|apply zlN|apply zlD|refine zlS ?_ GE355.out)|exact HB.out)⟩
end Go.Proofs.Ytlegmnpngcadhaa.Print
end
