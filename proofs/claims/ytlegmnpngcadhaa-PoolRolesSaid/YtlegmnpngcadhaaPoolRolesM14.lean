/- Texts of the proof of PoolRoles, part 14. -/
import Derived.Test.YtlegmnpngcadhaaPoolRolesMA
import Derived.Test.YtlegmnpngcadhaaPoolRolesM13
section
namespace Go.Proofs.Ytlegmnpngcadhaa.Print
open Go.RowKit Go.Proofs.YtlegmnpngcadhaaW.PrintWords Go.Proofs.YtlegmnpngcadhaaW.PrintLast Go.Proofs.YtlegmnpngcadhaaW.PrintMore
attribute [local go_sem] max2_int min2_int max_two min_two max_three min_three max_four min_four   -- for this text's walks alone
attribute [local go_sem ↓] Go.Proofs.Ytlegmnpngcadhaa.Sem.isSome_setCell
attribute [local go_sem] Go.Instr.field Go.asAgg
set_option linter.unusedVariables false
set_option linter.unusedSimpArgs false
def pool_turned.f (l0_0:List Int) (l0_1:List Int) (a1:Int) (a2:Int) (a3:Int):Option (List Int × List Int):=(pool_Clone.f l0_0 l0_1).bind fun bt187=>(if 0≤a1 then (if a1 < (bt187.1.length:Int) then (if a1 < (bt187.2.length:Int) then (some ((bt187.1.set (a1:Int).toNat a2),(bt187.2.set (a1:Int).toNat (mn (wrap64 ((rd bt187.2 a1) + a3)) 16777215)))) else (none)) else (none)) else (none))
def pool_turned.T3:Bool × List (List Nat × List Nat):=(true,[([],[]),([0],[0]),([],[]),([],[]),([3],[3]),([],[]),([4,5],[4,5]),([6],[6]),([],[]),([7,8],[7,8]),([9],[9]),([1,2,0,1,2,3,4,5,6,7,8,9,10],[1,2]),([11,10,0,1,2,3,4,5,6,7,8,9,10],[10,11])])
def pool_turned.B3:List Nat:=[0,1,0,0,8,0,56,120,0,504,1016,2047,4095]
theorem pool_turned.tab3:rtab .any (opsOf Try.f43 3)=pool_turned.T3:=by kernel_rfl
theorem pool_turned.bits3:waitsOk pool_turned.T3.2 pool_turned.B3=true:=by kernel_rfl
set_option maxHeartbeats 8000000 in
set_option maxRecDepth 100000 in
theorem pool_turned.calls (A0_0:Option Addr) (c0_0:Nat) (l0_0:List Int) (A0_1:Option Addr) (c0_1:Nat) (l0_1:List Int) (a1:Int) (a2:Int) (a3:Int) (r1:List Int) (r2:List Int) (w:World) (hr0_0:Kd.C (Kd.int .i64) w A0_0 l0_0.length l0_0) (hc0_0:l0_0.length≤c0_0) (hr0_1:Kd.C (Kd.int .i64) w A0_1 l0_1.length l0_1) (hc0_1:l0_1.length≤c0_1) (h:pool_turned.f l0_0 l0_1 a1 a2 a3=some (r1,r2)) :
  Calls Try.prog 43 #[.agg #[.slice A0_0 l0_0.length c0_0,.slice A0_1 l0_1.length c0_1],.int .i64 a1,.int .i64 a2,.int .i64 a3] w fun e w'=>∃ v0_ v1_:Value,e=.returned (.agg #[v0_,v1_])∧Kd.R (Kd.int .i64) 3 w' w.heap.size (fun _=>True) v0_ r1∧Kd.R (Kd.int .i64) 2 w' w.heap.size (fun _=>True) v1_ r2∧Below w.heap.size w w':=by
 have hu25:=Try.underlying25
 have HR0_0:=zm hr0_0
 have HC0_0:=zm hc0_0
 clear hr0_0 hc0_0
 have HR0_1:=zm hr0_1
 have HC0_1:=zm hc0_1
 clear hr0_1 hc0_1
 have HB:=zm (Below.refl w.heap.size w)
 have H:((pool_Clone.f l0_0 l0_1).bind fun bt187=>(if 0≤a1 then (if a1 < (bt187.1.length:Int) then (if a1 < (bt187.2.length:Int) then (some ((bt187.1.set (a1:Int).toNat a2),(bt187.2.set (a1:Int).toNat (mn (wrap64 ((rd bt187.2 a1) + a3)) 16777215)))) else (none)) else (none)) else (none)))=some (r1,r2):=h
 clear h
 replace H:=Option.bind_eq_some_iff.mp H
 obtain ⟨⟨t187,t190⟩,A50,H⟩:=H
 replace H:(if 0≤a1 then (if a1 < (t187.length:Int) then (if a1 < (t190.length:Int) then (some ((t187.set (a1:Int).toNat a2),(t190.set (a1:Int).toNat (mn (wrap64 ((rd t190 a1) + a3)) 16777215)))) else (none)) else (none)) else (none))=some (r1,r2):=H
 have A5:=zm A50
 clear A50
 by_cases c6:0≤a1
 ·rw [if_pos c6] at H
  have c6b0:decide (0≤a1)=true:=decide_eq_true c6
  clear c6
  by_cases c7:a1 < (t187.length:Int)
  ·rw [if_pos c7] at H
   have c7b0:decide (a1 < (t187.length:Int))=true:=decide_eq_true c7
   clear c7
   obtain ⟨y194,hy194⟩:∃ y_:List Int,y_=(t187.set (a1:Int).toNat a2):=⟨_,rfl⟩
   replace H:(if a1 < (t190.length:Int) then (some (y194,(t190.set (a1:Int).toNat (mn (wrap64 ((rd t190 a1) + a3)) 16777215)))) else (none))=some (r1,r2):=by first|(rw [hy194];with_reducible exact H)|(have H2_:=(Option.bind_some _ _).symm.trans H;rw [hy194];with_reducible exact H2_)|(have H2_:=(Option.bind_some _ _).symm.trans H;with_reducible exact H2_)|with_reducible exact H|(rw [hy194];exact H)|exact H
   have Ny194:=zm hy194
   clear hy194
   by_cases c9:a1 < (t190.length:Int)
   ·rw [if_pos c9] at H
    have c9b0:decide (a1 < (t190.length:Int))=true:=decide_eq_true c9
    clear c9
    obtain ⟨ji10,hji10⟩:∃ j_:Int,(mn (wrap64 ((rd t190 a1) + a3)) 16777215)=j_:=⟨_,rfl⟩
    replace H:(some (y194,(t190.set (a1:Int).toNat (ji10))))=some (r1,r2):=by first|(rw [hji10] at H;exact H)|(simp only [hji10] at H ⊢;exact H)
    (try rw [hji10] at A5)
    (try (have hji10h:ji10≤16777215:=by (rw [← hji10];unfold mn;(repeat' split) <;> omega)))
    (try (have hji10g:ji10≤64:=by omega))
    have hji10_:(if 16777215 < (wrap64 ((rd t190 a1) + a3)) then 16777215 else (wrap64 ((rd t190 a1) + a3)))=ji10:=hji10
    obtain ⟨y196,hy196⟩:∃ y_:List Int,y_=(t190.set (a1:Int).toNat (ji10)):=⟨_,rfl⟩
    replace H:(some (y194,y196))=some (r1,r2):=by first|(rw [hy196];with_reducible exact H)|(have H2_:=(Option.bind_some _ _).symm.trans H;rw [hy196];with_reducible exact H2_)|(have H2_:=(Option.bind_some _ _).symm.trans H;with_reducible exact H2_)|with_reducible exact H|(rw [hy196];exact H)|exact H
    have Ny196:=zm hy196
    clear hy196
    simp only [Option.some.injEq,Prod.mk.injEq] at H
    obtain ⟨rfl,rfl⟩:=H
    go_enter Try.func43,Try.ntmps43
    try go_wp2_with (first|((with_reducible refine gate_dst (N:=4) rfl ?_);refine box_event ?hg (N:=4) ?hd (cs:=#[.slice A0_0 l0_0.length c0_0,.slice A0_1 l0_1.length c0_1]) (t:=25) ?hr ?_;(case hd=>rfl);(case hg=>rfl);(case hr=>first|(go_simp;done)|(go_simp;rfl));intro gb185 hg w12 hbox hb;have n0_:=zm (below_step (by repeat (first|(with_reducible first|exact HB.out|apply zlA|apply zlN|apply zlD)|exact HB.out)) hb);have n1_:=zm (hbox);have n2_:=zm ((by rw [hg];exact (below_size (by repeat (first|(with_reducible first|exact HB.out|apply zlA|apply zlN|apply zlD)|exact HB.out))):w.heap.size≤gb185));have n3_:=zm ((by rw [hg];exact (below_size (by repeat (first|(with_reducible first|exact HB.out|apply zlA|apply zlN|apply zlD)|exact HB.out))):w.heap.size≤gb185));clear HB;have HB:=n0_;have BK185:=n1_;have GW185:=n2_;have GE185:=n3_;clear n0_ n1_ n2_ n3_;clear hb hbox hg)|((with_reducible refine gate_dst (N:=8) rfl ?_);refine box_event ?hg (N:=8) ?hd (cs:=#[.slice none 0 0,.slice none 0 0]) (t:=25) ?hr ?_;(case hd=>rfl);(case hg=>rfl);(case hr=>first|(go_simp;done)|(go_simp;rfl));intro gb186 hg w13 hbox hb;have n0_:=zm (zbB (g:=gb185) (o:=.cells #[.slice A0_0 l0_0.length c0_0,.slice A0_1 l0_1.length c0_1] 25 (0,0)) (by (with_reducible repeat (first|refine zbN ?_ _|refine zbD ?_|refine zbA ?_ _));exact BK185.out) hb);have n1_:=zm (below_step (by repeat (first|(with_reducible first|exact HB.out|apply zlA|apply zlN|apply zlD|refine zlS ?_ GE185.out)|exact HB.out)) hb);have n2_:=zm (hbox);have n3_:=zm ((by rw [hg];exact (below_size (by repeat (first|(with_reducible first|exact HB.out|apply zlA|apply zlN|apply zlD|refine zlS ?_ GE185.out)|exact HB.out))):w.heap.size≤gb186));have n4_:=zm ((by rw [hg];exact (below_size (by repeat (first|(with_reducible first|exact HB.out|apply zlA|apply zlN|apply zlD|refine zlS ?_ GE185.out)|exact HB.out))):w.heap.size≤gb186));have n5_:=zm ((by rw [hg];exact Nat.ne_of_lt (blk_lt (g:=gb185) (o:=.cells #[.slice A0_0 l0_0.length c0_0,.slice A0_1 l0_1.length c0_1] 25 (0,0)) (by (with_reducible repeat (first|refine zbN ?_ _|refine zbD ?_|refine zbA ?_ _));exact BK185.out)):gb185≠gb186));have n6_:=zm ((by rw [hg];exact Nat.ne_of_gt (blk_lt (g:=gb185) (o:=.cells #[.slice A0_0 l0_0.length c0_0,.slice A0_1 l0_1.length c0_1] 25 (0,0)) (by (with_reducible repeat (first|refine zbN ?_ _|refine zbD ?_|refine zbA ?_ _));exact BK185.out)):gb186≠gb185));clear BK185 HB;have BK185:=n0_;have HB:=n1_;have BK186:=n2_;have GW186:=n3_;have GE186:=n4_;have NB185_186:=n5_;have NB186_185:=n6_;clear n0_ n1_ n2_ n3_ n4_ n5_ n6_;clear hb hbox hg;have hnb14:=NB185_186.out;have hnc14:=NB186_185.out;have hcz15_0:w13.cell? ⟨gb185,0,none⟩=some (.slice A0_0 l0_0.length c0_0):=(blk_cell BK185.out 0).trans rfl;have hcz15_1:w13.cell? ⟨gb185,1,none⟩=some (.slice A0_1 l0_1.length c0_1):=(blk_cell BK185.out 1).trans rfl;have hfz15_0:=blk_frozen BK185.out 0;have hfz15_1:=blk_frozen BK185.out 1)|((with_reducible refine gate_callee (f:=34) rfl ?_);refine goesL_ (some 11) rfl rfl Try.func34 (by kernel_rfl) rfl #[.agg #[.slice A0_0 l0_0.length c0_0,.slice A0_1 l0_1.length c0_1]] rfl (by (try simp only [List.map_toArray,List.map_cons,List.map_nil]);first|done|rfl|(simp only [List.length_drop,List.length_take];rfl)) ?_;(with_reducible refine (pool_Clone.calls _ _ l0_0 _ _ l0_1 t187 t190 _ ?side1 ?side2 ?side3 ?side4 A5.out).mono ?_);(case side1=>repeat (first|exact (Kd.C_below HR0_0.out HB.out)|(with_reducible refine Kd.C_alloc ?_ _)|(with_reducible refine Kd.C_drewN ?_ _)|(with_reducible refine Kd.C_drew ?_)));(case side2=>exact HC0_0.out);(case side3=>repeat (first|exact (Kd.C_below HR0_1.out HB.out)|(with_reducible refine Kd.C_alloc ?_ _)|(with_reducible refine Kd.C_drewN ?_ _)|(with_reducible refine Kd.C_drew ?_)));(case side4=>exact HC0_1.out);rintro e w16 ⟨v188,v191,rfl,ho0,ho1,hb⟩;refine ⟨_,rfl,?_⟩;have n0_:=zm (Kd.R_lower ho0 (below_size (by repeat (first|(with_reducible first|exact HB.out|apply zlA|apply zlN|apply zlD|refine zlS ?_ GE185.out|refine zlS ?_ GE186.out)|exact HB.out))));have n1_:=zm (Kd.R_lower ho1 (below_size (by repeat (first|(with_reducible first|exact HB.out|apply zlA|apply zlN|apply zlD|refine zlS ?_ GE185.out|refine zlS ?_ GE186.out)|exact HB.out))));have n2_:=zm (zbB (g:=gb185) (o:=.cells #[.slice A0_0 l0_0.length c0_0,.slice A0_1 l0_1.length c0_1] 25 (0,0)) (by (with_reducible repeat (first|refine zbN ?_ _|refine zbD ?_|refine zbA ?_ _));exact BK185.out) hb);have n3_:=zm (zbB (g:=gb186) (o:=.cells #[.slice none 0 0,.slice none 0 0] 25 (0,0)) (by (with_reducible repeat (first|refine zbN ?_ _|refine zbD ?_|refine zbA ?_ _));exact BK186.out) hb);have n4_:=zm (below_step (by repeat (first|(with_reducible first|exact HB.out|apply zlA|apply zlN|apply zlD|refine zlS ?_ GE185.out|refine zlS ?_ GE186.out)|exact HB.out)) hb);clear BK185 BK186 HB;have HO189:=n0_;have HO192:=n1_;have BK185:=n2_;have BK186:=n3_;have HB:=n4_;clear n0_ n1_ n2_ n3_ n4_;(try clear hb);(try clear hb2);(try clear hk);(try clear hi);(try clear ho0);(try clear ho1))|((with_reducible refine gate_dst (N:=9) rfl ?_);refine box_event ?hg (N:=9) ?hd (cs:=#[.slice none 0 0,.slice none 0 0]) (t:=25) ?hr ?_;(case hd=>rfl);(case hg=>rfl);(case hr=>first|(go_simp;done)|(go_simp;rfl));intro gb193 hg w17 hbox hb;have n0_:=zm (Kd.R_below (by (with_reducible repeat (first|apply zrA|apply zrN|apply zrD));exact HO189.out) hb);have n1_:=zm (Kd.R_below (by (with_reducible repeat (first|apply zrA|apply zrN|apply zrD));exact HO192.out) hb);have n2_:=zm (zbB (g:=gb185) (o:=.cells #[.slice A0_0 l0_0.length c0_0,.slice A0_1 l0_1.length c0_1] 25 (0,0)) (by (with_reducible repeat (first|refine zbN ?_ _|refine zbD ?_|refine zbA ?_ _));exact BK185.out) hb);have n3_:=zm (zbB (g:=gb186) (o:=.cells #[.slice none 0 0,.slice none 0 0] 25 (0,0)) (by (with_reducible repeat (first|refine zbN ?_ _|refine zbD ?_|refine zbA ?_ _));exact BK186.out) hb);have n4_:=zm (below_step (by repeat (first|(with_reducible first|exact HB.out|apply zlA|apply zlN|apply zlD|refine zlS ?_ GE185.out|refine zlS ?_ GE186.out)|exact HB.out)) hb);have n5_:=zm (hbox);have n6_:=zm ((by rw [hg];exact (below_size (by repeat (first|(with_reducible first|exact HB.out|apply zlA|apply zlN|apply zlD|refine zlS ?_ GE185.out|refine zlS ?_ GE186.out)|exact HB.out))):w.heap.size≤gb193));have n7_:=zm ((by rw [hg];exact (below_size (by repeat (first|(with_reducible first|exact HB.out|apply zlA|apply zlN|apply zlD|refine zlS ?_ GE185.out|refine zlS ?_ GE186.out)|exact HB.out))):w.heap.size≤gb193));have n8_:=zm ((by rw [hg];exact Nat.ne_of_lt (blk_lt (g:=gb185) (o:=.cells #[.slice A0_0 l0_0.length c0_0,.slice A0_1 l0_1.length c0_1] 25 (0,0)) (by (with_reducible repeat (first|refine zbN ?_ _|refine zbD ?_|refine zbA ?_ _));exact BK185.out)):gb185≠gb193));have n9_:=zm ((by rw [hg];exact Nat.ne_of_gt (blk_lt (g:=gb185) (o:=.cells #[.slice A0_0 l0_0.length c0_0,.slice A0_1 l0_1.length c0_1] 25 (0,0)) (by (with_reducible repeat (first|refine zbN ?_ _|refine zbD ?_|refine zbA ?_ _));exact BK185.out)):gb193≠gb185));have n10_:=zm ((by rw [hg];exact Nat.ne_of_lt (blk_lt (g:=gb186) (o:=.cells #[.slice none 0 0,.slice none 0 0] 25 (0,0)) (by (with_reducible repeat (first|refine zbN ?_ _|refine zbD ?_|refine zbA ?_ _));exact BK186.out)):gb186≠gb193));have n11_:=zm ((by rw [hg];exact Nat.ne_of_gt (blk_lt (g:=gb186) (o:=.cells #[.slice none 0 0,.slice none 0 0] 25 (0,0)) (by (with_reducible repeat (first|refine zbN ?_ _|refine zbD ?_|refine zbA ?_ _));exact BK186.out)):gb193≠gb186));clear HO189 HO192 BK185 BK186 HB;have HO189:=n0_;have HO192:=n1_;have BK185:=n2_;have BK186:=n3_;have HB:=n4_;have BK193:=n5_;have GW193:=n6_;have GE193:=n7_;have NB185_193:=n8_;have NB193_185:=n9_;have NB186_193:=n10_;have NB193_186:=n11_;clear n0_ n1_ n2_ n3_ n4_ n5_ n6_ n7_ n8_ n9_ n10_ n11_;clear hb hbox hg;obtain ⟨Ao18,co18,eo18⟩:=Kd.R_slice HO189.out;subst eo18;have hnb19:=NB193_185.out;have hnc19:=NB185_193.out;have hnb20:=NB193_186.out;have hnc20:=NB186_193.out;have hcz21_0:w17.cell? ⟨gb193,0,none⟩=some (.slice none 0 0):=(blk_cell BK193.out 0).trans rfl;have hcz21_1:w17.cell? ⟨gb193,1,none⟩=some (.slice none 0 0):=(blk_cell BK193.out 1).trans rfl;have hfz21_0:=blk_frozen BK193.out 0;have hfz21_1:=blk_frozen BK193.out 1;obtain ⟨Ao22,co22,eo22⟩:=Kd.R_slice HO192.out;subst eo22)|((with_reducible refine gate_store (t:=25) (p:=9) rfl ?_);refine store_event (t:=25) (p:=9) (v:=?vo_w23) (w1:=((w17.setCell ⟨gb193,0,none⟩ (.slice Ao18 t187.length co18)).setCell ⟨gb193,1,none⟩ (.slice Ao22 t190.length co22))) ?hg ?ho ?hn ?hr ?_;(case ho=>rfl);(case hg=>rfl);(case hn=>rfl);(case hr=>first|(go_simp;done)|(go_simp;rfl));intro w23 hw;have n0_:Aside0 (Kd.R (Kd.int .i64) 3 w23 w.heap.size (fun _=>True) (.slice Ao18 t187.length co18) t187):=⟨(by rw [hw];exact (by (with_reducible repeat (first|apply zrA|apply zrN|apply zrD));exact Kd.R_mono (Kd.R_far (p:=⟨gb193,1,none⟩) (Kd.R_far (p:=⟨gb193,0,none⟩) (Kd.R_types HO189.out BK193.out (by decide)) (fun _ hk=>hk.2) (.slice Ao18 t187.length co18)) (fun _ hk=>hk.2) (.slice Ao22 t190.length co22)) (fun _ hk=>trivial)))⟩;have n1_:Aside0 (Kd.R (Kd.int .i64) 2 w23 w.heap.size (fun _=>True) (.slice Ao22 t190.length co22) t190):=⟨(by rw [hw];exact (by (with_reducible repeat (first|apply zrA|apply zrN|apply zrD));exact Kd.R_mono (Kd.R_far (p:=⟨gb193,1,none⟩) (Kd.R_far (p:=⟨gb193,0,none⟩) (Kd.R_types HO192.out BK193.out (by decide)) (fun _ hk=>hk.2) (.slice Ao18 t187.length co18)) (fun _ hk=>hk.2) (.slice Ao22 t190.length co22)) (fun _ hk=>trivial)))⟩;have n2_:Aside0 (w23.heap[gb185]?=some (.cells #[.slice A0_0 l0_0.length c0_0,.slice A0_1 l0_1.length c0_1] 25 (0,0))):=⟨(by rw [hw];exact (by (with_reducible repeat (first|refine zbN ?_ _|refine zbD ?_|refine zbA ?_ _));refine blk_far ?_ NB185_193.out _;(with_reducible repeat (first|refine zbN ?_ _|refine zbD ?_|refine zbA ?_ _));refine blk_far ?_ NB185_193.out _;(with_reducible repeat (first|refine zbN ?_ _|refine zbD ?_|refine zbA ?_ _));exact BK185.out))⟩;have n3_:Aside0 (w23.heap[gb186]?=some (.cells #[.slice none 0 0,.slice none 0 0] 25 (0,0))):=⟨(by rw [hw];exact (by (with_reducible repeat (first|refine zbN ?_ _|refine zbD ?_|refine zbA ?_ _));refine blk_far ?_ NB186_193.out _;(with_reducible repeat (first|refine zbN ?_ _|refine zbD ?_|refine zbA ?_ _));refine blk_far ?_ NB186_193.out _;(with_reducible repeat (first|refine zbN ?_ _|refine zbD ?_|refine zbA ?_ _));exact BK186.out))⟩;have n4_:Aside0 (w23.heap[gb193]?=some (.cells #[.slice Ao18 t187.length co18,.slice Ao22 t190.length co22] 25 (0,0))):=⟨(by rw [hw];exact (by (with_reducible repeat (first|refine zbN ?_ _|refine zbD ?_|refine zbA ?_ _));refine blk_put (cs:=#[.slice Ao18 t187.length co18,.slice none 0 0]) ?_ 1 _ rfl;(with_reducible repeat (first|refine zbN ?_ _|refine zbD ?_|refine zbA ?_ _));refine blk_put (cs:=#[.slice none 0 0,.slice none 0 0]) ?_ 0 _ rfl;(with_reducible repeat (first|refine zbN ?_ _|refine zbD ?_|refine zbA ?_ _));exact BK193.out))⟩;have n5_:Aside0 (Below w.heap.size w w23):=⟨(by rw [hw];exact (by repeat (first|(with_reducible first|exact HB.out|apply zlA|apply zlN|apply zlD|refine zlS ?_ GE185.out|refine zlS ?_ GE186.out|refine zlS ?_ GE193.out)|exact HB.out)))⟩;clear hw HO189 HO192 BK185 BK186 BK193 HB;have HO189:=n0_;have HO192:=n1_;have BK185:=n2_;have BK186:=n3_;have BK193:=n4_;have HB:=n5_;clear n0_ n1_ n2_ n3_ n4_ n5_;have hcz24_0:w23.cell? ⟨gb193,0,none⟩=some (.slice Ao18 t187.length co18):=(blk_cell BK193.out 0).trans rfl;have hcz24_1:w23.cell? ⟨gb193,1,none⟩=some (.slice Ao22 t190.length co22):=(blk_cell BK193.out 1).trans rfl;have hfz24_0:=blk_frozen BK193.out 0;have hfz24_1:=blk_frozen BK193.out 1;have p8:0≤(a1:Int):=of_decide_eq_true (by first|(with_reducible assumption)|assumption);have q8:(a1:Int) < ((t187.length:Int):Int):=of_decide_eq_true (by first|(with_reducible assumption)|assumption);obtain ⟨go8,co8,eo8,gb8,gl8,cl8,HG8⟩:=Kd.R_form HO189.out (by omega);(first|cases eo8|(injection eo8 with ea_ en_ ec_;(first|subst ea_|(injection ea_ with ea_;subst ea_));subst ec_;clear en_));have GB8:=zm gb8;have GG8:=zm HG8;clear gb8 gl8 HG8;obtain ⟨hx8_0,hf8_0⟩:=Kd.R_celln 0 HO189.out (a1:Int) p8 q8;replace p8:=eq_true p8;replace q8:=eq_true q8;obtain ⟨hy25_,hz25_⟩:=Kd.R_celln 0 HO189.out (a1:Int) (of_decide_eq_true (by first|(with_reducible assumption)|assumption)) (of_decide_eq_true (by first|(with_reducible assumption)|assumption));have HP25:=Kd.R_putg HO189.out (a1:Int) a2)|((with_reducible refine gate_store (t:=3) (p:=16) rfl ?_);refine store_event (t:=3) (p:=16) (v:=?vo_w26) (w1:=(w23.setCell ⟨go8,(a1:Int).toNat,none⟩ (.int .i64 a2))) ?hg ?ho ?hn ?hr ?_;(case ho=>rfl);(case hg=>rfl);(case hn=>rfl);(case hr=>first|(go_simp;done)|(go_simp;rfl));intro w26 hw;have hg:w23.grownBy w26 (some go8):=(by rw [hw];exact HP25.2);have hp_:Kd.R (Kd.int .i64) 3 w26 w.heap.size (fun _=>True) (.slice (some ⟨go8,0,none⟩) t187.length co18) y194:=(by rw [hw,Ny194.out];exact HP25.1);clear HP25;have n0_:=zm (blk_grown (g:=gb185) (o:=.cells #[.slice A0_0 l0_0.length c0_0,.slice A0_1 l0_1.length c0_1] 25 (0,0)) (by (with_reducible repeat (first|refine zbN ?_ _|refine zbD ?_|refine zbA ?_ _));exact BK185.out) hg (Kd.R_ne HO189.out BK185.out (by decide)));have n1_:=zm (blk_grown (g:=gb186) (o:=.cells #[.slice none 0 0,.slice none 0 0] 25 (0,0)) (by (with_reducible repeat (first|refine zbN ?_ _|refine zbD ?_|refine zbA ?_ _));exact BK186.out) hg (Kd.R_ne HO189.out BK186.out (by decide)));have n2_:=zm (hp_);have n3_:=zm (Kd.R_over' (v:=(.slice (some ⟨go8,0,none⟩) t187.length co18)) (by (with_reducible repeat (first|apply zrA|apply zrN|apply zrD));exact HO192.out) (Kd.R_typed HO189.out) (by decide) hg);have n4_:=zm (blk_grown (g:=gb193) (o:=.cells #[.slice (some ⟨go8,0,none⟩) t187.length co18,.slice Ao22 t190.length co22] 25 (0,0)) (by (with_reducible repeat (first|refine zbN ?_ _|refine zbD ?_|refine zbA ?_ _));exact BK193.out) hg (Kd.R_ne HO189.out BK193.out (by decide)));have n5_:=zm ((by rw [hw];exact zlS (HB.out) GB8.out:Below w.heap.size w w26));clear BK185 BK186 HO189 HO192 BK193 HB;have BK185:=n0_;have BK186:=n1_;have HO189:=n2_;have HO192:=n3_;have BK193:=n4_;have HB:=n5_;clear n0_ n1_ n2_ n3_ n4_ n5_;clear hg hw hp_))
    have n0_:=zm (zrD HO189.out)
    have n1_:=zm (zrD HO192.out)
    have n2_:=zm (zbD BK185.out)
    have n3_:=zm (zbD BK186.out)
    have n4_:=zm (zbD BK193.out)
    have n5_:=zm (zlD HB.out)
    clear HO189 HO192 BK185 BK186 BK193 HB
    have HO189:=n0_
    have HO192:=n1_
    have BK185:=n2_
    have BK186:=n3_
    have BK193:=n4_
    have HB:=n5_
    clear n0_ n1_ n2_ n3_ n4_ n5_
    have p195:0≤(a1:Int):=of_decide_eq_true (by first|(with_reducible assumption)|assumption)
    have q195:a1 < (t190.length:Int):=of_decide_eq_true (by first|(with_reducible assumption)|assumption)
    obtain ⟨ad195,e195,hx195_0⟩:=Kd.at_int (Kd.R_reads' HO192.out).2.2 a1 p195 q195
    cases e195
    replace p195:=eq_true p195
    replace q195:=eq_true q195
    have p11:0≤(a1:Int):=of_decide_eq_true (by first|(with_reducible assumption)|assumption)
    have q11:(a1:Int) < ((t190.length:Int):Int):=of_decide_eq_true (by first|(with_reducible assumption)|assumption)
    obtain ⟨go11,co11,eo11,gb11,gl11,cl11,HG11⟩:=Kd.R_form HO192.out (by omega)
    (first|cases eo11|(injection eo11 with ea_ en_ ec_;(first|subst ea_|(injection ea_ with ea_;subst ea_));subst ec_;clear en_))
    have GB11:=zm gb11
    have GG11:=zm HG11
    clear gb11 gl11 HG11
    (first|simp only [add_plain] at hx195_0|skip)
    obtain ⟨hx11_0,hf11_0⟩:=Kd.R_celln 0 HO192.out (a1:Int) p11 q11
    replace p11:=eq_true p11
    replace q11:=eq_true q11
    have HP28:=Kd.R_putn HO192.out (a1:Int) ji10
    rw [← Ny196.out] at HP28
    have HQ28:=zm HP28
    clear HP28
    refine start_ (n:=13) (S:=fun w'=>w'.cell? ⟨gb193,0,none⟩=some (.slice (some ⟨go8,0,none⟩) t187.length co18)∧w'.cell? ⟨gb193,1,none⟩=some (.slice (some ⟨go11,0,none⟩) t190.length co22)∧w'.cell? ⟨go11,(a1).toNat,none⟩=some (.int .i64 (rd t190 a1))) (ds:=[12]) #[false,false,false,false,false,false,false,false,false,false,false,false,false] (by kernel_rfl) rfl rfl ⟨(blk_cell BK193.out 0).trans rfl,(blk_cell BK193.out 1).trans rfl,hx195_0⟩ (fun hHeld=>?_);refine with_tabW pool_turned.tab3 pool_turned.bits3 (fun HT_ HW_=>?_)
    generalize w26.drew=w27 at HO189 HO192 BK185 BK186 BK193 HB GG11 HQ28 hf11_0 hx11_0 hx195_0 hHeld ⊢
    refine pure_ (i:=0) (N:=some 17) (v:=?_) (a':=?_) #[true,false,false,false,false,false,false,false,false,false,false,false,false] rfl rfl (any_of HT_.out (by kernel_rfl)) (fun _ _ _ h=>h) (Or.inl ⟨by rfl,?_⟩) ?_ ?_
    rotate_left
    ·intro w'
     go_simp
     with_reducible rfl
    rotate_left
    ·simp only [Act.put,List.setIfInBounds_toArray,List.set_cons_zero,List.set_cons_succ,i64_w,i32_w]
     rfl
    refine pure_ (i:=2) (N:=some 19) (v:=?_) (a':=?_) #[true,false,true,false,false,false,false,false,false,false,false,false,false] rfl rfl (any_of HT_.out (by kernel_rfl)) (fun _ _ _ h=>h) (Or.inl ⟨by rfl,?_⟩) ?_ ?_
    rotate_left
    ·intro w'
     go_simp
     with_reducible rfl
    rotate_left
    ·simp only [Act.put,List.setIfInBounds_toArray,List.set_cons_zero,List.set_cons_succ,i64_w,i32_w]
     rfl
    refine pure_ (i:=3) (N:=some 20) (v:=?_) (a':=?_) #[true,false,true,true,false,false,false,false,false,false,false,false,false] rfl rfl (any_of HT_.out (by kernel_rfl)) (fun _ _ _ h=>h) (Or.inl ⟨by rfl,?_⟩) ?_ ?_
    rotate_left
    ·intro w'
     go_simp
     with_reducible rfl
    rotate_left
    ·simp only [Act.put,List.setIfInBounds_toArray,List.set_cons_zero,List.set_cons_succ,i64_w,i32_w]
     rfl
    refine pure_ (i:=5) (N:=some 22) (v:=?_) (a':=?_) #[true,false,true,true,false,true,false,false,false,false,false,false,false] rfl rfl (any_of HT_.out (by kernel_rfl)) (fun _ _ _ h=>h) (Or.inl ⟨by rfl,?_⟩) ?_ ?_
    rotate_left
    ·intro w'
     go_simp
     with_reducible rfl
    rotate_left
    ·simp only [Act.put,List.setIfInBounds_toArray,List.set_cons_zero,List.set_cons_succ,i64_w,i32_w]
     rfl
    refine pure_ (i:=8) (N:=some 25) (v:=?_) (a':=?_) #[true,false,true,true,false,true,false,false,true,false,false,false,false] rfl rfl (any_of HT_.out (by kernel_rfl)) (fun _ _ _ h=>h) (Or.inl ⟨by rfl,?_⟩) ?_ ?_
    rotate_left
    ·intro w'
     go_simp
     with_reducible rfl
    rotate_left
    ·simp only [Act.put,List.setIfInBounds_toArray,List.set_cons_zero,List.set_cons_succ,i64_w,i32_w]
     rfl
    refine take_ (i:=1) (N:=some 18) (v:=?_) (a':=?_) #[true,true,true,true,false,true,false,false,true,false,false,false,false] rfl rfl (take_ofW HT_.out HW_.out (by kernel_rfl)) (fun _ _ _ h=>h) (Or.inl ⟨by rfl,?_⟩) hHeld ?_ ?_
    rotate_left
    ·rintro w' ⟨s0,s1,s2⟩
     go_simp
     with_reducible rfl
    rotate_left
    ·simp only [Act.put,List.setIfInBounds_toArray,List.set_cons_zero,List.set_cons_succ,i64_w,i32_w]
     rfl
    refine take_ (i:=4) (N:=some 21) (v:=?_) (a':=?_) #[true,true,true,true,true,true,false,false,true,false,false,false,false] rfl rfl (take_ofW HT_.out HW_.out (by kernel_rfl)) (fun _ _ _ h=>h) (Or.inl ⟨by rfl,?_⟩) hHeld ?_ ?_
    rotate_left
    ·rintro w' ⟨s0,s1,s2⟩
     go_simp
     with_reducible rfl
    rotate_left
    ·simp only [Act.put,List.setIfInBounds_toArray,List.set_cons_zero,List.set_cons_succ,i64_w,i32_w]
     rfl
    refine pure_ (i:=6) (N:=some 23) (v:=?_) (a':=?_) #[true,true,true,true,true,true,true,false,true,false,false,false,false] rfl rfl (any_of HT_.out (by kernel_rfl)) (fun _ _ _ h=>h) (Or.inl ⟨by rfl,?_⟩) ?_ ?_
    rotate_left
    ·intro w'
     go_simp
     with_reducible rfl
    rotate_left
    ·simp only [Act.put,List.setIfInBounds_toArray,List.set_cons_zero,List.set_cons_succ,i64_w,i32_w]
     rfl
    refine take_ (i:=7) (N:=some 24) (v:=?_) (a':=?_) #[true,true,true,true,true,true,true,true,true,false,false,false,false] rfl rfl (take_ofW HT_.out HW_.out (by kernel_rfl)) (fun _ _ _ h=>h) (Or.inl ⟨by rfl,?_⟩) hHeld ?_ ?_
    rotate_left
    ·rintro w' ⟨s0,s1,s2⟩
     go_simp
     with_reducible rfl
    rotate_left
    ·simp only [Act.put,List.setIfInBounds_toArray,List.set_cons_zero,List.set_cons_succ,i64_w,i32_w]
     rfl
    refine pure_ (i:=9) (N:=some 26) (v:=?_) (a':=?_) #[true,true,true,true,true,true,true,true,true,true,false,false,false] rfl rfl (any_of HT_.out (by kernel_rfl)) (fun _ _ _ h=>h) (Or.inl ⟨by rfl,?_⟩) ?_ ?_
    rotate_left
    ·intro w'
     go_simp
     with_reducible rfl
    rotate_left
    ·simp only [Act.put,List.setIfInBounds_toArray,List.set_cons_zero,List.set_cons_succ,i64_w,i32_w]
     rfl
    refine pure_ (i:=10) (N:=some 27) (v:=?_) (a':=?_) #[true,true,true,true,true,true,true,true,true,true,true,false,false] rfl rfl (any_of HT_.out (by kernel_rfl)) (fun _ _ _ h=>h) (Or.inl ⟨by rfl,?_⟩) ?_ ?_
    rotate_left
    ·intro w'
     go_simp
     with_reducible rfl
    rotate_left
    ·simp only [Act.put,List.setIfInBounds_toArray,List.set_cons_zero,List.set_cons_succ,i64_w,i32_w]
     rfl
    refine pure_ (i:=11) (N:=some 28) (v:=?_) (a':=?_) #[true,true,true,true,true,true,true,true,true,true,true,true,false] rfl rfl (any_of HT_.out (by kernel_rfl)) (fun _ _ _ h=>h) (Or.inl ⟨by rfl,?_⟩) ?_ ?_
    rotate_left
    ·intro w'
     go_simp
     with_reducible rfl
    rotate_left
    ·simp only [Act.put,List.setIfInBounds_toArray,List.set_cons_zero,List.set_cons_succ,i64_w,i32_w]
     rfl
    refine last_ (i:=12) (N:=none) #[true,true,true,true,true,true,true,true,true,true,true,true,true] rfl rfl (one_of HT_.out (by kernel_rfl)) (by decide) (fun K hK=>?_)
    refine skip_ (w1:=?_) (by rfl) rfl ?_ ?_
    rotate_left
    ·go_simp
     rfl
    refine hK.out _ _ ?_
    clear hK K
    refine done_ (done_of HT_.out (by kernel_rfl)) ?_
    have n0_:Aside0 (Kd.R (Kd.int .i64) 3 (w27.setCell ⟨go11,(a1:Int).toNat,none⟩ (.int .i64 ji10)) w.heap.size (fun _=>True) (.slice (some ⟨go8,0,none⟩) t187.length co18) y194):=⟨by (with_reducible repeat (first|apply zrA|apply zrN|apply zrD));exact Kd.R_mono (Kd.R_far (p:=⟨go11,(a1:Int).toNat,none⟩) (Kd.R_types HO189.out GG11.out (by decide)) (fun _ hk=>hk.2) (.int .i64 ji10)) (fun _ hk=>trivial)⟩
    have n1_:Aside0 (Kd.R (Kd.int .i64) 2 (w27.setCell ⟨go11,(a1:Int).toNat,none⟩ (.int .i64 ji10)) w.heap.size (fun _=>True) (.slice (some ⟨go11,0,none⟩) t190.length co22) y196):=⟨by (with_reducible repeat (first|apply zrA|apply zrN|apply zrD));exact HQ28.out⟩
    have n2_:Aside0 ((w27.setCell ⟨go11,(a1:Int).toNat,none⟩ (.int .i64 ji10)).heap[gb185]?=some (.cells #[.slice A0_0 l0_0.length c0_0,.slice A0_1 l0_1.length c0_1] 25 (0,0))):=⟨by (with_reducible repeat (first|refine zbN ?_ _|refine zbD ?_|refine zbA ?_ _));refine blk_far ?_ (by have h_:=Kd.R_ne HO192.out BK185.out (by decide);intro e_;exact h_ (by rw [e_];rfl)) _;(with_reducible repeat (first|refine zbN ?_ _|refine zbD ?_|refine zbA ?_ _));exact BK185.out⟩
    have n3_:Aside0 ((w27.setCell ⟨go11,(a1:Int).toNat,none⟩ (.int .i64 ji10)).heap[gb186]?=some (.cells #[.slice none 0 0,.slice none 0 0] 25 (0,0))):=⟨by (with_reducible repeat (first|refine zbN ?_ _|refine zbD ?_|refine zbA ?_ _));refine blk_far ?_ (by have h_:=Kd.R_ne HO192.out BK186.out (by decide);intro e_;exact h_ (by rw [e_];rfl)) _;(with_reducible repeat (first|refine zbN ?_ _|refine zbD ?_|refine zbA ?_ _));exact BK186.out⟩
    have n4_:Aside0 ((w27.setCell ⟨go11,(a1:Int).toNat,none⟩ (.int .i64 ji10)).heap[gb193]?=some (.cells #[.slice (some ⟨go8,0,none⟩) t187.length co18,.slice (some ⟨go11,0,none⟩) t190.length co22] 25 (0,0))):=⟨by (with_reducible repeat (first|refine zbN ?_ _|refine zbD ?_|refine zbA ?_ _));refine blk_far ?_ (by have h_:=Kd.R_ne HO192.out BK193.out (by decide);intro e_;exact h_ (by rw [e_];rfl)) _;(with_reducible repeat (first|refine zbN ?_ _|refine zbD ?_|refine zbA ?_ _));exact BK193.out⟩
    have n5_:Aside0 (Below w.heap.size w (w27.setCell ⟨go11,(a1:Int).toNat,none⟩ (.int .i64 ji10))):=⟨by repeat (first|(with_reducible first|exact HB.out|apply zlA|apply zlN|apply zlD|refine zlS ?_ GB11.out|refine zlS ?_ GE185.out|refine zlS ?_ GE186.out|refine zlS ?_ GE193.out)|exact HB.out)⟩
    (try clear HO189)
    (try clear HO192)
    (try clear BK185)
    (try clear BK186)
    (try clear BK193)
    (try clear HB)
    generalize (w27.setCell ⟨go11,(a1:Int).toNat,none⟩ (.int .i64 ji10))=w29 at n0_ n1_ n2_ n3_ n4_ n5_ ⊢
    have HO189:=n0_
    have HO192:=n1_
    have BK185:=n2_
    have BK186:=n3_
    have BK193:=n4_
    have HB:=n5_
    clear n0_ n1_ n2_ n3_ n4_ n5_
    have hcz30_0:w29.cell? ⟨gb193,0,none⟩=some (.slice (some ⟨go8,0,none⟩) t187.length co18):=(blk_cell BK193.out 0).trans rfl
    have hcz30_1:w29.cell? ⟨gb193,1,none⟩=some (.slice (some ⟨go11,0,none⟩) t190.length co22):=(blk_cell BK193.out 1).trans rfl
    have hfz30_0:=blk_frozen BK193.out 0
    have hfz30_1:=blk_frozen BK193.out 1
    have hcz31_0:w29.cell? ⟨gb186,0,none⟩=some (.slice none 0 0):=(blk_cell BK186.out 0).trans rfl
    have hcz31_1:w29.cell? ⟨gb186,1,none⟩=some (.slice none 0 0):=(blk_cell BK186.out 1).trans rfl
    have hfz31_0:=blk_frozen BK186.out 0
    have hfz31_1:=blk_frozen BK186.out 1
    try go_wp2
    refine bodyPost_ret (results_cell_row rfl _ _ gb186 25 #[.slice (some ⟨go8,0,none⟩) t187.length co18,.slice (some ⟨go11,0,none⟩) t190.length co22] (0,0) _ rfl (by (with_reducible repeat (first|refine zbN ?_ _|refine zbD ?_|refine zbA ?_ _));refine blk_put (cs:=#[.slice (some ⟨go8,0,none⟩) t187.length co18,.slice none 0 0]) ?_ 1 _ rfl;(with_reducible repeat (first|refine zbN ?_ _|refine zbD ?_|refine zbA ?_ _));refine blk_put (cs:=#[.slice none 0 0,.slice none 0 0]) ?_ 0 _ rfl;(with_reducible repeat (first|refine zbN ?_ _|refine zbD ?_|refine zbA ?_ _));exact BK186.out) Try.underlying25 rfl (by kernel_rfl)) rfl ?_
    exact ⟨_,_,by first|rfl|(simp [errW_none,errW_some] <;> rfl)|(simp only [← hji10];first|rfl|(simp [errW_none,errW_some] <;> rfl))|(simp [*,errW_none,errW_some] <;> rfl),by (with_reducible repeat (first|apply zrA|apply zrN|apply zrD));exact Kd.R_mono (Kd.R_far (p:=⟨gb186,1,none⟩) (Kd.R_far (p:=⟨gb186,0,none⟩) (Kd.R_types HO189.out BK186.out (by decide)) (fun _ hk=>hk.2) (.slice (some ⟨go8,0,none⟩) t187.length co18)) (fun _ hk=>hk.2) (.slice (some ⟨go11,0,none⟩) t190.length co22)) (fun _ hk=>trivial),by (with_reducible repeat (first|apply zrA|apply zrN|apply zrD));exact Kd.R_mono (Kd.R_far (p:=⟨gb186,1,none⟩) (Kd.R_far (p:=⟨gb186,0,none⟩) (Kd.R_types HO192.out BK186.out (by decide)) (fun _ hk=>hk.2) (.slice (some ⟨go8,0,none⟩) t187.length co18)) (fun _ hk=>hk.2) (.slice (some ⟨go11,0,none⟩) t190.length co22)) (fun _ hk=>trivial),by repeat (first|(with_reducible first|exact HB.out|apply zlA|apply zlN|apply zlD|refine zlS ?_ GE185.out|refine zlS ?_ GE186.out|refine zlS ?_ GE193.out)|exact HB.out)⟩
   ·rw [if_neg c9] at H
    exact absurd H (by simp)
  ·rw [if_neg c7] at H
   exact absurd H (by simp)
 ·rw [if_neg c6] at H
  exact absurd H (by simp)
def pool_Take.f (k:Nat) (l0_0:List Int) (l0_1:List Int) (a1:Int) (a2:Int):Option (List Int × List Int × Int):=(pool_asks.f k l0_0 l0_1 a1).bind fun t199=>(if t199=0 then ((pool_role.f k a2).bind fun bt200=>(if bt200.2=true then (if 0≤a1 then (if a1 < (l0_0.length:Int) then (if (rd l0_0 a1)=1 then ((pool_turned.f l0_0 l0_1 a1 a2 0).bind fun bt203=>(some (bt203.1,bt203.2,0))) else (some (([]:List Int),([]:List Int),41))) else (none)) else (none)) else (some (([]:List Int),([]:List Int),41)))) else (some (([]:List Int),([]:List Int),t199)))
theorem pool_Take.mono:∀ a0 a1 a2 a3 k,LeO (pool_Take.f k a0 a1 a2 a3) (pool_Take.f (k + 1) a0 a1 a2 a3):=by
 intro a0 a1 a2 a3 k
 unfold pool_Take.f
 repeat' first
   | (with_reducible exact pool_asks.mono _ _ _ _)
   | (with_reducible exact pool_role.mono _ _)
   | (with_reducible exact LeO.refl _)
   | (with_reducible exact LeO.none _)
   | (with_reducible refine LeO.ite ?_ ?_)
   | (with_reducible refine LeO.bind ?_ (fun _=>?_))
   | exact pool_asks.mono _ _ _ _
   | exact pool_role.mono _ _
   | exact LeO.none _
   | refine LeO.ite ?_ ?_
   | refine LeO.bind ?_ (fun _=>?_)
set_option maxHeartbeats 8000000 in
set_option maxRecDepth 100000 in
theorem pool_Take.calls (k:Nat) (A0_0:Option Addr) (c0_0:Nat) (l0_0:List Int) (A0_1:Option Addr) (c0_1:Nat) (l0_1:List Int) (a1:Int) (a2:Int) (r1:List Int) (r2:List Int) (r3:Int) (w:World) (hr0_0:Kd.C (Kd.int .i64) w A0_0 l0_0.length l0_0) (hc0_0:l0_0.length≤c0_0) (hr0_1:Kd.C (Kd.int .i64) w A0_1 l0_1.length l0_1) (hc0_1:l0_1.length≤c0_1) (h:pool_Take.f k l0_0 l0_1 a1 a2=some (r1,r2,r3)) :
  Calls Try.prog 19 #[.agg #[.slice A0_0 l0_0.length c0_0,.slice A0_1 l0_1.length c0_1],.int .i64 a1,.int .i64 a2] w fun e w'=>∃ v0_ v1_:Value,e=.returned (.tuple #[.agg #[v0_,v1_],.int .i64 r3])∧Kd.R (Kd.int .i64) 3 w' w.heap.size (fun _=>True) v0_ r1∧Kd.R (Kd.int .i64) 2 w' w.heap.size (fun _=>True) v1_ r2∧Below w.heap.size w w':=by
 have hu25:=Try.underlying25
 have HR0_0:=zm hr0_0
 have HC0_0:=zm hc0_0
 clear hr0_0 hc0_0
 have HR0_1:=zm hr0_1
 have HC0_1:=zm hc0_1
 clear hr0_1 hc0_1
 have HB:=zm (Below.refl w.heap.size w)
 have H:((pool_asks.f k l0_0 l0_1 a1).bind fun t199=>(if t199=0 then ((pool_role.f k a2).bind fun bt200=>(if bt200.2=true then (if 0≤a1 then (if a1 < (l0_0.length:Int) then (if (rd l0_0 a1)=1 then ((pool_turned.f l0_0 l0_1 a1 a2 0).bind fun bt203=>(some (bt203.1,bt203.2,0))) else (some (([]:List Int),([]:List Int),41))) else (none)) else (none)) else (some (([]:List Int),([]:List Int),41)))) else (some (([]:List Int),([]:List Int),t199))))=some (r1,r2,r3):=h
 clear h
 replace H:=Option.bind_eq_some_iff.mp H
 obtain ⟨t199,A40,H⟩:=H
 replace H:(if t199=0 then ((pool_role.f k a2).bind fun bt200=>(if bt200.2=true then (if 0≤a1 then (if a1 < (l0_0.length:Int) then (if (rd l0_0 a1)=1 then ((pool_turned.f l0_0 l0_1 a1 a2 0).bind fun bt203=>(some (bt203.1,bt203.2,0))) else (some (([]:List Int),([]:List Int),41))) else (none)) else (none)) else (some (([]:List Int),([]:List Int),41)))) else (some (([]:List Int),([]:List Int),t199)))=some (r1,r2,r3):=H
 have A4:=zm A40
 clear A40
 by_cases c5:t199=0
 ·rw [if_pos c5] at H
  have c5b0:(t199 == 0)=true:=beq_iff_eq.mpr c5
  have c5b1:(t199 != 0)=false:=bne_eq_false_iff_eq.mpr c5
  clear c5
  replace H:=Option.bind_eq_some_iff.mp H
  obtain ⟨⟨t200,t201⟩,A60,H⟩:=H
  replace H:(if t201=true then (if 0≤a1 then (if a1 < (l0_0.length:Int) then (if (rd l0_0 a1)=1 then ((pool_turned.f l0_0 l0_1 a1 a2 0).bind fun bt203=>(some (bt203.1,bt203.2,0))) else (some (([]:List Int),([]:List Int),41))) else (none)) else (none)) else (some (([]:List Int),([]:List Int),41)))=some (r1,r2,r3):=H
  have A6:=zm A60
  clear A60
  by_cases c7:t201=true
  ·subst c7
   have H1:(if 0≤a1 then (if a1 < (l0_0.length:Int) then (if (rd l0_0 a1)=1 then ((pool_turned.f l0_0 l0_1 a1 a2 0).bind fun bt203=>(some (bt203.1,bt203.2,0))) else (some (([]:List Int),([]:List Int),41))) else (none)) else (none))=some (r1,r2,r3):=by rw [if_pos rfl] at H;exact H
   clear H
   have H:=H1
   clear H1
   by_cases c8:0≤a1
   ·rw [if_pos c8] at H
    have c8b0:decide (0≤a1)=true:=decide_eq_true c8
    clear c8
    by_cases c9:a1 < (l0_0.length:Int)
    ·rw [if_pos c9] at H
     have c9b0:decide (a1 < (l0_0.length:Int))=true:=decide_eq_true c9
     clear c9
     by_cases c10:(rd l0_0 a1)=1
     ·rw [if_pos c10] at H
      have c10b0:((rd l0_0 a1) == 1)=true:=beq_iff_eq.mpr c10
      have c10b1:((rd l0_0 a1) != 1)=false:=bne_eq_false_iff_eq.mpr c10
      clear c10
      replace H:=Option.bind_eq_some_iff.mp H
      obtain ⟨⟨t203,t206⟩,A110,H⟩:=H
      replace H:(some (t203,t206,0))=some (r1,r2,r3):=H
      have A11:=zm A110
      clear A110
      simp only [Option.some.injEq,Prod.mk.injEq] at H
      obtain ⟨rfl,rfl,rfl⟩:=H
      go_enter Try.func19,Try.ntmps19
      go_wp2_with (first|((with_reducible refine gate_dst (N:=3) rfl ?_);refine box_event ?hg (N:=3) ?hd (cs:=#[.slice A0_0 l0_0.length c0_0,.slice A0_1 l0_1.length c0_1]) (t:=25) ?hr ?_;(case hd=>rfl);(case hg=>rfl);(case hr=>first|(go_simp;done)|(go_simp;rfl));intro gb197 hg w12 hbox hb;have n0_:=zm (below_step (by repeat (first|(with_reducible first|exact HB.out|apply zlA|apply zlN|apply zlD)|exact HB.out)) hb);have n1_:=zm (hbox);have n2_:=zm ((by rw [hg];exact (below_size (by repeat (first|(with_reducible first|exact HB.out|apply zlA|apply zlN|apply zlD)|exact HB.out))):w.heap.size≤gb197));have n3_:=zm ((by rw [hg];exact (below_size (by repeat (first|(with_reducible first|exact HB.out|apply zlA|apply zlN|apply zlD)|exact HB.out))):w.heap.size≤gb197));clear HB;have HB:=n0_;have BK197:=n1_;have GW197:=n2_;have GE197:=n3_;clear n0_ n1_ n2_ n3_;clear hb hbox hg)|((with_reducible refine gate_dst (N:=6) rfl ?_);refine box_event ?hg (N:=6) ?hd (cs:=#[.slice none 0 0,.slice none 0 0]) (t:=25) ?hr ?_;(case hd=>rfl);(case hg=>rfl);(case hr=>first|(go_simp;done)|(go_simp;rfl));intro gb198 hg w13 hbox hb;have n0_:=zm (zbB (g:=gb197) (o:=.cells #[.slice A0_0 l0_0.length c0_0,.slice A0_1 l0_1.length c0_1] 25 (0,0)) (by (with_reducible repeat (first|refine zbN ?_ _|refine zbD ?_|refine zbA ?_ _));exact BK197.out) hb);have n1_:=zm (below_step (by repeat (first|(with_reducible first|exact HB.out|apply zlA|apply zlN|apply zlD|refine zlS ?_ GE197.out)|exact HB.out)) hb);have n2_:=zm (hbox);have n3_:=zm ((by rw [hg];exact (below_size (by repeat (first|(with_reducible first|exact HB.out|apply zlA|apply zlN|apply zlD|refine zlS ?_ GE197.out)|exact HB.out))):w.heap.size≤gb198));have n4_:=zm ((by rw [hg];exact (below_size (by repeat (first|(with_reducible first|exact HB.out|apply zlA|apply zlN|apply zlD|refine zlS ?_ GE197.out)|exact HB.out))):w.heap.size≤gb198));have n5_:=zm ((by rw [hg];exact Nat.ne_of_lt (blk_lt (g:=gb197) (o:=.cells #[.slice A0_0 l0_0.length c0_0,.slice A0_1 l0_1.length c0_1] 25 (0,0)) (by (with_reducible repeat (first|refine zbN ?_ _|refine zbD ?_|refine zbA ?_ _));exact BK197.out)):gb197≠gb198));have n6_:=zm ((by rw [hg];exact Nat.ne_of_gt (blk_lt (g:=gb197) (o:=.cells #[.slice A0_0 l0_0.length c0_0,.slice A0_1 l0_1.length c0_1] 25 (0,0)) (by (with_reducible repeat (first|refine zbN ?_ _|refine zbD ?_|refine zbA ?_ _));exact BK197.out)):gb198≠gb197));clear BK197 HB;have BK197:=n0_;have HB:=n1_;have BK198:=n2_;have GW198:=n3_;have GE198:=n4_;have NB197_198:=n5_;have NB198_197:=n6_;clear n0_ n1_ n2_ n3_ n4_ n5_ n6_;clear hb hbox hg;have hnb14:=NB197_198.out;have hnc14:=NB198_197.out;have hcz15_0:w13.cell? ⟨gb197,0,none⟩=some (.slice A0_0 l0_0.length c0_0):=(blk_cell BK197.out 0).trans rfl;have hcz15_1:w13.cell? ⟨gb197,1,none⟩=some (.slice A0_1 l0_1.length c0_1):=(blk_cell BK197.out 1).trans rfl;have hfz15_0:=blk_frozen BK197.out 0;have hfz15_1:=blk_frozen BK197.out 1)|((with_reducible refine gate_callee (f:=42) rfl ?_);refine goesL_ (some 13) rfl rfl Try.func42 (by kernel_rfl) rfl #[.agg #[.slice A0_0 l0_0.length c0_0,.slice A0_1 l0_1.length c0_1],.int .i64 a1] rfl (by (try simp only [List.map_toArray,List.map_cons,List.map_nil]);first|done|rfl|(simp only [List.length_drop,List.length_take];rfl)) ?_;(with_reducible refine (pool_asks.calls k _ _ l0_0 _ _ l0_1 a1 t199 _ ?side1 ?side2 ?side3 ?side4 A4.out).mono ?_);(case side1=>repeat (first|exact (Kd.C_below HR0_0.out HB.out)|(with_reducible refine Kd.C_alloc ?_ _)|(with_reducible refine Kd.C_drewN ?_ _)|(with_reducible refine Kd.C_drew ?_)));(case side2=>exact HC0_0.out);(case side3=>repeat (first|exact (Kd.C_below HR0_1.out HB.out)|(with_reducible refine Kd.C_alloc ?_ _)|(with_reducible refine Kd.C_drewN ?_ _)|(with_reducible refine Kd.C_drew ?_)));(case side4=>exact HC0_1.out);rintro e w16 ⟨rfl,hb⟩;refine ⟨_,rfl,?_⟩;have n0_:=zm (zbB (g:=gb197) (o:=.cells #[.slice A0_0 l0_0.length c0_0,.slice A0_1 l0_1.length c0_1] 25 (0,0)) (by (with_reducible repeat (first|refine zbN ?_ _|refine zbD ?_|refine zbA ?_ _));exact BK197.out) hb);have n1_:=zm (zbB (g:=gb198) (o:=.cells #[.slice none 0 0,.slice none 0 0] 25 (0,0)) (by (with_reducible repeat (first|refine zbN ?_ _|refine zbD ?_|refine zbA ?_ _));exact BK198.out) hb);have n2_:=zm (below_step (by repeat (first|(with_reducible first|exact HB.out|apply zlA|apply zlN|apply zlD|refine zlS ?_ GE197.out|refine zlS ?_ GE198.out)|exact HB.out)) hb);clear BK197 BK198 HB;have BK197:=n0_;have BK198:=n1_;have HB:=n2_;clear n0_ n1_ n2_;(try clear hb);(try clear hb2);(try clear hk);(try clear hi))|((with_reducible refine gate_callee (f:=37) rfl ?_);refine goesL_ (some 20) rfl rfl Try.func37 (by kernel_rfl) rfl #[.int .i64 a2] rfl (by (try simp only [List.map_toArray,List.map_cons,List.map_nil]);first|done|rfl|(simp only [List.length_drop,List.length_take];rfl)) ?_;(with_reducible refine (pool_role.calls k a2 t200 true _ A6.out).mono ?_);rintro e w' ⟨rfl,⟨nd,rfl⟩⟩;refine ⟨_,rfl,?_⟩;(try (rw [drewN_self w16];generalize hq_:World.drewN w16 _=w16;have n0_:Aside0 (w16.heap[gb197]?=some (.cells #[.slice A0_0 l0_0.length c0_0,.slice A0_1 l0_1.length c0_1] 25 (0,0))):=⟨by rw [← hq_];exact (by (with_reducible repeat (first|refine zbN ?_ _|refine zbD ?_|refine zbA ?_ _));exact BK197.out)⟩;have n1_:Aside0 (w16.heap[gb198]?=some (.cells #[.slice none 0 0,.slice none 0 0] 25 (0,0))):=⟨by rw [← hq_];exact (by (with_reducible repeat (first|refine zbN ?_ _|refine zbD ?_|refine zbA ?_ _));exact BK198.out)⟩;have n2_:Aside0 (Below w.heap.size w w16):=⟨by rw [← hq_];exact (by repeat (first|(with_reducible first|exact HB.out|apply zlA|apply zlN|apply zlD|refine zlS ?_ GE197.out|refine zlS ?_ GE198.out)|exact HB.out))⟩;clear BK197 BK198 HB hq_;have BK197:=n0_;have BK198:=n1_;have HB:=n2_;clear n0_ n1_ n2_));have hcz17_0:w16.cell? ⟨gb197,0,none⟩=some (.slice A0_0 l0_0.length c0_0):=(blk_cell BK197.out 0).trans rfl;have hcz17_1:w16.cell? ⟨gb197,1,none⟩=some (.slice A0_1 l0_1.length c0_1):=(blk_cell BK197.out 1).trans rfl;have hfz17_0:=blk_frozen BK197.out 0;have hfz17_1:=blk_frozen BK197.out 1;have p202:0≤(a1:Int):=of_decide_eq_true (by first|(with_reducible assumption)|assumption);have q202:a1 < (l0_0.length:Int):=of_decide_eq_true (by first|(with_reducible assumption)|assumption);obtain ⟨ad202,e202,hx202_0⟩:=Kd.at_int HR0_0.out a1 p202 q202;cases e202;replace hx202_0:=(HB.out.cell (World.block_lt_of_cell? w _ hx202_0)).trans hx202_0;replace p202:=eq_true p202;replace q202:=eq_true q202)|((with_reducible refine gate_callee (f:=43) rfl ?_);refine goesL_ (some 37) rfl rfl Try.func43 (by kernel_rfl) rfl #[.agg #[.slice (some ad202) l0_0.length c0_0,.slice A0_1 l0_1.length c0_1],.int .i64 a1,.int .i64 a2,.int .i64 0] rfl (by (try simp only [List.map_toArray,List.map_cons,List.map_nil]);first|done|rfl|(simp only [List.length_drop,List.length_take];rfl)) ?_;(with_reducible refine (pool_turned.calls _ _ l0_0 _ _ l0_1 a1 a2 0 t203 t206 _ ?side1 ?side2 ?side3 ?side4 A11.out).mono ?_);(case side1=>repeat (first|exact (Kd.C_below HR0_0.out HB.out)|(with_reducible refine Kd.C_alloc ?_ _)|(with_reducible refine Kd.C_drewN ?_ _)|(with_reducible refine Kd.C_drew ?_)));(case side2=>exact HC0_0.out);(case side3=>repeat (first|exact (Kd.C_below HR0_1.out HB.out)|(with_reducible refine Kd.C_alloc ?_ _)|(with_reducible refine Kd.C_drewN ?_ _)|(with_reducible refine Kd.C_drew ?_)));(case side4=>exact HC0_1.out);rintro e w18 ⟨v204,v207,rfl,ho0,ho1,hb⟩;refine ⟨_,rfl,?_⟩;have n0_:=zm (Kd.R_lower ho0 (below_size (by repeat (first|(with_reducible first|exact HB.out|apply zlA|apply zlN|apply zlD|refine zlS ?_ GE197.out|refine zlS ?_ GE198.out)|exact HB.out))));have n1_:=zm (Kd.R_lower ho1 (below_size (by repeat (first|(with_reducible first|exact HB.out|apply zlA|apply zlN|apply zlD|refine zlS ?_ GE197.out|refine zlS ?_ GE198.out)|exact HB.out))));have n2_:=zm (zbB (g:=gb197) (o:=.cells #[.slice (some ad202) l0_0.length c0_0,.slice A0_1 l0_1.length c0_1] 25 (0,0)) (by (with_reducible repeat (first|refine zbN ?_ _|refine zbD ?_|refine zbA ?_ _));exact BK197.out) hb);have n3_:=zm (zbB (g:=gb198) (o:=.cells #[.slice none 0 0,.slice none 0 0] 25 (0,0)) (by (with_reducible repeat (first|refine zbN ?_ _|refine zbD ?_|refine zbA ?_ _));exact BK198.out) hb);have n4_:=zm (below_step (by repeat (first|(with_reducible first|exact HB.out|apply zlA|apply zlN|apply zlD|refine zlS ?_ GE197.out|refine zlS ?_ GE198.out)|exact HB.out)) hb);clear BK197 BK198 HB;have HO205:=n0_;have HO208:=n1_;have BK197:=n2_;have BK198:=n3_;have HB:=n4_;clear n0_ n1_ n2_ n3_ n4_;(try clear hb);(try clear hb2);(try clear hk);(try clear hi);(try clear ho0);(try clear ho1);obtain ⟨Ao19,co19,eo19⟩:=Kd.R_slice HO205.out;subst eo19;have hcz20_0:w18.cell? ⟨gb198,0,none⟩=some (.slice none 0 0):=(blk_cell BK198.out 0).trans rfl;have hcz20_1:w18.cell? ⟨gb198,1,none⟩=some (.slice none 0 0):=(blk_cell BK198.out 1).trans rfl;have hfz20_0:=blk_frozen BK198.out 0;have hfz20_1:=blk_frozen BK198.out 1;obtain ⟨Ao21,co21,eo21⟩:=Kd.R_slice HO208.out;subst eo21))
      refine bodyPost_ret (results_ct rfl _ _ gb198 25 #[.slice Ao19 t203.length co19,.slice Ao21 t206.length co21] (0,0) _ rfl (by (with_reducible repeat (first|refine zbN ?_ _|refine zbD ?_|refine zbA ?_ _));refine blk_put (cs:=#[.slice Ao19 t203.length co19,.slice none 0 0]) ?_ 1 _ rfl;(with_reducible repeat (first|refine zbN ?_ _|refine zbD ?_|refine zbA ?_ _));refine blk_put (cs:=#[.slice none 0 0,.slice none 0 0]) ?_ 0 _ rfl;(with_reducible repeat (first|refine zbN ?_ _|refine zbD ?_|refine zbA ?_ _));exact BK198.out) Try.underlying25 rfl (by kernel_rfl)) rfl ?_
      exact ⟨_,_,by first|rfl|(simp [errW_none,errW_some] <;> rfl)|(simp [*,errW_none,errW_some] <;> rfl),by (with_reducible repeat (first|apply zrA|apply zrN|apply zrD));exact Kd.R_mono (Kd.R_far (p:=⟨gb198,1,none⟩) (Kd.R_far (p:=⟨gb198,0,none⟩) (Kd.R_types HO205.out BK198.out (by decide)) (fun _ hk=>hk.2) (.slice Ao19 t203.length co19)) (fun _ hk=>hk.2) (.slice Ao21 t206.length co21)) (fun _ hk=>trivial),by (with_reducible repeat (first|apply zrA|apply zrN|apply zrD));exact Kd.R_mono (Kd.R_far (p:=⟨gb198,1,none⟩) (Kd.R_far (p:=⟨gb198,0,none⟩) (Kd.R_types HO208.out BK198.out (by decide)) (fun _ hk=>hk.2) (.slice Ao19 t203.length co19)) (fun _ hk=>hk.2) (.slice Ao21 t206.length co21)) (fun _ hk=>trivial),by repeat (first|(with_reducible first|exact HB.out|apply zlA|apply zlN|apply zlD|refine zlS ?_ GE197.out|refine zlS ?_ GE198.out)|exact HB.out)⟩
     ·rw [if_neg c10] at H
      have c10b0:((rd l0_0 a1) == 1)=false:=beq_eq_false_iff_ne.mpr c10
      have c10b1:((rd l0_0 a1) != 1)=true:=bne_iff_ne.mpr c10
      simp only [Option.some.injEq,Prod.mk.injEq] at H
      obtain ⟨rfl,rfl,rfl⟩:=H
      go_enter Try.func19,Try.ntmps19
      go_wp2_with (first|((with_reducible refine gate_dst (N:=3) rfl ?_);refine box_event ?hg (N:=3) ?hd (cs:=#[.slice A0_0 l0_0.length c0_0,.slice A0_1 l0_1.length c0_1]) (t:=25) ?hr ?_;(case hd=>rfl);(case hg=>rfl);(case hr=>first|(go_simp;done)|(go_simp;rfl));intro gb197 hg w22 hbox hb;have n0_:=zm (below_step (by repeat (first|(with_reducible first|exact HB.out|apply zlA|apply zlN|apply zlD)|exact HB.out)) hb);have n1_:=zm (hbox);have n2_:=zm ((by rw [hg];exact (below_size (by repeat (first|(with_reducible first|exact HB.out|apply zlA|apply zlN|apply zlD)|exact HB.out))):w.heap.size≤gb197));have n3_:=zm ((by rw [hg];exact (below_size (by repeat (first|(with_reducible first|exact HB.out|apply zlA|apply zlN|apply zlD)|exact HB.out))):w.heap.size≤gb197));clear HB;have HB:=n0_;have BK197:=n1_;have GW197:=n2_;have GE197:=n3_;clear n0_ n1_ n2_ n3_;clear hb hbox hg)|((with_reducible refine gate_dst (N:=6) rfl ?_);refine box_event ?hg (N:=6) ?hd (cs:=#[.slice none 0 0,.slice none 0 0]) (t:=25) ?hr ?_;(case hd=>rfl);(case hg=>rfl);(case hr=>first|(go_simp;done)|(go_simp;rfl));intro gb198 hg w23 hbox hb;have n0_:=zm (zbB (g:=gb197) (o:=.cells #[.slice A0_0 l0_0.length c0_0,.slice A0_1 l0_1.length c0_1] 25 (0,0)) (by (with_reducible repeat (first|refine zbN ?_ _|refine zbD ?_|refine zbA ?_ _));exact BK197.out) hb);have n1_:=zm (below_step (by repeat (first|(with_reducible first|exact HB.out|apply zlA|apply zlN|apply zlD|refine zlS ?_ GE197.out)|exact HB.out)) hb);have n2_:=zm (hbox);have n3_:=zm ((by rw [hg];exact (below_size (by repeat (first|(with_reducible first|exact HB.out|apply zlA|apply zlN|apply zlD|refine zlS ?_ GE197.out)|exact HB.out))):w.heap.size≤gb198));have n4_:=zm ((by rw [hg];exact (below_size (by repeat (first|(with_reducible first|exact HB.out|apply zlA|apply zlN|apply zlD|refine zlS ?_ GE197.out)|exact HB.out))):w.heap.size≤gb198));have n5_:=zm ((by rw [hg];exact Nat.ne_of_lt (blk_lt (g:=gb197) (o:=.cells #[.slice A0_0 l0_0.length c0_0,.slice A0_1 l0_1.length c0_1] 25 (0,0)) (by (with_reducible repeat (first|refine zbN ?_ _|refine zbD ?_|refine zbA ?_ _));exact BK197.out)):gb197≠gb198));have n6_:=zm ((by rw [hg];exact Nat.ne_of_gt (blk_lt (g:=gb197) (o:=.cells #[.slice A0_0 l0_0.length c0_0,.slice A0_1 l0_1.length c0_1] 25 (0,0)) (by (with_reducible repeat (first|refine zbN ?_ _|refine zbD ?_|refine zbA ?_ _));exact BK197.out)):gb198≠gb197));clear BK197 HB;have BK197:=n0_;have HB:=n1_;have BK198:=n2_;have GW198:=n3_;have GE198:=n4_;have NB197_198:=n5_;have NB198_197:=n6_;clear n0_ n1_ n2_ n3_ n4_ n5_ n6_;clear hb hbox hg;have hnb24:=NB197_198.out;have hnc24:=NB198_197.out;have hcz25_0:w23.cell? ⟨gb197,0,none⟩=some (.slice A0_0 l0_0.length c0_0):=(blk_cell BK197.out 0).trans rfl;have hcz25_1:w23.cell? ⟨gb197,1,none⟩=some (.slice A0_1 l0_1.length c0_1):=(blk_cell BK197.out 1).trans rfl;have hfz25_0:=blk_frozen BK197.out 0;have hfz25_1:=blk_frozen BK197.out 1)|((with_reducible refine gate_callee (f:=42) rfl ?_);refine goesL_ (some 13) rfl rfl Try.func42 (by kernel_rfl) rfl #[.agg #[.slice A0_0 l0_0.length c0_0,.slice A0_1 l0_1.length c0_1],.int .i64 a1] rfl (by (try simp only [List.map_toArray,List.map_cons,List.map_nil]);first|done|rfl|(simp only [List.length_drop,List.length_take];rfl)) ?_;(with_reducible refine (pool_asks.calls k _ _ l0_0 _ _ l0_1 a1 t199 _ ?side1 ?side2 ?side3 ?side4 A4.out).mono ?_);(case side1=>repeat (first|exact (Kd.C_below HR0_0.out HB.out)|(with_reducible refine Kd.C_alloc ?_ _)|(with_reducible refine Kd.C_drewN ?_ _)|(with_reducible refine Kd.C_drew ?_)));(case side2=>exact HC0_0.out);(case side3=>repeat (first|exact (Kd.C_below HR0_1.out HB.out)|(with_reducible refine Kd.C_alloc ?_ _)|(with_reducible refine Kd.C_drewN ?_ _)|(with_reducible refine Kd.C_drew ?_)));(case side4=>exact HC0_1.out);rintro e w26 ⟨rfl,hb⟩;refine ⟨_,rfl,?_⟩;have n0_:=zm (zbB (g:=gb197) (o:=.cells #[.slice A0_0 l0_0.length c0_0,.slice A0_1 l0_1.length c0_1] 25 (0,0)) (by (with_reducible repeat (first|refine zbN ?_ _|refine zbD ?_|refine zbA ?_ _));exact BK197.out) hb);have n1_:=zm (zbB (g:=gb198) (o:=.cells #[.slice none 0 0,.slice none 0 0] 25 (0,0)) (by (with_reducible repeat (first|refine zbN ?_ _|refine zbD ?_|refine zbA ?_ _));exact BK198.out) hb);have n2_:=zm (below_step (by repeat (first|(with_reducible first|exact HB.out|apply zlA|apply zlN|apply zlD|refine zlS ?_ GE197.out|refine zlS ?_ GE198.out)|exact HB.out)) hb);clear BK197 BK198 HB;have BK197:=n0_;have BK198:=n1_;have HB:=n2_;clear n0_ n1_ n2_;(try clear hb);(try clear hb2);(try clear hk);(try clear hi))|((with_reducible refine gate_callee (f:=37) rfl ?_);refine goesL_ (some 20) rfl rfl Try.func37 (by kernel_rfl) rfl #[.int .i64 a2] rfl (by (try simp only [List.map_toArray,List.map_cons,List.map_nil]);first|done|rfl|(simp only [List.length_drop,List.length_take];rfl)) ?_;(with_reducible refine (pool_role.calls k a2 t200 true _ A6.out).mono ?_);rintro e w' ⟨rfl,⟨nd,rfl⟩⟩;refine ⟨_,rfl,?_⟩;(try (rw [drewN_self w26];generalize hq_:World.drewN w26 _=w26;have n0_:Aside0 (w26.heap[gb197]?=some (.cells #[.slice A0_0 l0_0.length c0_0,.slice A0_1 l0_1.length c0_1] 25 (0,0))):=⟨by rw [← hq_];exact (by (with_reducible repeat (first|refine zbN ?_ _|refine zbD ?_|refine zbA ?_ _));exact BK197.out)⟩;have n1_:Aside0 (w26.heap[gb198]?=some (.cells #[.slice none 0 0,.slice none 0 0] 25 (0,0))):=⟨by rw [← hq_];exact (by (with_reducible repeat (first|refine zbN ?_ _|refine zbD ?_|refine zbA ?_ _));exact BK198.out)⟩;have n2_:Aside0 (Below w.heap.size w w26):=⟨by rw [← hq_];exact (by repeat (first|(with_reducible first|exact HB.out|apply zlA|apply zlN|apply zlD|refine zlS ?_ GE197.out|refine zlS ?_ GE198.out)|exact HB.out))⟩;clear BK197 BK198 HB hq_;have BK197:=n0_;have BK198:=n1_;have HB:=n2_;clear n0_ n1_ n2_));have hcz27_0:w26.cell? ⟨gb197,0,none⟩=some (.slice A0_0 l0_0.length c0_0):=(blk_cell BK197.out 0).trans rfl;have hcz27_1:w26.cell? ⟨gb197,1,none⟩=some (.slice A0_1 l0_1.length c0_1):=(blk_cell BK197.out 1).trans rfl;have hfz27_0:=blk_frozen BK197.out 0;have hfz27_1:=blk_frozen BK197.out 1;have p202:0≤(a1:Int):=of_decide_eq_true (by first|(with_reducible assumption)|assumption);have q202:a1 < (l0_0.length:Int):=of_decide_eq_true (by first|(with_reducible assumption)|assumption);obtain ⟨ad202,e202,hx202_0⟩:=Kd.at_int HR0_0.out a1 p202 q202;cases e202;replace hx202_0:=(HB.out.cell (World.block_lt_of_cell? w _ hx202_0)).trans hx202_0;replace p202:=eq_true p202;replace q202:=eq_true q202;have hcz28_0:w26.cell? ⟨gb198,0,none⟩=some (.slice none 0 0):=(blk_cell BK198.out 0).trans rfl;have hcz28_1:w26.cell? ⟨gb198,1,none⟩=some (.slice none 0 0):=(blk_cell BK198.out 1).trans rfl;have hfz28_0:=blk_frozen BK198.out 0;have hfz28_1:=blk_frozen BK198.out 1))
      refine bodyPost_ret (results_ct rfl _ _ gb198 25 #[.slice none 0 0,.slice none 0 0] (0,0) _ rfl (by (with_reducible repeat (first|refine zbN ?_ _|refine zbD ?_|refine zbA ?_ _));refine blk_put (cs:=#[.slice none 0 0,.slice none 0 0]) ?_ 1 _ rfl;(with_reducible repeat (first|refine zbN ?_ _|refine zbD ?_|refine zbA ?_ _));refine blk_put (cs:=#[.slice none 0 0,.slice none 0 0]) ?_ 0 _ rfl;(with_reducible repeat (first|refine zbN ?_ _|refine zbD ?_|refine zbA ?_ _));exact BK198.out) Try.underlying25 rfl (by kernel_rfl)) rfl ?_
      exact ⟨_,_,by first|rfl|(simp [errW_none,errW_some] <;> rfl)|(simp [*,errW_none,errW_some] <;> rfl),by first|exact Kd.R_nil _ _ _ _ _|exact Kd.N_nil _ _ _ _ _|exact Kd.V_nil _ _ _ _ _|exact Kd.Q_nil _ _ _ _ _|exact Kd.S_nil _ _ _ _ _,by first|exact Kd.R_nil _ _ _ _ _|exact Kd.N_nil _ _ _ _ _|exact Kd.V_nil _ _ _ _ _|exact Kd.Q_nil _ _ _ _ _|exact Kd.S_nil _ _ _ _ _,by repeat (first|(with_reducible first|exact HB.out|apply zlA|apply zlN|apply zlD|refine zlS ?_ GE197.out|refine zlS ?_ GE198.out)|exact HB.out)⟩
    ·rw [if_neg c9] at H
     exact absurd H (by simp)
   ·rw [if_neg c8] at H
    exact absurd H (by simp)
  ·replace c7:=Bool.eq_false_iff.mpr c7
   subst c7
   have H1:(some (([]:List Int),([]:List Int),41))=some (r1,r2,r3):=by rw [if_neg (show ¬ (false=true) by decide)] at H;exact H
   clear H
   have H:=H1
   clear H1
   simp only [Option.some.injEq,Prod.mk.injEq] at H
   obtain ⟨rfl,rfl,rfl⟩:=H
   go_enter Try.func19,Try.ntmps19
   go_wp2_with (first|((with_reducible refine gate_dst (N:=3) rfl ?_);refine box_event ?hg (N:=3) ?hd (cs:=#[.slice A0_0 l0_0.length c0_0,.slice A0_1 l0_1.length c0_1]) (t:=25) ?hr ?_;(case hd=>rfl);(case hg=>rfl);(case hr=>first|(go_simp;done)|(go_simp;rfl));intro gb197 hg w29 hbox hb;have n0_:=zm (below_step (by repeat (first|(with_reducible first|exact HB.out|apply zlA|apply zlN|apply zlD)|exact HB.out)) hb);have n1_:=zm (hbox);have n2_:=zm ((by rw [hg];exact (below_size (by repeat (first|(with_reducible first|exact HB.out|apply zlA|apply zlN|apply zlD)|exact HB.out))):w.heap.size≤gb197));have n3_:=zm ((by rw [hg];exact (below_size (by repeat (first|(with_reducible first|exact HB.out|apply zlA|apply zlN|apply zlD)|exact HB.out))):w.heap.size≤gb197));clear HB;have HB:=n0_;have BK197:=n1_;have GW197:=n2_;have GE197:=n3_;clear n0_ n1_ n2_ n3_;clear hb hbox hg)|((with_reducible refine gate_dst (N:=6) rfl ?_);refine box_event ?hg (N:=6) ?hd (cs:=#[.slice none 0 0,.slice none 0 0]) (t:=25) ?hr ?_;(case hd=>rfl);(case hg=>rfl);(case hr=>first|(go_simp;done)|(go_simp;rfl));intro gb198 hg w30 hbox hb;have n0_:=zm (zbB (g:=gb197) (o:=.cells #[.slice A0_0 l0_0.length c0_0,.slice A0_1 l0_1.length c0_1] 25 (0,0)) (by (with_reducible repeat (first|refine zbN ?_ _|refine zbD ?_|refine zbA ?_ _));exact BK197.out) hb);have n1_:=zm (below_step (by repeat (first|(with_reducible first|exact HB.out|apply zlA|apply zlN|apply zlD|refine zlS ?_ GE197.out)|exact HB.out)) hb);have n2_:=zm (hbox);have n3_:=zm ((by rw [hg];exact (below_size (by repeat (first|(with_reducible first|exact HB.out|apply zlA|apply zlN|apply zlD|refine zlS ?_ GE197.out)|exact HB.out))):w.heap.size≤gb198));have n4_:=zm ((by rw [hg];exact (below_size (by repeat (first|(with_reducible first|exact HB.out|apply zlA|apply zlN|apply zlD|refine zlS ?_ GE197.out)|exact HB.out))):w.heap.size≤gb198));have n5_:=zm ((by rw [hg];exact Nat.ne_of_lt (blk_lt (g:=gb197) (o:=.cells #[.slice A0_0 l0_0.length c0_0,.slice A0_1 l0_1.length c0_1] 25 (0,0)) (by (with_reducible repeat (first|refine zbN ?_ _|refine zbD ?_|refine zbA ?_ _));exact BK197.out)):gb197≠gb198));have n6_:=zm ((by rw [hg];exact Nat.ne_of_gt (blk_lt (g:=gb197) (o:=.cells #[.slice A0_0 l0_0.length c0_0,.slice A0_1 l0_1.length c0_1] 25 (0,0)) (by (with_reducible repeat (first|refine zbN ?_ _|refine zbD ?_|refine zbA ?_ _));exact BK197.out)):gb198≠gb197));clear BK197 HB;have BK197:=n0_;have HB:=n1_;have BK198:=n2_;have GW198:=n3_;have GE198:=n4_;have NB197_198:=n5_;have NB198_197:=n6_;clear n0_ n1_ n2_ n3_ n4_ n5_ n6_;clear hb hbox hg;have hnb31:=NB197_198.out;have hnc31:=NB198_197.out;have hcz32_0:w30.cell? ⟨gb197,0,none⟩=some (.slice A0_0 l0_0.length c0_0):=(blk_cell BK197.out 0).trans rfl;have hcz32_1:w30.cell? ⟨gb197,1,none⟩=some (.slice A0_1 l0_1.length c0_1):=(blk_cell BK197.out 1).trans rfl;have hfz32_0:=blk_frozen BK197.out 0;have hfz32_1:=blk_frozen BK197.out 1)|((with_reducible refine gate_callee (f:=42) rfl ?_);refine goesL_ (some 13) rfl rfl Try.func42 (by kernel_rfl) rfl #[.agg #[.slice A0_0 l0_0.length c0_0,.slice A0_1 l0_1.length c0_1],.int .i64 a1] rfl (by (try simp only [List.map_toArray,List.map_cons,List.map_nil]);first|done|rfl|(simp only [List.length_drop,List.length_take];rfl)) ?_;(with_reducible refine (pool_asks.calls k _ _ l0_0 _ _ l0_1 a1 t199 _ ?side1 ?side2 ?side3 ?side4 A4.out).mono ?_);(case side1=>repeat (first|exact (Kd.C_below HR0_0.out HB.out)|(with_reducible refine Kd.C_alloc ?_ _)|(with_reducible refine Kd.C_drewN ?_ _)|(with_reducible refine Kd.C_drew ?_)));(case side2=>exact HC0_0.out);(case side3=>repeat (first|exact (Kd.C_below HR0_1.out HB.out)|(with_reducible refine Kd.C_alloc ?_ _)|(with_reducible refine Kd.C_drewN ?_ _)|(with_reducible refine Kd.C_drew ?_)));(case side4=>exact HC0_1.out);rintro e w33 ⟨rfl,hb⟩;refine ⟨_,rfl,?_⟩;have n0_:=zm (zbB (g:=gb197) (o:=.cells #[.slice A0_0 l0_0.length c0_0,.slice A0_1 l0_1.length c0_1] 25 (0,0)) (by (with_reducible repeat (first|refine zbN ?_ _|refine zbD ?_|refine zbA ?_ _));exact BK197.out) hb);have n1_:=zm (zbB (g:=gb198) (o:=.cells #[.slice none 0 0,.slice none 0 0] 25 (0,0)) (by (with_reducible repeat (first|refine zbN ?_ _|refine zbD ?_|refine zbA ?_ _));exact BK198.out) hb);have n2_:=zm (below_step (by repeat (first|(with_reducible first|exact HB.out|apply zlA|apply zlN|apply zlD|refine zlS ?_ GE197.out|refine zlS ?_ GE198.out)|exact HB.out)) hb);clear BK197 BK198 HB;have BK197:=n0_;have BK198:=n1_;have HB:=n2_;clear n0_ n1_ n2_;(try clear hb);(try clear hb2);(try clear hk);(try clear hi))|((with_reducible refine gate_callee (f:=37) rfl ?_);refine goesL_ (some 20) rfl rfl Try.func37 (by kernel_rfl) rfl #[.int .i64 a2] rfl (by (try simp only [List.map_toArray,List.map_cons,List.map_nil]);first|done|rfl|(simp only [List.length_drop,List.length_take];rfl)) ?_;(with_reducible refine (pool_role.calls k a2 t200 false _ A6.out).mono ?_);rintro e w' ⟨rfl,⟨nd,rfl⟩⟩;refine ⟨_,rfl,?_⟩;(try (rw [drewN_self w33];generalize hq_:World.drewN w33 _=w33;have n0_:Aside0 (w33.heap[gb197]?=some (.cells #[.slice A0_0 l0_0.length c0_0,.slice A0_1 l0_1.length c0_1] 25 (0,0))):=⟨by rw [← hq_];exact (by (with_reducible repeat (first|refine zbN ?_ _|refine zbD ?_|refine zbA ?_ _));exact BK197.out)⟩;have n1_:Aside0 (w33.heap[gb198]?=some (.cells #[.slice none 0 0,.slice none 0 0] 25 (0,0))):=⟨by rw [← hq_];exact (by (with_reducible repeat (first|refine zbN ?_ _|refine zbD ?_|refine zbA ?_ _));exact BK198.out)⟩;have n2_:Aside0 (Below w.heap.size w w33):=⟨by rw [← hq_];exact (by repeat (first|(with_reducible first|exact HB.out|apply zlA|apply zlN|apply zlD|refine zlS ?_ GE197.out|refine zlS ?_ GE198.out)|exact HB.out))⟩;clear BK197 BK198 HB hq_;have BK197:=n0_;have BK198:=n1_;have HB:=n2_;clear n0_ n1_ n2_));have hcz34_0:w33.cell? ⟨gb198,0,none⟩=some (.slice none 0 0):=(blk_cell BK198.out 0).trans rfl;have hcz34_1:w33.cell? ⟨gb198,1,none⟩=some (.slice none 0 0):=(blk_cell BK198.out 1).trans rfl;have hfz34_0:=blk_frozen BK198.out 0;have hfz34_1:=blk_frozen BK198.out 1))
   refine bodyPost_ret (results_ct rfl _ _ gb198 25 #[.slice none 0 0,.slice none 0 0] (0,0) _ rfl (by (with_reducible repeat (first|refine zbN ?_ _|refine zbD ?_|refine zbA ?_ _));refine blk_put (cs:=#[.slice none 0 0,.slice none 0 0]) ?_ 1 _ rfl;(with_reducible repeat (first|refine zbN ?_ _|refine zbD ?_|refine zbA ?_ _));refine blk_put (cs:=#[.slice none 0 0,.slice none 0 0]) ?_ 0 _ rfl;(with_reducible repeat (first|refine zbN ?_ _|refine zbD ?_|refine zbA ?_ _));exact BK198.out) Try.underlying25 rfl (by kernel_rfl)) rfl ?_
   exact ⟨_,_,by first|rfl|(simp [errW_none,errW_some] <;> rfl)|(simp [*,errW_none,errW_some] <;> rfl),by first|exact Kd.R_nil _ _ _ _ _|exact Kd.N_nil _ _ _ _ _|exact Kd.V_nil _ _ _ _ _|exact Kd.Q_nil _ _ _ _ _|exact Kd.S_nil _ _ _ _ _,by first|exact Kd.R_nil _ _ _ _ _|exact Kd.N_nil _ _ _ _ _|exact Kd.V_nil _ _ _ _ _|exact Kd.Q_nil _ _ _ _ _|exact Kd.S_nil _ _ _ _ _,by repeat (first|(with_reducible first|exact HB.out|apply zlA|apply zlN|apply zlD|refine zlS ?_ GE197.out|refine zlS ?_ GE198.out)|exact HB.out)⟩
 ·rw [if_neg c5] at H
  have c5b0:(t199 == 0)=false:=beq_eq_false_iff_ne.mpr c5
  have c5b1:(t199 != 0)=true:=bne_iff_ne.mpr c5
  simp only [Option.some.injEq,Prod.mk.injEq] at H
  obtain ⟨rfl,rfl,rfl⟩:=H
  go_enter Try.func19,Try.ntmps19
  go_wp2_with (first|((with_reducible refine gate_dst (N:=3) rfl ?_);refine box_event ?hg (N:=3) ?hd (cs:=#[.slice A0_0 l0_0.length c0_0,.slice A0_1 l0_1.length c0_1]) (t:=25) ?hr ?_;(case hd=>rfl);(case hg=>rfl);(case hr=>first|(go_simp;done)|(go_simp;rfl));intro gb197 hg w35 hbox hb;have n0_:=zm (below_step (by repeat (first|(with_reducible first|exact HB.out|apply zlA|apply zlN|apply zlD)|exact HB.out)) hb);have n1_:=zm (hbox);have n2_:=zm ((by rw [hg];exact (below_size (by repeat (first|(with_reducible first|exact HB.out|apply zlA|apply zlN|apply zlD)|exact HB.out))):w.heap.size≤gb197));have n3_:=zm ((by rw [hg];exact (below_size (by repeat (first|(with_reducible first|exact HB.out|apply zlA|apply zlN|apply zlD)|exact HB.out))):w.heap.size≤gb197));clear HB;have HB:=n0_;have BK197:=n1_;have GW197:=n2_;have GE197:=n3_;clear n0_ n1_ n2_ n3_;clear hb hbox hg)|((with_reducible refine gate_dst (N:=6) rfl ?_);refine box_event ?hg (N:=6) ?hd (cs:=#[.slice none 0 0,.slice none 0 0]) (t:=25) ?hr ?_;(case hd=>rfl);(case hg=>rfl);(case hr=>first|(go_simp;done)|(go_simp;rfl));intro gb198 hg w36 hbox hb;have n0_:=zm (zbB (g:=gb197) (o:=.cells #[.slice A0_0 l0_0.length c0_0,.slice A0_1 l0_1.length c0_1] 25 (0,0)) (by (with_reducible repeat (first|refine zbN ?_ _|refine zbD ?_|refine zbA ?_ _));exact BK197.out) hb);have n1_:=zm (below_step (by repeat (first|(with_reducible first|exact HB.out|apply zlA|apply zlN|apply zlD|refine zlS ?_ GE197.out)|exact HB.out)) hb);have n2_:=zm (hbox);have n3_:=zm ((by rw [hg];exact (below_size (by repeat (first|(with_reducible first|exact HB.out|apply zlA|apply zlN|apply zlD|refine zlS ?_ GE197.out)|exact HB.out))):w.heap.size≤gb198));have n4_:=zm ((by rw [hg];exact (below_size (by repeat (first|(with_reducible first|exact HB.out|apply zlA|apply zlN|apply zlD|refine zlS ?_ GE197.out)|exact HB.out))):w.heap.size≤gb198));have n5_:=zm ((by rw [hg];exact Nat.ne_of_lt (blk_lt (g:=gb197) (o:=.cells #[.slice A0_0 l0_0.length c0_0,.slice A0_1 l0_1.length c0_1] 25 (0,0)) (by (with_reducible repeat (first|refine zbN ?_ _|refine zbD ?_|refine zbA ?_ _));exact BK197.out)):gb197≠gb198));have n6_:=zm ((by rw [hg];exact Nat.ne_of_gt (blk_lt (g:=gb197) (o:=.cells #[.slice A0_0 l0_0.length c0_0,.slice A0_1 l0_1.length c0_1] 25 (0,0)) (by (with_reducible repeat (first|refine zbN ?_ _|refine zbD ?_|refine zbA ?_ _));exact BK197.out)):gb198≠gb197));clear BK197 HB;have BK197:=n0_;have HB:=n1_;have BK198:=n2_;have GW198:=n3_;have GE198:=n4_;have NB197_198:=n5_;have NB198_197:=n6_;clear n0_ n1_ n2_ n3_ n4_ n5_ n6_;clear hb hbox hg;have hnb37:=NB197_198.out;have hnc37:=NB198_197.out;have hcz38_0:w36.cell? ⟨gb197,0,none⟩=some (.slice A0_0 l0_0.length c0_0):=(blk_cell BK197.out 0).trans rfl;have hcz38_1:w36.cell? ⟨gb197,1,none⟩=some (.slice A0_1 l0_1.length c0_1):=(blk_cell BK197.out 1).trans rfl;have hfz38_0:=blk_frozen BK197.out 0;have hfz38_1:=blk_frozen BK197.out 1)|((with_reducible refine gate_callee (f:=42) rfl ?_);refine goesL_ (some 13) rfl rfl Try.func42 (by kernel_rfl) rfl #[.agg #[.slice A0_0 l0_0.length c0_0,.slice A0_1 l0_1.length c0_1],.int .i64 a1] rfl (by (try simp only [List.map_toArray,List.map_cons,List.map_nil]);first|done|rfl|(simp only [List.length_drop,List.length_take];rfl)) ?_;(with_reducible refine (pool_asks.calls k _ _ l0_0 _ _ l0_1 a1 t199 _ ?side1 ?side2 ?side3 ?side4 A4.out).mono ?_);(case side1=>repeat (first|exact (Kd.C_below HR0_0.out HB.out)|(with_reducible refine Kd.C_alloc ?_ _)|(with_reducible refine Kd.C_drewN ?_ _)|(with_reducible refine Kd.C_drew ?_)));(case side2=>exact HC0_0.out);(case side3=>repeat (first|exact (Kd.C_below HR0_1.out HB.out)|(with_reducible refine Kd.C_alloc ?_ _)|(with_reducible refine Kd.C_drewN ?_ _)|(with_reducible refine Kd.C_drew ?_)));(case side4=>exact HC0_1.out);rintro e w39 ⟨rfl,hb⟩;refine ⟨_,rfl,?_⟩;have n0_:=zm (zbB (g:=gb197) (o:=.cells #[.slice A0_0 l0_0.length c0_0,.slice A0_1 l0_1.length c0_1] 25 (0,0)) (by (with_reducible repeat (first|refine zbN ?_ _|refine zbD ?_|refine zbA ?_ _));exact BK197.out) hb);have n1_:=zm (zbB (g:=gb198) (o:=.cells #[.slice none 0 0,.slice none 0 0] 25 (0,0)) (by (with_reducible repeat (first|refine zbN ?_ _|refine zbD ?_|refine zbA ?_ _));exact BK198.out) hb);have n2_:=zm (below_step (by repeat (first|(with_reducible first|exact HB.out|apply zlA|apply zlN|apply zlD|refine zlS ?_ GE197.out|refine zlS ?_ GE198.out)|exact HB.out)) hb);clear BK197 BK198 HB;have BK197:=n0_;have BK198:=n1_;have HB:=n2_;clear n0_ n1_ n2_;(try clear hb);(try clear hb2);(try clear hk);(try clear hi);have hcz40_0:w39.cell? ⟨gb198,0,none⟩=some (.slice none 0 0):=(blk_cell BK198.out 0).trans rfl;have hcz40_1:w39.cell? ⟨gb198,1,none⟩=some (.slice none 0 0):=(blk_cell BK198.out 1).trans rfl;have hfz40_0:=blk_frozen BK198.out 0;have hfz40_1:=blk_frozen BK198.out 1))
  refine bodyPost_ret (results_ct rfl _ _ gb198 25 #[.slice none 0 0,.slice none 0 0] (0,0) _ rfl (by (with_reducible repeat (first|refine zbN ?_ _|refine zbD ?_|refine zbA ?_ _));refine blk_put (cs:=#[.slice none 0 0,.slice none 0 0]) ?_ 1 _ rfl;(with_reducible repeat (first|refine zbN ?_ _|refine zbD ?_|refine zbA ?_ _));refine blk_put (cs:=#[.slice none 0 0,.slice none 0 0]) ?_ 0 _ rfl;(with_reducible repeat (first|refine zbN ?_ _|refine zbD ?_|refine zbA ?_ _));exact BK198.out) Try.underlying25 rfl (by kernel_rfl)) rfl ?_
  exact ⟨_,_,by first|rfl|(simp [errW_none,errW_some] <;> rfl)|(simp [*,errW_none,errW_some] <;> rfl),by first|exact Kd.R_nil _ _ _ _ _|exact Kd.N_nil _ _ _ _ _|exact Kd.V_nil _ _ _ _ _|exact Kd.Q_nil _ _ _ _ _|exact Kd.S_nil _ _ _ _ _,by first|exact Kd.R_nil _ _ _ _ _|exact Kd.N_nil _ _ _ _ _|exact Kd.V_nil _ _ _ _ _|exact Kd.Q_nil _ _ _ _ _|exact Kd.S_nil _ _ _ _ _,by repeat (first|(with_reducible first|exact HB.out|apply zlA|apply zlN|apply zlD|refine zlS ?_ GE197.out|refine zlS ?_ GE198.out)|exact HB.out)⟩
end Go.Proofs.Ytlegmnpngcadhaa.Print
end
section
namespace Go.Proofs.Ytlegmnpngcadhaa.Print
open Go.RowKit Go.Proofs.YtlegmnpngcadhaaW.PrintWords Go.Proofs.YtlegmnpngcadhaaW.PrintLast Go.Proofs.YtlegmnpngcadhaaW.PrintMore
attribute [local go_sem] max2_int min2_int max_two min_two max_three min_three max_four min_four   -- for this text's walks alone
attribute [local go_sem ↓] Go.Proofs.Ytlegmnpngcadhaa.Sem.isSome_setCell
attribute [local go_sem] Go.Instr.field Go.asAgg
set_option linter.unusedVariables false
set_option linter.unusedSimpArgs false
def slipwaylaw04_begun.f (k:Nat) :Option (Bool):=(pool_New.f k 16 (([0]:List Int))).bind fun bt212=>((pool_Choose.f k bt212.1 bt212.2.1).bind fun bt220=>((pool_Take.f k bt212.1 bt212.2.1 1 2).bind fun bt222=>((pool_Choose.f k bt222.1 bt222.2.1).bind fun bt230=>((pool_Capacity.f k 16 4 1 2 2).bind fun bt232=>(if bt212.2.2=0 then (if bt220.1=1 then (if bt220.2=true then (if bt222.2.2=0 then (if bt230.1=2 then (if bt230.2=true then (if bt232.1=6 then (some (bt232.2 == 0)) else (none)) else (none)) else (none)) else (none)) else (none)) else (none)) else (none))))))
theorem slipwaylaw04_begun.mono:∀ k,LeO (slipwaylaw04_begun.f k ) (slipwaylaw04_begun.f (k + 1) ):=by
 intro  k
 unfold slipwaylaw04_begun.f
 repeat' first
   | (with_reducible exact pool_Capacity.mono _ _ _ _ _ _)
   | (with_reducible exact pool_Choose.mono _ _ _)
   | (with_reducible exact pool_New.mono _ _ _)
   | (with_reducible exact pool_Take.mono _ _ _ _ _)
   | (with_reducible exact LeO.refl _)
   | (with_reducible exact LeO.none _)
   | (with_reducible refine LeO.ite ?_ ?_)
   | (with_reducible refine LeO.bind ?_ (fun _=>?_))
   | exact pool_Capacity.mono _ _ _ _ _ _
   | exact pool_Choose.mono _ _ _
   | exact pool_New.mono _ _ _
   | exact pool_Take.mono _ _ _ _ _
   | exact LeO.none _
   | refine LeO.ite ?_ ?_
   | refine LeO.bind ?_ (fun _=>?_)
set_option maxHeartbeats 8000000 in
set_option maxRecDepth 100000 in
theorem slipwaylaw04_begun.calls (k:Nat)  (r:Bool) (w:World) (h:slipwaylaw04_begun.f k =some r) :
  Calls Try.prog 12 #[] w fun e w'=>e=.returned (.bool r)∧Below w.heap.size w w':=by
 have hu25:=Try.underlying25
 have hu27:=Try.underlying27
 have HB:=zm (Below.refl w.heap.size w)
 have H:((pool_New.f k 16 (([0]:List Int))).bind fun bt212=>((pool_Choose.f k bt212.1 bt212.2.1).bind fun bt220=>((pool_Take.f k bt212.1 bt212.2.1 1 2).bind fun bt222=>((pool_Choose.f k bt222.1 bt222.2.1).bind fun bt230=>((pool_Capacity.f k 16 4 1 2 2).bind fun bt232=>(if bt212.2.2=0 then (if bt220.1=1 then (if bt220.2=true then (if bt222.2.2=0 then (if bt230.1=2 then (if bt230.2=true then (if bt232.1=6 then (some (bt232.2 == 0)) else (none)) else (none)) else (none)) else (none)) else (none)) else (none)) else (none)))))))=some r:=h
 clear h
 obtain ⟨y209,hy209⟩:∃ y_:List Int,y_=(([0]:List Int)):=⟨_,rfl⟩
 replace H:((pool_New.f k 16 y209).bind fun bt212=>((pool_Choose.f k bt212.1 bt212.2.1).bind fun bt220=>((pool_Take.f k bt212.1 bt212.2.1 1 2).bind fun bt222=>((pool_Choose.f k bt222.1 bt222.2.1).bind fun bt230=>((pool_Capacity.f k 16 4 1 2 2).bind fun bt232=>(if bt212.2.2=0 then (if bt220.1=1 then (if bt220.2=true then (if bt222.2.2=0 then (if bt230.1=2 then (if bt230.2=true then (if bt232.1=6 then (some (bt232.2 == 0)) else (none)) else (none)) else (none)) else (none)) else (none)) else (none)) else (none)))))))=some r:=by first|(rw [hy209];with_reducible exact H)|(have H2_:=(Option.bind_some _ _).symm.trans H;rw [hy209];with_reducible exact H2_)|(have H2_:=(Option.bind_some _ _).symm.trans H;with_reducible exact H2_)|with_reducible exact H|(rw [hy209];exact H)|exact H
 have Ny209:=zm hy209
 clear hy209
 replace H:=Option.bind_eq_some_iff.mp H
 obtain ⟨⟨t212,t215,t218⟩,A10,H⟩:=H
 replace H:((pool_Choose.f k t212 t215).bind fun bt220=>((pool_Take.f k t212 t215 1 2).bind fun bt222=>((pool_Choose.f k bt222.1 bt222.2.1).bind fun bt230=>((pool_Capacity.f k 16 4 1 2 2).bind fun bt232=>(if t218=0 then (if bt220.1=1 then (if bt220.2=true then (if bt222.2.2=0 then (if bt230.1=2 then (if bt230.2=true then (if bt232.1=6 then (some (bt232.2 == 0)) else (none)) else (none)) else (none)) else (none)) else (none)) else (none)) else (none))))))=some r:=H
 have A1:=zm A10
 clear A10
 replace H:=Option.bind_eq_some_iff.mp H
 obtain ⟨⟨t220,t221⟩,A20,H⟩:=H
 replace H:((pool_Take.f k t212 t215 1 2).bind fun bt222=>((pool_Choose.f k bt222.1 bt222.2.1).bind fun bt230=>((pool_Capacity.f k 16 4 1 2 2).bind fun bt232=>(if t218=0 then (if t220=1 then (if t221=true then (if bt222.2.2=0 then (if bt230.1=2 then (if bt230.2=true then (if bt232.1=6 then (some (bt232.2 == 0)) else (none)) else (none)) else (none)) else (none)) else (none)) else (none)) else (none)))))=some r:=H
 have A2:=zm A20
 clear A20
 replace H:=Option.bind_eq_some_iff.mp H
 obtain ⟨⟨t222,t225,t228⟩,A30,H⟩:=H
 replace H:((pool_Choose.f k t222 t225).bind fun bt230=>((pool_Capacity.f k 16 4 1 2 2).bind fun bt232=>(if t218=0 then (if t220=1 then (if t221=true then (if t228=0 then (if bt230.1=2 then (if bt230.2=true then (if bt232.1=6 then (some (bt232.2 == 0)) else (none)) else (none)) else (none)) else (none)) else (none)) else (none)) else (none))))=some r:=H
 have A3:=zm A30
 clear A30
 replace H:=Option.bind_eq_some_iff.mp H
 obtain ⟨⟨t230,t231⟩,A40,H⟩:=H
 replace H:((pool_Capacity.f k 16 4 1 2 2).bind fun bt232=>(if t218=0 then (if t220=1 then (if t221=true then (if t228=0 then (if t230=2 then (if t231=true then (if bt232.1=6 then (some (bt232.2 == 0)) else (none)) else (none)) else (none)) else (none)) else (none)) else (none)) else (none)))=some r:=H
 have A4:=zm A40
 clear A40
 replace H:=Option.bind_eq_some_iff.mp H
 obtain ⟨⟨t232,t233⟩,A50,H⟩:=H
 replace H:(if t218=0 then (if t220=1 then (if t221=true then (if t228=0 then (if t230=2 then (if t231=true then (if t232=6 then (some (t233 == 0)) else (none)) else (none)) else (none)) else (none)) else (none)) else (none)) else (none))=some r:=H
 have A5:=zm A50
 clear A50
 by_cases c6:t218=0
 ·rw [if_pos c6] at H
  have c6b0:(t218 == 0)=true:=beq_iff_eq.mpr c6
  have c6b1:(t218 != 0)=false:=bne_eq_false_iff_eq.mpr c6
  clear c6
  by_cases c7:t220=1
  ·rw [if_pos c7] at H
   have c7b0:(t220 == 1)=true:=beq_iff_eq.mpr c7
   have c7b1:(t220 != 1)=false:=bne_eq_false_iff_eq.mpr c7
   clear c7
   by_cases c8:t221=true
   ·subst c8
    have H1:(if t228=0 then (if t230=2 then (if t231=true then (if t232=6 then (some (t233 == 0)) else (none)) else (none)) else (none)) else (none))=some r:=by rw [if_pos rfl] at H;exact H
    clear H
    have H:=H1
    clear H1
    by_cases c9:t228=0
    ·rw [if_pos c9] at H
     have c9b0:(t228 == 0)=true:=beq_iff_eq.mpr c9
     have c9b1:(t228 != 0)=false:=bne_eq_false_iff_eq.mpr c9
     clear c9
     by_cases c10:t230=2
     ·rw [if_pos c10] at H
      have c10b0:(t230 == 2)=true:=beq_iff_eq.mpr c10
      have c10b1:(t230 != 2)=false:=bne_eq_false_iff_eq.mpr c10
      clear c10
      by_cases c11:t231=true
      ·subst c11
       have H1:(if t232=6 then (some (t233 == 0)) else (none))=some r:=by rw [if_pos rfl] at H;exact H
       clear H
       have H:=H1
       clear H1
       by_cases c12:t232=6
       ·rw [if_pos c12] at H
        have c12b0:(t232 == 6)=true:=beq_iff_eq.mpr c12
        have c12b1:(t232 != 6)=false:=bne_eq_false_iff_eq.mpr c12
        clear c12
        obtain rfl:=Option.some.inj H
        go_enter Try.func12,Try.ntmps12
        go_wp2_with (first|((with_reducible refine gate_dst (N:=12) rfl ?_);refine Kd.R_lit (Kd.int .i64) _ 3 ?hg (N:=12) ?hd (xs:=([0]:List Int)) (inner:=[.int .i64 0]) (ok:=fun _=>True) (okp:=fun _=>True) ?hr ?hp (fun _ hk=>hk) trivial (Below.refl _ _) (Nat.le_refl _) (by simp) ?_;(case hd=>rfl);(case hg=>rfl);(case hr=>first|(go_simp;done)|(go_simp;rfl));(case hp=>exact (Reps.one (show Kd.M (Kd.int .i64) _ _ _ 0 [.int .i64 0] from rfl) (Reps.none _ _)));intro v210 w13 ho14 hb hg_ hnew_;clear hg_ hnew_;(first|rw [← Ny209.out] at ho14|(simp only [Int.reduceToNat] at ho14;rw [← Ny209.out] at ho14));have n0_:=zm (Kd.R_lower ho14 (below_size (by repeat (first|(with_reducible first|exact HB.out|apply zlA|apply zlN|apply zlD)|exact HB.out))));have n1_:=zm (below_step (by repeat (first|(with_reducible first|exact HB.out|apply zlA|apply zlN|apply zlD)|exact HB.out)) hb);clear HB;have HO211:=n0_;have HB:=n1_;clear n0_ n1_;clear hb ho14;obtain ⟨Ao15,co15,eo15⟩:=Kd.R_slice HO211.out;subst eo15)|((with_reducible refine gate_callee (f:=8) rfl ?_);refine goesL_ (some 13) rfl rfl Try.func8 (by kernel_rfl) rfl #[.int .i64 16,.slice Ao15 y209.length co15] rfl (by (try simp only [List.map_toArray,List.map_cons,List.map_nil]);first|done|rfl|(simp only [List.length_drop,List.length_take];rfl)) ?_;(with_reducible refine (pool_New.calls k 16 _ _ y209 t212 t215 t218 _ ?side1 ?side2 A1.out).mono ?_);(case side1=>repeat (first|exact (Kd.R_reads' HO211.out).2.2|(with_reducible refine Kd.C_alloc ?_ _)|(with_reducible refine Kd.C_drewN ?_ _)|(with_reducible refine Kd.C_drew ?_)));(case side2=>exact (Kd.R_reads' HO211.out).2.1);rintro e w16 ⟨v213,v216,rfl,ho0,ho1,hb⟩;refine ⟨_,rfl,?_⟩;have n0_:=zm (Kd.R_elder' (by (with_reducible repeat (first|apply zrA|apply zrN|apply zrD));exact HO211.out) (Kd.R_base ho0) hb);have n1_:=zm (Kd.R_lower (Kd.R_new' ho0 (Kd.R_lt (by (with_reducible repeat (first|apply zrA|apply zrN|apply zrD));exact HO211.out))) (below_size (by repeat (first|(with_reducible first|exact HB.out|apply zlA|apply zlN|apply zlD)|exact HB.out))));have n2_:=zm (Kd.R_lower ho1 (below_size (by repeat (first|(with_reducible first|exact HB.out|apply zlA|apply zlN|apply zlD)|exact HB.out))));have n3_:=zm (below_step (by repeat (first|(with_reducible first|exact HB.out|apply zlA|apply zlN|apply zlD)|exact HB.out)) hb);clear HO211 HB;have HO211:=n0_;have HO214:=n1_;have HO217:=n2_;have HB:=n3_;clear n0_ n1_ n2_ n3_;(try clear hb);(try clear hb2);(try clear hk);(try clear hi);(try clear ho0);(try clear ho1))|((with_reducible refine gate_dst (N:=1) rfl ?_);refine box_event ?hg (N:=1) ?hd (cs:=#[.slice none 0 0,.slice none 0 0]) (t:=25) ?hr ?_;(case hd=>rfl);(case hg=>rfl);(case hr=>first|(go_simp;done)|(go_simp;rfl));intro gb219 hg w17 hbox hb;have n0_:=zm (Kd.R_below (by (with_reducible repeat (first|apply zrA|apply zrN|apply zrD));exact HO211.out) hb);have n1_:=zm (Kd.R_below (by (with_reducible repeat (first|apply zrA|apply zrN|apply zrD));exact HO214.out) hb);have n2_:=zm (Kd.R_below (by (with_reducible repeat (first|apply zrA|apply zrN|apply zrD));exact HO217.out) hb);have n3_:=zm (below_step (by repeat (first|(with_reducible first|exact HB.out|apply zlA|apply zlN|apply zlD)|exact HB.out)) hb);have n4_:=zm (hbox);have n5_:=zm ((by rw [hg];exact (below_size (by repeat (first|(with_reducible first|exact HB.out|apply zlA|apply zlN|apply zlD)|exact HB.out))):w.heap.size≤gb219));have n6_:=zm ((by rw [hg];exact (below_size (by repeat (first|(with_reducible first|exact HB.out|apply zlA|apply zlN|apply zlD)|exact HB.out))):w.heap.size≤gb219));clear HO211 HO214 HO217 HB;have HO211:=n0_;have HO214:=n1_;have HO217:=n2_;have HB:=n3_;have BK219:=n4_;have GW219:=n5_;have GE219:=n6_;clear n0_ n1_ n2_ n3_ n4_ n5_ n6_;clear hb hbox hg;obtain ⟨Ao18,co18,eo18⟩:=Kd.R_slice HO214.out;subst eo18;have hcz19_0:w17.cell? ⟨gb219,0,none⟩=some (.slice none 0 0):=(blk_cell BK219.out 0).trans rfl;have hcz19_1:w17.cell? ⟨gb219,1,none⟩=some (.slice none 0 0):=(blk_cell BK219.out 1).trans rfl;have hfz19_0:=blk_frozen BK219.out 0;have hfz19_1:=blk_frozen BK219.out 1;obtain ⟨Ao20,co20,eo20⟩:=Kd.R_slice HO217.out;subst eo20)|((with_reducible refine gate_callee (f:=18) rfl ?_);refine goesL_ (some 18) rfl rfl Try.func18 (by kernel_rfl) rfl #[.agg #[.slice Ao18 t212.length co18,.slice Ao20 t215.length co20]] rfl (by (try simp only [List.map_toArray,List.map_cons,List.map_nil]);first|done|rfl|(simp only [List.length_drop,List.length_take];rfl)) ?_;(with_reducible refine (pool_Choose.calls k _ _ t212 _ _ t215 t220 true _ ?side1 ?side2 ?side3 ?side4 A2.out).mono ?_);(case side1=>refine (Kd.R_reads' (e:=3) (base:=w.heap.size) (ok:=fun k_=>(True∧some k_≠(.slice Ao15 y209.length co15:Value).ownBlock)) (n:=t212.length) (c:=co18) ?_).2.2;exact (by (with_reducible repeat (first|apply zrA|apply zrN|apply zrD));exact (Kd.R_mono (Kd.R_far (p:=⟨gb219,1,none⟩) (Kd.R_far (p:=⟨gb219,0,none⟩) (Kd.R_types HO214.out BK219.out (by decide)) (fun _ hk=>hk.2) (.slice Ao18 t212.length co18)) (fun _ hk=>hk.2) (.slice Ao20 t215.length co20)) (fun _ h_=>h_.1))));(case side2=>exact (Kd.R_reads' HO214.out).2.1);(case side3=>refine (Kd.R_reads' (e:=2) (base:=w.heap.size) (ok:=fun k_=>True) (n:=t215.length) (c:=co20) ?_).2.2;exact (by (with_reducible repeat (first|apply zrA|apply zrN|apply zrD));exact (Kd.R_mono (Kd.R_far (p:=⟨gb219,1,none⟩) (Kd.R_far (p:=⟨gb219,0,none⟩) (Kd.R_types HO217.out BK219.out (by decide)) (fun _ hk=>hk.2) (.slice Ao18 t212.length co18)) (fun _ hk=>hk.2) (.slice Ao20 t215.length co20)) (fun _ h_=>h_.1))));(case side4=>exact (Kd.R_reads' HO217.out).2.1);rintro e w21 ⟨rfl,hb⟩;refine ⟨_,rfl,?_⟩;have n0_:=zm (Kd.R_below (by (with_reducible repeat (first|apply zrA|apply zrN|apply zrD));exact (Kd.R_mono (Kd.R_far (p:=⟨gb219,1,none⟩) (Kd.R_far (p:=⟨gb219,0,none⟩) (Kd.R_types HO211.out BK219.out (by decide)) (fun _ hk=>hk.2) (.slice Ao18 t212.length co18)) (fun _ hk=>hk.2) (.slice Ao20 t215.length co20)) (fun _ h_=>h_.1))) hb);have n1_:=zm (Kd.R_below (by (with_reducible repeat (first|apply zrA|apply zrN|apply zrD));exact (Kd.R_mono (Kd.R_far (p:=⟨gb219,1,none⟩) (Kd.R_far (p:=⟨gb219,0,none⟩) (Kd.R_types HO214.out BK219.out (by decide)) (fun _ hk=>hk.2) (.slice Ao18 t212.length co18)) (fun _ hk=>hk.2) (.slice Ao20 t215.length co20)) (fun _ h_=>h_.1))) hb);have n2_:=zm (Kd.R_below (by (with_reducible repeat (first|apply zrA|apply zrN|apply zrD));exact (Kd.R_mono (Kd.R_far (p:=⟨gb219,1,none⟩) (Kd.R_far (p:=⟨gb219,0,none⟩) (Kd.R_types HO217.out BK219.out (by decide)) (fun _ hk=>hk.2) (.slice Ao18 t212.length co18)) (fun _ hk=>hk.2) (.slice Ao20 t215.length co20)) (fun _ h_=>h_.1))) hb);have n3_:=zm (zbB (g:=gb219) (o:=.cells #[.slice Ao18 t212.length co18,.slice Ao20 t215.length co20] 25 (0,0)) (by (with_reducible repeat (first|refine zbN ?_ _|refine zbD ?_|refine zbA ?_ _));refine blk_put (cs:=#[.slice Ao18 t212.length co18,.slice none 0 0]) ?_ 1 _ rfl;(with_reducible repeat (first|refine zbN ?_ _|refine zbD ?_|refine zbA ?_ _));refine blk_put (cs:=#[.slice none 0 0,.slice none 0 0]) ?_ 0 _ rfl;(with_reducible repeat (first|refine zbN ?_ _|refine zbD ?_|refine zbA ?_ _));exact BK219.out) hb);have n4_:=zm (below_step (by repeat (first|(with_reducible first|exact HB.out|apply zlA|apply zlN|apply zlD|refine zlS ?_ GE219.out)|exact HB.out)) hb);clear HO211 HO214 HO217 BK219 HB;have HO211:=n0_;have HO214:=n1_;have HO217:=n2_;have BK219:=n3_;have HB:=n4_;clear n0_ n1_ n2_ n3_ n4_;(try clear hb);(try clear hb2);(try clear hk);(try clear hi);have hcz22_0:w21.cell? ⟨gb219,0,none⟩=some (.slice Ao18 t212.length co18):=(blk_cell BK219.out 0).trans rfl;have hcz22_1:w21.cell? ⟨gb219,1,none⟩=some (.slice Ao20 t215.length co20):=(blk_cell BK219.out 1).trans rfl;have hfz22_0:=blk_frozen BK219.out 0;have hfz22_1:=blk_frozen BK219.out 1)|((with_reducible refine gate_callee (f:=19) rfl ?_);refine goesL_ (some 23) rfl rfl Try.func19 (by kernel_rfl) rfl #[.agg #[.slice Ao18 t212.length co18,.slice Ao20 t215.length co20],.int .i64 1,.int .i64 2] rfl (by (try simp only [List.map_toArray,List.map_cons,List.map_nil]);first|done|rfl|(simp only [List.length_drop,List.length_take];rfl)) ?_;(with_reducible refine (pool_Take.calls k _ _ t212 _ _ t215 1 2 t222 t225 t228 _ ?side1 ?side2 ?side3 ?side4 A3.out).mono ?_);(case side1=>repeat (first|exact (Kd.R_reads' HO214.out).2.2|(with_reducible refine Kd.C_alloc ?_ _)|(with_reducible refine Kd.C_drewN ?_ _)|(with_reducible refine Kd.C_drew ?_)));(case side2=>exact (Kd.R_reads' HO214.out).2.1);(case side3=>repeat (first|exact (Kd.R_reads' HO217.out).2.2|(with_reducible refine Kd.C_alloc ?_ _)|(with_reducible refine Kd.C_drewN ?_ _)|(with_reducible refine Kd.C_drew ?_)));(case side4=>exact (Kd.R_reads' HO217.out).2.1);rintro e w23 ⟨v223,v226,rfl,ho0,ho1,hb⟩;refine ⟨_,rfl,?_⟩;have n0_:=zm (Kd.R_elder' (by (with_reducible repeat (first|apply zrA|apply zrN|apply zrD));exact HO211.out) (Kd.R_base ho0) hb);have n1_:=zm (Kd.R_elder' (by (with_reducible repeat (first|apply zrA|apply zrN|apply zrD));exact HO214.out) (Kd.R_base ho0) hb);have n2_:=zm (Kd.R_elder' (by (with_reducible repeat (first|apply zrA|apply zrN|apply zrD));exact HO217.out) (Kd.R_base ho1) hb);have n3_:=zm (Kd.R_lower (Kd.R_new' (Kd.R_new' ho0 (Kd.R_lt (by (with_reducible repeat (first|apply zrA|apply zrN|apply zrD));exact HO211.out))) (Kd.R_lt (by (with_reducible repeat (first|apply zrA|apply zrN|apply zrD));exact HO214.out))) (below_size (by repeat (first|(with_reducible first|exact HB.out|apply zlA|apply zlN|apply zlD|refine zlS ?_ GE219.out)|exact HB.out))));have n4_:=zm (Kd.R_lower (Kd.R_new' ho1 (Kd.R_lt (by (with_reducible repeat (first|apply zrA|apply zrN|apply zrD));exact HO217.out))) (below_size (by repeat (first|(with_reducible first|exact HB.out|apply zlA|apply zlN|apply zlD|refine zlS ?_ GE219.out)|exact HB.out))));have n5_:=zm (zbB (g:=gb219) (o:=.cells #[.slice Ao18 t212.length co18,.slice Ao20 t215.length co20] 25 (0,0)) (by (with_reducible repeat (first|refine zbN ?_ _|refine zbD ?_|refine zbA ?_ _));exact BK219.out) hb);have n6_:=zm (below_step (by repeat (first|(with_reducible first|exact HB.out|apply zlA|apply zlN|apply zlD|refine zlS ?_ GE219.out)|exact HB.out)) hb);clear HO211 HO214 HO217 BK219 HB;have HO211:=n0_;have HO214:=n1_;have HO217:=n2_;have HO224:=n3_;have HO227:=n4_;have BK219:=n5_;have HB:=n6_;clear n0_ n1_ n2_ n3_ n4_ n5_ n6_;(try clear hb);(try clear hb2);(try clear hk);(try clear hi);(try clear ho0);(try clear ho1))|((with_reducible refine gate_dst (N:=5) rfl ?_);refine box_event ?hg (N:=5) ?hd (cs:=#[.slice none 0 0,.slice none 0 0]) (t:=25) ?hr ?_;(case hd=>rfl);(case hg=>rfl);(case hr=>first|(go_simp;done)|(go_simp;rfl));intro gb229 hg w24 hbox hb;have n0_:=zm (Kd.R_below (by (with_reducible repeat (first|apply zrA|apply zrN|apply zrD));exact HO211.out) hb);have n1_:=zm (Kd.R_below (by (with_reducible repeat (first|apply zrA|apply zrN|apply zrD));exact HO214.out) hb);have n2_:=zm (Kd.R_below (by (with_reducible repeat (first|apply zrA|apply zrN|apply zrD));exact HO217.out) hb);have n3_:=zm (Kd.R_below (by (with_reducible repeat (first|apply zrA|apply zrN|apply zrD));exact HO224.out) hb);have n4_:=zm (Kd.R_below (by (with_reducible repeat (first|apply zrA|apply zrN|apply zrD));exact HO227.out) hb);have n5_:=zm (zbB (g:=gb219) (o:=.cells #[.slice Ao18 t212.length co18,.slice Ao20 t215.length co20] 25 (0,0)) (by (with_reducible repeat (first|refine zbN ?_ _|refine zbD ?_|refine zbA ?_ _));exact BK219.out) hb);have n6_:=zm (below_step (by repeat (first|(with_reducible first|exact HB.out|apply zlA|apply zlN|apply zlD|refine zlS ?_ GE219.out)|exact HB.out)) hb);have n7_:=zm (hbox);have n8_:=zm ((by rw [hg];exact (below_size (by repeat (first|(with_reducible first|exact HB.out|apply zlA|apply zlN|apply zlD|refine zlS ?_ GE219.out)|exact HB.out))):w.heap.size≤gb229));have n9_:=zm ((by rw [hg];exact (below_size (by repeat (first|(with_reducible first|exact HB.out|apply zlA|apply zlN|apply zlD|refine zlS ?_ GE219.out)|exact HB.out))):w.heap.size≤gb229));have n10_:=zm ((by rw [hg];exact Nat.ne_of_lt (blk_lt (g:=gb219) (o:=.cells #[.slice Ao18 t212.length co18,.slice Ao20 t215.length co20] 25 (0,0)) (by (with_reducible repeat (first|refine zbN ?_ _|refine zbD ?_|refine zbA ?_ _));exact BK219.out)):gb219≠gb229));have n11_:=zm ((by rw [hg];exact Nat.ne_of_gt (blk_lt (g:=gb219) (o:=.cells #[.slice Ao18 t212.length co18,.slice Ao20 t215.length co20] 25 (0,0)) (by (with_reducible repeat (first|refine zbN ?_ _|refine zbD ?_|refine zbA ?_ _));exact BK219.out)):gb229≠gb219));clear HO211 HO214 HO217 HO224 HO227 BK219 HB;have HO211:=n0_;have HO214:=n1_;have HO217:=n2_;have HO224:=n3_;have HO227:=n4_;have BK219:=n5_;have HB:=n6_;have BK229:=n7_;have GW229:=n8_;have GE229:=n9_;have NB219_229:=n10_;have NB229_219:=n11_;clear n0_ n1_ n2_ n3_ n4_ n5_ n6_ n7_ n8_ n9_ n10_ n11_;clear hb hbox hg;obtain ⟨Ao25,co25,eo25⟩:=Kd.R_slice HO224.out;subst eo25;have hnb26:=NB229_219.out;have hnc26:=NB219_229.out;have hcz27_0:w24.cell? ⟨gb229,0,none⟩=some (.slice none 0 0):=(blk_cell BK229.out 0).trans rfl;have hcz27_1:w24.cell? ⟨gb229,1,none⟩=some (.slice none 0 0):=(blk_cell BK229.out 1).trans rfl;have hfz27_0:=blk_frozen BK229.out 0;have hfz27_1:=blk_frozen BK229.out 1;obtain ⟨Ao28,co28,eo28⟩:=Kd.R_slice HO227.out;subst eo28)|((with_reducible refine gate_callee (f:=18) rfl ?_);refine goesL_ (some 28) rfl rfl Try.func18 (by kernel_rfl) rfl #[.agg #[.slice Ao25 t222.length co25,.slice Ao28 t225.length co28]] rfl (by (try simp only [List.map_toArray,List.map_cons,List.map_nil]);first|done|rfl|(simp only [List.length_drop,List.length_take];rfl)) ?_;(with_reducible refine (pool_Choose.calls k _ _ t222 _ _ t225 t230 true _ ?side1 ?side2 ?side3 ?side4 A4.out).mono ?_);(case side1=>refine (Kd.R_reads' (e:=3) (base:=w.heap.size) (ok:=fun k_=>((True∧some k_≠(.slice Ao15 y209.length co15:Value).ownBlock)∧some k_≠(.slice Ao18 t212.length co18:Value).ownBlock)) (n:=t222.length) (c:=co25) ?_).2.2;exact (by (with_reducible repeat (first|apply zrA|apply zrN|apply zrD));exact (Kd.R_mono (Kd.R_far (p:=⟨gb229,1,none⟩) (Kd.R_far (p:=⟨gb229,0,none⟩) (Kd.R_types HO224.out BK229.out (by decide)) (fun _ hk=>hk.2) (.slice Ao25 t222.length co25)) (fun _ hk=>hk.2) (.slice Ao28 t225.length co28)) (fun _ h_=>h_.1))));(case side2=>exact (Kd.R_reads' HO224.out).2.1);(case side3=>refine (Kd.R_reads' (e:=2) (base:=w.heap.size) (ok:=fun k_=>(True∧some k_≠(.slice Ao20 t215.length co20:Value).ownBlock)) (n:=t225.length) (c:=co28) ?_).2.2;exact (by (with_reducible repeat (first|apply zrA|apply zrN|apply zrD));exact (Kd.R_mono (Kd.R_far (p:=⟨gb229,1,none⟩) (Kd.R_far (p:=⟨gb229,0,none⟩) (Kd.R_types HO227.out BK229.out (by decide)) (fun _ hk=>hk.2) (.slice Ao25 t222.length co25)) (fun _ hk=>hk.2) (.slice Ao28 t225.length co28)) (fun _ h_=>h_.1))));(case side4=>exact (Kd.R_reads' HO227.out).2.1);rintro e w29 ⟨rfl,hb⟩;refine ⟨_,rfl,?_⟩;have n0_:=zm (Kd.R_below (by (with_reducible repeat (first|apply zrA|apply zrN|apply zrD));exact (Kd.R_mono (Kd.R_far (p:=⟨gb229,1,none⟩) (Kd.R_far (p:=⟨gb229,0,none⟩) (Kd.R_types HO211.out BK229.out (by decide)) (fun _ hk=>hk.2) (.slice Ao25 t222.length co25)) (fun _ hk=>hk.2) (.slice Ao28 t225.length co28)) (fun _ h_=>h_.1))) hb);have n1_:=zm (Kd.R_below (by (with_reducible repeat (first|apply zrA|apply zrN|apply zrD));exact (Kd.R_mono (Kd.R_far (p:=⟨gb229,1,none⟩) (Kd.R_far (p:=⟨gb229,0,none⟩) (Kd.R_types HO214.out BK229.out (by decide)) (fun _ hk=>hk.2) (.slice Ao25 t222.length co25)) (fun _ hk=>hk.2) (.slice Ao28 t225.length co28)) (fun _ h_=>h_.1))) hb);have n2_:=zm (Kd.R_below (by (with_reducible repeat (first|apply zrA|apply zrN|apply zrD));exact (Kd.R_mono (Kd.R_far (p:=⟨gb229,1,none⟩) (Kd.R_far (p:=⟨gb229,0,none⟩) (Kd.R_types HO217.out BK229.out (by decide)) (fun _ hk=>hk.2) (.slice Ao25 t222.length co25)) (fun _ hk=>hk.2) (.slice Ao28 t225.length co28)) (fun _ h_=>h_.1))) hb);have n3_:=zm (Kd.R_below (by (with_reducible repeat (first|apply zrA|apply zrN|apply zrD));exact (Kd.R_mono (Kd.R_far (p:=⟨gb229,1,none⟩) (Kd.R_far (p:=⟨gb229,0,none⟩) (Kd.R_types HO224.out BK229.out (by decide)) (fun _ hk=>hk.2) (.slice Ao25 t222.length co25)) (fun _ hk=>hk.2) (.slice Ao28 t225.length co28)) (fun _ h_=>h_.1))) hb);have n4_:=zm (Kd.R_below (by (with_reducible repeat (first|apply zrA|apply zrN|apply zrD));exact (Kd.R_mono (Kd.R_far (p:=⟨gb229,1,none⟩) (Kd.R_far (p:=⟨gb229,0,none⟩) (Kd.R_types HO227.out BK229.out (by decide)) (fun _ hk=>hk.2) (.slice Ao25 t222.length co25)) (fun _ hk=>hk.2) (.slice Ao28 t225.length co28)) (fun _ h_=>h_.1))) hb);have n5_:=zm (zbB (g:=gb219) (o:=.cells #[.slice Ao18 t212.length co18,.slice Ao20 t215.length co20] 25 (0,0)) (by (with_reducible repeat (first|refine zbN ?_ _|refine zbD ?_|refine zbA ?_ _));refine blk_far ?_ NB219_229.out _;(with_reducible repeat (first|refine zbN ?_ _|refine zbD ?_|refine zbA ?_ _));refine blk_far ?_ NB219_229.out _;(with_reducible repeat (first|refine zbN ?_ _|refine zbD ?_|refine zbA ?_ _));exact BK219.out) hb);have n6_:=zm (zbB (g:=gb229) (o:=.cells #[.slice Ao25 t222.length co25,.slice Ao28 t225.length co28] 25 (0,0)) (by (with_reducible repeat (first|refine zbN ?_ _|refine zbD ?_|refine zbA ?_ _));refine blk_put (cs:=#[.slice Ao25 t222.length co25,.slice none 0 0]) ?_ 1 _ rfl;(with_reducible repeat (first|refine zbN ?_ _|refine zbD ?_|refine zbA ?_ _));refine blk_put (cs:=#[.slice none 0 0,.slice none 0 0]) ?_ 0 _ rfl;(with_reducible repeat (first|refine zbN ?_ _|refine zbD ?_|refine zbA ?_ _));exact BK229.out) hb);have n7_:=zm (below_step (by repeat (first|(with_reducible first|exact HB.out|apply zlA|apply zlN|apply zlD|refine zlS ?_ GE219.out|refine zlS ?_ GE229.out)|exact HB.out)) hb);clear HO211 HO214 HO217 HO224 HO227 BK219 BK229 HB;have HO211:=n0_;have HO214:=n1_;have HO217:=n2_;have HO224:=n3_;have HO227:=n4_;have BK219:=n5_;have BK229:=n6_;have HB:=n7_;clear n0_ n1_ n2_ n3_ n4_ n5_ n6_ n7_;(try clear hb);(try clear hb2);(try clear hk);(try clear hi))|((with_reducible refine gate_callee (f:=10) rfl ?_);refine goesL_ (some 33) rfl rfl Try.func10 (by kernel_rfl) rfl #[.agg #[.int .i64 16,.int .i64 4],.int .i64 1,.int .i64 2,.int .i64 2] rfl (by (try simp only [List.map_toArray,List.map_cons,List.map_nil]);first|done|rfl|(simp only [List.length_drop,List.length_take];rfl)) ?_;(with_reducible refine (pool_Capacity.calls k 16 4 1 2 2 t232 t233 _ A5.out).mono ?_);rintro e w30 ⟨rfl,hb⟩;refine ⟨_,rfl,?_⟩;have n0_:=zm (Kd.R_below (by (with_reducible repeat (first|apply zrA|apply zrN|apply zrD));exact HO211.out) hb);have n1_:=zm (Kd.R_below (by (with_reducible repeat (first|apply zrA|apply zrN|apply zrD));exact HO214.out) hb);have n2_:=zm (Kd.R_below (by (with_reducible repeat (first|apply zrA|apply zrN|apply zrD));exact HO217.out) hb);have n3_:=zm (Kd.R_below (by (with_reducible repeat (first|apply zrA|apply zrN|apply zrD));exact HO224.out) hb);have n4_:=zm (Kd.R_below (by (with_reducible repeat (first|apply zrA|apply zrN|apply zrD));exact HO227.out) hb);have n5_:=zm (zbB (g:=gb219) (o:=.cells #[.slice Ao18 t212.length co18,.slice Ao20 t215.length co20] 25 (0,0)) (by (with_reducible repeat (first|refine zbN ?_ _|refine zbD ?_|refine zbA ?_ _));exact BK219.out) hb);have n6_:=zm (zbB (g:=gb229) (o:=.cells #[.slice Ao25 t222.length co25,.slice Ao28 t225.length co28] 25 (0,0)) (by (with_reducible repeat (first|refine zbN ?_ _|refine zbD ?_|refine zbA ?_ _));exact BK229.out) hb);have n7_:=zm (below_step (by repeat (first|(with_reducible first|exact HB.out|apply zlA|apply zlN|apply zlD|refine zlS ?_ GE219.out|refine zlS ?_ GE229.out)|exact HB.out)) hb);clear HO211 HO214 HO217 HO224 HO227 BK219 BK229 HB;have HO211:=n0_;have HO214:=n1_;have HO217:=n2_;have HO224:=n3_;have HO227:=n4_;have BK219:=n5_;have BK229:=n6_;have HB:=n7_;clear n0_ n1_ n2_ n3_ n4_ n5_ n6_ n7_;(try clear hb);(try clear hb2);(try clear hk);(try clear hi)))
        go_ret
        exact ⟨by first|rfl|(simp [errW_none,errW_some] <;> rfl)|(simp [*,errW_none,errW_some] <;> rfl),by repeat (first|(with_reducible first|exact HB.out|apply zlA|apply zlN|apply zlD|refine zlS ?_ GE219.out|refine zlS ?_ GE229.out)|exact HB.out)⟩
       ·rw [if_neg c12] at H
        exact absurd H (by simp)
      ·replace c11:=Bool.eq_false_iff.mpr c11
       subst c11
       have H1:(none)=some r:=by rw [if_neg (show ¬ (false=true) by decide)] at H;exact H
       clear H
       have H:=H1
       clear H1
       exact absurd H (by simp)
     ·rw [if_neg c10] at H
      exact absurd H (by simp)
    ·rw [if_neg c9] at H
     exact absurd H (by simp)
   ·replace c8:=Bool.eq_false_iff.mpr c8
    subst c8
    have H1:(none)=some r:=by rw [if_neg (show ¬ (false=true) by decide)] at H;exact H
    clear H
    have H:=H1
    clear H1
    exact absurd H (by simp)
  ·rw [if_neg c7] at H
   exact absurd H (by simp)
 ·rw [if_neg c6] at H
  exact absurd H (by simp)
end Go.Proofs.Ytlegmnpngcadhaa.Print
end
section
namespace Go.Proofs.Ytlegmnpngcadhaa.Print
open Go.RowKit Go.Proofs.YtlegmnpngcadhaaW.PrintWords Go.Proofs.YtlegmnpngcadhaaW.PrintLast Go.Proofs.YtlegmnpngcadhaaW.PrintMore
attribute [local go_sem] max2_int min2_int max_two min_two max_three min_three max_four min_four   -- for this text's walks alone
attribute [local go_sem ↓] Go.Proofs.Ytlegmnpngcadhaa.Sem.isSome_setCell
attribute [local go_sem] Go.Instr.field Go.asAgg
set_option linter.unusedVariables false
set_option linter.unusedSimpArgs false
mutual
def slipwayref04_Same.j0:Nat → Bool → List Int → List Int → List Int → List Int → Option (Bool)
 | 0,_,_,_,_,_=>none
 | k + 1,x22,x240000,x240001,x241000,x241001=>if x22=true then (some false) else (slipwayref04_Same.l0 k 0 x240000 x240001 x241000 x241001)
def slipwayref04_Same.l0:Nat → Int → List Int → List Int → List Int → List Int → Option (Bool)
 | 0,_,_,_,_,_=>none
 | k + 1,x5,x240000,x240001,x241000,x241001=>if x5 < (x240000.length:Int) then (if 0≤x5 then (if x5 < (x241000.length:Int) then (if (rd x240000 x5)=(rd x241000 x5) then (slipwayref04_Same.l0 k (wrap64 (x5 + 1)) x240000 x240001 x241000 x241001) else (some false)) else (none)) else (none)) else (slipwayref04_Same.l1 k 0 x240000 x240001 x241000 x241001)
def slipwayref04_Same.l1:Nat → Int → List Int → List Int → List Int → List Int → Option (Bool)
 | 0,_,_,_,_,_=>none
 | k + 1,x6,x240000,x240001,x241000,x241001=>if x6 < (x240001.length:Int) then (if 0≤x6 then (if x6 < (x241001.length:Int) then (if (rd x240001 x6)=(rd x241001 x6) then (slipwayref04_Same.l1 k (wrap64 (x6 + 1)) x240000 x240001 x241000 x241001) else (some false)) else (none)) else (none)) else (some true)
end
def slipwayref04_Same.f (k:Nat) (l0_0:List Int) (l0_1:List Int) (l1_0:List Int) (l1_1:List Int):Option (Bool):=if (l0_0.length:Int)=(l1_0.length:Int) then (slipwayref04_Same.j0 k ((l0_1.length:Int) != (l1_1.length:Int)) l0_0 l0_1 l1_0 l1_1) else (slipwayref04_Same.j0 k true l0_0 l0_1 l1_0 l1_1)
set_option maxHeartbeats 8000000 in
set_option maxRecDepth 100000 in
theorem slipwayref04_Same.calls (k:Nat) (A0_0:Option Addr) (c0_0:Nat) (l0_0:List Int) (A0_1:Option Addr) (c0_1:Nat) (l0_1:List Int) (A1_0:Option Addr) (c1_0:Nat) (l1_0:List Int) (A1_1:Option Addr) (c1_1:Nat) (l1_1:List Int) (r:Bool) (w:World) (hr0_0:Kd.C (Kd.int .i64) w A0_0 l0_0.length l0_0) (hc0_0:l0_0.length≤c0_0) (hr0_1:Kd.C (Kd.int .i64) w A0_1 l0_1.length l0_1) (hc0_1:l0_1.length≤c0_1) (hr1_0:Kd.C (Kd.int .i64) w A1_0 l1_0.length l1_0) (hc1_0:l1_0.length≤c1_0) (hr1_1:Kd.C (Kd.int .i64) w A1_1 l1_1.length l1_1) (hc1_1:l1_1.length≤c1_1) (h:slipwayref04_Same.f k l0_0 l0_1 l1_0 l1_1=some r) :
  Calls Try.prog 15 #[.agg #[.slice A0_0 l0_0.length c0_0,.slice A0_1 l0_1.length c0_1],.agg #[.slice A1_0 l1_0.length c1_0,.slice A1_1 l1_1.length c1_1]] w fun e w'=>e=.returned (.bool r)∧Below w.heap.size w w':=by
 have hu25:=Try.underlying25
 have HR0_0:=zm hr0_0
 have HC0_0:=zm hc0_0
 clear hr0_0 hc0_0
 have HR0_1:=zm hr0_1
 have HC0_1:=zm hc0_1
 clear hr0_1 hc0_1
 have HR1_0:=zm hr1_0
 have HC1_0:=zm hc1_0
 clear hr1_0 hc1_0
 have HR1_1:=zm hr1_1
 have HC1_1:=zm hc1_1
 clear hr1_1 hc1_1
 have HB:=zm (Below.refl w.heap.size w)
 have H:(if (l0_0.length:Int)=(l1_0.length:Int) then (slipwayref04_Same.j0 k ((l0_1.length:Int) != (l1_1.length:Int)) l0_0 l0_1 l1_0 l1_1) else (slipwayref04_Same.j0 k true l0_0 l0_1 l1_0 l1_1))=some r:=h
 clear h
 have HC3:=zm H
 clear H
 go_enter Try.func15,Try.ntmps15
 go_upto_region 1 with (first|((with_reducible refine gate_dst (N:=2) rfl ?_);(try (refine gate_guard (by rfl) ?_;dsimp only));refine box_event ?hg (N:=2) ?hd (cs:=#[.slice A0_0 l0_0.length c0_0,.slice A0_1 l0_1.length c0_1]) (t:=25) ?hr ?_;(case hd=>rfl);(case hg=>rfl);(case hr=>first|(go_simp;done)|(go_simp;rfl));intro gb239 hg w4 hbox hb;have n0_:=zm (below_step (by repeat (first|(with_reducible first|exact HB.out|apply zlA|apply zlN|apply zlD)|exact HB.out)) hb);have n1_:=zm (hbox);have n2_:=zm ((by rw [hg];exact (below_size (by repeat (first|(with_reducible first|exact HB.out|apply zlA|apply zlN|apply zlD)|exact HB.out))):w.heap.size≤gb239));have n3_:=zm ((by rw [hg];exact (below_size (by repeat (first|(with_reducible first|exact HB.out|apply zlA|apply zlN|apply zlD)|exact HB.out))):w.heap.size≤gb239));clear HB;have HB:=n0_;have BK239:=n1_;have GW239:=n2_;have GE239:=n3_;clear n0_ n1_ n2_ n3_;clear hb hbox hg)|((with_reducible refine gate_dst (N:=3) rfl ?_);(try (refine gate_guard (by rfl) ?_;dsimp only));refine box_event ?hg (N:=3) ?hd (cs:=#[.slice A1_0 l1_0.length c1_0,.slice A1_1 l1_1.length c1_1]) (t:=25) ?hr ?_;(case hd=>rfl);(case hg=>rfl);(case hr=>first|(go_simp;done)|(go_simp;rfl));intro gb240 hg w5 hbox hb;have n0_:=zm (zbB (g:=gb239) (o:=.cells #[.slice A0_0 l0_0.length c0_0,.slice A0_1 l0_1.length c0_1] 25 (0,0)) (by (with_reducible repeat (first|refine zbN ?_ _|refine zbD ?_|refine zbA ?_ _));exact BK239.out) hb);have n1_:=zm (below_step (by repeat (first|(with_reducible first|exact HB.out|apply zlA|apply zlN|apply zlD|refine zlS ?_ GE239.out)|exact HB.out)) hb);have n2_:=zm (hbox);have n3_:=zm ((by rw [hg];exact (below_size (by repeat (first|(with_reducible first|exact HB.out|apply zlA|apply zlN|apply zlD|refine zlS ?_ GE239.out)|exact HB.out))):w.heap.size≤gb240));have n4_:=zm ((by rw [hg];exact (below_size (by repeat (first|(with_reducible first|exact HB.out|apply zlA|apply zlN|apply zlD|refine zlS ?_ GE239.out)|exact HB.out))):w.heap.size≤gb240));have n5_:=zm ((by rw [hg];exact Nat.ne_of_lt (blk_lt (g:=gb239) (o:=.cells #[.slice A0_0 l0_0.length c0_0,.slice A0_1 l0_1.length c0_1] 25 (0,0)) (by (with_reducible repeat (first|refine zbN ?_ _|refine zbD ?_|refine zbA ?_ _));exact BK239.out)):gb239≠gb240));have n6_:=zm ((by rw [hg];exact Nat.ne_of_gt (blk_lt (g:=gb239) (o:=.cells #[.slice A0_0 l0_0.length c0_0,.slice A0_1 l0_1.length c0_1] 25 (0,0)) (by (with_reducible repeat (first|refine zbN ?_ _|refine zbD ?_|refine zbA ?_ _));exact BK239.out)):gb240≠gb239));clear BK239 HB;have BK239:=n0_;have HB:=n1_;have BK240:=n2_;have GW240:=n3_;have GE240:=n4_;have NB239_240:=n5_;have NB240_239:=n6_;clear n0_ n1_ n2_ n3_ n4_ n5_ n6_;clear hb hbox hg))
 repeat (go_quiet (first|((with_reducible refine gate_dst (N:=2) rfl ?_);(try (refine gate_guard (by rfl) ?_;dsimp only));refine box_event ?hg (N:=2) ?hd (cs:=#[.slice A0_0 l0_0.length c0_0,.slice A0_1 l0_1.length c0_1]) (t:=25) ?hr ?_;(case hd=>rfl);(case hg=>rfl);(case hr=>first|(go_simp;done)|(go_simp;rfl));intro gb239 hg w4 hbox hb;have n0_:=zm (below_step (by repeat (first|(with_reducible first|exact HB.out|apply zlA|apply zlN|apply zlD)|exact HB.out)) hb);have n1_:=zm (hbox);have n2_:=zm ((by rw [hg];exact (below_size (by repeat (first|(with_reducible first|exact HB.out|apply zlA|apply zlN|apply zlD)|exact HB.out))):w.heap.size≤gb239));have n3_:=zm ((by rw [hg];exact (below_size (by repeat (first|(with_reducible first|exact HB.out|apply zlA|apply zlN|apply zlD)|exact HB.out))):w.heap.size≤gb239));clear HB;have HB:=n0_;have BK239:=n1_;have GW239:=n2_;have GE239:=n3_;clear n0_ n1_ n2_ n3_;clear hb hbox hg)|((with_reducible refine gate_dst (N:=3) rfl ?_);(try (refine gate_guard (by rfl) ?_;dsimp only));refine box_event ?hg (N:=3) ?hd (cs:=#[.slice A1_0 l1_0.length c1_0,.slice A1_1 l1_1.length c1_1]) (t:=25) ?hr ?_;(case hd=>rfl);(case hg=>rfl);(case hr=>first|(go_simp;done)|(go_simp;rfl));intro gb240 hg w5 hbox hb;have n0_:=zm (zbB (g:=gb239) (o:=.cells #[.slice A0_0 l0_0.length c0_0,.slice A0_1 l0_1.length c0_1] 25 (0,0)) (by (with_reducible repeat (first|refine zbN ?_ _|refine zbD ?_|refine zbA ?_ _));exact BK239.out) hb);have n1_:=zm (below_step (by repeat (first|(with_reducible first|exact HB.out|apply zlA|apply zlN|apply zlD|refine zlS ?_ GE239.out)|exact HB.out)) hb);have n2_:=zm (hbox);have n3_:=zm ((by rw [hg];exact (below_size (by repeat (first|(with_reducible first|exact HB.out|apply zlA|apply zlN|apply zlD|refine zlS ?_ GE239.out)|exact HB.out))):w.heap.size≤gb240));have n4_:=zm ((by rw [hg];exact (below_size (by repeat (first|(with_reducible first|exact HB.out|apply zlA|apply zlN|apply zlD|refine zlS ?_ GE239.out)|exact HB.out))):w.heap.size≤gb240));have n5_:=zm ((by rw [hg];exact Nat.ne_of_lt (blk_lt (g:=gb239) (o:=.cells #[.slice A0_0 l0_0.length c0_0,.slice A0_1 l0_1.length c0_1] 25 (0,0)) (by (with_reducible repeat (first|refine zbN ?_ _|refine zbD ?_|refine zbA ?_ _));exact BK239.out)):gb239≠gb240));have n6_:=zm ((by rw [hg];exact Nat.ne_of_gt (blk_lt (g:=gb239) (o:=.cells #[.slice A0_0 l0_0.length c0_0,.slice A0_1 l0_1.length c0_1] 25 (0,0)) (by (with_reducible repeat (first|refine zbN ?_ _|refine zbD ?_|refine zbA ?_ _));exact BK239.out)):gb240≠gb239));clear BK239 HB;have BK239:=n0_;have HB:=n1_;have BK240:=n2_;have GW240:=n3_;have GE240:=n4_;have NB239_240:=n5_;have NB240_239:=n6_;clear n0_ n1_ n2_ n3_ n4_ n5_ n6_;clear hb hbox hg));go_upto_region 1 with (first|((with_reducible refine gate_dst (N:=2) rfl ?_);(try (refine gate_guard (by rfl) ?_;dsimp only));refine box_event ?hg (N:=2) ?hd (cs:=#[.slice A0_0 l0_0.length c0_0,.slice A0_1 l0_1.length c0_1]) (t:=25) ?hr ?_;(case hd=>rfl);(case hg=>rfl);(case hr=>first|(go_simp;done)|(go_simp;rfl));intro gb239 hg w4 hbox hb;have n0_:=zm (below_step (by repeat (first|(with_reducible first|exact HB.out|apply zlA|apply zlN|apply zlD)|exact HB.out)) hb);have n1_:=zm (hbox);have n2_:=zm ((by rw [hg];exact (below_size (by repeat (first|(with_reducible first|exact HB.out|apply zlA|apply zlN|apply zlD)|exact HB.out))):w.heap.size≤gb239));have n3_:=zm ((by rw [hg];exact (below_size (by repeat (first|(with_reducible first|exact HB.out|apply zlA|apply zlN|apply zlD)|exact HB.out))):w.heap.size≤gb239));clear HB;have HB:=n0_;have BK239:=n1_;have GW239:=n2_;have GE239:=n3_;clear n0_ n1_ n2_ n3_;clear hb hbox hg)|((with_reducible refine gate_dst (N:=3) rfl ?_);(try (refine gate_guard (by rfl) ?_;dsimp only));refine box_event ?hg (N:=3) ?hd (cs:=#[.slice A1_0 l1_0.length c1_0,.slice A1_1 l1_1.length c1_1]) (t:=25) ?hr ?_;(case hd=>rfl);(case hg=>rfl);(case hr=>first|(go_simp;done)|(go_simp;rfl));intro gb240 hg w5 hbox hb;have n0_:=zm (zbB (g:=gb239) (o:=.cells #[.slice A0_0 l0_0.length c0_0,.slice A0_1 l0_1.length c0_1] 25 (0,0)) (by (with_reducible repeat (first|refine zbN ?_ _|refine zbD ?_|refine zbA ?_ _));exact BK239.out) hb);have n1_:=zm (below_step (by repeat (first|(with_reducible first|exact HB.out|apply zlA|apply zlN|apply zlD|refine zlS ?_ GE239.out)|exact HB.out)) hb);have n2_:=zm (hbox);have n3_:=zm ((by rw [hg];exact (below_size (by repeat (first|(with_reducible first|exact HB.out|apply zlA|apply zlN|apply zlD|refine zlS ?_ GE239.out)|exact HB.out))):w.heap.size≤gb240));have n4_:=zm ((by rw [hg];exact (below_size (by repeat (first|(with_reducible first|exact HB.out|apply zlA|apply zlN|apply zlD|refine zlS ?_ GE239.out)|exact HB.out))):w.heap.size≤gb240));have n5_:=zm ((by rw [hg];exact Nat.ne_of_lt (blk_lt (g:=gb239) (o:=.cells #[.slice A0_0 l0_0.length c0_0,.slice A0_1 l0_1.length c0_1] 25 (0,0)) (by (with_reducible repeat (first|refine zbN ?_ _|refine zbD ?_|refine zbA ?_ _));exact BK239.out)):gb239≠gb240));have n6_:=zm ((by rw [hg];exact Nat.ne_of_gt (blk_lt (g:=gb239) (o:=.cells #[.slice A0_0 l0_0.length c0_0,.slice A0_1 l0_1.length c0_1] 25 (0,0)) (by (with_reducible repeat (first|refine zbN ?_ _|refine zbD ?_|refine zbA ?_ _));exact BK239.out)):gb240≠gb239));clear BK239 HB;have BK239:=n0_;have HB:=n1_;have BK240:=n2_;have GW240:=n3_;have GE240:=n4_;have NB239_240:=n5_;have NB240_239:=n6_;clear n0_ n1_ n2_ n3_ n4_ n5_ n6_;clear hb hbox hg)))
 (try simp only [Act.put,List.setIfInBounds_toArray,List.set_cons_zero,List.set_cons_succ])
 go_cut [22] (fun v22 wc=>∃ (kq:Nat) (x22_2:Bool),v22=.bool x22_2∧Aside0 (slipwayref04_Same.j0 kq x22_2 l0_0 l0_1 l1_0 l1_1=some r)∧Aside0 (kq≤k)∧Aside0 (wc.heap[gb239]?=some (.cells #[(.slice A0_0 l0_0.length c0_0),(.slice A0_1 l0_1.length c0_1)] 25 (0,0)))∧Aside0 (wc.heap[gb240]?=some (.cells #[(.slice A1_0 l1_0.length c1_0),(.slice A1_1 l1_1.length c1_1)] 25 (0,0)))∧Aside0 (Below w.heap.size w wc))
 case first =>
  have H:=HC3.out
  clear HC3
  by_cases c6:(l0_0.length:Int)=(l1_0.length:Int)
  ·rw [if_pos c6] at H
   have c6b0:((l0_0.length:Int) == (l1_0.length:Int))=true:=beq_iff_eq.mpr c6
   have c6b1:((l0_0.length:Int) != (l1_0.length:Int))=false:=bne_eq_false_iff_eq.mpr c6
   have c6b2:(l0_0.length == l1_0.length)=true:=by first|simpa using c6|(simp at c6 ⊢;omega)
   clear c6
   (first|rw [c6b0]|(simp only [i64_w,i32_w];rw [c6b0])|skip)
   have H':=zm H
   clear H
   have hnb7:=NB239_240.out
   have hnc7:=NB240_239.out
   have hcz8_0:w5.cell? ⟨gb239,0,none⟩=some (.slice A0_0 l0_0.length c0_0):=(blk_cell BK239.out 0).trans rfl
   have hcz8_1:w5.cell? ⟨gb239,1,none⟩=some (.slice A0_1 l0_1.length c0_1):=(blk_cell BK239.out 1).trans rfl
   have hfz8_0:=blk_frozen BK239.out 0
   have hfz8_1:=blk_frozen BK239.out 1
   have hcz9_0:w5.cell? ⟨gb240,0,none⟩=some (.slice A1_0 l1_0.length c1_0):=(blk_cell BK240.out 0).trans rfl
   have hcz9_1:w5.cell? ⟨gb240,1,none⟩=some (.slice A1_1 l1_1.length c1_1):=(blk_cell BK240.out 1).trans rfl
   have hfz9_0:=blk_frozen BK240.out 0
   have hfz9_1:=blk_frozen BK240.out 1
   go_wp2
   repeat (go_quiet (fail);try go_wp2)
   go_meet
   case rel=>exact ⟨_,(((l0_1.length:Int) != (l1_1.length:Int))),(by first|rfl|(simp;done)|(simp [*];done)),H',⟨by first|omega|exact Nat.le_refl _⟩,⟨by (with_reducible repeat (first|refine zbN ?_ _|refine zbD ?_|refine zbA ?_ _));exact BK239.out⟩,⟨by (with_reducible repeat (first|refine zbN ?_ _|refine zbD ?_|refine zbA ?_ _));exact BK240.out⟩,⟨by repeat (first|(with_reducible first|exact HB.out|apply zlA|apply zlN|apply zlD|refine zlS ?_ GE239.out|refine zlS ?_ GE240.out)|exact HB.out)⟩⟩
  ·rw [if_neg c6] at H
   have c6b0:((l0_0.length:Int) == (l1_0.length:Int))=false:=beq_eq_false_iff_ne.mpr c6
   have c6b1:((l0_0.length:Int) != (l1_0.length:Int))=true:=bne_iff_ne.mpr c6
   have c6b2:(l0_0.length == l1_0.length)=false:=by first|simpa using c6|(simp at c6 ⊢;omega)
   (first|rw [c6b0]|(simp only [i64_w,i32_w];rw [c6b0])|skip)
   have H':=zm H
   clear H
   have hnb10:=NB239_240.out
   have hnc10:=NB240_239.out
   have hcz11_0:w5.cell? ⟨gb239,0,none⟩=some (.slice A0_0 l0_0.length c0_0):=(blk_cell BK239.out 0).trans rfl
   have hcz11_1:w5.cell? ⟨gb239,1,none⟩=some (.slice A0_1 l0_1.length c0_1):=(blk_cell BK239.out 1).trans rfl
   have hfz11_0:=blk_frozen BK239.out 0
   have hfz11_1:=blk_frozen BK239.out 1
   have hcz12_0:w5.cell? ⟨gb240,0,none⟩=some (.slice A1_0 l1_0.length c1_0):=(blk_cell BK240.out 0).trans rfl
   have hcz12_1:w5.cell? ⟨gb240,1,none⟩=some (.slice A1_1 l1_1.length c1_1):=(blk_cell BK240.out 1).trans rfl
   have hfz12_0:=blk_frozen BK240.out 0
   have hfz12_1:=blk_frozen BK240.out 1
   go_wp2
   repeat (go_quiet (fail);try go_wp2)
   go_meet
   case rel=>exact ⟨_,(true),(by first|rfl|(simp;done)|(simp [*];done)),H',⟨by first|omega|exact Nat.le_refl _⟩,⟨by (with_reducible repeat (first|refine zbN ?_ _|refine zbD ?_|refine zbA ?_ _));exact BK239.out⟩,⟨by (with_reducible repeat (first|refine zbN ?_ _|refine zbD ?_|refine zbA ?_ _));exact BK240.out⟩,⟨by repeat (first|(with_reducible first|exact HB.out|apply zlA|apply zlN|apply zlD|refine zlS ?_ GE239.out|refine zlS ?_ GE240.out)|exact HB.out)⟩⟩
 case rest =>
  clear HC3
  try clear c1
  try clear p2
  try clear c6
  try clear c6b0
  try clear c6b1
  try clear c6b2
  try clear c7
  try clear c10
  try clear hcz11_0
  try clear hcz11_1
  try clear hcz12_0
  try clear hcz12_1
  try clear hcz8_0
  try clear hcz8_1
  try clear hcz9_0
  try clear hcz9_1
  try clear hfz11_0
  try clear hfz11_1
  try clear hfz12_0
  try clear hfz12_1
  try clear hfz8_0
  try clear hfz8_1
  try clear hfz9_0
  try clear hfz9_1
  obtain ⟨kq,x22_2,rfl,HA,HJ2,BK239,BK240,HB⟩:=hcut
  cases kq with
  | zero=>exact absurd HA.out (by simp [slipwayref04_Same.j0])
  | succ kj2 =>
   have H:=HA.out
   clear HA
   simp only [slipwayref04_Same.j0] at H
   by_cases c13:x22_2=true
   ·subst c13
    have H1:(some false)=some r:=by rw [if_pos rfl] at H;exact H
    clear H
    have H:=H1
    clear H1
    obtain rfl:=Option.some.inj H
    go_wp2
    repeat (go_quiet (fail);try go_wp2)
    go_ret
    exact ⟨by first|rfl|(simp [errW_none,errW_some] <;> rfl)|(simp [*,errW_none,errW_some] <;> rfl),by repeat (first|(with_reducible first|exact HB.out|apply zlA|apply zlN|apply zlD|refine zlS ?_ GE239.out|refine zlS ?_ GE240.out)|exact HB.out)⟩
   ·replace c13:=Bool.eq_false_iff.mpr c13
    subst c13
    have H1:(slipwayref04_Same.l0 kj2 0 l0_0 l0_1 l1_0 l1_1)=some r:=by rw [if_neg (show ¬ (false=true) by decide)] at H;exact H
    clear H
    have H:=H1
    clear H1
    have H':=zm H
    clear H
    go_wp2
    repeat (go_quiet (fail);try go_wp2)
    go_loopg [5] kj2 (fun kq v5 w'=>∃ (x5_2:Int),v5=.int .i64 x5_2∧Aside0 (slipwayref04_Same.l0 kq x5_2 l0_0 l0_1 l1_0 l1_1=some r)∧Aside0 (kq≤kj2)∧Aside0 (w'.heap[gb239]?=some (.cells #[(.slice A0_0 l0_0.length c0_0),(.slice A0_1 l0_1.length c0_1)] 25 (0,0)))∧Aside0 (w'.heap[gb240]?=some (.cells #[(.slice A1_0 l1_0.length c1_0),(.slice A1_1 l1_1.length c1_1)] 25 (0,0)))∧Aside0 (Below w.heap.size w w'))
    case atStart=>exact ⟨(0),(by first|rfl|(simp;done)|(simp [*];done)),H',⟨Nat.le_refl _⟩,⟨by (with_reducible repeat (first|refine zbN ?_ _|refine zbD ?_|refine zbA ?_ _));exact BK239.out⟩,⟨by (with_reducible repeat (first|refine zbN ?_ _|refine zbD ?_|refine zbA ?_ _));exact BK240.out⟩,⟨by repeat (first|(with_reducible first|exact HB.out|apply zlA|apply zlN|apply zlD|refine zlS ?_ GE239.out|refine zlS ?_ GE240.out)|exact HB.out)⟩⟩
    case round =>
     clear H'
     try clear c1
     try clear p2
     try clear c6
     try clear c6b0
     try clear c6b1
     try clear c6b2
     try clear c7
     try clear c10
     try clear c13
     try clear hcz11_0
     try clear hcz11_1
     try clear hcz12_0
     try clear hcz12_1
     try clear hcz8_0
     try clear hcz8_1
     try clear hcz9_0
     try clear hcz9_1
     try clear hfz11_0
     try clear hfz11_1
     try clear hfz12_0
     try clear hfz12_1
     try clear hfz8_0
     try clear hfz8_1
     try clear hfz9_0
     try clear hfz9_1
     try clear p2
     obtain ⟨x5_2,rfl,HA,HK2,BK239,BK240,HB⟩:=hrel
     cases gk with
     | zero=>exact absurd HA.out (by simp [slipwayref04_Same.l0])
     | succ k2 =>
      have H:=HA.out
      clear HA
      simp only [slipwayref04_Same.l0] at H
      by_cases c14:x5_2 < (l0_0.length:Int)
      ·rw [if_pos c14] at H
       have c14b0:decide (x5_2 < (l0_0.length:Int))=true:=decide_eq_true c14
       clear c14
       by_cases c15:0≤x5_2
       ·rw [if_pos c15] at H
        have c15b0:decide (0≤x5_2)=true:=decide_eq_true c15
        clear c15
        by_cases c16:x5_2 < (l1_0.length:Int)
        ·rw [if_pos c16] at H
         have c16b0:decide (x5_2 < (l1_0.length:Int))=true:=decide_eq_true c16
         clear c16
         by_cases c17:(rd l0_0 x5_2)=(rd l1_0 x5_2)
         ·rw [if_pos c17] at H
          have c17b0:((rd l0_0 x5_2) == (rd l1_0 x5_2))=true:=beq_iff_eq.mpr c17
          have c17b1:((rd l0_0 x5_2) != (rd l1_0 x5_2))=false:=bne_eq_false_iff_eq.mpr c17
          clear c17
          have H':=zm H
          clear H
          have hnb18:=NB239_240.out
          have hnc18:=NB240_239.out
          have hcz19_0:wr.cell? ⟨gb239,0,none⟩=some (.slice A0_0 l0_0.length c0_0):=(blk_cell BK239.out 0).trans rfl
          have hcz19_1:wr.cell? ⟨gb239,1,none⟩=some (.slice A0_1 l0_1.length c0_1):=(blk_cell BK239.out 1).trans rfl
          have hfz19_0:=blk_frozen BK239.out 0
          have hfz19_1:=blk_frozen BK239.out 1
          have p241:0≤(x5_2:Int):=of_decide_eq_true (by first|(with_reducible assumption)|assumption)
          have q241:x5_2 < (l0_0.length:Int):=of_decide_eq_true (by first|(with_reducible assumption)|assumption)
          obtain ⟨ad241,e241,hx241_0⟩:=Kd.at_int HR0_0.out x5_2 p241 q241
          cases e241
          replace hx241_0:=(HB.out.cell (World.block_lt_of_cell? w _ hx241_0)).trans hx241_0
          replace p241:=eq_true p241
          replace q241:=eq_true q241
          have hcz20_0:wr.cell? ⟨gb240,0,none⟩=some (.slice A1_0 l1_0.length c1_0):=(blk_cell BK240.out 0).trans rfl
          have hcz20_1:wr.cell? ⟨gb240,1,none⟩=some (.slice A1_1 l1_1.length c1_1):=(blk_cell BK240.out 1).trans rfl
          have hfz20_0:=blk_frozen BK240.out 0
          have hfz20_1:=blk_frozen BK240.out 1
          have p242:0≤(x5_2:Int):=of_decide_eq_true (by first|(with_reducible assumption)|assumption)
          have q242:x5_2 < (l1_0.length:Int):=of_decide_eq_true (by first|(with_reducible assumption)|assumption)
          obtain ⟨ad242,e242,hx242_0⟩:=Kd.at_int HR1_0.out x5_2 p242 q242
          cases e242
          replace hx242_0:=(HB.out.cell (World.block_lt_of_cell? w _ hx242_0)).trans hx242_0
          replace p242:=eq_true p242
          replace q242:=eq_true q242
          go_wp2
          repeat (go_quiet (fail);try go_wp2)
          go_roundg k2
          case measure=>have:=HJ2.out;have:=HK2.out;omega
          case rel=>exact ⟨(wrap64 (x5_2 + 1)),(by first|rfl|(simp;done)|(simp [*];done)),H',⟨by have:=HJ2.out;have:=HK2.out;omega⟩,⟨by (with_reducible repeat (first|refine zbN ?_ _|refine zbD ?_|refine zbA ?_ _));exact BK239.out⟩,⟨by (with_reducible repeat (first|refine zbN ?_ _|refine zbD ?_|refine zbA ?_ _));exact BK240.out⟩,⟨by repeat (first|(with_reducible first|exact HB.out|apply zlA|apply zlN|apply zlD|refine zlS ?_ GE239.out|refine zlS ?_ GE240.out)|exact HB.out)⟩⟩
         ·rw [if_neg c17] at H
          have c17b0:((rd l0_0 x5_2) == (rd l1_0 x5_2))=false:=beq_eq_false_iff_ne.mpr c17
          have c17b1:((rd l0_0 x5_2) != (rd l1_0 x5_2))=true:=bne_iff_ne.mpr c17
          obtain rfl:=Option.some.inj H
          have hnb21:=NB239_240.out
          have hnc21:=NB240_239.out
          have hcz22_0:wr.cell? ⟨gb239,0,none⟩=some (.slice A0_0 l0_0.length c0_0):=(blk_cell BK239.out 0).trans rfl
          have hcz22_1:wr.cell? ⟨gb239,1,none⟩=some (.slice A0_1 l0_1.length c0_1):=(blk_cell BK239.out 1).trans rfl
          have hfz22_0:=blk_frozen BK239.out 0
          have hfz22_1:=blk_frozen BK239.out 1
          have p241:0≤(x5_2:Int):=of_decide_eq_true (by first|(with_reducible assumption)|assumption)
          have q241:x5_2 < (l0_0.length:Int):=of_decide_eq_true (by first|(with_reducible assumption)|assumption)
          obtain ⟨ad241,e241,hx241_0⟩:=Kd.at_int HR0_0.out x5_2 p241 q241
          cases e241
          replace hx241_0:=(HB.out.cell (World.block_lt_of_cell? w _ hx241_0)).trans hx241_0
          replace p241:=eq_true p241
          replace q241:=eq_true q241
          have hcz23_0:wr.cell? ⟨gb240,0,none⟩=some (.slice A1_0 l1_0.length c1_0):=(blk_cell BK240.out 0).trans rfl
          have hcz23_1:wr.cell? ⟨gb240,1,none⟩=some (.slice A1_1 l1_1.length c1_1):=(blk_cell BK240.out 1).trans rfl
          have hfz23_0:=blk_frozen BK240.out 0
          have hfz23_1:=blk_frozen BK240.out 1
          have p242:0≤(x5_2:Int):=of_decide_eq_true (by first|(with_reducible assumption)|assumption)
          have q242:x5_2 < (l1_0.length:Int):=of_decide_eq_true (by first|(with_reducible assumption)|assumption)
          obtain ⟨ad242,e242,hx242_0⟩:=Kd.at_int HR1_0.out x5_2 p242 q242
          cases e242
          replace hx242_0:=(HB.out.cell (World.block_lt_of_cell? w _ hx242_0)).trans hx242_0
          replace p242:=eq_true p242
          replace q242:=eq_true q242
          go_wp2
          repeat (go_quiet (fail);try go_wp2)
          go_ret
          exact ⟨by first|rfl|(simp [errW_none,errW_some] <;> rfl)|(simp [*,errW_none,errW_some] <;> rfl),by repeat (first|(with_reducible first|exact HB.out|apply zlA|apply zlN|apply zlD|refine zlS ?_ GE239.out|refine zlS ?_ GE240.out)|exact HB.out)⟩
        ·rw [if_neg c16] at H
         exact absurd H (by simp)
       ·rw [if_neg c15] at H
        exact absurd H (by simp)
      ·rw [if_neg c14] at H
       have c14b0:decide (x5_2 < (l0_0.length:Int))=false:=decide_eq_false c14
       clear c14
       have H':=zm H
       clear H
       have hnb24:=NB239_240.out
       have hnc24:=NB240_239.out
       have hcz25_0:wr.cell? ⟨gb239,0,none⟩=some (.slice A0_0 l0_0.length c0_0):=(blk_cell BK239.out 0).trans rfl
       have hcz25_1:wr.cell? ⟨gb239,1,none⟩=some (.slice A0_1 l0_1.length c0_1):=(blk_cell BK239.out 1).trans rfl
       have hfz25_0:=blk_frozen BK239.out 0
       have hfz25_1:=blk_frozen BK239.out 1
       go_wp2
       repeat (go_quiet (fail);try go_wp2)
       go_loopg [6] k2 (fun kq v6 w'=>∃ (x6_3:Int),v6=.int .i64 x6_3∧Aside0 (slipwayref04_Same.l1 kq x6_3 l0_0 l0_1 l1_0 l1_1=some r)∧Aside0 (kq≤k2)∧Aside0 (w'.heap[gb239]?=some (.cells #[(.slice A0_0 l0_0.length c0_0),(.slice A0_1 l0_1.length c0_1)] 25 (0,0)))∧Aside0 (w'.heap[gb240]?=some (.cells #[(.slice A1_0 l1_0.length c1_0),(.slice A1_1 l1_1.length c1_1)] 25 (0,0)))∧Aside0 (Below w.heap.size w w'))
       case atStart=>exact ⟨(0),(by first|rfl|(simp;done)|(simp [*];done)),H',⟨Nat.le_refl _⟩,⟨by (with_reducible repeat (first|refine zbN ?_ _|refine zbD ?_|refine zbA ?_ _));exact BK239.out⟩,⟨by (with_reducible repeat (first|refine zbN ?_ _|refine zbD ?_|refine zbA ?_ _));exact BK240.out⟩,⟨by repeat (first|(with_reducible first|exact HB.out|apply zlA|apply zlN|apply zlD|refine zlS ?_ GE239.out|refine zlS ?_ GE240.out)|exact HB.out)⟩⟩
       case round =>
        clear H'
        try clear c1
        try clear c2
        try clear p2
        try clear q2
        try clear hx2
        try clear c6
        try clear c6b0
        try clear c6b1
        try clear c6b2
        try clear p6
        try clear c7
        try clear c10
        try clear c13
        try clear c14
        try clear c14b0
        try clear c15
        try clear c15b0
        try clear c16
        try clear c16b0
        try clear c17
        try clear c17b0
        try clear c17b1
        try clear c18
        try clear c21
        try clear c24
        try clear p24
        try clear q24
        try clear hx24
        try clear hcz11_0
        try clear hcz11_1
        try clear hcz12_0
        try clear hcz12_1
        try clear hcz19_0
        try clear hcz19_1
        try clear hcz20_0
        try clear hcz20_1
        try clear hcz22_0
        try clear hcz22_1
        try clear hcz23_0
        try clear hcz23_1
        try clear hcz25_0
        try clear hcz25_1
        try clear hcz8_0
        try clear hcz8_1
        try clear hcz9_0
        try clear hcz9_1
        try clear hfz11_0
        try clear hfz11_1
        try clear hfz12_0
        try clear hfz12_1
        try clear hfz19_0
        try clear hfz19_1
        try clear hfz20_0
        try clear hfz20_1
        try clear hfz22_0
        try clear hfz22_1
        try clear hfz23_0
        try clear hfz23_1
        try clear hfz25_0
        try clear hfz25_1
        try clear hfz8_0
        try clear hfz8_1
        try clear hfz9_0
        try clear hfz9_1
        try clear hx241_0
        try clear hx242_0
        try clear p2
        try clear p241
        try clear p242
        try clear q241
        try clear q242
        obtain ⟨x6_3,rfl,HA,HK3,BK239,BK240,HB⟩:=hrel
        cases gk with
        | zero=>exact absurd HA.out (by simp [slipwayref04_Same.l1])
        | succ k3 =>
         have H:=HA.out
         clear HA
         simp only [slipwayref04_Same.l1] at H
         by_cases c26:x6_3 < (l0_1.length:Int)
         ·rw [if_pos c26] at H
          have c26b0:decide (x6_3 < (l0_1.length:Int))=true:=decide_eq_true c26
          clear c26
          by_cases c27:0≤x6_3
          ·rw [if_pos c27] at H
           have c27b0:decide (0≤x6_3)=true:=decide_eq_true c27
           clear c27
           by_cases c28:x6_3 < (l1_1.length:Int)
           ·rw [if_pos c28] at H
            have c28b0:decide (x6_3 < (l1_1.length:Int))=true:=decide_eq_true c28
            clear c28
            by_cases c29:(rd l0_1 x6_3)=(rd l1_1 x6_3)
            ·rw [if_pos c29] at H
             have c29b0:((rd l0_1 x6_3) == (rd l1_1 x6_3))=true:=beq_iff_eq.mpr c29
             have c29b1:((rd l0_1 x6_3) != (rd l1_1 x6_3))=false:=bne_eq_false_iff_eq.mpr c29
             clear c29
             have H':=zm H
             clear H
             have hnb30:=NB239_240.out
             have hnc30:=NB240_239.out
             have hcz31_0:wr.cell? ⟨gb239,0,none⟩=some (.slice A0_0 l0_0.length c0_0):=(blk_cell BK239.out 0).trans rfl
             have hcz31_1:wr.cell? ⟨gb239,1,none⟩=some (.slice A0_1 l0_1.length c0_1):=(blk_cell BK239.out 1).trans rfl
             have hfz31_0:=blk_frozen BK239.out 0
             have hfz31_1:=blk_frozen BK239.out 1
             have p243:0≤(x6_3:Int):=of_decide_eq_true (by first|(with_reducible assumption)|assumption)
             have q243:x6_3 < (l0_1.length:Int):=of_decide_eq_true (by first|(with_reducible assumption)|assumption)
             obtain ⟨ad243,e243,hx243_0⟩:=Kd.at_int HR0_1.out x6_3 p243 q243
             cases e243
             replace hx243_0:=(HB.out.cell (World.block_lt_of_cell? w _ hx243_0)).trans hx243_0
             replace p243:=eq_true p243
             replace q243:=eq_true q243
             have hcz32_0:wr.cell? ⟨gb240,0,none⟩=some (.slice A1_0 l1_0.length c1_0):=(blk_cell BK240.out 0).trans rfl
             have hcz32_1:wr.cell? ⟨gb240,1,none⟩=some (.slice A1_1 l1_1.length c1_1):=(blk_cell BK240.out 1).trans rfl
             have hfz32_0:=blk_frozen BK240.out 0
             have hfz32_1:=blk_frozen BK240.out 1
             have p244:0≤(x6_3:Int):=of_decide_eq_true (by first|(with_reducible assumption)|assumption)
             have q244:x6_3 < (l1_1.length:Int):=of_decide_eq_true (by first|(with_reducible assumption)|assumption)
             obtain ⟨ad244,e244,hx244_0⟩:=Kd.at_int HR1_1.out x6_3 p244 q244
             cases e244
             replace hx244_0:=(HB.out.cell (World.block_lt_of_cell? w _ hx244_0)).trans hx244_0
             replace p244:=eq_true p244
             replace q244:=eq_true q244
             go_wp2
             repeat (go_quiet (fail);try go_wp2)
             go_roundg k3
             case measure=>have:=HJ2.out;have:=HK2.out;have:=HK3.out;omega
             case rel=>exact ⟨(wrap64 (x6_3 + 1)),(by first|rfl|(simp;done)|(simp [*];done)),H',⟨by have:=HJ2.out;have:=HK2.out;have:=HK3.out;omega⟩,⟨by (with_reducible repeat (first|refine zbN ?_ _|refine zbD ?_|refine zbA ?_ _));exact BK239.out⟩,⟨by (with_reducible repeat (first|refine zbN ?_ _|refine zbD ?_|refine zbA ?_ _));exact BK240.out⟩,⟨by repeat (first|(with_reducible first|exact HB.out|apply zlA|apply zlN|apply zlD|refine zlS ?_ GE239.out|refine zlS ?_ GE240.out)|exact HB.out)⟩⟩
            ·rw [if_neg c29] at H
             have c29b0:((rd l0_1 x6_3) == (rd l1_1 x6_3))=false:=beq_eq_false_iff_ne.mpr c29
             have c29b1:((rd l0_1 x6_3) != (rd l1_1 x6_3))=true:=bne_iff_ne.mpr c29
             obtain rfl:=Option.some.inj H
             have hnb33:=NB239_240.out
             have hnc33:=NB240_239.out
             have hcz34_0:wr.cell? ⟨gb239,0,none⟩=some (.slice A0_0 l0_0.length c0_0):=(blk_cell BK239.out 0).trans rfl
             have hcz34_1:wr.cell? ⟨gb239,1,none⟩=some (.slice A0_1 l0_1.length c0_1):=(blk_cell BK239.out 1).trans rfl
             have hfz34_0:=blk_frozen BK239.out 0
             have hfz34_1:=blk_frozen BK239.out 1
             have p243:0≤(x6_3:Int):=of_decide_eq_true (by first|(with_reducible assumption)|assumption)
             have q243:x6_3 < (l0_1.length:Int):=of_decide_eq_true (by first|(with_reducible assumption)|assumption)
             obtain ⟨ad243,e243,hx243_0⟩:=Kd.at_int HR0_1.out x6_3 p243 q243
             cases e243
             replace hx243_0:=(HB.out.cell (World.block_lt_of_cell? w _ hx243_0)).trans hx243_0
             replace p243:=eq_true p243
             replace q243:=eq_true q243
             have hcz35_0:wr.cell? ⟨gb240,0,none⟩=some (.slice A1_0 l1_0.length c1_0):=(blk_cell BK240.out 0).trans rfl
             have hcz35_1:wr.cell? ⟨gb240,1,none⟩=some (.slice A1_1 l1_1.length c1_1):=(blk_cell BK240.out 1).trans rfl
             have hfz35_0:=blk_frozen BK240.out 0
             have hfz35_1:=blk_frozen BK240.out 1
             have p244:0≤(x6_3:Int):=of_decide_eq_true (by first|(with_reducible assumption)|assumption)
             have q244:x6_3 < (l1_1.length:Int):=of_decide_eq_true (by first|(with_reducible assumption)|assumption)
             obtain ⟨ad244,e244,hx244_0⟩:=Kd.at_int HR1_1.out x6_3 p244 q244
             cases e244
             replace hx244_0:=(HB.out.cell (World.block_lt_of_cell? w _ hx244_0)).trans hx244_0
             replace p244:=eq_true p244
             replace q244:=eq_true q244
             go_wp2
             repeat (go_quiet (fail);try go_wp2)
             go_ret
             exact ⟨by first|rfl|(simp [errW_none,errW_some] <;> rfl)|(simp [*,errW_none,errW_some] <;> rfl),by repeat (first|(with_reducible first|exact HB.out|apply zlA|apply zlN|apply zlD|refine zlS ?_ GE239.out|refine zlS ?_ GE240.out)|exact HB.out)⟩
           ·rw [if_neg c28] at H
            exact absurd H (by simp)
          ·rw [if_neg c27] at H
           exact absurd H (by simp)
         ·rw [if_neg c26] at H
          have c26b0:decide (x6_3 < (l0_1.length:Int))=false:=decide_eq_false c26
          clear c26
          obtain rfl:=Option.some.inj H
          have hnb36:=NB239_240.out
          have hnc36:=NB240_239.out
          have hcz37_0:wr.cell? ⟨gb239,0,none⟩=some (.slice A0_0 l0_0.length c0_0):=(blk_cell BK239.out 0).trans rfl
          have hcz37_1:wr.cell? ⟨gb239,1,none⟩=some (.slice A0_1 l0_1.length c0_1):=(blk_cell BK239.out 1).trans rfl
          have hfz37_0:=blk_frozen BK239.out 0
          have hfz37_1:=blk_frozen BK239.out 1
          go_wp2
          repeat (go_quiet (fail);try go_wp2)
          go_ret
          exact ⟨by first|rfl|(simp [errW_none,errW_some] <;> rfl)|(simp [*,errW_none,errW_some] <;> rfl),by repeat (first|(with_reducible first|exact HB.out|apply zlA|apply zlN|apply zlD|refine zlS ?_ GE239.out|refine zlS ?_ GE240.out)|exact HB.out)⟩
end Go.Proofs.Ytlegmnpngcadhaa.Print
end
section
namespace Go.Proofs.Ytlegmnpngcadhaa.Print
open Go.RowKit Go.Proofs.YtlegmnpngcadhaaW.PrintWords Go.Proofs.YtlegmnpngcadhaaW.PrintLast Go.Proofs.YtlegmnpngcadhaaW.PrintMore
attribute [local go_sem] max2_int min2_int max_two min_two max_three min_three max_four min_four   -- for this text's walks alone
attribute [local go_sem ↓] Go.Proofs.Ytlegmnpngcadhaa.Sem.isSome_setCell
attribute [local go_sem] Go.Instr.field Go.asAgg
set_option linter.unusedVariables false
set_option linter.unusedSimpArgs false
def pool_Count.f (k:Nat) (l0_0:List Int) (l0_1:List Int) (a1:Int):Option (Int):=(pool_of.f k l0_0 l0_1 a1).bind fun t272=>(some (t272.length:Int))
set_option maxHeartbeats 8000000 in
set_option maxRecDepth 100000 in
theorem pool_Count.calls (k:Nat) (A0_0:Option Addr) (c0_0:Nat) (l0_0:List Int) (A0_1:Option Addr) (c0_1:Nat) (l0_1:List Int) (a1:Int) (r:Int) (w:World) (hr0_0:Kd.C (Kd.int .i64) w A0_0 l0_0.length l0_0) (hc0_0:l0_0.length≤c0_0) (hr0_1:Kd.C (Kd.int .i64) w A0_1 l0_1.length l0_1) (hc0_1:l0_1.length≤c0_1) (h:pool_Count.f k l0_0 l0_1 a1=some r) :
  Calls Try.prog 16 #[.agg #[.slice A0_0 l0_0.length c0_0,.slice A0_1 l0_1.length c0_1],.int .i64 a1] w fun e w'=>e=.returned (.int .i64 r)∧Below w.heap.size w w':=by
 have hu25:=Try.underlying25
 have HR0_0:=zm hr0_0
 have HC0_0:=zm hc0_0
 clear hr0_0 hc0_0
 have HR0_1:=zm hr0_1
 have HC0_1:=zm hc0_1
 clear hr0_1 hc0_1
 have HB:=zm (Below.refl w.heap.size w)
 have H:((pool_of.f k l0_0 l0_1 a1).bind fun t272=>(some (t272.length:Int)))=some r:=h
 clear h
 replace H:=Option.bind_eq_some_iff.mp H
 obtain ⟨t272,A30,H⟩:=H
 replace H:(some (t272.length:Int))=some r:=H
 have A3:=zm A30
 clear A30
 obtain rfl:=Option.some.inj H
 go_enter Try.func16,Try.ntmps16
 go_wp2_with (first|((with_reducible refine gate_dst (N:=2) rfl ?_);refine box_event ?hg (N:=2) ?hd (cs:=#[.slice A0_0 l0_0.length c0_0,.slice A0_1 l0_1.length c0_1]) (t:=25) ?hr ?_;(case hd=>rfl);(case hg=>rfl);(case hr=>first|(go_simp;done)|(go_simp;rfl));intro gb271 hg w4 hbox hb;have n0_:=zm (below_step (by repeat (first|(with_reducible first|exact HB.out|apply zlA|apply zlN|apply zlD)|exact HB.out)) hb);have n1_:=zm (hbox);have n2_:=zm ((by rw [hg];exact (below_size (by repeat (first|(with_reducible first|exact HB.out|apply zlA|apply zlN|apply zlD)|exact HB.out))):w.heap.size≤gb271));have n3_:=zm ((by rw [hg];exact (below_size (by repeat (first|(with_reducible first|exact HB.out|apply zlA|apply zlN|apply zlD)|exact HB.out))):w.heap.size≤gb271));clear HB;have HB:=n0_;have BK271:=n1_;have GW271:=n2_;have GE271:=n3_;clear n0_ n1_ n2_ n3_;clear hb hbox hg;have hcz5_0:w4.cell? ⟨gb271,0,none⟩=some (.slice A0_0 l0_0.length c0_0):=(blk_cell BK271.out 0).trans rfl;have hcz5_1:w4.cell? ⟨gb271,1,none⟩=some (.slice A0_1 l0_1.length c0_1):=(blk_cell BK271.out 1).trans rfl;have hfz5_0:=blk_frozen BK271.out 0;have hfz5_1:=blk_frozen BK271.out 1)|((with_reducible refine gate_callee (f:=39) rfl ?_);refine goesL_ (some 7) rfl rfl Try.func39 (by kernel_rfl) rfl #[.agg #[.slice A0_0 l0_0.length c0_0,.slice A0_1 l0_1.length c0_1],.int .i64 a1] rfl (by (try simp only [List.map_toArray,List.map_cons,List.map_nil]);first|done|rfl|(simp only [List.length_drop,List.length_take];rfl)) ?_;(with_reducible refine (pool_of.calls k _ _ l0_0 _ _ l0_1 a1 t272 _ ?side1 ?side2 ?side3 ?side4 A3.out).mono ?_);(case side1=>repeat (first|exact (Kd.C_below HR0_0.out HB.out)|(with_reducible refine Kd.C_alloc ?_ _)|(with_reducible refine Kd.C_drewN ?_ _)|(with_reducible refine Kd.C_drew ?_)));(case side2=>exact HC0_0.out);(case side3=>repeat (first|exact (Kd.C_below HR0_1.out HB.out)|(with_reducible refine Kd.C_alloc ?_ _)|(with_reducible refine Kd.C_drewN ?_ _)|(with_reducible refine Kd.C_drew ?_)));(case side4=>exact HC0_1.out);rintro e w6 ⟨v273,rfl,ho0,hb⟩;refine ⟨_,rfl,?_⟩;have n0_:=zm (Kd.R_lower ho0 (below_size (by repeat (first|(with_reducible first|exact HB.out|apply zlA|apply zlN|apply zlD|refine zlS ?_ GE271.out)|exact HB.out))));have n1_:=zm (zbB (g:=gb271) (o:=.cells #[.slice A0_0 l0_0.length c0_0,.slice A0_1 l0_1.length c0_1] 25 (0,0)) (by (with_reducible repeat (first|refine zbN ?_ _|refine zbD ?_|refine zbA ?_ _));exact BK271.out) hb);have n2_:=zm (below_step (by repeat (first|(with_reducible first|exact HB.out|apply zlA|apply zlN|apply zlD|refine zlS ?_ GE271.out)|exact HB.out)) hb);clear BK271 HB;have HO274:=n0_;have BK271:=n1_;have HB:=n2_;clear n0_ n1_ n2_;(try clear hb);(try clear hb2);(try clear hk);(try clear hi);(try clear ho0);obtain ⟨Ao7,co7,eo7⟩:=Kd.R_slice HO274.out;subst eo7))
 go_ret
 exact ⟨by first|rfl|(simp [errW_none,errW_some] <;> rfl)|(simp [*,errW_none,errW_some] <;> rfl),by repeat (first|(with_reducible first|exact HB.out|apply zlA|apply zlN|apply zlD|refine zlS ?_ GE271.out)|exact HB.out)⟩
def slices_Equal_int_int.l0:Nat → List Int → List Int → Int → Int → Option (Bool)
 | 0,_,_,_,_=>none
 | k + 1,x0,x1,x12,x13=>if x13 < x12 then (if 0≤x13 then (if x13 < (x0.length:Int) then (if x13 < (x1.length:Int) then (if (rd x0 x13)=(rd x1 x13) then (slices_Equal_int_int.l0 k x0 x1 x12 (wrap64 (x13 + 1))) else (some false)) else (none)) else (none)) else (none)) else (some true)
def slices_Equal_int_int.f (k:Nat) (l0:List Int) (l1:List Int):Option (Bool):=if (l0.length:Int)=(l1.length:Int) then (slices_Equal_int_int.l0 k l0 l1 (l0.length:Int) 0) else (some false)
set_option maxHeartbeats 8000000 in
set_option maxRecDepth 100000 in
theorem slices_Equal_int_int.calls (k:Nat) (A0:Option Addr) (c0:Nat) (l0:List Int) (A1:Option Addr) (c1:Nat) (l1:List Int) (r:Bool) (w:World) (hr0:Kd.C (Kd.int .i64) w A0 l0.length l0) (hc0:l0.length≤c0) (hr1:Kd.C (Kd.int .i64) w A1 l1.length l1) (hc1:l1.length≤c1) (h:slices_Equal_int_int.f k l0 l1=some r) :
  Calls Try.prog 27 #[.slice A0 l0.length c0,.slice A1 l1.length c1] w fun e w'=>e=.returned (.bool r)∧Drawn0 w w':=by
 have HR0:=zm hr0
 have HC0:=zm hc0
 clear hr0 hc0
 have HR1:=zm hr1
 have HC1:=zm hc1
 clear hr1 hc1
 have H:(if (l0.length:Int)=(l1.length:Int) then (slices_Equal_int_int.l0 k l0 l1 (l0.length:Int) 0) else (some false))=some r:=h
 clear h
 by_cases c3:(l0.length:Int)=(l1.length:Int)
 ·rw [if_pos c3] at H
  have c3b0:((l0.length:Int) == (l1.length:Int))=true:=beq_iff_eq.mpr c3
  have c3b1:((l0.length:Int) != (l1.length:Int))=false:=bne_eq_false_iff_eq.mpr c3
  have c3b2:(l0.length == l1.length)=true:=by first|simpa using c3|(simp at c3 ⊢;omega)
  clear c3
  have H':=zm H
  clear H
  go_enter Try.func27,Try.ntmps27
  go_wp2
  repeat (go_quiet (fail);try go_wp2)
  go_loopg [13] k (fun kq v13 w'=>∃ (x13_1:Int),v13=.int .i64 x13_1∧Aside0 (slices_Equal_int_int.l0 kq l0 l1 (l0.length:Int) x13_1=some r)∧Aside0 (kq≤k)∧Drawn0 w w')
  case atStart=>exact ⟨(0),(by first|rfl|(simp;done)|(simp [*];done)),H',⟨Nat.le_refl _⟩,by repeat (first|exact Drawn0.refl _|apply Drawn0.step)⟩
  case round =>
   clear H'
   try clear c1
   try clear c2
   try clear p2
   try clear c3
   try clear c3b0
   try clear c3b1
   try clear c3b2
   obtain ⟨x13_1,rfl,HA,HK1,⟨m1,rfl⟩⟩:=hrel
   cases gk with
   | zero=>exact absurd HA.out (by simp [slices_Equal_int_int.l0])
   | succ k1 =>
    have H:=HA.out
    clear HA
    simp only [slices_Equal_int_int.l0] at H
    by_cases c4:x13_1 < (l0.length:Int)
    ·rw [if_pos c4] at H
     have c4b0:decide (x13_1 < (l0.length:Int))=true:=decide_eq_true c4
     clear c4
     by_cases c5:0≤x13_1
     ·rw [if_pos c5] at H
      have c5b0:decide (0≤x13_1)=true:=decide_eq_true c5
      clear c5
      by_cases c6:x13_1 < (l0.length:Int)
      ·rw [if_pos c6] at H
       have c6b0:decide (x13_1 < (l0.length:Int))=true:=decide_eq_true c6
       clear c6
       by_cases c7:x13_1 < (l1.length:Int)
       ·rw [if_pos c7] at H
        have c7b0:decide (x13_1 < (l1.length:Int))=true:=decide_eq_true c7
        clear c7
        by_cases c8:(rd l0 x13_1)=(rd l1 x13_1)
        ·rw [if_pos c8] at H
         have c8b0:((rd l0 x13_1) == (rd l1 x13_1))=true:=beq_iff_eq.mpr c8
         have c8b1:((rd l0 x13_1) != (rd l1 x13_1))=false:=bne_eq_false_iff_eq.mpr c8
         clear c8
         have H':=zm H
         clear H
         have p275:0≤(x13_1:Int):=of_decide_eq_true (by first|(with_reducible assumption)|assumption)
         have q275:x13_1 < (l0.length:Int):=of_decide_eq_true (by first|(with_reducible assumption)|assumption)
         obtain ⟨ad275,e275,hx275_0⟩:=Kd.at_int HR0.out x13_1 p275 q275
         cases e275
         replace p275:=eq_true p275
         replace q275:=eq_true q275
         have p276:0≤(x13_1:Int):=of_decide_eq_true (by first|(with_reducible assumption)|assumption)
         have q276:x13_1 < (l1.length:Int):=of_decide_eq_true (by first|(with_reducible assumption)|assumption)
         obtain ⟨ad276,e276,hx276_0⟩:=Kd.at_int HR1.out x13_1 p276 q276
         cases e276
         replace p276:=eq_true p276
         replace q276:=eq_true q276
         go_wp2
         repeat (go_quiet (fail);try go_wp2)
         go_roundg k1
         case measure=>have:=HK1.out;omega
         case rel=>exact ⟨(wrap64 (x13_1 + 1)),(by first|rfl|(simp;done)|(simp [*];done)),H',⟨by have:=HK1.out;omega⟩,by repeat (first|exact Drawn0.refl _|apply Drawn0.step)⟩
        ·rw [if_neg c8] at H
         have c8b0:((rd l0 x13_1) == (rd l1 x13_1))=false:=beq_eq_false_iff_ne.mpr c8
         have c8b1:((rd l0 x13_1) != (rd l1 x13_1))=true:=bne_iff_ne.mpr c8
         obtain rfl:=Option.some.inj H
         have p275:0≤(x13_1:Int):=of_decide_eq_true (by first|(with_reducible assumption)|assumption)
         have q275:x13_1 < (l0.length:Int):=of_decide_eq_true (by first|(with_reducible assumption)|assumption)
         obtain ⟨ad275,e275,hx275_0⟩:=Kd.at_int HR0.out x13_1 p275 q275
         cases e275
         replace p275:=eq_true p275
         replace q275:=eq_true q275
         have p276:0≤(x13_1:Int):=of_decide_eq_true (by first|(with_reducible assumption)|assumption)
         have q276:x13_1 < (l1.length:Int):=of_decide_eq_true (by first|(with_reducible assumption)|assumption)
         obtain ⟨ad276,e276,hx276_0⟩:=Kd.at_int HR1.out x13_1 p276 q276
         cases e276
         replace p276:=eq_true p276
         replace q276:=eq_true q276
         go_wp2
         repeat (go_quiet (fail);try go_wp2)
         go_ret
         exact ⟨by first|rfl|(simp;done)|(simp [*];done),by repeat (first|exact Drawn0.refl _|apply Drawn0.step)⟩
       ·rw [if_neg c7] at H
        exact absurd H (by simp)
      ·rw [if_neg c6] at H
       exact absurd H (by simp)
     ·rw [if_neg c5] at H
      exact absurd H (by simp)
    ·rw [if_neg c4] at H
     have c4b0:decide (x13_1 < (l0.length:Int))=false:=decide_eq_false c4
     clear c4
     obtain rfl:=Option.some.inj H
     go_wp2
     repeat (go_quiet (fail);try go_wp2)
     go_ret
     exact ⟨by first|rfl|(simp;done)|(simp [*];done),by repeat (first|exact Drawn0.refl _|apply Drawn0.step)⟩
 ·rw [if_neg c3] at H
  have c3b0:((l0.length:Int) == (l1.length:Int))=false:=beq_eq_false_iff_ne.mpr c3
  have c3b1:((l0.length:Int) != (l1.length:Int))=true:=bne_iff_ne.mpr c3
  have c3b2:(l0.length == l1.length)=false:=by first|simpa using c3|(simp at c3 ⊢;omega)
  obtain rfl:=Option.some.inj H
  go_enter Try.func27,Try.ntmps27
  go_wp2
  repeat (go_quiet (fail);try go_wp2)
  go_ret
  exact ⟨by first|rfl|(simp;done)|(simp [*];done),by repeat (first|exact Drawn0.refl _|apply Drawn0.step)⟩
def slices_Equal_int64_int64.l0:Nat → List Int → List Int → Int → Int → Option (Bool)
 | 0,_,_,_,_=>none
 | k + 1,x0,x1,x12,x13=>if x13 < x12 then (if 0≤x13 then (if x13 < (x0.length:Int) then (if x13 < (x1.length:Int) then (if (rd x0 x13)=(rd x1 x13) then (slices_Equal_int64_int64.l0 k x0 x1 x12 (wrap64 (x13 + 1))) else (some false)) else (none)) else (none)) else (none)) else (some true)
def slices_Equal_int64_int64.f (k:Nat) (l0:List Int) (l1:List Int):Option (Bool):=if (l0.length:Int)=(l1.length:Int) then (slices_Equal_int64_int64.l0 k l0 l1 (l0.length:Int) 0) else (some false)
set_option maxHeartbeats 8000000 in
set_option maxRecDepth 100000 in
theorem slices_Equal_int64_int64.calls (k:Nat) (A0:Option Addr) (c0:Nat) (l0:List Int) (A1:Option Addr) (c1:Nat) (l1:List Int) (r:Bool) (w:World) (hr0:Kd.C (Kd.int .i64) w A0 l0.length l0) (hc0:l0.length≤c0) (hr1:Kd.C (Kd.int .i64) w A1 l1.length l1) (hc1:l1.length≤c1) (h:slices_Equal_int64_int64.f k l0 l1=some r) :
  Calls Try.prog 40 #[.slice A0 l0.length c0,.slice A1 l1.length c1] w fun e w'=>e=.returned (.bool r)∧Drawn0 w w':=by
 have HR0:=zm hr0
 have HC0:=zm hc0
 clear hr0 hc0
 have HR1:=zm hr1
 have HC1:=zm hc1
 clear hr1 hc1
 have H:(if (l0.length:Int)=(l1.length:Int) then (slices_Equal_int64_int64.l0 k l0 l1 (l0.length:Int) 0) else (some false))=some r:=h
 clear h
 by_cases c3:(l0.length:Int)=(l1.length:Int)
 ·rw [if_pos c3] at H
  have c3b0:((l0.length:Int) == (l1.length:Int))=true:=beq_iff_eq.mpr c3
  have c3b1:((l0.length:Int) != (l1.length:Int))=false:=bne_eq_false_iff_eq.mpr c3
  have c3b2:(l0.length == l1.length)=true:=by first|simpa using c3|(simp at c3 ⊢;omega)
  clear c3
  have H':=zm H
  clear H
  go_enter Try.func40,Try.ntmps40
  go_wp2
  repeat (go_quiet (fail);try go_wp2)
  go_loopg [13] k (fun kq v13 w'=>∃ (x13_1:Int),v13=.int .i64 x13_1∧Aside0 (slices_Equal_int64_int64.l0 kq l0 l1 (l0.length:Int) x13_1=some r)∧Aside0 (kq≤k)∧Drawn0 w w')
  case atStart=>exact ⟨(0),(by first|rfl|(simp;done)|(simp [*];done)),H',⟨Nat.le_refl _⟩,by repeat (first|exact Drawn0.refl _|apply Drawn0.step)⟩
  case round =>
   clear H'
   try clear c1
   try clear p2
   try clear c3
   try clear c3b0
   try clear c3b1
   try clear c3b2
   obtain ⟨x13_1,rfl,HA,HK1,⟨m1,rfl⟩⟩:=hrel
   cases gk with
   | zero=>exact absurd HA.out (by simp [slices_Equal_int64_int64.l0])
   | succ k1 =>
    have H:=HA.out
    clear HA
    simp only [slices_Equal_int64_int64.l0] at H
    by_cases c4:x13_1 < (l0.length:Int)
    ·rw [if_pos c4] at H
     have c4b0:decide (x13_1 < (l0.length:Int))=true:=decide_eq_true c4
     clear c4
     by_cases c5:0≤x13_1
     ·rw [if_pos c5] at H
      have c5b0:decide (0≤x13_1)=true:=decide_eq_true c5
      clear c5
      by_cases c6:x13_1 < (l0.length:Int)
      ·rw [if_pos c6] at H
       have c6b0:decide (x13_1 < (l0.length:Int))=true:=decide_eq_true c6
       clear c6
       by_cases c7:x13_1 < (l1.length:Int)
       ·rw [if_pos c7] at H
        have c7b0:decide (x13_1 < (l1.length:Int))=true:=decide_eq_true c7
        clear c7
        by_cases c8:(rd l0 x13_1)=(rd l1 x13_1)
        ·rw [if_pos c8] at H
         have c8b0:((rd l0 x13_1) == (rd l1 x13_1))=true:=beq_iff_eq.mpr c8
         have c8b1:((rd l0 x13_1) != (rd l1 x13_1))=false:=bne_eq_false_iff_eq.mpr c8
         clear c8
         have H':=zm H
         clear H
         have p277:0≤(x13_1:Int):=of_decide_eq_true (by first|(with_reducible assumption)|assumption)
         have q277:x13_1 < (l0.length:Int):=of_decide_eq_true (by first|(with_reducible assumption)|assumption)
         obtain ⟨ad277,e277,hx277_0⟩:=Kd.at_int HR0.out x13_1 p277 q277
         cases e277
         replace p277:=eq_true p277
         replace q277:=eq_true q277
         have p278:0≤(x13_1:Int):=of_decide_eq_true (by first|(with_reducible assumption)|assumption)
         have q278:x13_1 < (l1.length:Int):=of_decide_eq_true (by first|(with_reducible assumption)|assumption)
         obtain ⟨ad278,e278,hx278_0⟩:=Kd.at_int HR1.out x13_1 p278 q278
         cases e278
         replace p278:=eq_true p278
         replace q278:=eq_true q278
         go_wp2
         repeat (go_quiet (fail);try go_wp2)
         go_roundg k1
         case measure=>have:=HK1.out;omega
         case rel=>exact ⟨(wrap64 (x13_1 + 1)),(by first|rfl|(simp;done)|(simp [*];done)),H',⟨by have:=HK1.out;omega⟩,by repeat (first|exact Drawn0.refl _|apply Drawn0.step)⟩
        ·rw [if_neg c8] at H
         have c8b0:((rd l0 x13_1) == (rd l1 x13_1))=false:=beq_eq_false_iff_ne.mpr c8
         have c8b1:((rd l0 x13_1) != (rd l1 x13_1))=true:=bne_iff_ne.mpr c8
         obtain rfl:=Option.some.inj H
         have p277:0≤(x13_1:Int):=of_decide_eq_true (by first|(with_reducible assumption)|assumption)
         have q277:x13_1 < (l0.length:Int):=of_decide_eq_true (by first|(with_reducible assumption)|assumption)
         obtain ⟨ad277,e277,hx277_0⟩:=Kd.at_int HR0.out x13_1 p277 q277
         cases e277
         replace p277:=eq_true p277
         replace q277:=eq_true q277
         have p278:0≤(x13_1:Int):=of_decide_eq_true (by first|(with_reducible assumption)|assumption)
         have q278:x13_1 < (l1.length:Int):=of_decide_eq_true (by first|(with_reducible assumption)|assumption)
         obtain ⟨ad278,e278,hx278_0⟩:=Kd.at_int HR1.out x13_1 p278 q278
         cases e278
         replace p278:=eq_true p278
         replace q278:=eq_true q278
         go_wp2
         repeat (go_quiet (fail);try go_wp2)
         go_ret
         exact ⟨by first|rfl|(simp;done)|(simp [*];done),by repeat (first|exact Drawn0.refl _|apply Drawn0.step)⟩
       ·rw [if_neg c7] at H
        exact absurd H (by simp)
      ·rw [if_neg c6] at H
       exact absurd H (by simp)
     ·rw [if_neg c5] at H
      exact absurd H (by simp)
    ·rw [if_neg c4] at H
     have c4b0:decide (x13_1 < (l0.length:Int))=false:=decide_eq_false c4
     clear c4
     obtain rfl:=Option.some.inj H
     go_wp2
     repeat (go_quiet (fail);try go_wp2)
     go_ret
     exact ⟨by first|rfl|(simp;done)|(simp [*];done),by repeat (first|exact Drawn0.refl _|apply Drawn0.step)⟩
 ·rw [if_neg c3] at H
  have c3b0:((l0.length:Int) == (l1.length:Int))=false:=beq_eq_false_iff_ne.mpr c3
  have c3b1:((l0.length:Int) != (l1.length:Int))=true:=bne_iff_ne.mpr c3
  have c3b2:(l0.length == l1.length)=false:=by first|simpa using c3|(simp at c3 ⊢;omega)
  obtain rfl:=Option.some.inj H
  go_enter Try.func40,Try.ntmps40
  go_wp2
  repeat (go_quiet (fail);try go_wp2)
  go_ret
  exact ⟨by first|rfl|(simp;done)|(simp [*];done),by repeat (first|exact Drawn0.refl _|apply Drawn0.step)⟩
end Go.Proofs.Ytlegmnpngcadhaa.Print
end
section
namespace Go.Proofs.Ytlegmnpngcadhaa.Print
open Go.RowKit Go.Proofs.YtlegmnpngcadhaaW.PrintWords Go.Proofs.YtlegmnpngcadhaaW.PrintLast Go.Proofs.YtlegmnpngcadhaaW.PrintMore
attribute [local go_sem] max2_int min2_int max_two min_two max_three min_three max_four min_four   -- for this text's walks alone
attribute [local go_sem ↓] Go.Proofs.Ytlegmnpngcadhaa.Sem.isSome_setCell
attribute [local go_sem] Go.Instr.field Go.asAgg
set_option linter.unusedVariables false
set_option linter.unusedSimpArgs false
def pool_Same.f (k:Nat) (l0_0:List Int) (l0_1:List Int) (l1_0:List Int) (l1_1:List Int):Option (Bool):=(slices_Equal_int_int.f k l0_0 l1_0).bind fun t281=>(if t281=true then ((slices_Equal_int64_int64.f k l0_1 l1_1).bind fun t282=>(some t282)) else (some false))
set_option maxHeartbeats 8000000 in
set_option maxRecDepth 100000 in
theorem pool_Same.calls (k:Nat) (A0_0:Option Addr) (c0_0:Nat) (l0_0:List Int) (A0_1:Option Addr) (c0_1:Nat) (l0_1:List Int) (A1_0:Option Addr) (c1_0:Nat) (l1_0:List Int) (A1_1:Option Addr) (c1_1:Nat) (l1_1:List Int) (r:Bool) (w:World) (hr0_0:Kd.C (Kd.int .i64) w A0_0 l0_0.length l0_0) (hc0_0:l0_0.length≤c0_0) (hr0_1:Kd.C (Kd.int .i64) w A0_1 l0_1.length l0_1) (hc0_1:l0_1.length≤c0_1) (hr1_0:Kd.C (Kd.int .i64) w A1_0 l1_0.length l1_0) (hc1_0:l1_0.length≤c1_0) (hr1_1:Kd.C (Kd.int .i64) w A1_1 l1_1.length l1_1) (hc1_1:l1_1.length≤c1_1) (h:pool_Same.f k l0_0 l0_1 l1_0 l1_1=some r) :
  Calls Try.prog 17 #[.agg #[.slice A0_0 l0_0.length c0_0,.slice A0_1 l0_1.length c0_1],.agg #[.slice A1_0 l1_0.length c1_0,.slice A1_1 l1_1.length c1_1]] w fun e w'=>e=.returned (.bool r)∧Below w.heap.size w w':=by
 have hu25:=Try.underlying25
 have HR0_0:=zm hr0_0
 have HC0_0:=zm hc0_0
 clear hr0_0 hc0_0
 have HR0_1:=zm hr0_1
 have HC0_1:=zm hc0_1
 clear hr0_1 hc0_1
 have HR1_0:=zm hr1_0
 have HC1_0:=zm hc1_0
 clear hr1_0 hc1_0
 have HR1_1:=zm hr1_1
 have HC1_1:=zm hc1_1
 clear hr1_1 hc1_1
 have HB:=zm (Below.refl w.heap.size w)
 have H:((slices_Equal_int_int.f k l0_0 l1_0).bind fun t281=>(if t281=true then ((slices_Equal_int64_int64.f k l0_1 l1_1).bind fun t282=>(some t282)) else (some false)))=some r:=h
 clear h
 replace H:=Option.bind_eq_some_iff.mp H
 obtain ⟨t281,A30,H⟩:=H
 replace H:(if t281=true then ((slices_Equal_int64_int64.f k l0_1 l1_1).bind fun t282=>(some t282)) else (some false))=some r:=H
 have A3:=zm A30
 clear A30
 by_cases c4:t281=true
 ·subst c4
  have H1:((slices_Equal_int64_int64.f k l0_1 l1_1).bind fun t282=>(some t282))=some r:=by rw [if_pos rfl] at H;exact H
  clear H
  have H:=H1
  clear H1
  replace H:=Option.bind_eq_some_iff.mp H
  obtain ⟨t282,A50,H⟩:=H
  replace H:(some t282)=some r:=H
  have A5:=zm A50
  clear A50
  obtain rfl:=Option.some.inj H
  go_enter Try.func17,Try.ntmps17
  go_wp2_with (first|((with_reducible refine gate_dst (N:=2) rfl ?_);refine box_event ?hg (N:=2) ?hd (cs:=#[.slice A0_0 l0_0.length c0_0,.slice A0_1 l0_1.length c0_1]) (t:=25) ?hr ?_;(case hd=>rfl);(case hg=>rfl);(case hr=>first|(go_simp;done)|(go_simp;rfl));intro gb279 hg w6 hbox hb;have n0_:=zm (below_step (by repeat (first|(with_reducible first|exact HB.out|apply zlA|apply zlN|apply zlD)|exact HB.out)) hb);have n1_:=zm (hbox);have n2_:=zm ((by rw [hg];exact (below_size (by repeat (first|(with_reducible first|exact HB.out|apply zlA|apply zlN|apply zlD)|exact HB.out))):w.heap.size≤gb279));have n3_:=zm ((by rw [hg];exact (below_size (by repeat (first|(with_reducible first|exact HB.out|apply zlA|apply zlN|apply zlD)|exact HB.out))):w.heap.size≤gb279));clear HB;have HB:=n0_;have BK279:=n1_;have GW279:=n2_;have GE279:=n3_;clear n0_ n1_ n2_ n3_;clear hb hbox hg)|((with_reducible refine gate_dst (N:=3) rfl ?_);refine box_event ?hg (N:=3) ?hd (cs:=#[.slice A1_0 l1_0.length c1_0,.slice A1_1 l1_1.length c1_1]) (t:=25) ?hr ?_;(case hd=>rfl);(case hg=>rfl);(case hr=>first|(go_simp;done)|(go_simp;rfl));intro gb280 hg w7 hbox hb;have n0_:=zm (zbB (g:=gb279) (o:=.cells #[.slice A0_0 l0_0.length c0_0,.slice A0_1 l0_1.length c0_1] 25 (0,0)) (by (with_reducible repeat (first|refine zbN ?_ _|refine zbD ?_|refine zbA ?_ _));exact BK279.out) hb);have n1_:=zm (below_step (by repeat (first|(with_reducible first|exact HB.out|apply zlA|apply zlN|apply zlD|refine zlS ?_ GE279.out)|exact HB.out)) hb);have n2_:=zm (hbox);have n3_:=zm ((by rw [hg];exact (below_size (by repeat (first|(with_reducible first|exact HB.out|apply zlA|apply zlN|apply zlD|refine zlS ?_ GE279.out)|exact HB.out))):w.heap.size≤gb280));have n4_:=zm ((by rw [hg];exact (below_size (by repeat (first|(with_reducible first|exact HB.out|apply zlA|apply zlN|apply zlD|refine zlS ?_ GE279.out)|exact HB.out))):w.heap.size≤gb280));have n5_:=zm ((by rw [hg];exact Nat.ne_of_lt (blk_lt (g:=gb279) (o:=.cells #[.slice A0_0 l0_0.length c0_0,.slice A0_1 l0_1.length c0_1] 25 (0,0)) (by (with_reducible repeat (first|refine zbN ?_ _|refine zbD ?_|refine zbA ?_ _));exact BK279.out)):gb279≠gb280));have n6_:=zm ((by rw [hg];exact Nat.ne_of_gt (blk_lt (g:=gb279) (o:=.cells #[.slice A0_0 l0_0.length c0_0,.slice A0_1 l0_1.length c0_1] 25 (0,0)) (by (with_reducible repeat (first|refine zbN ?_ _|refine zbD ?_|refine zbA ?_ _));exact BK279.out)):gb280≠gb279));clear BK279 HB;have BK279:=n0_;have HB:=n1_;have BK280:=n2_;have GW280:=n3_;have GE280:=n4_;have NB279_280:=n5_;have NB280_279:=n6_;clear n0_ n1_ n2_ n3_ n4_ n5_ n6_;clear hb hbox hg;have hnb8:=NB279_280.out;have hnc8:=NB280_279.out;have hcz9_0:w7.cell? ⟨gb279,0,none⟩=some (.slice A0_0 l0_0.length c0_0):=(blk_cell BK279.out 0).trans rfl;have hcz9_1:w7.cell? ⟨gb279,1,none⟩=some (.slice A0_1 l0_1.length c0_1):=(blk_cell BK279.out 1).trans rfl;have hfz9_0:=blk_frozen BK279.out 0;have hfz9_1:=blk_frozen BK279.out 1;have hcz10_0:w7.cell? ⟨gb280,0,none⟩=some (.slice A1_0 l1_0.length c1_0):=(blk_cell BK280.out 0).trans rfl;have hcz10_1:w7.cell? ⟨gb280,1,none⟩=some (.slice A1_1 l1_1.length c1_1):=(blk_cell BK280.out 1).trans rfl;have hfz10_0:=blk_frozen BK280.out 0;have hfz10_1:=blk_frozen BK280.out 1)|((with_reducible refine gate_callee (f:=27) rfl ?_);refine goesL_ (some 9) rfl rfl Try.func27 (by kernel_rfl) rfl #[.slice A0_0 l0_0.length c0_0,.slice A1_0 l1_0.length c1_0] rfl (by (try simp only [List.map_toArray,List.map_cons,List.map_nil]);first|done|rfl|(simp only [List.length_drop,List.length_take];rfl)) ?_;(with_reducible refine (slices_Equal_int_int.calls k _ _ l0_0 _ _ l1_0 true _ ?side1 ?side2 ?side3 ?side4 A3.out).mono ?_);(case side1=>repeat (first|exact (Kd.C_below HR0_0.out HB.out)|(with_reducible refine Kd.C_alloc ?_ _)|(with_reducible refine Kd.C_drewN ?_ _)|(with_reducible refine Kd.C_drew ?_)));(case side2=>exact HC0_0.out);(case side3=>repeat (first|exact (Kd.C_below HR1_0.out HB.out)|(with_reducible refine Kd.C_alloc ?_ _)|(with_reducible refine Kd.C_drewN ?_ _)|(with_reducible refine Kd.C_drew ?_)));(case side4=>exact HC1_0.out);rintro e w' ⟨rfl,⟨nd,rfl⟩⟩;refine ⟨_,rfl,?_⟩)|(go_at_call 40;(with_reducible refine (slices_Equal_int64_int64.calls k _ _ l0_1 _ _ l1_1 t282 _ ?side1 ?side2 ?side3 ?side4 A5.out).mono ?_);(case side1=>repeat (first|exact (Kd.C_below HR0_1.out (by repeat (first|(with_reducible first|exact HB.out|apply zlA|apply zlN|apply zlD|refine zlS ?_ GE279.out|refine zlS ?_ GE280.out)|exact HB.out)))|(with_reducible refine Kd.C_alloc ?_ _)|(with_reducible refine Kd.C_drewN ?_ _)|(with_reducible refine Kd.C_drew ?_)));(case side2=>exact HC0_1.out);(case side3=>repeat (first|exact (Kd.C_below HR1_1.out (by repeat (first|(with_reducible first|exact HB.out|apply zlA|apply zlN|apply zlD|refine zlS ?_ GE279.out|refine zlS ?_ GE280.out)|exact HB.out)))|(with_reducible refine Kd.C_alloc ?_ _)|(with_reducible refine Kd.C_drewN ?_ _)|(with_reducible refine Kd.C_drew ?_)));(case side4=>exact HC1_1.out);rintro e w' ⟨rfl,⟨nd,rfl⟩⟩))
  go_ret
  exact ⟨by first|rfl|(simp [errW_none,errW_some] <;> rfl)|(simp [*,errW_none,errW_some] <;> rfl),by repeat (first|(with_reducible first|exact HB.out|apply zlA|apply zlN|apply zlD|refine zlS ?_ GE279.out|refine zlS ?_ GE280.out)|exact HB.out)⟩
 ·replace c4:=Bool.eq_false_iff.mpr c4
  subst c4
  have H1:(some false)=some r:=by rw [if_neg (show ¬ (false=true) by decide)] at H;exact H
  clear H
  have H:=H1
  clear H1
  obtain rfl:=Option.some.inj H
  go_enter Try.func17,Try.ntmps17
  go_wp2_with (first|((with_reducible refine gate_dst (N:=2) rfl ?_);refine box_event ?hg (N:=2) ?hd (cs:=#[.slice A0_0 l0_0.length c0_0,.slice A0_1 l0_1.length c0_1]) (t:=25) ?hr ?_;(case hd=>rfl);(case hg=>rfl);(case hr=>first|(go_simp;done)|(go_simp;rfl));intro gb279 hg w11 hbox hb;have n0_:=zm (below_step (by repeat (first|(with_reducible first|exact HB.out|apply zlA|apply zlN|apply zlD)|exact HB.out)) hb);have n1_:=zm (hbox);have n2_:=zm ((by rw [hg];exact (below_size (by repeat (first|(with_reducible first|exact HB.out|apply zlA|apply zlN|apply zlD)|exact HB.out))):w.heap.size≤gb279));have n3_:=zm ((by rw [hg];exact (below_size (by repeat (first|(with_reducible first|exact HB.out|apply zlA|apply zlN|apply zlD)|exact HB.out))):w.heap.size≤gb279));clear HB;have HB:=n0_;have BK279:=n1_;have GW279:=n2_;have GE279:=n3_;clear n0_ n1_ n2_ n3_;clear hb hbox hg)|((with_reducible refine gate_dst (N:=3) rfl ?_);refine box_event ?hg (N:=3) ?hd (cs:=#[.slice A1_0 l1_0.length c1_0,.slice A1_1 l1_1.length c1_1]) (t:=25) ?hr ?_;(case hd=>rfl);(case hg=>rfl);(case hr=>first|(go_simp;done)|(go_simp;rfl));intro gb280 hg w12 hbox hb;have n0_:=zm (zbB (g:=gb279) (o:=.cells #[.slice A0_0 l0_0.length c0_0,.slice A0_1 l0_1.length c0_1] 25 (0,0)) (by (with_reducible repeat (first|refine zbN ?_ _|refine zbD ?_|refine zbA ?_ _));exact BK279.out) hb);have n1_:=zm (below_step (by repeat (first|(with_reducible first|exact HB.out|apply zlA|apply zlN|apply zlD|refine zlS ?_ GE279.out)|exact HB.out)) hb);have n2_:=zm (hbox);have n3_:=zm ((by rw [hg];exact (below_size (by repeat (first|(with_reducible first|exact HB.out|apply zlA|apply zlN|apply zlD|refine zlS ?_ GE279.out)|exact HB.out))):w.heap.size≤gb280));have n4_:=zm ((by rw [hg];exact (below_size (by repeat (first|(with_reducible first|exact HB.out|apply zlA|apply zlN|apply zlD|refine zlS ?_ GE279.out)|exact HB.out))):w.heap.size≤gb280));have n5_:=zm ((by rw [hg];exact Nat.ne_of_lt (blk_lt (g:=gb279) (o:=.cells #[.slice A0_0 l0_0.length c0_0,.slice A0_1 l0_1.length c0_1] 25 (0,0)) (by (with_reducible repeat (first|refine zbN ?_ _|refine zbD ?_|refine zbA ?_ _));exact BK279.out)):gb279≠gb280));have n6_:=zm ((by rw [hg];exact Nat.ne_of_gt (blk_lt (g:=gb279) (o:=.cells #[.slice A0_0 l0_0.length c0_0,.slice A0_1 l0_1.length c0_1] 25 (0,0)) (by (with_reducible repeat (first|refine zbN ?_ _|refine zbD ?_|refine zbA ?_ _));exact BK279.out)):gb280≠gb279));clear BK279 HB;have BK279:=n0_;have HB:=n1_;have BK280:=n2_;have GW280:=n3_;have GE280:=n4_;have NB279_280:=n5_;have NB280_279:=n6_;clear n0_ n1_ n2_ n3_ n4_ n5_ n6_;clear hb hbox hg;have hnb13:=NB279_280.out;have hnc13:=NB280_279.out;have hcz14_0:w12.cell? ⟨gb279,0,none⟩=some (.slice A0_0 l0_0.length c0_0):=(blk_cell BK279.out 0).trans rfl;have hcz14_1:w12.cell? ⟨gb279,1,none⟩=some (.slice A0_1 l0_1.length c0_1):=(blk_cell BK279.out 1).trans rfl;have hfz14_0:=blk_frozen BK279.out 0;have hfz14_1:=blk_frozen BK279.out 1;have hcz15_0:w12.cell? ⟨gb280,0,none⟩=some (.slice A1_0 l1_0.length c1_0):=(blk_cell BK280.out 0).trans rfl;have hcz15_1:w12.cell? ⟨gb280,1,none⟩=some (.slice A1_1 l1_1.length c1_1):=(blk_cell BK280.out 1).trans rfl;have hfz15_0:=blk_frozen BK280.out 0;have hfz15_1:=blk_frozen BK280.out 1)|((with_reducible refine gate_callee (f:=27) rfl ?_);refine goesL_ (some 9) rfl rfl Try.func27 (by kernel_rfl) rfl #[.slice A0_0 l0_0.length c0_0,.slice A1_0 l1_0.length c1_0] rfl (by (try simp only [List.map_toArray,List.map_cons,List.map_nil]);first|done|rfl|(simp only [List.length_drop,List.length_take];rfl)) ?_;(with_reducible refine (slices_Equal_int_int.calls k _ _ l0_0 _ _ l1_0 false _ ?side1 ?side2 ?side3 ?side4 A3.out).mono ?_);(case side1=>repeat (first|exact (Kd.C_below HR0_0.out HB.out)|(with_reducible refine Kd.C_alloc ?_ _)|(with_reducible refine Kd.C_drewN ?_ _)|(with_reducible refine Kd.C_drew ?_)));(case side2=>exact HC0_0.out);(case side3=>repeat (first|exact (Kd.C_below HR1_0.out HB.out)|(with_reducible refine Kd.C_alloc ?_ _)|(with_reducible refine Kd.C_drewN ?_ _)|(with_reducible refine Kd.C_drew ?_)));(case side4=>exact HC1_0.out);rintro e w' ⟨rfl,⟨nd,rfl⟩⟩;refine ⟨_,rfl,?_⟩))
  go_ret
  exact ⟨by first|rfl|(simp [errW_none,errW_some] <;> rfl)|(simp [*,errW_none,errW_some] <;> rfl),by repeat (first|(with_reducible first|exact HB.out|apply zlA|apply zlN|apply zlD|refine zlS ?_ GE279.out|refine zlS ?_ GE280.out)|exact HB.out)⟩
end Go.Proofs.Ytlegmnpngcadhaa.Print
end
section
namespace Go.Proofs.Ytlegmnpngcadhaa.Print
open Go.RowKit Go.Proofs.YtlegmnpngcadhaaW.PrintWords Go.Proofs.YtlegmnpngcadhaaW.PrintLast Go.Proofs.YtlegmnpngcadhaaW.PrintMore
attribute [local go_sem] max2_int min2_int max_two min_two max_three min_three max_four min_four   -- for this text's walks alone
attribute [local go_sem ↓] Go.Proofs.Ytlegmnpngcadhaa.Sem.isSome_setCell
attribute [local go_sem] Go.Instr.field Go.asAgg
set_option linter.unusedVariables false
set_option linter.unusedSimpArgs false
def slipwaylaw04_PoolRoles.l0:Nat → Int → Int → List Int → List Int → List Int → List Int → Option (Bool)
 | 0,_,_,_,_,_,_=>none
 | k + 1,x5,x6,x284000,x284001,x285000,x285001=>if x6≤6 then ((pool_Count.f k x284000 x284001 x6).bind fun t285=>(slipwaylaw04_PoolRoles.l0 k (wrap64 (x5 + t285)) (wrap64 (x6 + 1)) x284000 x284001 x285000 x285001)) else ((slipwaylaw04_begun.f k).bind fun t286=>(if t286=true then ((pool_Check.f k x284000 x284001).bind fun t287=>(if t287=0 then (if x5=(x284000.length:Int) then ((pool_Same.f k x284000 x284001 x285000 x285001).bind fun t288=>((slipwayref04_Same.f k x284000 x284001 x285000 x285001).bind fun t289=>(some (t288 == t289)))) else (none)) else ((pool_Same.f k x284000 x284001 x285000 x285001).bind fun t290=>((slipwayref04_Same.f k x284000 x284001 x285000 x285001).bind fun t291=>(some (t290 == t291)))))) else (none)))
def slipwaylaw04_PoolRoles.f (k:Nat) (l0_0:List Int) (l0_1:List Int) (l1_0:List Int) (l1_1:List Int):Option (Bool):=slipwaylaw04_PoolRoles.l0 k 0 1 l0_0 l0_1 l1_0 l1_1
def slipwaylaw04_PoolRoles.T6:Bool × List (List Nat × List Nat):=(true,[([],[]),([0,0],[0]),([1],[1]),([2,1,1],[1,2]),([3,1],[1,3]),([4,3,1],[1,4]),([5],[5]),([5],[5]),([7,5],[5,7]),([8,5],[5,8]),([6,9,5],[5,6,9]),([5,10,1],[1,5,10]),([1,11],[1,11]),([12,5],[12]),([13],[13]),([13],[13]),([14,15,13,13],[13,14,15]),([13],[13]),([13],[13]),([17,18,16,13],[13,17,18]),([16,19,13],[13,16,19]),([13,20],[13,20]),([21,19,0,1,2,3,4,5,6,7,8,9,10,11,12,13,14,15,16,17,18,19,20,21],[21])])
def slipwaylaw04_PoolRoles.B6:List Nat:=[0,1,3,7,15,31,63,63,191,447,1023,2047,4095,8191,16383,16383,65535,16383,16383,524287,1048575,2097151,4194303]
theorem slipwaylaw04_PoolRoles.tab6:rtab .any (opsOf Try.f4 6)=slipwaylaw04_PoolRoles.T6:=by kernel_rfl
theorem slipwaylaw04_PoolRoles.bits6:waitsOk slipwaylaw04_PoolRoles.T6.2 slipwaylaw04_PoolRoles.B6=true:=by kernel_rfl
set_option maxHeartbeats 8000000 in
set_option maxRecDepth 100000 in
theorem slipwaylaw04_PoolRoles.calls (k:Nat) (A0_0:Option Addr) (c0_0:Nat) (l0_0:List Int) (A0_1:Option Addr) (c0_1:Nat) (l0_1:List Int) (A1_0:Option Addr) (c1_0:Nat) (l1_0:List Int) (A1_1:Option Addr) (c1_1:Nat) (l1_1:List Int) (r:Bool) (w:World) (hr0_0:Kd.C (Kd.int .i64) w A0_0 l0_0.length l0_0) (hc0_0:l0_0.length≤c0_0) (hr0_1:Kd.C (Kd.int .i64) w A0_1 l0_1.length l0_1) (hc0_1:l0_1.length≤c0_1) (hr1_0:Kd.C (Kd.int .i64) w A1_0 l1_0.length l1_0) (hc1_0:l1_0.length≤c1_0) (hr1_1:Kd.C (Kd.int .i64) w A1_1 l1_1.length l1_1) (hc1_1:l1_1.length≤c1_1) (h:slipwaylaw04_PoolRoles.f k l0_0 l0_1 l1_0 l1_1=some r) :
  Calls Try.prog 4 #[.agg #[.slice A0_0 l0_0.length c0_0,.slice A0_1 l0_1.length c0_1],.agg #[.slice A1_0 l1_0.length c1_0,.slice A1_1 l1_1.length c1_1]] w fun e w'=>e=.returned (.bool r)∧Below w.heap.size w w':=by
 have hu25:=Try.underlying25
 have HR0_0:=zm hr0_0
 have HC0_0:=zm hc0_0
 clear hr0_0 hc0_0
 have HR0_1:=zm hr0_1
 have HC0_1:=zm hc0_1
 clear hr0_1 hc0_1
 have HR1_0:=zm hr1_0
 have HC1_0:=zm hc1_0
 clear hr1_0 hc1_0
 have HR1_1:=zm hr1_1
 have HC1_1:=zm hc1_1
 clear hr1_1 hc1_1
 have HB:=zm (Below.refl w.heap.size w)
 have H:(slipwaylaw04_PoolRoles.l0 k 0 1 l0_0 l0_1 l1_0 l1_1)=some r:=h
 clear h
 have H':=zm H
 clear H
 go_enter Try.func4,Try.ntmps4
 go_wp2_with (first|((with_reducible refine gate_dst (N:=2) rfl ?_);(try (refine gate_guard (by rfl) ?_;dsimp only));refine box_event ?hg (N:=2) ?hd (cs:=#[.slice A0_0 l0_0.length c0_0,.slice A0_1 l0_1.length c0_1]) (t:=25) ?hr ?_;(case hd=>rfl);(case hg=>rfl);(case hr=>first|(go_simp;done)|(go_simp;rfl));intro gb283 hg w3 hbox hb;have n0_:=zm (below_step (by repeat (first|(with_reducible first|exact HB.out|apply zlA|apply zlN|apply zlD)|exact HB.out)) hb);have n1_:=zm (hbox);have n2_:=zm ((by rw [hg];exact (below_size (by repeat (first|(with_reducible first|exact HB.out|apply zlA|apply zlN|apply zlD)|exact HB.out))):w.heap.size≤gb283));have n3_:=zm ((by rw [hg];exact (below_size (by repeat (first|(with_reducible first|exact HB.out|apply zlA|apply zlN|apply zlD)|exact HB.out))):w.heap.size≤gb283));clear HB;have HB:=n0_;have BK283:=n1_;have GW283:=n2_;have GE283:=n3_;clear n0_ n1_ n2_ n3_;clear hb hbox hg)|((with_reducible refine gate_dst (N:=3) rfl ?_);(try (refine gate_guard (by rfl) ?_;dsimp only));refine box_event ?hg (N:=3) ?hd (cs:=#[.slice A1_0 l1_0.length c1_0,.slice A1_1 l1_1.length c1_1]) (t:=25) ?hr ?_;(case hd=>rfl);(case hg=>rfl);(case hr=>first|(go_simp;done)|(go_simp;rfl));intro gb284 hg w4 hbox hb;have n0_:=zm (zbB (g:=gb283) (o:=.cells #[.slice A0_0 l0_0.length c0_0,.slice A0_1 l0_1.length c0_1] 25 (0,0)) (by (with_reducible repeat (first|refine zbN ?_ _|refine zbD ?_|refine zbA ?_ _));exact BK283.out) hb);have n1_:=zm (below_step (by repeat (first|(with_reducible first|exact HB.out|apply zlA|apply zlN|apply zlD|refine zlS ?_ GE283.out)|exact HB.out)) hb);have n2_:=zm (hbox);have n3_:=zm ((by rw [hg];exact (below_size (by repeat (first|(with_reducible first|exact HB.out|apply zlA|apply zlN|apply zlD|refine zlS ?_ GE283.out)|exact HB.out))):w.heap.size≤gb284));have n4_:=zm ((by rw [hg];exact (below_size (by repeat (first|(with_reducible first|exact HB.out|apply zlA|apply zlN|apply zlD|refine zlS ?_ GE283.out)|exact HB.out))):w.heap.size≤gb284));have n5_:=zm ((by rw [hg];exact Nat.ne_of_lt (blk_lt (g:=gb283) (o:=.cells #[.slice A0_0 l0_0.length c0_0,.slice A0_1 l0_1.length c0_1] 25 (0,0)) (by (with_reducible repeat (first|refine zbN ?_ _|refine zbD ?_|refine zbA ?_ _));exact BK283.out)):gb283≠gb284));have n6_:=zm ((by rw [hg];exact Nat.ne_of_gt (blk_lt (g:=gb283) (o:=.cells #[.slice A0_0 l0_0.length c0_0,.slice A0_1 l0_1.length c0_1] 25 (0,0)) (by (with_reducible repeat (first|refine zbN ?_ _|refine zbD ?_|refine zbA ?_ _));exact BK283.out)):gb284≠gb283));clear BK283 HB;have BK283:=n0_;have HB:=n1_;have BK284:=n2_;have GW284:=n3_;have GE284:=n4_;have NB283_284:=n5_;have NB284_283:=n6_;clear n0_ n1_ n2_ n3_ n4_ n5_ n6_;clear hb hbox hg))
 go_loopg [5,6] k (fun kq v5 v6 w'=>∃ (x5_1:Int) (x6_1:Int),v5=.int .i64 x5_1∧v6=.int .i64 x6_1∧Aside0 (slipwaylaw04_PoolRoles.l0 kq x5_1 x6_1 l0_0 l0_1 l1_0 l1_1=some r)∧Aside0 (kq≤k)∧Aside0 (w'.heap[gb283]?=some (.cells #[(.slice A0_0 l0_0.length c0_0),(.slice A0_1 l0_1.length c0_1)] 25 (0,0)))∧Aside0 (w'.heap[gb284]?=some (.cells #[(.slice A1_0 l1_0.length c1_0),(.slice A1_1 l1_1.length c1_1)] 25 (0,0)))∧Aside0 (Below w.heap.size w w'))
 case atStart=>exact ⟨(0),(1),(by first|rfl|(simp;done)|(simp [*];done)),(by first|rfl|(simp;done)|(simp [*];done)),H',⟨Nat.le_refl _⟩,⟨by (with_reducible repeat (first|refine zbN ?_ _|refine zbD ?_|refine zbA ?_ _));exact BK283.out⟩,⟨by (with_reducible repeat (first|refine zbN ?_ _|refine zbD ?_|refine zbA ?_ _));exact BK284.out⟩,⟨by repeat (first|(with_reducible first|exact HB.out|apply zlA|apply zlN|apply zlD|refine zlS ?_ GE283.out|refine zlS ?_ GE284.out)|exact HB.out)⟩⟩
 case round =>
  clear H'
  try clear c1
  try clear p2
  try clear c4
  obtain ⟨x5_1,x6_1,rfl,rfl,HA,HK1,BK283,BK284,HB⟩:=hrel
  cases gk with
  | zero=>exact absurd HA.out (by simp [slipwaylaw04_PoolRoles.l0])
  | succ k1 =>
   have H:=HA.out
   clear HA
   simp only [slipwaylaw04_PoolRoles.l0] at H
   by_cases c5:x6_1≤6
   ·rw [if_pos c5] at H
    have c5b0:decide (x6_1≤6)=true:=decide_eq_true c5
    clear c5
    replace H:=Option.bind_eq_some_iff.mp H
    obtain ⟨t285,A60,H⟩:=H
    replace H:(slipwaylaw04_PoolRoles.l0 k1 (wrap64 (x5_1 + t285)) (wrap64 (x6_1 + 1)) l0_0 l0_1 l1_0 l1_1)=some r:=H
    have A6:=zm A60
    clear A60
    have H':=zm H
    clear H
    have hnb7:=NB283_284.out
    have hnc7:=NB284_283.out
    have hcz8_0:wr.cell? ⟨gb283,0,none⟩=some (.slice A0_0 l0_0.length c0_0):=(blk_cell BK283.out 0).trans rfl
    have hcz8_1:wr.cell? ⟨gb283,1,none⟩=some (.slice A0_1 l0_1.length c0_1):=(blk_cell BK283.out 1).trans rfl
    have hfz8_0:=blk_frozen BK283.out 0
    have hfz8_1:=blk_frozen BK283.out 1
    go_wp2_with (first|((with_reducible refine gate_callee (f:=16) rfl ?_);refine goesL_ (some 14) rfl rfl Try.func16 (by kernel_rfl) rfl #[.agg #[.slice A0_0 l0_0.length c0_0,.slice A0_1 l0_1.length c0_1],.int .i64 x6_1] rfl (by (try simp only [List.map_toArray,List.map_cons,List.map_nil]);first|done|rfl|(simp only [List.length_drop,List.length_take];rfl)) ?_;(with_reducible refine (pool_Count.calls k1 _ _ l0_0 _ _ l0_1 x6_1 t285 _ ?side1 ?side2 ?side3 ?side4 A6.out).mono ?_);(case side1=>repeat (first|exact (Kd.C_below HR0_0.out HB.out)|(with_reducible refine Kd.C_alloc ?_ _)|(with_reducible refine Kd.C_drewN ?_ _)|(with_reducible refine Kd.C_drew ?_)));(case side2=>exact HC0_0.out);(case side3=>repeat (first|exact (Kd.C_below HR0_1.out HB.out)|(with_reducible refine Kd.C_alloc ?_ _)|(with_reducible refine Kd.C_drewN ?_ _)|(with_reducible refine Kd.C_drew ?_)));(case side4=>exact HC0_1.out);rintro e w9 ⟨rfl,hb⟩;refine ⟨_,rfl,?_⟩;have n0_:=zm (zbB (g:=gb283) (o:=.cells #[.slice A0_0 l0_0.length c0_0,.slice A0_1 l0_1.length c0_1] 25 (0,0)) (by (with_reducible repeat (first|refine zbN ?_ _|refine zbD ?_|refine zbA ?_ _));exact BK283.out) hb);have n1_:=zm (zbB (g:=gb284) (o:=.cells #[.slice A1_0 l1_0.length c1_0,.slice A1_1 l1_1.length c1_1] 25 (0,0)) (by (with_reducible repeat (first|refine zbN ?_ _|refine zbD ?_|refine zbA ?_ _));exact BK284.out) hb);have n2_:=zm (below_step (by repeat (first|(with_reducible first|exact HB.out|apply zlA|apply zlN|apply zlD|refine zlS ?_ GE283.out|refine zlS ?_ GE284.out)|exact HB.out)) hb);clear BK283 BK284 HB;have BK283:=n0_;have BK284:=n1_;have HB:=n2_;clear n0_ n1_ n2_;(try clear hb);(try clear hb2);(try clear hk);(try clear hi)))
    go_roundg k1
    case measure=>have:=HK1.out;omega
    case rel=>exact ⟨(wrap64 (x5_1 + t285)),(wrap64 (x6_1 + 1)),(by first|rfl|(simp;done)|(simp [*];done)),(by first|rfl|(simp;done)|(simp [*];done)),H',⟨by have:=HK1.out;omega⟩,⟨by (with_reducible repeat (first|refine zbN ?_ _|refine zbD ?_|refine zbA ?_ _));exact BK283.out⟩,⟨by (with_reducible repeat (first|refine zbN ?_ _|refine zbD ?_|refine zbA ?_ _));exact BK284.out⟩,⟨by repeat (first|(with_reducible first|exact HB.out|apply zlA|apply zlN|apply zlD|refine zlS ?_ GE283.out|refine zlS ?_ GE284.out)|exact HB.out)⟩⟩
   ·rw [if_neg c5] at H
    have c5b0:decide (x6_1≤6)=false:=decide_eq_false c5
    clear c5
    replace H:=Option.bind_eq_some_iff.mp H
    obtain ⟨t286,A100,H⟩:=H
    replace H:(if t286=true then ((pool_Check.f k1 l0_0 l0_1).bind fun t287=>(if t287=0 then (if x5_1=(l0_0.length:Int) then ((pool_Same.f k1 l0_0 l0_1 l1_0 l1_1).bind fun t288=>((slipwayref04_Same.f k1 l0_0 l0_1 l1_0 l1_1).bind fun t289=>(some (t288 == t289)))) else (none)) else ((pool_Same.f k1 l0_0 l0_1 l1_0 l1_1).bind fun t290=>((slipwayref04_Same.f k1 l0_0 l0_1 l1_0 l1_1).bind fun t291=>(some (t290 == t291)))))) else (none))=some r:=H
    have A10:=zm A100
    clear A100
    by_cases c11:t286=true
    ·subst c11
     have H1:((pool_Check.f k1 l0_0 l0_1).bind fun t287=>(if t287=0 then (if x5_1=(l0_0.length:Int) then ((pool_Same.f k1 l0_0 l0_1 l1_0 l1_1).bind fun t288=>((slipwayref04_Same.f k1 l0_0 l0_1 l1_0 l1_1).bind fun t289=>(some (t288 == t289)))) else (none)) else ((pool_Same.f k1 l0_0 l0_1 l1_0 l1_1).bind fun t290=>((slipwayref04_Same.f k1 l0_0 l0_1 l1_0 l1_1).bind fun t291=>(some (t290 == t291))))))=some r:=by rw [if_pos rfl] at H;exact H
     clear H
     have H:=H1
     clear H1
     replace H:=Option.bind_eq_some_iff.mp H
     obtain ⟨t287,A120,H⟩:=H
     replace H:(if t287=0 then (if x5_1=(l0_0.length:Int) then ((pool_Same.f k1 l0_0 l0_1 l1_0 l1_1).bind fun t288=>((slipwayref04_Same.f k1 l0_0 l0_1 l1_0 l1_1).bind fun t289=>(some (t288 == t289)))) else (none)) else ((pool_Same.f k1 l0_0 l0_1 l1_0 l1_1).bind fun t290=>((slipwayref04_Same.f k1 l0_0 l0_1 l1_0 l1_1).bind fun t291=>(some (t290 == t291)))))=some r:=H
     have A12:=zm A120
     clear A120
     by_cases c13:t287=0
     ·rw [if_pos c13] at H
      have c13b0:(t287 == 0)=true:=beq_iff_eq.mpr c13
      have c13b1:(t287 != 0)=false:=bne_eq_false_iff_eq.mpr c13
      clear c13
      by_cases c14:x5_1=(l0_0.length:Int)
      ·rw [if_pos c14] at H
       have c14b0:(x5_1 == (l0_0.length:Int))=true:=beq_iff_eq.mpr c14
       have c14b1:(x5_1 != (l0_0.length:Int))=false:=bne_eq_false_iff_eq.mpr c14
       clear c14
       replace H:=Option.bind_eq_some_iff.mp H
       obtain ⟨t288,A150,H⟩:=H
       replace H:((slipwayref04_Same.f k1 l0_0 l0_1 l1_0 l1_1).bind fun t289=>(some (t288 == t289)))=some r:=H
       have A15:=zm A150
       clear A150
       replace H:=Option.bind_eq_some_iff.mp H
       obtain ⟨t289,A160,H⟩:=H
       replace H:(some (t288 == t289))=some r:=H
       have A16:=zm A160
       clear A160
       obtain rfl:=Option.some.inj H
       try go_wp2
       have n0_:=zm (zbD BK283.out)
       have n1_:=zm (zbD BK284.out)
       have n2_:=zm (zlD HB.out)
       clear BK283 BK284 HB
       have BK283:=n0_
       have BK284:=n1_
       have HB:=n2_
       clear n0_ n1_ n2_
       refine start_ (n:=23) (S:=fun w'=>w'.cell? ⟨gb283,0,none⟩=some (.slice A0_0 l0_0.length c0_0)∧w'.cell? ⟨gb283,1,none⟩=some (.slice A0_1 l0_1.length c0_1)∧w'.cell? ⟨gb284,0,none⟩=some (.slice A1_0 l1_0.length c1_0)∧w'.cell? ⟨gb284,1,none⟩=some (.slice A1_1 l1_1.length c1_1)) (ds:=[]) #[false,false,false,false,false,false,false,false,false,false,false,false,false,false,false,false,false,false,false,false,false,false,false] (by kernel_rfl) rfl rfl ⟨(blk_cell BK283.out 0).trans rfl,(blk_cell BK283.out 1).trans rfl,(blk_cell BK284.out 0).trans rfl,(blk_cell BK284.out 1).trans rfl⟩ (fun hHeld=>?_);refine with_tabW slipwaylaw04_PoolRoles.tab6 slipwaylaw04_PoolRoles.bits6 (fun HT_ HW_=>?_)
       generalize wr.drew=w17 at BK283 BK284 HB hHeld ⊢
       refine one_ (i:=0) (N:=some 16) #[true,false,false,false,false,false,false,false,false,false,false,false,false,false,false,false,false,false,false,false,false,false,false] rfl rfl (one_of HT_.out (by kernel_rfl)) (by decide) (fun K hK=>?_)
       refine goes_ Try.func12 (by kernel_rfl) rfl #[] (by rfl) rfl rfl (by (try simp only [List.map_toArray,List.map_cons,List.map_nil]);first|done|rfl|(simp only [List.length_drop,List.length_take];rfl)) ?_
       with_reducible refine (slipwaylaw04_begun.calls k1  true _ A10.out).mono ?_
       rintro e w18 ⟨rfl,hb⟩
       refine ⟨_,rfl,?_⟩
       have n0_:=zm (zbB (g:=gb283) (o:=.cells #[.slice A0_0 l0_0.length c0_0,.slice A0_1 l0_1.length c0_1] 25 (0,0)) (by (with_reducible repeat (first|refine zbN ?_ _|refine zbD ?_|refine zbA ?_ _));exact BK283.out) hb)
       have n1_:=zm (zbB (g:=gb284) (o:=.cells #[.slice A1_0 l1_0.length c1_0,.slice A1_1 l1_1.length c1_1] 25 (0,0)) (by (with_reducible repeat (first|refine zbN ?_ _|refine zbD ?_|refine zbA ?_ _));exact BK284.out) hb)
       have n2_:=zm (below_step (by repeat (first|(with_reducible first|exact HB.out|apply zlA|apply zlN|apply zlD|refine zlS ?_ GE283.out|refine zlS ?_ GE284.out)|exact HB.out)) hb)
       clear BK283 BK284 HB
       have BK283:=n0_
       have BK284:=n1_
       have HB:=n2_
       clear n0_ n1_ n2_
       (try clear hb)
       (try clear hb2)
       (try clear hk)
       (try clear hi)
       refine hK.out _ _ ⟨(blk_cell BK283.out 0).trans rfl,(blk_cell BK283.out 1).trans rfl,(blk_cell BK284.out 0).trans rfl,(blk_cell BK284.out 1).trans rfl⟩ (fun hHeld=>?_)
       clear hK K
       refine norm_ (a':=?_) ?_ ?_
       rotate_left
       ·show Act.put _ (some 16) _=_
        simp only [Act.put,List.setIfInBounds_toArray,List.set_cons_zero,List.set_cons_succ,i64_w,i32_w]
        rfl
       refine pure_ (i:=1) (N:=some 17) (v:=?_) (a':=?_) #[true,true,false,false,false,false,false,false,false,false,false,false,false,false,false,false,false,false,false,false,false,false,false] rfl rfl (any_of HT_.out (by kernel_rfl)) (fun _ _ _ h=>h) (Or.inl ⟨by rfl,?_⟩) ?_ ?_
       rotate_left
       ·intro w'
        go_simp
        with_reducible rfl
       rotate_left
       ·simp only [Act.put,List.setIfInBounds_toArray,List.set_cons_zero,List.set_cons_succ,i64_w,i32_w]
        rfl
       refine take_ (i:=2) (N:=some 18) (v:=?_) (a':=?_) #[true,true,true,false,false,false,false,false,false,false,false,false,false,false,false,false,false,false,false,false,false,false,false] rfl rfl (take_ofW HT_.out HW_.out (by kernel_rfl)) (fun _ _ _ h=>h) (Or.inl ⟨by rfl,?_⟩) hHeld ?_ ?_
       rotate_left
       ·rintro w' ⟨s0,s1,s2,s3⟩
        go_simp
        with_reducible rfl
       rotate_left
       ·simp only [Act.put,List.setIfInBounds_toArray,List.set_cons_zero,List.set_cons_succ,i64_w,i32_w]
        rfl
       refine one_ (i:=3) (N:=some 19) #[true,true,true,true,false,false,false,false,false,false,false,false,false,false,false,false,false,false,false,false,false,false,false] rfl rfl (one_of HT_.out (by kernel_rfl)) (by decide) (fun K hK=>?_)
       refine goes_ Try.func13 (by kernel_rfl) rfl #[.agg #[.slice A0_0 l0_0.length c0_0,.slice A0_1 l0_1.length c0_1]] (by rfl) rfl rfl (by (try simp only [List.map_toArray,List.map_cons,List.map_nil]);first|done|rfl|(simp only [List.length_drop,List.length_take];rfl)) ?_
       with_reducible refine (pool_Check.calls k1 _ _ l0_0 _ _ l0_1 t287 _ ?side1 ?side2 ?side3 ?side4 A12.out).mono ?_
       (case side1=>repeat (first|exact (Kd.C_below HR0_0.out HB.out)|(with_reducible refine Kd.C_alloc ?_ _)|(with_reducible refine Kd.C_drewN ?_ _)|(with_reducible refine Kd.C_drew ?_)))
       (case side2=>exact HC0_0.out)
       (case side3=>repeat (first|exact (Kd.C_below HR0_1.out HB.out)|(with_reducible refine Kd.C_alloc ?_ _)|(with_reducible refine Kd.C_drewN ?_ _)|(with_reducible refine Kd.C_drew ?_)))
       (case side4=>exact HC0_1.out)
       rintro e w19 ⟨rfl,hb⟩
       refine ⟨_,rfl,?_⟩
       have n0_:=zm (zbB (g:=gb283) (o:=.cells #[.slice A0_0 l0_0.length c0_0,.slice A0_1 l0_1.length c0_1] 25 (0,0)) (by (with_reducible repeat (first|refine zbN ?_ _|refine zbD ?_|refine zbA ?_ _));exact BK283.out) hb)
       have n1_:=zm (zbB (g:=gb284) (o:=.cells #[.slice A1_0 l1_0.length c1_0,.slice A1_1 l1_1.length c1_1] 25 (0,0)) (by (with_reducible repeat (first|refine zbN ?_ _|refine zbD ?_|refine zbA ?_ _));exact BK284.out) hb)
       have n2_:=zm (below_step (by repeat (first|(with_reducible first|exact HB.out|apply zlA|apply zlN|apply zlD|refine zlS ?_ GE283.out|refine zlS ?_ GE284.out)|exact HB.out)) hb)
       clear BK283 BK284 HB
       have BK283:=n0_
       have BK284:=n1_
       have HB:=n2_
       clear n0_ n1_ n2_
       (try clear hb)
       (try clear hb2)
       (try clear hk)
       (try clear hi)
       refine hK.out _ _ ⟨(blk_cell BK283.out 0).trans rfl,(blk_cell BK283.out 1).trans rfl,(blk_cell BK284.out 0).trans rfl,(blk_cell BK284.out 1).trans rfl⟩ (fun hHeld=>?_)
       clear hK K
       refine norm_ (a':=?_) ?_ ?_
       rotate_left
       ·show Act.put _ (some 19) _=_
        simp only [Act.put,List.setIfInBounds_toArray,List.set_cons_zero,List.set_cons_succ,i64_w,i32_w]
        rfl
       refine pure_ (i:=4) (N:=some 20) (v:=?_) (a':=?_) #[true,true,true,true,true,false,false,false,false,false,false,false,false,false,false,false,false,false,false,false,false,false,false] rfl rfl (any_of HT_.out (by kernel_rfl)) (fun _ _ _ h=>h) (Or.inl ⟨by rfl,?_⟩) ?_ ?_
       rotate_left
       ·intro w'
        go_simp
        with_reducible rfl
       rotate_left
       ·simp only [Act.put,List.setIfInBounds_toArray,List.set_cons_zero,List.set_cons_succ,i64_w,i32_w]
        rfl
       refine pure_ (i:=5) (N:=some 21) (v:=?_) (a':=?_) #[true,true,true,true,true,true,false,false,false,false,false,false,false,false,false,false,false,false,false,false,false,false,false] rfl rfl (any_of HT_.out (by kernel_rfl)) (fun _ _ _ h=>h) (Or.inl ⟨by rfl,?_⟩) ?_ ?_
       rotate_left
       ·intro w'
        go_simp
        with_reducible rfl
       rotate_left
       ·simp only [Act.put,List.setIfInBounds_toArray,List.set_cons_zero,List.set_cons_succ,i64_w,i32_w]
        rfl
       refine pure_ (i:=6) (N:=some 22) (v:=?_) (a':=?_) #[true,true,true,true,true,true,true,false,false,false,false,false,false,false,false,false,false,false,false,false,false,false,false] rfl rfl (any_of HT_.out (by kernel_rfl)) (fun _ _ _ h=>h) (Or.inl ⟨by rfl,?_⟩) ?_ ?_
       rotate_left
       ·intro w'
        go_simp
        with_reducible rfl
       rotate_left
       ·simp only [Act.put,List.setIfInBounds_toArray,List.set_cons_zero,List.set_cons_succ,i64_w,i32_w]
        rfl
       refine pure_ (i:=7) (N:=some 23) (v:=?_) (a':=?_) #[true,true,true,true,true,true,true,true,false,false,false,false,false,false,false,false,false,false,false,false,false,false,false] rfl rfl (any_of HT_.out (by kernel_rfl)) (fun _ _ _ h=>h) (Or.inl ⟨by rfl,?_⟩) ?_ ?_
       rotate_left
       ·intro w'
        go_simp
        with_reducible rfl
       rotate_left
       ·simp only [Act.put,List.setIfInBounds_toArray,List.set_cons_zero,List.set_cons_succ,i64_w,i32_w]
        rfl
       refine take_ (i:=8) (N:=some 24) (v:=?_) (a':=?_) #[true,true,true,true,true,true,true,true,true,false,false,false,false,false,false,false,false,false,false,false,false,false,false] rfl rfl (take_ofW HT_.out HW_.out (by kernel_rfl)) (fun _ _ _ h=>h) (Or.inl ⟨by rfl,?_⟩) hHeld ?_ ?_
       rotate_left
       ·rintro w' ⟨s0,s1,s2,s3⟩
        go_simp
        with_reducible rfl
       rotate_left
       ·simp only [Act.put,List.setIfInBounds_toArray,List.set_cons_zero,List.set_cons_succ,i64_w,i32_w]
        rfl
       refine pure_ (i:=9) (N:=some 25) (v:=?_) (a':=?_) #[true,true,true,true,true,true,true,true,true,true,false,false,false,false,false,false,false,false,false,false,false,false,false] rfl rfl (any_of HT_.out (by kernel_rfl)) (fun _ _ _ h=>h) (Or.inl ⟨by rfl,?_⟩) ?_ ?_
       rotate_left
       ·intro w'
        go_simp
        with_reducible rfl
       rotate_left
       ·simp only [Act.put,List.setIfInBounds_toArray,List.set_cons_zero,List.set_cons_succ,i64_w,i32_w]
        rfl
       refine pure_ (i:=10) (N:=some 26) (v:=?_) (a':=?_) #[true,true,true,true,true,true,true,true,true,true,true,false,false,false,false,false,false,false,false,false,false,false,false] rfl rfl (any_of HT_.out (by kernel_rfl)) (fun _ _ _ h=>h) (Or.inl ⟨by rfl,?_⟩) ?_ ?_
       rotate_left
       ·intro w'
        go_simp
        with_reducible rfl
       rotate_left
       ·simp only [Act.put,List.setIfInBounds_toArray,List.set_cons_zero,List.set_cons_succ,i64_w,i32_w]
        rfl
       refine pure_ (i:=11) (N:=some 27) (v:=?_) (a':=?_) #[true,true,true,true,true,true,true,true,true,true,true,true,false,false,false,false,false,false,false,false,false,false,false] rfl rfl (any_of HT_.out (by kernel_rfl)) (fun _ _ _ h=>h) (Or.inl ⟨by rfl,?_⟩) ?_ ?_
       rotate_left
       ·intro w'
        go_simp
        with_reducible rfl
       rotate_left
       ·simp only [Act.put,List.setIfInBounds_toArray,List.set_cons_zero,List.set_cons_succ,i64_w,i32_w]
        rfl
       refine pure_ (i:=12) (N:=some 28) (v:=?_) (a':=?_) #[true,true,true,true,true,true,true,true,true,true,true,true,true,false,false,false,false,false,false,false,false,false,false] rfl rfl (any_of HT_.out (by kernel_rfl)) (fun _ _ _ h=>h) (Or.inl ⟨by rfl,?_⟩) ?_ ?_
       rotate_left
       ·intro w'
        go_simp
        with_reducible rfl
       rotate_left
       ·simp only [Act.put,List.setIfInBounds_toArray,List.set_cons_zero,List.set_cons_succ,i64_w,i32_w]
        rfl
       refine pure_ (i:=13) (N:=some 29) (v:=?_) (a':=?_) #[true,true,true,true,true,true,true,true,true,true,true,true,true,true,false,false,false,false,false,false,false,false,false] rfl rfl (any_of HT_.out (by kernel_rfl)) (fun _ _ _ h=>h) (Or.inl ⟨by rfl,?_⟩) ?_ ?_
       rotate_left
       ·intro w'
        go_simp
        with_reducible rfl
       rotate_left
       ·simp only [Act.put,List.setIfInBounds_toArray,List.set_cons_zero,List.set_cons_succ,i64_w,i32_w]
        rfl
       refine take_ (i:=14) (N:=some 30) (v:=?_) (a':=?_) #[true,true,true,true,true,true,true,true,true,true,true,true,true,true,true,false,false,false,false,false,false,false,false] rfl rfl (take_ofW HT_.out HW_.out (by kernel_rfl)) (fun _ _ _ h=>h) (Or.inl ⟨by rfl,?_⟩) hHeld ?_ ?_
       rotate_left
       ·rintro w' ⟨s0,s1,s2,s3⟩
        go_simp
        with_reducible rfl
       rotate_left
       ·simp only [Act.put,List.setIfInBounds_toArray,List.set_cons_zero,List.set_cons_succ,i64_w,i32_w]
        rfl
       refine take_ (i:=15) (N:=some 31) (v:=?_) (a':=?_) #[true,true,true,true,true,true,true,true,true,true,true,true,true,true,true,true,false,false,false,false,false,false,false] rfl rfl (take_ofW HT_.out HW_.out (by kernel_rfl)) (fun _ _ _ h=>h) (Or.inl ⟨by rfl,?_⟩) hHeld ?_ ?_
       rotate_left
       ·rintro w' ⟨s0,s1,s2,s3⟩
        go_simp
        with_reducible rfl
       rotate_left
       ·simp only [Act.put,List.setIfInBounds_toArray,List.set_cons_zero,List.set_cons_succ,i64_w,i32_w]
        rfl
       refine take_ (i:=17) (N:=some 33) (v:=?_) (a':=?_) #[true,true,true,true,true,true,true,true,true,true,true,true,true,true,true,true,false,true,false,false,false,false,false] rfl rfl (take_ofW HT_.out HW_.out (by kernel_rfl)) (fun _ _ _ h=>h) (Or.inl ⟨by rfl,?_⟩) hHeld ?_ ?_
       rotate_left
       ·rintro w' ⟨s0,s1,s2,s3⟩
        go_simp
        with_reducible rfl
       rotate_left
       ·simp only [Act.put,List.setIfInBounds_toArray,List.set_cons_zero,List.set_cons_succ,i64_w,i32_w]
        rfl
       refine take_ (i:=18) (N:=some 34) (v:=?_) (a':=?_) #[true,true,true,true,true,true,true,true,true,true,true,true,true,true,true,true,false,true,true,false,false,false,false] rfl rfl (take_ofW HT_.out HW_.out (by kernel_rfl)) (fun _ _ _ h=>h) (Or.inl ⟨by rfl,?_⟩) hHeld ?_ ?_
       rotate_left
       ·rintro w' ⟨s0,s1,s2,s3⟩
        go_simp
        with_reducible rfl
       rotate_left
       ·simp only [Act.put,List.setIfInBounds_toArray,List.set_cons_zero,List.set_cons_succ,i64_w,i32_w]
        rfl
       refine one_ (i:=16) (N:=some 32) #[true,true,true,true,true,true,true,true,true,true,true,true,true,true,true,true,true,true,true,false,false,false,false] rfl rfl (one_of HT_.out (by kernel_rfl)) (by decide) (fun K hK=>?_)
       refine goes_ Try.func17 (by kernel_rfl) rfl #[.agg #[.slice A0_0 l0_0.length c0_0,.slice A0_1 l0_1.length c0_1],.agg #[.slice A1_0 l1_0.length c1_0,.slice A1_1 l1_1.length c1_1]] (by rfl) rfl rfl (by (try simp only [List.map_toArray,List.map_cons,List.map_nil]);first|done|rfl|(simp only [List.length_drop,List.length_take];rfl)) ?_
       with_reducible refine (pool_Same.calls k1 _ _ l0_0 _ _ l0_1 _ _ l1_0 _ _ l1_1 t288 _ ?side1 ?side2 ?side3 ?side4 ?side5 ?side6 ?side7 ?side8 A15.out).mono ?_
       (case side1=>repeat (first|exact (Kd.C_below HR0_0.out HB.out)|(with_reducible refine Kd.C_alloc ?_ _)|(with_reducible refine Kd.C_drewN ?_ _)|(with_reducible refine Kd.C_drew ?_)))
       (case side2=>exact HC0_0.out)
       (case side3=>repeat (first|exact (Kd.C_below HR0_1.out HB.out)|(with_reducible refine Kd.C_alloc ?_ _)|(with_reducible refine Kd.C_drewN ?_ _)|(with_reducible refine Kd.C_drew ?_)))
       (case side4=>exact HC0_1.out)
       (case side5=>repeat (first|exact (Kd.C_below HR1_0.out HB.out)|(with_reducible refine Kd.C_alloc ?_ _)|(with_reducible refine Kd.C_drewN ?_ _)|(with_reducible refine Kd.C_drew ?_)))
       (case side6=>exact HC1_0.out)
       (case side7=>repeat (first|exact (Kd.C_below HR1_1.out HB.out)|(with_reducible refine Kd.C_alloc ?_ _)|(with_reducible refine Kd.C_drewN ?_ _)|(with_reducible refine Kd.C_drew ?_)))
       (case side8=>exact HC1_1.out)
       rintro e w20 ⟨rfl,hb⟩
       refine ⟨_,rfl,?_⟩
       have n0_:=zm (zbB (g:=gb283) (o:=.cells #[.slice A0_0 l0_0.length c0_0,.slice A0_1 l0_1.length c0_1] 25 (0,0)) (by (with_reducible repeat (first|refine zbN ?_ _|refine zbD ?_|refine zbA ?_ _));exact BK283.out) hb)
       have n1_:=zm (zbB (g:=gb284) (o:=.cells #[.slice A1_0 l1_0.length c1_0,.slice A1_1 l1_1.length c1_1] 25 (0,0)) (by (with_reducible repeat (first|refine zbN ?_ _|refine zbD ?_|refine zbA ?_ _));exact BK284.out) hb)
       have n2_:=zm (below_step (by repeat (first|(with_reducible first|exact HB.out|apply zlA|apply zlN|apply zlD|refine zlS ?_ GE283.out|refine zlS ?_ GE284.out)|exact HB.out)) hb)
       clear BK283 BK284 HB
       have BK283:=n0_
       have BK284:=n1_
       have HB:=n2_
       clear n0_ n1_ n2_
       (try clear hb)
       (try clear hb2)
       (try clear hk)
       (try clear hi)
       refine hK.out _ _ ⟨(blk_cell BK283.out 0).trans rfl,(blk_cell BK283.out 1).trans rfl,(blk_cell BK284.out 0).trans rfl,(blk_cell BK284.out 1).trans rfl⟩ (fun hHeld=>?_)
       clear hK K
       refine norm_ (a':=?_) ?_ ?_
       rotate_left
       ·show Act.put _ (some 32) _=_
        simp only [Act.put,List.setIfInBounds_toArray,List.set_cons_zero,List.set_cons_succ,i64_w,i32_w]
        rfl
       refine one_ (i:=19) (N:=some 35) #[true,true,true,true,true,true,true,true,true,true,true,true,true,true,true,true,true,true,true,true,false,false,false] rfl rfl (one_of HT_.out (by kernel_rfl)) (by decide) (fun K hK=>?_)
       refine goes_ Try.func15 (by kernel_rfl) rfl #[.agg #[.slice A0_0 l0_0.length c0_0,.slice A0_1 l0_1.length c0_1],.agg #[.slice A1_0 l1_0.length c1_0,.slice A1_1 l1_1.length c1_1]] (by rfl) rfl rfl (by (try simp only [List.map_toArray,List.map_cons,List.map_nil]);first|done|rfl|(simp only [List.length_drop,List.length_take];rfl)) ?_
       with_reducible refine (slipwayref04_Same.calls k1 _ _ l0_0 _ _ l0_1 _ _ l1_0 _ _ l1_1 t289 _ ?side1 ?side2 ?side3 ?side4 ?side5 ?side6 ?side7 ?side8 A16.out).mono ?_
       (case side1=>repeat (first|exact (Kd.C_below HR0_0.out HB.out)|(with_reducible refine Kd.C_alloc ?_ _)|(with_reducible refine Kd.C_drewN ?_ _)|(with_reducible refine Kd.C_drew ?_)))
       (case side2=>exact HC0_0.out)
       (case side3=>repeat (first|exact (Kd.C_below HR0_1.out HB.out)|(with_reducible refine Kd.C_alloc ?_ _)|(with_reducible refine Kd.C_drewN ?_ _)|(with_reducible refine Kd.C_drew ?_)))
       (case side4=>exact HC0_1.out)
       (case side5=>repeat (first|exact (Kd.C_below HR1_0.out HB.out)|(with_reducible refine Kd.C_alloc ?_ _)|(with_reducible refine Kd.C_drewN ?_ _)|(with_reducible refine Kd.C_drew ?_)))
       (case side6=>exact HC1_0.out)
       (case side7=>repeat (first|exact (Kd.C_below HR1_1.out HB.out)|(with_reducible refine Kd.C_alloc ?_ _)|(with_reducible refine Kd.C_drewN ?_ _)|(with_reducible refine Kd.C_drew ?_)))
       (case side8=>exact HC1_1.out)
       rintro e w21 ⟨rfl,hb⟩
       refine ⟨_,rfl,?_⟩
       have n0_:=zm (zbB (g:=gb283) (o:=.cells #[.slice A0_0 l0_0.length c0_0,.slice A0_1 l0_1.length c0_1] 25 (0,0)) (by (with_reducible repeat (first|refine zbN ?_ _|refine zbD ?_|refine zbA ?_ _));exact BK283.out) hb)
       have n1_:=zm (zbB (g:=gb284) (o:=.cells #[.slice A1_0 l1_0.length c1_0,.slice A1_1 l1_1.length c1_1] 25 (0,0)) (by (with_reducible repeat (first|refine zbN ?_ _|refine zbD ?_|refine zbA ?_ _));exact BK284.out) hb)
       have n2_:=zm (below_step (by repeat (first|(with_reducible first|exact HB.out|apply zlA|apply zlN|apply zlD|refine zlS ?_ GE283.out|refine zlS ?_ GE284.out)|exact HB.out)) hb)
       clear BK283 BK284 HB
       have BK283:=n0_
       have BK284:=n1_
       have HB:=n2_
       clear n0_ n1_ n2_
       (try clear hb)
       (try clear hb2)
       (try clear hk)
       (try clear hi)
       refine hK.out _ _ ⟨(blk_cell BK283.out 0).trans rfl,(blk_cell BK283.out 1).trans rfl,(blk_cell BK284.out 0).trans rfl,(blk_cell BK284.out 1).trans rfl⟩ (fun hHeld=>?_)
       clear hK K
       refine norm_ (a':=?_) ?_ ?_
       rotate_left
       ·show Act.put _ (some 35) _=_
        simp only [Act.put,List.setIfInBounds_toArray,List.set_cons_zero,List.set_cons_succ,i64_w,i32_w]
        rfl
       refine pure_ (i:=20) (N:=some 36) (v:=?_) (a':=?_) #[true,true,true,true,true,true,true,true,true,true,true,true,true,true,true,true,true,true,true,true,true,false,false] rfl rfl (any_of HT_.out (by kernel_rfl)) (fun _ _ _ h=>h) (Or.inl ⟨by rfl,?_⟩) ?_ ?_
       rotate_left
       ·intro w'
        go_simp
        with_reducible rfl
       rotate_left
       ·simp only [Act.put,List.setIfInBounds_toArray,List.set_cons_zero,List.set_cons_succ,i64_w,i32_w]
        rfl
       refine pure_ (i:=21) (N:=some 37) (v:=?_) (a':=?_) #[true,true,true,true,true,true,true,true,true,true,true,true,true,true,true,true,true,true,true,true,true,true,false] rfl rfl (any_of HT_.out (by kernel_rfl)) (fun _ _ _ h=>h) (Or.inl ⟨by rfl,?_⟩) ?_ ?_
       rotate_left
       ·intro w'
        go_simp
        with_reducible rfl
       rotate_left
       ·simp only [Act.put,List.setIfInBounds_toArray,List.set_cons_zero,List.set_cons_succ,i64_w,i32_w]
        rfl
       refine pure_ (i:=22) (N:=some 4) (v:=?_) (a':=?_) #[true,true,true,true,true,true,true,true,true,true,true,true,true,true,true,true,true,true,true,true,true,true,true] rfl rfl (any_of HT_.out (by kernel_rfl)) (fun _ _ _ h=>h) (Or.inl ⟨by rfl,?_⟩) ?_ ?_
       rotate_left
       ·intro w'
        go_simp
        with_reducible rfl
       rotate_left
       ·simp only [Act.put,List.setIfInBounds_toArray,List.set_cons_zero,List.set_cons_succ,i64_w,i32_w]
        rfl
       refine done_ (done_of HT_.out (by kernel_rfl)) ?_
       try go_wp2
       go_ret
       exact ⟨by first|rfl|(simp [errW_none,errW_some] <;> rfl)|(simp [*,errW_none,errW_some] <;> rfl),by repeat (first|(with_reducible first|exact HB.out|apply zlA|apply zlN|apply zlD|refine zlS ?_ GE283.out|refine zlS ?_ GE284.out)|exact HB.out)⟩
      ·rw [if_neg c14] at H
       have c14b0:(x5_1 == (l0_0.length:Int))=false:=beq_eq_false_iff_ne.mpr c14
       have c14b1:(x5_1 != (l0_0.length:Int))=true:=bne_iff_ne.mpr c14
       exact absurd H (by simp)
     ·rw [if_neg c13] at H
      have c13b0:(t287 == 0)=false:=beq_eq_false_iff_ne.mpr c13
      have c13b1:(t287 != 0)=true:=bne_iff_ne.mpr c13
      replace H:=Option.bind_eq_some_iff.mp H
      obtain ⟨t290,A220,H⟩:=H
      replace H:((slipwayref04_Same.f k1 l0_0 l0_1 l1_0 l1_1).bind fun t291=>(some (t290 == t291)))=some r:=H
      have A22:=zm A220
      clear A220
      replace H:=Option.bind_eq_some_iff.mp H
      obtain ⟨t291,A230,H⟩:=H
      replace H:(some (t290 == t291))=some r:=H
      have A23:=zm A230
      clear A230
      obtain rfl:=Option.some.inj H
      try go_wp2
      have n0_:=zm (zbD BK283.out)
      have n1_:=zm (zbD BK284.out)
      have n2_:=zm (zlD HB.out)
      clear BK283 BK284 HB
      have BK283:=n0_
      have BK284:=n1_
      have HB:=n2_
      clear n0_ n1_ n2_
      refine start_ (n:=23) (S:=fun w'=>w'.cell? ⟨gb283,0,none⟩=some (.slice A0_0 l0_0.length c0_0)∧w'.cell? ⟨gb283,1,none⟩=some (.slice A0_1 l0_1.length c0_1)∧w'.cell? ⟨gb284,0,none⟩=some (.slice A1_0 l1_0.length c1_0)∧w'.cell? ⟨gb284,1,none⟩=some (.slice A1_1 l1_1.length c1_1)) (ds:=[]) #[false,false,false,false,false,false,false,false,false,false,false,false,false,false,false,false,false,false,false,false,false,false,false] (by kernel_rfl) rfl rfl ⟨(blk_cell BK283.out 0).trans rfl,(blk_cell BK283.out 1).trans rfl,(blk_cell BK284.out 0).trans rfl,(blk_cell BK284.out 1).trans rfl⟩ (fun hHeld=>?_);refine with_tabW slipwaylaw04_PoolRoles.tab6 slipwaylaw04_PoolRoles.bits6 (fun HT_ HW_=>?_)
      generalize wr.drew=w24 at BK283 BK284 HB hHeld ⊢
      refine one_ (i:=0) (N:=some 16) #[true,false,false,false,false,false,false,false,false,false,false,false,false,false,false,false,false,false,false,false,false,false,false] rfl rfl (one_of HT_.out (by kernel_rfl)) (by decide) (fun K hK=>?_)
      refine goes_ Try.func12 (by kernel_rfl) rfl #[] (by rfl) rfl rfl (by (try simp only [List.map_toArray,List.map_cons,List.map_nil]);first|done|rfl|(simp only [List.length_drop,List.length_take];rfl)) ?_
      with_reducible refine (slipwaylaw04_begun.calls k1  true _ A10.out).mono ?_
      rintro e w25 ⟨rfl,hb⟩
      refine ⟨_,rfl,?_⟩
      have n0_:=zm (zbB (g:=gb283) (o:=.cells #[.slice A0_0 l0_0.length c0_0,.slice A0_1 l0_1.length c0_1] 25 (0,0)) (by (with_reducible repeat (first|refine zbN ?_ _|refine zbD ?_|refine zbA ?_ _));exact BK283.out) hb)
      have n1_:=zm (zbB (g:=gb284) (o:=.cells #[.slice A1_0 l1_0.length c1_0,.slice A1_1 l1_1.length c1_1] 25 (0,0)) (by (with_reducible repeat (first|refine zbN ?_ _|refine zbD ?_|refine zbA ?_ _));exact BK284.out) hb)
      have n2_:=zm (below_step (by repeat (first|(with_reducible first|exact HB.out|apply zlA|apply zlN|apply zlD|refine zlS ?_ GE283.out|refine zlS ?_ GE284.out)|exact HB.out)) hb)
      clear BK283 BK284 HB
      have BK283:=n0_
      have BK284:=n1_
      have HB:=n2_
      clear n0_ n1_ n2_
      (try clear hb)
      (try clear hb2)
      (try clear hk)
      (try clear hi)
      refine hK.out _ _ ⟨(blk_cell BK283.out 0).trans rfl,(blk_cell BK283.out 1).trans rfl,(blk_cell BK284.out 0).trans rfl,(blk_cell BK284.out 1).trans rfl⟩ (fun hHeld=>?_)
      clear hK K
      refine norm_ (a':=?_) ?_ ?_
      rotate_left
      ·show Act.put _ (some 16) _=_
       simp only [Act.put,List.setIfInBounds_toArray,List.set_cons_zero,List.set_cons_succ,i64_w,i32_w]
       rfl
      refine pure_ (i:=1) (N:=some 17) (v:=?_) (a':=?_) #[true,true,false,false,false,false,false,false,false,false,false,false,false,false,false,false,false,false,false,false,false,false,false] rfl rfl (any_of HT_.out (by kernel_rfl)) (fun _ _ _ h=>h) (Or.inl ⟨by rfl,?_⟩) ?_ ?_
      rotate_left
      ·intro w'
       go_simp
       with_reducible rfl
      rotate_left
      ·simp only [Act.put,List.setIfInBounds_toArray,List.set_cons_zero,List.set_cons_succ,i64_w,i32_w]
       rfl
      refine take_ (i:=2) (N:=some 18) (v:=?_) (a':=?_) #[true,true,true,false,false,false,false,false,false,false,false,false,false,false,false,false,false,false,false,false,false,false,false] rfl rfl (take_ofW HT_.out HW_.out (by kernel_rfl)) (fun _ _ _ h=>h) (Or.inl ⟨by rfl,?_⟩) hHeld ?_ ?_
      rotate_left
      ·rintro w' ⟨s0,s1,s2,s3⟩
       go_simp
       with_reducible rfl
      rotate_left
      ·simp only [Act.put,List.setIfInBounds_toArray,List.set_cons_zero,List.set_cons_succ,i64_w,i32_w]
       rfl
      refine one_ (i:=3) (N:=some 19) #[true,true,true,true,false,false,false,false,false,false,false,false,false,false,false,false,false,false,false,false,false,false,false] rfl rfl (one_of HT_.out (by kernel_rfl)) (by decide) (fun K hK=>?_)
      refine goes_ Try.func13 (by kernel_rfl) rfl #[.agg #[.slice A0_0 l0_0.length c0_0,.slice A0_1 l0_1.length c0_1]] (by rfl) rfl rfl (by (try simp only [List.map_toArray,List.map_cons,List.map_nil]);first|done|rfl|(simp only [List.length_drop,List.length_take];rfl)) ?_
      with_reducible refine (pool_Check.calls k1 _ _ l0_0 _ _ l0_1 t287 _ ?side1 ?side2 ?side3 ?side4 A12.out).mono ?_
      (case side1=>repeat (first|exact (Kd.C_below HR0_0.out HB.out)|(with_reducible refine Kd.C_alloc ?_ _)|(with_reducible refine Kd.C_drewN ?_ _)|(with_reducible refine Kd.C_drew ?_)))
      (case side2=>exact HC0_0.out)
      (case side3=>repeat (first|exact (Kd.C_below HR0_1.out HB.out)|(with_reducible refine Kd.C_alloc ?_ _)|(with_reducible refine Kd.C_drewN ?_ _)|(with_reducible refine Kd.C_drew ?_)))
      (case side4=>exact HC0_1.out)
      rintro e w26 ⟨rfl,hb⟩
      refine ⟨_,rfl,?_⟩
      have n0_:=zm (zbB (g:=gb283) (o:=.cells #[.slice A0_0 l0_0.length c0_0,.slice A0_1 l0_1.length c0_1] 25 (0,0)) (by (with_reducible repeat (first|refine zbN ?_ _|refine zbD ?_|refine zbA ?_ _));exact BK283.out) hb)
      have n1_:=zm (zbB (g:=gb284) (o:=.cells #[.slice A1_0 l1_0.length c1_0,.slice A1_1 l1_1.length c1_1] 25 (0,0)) (by (with_reducible repeat (first|refine zbN ?_ _|refine zbD ?_|refine zbA ?_ _));exact BK284.out) hb)
      have n2_:=zm (below_step (by repeat (first|(with_reducible first|exact HB.out|apply zlA|apply zlN|apply zlD|refine zlS ?_ GE283.out|refine zlS ?_ GE284.out)|exact HB.out)) hb)
      clear BK283 BK284 HB
      have BK283:=n0_
      have BK284:=n1_
      have HB:=n2_
      clear n0_ n1_ n2_
      (try clear hb)
      (try clear hb2)
      (try clear hk)
      (try clear hi)
      refine hK.out _ _ ⟨(blk_cell BK283.out 0).trans rfl,(blk_cell BK283.out 1).trans rfl,(blk_cell BK284.out 0).trans rfl,(blk_cell BK284.out 1).trans rfl⟩ (fun hHeld=>?_)
      clear hK K
      refine norm_ (a':=?_) ?_ ?_
      rotate_left
      ·show Act.put _ (some 19) _=_
       simp only [Act.put,List.setIfInBounds_toArray,List.set_cons_zero,List.set_cons_succ,i64_w,i32_w]
       rfl
      refine pure_ (i:=4) (N:=some 20) (v:=?_) (a':=?_) #[true,true,true,true,true,false,false,false,false,false,false,false,false,false,false,false,false,false,false,false,false,false,false] rfl rfl (any_of HT_.out (by kernel_rfl)) (fun _ _ _ h=>h) (Or.inl ⟨by rfl,?_⟩) ?_ ?_
      rotate_left
      ·intro w'
       go_simp
       with_reducible rfl
      rotate_left
      ·simp only [Act.put,List.setIfInBounds_toArray,List.set_cons_zero,List.set_cons_succ,i64_w,i32_w]
       rfl
      refine pure_ (i:=5) (N:=some 21) (v:=?_) (a':=?_) #[true,true,true,true,true,true,false,false,false,false,false,false,false,false,false,false,false,false,false,false,false,false,false] rfl rfl (any_of HT_.out (by kernel_rfl)) (fun _ _ _ h=>h) (Or.inl ⟨by rfl,?_⟩) ?_ ?_
      rotate_left
      ·intro w'
       go_simp
       with_reducible rfl
      rotate_left
      ·simp only [Act.put,List.setIfInBounds_toArray,List.set_cons_zero,List.set_cons_succ,i64_w,i32_w]
       rfl
      refine pure_ (i:=6) (N:=some 22) (v:=undef) (a':=?_) #[true,true,true,true,true,true,true,false,false,false,false,false,false,false,false,false,false,false,false,false,false,false,false] rfl rfl (any_of HT_.out (by kernel_rfl)) (fun _ _ _ h=>h) (Or.inr ⟨by rfl,rfl⟩) ?_ ?_
      rotate_left
      ·simp only [Act.put,List.setIfInBounds_toArray,List.set_cons_zero,List.set_cons_succ,i64_w,i32_w]
       rfl
      refine pure_ (i:=7) (N:=some 23) (v:=undef) (a':=?_) #[true,true,true,true,true,true,true,true,false,false,false,false,false,false,false,false,false,false,false,false,false,false,false] rfl rfl (any_of HT_.out (by kernel_rfl)) (fun _ _ _ h=>h) (Or.inr ⟨by rfl,rfl⟩) ?_ ?_
      rotate_left
      ·simp only [Act.put,List.setIfInBounds_toArray,List.set_cons_zero,List.set_cons_succ,i64_w,i32_w]
       rfl
      refine pure_ (i:=8) (N:=some 24) (v:=undef) (a':=?_) #[true,true,true,true,true,true,true,true,true,false,false,false,false,false,false,false,false,false,false,false,false,false,false] rfl rfl (any_of HT_.out (by kernel_rfl)) (fun _ _ _ h=>h) (Or.inr ⟨by rfl,rfl⟩) ?_ ?_
      rotate_left
      ·simp only [Act.put,List.setIfInBounds_toArray,List.set_cons_zero,List.set_cons_succ,i64_w,i32_w]
       rfl
      refine pure_ (i:=9) (N:=some 25) (v:=undef) (a':=?_) #[true,true,true,true,true,true,true,true,true,true,false,false,false,false,false,false,false,false,false,false,false,false,false] rfl rfl (any_of HT_.out (by kernel_rfl)) (fun _ _ _ h=>h) (Or.inr ⟨by rfl,rfl⟩) ?_ ?_
      rotate_left
      ·simp only [Act.put,List.setIfInBounds_toArray,List.set_cons_zero,List.set_cons_succ,i64_w,i32_w]
       rfl
      refine pure_ (i:=10) (N:=some 26) (v:=undef) (a':=?_) #[true,true,true,true,true,true,true,true,true,true,true,false,false,false,false,false,false,false,false,false,false,false,false] rfl rfl (any_of HT_.out (by kernel_rfl)) (fun _ _ _ h=>h) (Or.inr ⟨by rfl,rfl⟩) ?_ ?_
      rotate_left
      ·simp only [Act.put,List.setIfInBounds_toArray,List.set_cons_zero,List.set_cons_succ,i64_w,i32_w]
       rfl
      refine pure_ (i:=11) (N:=some 27) (v:=?_) (a':=?_) #[true,true,true,true,true,true,true,true,true,true,true,true,false,false,false,false,false,false,false,false,false,false,false] rfl rfl (any_of HT_.out (by kernel_rfl)) (fun _ _ _ h=>h) (Or.inl ⟨by rfl,?_⟩) ?_ ?_
      rotate_left
      ·intro w'
       go_simp
       with_reducible rfl
      rotate_left
      ·simp only [Act.put,List.setIfInBounds_toArray,List.set_cons_zero,List.set_cons_succ,i64_w,i32_w]
       rfl
      refine pure_ (i:=12) (N:=some 28) (v:=?_) (a':=?_) #[true,true,true,true,true,true,true,true,true,true,true,true,true,false,false,false,false,false,false,false,false,false,false] rfl rfl (any_of HT_.out (by kernel_rfl)) (fun _ _ _ h=>h) (Or.inl ⟨by rfl,?_⟩) ?_ ?_
      rotate_left
      ·intro w'
       go_simp
       with_reducible rfl
      rotate_left
      ·simp only [Act.put,List.setIfInBounds_toArray,List.set_cons_zero,List.set_cons_succ,i64_w,i32_w]
       rfl
      refine pure_ (i:=13) (N:=some 29) (v:=?_) (a':=?_) #[true,true,true,true,true,true,true,true,true,true,true,true,true,true,false,false,false,false,false,false,false,false,false] rfl rfl (any_of HT_.out (by kernel_rfl)) (fun _ _ _ h=>h) (Or.inl ⟨by rfl,?_⟩) ?_ ?_
      rotate_left
      ·intro w'
       go_simp
       with_reducible rfl
      rotate_left
      ·simp only [Act.put,List.setIfInBounds_toArray,List.set_cons_zero,List.set_cons_succ,i64_w,i32_w]
       rfl
      refine take_ (i:=14) (N:=some 30) (v:=?_) (a':=?_) #[true,true,true,true,true,true,true,true,true,true,true,true,true,true,true,false,false,false,false,false,false,false,false] rfl rfl (take_ofW HT_.out HW_.out (by kernel_rfl)) (fun _ _ _ h=>h) (Or.inl ⟨by rfl,?_⟩) hHeld ?_ ?_
      rotate_left
      ·rintro w' ⟨s0,s1,s2,s3⟩
       go_simp
       with_reducible rfl
      rotate_left
      ·simp only [Act.put,List.setIfInBounds_toArray,List.set_cons_zero,List.set_cons_succ,i64_w,i32_w]
       rfl
      refine take_ (i:=15) (N:=some 31) (v:=?_) (a':=?_) #[true,true,true,true,true,true,true,true,true,true,true,true,true,true,true,true,false,false,false,false,false,false,false] rfl rfl (take_ofW HT_.out HW_.out (by kernel_rfl)) (fun _ _ _ h=>h) (Or.inl ⟨by rfl,?_⟩) hHeld ?_ ?_
      rotate_left
      ·rintro w' ⟨s0,s1,s2,s3⟩
       go_simp
       with_reducible rfl
      rotate_left
      ·simp only [Act.put,List.setIfInBounds_toArray,List.set_cons_zero,List.set_cons_succ,i64_w,i32_w]
       rfl
      refine take_ (i:=17) (N:=some 33) (v:=?_) (a':=?_) #[true,true,true,true,true,true,true,true,true,true,true,true,true,true,true,true,false,true,false,false,false,false,false] rfl rfl (take_ofW HT_.out HW_.out (by kernel_rfl)) (fun _ _ _ h=>h) (Or.inl ⟨by rfl,?_⟩) hHeld ?_ ?_
      rotate_left
      ·rintro w' ⟨s0,s1,s2,s3⟩
       go_simp
       with_reducible rfl
      rotate_left
      ·simp only [Act.put,List.setIfInBounds_toArray,List.set_cons_zero,List.set_cons_succ,i64_w,i32_w]
       rfl
      refine take_ (i:=18) (N:=some 34) (v:=?_) (a':=?_) #[true,true,true,true,true,true,true,true,true,true,true,true,true,true,true,true,false,true,true,false,false,false,false] rfl rfl (take_ofW HT_.out HW_.out (by kernel_rfl)) (fun _ _ _ h=>h) (Or.inl ⟨by rfl,?_⟩) hHeld ?_ ?_
      rotate_left
      ·rintro w' ⟨s0,s1,s2,s3⟩
       go_simp
       with_reducible rfl
      rotate_left
      ·simp only [Act.put,List.setIfInBounds_toArray,List.set_cons_zero,List.set_cons_succ,i64_w,i32_w]
       rfl
      refine one_ (i:=16) (N:=some 32) #[true,true,true,true,true,true,true,true,true,true,true,true,true,true,true,true,true,true,true,false,false,false,false] rfl rfl (one_of HT_.out (by kernel_rfl)) (by decide) (fun K hK=>?_)
      refine goes_ Try.func17 (by kernel_rfl) rfl #[.agg #[.slice A0_0 l0_0.length c0_0,.slice A0_1 l0_1.length c0_1],.agg #[.slice A1_0 l1_0.length c1_0,.slice A1_1 l1_1.length c1_1]] (by rfl) rfl rfl (by (try simp only [List.map_toArray,List.map_cons,List.map_nil]);first|done|rfl|(simp only [List.length_drop,List.length_take];rfl)) ?_
      with_reducible refine (pool_Same.calls k1 _ _ l0_0 _ _ l0_1 _ _ l1_0 _ _ l1_1 t290 _ ?side1 ?side2 ?side3 ?side4 ?side5 ?side6 ?side7 ?side8 A22.out).mono ?_
      (case side1=>repeat (first|exact (Kd.C_below HR0_0.out HB.out)|(with_reducible refine Kd.C_alloc ?_ _)|(with_reducible refine Kd.C_drewN ?_ _)|(with_reducible refine Kd.C_drew ?_)))
      (case side2=>exact HC0_0.out)
      (case side3=>repeat (first|exact (Kd.C_below HR0_1.out HB.out)|(with_reducible refine Kd.C_alloc ?_ _)|(with_reducible refine Kd.C_drewN ?_ _)|(with_reducible refine Kd.C_drew ?_)))
      (case side4=>exact HC0_1.out)
      (case side5=>repeat (first|exact (Kd.C_below HR1_0.out HB.out)|(with_reducible refine Kd.C_alloc ?_ _)|(with_reducible refine Kd.C_drewN ?_ _)|(with_reducible refine Kd.C_drew ?_)))
      (case side6=>exact HC1_0.out)
      (case side7=>repeat (first|exact (Kd.C_below HR1_1.out HB.out)|(with_reducible refine Kd.C_alloc ?_ _)|(with_reducible refine Kd.C_drewN ?_ _)|(with_reducible refine Kd.C_drew ?_)))
      (case side8=>exact HC1_1.out)
      rintro e w27 ⟨rfl,hb⟩
      refine ⟨_,rfl,?_⟩
      have n0_:=zm (zbB (g:=gb283) (o:=.cells #[.slice A0_0 l0_0.length c0_0,.slice A0_1 l0_1.length c0_1] 25 (0,0)) (by (with_reducible repeat (first|refine zbN ?_ _|refine zbD ?_|refine zbA ?_ _));exact BK283.out) hb)
      have n1_:=zm (zbB (g:=gb284) (o:=.cells #[.slice A1_0 l1_0.length c1_0,.slice A1_1 l1_1.length c1_1] 25 (0,0)) (by (with_reducible repeat (first|refine zbN ?_ _|refine zbD ?_|refine zbA ?_ _));exact BK284.out) hb)
      have n2_:=zm (below_step (by repeat (first|(with_reducible first|exact HB.out|apply zlA|apply zlN|apply zlD|refine zlS ?_ GE283.out|refine zlS ?_ GE284.out)|exact HB.out)) hb)
      clear BK283 BK284 HB
      have BK283:=n0_
      have BK284:=n1_
      have HB:=n2_
      clear n0_ n1_ n2_
      (try clear hb)
      (try clear hb2)
      (try clear hk)
      (try clear hi)
      refine hK.out _ _ ⟨(blk_cell BK283.out 0).trans rfl,(blk_cell BK283.out 1).trans rfl,(blk_cell BK284.out 0).trans rfl,(blk_cell BK284.out 1).trans rfl⟩ (fun hHeld=>?_)
      clear hK K
      refine norm_ (a':=?_) ?_ ?_
      rotate_left
      ·show Act.put _ (some 32) _=_
       simp only [Act.put,List.setIfInBounds_toArray,List.set_cons_zero,List.set_cons_succ,i64_w,i32_w]
       rfl
      refine one_ (i:=19) (N:=some 35) #[true,true,true,true,true,true,true,true,true,true,true,true,true,true,true,true,true,true,true,true,false,false,false] rfl rfl (one_of HT_.out (by kernel_rfl)) (by decide) (fun K hK=>?_)
      refine goes_ Try.func15 (by kernel_rfl) rfl #[.agg #[.slice A0_0 l0_0.length c0_0,.slice A0_1 l0_1.length c0_1],.agg #[.slice A1_0 l1_0.length c1_0,.slice A1_1 l1_1.length c1_1]] (by rfl) rfl rfl (by (try simp only [List.map_toArray,List.map_cons,List.map_nil]);first|done|rfl|(simp only [List.length_drop,List.length_take];rfl)) ?_
      with_reducible refine (slipwayref04_Same.calls k1 _ _ l0_0 _ _ l0_1 _ _ l1_0 _ _ l1_1 t291 _ ?side1 ?side2 ?side3 ?side4 ?side5 ?side6 ?side7 ?side8 A23.out).mono ?_
      (case side1=>repeat (first|exact (Kd.C_below HR0_0.out HB.out)|(with_reducible refine Kd.C_alloc ?_ _)|(with_reducible refine Kd.C_drewN ?_ _)|(with_reducible refine Kd.C_drew ?_)))
      (case side2=>exact HC0_0.out)
      (case side3=>repeat (first|exact (Kd.C_below HR0_1.out HB.out)|(with_reducible refine Kd.C_alloc ?_ _)|(with_reducible refine Kd.C_drewN ?_ _)|(with_reducible refine Kd.C_drew ?_)))
      (case side4=>exact HC0_1.out)
      (case side5=>repeat (first|exact (Kd.C_below HR1_0.out HB.out)|(with_reducible refine Kd.C_alloc ?_ _)|(with_reducible refine Kd.C_drewN ?_ _)|(with_reducible refine Kd.C_drew ?_)))
      (case side6=>exact HC1_0.out)
      (case side7=>repeat (first|exact (Kd.C_below HR1_1.out HB.out)|(with_reducible refine Kd.C_alloc ?_ _)|(with_reducible refine Kd.C_drewN ?_ _)|(with_reducible refine Kd.C_drew ?_)))
      (case side8=>exact HC1_1.out)
      rintro e w28 ⟨rfl,hb⟩
      refine ⟨_,rfl,?_⟩
      have n0_:=zm (zbB (g:=gb283) (o:=.cells #[.slice A0_0 l0_0.length c0_0,.slice A0_1 l0_1.length c0_1] 25 (0,0)) (by (with_reducible repeat (first|refine zbN ?_ _|refine zbD ?_|refine zbA ?_ _));exact BK283.out) hb)
      have n1_:=zm (zbB (g:=gb284) (o:=.cells #[.slice A1_0 l1_0.length c1_0,.slice A1_1 l1_1.length c1_1] 25 (0,0)) (by (with_reducible repeat (first|refine zbN ?_ _|refine zbD ?_|refine zbA ?_ _));exact BK284.out) hb)
      have n2_:=zm (below_step (by repeat (first|(with_reducible first|exact HB.out|apply zlA|apply zlN|apply zlD|refine zlS ?_ GE283.out|refine zlS ?_ GE284.out)|exact HB.out)) hb)
      clear BK283 BK284 HB
      have BK283:=n0_
      have BK284:=n1_
      have HB:=n2_
      clear n0_ n1_ n2_
      (try clear hb)
      (try clear hb2)
      (try clear hk)
      (try clear hi)
      refine hK.out _ _ ⟨(blk_cell BK283.out 0).trans rfl,(blk_cell BK283.out 1).trans rfl,(blk_cell BK284.out 0).trans rfl,(blk_cell BK284.out 1).trans rfl⟩ (fun hHeld=>?_)
      clear hK K
      refine norm_ (a':=?_) ?_ ?_
      rotate_left
      ·show Act.put _ (some 35) _=_
       simp only [Act.put,List.setIfInBounds_toArray,List.set_cons_zero,List.set_cons_succ,i64_w,i32_w]
       rfl
      refine pure_ (i:=20) (N:=some 36) (v:=?_) (a':=?_) #[true,true,true,true,true,true,true,true,true,true,true,true,true,true,true,true,true,true,true,true,true,false,false] rfl rfl (any_of HT_.out (by kernel_rfl)) (fun _ _ _ h=>h) (Or.inl ⟨by rfl,?_⟩) ?_ ?_
      rotate_left
      ·intro w'
       go_simp
       with_reducible rfl
      rotate_left
      ·simp only [Act.put,List.setIfInBounds_toArray,List.set_cons_zero,List.set_cons_succ,i64_w,i32_w]
       rfl
      refine pure_ (i:=21) (N:=some 37) (v:=?_) (a':=?_) #[true,true,true,true,true,true,true,true,true,true,true,true,true,true,true,true,true,true,true,true,true,true,false] rfl rfl (any_of HT_.out (by kernel_rfl)) (fun _ _ _ h=>h) (Or.inl ⟨by rfl,?_⟩) ?_ ?_
      rotate_left
      ·intro w'
       go_simp
       with_reducible rfl
      rotate_left
      ·simp only [Act.put,List.setIfInBounds_toArray,List.set_cons_zero,List.set_cons_succ,i64_w,i32_w]
       rfl
      refine pure_ (i:=22) (N:=some 4) (v:=?_) (a':=?_) #[true,true,true,true,true,true,true,true,true,true,true,true,true,true,true,true,true,true,true,true,true,true,true] rfl rfl (any_of HT_.out (by kernel_rfl)) (fun _ _ _ h=>h) (Or.inl ⟨by rfl,?_⟩) ?_ ?_
      rotate_left
      ·intro w'
       go_simp
       with_reducible rfl
      rotate_left
      ·simp only [Act.put,List.setIfInBounds_toArray,List.set_cons_zero,List.set_cons_succ,i64_w,i32_w]
       rfl
      refine done_ (done_of HT_.out (by kernel_rfl)) ?_
      try go_wp2
      go_ret
      exact ⟨by first|rfl|(simp [errW_none,errW_some] <;> rfl)|(simp [*,errW_none,errW_some] <;> rfl),by repeat (first|(with_reducible first|exact HB.out|apply zlA|apply zlN|apply zlD|refine zlS ?_ GE283.out|refine zlS ?_ GE284.out)|exact HB.out)⟩
    ·replace c11:=Bool.eq_false_iff.mpr c11
     subst c11
     have H1:(none)=some r:=by rw [if_neg (show ¬ (false=true) by decide)] at H;exact H
     clear H
     have H:=H1
     clear H1
     exact absurd H (by simp)
def slipwaylaw04_PoolRoles.Pure:Prop:=∀ (l0_0:List Int) (l0_1:List Int) (l1_0:List Int) (l1_1:List Int),(l0_0.length≤maxLen∧l0_0.length * 8≤140737488351232∧∀ x ∈ l0_0,(Lit.int .i64 x).wf=true) → (l0_1.length≤maxLen∧l0_1.length * 8≤140737488351232∧∀ x ∈ l0_1,(Lit.int .i64 x).wf=true) → (l1_0.length≤maxLen∧l1_0.length * 8≤140737488351232∧∀ x ∈ l1_0,(Lit.int .i64 x).wf=true) → (l1_1.length≤maxLen∧l1_1.length * 8≤140737488351232∧∀ x ∈ l1_1,(Lit.int .i64 x).wf=true) → ∃ k,slipwaylaw04_PoolRoles.f k l0_0 l0_1 l1_0 l1_1=some true
theorem slipwaylaw04_PoolRoles.walk (P:slipwaylaw04_PoolRoles.Pure) (A0_0:Option Addr) (c0_0:Nat) (l0_0:List Int) (A0_1:Option Addr) (c0_1:Nat) (l0_1:List Int) (A1_0:Option Addr) (c1_0:Nat) (l1_0:List Int) (A1_1:Option Addr) (c1_1:Nat) (l1_1:List Int) (w:World) (hr0_0:Kd.C (Kd.int .i64) w A0_0 l0_0.length l0_0) (hc0_0:l0_0.length≤c0_0) (hr0_1:Kd.C (Kd.int .i64) w A0_1 l0_1.length l0_1) (hc0_1:l0_1.length≤c0_1) (hr1_0:Kd.C (Kd.int .i64) w A1_0 l1_0.length l1_0) (hc1_0:l1_0.length≤c1_0) (hr1_1:Kd.C (Kd.int .i64) w A1_1 l1_1.length l1_1) (hc1_1:l1_1.length≤c1_1) (w0_0:(l0_0.length≤maxLen∧l0_0.length * 8≤140737488351232∧∀ x ∈ l0_0,(Lit.int .i64 x).wf=true)) (w0_1:(l0_1.length≤maxLen∧l0_1.length * 8≤140737488351232∧∀ x ∈ l0_1,(Lit.int .i64 x).wf=true)) (w1_0:(l1_0.length≤maxLen∧l1_0.length * 8≤140737488351232∧∀ x ∈ l1_0,(Lit.int .i64 x).wf=true)) (w1_1:(l1_1.length≤maxLen∧l1_1.length * 8≤140737488351232∧∀ x ∈ l1_1,(Lit.int .i64 x).wf=true)) :
  Calls Try.prog 4 #[.agg #[.slice A0_0 l0_0.length c0_0,.slice A0_1 l0_1.length c0_1],.agg #[.slice A1_0 l1_0.length c1_0,.slice A1_1 l1_1.length c1_1]] w fun e w'=>e=.returned (.bool true)∧Below w.heap.size w w':=by
 obtain ⟨k,h⟩:=P l0_0 l0_1 l1_0 l1_1 w0_0 w0_1 w1_0 w1_1
 refine (slipwaylaw04_PoolRoles.calls k A0_0 c0_0 l0_0 A0_1 c0_1 l0_1 A1_0 c1_0 l1_0 A1_1 c1_1 l1_1 true w hr0_0 hc0_0 hr0_1 hc0_1 hr1_0 hc1_0 hr1_1 hc1_1 h).mono ?_
 rintro e w' ⟨rfl,hd⟩
 exact ⟨rfl,hd⟩
end Go.Proofs.Ytlegmnpngcadhaa.Print
end
