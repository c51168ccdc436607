/- Texts of the proof of MapReplays, part 19. -/
import Derived.Test.YtkhbmgclklmimaaMapReplaysMA
import Derived.Test.YtkhbmgclklmimaaMapReplaysM14
import Derived.Test.YtkhbmgclklmimaaMapReplaysM18
import Derived.Test.YtkhbmgclklmimaaMapReplaysM15
import Derived.Test.YtkhbmgclklmimaaMapReplaysM17
section
namespace Go.Proofs.Ytkhbmgclklmimaa.Print
open Go.RowKit Go.Proofs.YtkhbmgclklmimaaW.PrintWords Go.Proofs.YtkhbmgclklmimaaW.PrintLast Go.Proofs.YtkhbmgclklmimaaW.PrintMore
attribute [local go_sem] max2_int min2_int max_two min_two max_three min_three max_four min_four   -- for this text's walks alone
attribute [local go_sem ↓] Go.Proofs.Ytkhbmgclklmimaa.Sem.isSome_setCell
attribute [local go_sem] Go.Instr.field Go.asAgg
set_option linter.unusedVariables false
set_option linter.unusedSimpArgs false
def slipwayref06_Replay.l0:Nat → List (S42) → Int → Int → List Bool → List Int → Int → Option (List Bool × List Int × Int × Int × Int)
 | 0,_,_,_,_,_,_=>none
 | k + 1,x1,x9,x10,x669000,x669001,x669002=>if x10 < (x1.length:Int) then (if 0≤x10 then ((slipwayref06_page.f k ((rd_T42 x1 x10).f0) ((rd_T42 x1 x10).f1) ((rd_T42 x1 x10).f2) ((rd_T42 x1 x10).f3) ((rd_T42 x1 x10).f4) ((rd_T42 x1 x10).f5) ((rd_T42 x1 x10).f6)).bind fun t670=>(if t670=true then ((slipwayref06_know.f k x669000 x669001 x669002 ((rd_T42 x1 x10).f0) ((rd_T42 x1 x10).f1) ((rd_T42 x1 x10).f2) ((rd_T42 x1 x10).f3) ((rd_T42 x1 x10).f4) ((rd_T42 x1 x10).f5) ((rd_T42 x1 x10).f6)).bind fun bt672=>(slipwayref06_Replay.l0 k x1 (mx x9 ((rd_T42 x1 x10).f1)) (wrap64 (x10 + 1)) bt672.1 bt672.2.1 bt672.2.2)) else (slipwayref06_Replay.l0 k x1 x9 (wrap64 (x10 + 1)) x669000 x669001 x669002))) else (none)) else (some (x669000,x669001,x669002,x9,0))
def slipwayref06_Replay.f (k:Nat) (a0:Int) (l1:List (S42)):Option (List Bool × List Int × Int × Int × Int):=(slipwayref06_New.f a0).bind fun bt660=>(if bt660.2.2.2=0 then (slipwayref06_Replay.l0 k l1 0 0 bt660.1 bt660.2.1 bt660.2.2.1) else (some (([]:List Bool),([]:List Int),0,0,bt660.2.2.2)))
set_option maxHeartbeats 8000000 in
set_option maxRecDepth 100000 in
theorem slipwayref06_Replay.calls (k:Nat) (a0:Int) (A1:Option Addr) (c1:Nat) (l1:List (S42)) (r1:List Bool) (r2:List Int) (r3:Int) (r4:Int) (r5:Int) (w:World) (hr1:Kd.C k42 w A1 l1.length l1) (hc1:l1.length≤c1) (h:slipwayref06_Replay.f k a0 l1=some (r1,r2,r3,r4,r5)) :
  Calls Try.prog 40 #[.int .i64 a0,.slice A1 l1.length c1] w fun e w'=>∃ v0_ v1_:Value,e=.returned (.tuple #[.agg #[v0_,v1_,.int .i64 r3],.int .i64 r4,.int .i64 r5])∧Kd.R Kd.bool 4 w' w.heap.size (fun _=>True) v0_ r1∧Kd.R (Kd.int .i64) 2 w' w.heap.size (fun _=>True) v1_ r2∧Below w.heap.size w w':=by
 have hu25:=Try.underlying25
 have hu42:=Try.underlying42
 have HR1:=zm hr1
 have HC1:=zm hc1
 clear hr1 hc1
 have HB:=zm (Below.refl w.heap.size w)
 have H:((slipwayref06_New.f a0).bind fun bt660=>(if bt660.2.2.2=0 then (slipwayref06_Replay.l0 k l1 0 0 bt660.1 bt660.2.1 bt660.2.2.1) else (some (([]:List Bool),([]:List Int),0,0,bt660.2.2.2))))=some (r1,r2,r3,r4,r5):=h
 clear h
 replace H:=Option.bind_eq_some_iff.mp H
 obtain ⟨⟨t660,t663,t666,t667⟩,A30,H⟩:=H
 replace H:(if t667=0 then (slipwayref06_Replay.l0 k l1 0 0 t660 t663 t666) else (some (([]:List Bool),([]:List Int),0,0,t667)))=some (r1,r2,r3,r4,r5):=H
 have A3:=zm A30
 clear A30
 by_cases c4:t667=0
 ·rw [if_pos c4] at H
  have c4b0:(t667 == 0)=true:=beq_iff_eq.mpr c4
  have c4b1:(t667 != 0)=false:=bne_eq_false_iff_eq.mpr c4
  clear c4
  have H':=zm H
  clear H
  go_enter Try.func40,Try.ntmps40
  go_wp2_with (first|((with_reducible refine gate_dst (N:=4) rfl ?_);refine box_event ?hg (N:=4) ?hd (cs:=#[.slice none 0 0,.slice none 0 0,.int .i64 0]) (t:=25) ?hr ?_;(case hd=>rfl);(case hg=>rfl);(case hr=>first|(go_simp;done)|(go_simp;rfl));intro gb659 hg w5 hbox hb;have n0_:=zm (below_step (by repeat (first|(with_reducible first|exact HB.out|apply zlA|apply zlN|apply zlD)|exact HB.out)) hb);have n1_:=zm (hbox);have n2_:=zm ((by rw [hg];exact (below_size (by repeat (first|(with_reducible first|exact HB.out|apply zlA|apply zlN|apply zlD)|exact HB.out))):w.heap.size≤gb659));have n3_:=zm ((by rw [hg];exact (below_size (by repeat (first|(with_reducible first|exact HB.out|apply zlA|apply zlN|apply zlD)|exact HB.out))):w.heap.size≤gb659));clear HB;have HB:=n0_;have BK659:=n1_;have GW659:=n2_;have GE659:=n3_;clear n0_ n1_ n2_ n3_;clear hb hbox hg)|((with_reducible refine gate_callee (f:=12) rfl ?_);refine goesL_ (some 13) rfl rfl Try.func12 (by kernel_rfl) rfl #[.int .i64 a0] rfl (by (try simp only [List.map_toArray,List.map_cons,List.map_nil]);first|done|rfl|(simp only [List.length_drop,List.length_take];rfl)) ?_;(with_reducible refine (slipwayref06_New.calls a0 t660 t663 t666 t667 _ A3.out).mono ?_);rintro e w6 ⟨v661,v664,rfl,ho0,ho1,hb⟩;refine ⟨_,rfl,?_⟩;have n0_:=zm (Kd.R_lower ho0 (below_size (by repeat (first|(with_reducible first|exact HB.out|apply zlA|apply zlN|apply zlD|refine zlS ?_ GE659.out)|exact HB.out))));have n1_:=zm (Kd.R_lower ho1 (below_size (by repeat (first|(with_reducible first|exact HB.out|apply zlA|apply zlN|apply zlD|refine zlS ?_ GE659.out)|exact HB.out))));have n2_:=zm (zbB (g:=gb659) (o:=.cells #[.slice none 0 0,.slice none 0 0,.int .i64 0] 25 (0,0)) (by (with_reducible repeat (first|refine zbN ?_ _|refine zbD ?_|refine zbA ?_ _));exact BK659.out) hb);have n3_:=zm (below_step (by repeat (first|(with_reducible first|exact HB.out|apply zlA|apply zlN|apply zlD|refine zlS ?_ GE659.out)|exact HB.out)) hb);clear BK659 HB;have HO662:=n0_;have HO665:=n1_;have BK659:=n2_;have HB:=n3_;clear n0_ n1_ n2_ n3_;(try clear hb);(try clear hb2);(try clear hk);(try clear hi);(try clear ho0);(try clear ho1))|((with_reducible refine gate_dst (N:=7) rfl ?_);refine box_event ?hg (N:=7) ?hd (cs:=#[.slice none 0 0,.slice none 0 0,.int .i64 0]) (t:=25) ?hr ?_;(case hd=>rfl);(case hg=>rfl);(case hr=>first|(go_simp;done)|(go_simp;rfl));intro gb668 hg w7 hbox hb;have n0_:=zm (Kd.R_below (by (with_reducible repeat (first|apply zrA|apply zrN|apply zrD));exact HO662.out) hb);have n1_:=zm (Kd.R_below (by (with_reducible repeat (first|apply zrA|apply zrN|apply zrD));exact HO665.out) hb);have n2_:=zm (zbB (g:=gb659) (o:=.cells #[.slice none 0 0,.slice none 0 0,.int .i64 0] 25 (0,0)) (by (with_reducible repeat (first|refine zbN ?_ _|refine zbD ?_|refine zbA ?_ _));exact BK659.out) hb);have n3_:=zm (below_step (by repeat (first|(with_reducible first|exact HB.out|apply zlA|apply zlN|apply zlD|refine zlS ?_ GE659.out)|exact HB.out)) hb);have n4_:=zm (hbox);have n5_:=zm ((by rw [hg];exact (below_size (by repeat (first|(with_reducible first|exact HB.out|apply zlA|apply zlN|apply zlD|refine zlS ?_ GE659.out)|exact HB.out))):w.heap.size≤gb668));have n6_:=zm ((by rw [hg];exact (below_size (by repeat (first|(with_reducible first|exact HB.out|apply zlA|apply zlN|apply zlD|refine zlS ?_ GE659.out)|exact HB.out))):w.heap.size≤gb668));have n7_:=zm ((by rw [hg];exact Nat.ne_of_lt (blk_lt (g:=gb659) (o:=.cells #[.slice none 0 0,.slice none 0 0,.int .i64 0] 25 (0,0)) (by (with_reducible repeat (first|refine zbN ?_ _|refine zbD ?_|refine zbA ?_ _));exact BK659.out)):gb659≠gb668));have n8_:=zm ((by rw [hg];exact Nat.ne_of_gt (blk_lt (g:=gb659) (o:=.cells #[.slice none 0 0,.slice none 0 0,.int .i64 0] 25 (0,0)) (by (with_reducible repeat (first|refine zbN ?_ _|refine zbD ?_|refine zbA ?_ _));exact BK659.out)):gb668≠gb659));clear HO662 HO665 BK659 HB;have HO662:=n0_;have HO665:=n1_;have BK659:=n2_;have HB:=n3_;have BK668:=n4_;have GW668:=n5_;have GE668:=n6_;have NB659_668:=n7_;have NB668_659:=n8_;clear n0_ n1_ n2_ n3_ n4_ n5_ n6_ n7_ n8_;clear hb hbox hg;obtain ⟨Ao8,co8,eo8⟩:=Kd.R_slice HO662.out;subst eo8;have hnb9:=NB668_659.out;have hnc9:=NB659_668.out;have hcz10_0:w7.cell? ⟨gb668,0,none⟩=some (.slice none 0 0):=(blk_cell BK668.out 0).trans rfl;have hcz10_1:w7.cell? ⟨gb668,1,none⟩=some (.slice none 0 0):=(blk_cell BK668.out 1).trans rfl;have hcz10_2:w7.cell? ⟨gb668,2,none⟩=some (.int .i64 0):=(blk_cell BK668.out 2).trans rfl;have hfz10_0:=blk_frozen BK668.out 0;have hfz10_1:=blk_frozen BK668.out 1;have hfz10_2:=blk_frozen BK668.out 2;obtain ⟨Ao11,co11,eo11⟩:=Kd.R_slice HO665.out;subst eo11))
  go_loopg [9,10] k (fun kq v9 v10 w'=>∃ (x9_1:Int) (x10_1:Int) (x669000_1:List Bool) (x669001_1:List Int) (x669002_1:Int) (u669000:Value) (u669001:Value),v9=.int .i64 x9_1∧v10=.int .i64 x10_1∧Aside0 (slipwayref06_Replay.l0 kq l1 x9_1 x10_1 x669000_1 x669001_1 x669002_1=some (r1,r2,r3,r4,r5))∧Aside0 (kq≤k)∧Aside0 (Kd.R Kd.bool 4 w' w.heap.size (fun _=>True) u669000 x669000_1)∧Aside0 (Kd.R (Kd.int .i64) 2 w' w.heap.size (fun _=>True) u669001 x669001_1)∧Aside0 (w'.heap[gb659]?=some (.cells #[(.slice none 0 0),(.slice none 0 0),.int .i64 0] 25 (0,0)))∧Aside0 (w'.heap[gb668]?=some (.cells #[u669000,u669001,.int .i64 x669002_1] 25 (0,0)))∧Aside0 (Below w.heap.size w w'))
  case atStart=>exact ⟨(0),(0),(t660),(t663),(t666),(.slice Ao8 t660.length co8),(.slice Ao11 t663.length co11),(by first|rfl|(simp;done)|(simp [*];done)),(by first|rfl|(simp;done)|(simp [*];done)),H',⟨Nat.le_refl _⟩,⟨by (with_reducible repeat (first|apply zrA|apply zrN|apply zrD));exact Kd.R_mono (Kd.R_far (p:=⟨gb668,2,none⟩) (Kd.R_far (p:=⟨gb668,1,none⟩) (Kd.R_far (p:=⟨gb668,0,none⟩) (Kd.R_types HO662.out BK668.out (by decide)) (fun _ hk=>hk.2) (.slice Ao8 t660.length co8)) (fun _ hk=>hk.2) (.slice Ao11 t663.length co11)) (fun _ hk=>hk.2) (.int .i64 t666)) (fun _ hk=>trivial)⟩,⟨by (with_reducible repeat (first|apply zrA|apply zrN|apply zrD));exact Kd.R_mono (Kd.R_far (p:=⟨gb668,2,none⟩) (Kd.R_far (p:=⟨gb668,1,none⟩) (Kd.R_far (p:=⟨gb668,0,none⟩) (Kd.R_types HO665.out BK668.out (by decide)) (fun _ hk=>hk.2) (.slice Ao8 t660.length co8)) (fun _ hk=>hk.2) (.slice Ao11 t663.length co11)) (fun _ hk=>hk.2) (.int .i64 t666)) (fun _ hk=>trivial)⟩,⟨by (with_reducible repeat (first|refine zbN ?_ _|refine zbD ?_|refine zbA ?_ _));refine blk_far ?_ NB659_668.out _;(with_reducible repeat (first|refine zbN ?_ _|refine zbD ?_|refine zbA ?_ _));refine blk_far ?_ NB659_668.out _;(with_reducible repeat (first|refine zbN ?_ _|refine zbD ?_|refine zbA ?_ _));refine blk_far ?_ NB659_668.out _;(with_reducible repeat (first|refine zbN ?_ _|refine zbD ?_|refine zbA ?_ _));exact BK659.out⟩,⟨by (with_reducible repeat (first|refine zbN ?_ _|refine zbD ?_|refine zbA ?_ _));refine blk_put (cs:=#[.slice Ao8 t660.length co8,.slice Ao11 t663.length co11,.int .i64 0]) ?_ 2 _ rfl;(with_reducible repeat (first|refine zbN ?_ _|refine zbD ?_|refine zbA ?_ _));refine blk_put (cs:=#[.slice Ao8 t660.length co8,.slice none 0 0,.int .i64 0]) ?_ 1 _ rfl;(with_reducible repeat (first|refine zbN ?_ _|refine zbD ?_|refine zbA ?_ _));refine blk_put (cs:=#[.slice none 0 0,.slice none 0 0,.int .i64 0]) ?_ 0 _ rfl;(with_reducible repeat (first|refine zbN ?_ _|refine zbD ?_|refine zbA ?_ _));exact BK668.out⟩,⟨by repeat (first|(with_reducible first|exact HB.out|apply zlA|apply zlN|apply zlD|refine zlS ?_ GE659.out|refine zlS ?_ GE668.out)|exact HB.out)⟩⟩
  case round =>
   clear H'
   try clear c1
   try clear p2
   try clear c4
   try clear c4b0
   try clear c4b1
   try clear c9
   try clear hcz10_0
   try clear hcz10_1
   try clear hcz10_2
   try clear hfz10_0
   try clear hfz10_1
   try clear hfz10_2
   obtain ⟨x9_1,x10_1,x669000_1,x669001_1,x669002_1,u669000,u669001,rfl,rfl,HA,HK1,HO_669000,HO_669001,BK659,BK668,HB⟩:=hrel
   cases gk with
   | zero=>exact absurd HA.out (by simp [slipwayref06_Replay.l0])
   | succ k1 =>
    have H:=HA.out
    clear HA
    simp only [slipwayref06_Replay.l0] at H
    by_cases c12:x10_1 < (l1.length:Int)
    ·rw [if_pos c12] at H
     have c12b0:decide (x10_1 < (l1.length:Int))=true:=decide_eq_true c12
     clear c12
     by_cases c13:0≤x10_1
     ·rw [if_pos c13] at H
      have c13b0:decide (0≤x10_1)=true:=decide_eq_true c13
      clear c13
      replace H:=Option.bind_eq_some_iff.mp H
      obtain ⟨t670,A140,H⟩:=H
      replace H:(if t670=true then ((slipwayref06_know.f k1 x669000_1 x669001_1 x669002_1 ((rd_T42 l1 x10_1).f0) ((rd_T42 l1 x10_1).f1) ((rd_T42 l1 x10_1).f2) ((rd_T42 l1 x10_1).f3) ((rd_T42 l1 x10_1).f4) ((rd_T42 l1 x10_1).f5) ((rd_T42 l1 x10_1).f6)).bind fun bt672=>(slipwayref06_Replay.l0 k1 l1 (mx x9_1 ((rd_T42 l1 x10_1).f1)) (wrap64 (x10_1 + 1)) bt672.1 bt672.2.1 bt672.2.2)) else (slipwayref06_Replay.l0 k1 l1 x9_1 (wrap64 (x10_1 + 1)) x669000_1 x669001_1 x669002_1))=some (r1,r2,r3,r4,r5):=H
      have A14:=zm A140
      clear A140
      by_cases c15:t670=true
      ·subst c15
       have H1:((slipwayref06_know.f k1 x669000_1 x669001_1 x669002_1 ((rd_T42 l1 x10_1).f0) ((rd_T42 l1 x10_1).f1) ((rd_T42 l1 x10_1).f2) ((rd_T42 l1 x10_1).f3) ((rd_T42 l1 x10_1).f4) ((rd_T42 l1 x10_1).f5) ((rd_T42 l1 x10_1).f6)).bind fun bt672=>(slipwayref06_Replay.l0 k1 l1 (mx x9_1 ((rd_T42 l1 x10_1).f1)) (wrap64 (x10_1 + 1)) bt672.1 bt672.2.1 bt672.2.2))=some (r1,r2,r3,r4,r5):=by rw [if_pos rfl] at H;exact H
       clear H
       have H:=H1
       clear H1
       replace H:=Option.bind_eq_some_iff.mp H
       obtain ⟨⟨t672,t675,t678⟩,A160,H⟩:=H
       replace H:(slipwayref06_Replay.l0 k1 l1 (mx x9_1 ((rd_T42 l1 x10_1).f1)) (wrap64 (x10_1 + 1)) t672 t675 t678)=some (r1,r2,r3,r4,r5):=H
       have A16:=zm A160
       clear A160
       obtain ⟨ji17,hji17⟩:∃ j_:Int,(mx x9_1 ((rd_T42 l1 x10_1).f1))=j_:=⟨_,rfl⟩
       replace H:(slipwayref06_Replay.l0 k1 l1 ji17 (wrap64 (x10_1 + 1)) t672 t675 t678)=some (r1,r2,r3,r4,r5):=by first|(rw [hji17] at H;exact H)|(simp only [hji17] at H ⊢;exact H)
       (try rw [hji17] at A14)
       (try rw [hji17] at A16)
       have hji17_:(if x9_1 < ((rd_T42 l1 x10_1).f1) then ((rd_T42 l1 x10_1).f1) else x9_1)=ji17:=hji17
       have H':=zm H
       clear H
       have p669:0≤(x10_1:Int):=of_decide_eq_true (by first|(with_reducible assumption)|assumption)
       have q669:x10_1 < (l1.length:Int):=of_decide_eq_true (by first|(with_reducible assumption)|assumption)
       obtain ⟨ad669,A669_4,c669_4,A669_5,c669_5,A669_6,c669_6,e669,hx669_0,hx669_1,hx669_2,hx669_3,hx669_4,hx669_5,hx669_6,hl669_4,hi669_4,hl669_5,hi669_5,hl669_6,hi669_6⟩:=at_T42 HR1.out x10_1 p669 q669
       cases e669
       replace hx669_0:=(HB.out.cell (World.block_lt_of_cell? w _ hx669_0)).trans hx669_0
       replace hx669_1:=(HB.out.cell (World.block_lt_of_cell? w _ hx669_1)).trans hx669_1
       replace hx669_2:=(HB.out.cell (World.block_lt_of_cell? w _ hx669_2)).trans hx669_2
       replace hx669_3:=(HB.out.cell (World.block_lt_of_cell? w _ hx669_3)).trans hx669_3
       replace hx669_4:=(HB.out.cell (World.block_lt_of_cell? w _ hx669_4)).trans hx669_4
       replace hx669_5:=(HB.out.cell (World.block_lt_of_cell? w _ hx669_5)).trans hx669_5
       replace hx669_6:=(HB.out.cell (World.block_lt_of_cell? w _ hx669_6)).trans hx669_6
       have HR669_4:=zm hi669_4
       have HC669_4:=zm hl669_4
       clear hi669_4 hl669_4
       have HR669_5:=zm hi669_5
       have HC669_5:=zm hl669_5
       clear hi669_5 hl669_5
       have HR669_6:=zm hi669_6
       have HC669_6:=zm hl669_6
       clear hi669_6 hl669_6
       replace p669:=eq_true p669
       replace q669:=eq_true q669
       try go_wp2_with (first|((with_reducible refine gate_callee (f:=73) rfl ?_);refine goesL_ (some 30) rfl rfl Try.func73 (by kernel_rfl) rfl #[.agg #[.int .i64 ((rd_T42 l1 x10_1).f0),.int .i64 ((rd_T42 l1 x10_1).f1),.int .i64 ((rd_T42 l1 x10_1).f2),.int .i64 ((rd_T42 l1 x10_1).f3),.slice A669_4 ((rd_T42 l1 x10_1).f4).length c669_4,.slice A669_5 ((rd_T42 l1 x10_1).f5).length c669_5,.slice A669_6 ((rd_T42 l1 x10_1).f6).length c669_6]] rfl (by (try simp only [List.map_toArray,List.map_cons,List.map_nil]);first|done|rfl|(simp only [List.length_drop,List.length_take];rfl)) ?_;(with_reducible refine (slipwayref06_page.calls k1 ((rd_T42 l1 x10_1).f0) ((rd_T42 l1 x10_1).f1) ((rd_T42 l1 x10_1).f2) ((rd_T42 l1 x10_1).f3) _ _ ((rd_T42 l1 x10_1).f4) _ _ ((rd_T42 l1 x10_1).f5) _ _ ((rd_T42 l1 x10_1).f6) true _ ?side1 ?side2 ?side3 ?side4 ?side5 ?side6 A14.out).mono ?_);(case side1=>repeat (first|exact (Kd.C_below HR669_4.out HB.out)|(with_reducible refine Kd.C_alloc ?_ _)|(with_reducible refine Kd.C_drewN ?_ _)|(with_reducible refine Kd.C_drew ?_)));(case side2=>exact HC669_4.out);(case side3=>repeat (first|exact (Kd.C_below HR669_5.out HB.out)|(with_reducible refine Kd.C_alloc ?_ _)|(with_reducible refine Kd.C_drewN ?_ _)|(with_reducible refine Kd.C_drew ?_)));(case side4=>exact HC669_5.out);(case side5=>repeat (first|exact (Kd.C_below HR669_6.out HB.out)|(with_reducible refine Kd.C_alloc ?_ _)|(with_reducible refine Kd.C_drewN ?_ _)|(with_reducible refine Kd.C_drew ?_)));(case side6=>exact HC669_6.out);rintro e w18 ⟨rfl,hb⟩;refine ⟨_,rfl,?_⟩;have n0_:=zm (Kd.R_below (by (with_reducible repeat (first|apply zrA|apply zrN|apply zrD));exact HO_669000.out) hb);have n1_:=zm (Kd.R_below (by (with_reducible repeat (first|apply zrA|apply zrN|apply zrD));exact HO_669001.out) hb);have n2_:=zm (zbB (g:=gb659) (o:=.cells #[.slice none 0 0,.slice none 0 0,.int .i64 0] 25 (0,0)) (by (with_reducible repeat (first|refine zbN ?_ _|refine zbD ?_|refine zbA ?_ _));exact BK659.out) hb);have n3_:=zm (zbB (g:=gb668) (o:=.cells #[u669000,u669001,.int .i64 x669002_1] 25 (0,0)) (by (with_reducible repeat (first|refine zbN ?_ _|refine zbD ?_|refine zbA ?_ _));exact BK668.out) hb);have n4_:=zm (below_step (by repeat (first|(with_reducible first|exact HB.out|apply zlA|apply zlN|apply zlD|refine zlS ?_ GE659.out|refine zlS ?_ GE668.out)|exact HB.out)) hb);clear HO_669000 HO_669001 BK659 BK668 HB;have HO_669000:=n0_;have HO_669001:=n1_;have BK659:=n2_;have BK668:=n3_;have HB:=n4_;clear n0_ n1_ n2_ n3_ n4_;(try clear hb);(try clear hb2);(try clear hk);(try clear hi)))
       have n0_:=zm (zrD HO_669000.out)
       have n1_:=zm (zrD HO_669001.out)
       have n2_:=zm (zbD BK659.out)
       have n3_:=zm (zbD BK668.out)
       have n4_:=zm (zlD HB.out)
       clear HO_669000 HO_669001 BK659 BK668 HB
       have HO_669000:=n0_
       have HO_669001:=n1_
       have BK659:=n2_
       have BK668:=n3_
       have HB:=n4_
       clear n0_ n1_ n2_ n3_ n4_
       have p671:0≤(x10_1:Int):=of_decide_eq_true (by first|(with_reducible assumption)|assumption)
       have q671:x10_1 < (l1.length:Int):=of_decide_eq_true (by first|(with_reducible assumption)|assumption)
       obtain ⟨ad671,A671_4,c671_4,A671_5,c671_5,A671_6,c671_6,e671,hx671_0,hx671_1,hx671_2,hx671_3,hx671_4,hx671_5,hx671_6,hl671_4,hi671_4,hl671_5,hi671_5,hl671_6,hi671_6⟩:=at_T42 HR1.out x10_1 p671 q671
       have hw671_6:=hx671_6
       have hw671_5:=hx671_5
       have hw671_4:=hx671_4
       have hw671_3:=hx671_3
       have hw671_2:=hx671_2
       have hw671_1:=hx671_1
       have hw671_0:=hx671_0
       obtain rfl:ad669=ad671:=(by injection e671)
       replace hx671_0:=(HB.out.cell (World.block_lt_of_cell? w _ hx671_0)).trans hx671_0
       replace hx671_1:=(HB.out.cell (World.block_lt_of_cell? w _ hx671_1)).trans hx671_1
       replace hx671_2:=(HB.out.cell (World.block_lt_of_cell? w _ hx671_2)).trans hx671_2
       replace hx671_3:=(HB.out.cell (World.block_lt_of_cell? w _ hx671_3)).trans hx671_3
       replace hx671_4:=(HB.out.cell (World.block_lt_of_cell? w _ hx671_4)).trans hx671_4
       replace hx671_5:=(HB.out.cell (World.block_lt_of_cell? w _ hx671_5)).trans hx671_5
       replace hx671_6:=(HB.out.cell (World.block_lt_of_cell? w _ hx671_6)).trans hx671_6
       have HR671_4:=zm hi671_4
       have HC671_4:=zm hl671_4
       clear hi671_4 hl671_4
       have HR671_5:=zm hi671_5
       have HC671_5:=zm hl671_5
       clear hi671_5 hl671_5
       have HR671_6:=zm hi671_6
       have HC671_6:=zm hl671_6
       clear hi671_6 hl671_6
       replace p671:=eq_true p671
       replace q671:=eq_true q671
       obtain ⟨Ao20,co20,eo20⟩:=Kd.R_slice HO_669000.out
       (first|subst eo20|(injection eo20 with f1_ f2_ f3_;have f4_:=f1_.symm;have f5_:=f3_.symm;clear f1_ f2_ f3_;subst f4_;subst f5_))
       obtain ⟨Ao21,co21,eo21⟩:=Kd.R_slice HO_669001.out
       (first|subst eo21|(injection eo21 with f1_ f2_ f3_;have f4_:=f1_.symm;have f5_:=f3_.symm;clear f1_ f2_ f3_;subst f4_;subst f5_))
       refine start_ (n:=7) (S:=fun w'=>w'.cell? ⟨gb668,0,none⟩=some (.slice Ao20 x669000_1.length co20)∧w'.cell? ⟨gb668,1,none⟩=some (.slice Ao21 x669001_1.length co21)∧w'.cell? ⟨gb668,2,none⟩=some (.int .i64 x669002_1)∧w'.cell? (ad669.add ((x10_1).toNat * 7))=some (.int .i64 ((rd_T42 l1 x10_1).f0))∧w'.cell? ⟨(ad669.add ((x10_1).toNat * 7)).block,(ad669.add ((x10_1).toNat * 7)).off + 1,none⟩=some (.int .i64 ((rd_T42 l1 x10_1).f1))∧w'.cell? ⟨(ad669.add ((x10_1).toNat * 7)).block,(ad669.add ((x10_1).toNat * 7)).off + 2,none⟩=some (.int .i64 ((rd_T42 l1 x10_1).f2))∧w'.cell? ⟨(ad669.add ((x10_1).toNat * 7)).block,(ad669.add ((x10_1).toNat * 7)).off + 3,none⟩=some (.int .i64 ((rd_T42 l1 x10_1).f3))∧w'.cell? ⟨(ad669.add ((x10_1).toNat * 7)).block,(ad669.add ((x10_1).toNat * 7)).off + 4,none⟩=some (.slice A671_4 ((rd_T42 l1 x10_1).f4).length c671_4)∧w'.cell? ⟨(ad669.add ((x10_1).toNat * 7)).block,(ad669.add ((x10_1).toNat * 7)).off + 5,none⟩=some (.slice A671_5 ((rd_T42 l1 x10_1).f5).length c671_5)∧w'.cell? ⟨(ad669.add ((x10_1).toNat * 7)).block,(ad669.add ((x10_1).toNat * 7)).off + 6,none⟩=some (.slice A671_6 ((rd_T42 l1 x10_1).f6).length c671_6)) (ds:=[6]) #[false,false,false,false,false,false,false] (by kernel_rfl) rfl rfl ⟨(blk_cell BK668.out 0).trans rfl,(blk_cell BK668.out 1).trans rfl,(blk_cell BK668.out 2).trans rfl,((HB.out.cell (World.block_lt_of_cell? w _ hw671_0)).trans hw671_0),((HB.out.cell (World.block_lt_of_cell? w _ hw671_1)).trans hw671_1),((HB.out.cell (World.block_lt_of_cell? w _ hw671_2)).trans hw671_2),((HB.out.cell (World.block_lt_of_cell? w _ hw671_3)).trans hw671_3),((HB.out.cell (World.block_lt_of_cell? w _ hw671_4)).trans hw671_4),((HB.out.cell (World.block_lt_of_cell? w _ hw671_5)).trans hw671_5),((HB.out.cell (World.block_lt_of_cell? w _ hw671_6)).trans hw671_6)⟩ (fun hHeld=>?_)
       generalize w18.drew=w19 at HO_669000 HO_669001 BK659 BK668 HB HR671_4 HR671_5 HR671_6 hx671_0 hx671_1 hx671_2 hx671_3 hx671_4 hx671_5 hx671_6 hHeld ⊢
       refine pure_ (i:=1) (N:=some 32) (v:=?_) (a':=?_) #[false,true,false,false,false,false,false] rfl rfl (by kernel_rfl) (fun _ _ _ h=>h) (Or.inl ⟨by rfl,?_⟩) ?_ ?_
       rotate_left
       ·intro w'
        go_simp
        with_reducible rfl
       rotate_left
       ·simp only [Act.put,List.setIfInBounds_toArray,List.set_cons_zero,List.set_cons_succ,i64_w,i32_w]
        rfl
       refine pure_ (i:=2) (N:=some 33) (v:=?_) (a':=?_) #[false,true,true,false,false,false,false] rfl rfl (by kernel_rfl) (fun _ _ _ h=>h) (Or.inl ⟨by rfl,?_⟩) ?_ ?_
       rotate_left
       ·intro w'
        go_simp
        with_reducible rfl
       rotate_left
       ·simp only [Act.put,List.setIfInBounds_toArray,List.set_cons_zero,List.set_cons_succ,i64_w,i32_w]
        rfl
       refine pure_ (i:=3) (N:=some 34) (v:=?_) (a':=?_) #[false,true,true,true,false,false,false] rfl rfl (by kernel_rfl) (fun _ _ _ h=>h) (Or.inl ⟨by rfl,?_⟩) ?_ ?_
       rotate_left
       ·intro w'
        go_simp
        with_reducible rfl
       rotate_left
       ·simp only [Act.put,List.setIfInBounds_toArray,List.set_cons_zero,List.set_cons_succ,i64_w,i32_w]
        rfl
       refine take_ (i:=0) (N:=some 31) (v:=?_) (a':=?_) #[true,true,true,true,false,false,false] rfl rfl (by kernel_rfl) (fun _ _ _ h=>h) (Or.inl ⟨by rfl,?_⟩) hHeld ?_ ?_
       rotate_left
       ·rintro w' ⟨s0,s1,s2,s3,s4,s5,s6,s7,s8,s9⟩
        go_simp
        with_reducible rfl
       rotate_left
       ·simp only [Act.put,List.setIfInBounds_toArray,List.set_cons_zero,List.set_cons_succ,i64_w,i32_w]
        rfl
       refine take_ (i:=4) (N:=some 35) (v:=?_) (a':=?_) #[true,true,true,true,true,false,false] rfl rfl (by kernel_rfl) (fun _ _ _ h=>h) (Or.inl ⟨by rfl,?_⟩) hHeld ?_ ?_
       rotate_left
       ·rintro w' ⟨s0,s1,s2,s3,s4,s5,s6,s7,s8,s9⟩
        go_simp
        with_reducible rfl
       rotate_left
       ·simp only [Act.put,List.setIfInBounds_toArray,List.set_cons_zero,List.set_cons_succ,i64_w,i32_w]
        rfl
       refine one_ (i:=5) (N:=some 36) #[true,true,true,true,true,true,false] rfl rfl (by kernel_rfl) (by decide) (fun K hK=>?_)
       refine goes_ Try.func74 (by kernel_rfl) rfl #[.agg #[.slice Ao20 x669000_1.length co20,.slice Ao21 x669001_1.length co21,.int .i64 x669002_1],.agg #[.int .i64 ((rd_T42 l1 x10_1).f0),.int .i64 ((rd_T42 l1 x10_1).f1),.int .i64 ((rd_T42 l1 x10_1).f2),.int .i64 ((rd_T42 l1 x10_1).f3),.slice A671_4 ((rd_T42 l1 x10_1).f4).length c671_4,.slice A671_5 ((rd_T42 l1 x10_1).f5).length c671_5,.slice A671_6 ((rd_T42 l1 x10_1).f6).length c671_6]] (by rfl) rfl rfl (by (try simp only [List.map_toArray,List.map_cons,List.map_nil]);first|done|rfl|(simp only [List.length_drop,List.length_take];rfl)) ?_
       with_reducible refine (slipwayref06_know.calls k1 (fun k_=>some k_=(.slice Ao20 x669000_1.length co20:Value).ownBlock) (.slice Ao20 x669000_1.length co20) x669000_1 (fun k_=>some k_=(.slice Ao21 x669001_1.length co21:Value).ownBlock) (.slice Ao21 x669001_1.length co21) x669001_1 x669002_1 ((rd_T42 l1 x10_1).f0) ((rd_T42 l1 x10_1).f1) ((rd_T42 l1 x10_1).f2) ((rd_T42 l1 x10_1).f3) _ _ ((rd_T42 l1 x10_1).f4) _ _ ((rd_T42 l1 x10_1).f5) _ _ ((rd_T42 l1 x10_1).f6) t672 t675 t678 w _ ?side1 ?side2 ?side3 ?side4 ?side5 ?side6 ?side7 ?side8 ?side9 A16.out).mono ?_
       (case side1=>repeat (first|(with_reducible first|exact HB.out|apply zlA|apply zlN|apply zlD|refine zlS ?_ GE659.out|refine zlS ?_ GE668.out)|exact HB.out))
       (case side2=>exact Kd.R_tight rfl HO_669000.out)
       (case side3=>exact Kd.R_tight rfl HO_669001.out)
       (case side4=>exact Kd.C_kept_came Kd.heap_bool HR671_4.out (by repeat (first|(with_reducible first|exact HB.out|apply zlA|apply zlN|apply zlD|refine zlS ?_ GE659.out|refine zlS ?_ GE668.out)|exact HB.out)) (fun k_ hs_=>Or.elim hs_ (fun e_=>(fun e_=>Kd.R_base HO_669000.out k_ e_.symm) e_) (fun e_=>(fun e_=>Kd.R_base HO_669001.out k_ e_.symm) e_)))
       (case side5=>exact HC671_4.out)
       (case side6=>exact Kd.C_kept_came (Kd.heap_int .i64) HR671_5.out (by repeat (first|(with_reducible first|exact HB.out|apply zlA|apply zlN|apply zlD|refine zlS ?_ GE659.out|refine zlS ?_ GE668.out)|exact HB.out)) (fun k_ hs_=>Or.elim hs_ (fun e_=>(fun e_=>Kd.R_base HO_669000.out k_ e_.symm) e_) (fun e_=>(fun e_=>Kd.R_base HO_669001.out k_ e_.symm) e_)))
       (case side7=>exact HC671_5.out)
       (case side8=>exact Kd.C_kept_came k55_heap HR671_6.out (by repeat (first|(with_reducible first|exact HB.out|apply zlA|apply zlN|apply zlD|refine zlS ?_ GE659.out|refine zlS ?_ GE668.out)|exact HB.out)) (fun k_ hs_=>Or.elim hs_ (fun e_=>(fun e_=>Kd.R_base HO_669000.out k_ e_.symm) e_) (fun e_=>(fun e_=>Kd.R_base HO_669001.out k_ e_.symm) e_)))
       (case side9=>exact HC671_6.out)
       rintro e w22 ⟨v673,v676,rfl,ho0,ho1,hb,hkp⟩
       refine ⟨_,rfl,?_⟩
       have n0_:=zm (blk_kept (by (with_reducible repeat (first|refine zbN ?_ _|refine zbD ?_|refine zbA ?_ _));exact BK659.out) hkp (fun hs_=>Or.elim hs_ (fun e_=>(fun e_=>(Kd.R_ne HO_669000.out BK659.out (by decide)) e_) e_) (fun e_=>(fun e_=>(Kd.R_ne HO_669001.out BK659.out (by decide)) e_) e_)))
       have n1_:=zm (blk_kept (by (with_reducible repeat (first|refine zbN ?_ _|refine zbD ?_|refine zbA ?_ _));exact BK668.out) hkp (fun hs_=>Or.elim hs_ (fun e_=>(fun e_=>(Kd.R_ne HO_669000.out BK668.out (by decide)) e_) e_) (fun e_=>(fun e_=>(Kd.R_ne HO_669001.out BK668.out (by decide)) e_) e_)))
       have n2_:=zm (Kd.R_mono (ok':=fun k_=>True) ho0 (fun k_ hk_=>trivial))
       have n3_:=zm (Kd.R_mono (ok':=fun k_=>True) ho1 (fun k_ hk_=>trivial))
       have n4_:=zm (hb)
       clear BK659 BK668 HB HO_669000 HO_669001
       have BK659:=n0_
       have BK668:=n1_
       have HO674:=n2_
       have HO677:=n3_
       have HB:=n4_
       clear n0_ n1_ n2_ n3_ n4_
       (try clear hb)
       (try clear hkp)
       (try clear ho0)
       (try clear ho1)
       obtain ⟨Ao23,co23,eo23⟩:=Kd.R_slice HO674.out
       (first|subst eo23|(injection eo23 with f1_ f2_ f3_;have f4_:=f1_.symm;have f5_:=f3_.symm;clear f1_ f2_ f3_;subst f4_;subst f5_))
       obtain ⟨Ao25,co25,eo25⟩:=Kd.R_slice HO677.out
       (first|subst eo25|(injection eo25 with f1_ f2_ f3_;have f4_:=f1_.symm;have f5_:=f3_.symm;clear f1_ f2_ f3_;subst f4_;subst f5_))
       refine hK.out _ _ ⟨(blk_cell BK668.out 0).trans rfl,(blk_cell BK668.out 1).trans rfl,(blk_cell BK668.out 2).trans rfl,((HB.out.cell (World.block_lt_of_cell? w _ hw671_0)).trans hw671_0),((HB.out.cell (World.block_lt_of_cell? w _ hw671_1)).trans hw671_1),((HB.out.cell (World.block_lt_of_cell? w _ hw671_2)).trans hw671_2),((HB.out.cell (World.block_lt_of_cell? w _ hw671_3)).trans hw671_3),((HB.out.cell (World.block_lt_of_cell? w _ hw671_4)).trans hw671_4),((HB.out.cell (World.block_lt_of_cell? w _ hw671_5)).trans hw671_5),((HB.out.cell (World.block_lt_of_cell? w _ hw671_6)).trans hw671_6)⟩ (fun hHeld=>?_)
       clear hK K
       refine norm_ (a':=?_) ?_ ?_
       rotate_left
       ·show Act.put _ (some 36) _=_
        simp only [Act.put,List.setIfInBounds_toArray,List.set_cons_zero,List.set_cons_succ,i64_w,i32_w]
        rfl
       refine last_ (i:=6) (N:=none) #[true,true,true,true,true,true,true] rfl rfl (by kernel_rfl) (by decide) (fun K hK=>?_)
       have hs24:w22.cell? ⟨gb668,0,none⟩=some (.slice Ao20 x669000_1.length co20):=(blk_cell BK668.out 0).trans rfl
       have hfs24:=blk_frozen BK668.out 0
       have hns24_0:=NB659_668.out
       have hms24_0:=NB668_659.out
       have hs26:w22.cell? ⟨gb668,1,none⟩=some (.slice Ao21 x669001_1.length co21):=(blk_cell BK668.out 1).trans rfl
       have hfs26:=blk_frozen BK668.out 1
       have hns26_0:=NB659_668.out
       have hms26_0:=NB668_659.out
       have hs27:w22.cell? ⟨gb668,2,none⟩=some (.int .i64 x669002_1):=(blk_cell BK668.out 2).trans rfl
       have hfs27:=blk_frozen BK668.out 2
       have hns27_0:=NB659_668.out
       have hms27_0:=NB668_659.out
       refine skip_ (w1:=?_) (by rfl) rfl ?_ ?_
       rotate_left
       ·go_simp
        rfl
       refine hK.out _ _ ?_
       clear hK K
       refine done_ (by kernel_rfl) ?_
       have p679:0≤(x10_1:Int):=of_decide_eq_true (by first|(with_reducible assumption)|assumption)
       have q679:x10_1 < (l1.length:Int):=of_decide_eq_true (by first|(with_reducible assumption)|assumption)
       obtain ⟨ad679,A679_4,c679_4,A679_5,c679_5,A679_6,c679_6,e679,hx679_0,hx679_1,hx679_2,hx679_3,hx679_4,hx679_5,hx679_6,hl679_4,hi679_4,hl679_5,hi679_5,hl679_6,hi679_6⟩:=at_T42 HR1.out x10_1 p679 q679
       obtain rfl:ad669=ad679:=(by injection e679)
       have hn679_0:ad669.block≠gb668:=Nat.ne_of_lt (Nat.lt_of_lt_of_le (by have:=World.block_lt_of_cell? _ _ hx679_0;first|rwa [add_block] at this|exact this) GW668.out)
       have hn679_1:ad669.block≠gb668:=Nat.ne_of_lt (Nat.lt_of_lt_of_le (by have:=World.block_lt_of_cell? _ _ hx679_0;first|rwa [add_block] at this|exact this) GW668.out)
       have hn679_2:ad669.block≠gb668:=Nat.ne_of_lt (Nat.lt_of_lt_of_le (by have:=World.block_lt_of_cell? _ _ hx679_0;first|rwa [add_block] at this|exact this) GW668.out)
       replace hx679_0:=(HB.out.cell (World.block_lt_of_cell? w _ hx679_0)).trans hx679_0
       replace hx679_1:=(HB.out.cell (World.block_lt_of_cell? w _ hx679_1)).trans hx679_1
       replace hx679_2:=(HB.out.cell (World.block_lt_of_cell? w _ hx679_2)).trans hx679_2
       replace hx679_3:=(HB.out.cell (World.block_lt_of_cell? w _ hx679_3)).trans hx679_3
       replace hx679_4:=(HB.out.cell (World.block_lt_of_cell? w _ hx679_4)).trans hx679_4
       replace hx679_5:=(HB.out.cell (World.block_lt_of_cell? w _ hx679_5)).trans hx679_5
       replace hx679_6:=(HB.out.cell (World.block_lt_of_cell? w _ hx679_6)).trans hx679_6
       have HR679_4:=zm hi679_4
       have HC679_4:=zm hl679_4
       clear hi679_4 hl679_4
       have HR679_5:=zm hi679_5
       have HC679_5:=zm hl679_5
       clear hi679_5 hl679_5
       have HR679_6:=zm hi679_6
       have HC679_6:=zm hl679_6
       clear hi679_6 hl679_6
       replace hx679_0:=(cell_far (p:=⟨gb668,0,none⟩) (by first|(rw [add_block];exact hn679_0)|(show (Addr.add _ _).block≠_;rw [add_block];exact hn679_0)|exact hn679_0) (.slice Ao23 t672.length co23)).trans hx679_0
       replace hx679_1:=(cell_far (p:=⟨gb668,0,none⟩) (by first|(rw [add_block];exact hn679_0)|(show (Addr.add _ _).block≠_;rw [add_block];exact hn679_0)|exact hn679_0) (.slice Ao23 t672.length co23)).trans hx679_1
       replace hx679_2:=(cell_far (p:=⟨gb668,0,none⟩) (by first|(rw [add_block];exact hn679_0)|(show (Addr.add _ _).block≠_;rw [add_block];exact hn679_0)|exact hn679_0) (.slice Ao23 t672.length co23)).trans hx679_2
       replace hx679_3:=(cell_far (p:=⟨gb668,0,none⟩) (by first|(rw [add_block];exact hn679_0)|(show (Addr.add _ _).block≠_;rw [add_block];exact hn679_0)|exact hn679_0) (.slice Ao23 t672.length co23)).trans hx679_3
       replace hx679_4:=(cell_far (p:=⟨gb668,0,none⟩) (by first|(rw [add_block];exact hn679_0)|(show (Addr.add _ _).block≠_;rw [add_block];exact hn679_0)|exact hn679_0) (.slice Ao23 t672.length co23)).trans hx679_4
       replace hx679_5:=(cell_far (p:=⟨gb668,0,none⟩) (by first|(rw [add_block];exact hn679_0)|(show (Addr.add _ _).block≠_;rw [add_block];exact hn679_0)|exact hn679_0) (.slice Ao23 t672.length co23)).trans hx679_5
       replace hx679_6:=(cell_far (p:=⟨gb668,0,none⟩) (by first|(rw [add_block];exact hn679_0)|(show (Addr.add _ _).block≠_;rw [add_block];exact hn679_0)|exact hn679_0) (.slice Ao23 t672.length co23)).trans hx679_6
       replace hx679_0:=(cell_far (p:=⟨gb668,1,none⟩) (by first|(rw [add_block];exact hn679_1)|(show (Addr.add _ _).block≠_;rw [add_block];exact hn679_1)|exact hn679_1) (.slice Ao25 t675.length co25)).trans hx679_0
       replace hx679_1:=(cell_far (p:=⟨gb668,1,none⟩) (by first|(rw [add_block];exact hn679_1)|(show (Addr.add _ _).block≠_;rw [add_block];exact hn679_1)|exact hn679_1) (.slice Ao25 t675.length co25)).trans hx679_1
       replace hx679_2:=(cell_far (p:=⟨gb668,1,none⟩) (by first|(rw [add_block];exact hn679_1)|(show (Addr.add _ _).block≠_;rw [add_block];exact hn679_1)|exact hn679_1) (.slice Ao25 t675.length co25)).trans hx679_2
       replace hx679_3:=(cell_far (p:=⟨gb668,1,none⟩) (by first|(rw [add_block];exact hn679_1)|(show (Addr.add _ _).block≠_;rw [add_block];exact hn679_1)|exact hn679_1) (.slice Ao25 t675.length co25)).trans hx679_3
       replace hx679_4:=(cell_far (p:=⟨gb668,1,none⟩) (by first|(rw [add_block];exact hn679_1)|(show (Addr.add _ _).block≠_;rw [add_block];exact hn679_1)|exact hn679_1) (.slice Ao25 t675.length co25)).trans hx679_4
       replace hx679_5:=(cell_far (p:=⟨gb668,1,none⟩) (by first|(rw [add_block];exact hn679_1)|(show (Addr.add _ _).block≠_;rw [add_block];exact hn679_1)|exact hn679_1) (.slice Ao25 t675.length co25)).trans hx679_5
       replace hx679_6:=(cell_far (p:=⟨gb668,1,none⟩) (by first|(rw [add_block];exact hn679_1)|(show (Addr.add _ _).block≠_;rw [add_block];exact hn679_1)|exact hn679_1) (.slice Ao25 t675.length co25)).trans hx679_6
       replace hx679_0:=(cell_far (p:=⟨gb668,2,none⟩) (by first|(rw [add_block];exact hn679_2)|(show (Addr.add _ _).block≠_;rw [add_block];exact hn679_2)|exact hn679_2) (.int .i64 t678)).trans hx679_0
       replace hx679_1:=(cell_far (p:=⟨gb668,2,none⟩) (by first|(rw [add_block];exact hn679_2)|(show (Addr.add _ _).block≠_;rw [add_block];exact hn679_2)|exact hn679_2) (.int .i64 t678)).trans hx679_1
       replace hx679_2:=(cell_far (p:=⟨gb668,2,none⟩) (by first|(rw [add_block];exact hn679_2)|(show (Addr.add _ _).block≠_;rw [add_block];exact hn679_2)|exact hn679_2) (.int .i64 t678)).trans hx679_2
       replace hx679_3:=(cell_far (p:=⟨gb668,2,none⟩) (by first|(rw [add_block];exact hn679_2)|(show (Addr.add _ _).block≠_;rw [add_block];exact hn679_2)|exact hn679_2) (.int .i64 t678)).trans hx679_3
       replace hx679_4:=(cell_far (p:=⟨gb668,2,none⟩) (by first|(rw [add_block];exact hn679_2)|(show (Addr.add _ _).block≠_;rw [add_block];exact hn679_2)|exact hn679_2) (.int .i64 t678)).trans hx679_4
       replace hx679_5:=(cell_far (p:=⟨gb668,2,none⟩) (by first|(rw [add_block];exact hn679_2)|(show (Addr.add _ _).block≠_;rw [add_block];exact hn679_2)|exact hn679_2) (.int .i64 t678)).trans hx679_5
       replace hx679_6:=(cell_far (p:=⟨gb668,2,none⟩) (by first|(rw [add_block];exact hn679_2)|(show (Addr.add _ _).block≠_;rw [add_block];exact hn679_2)|exact hn679_2) (.int .i64 t678)).trans hx679_6
       clear hn679_0 hn679_1 hn679_2
       replace p679:=eq_true p679
       replace q679:=eq_true q679
       try go_wp2
       go_roundg k1
       case measure=>have:=HK1.out;omega
       case rel=>exact ⟨(ji17),(wrap64 (x10_1 + 1)),(t672),(t675),(t678),(.slice Ao23 t672.length co23),(.slice Ao25 t675.length co25),(by first|rfl|(simp;done)|(simp only [← hji17] <;> (first|rfl|simp))|(simp [*];done)),(by first|rfl|(simp;done)|(simp [*];done)),H',⟨by have:=HK1.out;omega⟩,⟨by (with_reducible repeat (first|apply zrA|apply zrN|apply zrD));exact Kd.R_mono (Kd.R_far (p:=⟨gb668,2,none⟩) (Kd.R_far (p:=⟨gb668,1,none⟩) (Kd.R_far (p:=⟨gb668,0,none⟩) (Kd.R_types HO674.out BK668.out (by decide)) (fun _ hk=>hk.2) (.slice Ao23 t672.length co23)) (fun _ hk=>hk.2) (.slice Ao25 t675.length co25)) (fun _ hk=>hk.2) (.int .i64 t678)) (fun _ hk=>trivial)⟩,⟨by (with_reducible repeat (first|apply zrA|apply zrN|apply zrD));exact Kd.R_mono (Kd.R_far (p:=⟨gb668,2,none⟩) (Kd.R_far (p:=⟨gb668,1,none⟩) (Kd.R_far (p:=⟨gb668,0,none⟩) (Kd.R_types HO677.out BK668.out (by decide)) (fun _ hk=>hk.2) (.slice Ao23 t672.length co23)) (fun _ hk=>hk.2) (.slice Ao25 t675.length co25)) (fun _ hk=>hk.2) (.int .i64 t678)) (fun _ hk=>trivial)⟩,⟨by (with_reducible repeat (first|refine zbN ?_ _|refine zbD ?_|refine zbA ?_ _));refine blk_far ?_ NB659_668.out _;(with_reducible repeat (first|refine zbN ?_ _|refine zbD ?_|refine zbA ?_ _));refine blk_far ?_ NB659_668.out _;(with_reducible repeat (first|refine zbN ?_ _|refine zbD ?_|refine zbA ?_ _));refine blk_far ?_ NB659_668.out _;(with_reducible repeat (first|refine zbN ?_ _|refine zbD ?_|refine zbA ?_ _));exact BK659.out⟩,⟨by (with_reducible repeat (first|refine zbN ?_ _|refine zbD ?_|refine zbA ?_ _));refine blk_put (cs:=#[.slice Ao23 t672.length co23,.slice Ao25 t675.length co25,.int .i64 x669002_1]) ?_ 2 _ rfl;(with_reducible repeat (first|refine zbN ?_ _|refine zbD ?_|refine zbA ?_ _));refine blk_put (cs:=#[.slice Ao23 t672.length co23,.slice Ao21 x669001_1.length co21,.int .i64 x669002_1]) ?_ 1 _ rfl;(with_reducible repeat (first|refine zbN ?_ _|refine zbD ?_|refine zbA ?_ _));refine blk_put (cs:=#[.slice Ao20 x669000_1.length co20,.slice Ao21 x669001_1.length co21,.int .i64 x669002_1]) ?_ 0 _ rfl;(with_reducible repeat (first|refine zbN ?_ _|refine zbD ?_|refine zbA ?_ _));exact BK668.out⟩,⟨by repeat (first|(with_reducible first|exact HB.out|apply zlA|apply zlN|apply zlD|refine zlS ?_ GE659.out|refine zlS ?_ GE668.out)|exact HB.out)⟩⟩
      ·replace c15:=Bool.eq_false_iff.mpr c15
       subst c15
       have H1:(slipwayref06_Replay.l0 k1 l1 x9_1 (wrap64 (x10_1 + 1)) x669000_1 x669001_1 x669002_1)=some (r1,r2,r3,r4,r5):=by rw [if_neg (show ¬ (false=true) by decide)] at H;exact H
       clear H
       have H:=H1
       clear H1
       have H':=zm H
       clear H
       have p669:0≤(x10_1:Int):=of_decide_eq_true (by first|(with_reducible assumption)|assumption)
       have q669:x10_1 < (l1.length:Int):=of_decide_eq_true (by first|(with_reducible assumption)|assumption)
       obtain ⟨ad669,A669_4,c669_4,A669_5,c669_5,A669_6,c669_6,e669,hx669_0,hx669_1,hx669_2,hx669_3,hx669_4,hx669_5,hx669_6,hl669_4,hi669_4,hl669_5,hi669_5,hl669_6,hi669_6⟩:=at_T42 HR1.out x10_1 p669 q669
       cases e669
       replace hx669_0:=(HB.out.cell (World.block_lt_of_cell? w _ hx669_0)).trans hx669_0
       replace hx669_1:=(HB.out.cell (World.block_lt_of_cell? w _ hx669_1)).trans hx669_1
       replace hx669_2:=(HB.out.cell (World.block_lt_of_cell? w _ hx669_2)).trans hx669_2
       replace hx669_3:=(HB.out.cell (World.block_lt_of_cell? w _ hx669_3)).trans hx669_3
       replace hx669_4:=(HB.out.cell (World.block_lt_of_cell? w _ hx669_4)).trans hx669_4
       replace hx669_5:=(HB.out.cell (World.block_lt_of_cell? w _ hx669_5)).trans hx669_5
       replace hx669_6:=(HB.out.cell (World.block_lt_of_cell? w _ hx669_6)).trans hx669_6
       have HR669_4:=zm hi669_4
       have HC669_4:=zm hl669_4
       clear hi669_4 hl669_4
       have HR669_5:=zm hi669_5
       have HC669_5:=zm hl669_5
       clear hi669_5 hl669_5
       have HR669_6:=zm hi669_6
       have HC669_6:=zm hl669_6
       clear hi669_6 hl669_6
       replace p669:=eq_true p669
       replace q669:=eq_true q669
       go_wp2_with (first|((with_reducible refine gate_callee (f:=73) rfl ?_);refine goesL_ (some 30) rfl rfl Try.func73 (by kernel_rfl) rfl #[.agg #[.int .i64 ((rd_T42 l1 x10_1).f0),.int .i64 ((rd_T42 l1 x10_1).f1),.int .i64 ((rd_T42 l1 x10_1).f2),.int .i64 ((rd_T42 l1 x10_1).f3),.slice A669_4 ((rd_T42 l1 x10_1).f4).length c669_4,.slice A669_5 ((rd_T42 l1 x10_1).f5).length c669_5,.slice A669_6 ((rd_T42 l1 x10_1).f6).length c669_6]] rfl (by (try simp only [List.map_toArray,List.map_cons,List.map_nil]);first|done|rfl|(simp only [List.length_drop,List.length_take];rfl)) ?_;(with_reducible refine (slipwayref06_page.calls k1 ((rd_T42 l1 x10_1).f0) ((rd_T42 l1 x10_1).f1) ((rd_T42 l1 x10_1).f2) ((rd_T42 l1 x10_1).f3) _ _ ((rd_T42 l1 x10_1).f4) _ _ ((rd_T42 l1 x10_1).f5) _ _ ((rd_T42 l1 x10_1).f6) false _ ?side1 ?side2 ?side3 ?side4 ?side5 ?side6 A14.out).mono ?_);(case side1=>repeat (first|exact (Kd.C_below HR669_4.out HB.out)|(with_reducible refine Kd.C_alloc ?_ _)|(with_reducible refine Kd.C_drewN ?_ _)|(with_reducible refine Kd.C_drew ?_)));(case side2=>exact HC669_4.out);(case side3=>repeat (first|exact (Kd.C_below HR669_5.out HB.out)|(with_reducible refine Kd.C_alloc ?_ _)|(with_reducible refine Kd.C_drewN ?_ _)|(with_reducible refine Kd.C_drew ?_)));(case side4=>exact HC669_5.out);(case side5=>repeat (first|exact (Kd.C_below HR669_6.out HB.out)|(with_reducible refine Kd.C_alloc ?_ _)|(with_reducible refine Kd.C_drewN ?_ _)|(with_reducible refine Kd.C_drew ?_)));(case side6=>exact HC669_6.out);rintro e w28 ⟨rfl,hb⟩;refine ⟨_,rfl,?_⟩;have n0_:=zm (Kd.R_below (by (with_reducible repeat (first|apply zrA|apply zrN|apply zrD));exact HO_669000.out) hb);have n1_:=zm (Kd.R_below (by (with_reducible repeat (first|apply zrA|apply zrN|apply zrD));exact HO_669001.out) hb);have n2_:=zm (zbB (g:=gb659) (o:=.cells #[.slice none 0 0,.slice none 0 0,.int .i64 0] 25 (0,0)) (by (with_reducible repeat (first|refine zbN ?_ _|refine zbD ?_|refine zbA ?_ _));exact BK659.out) hb);have n3_:=zm (zbB (g:=gb668) (o:=.cells #[u669000,u669001,.int .i64 x669002_1] 25 (0,0)) (by (with_reducible repeat (first|refine zbN ?_ _|refine zbD ?_|refine zbA ?_ _));exact BK668.out) hb);have n4_:=zm (below_step (by repeat (first|(with_reducible first|exact HB.out|apply zlA|apply zlN|apply zlD|refine zlS ?_ GE659.out|refine zlS ?_ GE668.out)|exact HB.out)) hb);clear HO_669000 HO_669001 BK659 BK668 HB;have HO_669000:=n0_;have HO_669001:=n1_;have BK659:=n2_;have BK668:=n3_;have HB:=n4_;clear n0_ n1_ n2_ n3_ n4_;(try clear hb);(try clear hb2);(try clear hk);(try clear hi)))
       go_roundg k1
       case measure=>have:=HK1.out;omega
       case rel=>exact ⟨(x9_1),(wrap64 (x10_1 + 1)),(x669000_1),(x669001_1),(x669002_1),(u669000),(u669001),(by first|rfl|(simp;done)|(simp [*];done)),(by first|rfl|(simp;done)|(simp [*];done)),H',⟨by have:=HK1.out;omega⟩,⟨by (with_reducible repeat (first|apply zrA|apply zrN|apply zrD));exact HO_669000.out⟩,⟨by (with_reducible repeat (first|apply zrA|apply zrN|apply zrD));exact HO_669001.out⟩,⟨by (with_reducible repeat (first|refine zbN ?_ _|refine zbD ?_|refine zbA ?_ _));exact BK659.out⟩,⟨by (with_reducible repeat (first|refine zbN ?_ _|refine zbD ?_|refine zbA ?_ _));exact BK668.out⟩,⟨by repeat (first|(with_reducible first|exact HB.out|apply zlA|apply zlN|apply zlD|refine zlS ?_ GE659.out|refine zlS ?_ GE668.out)|exact HB.out)⟩⟩
     ·rw [if_neg c13] at H
      exact absurd H (by simp)
    ·rw [if_neg c12] at H
     have c12b0:decide (x10_1 < (l1.length:Int))=false:=decide_eq_false c12
     clear c12
     simp only [Option.some.injEq,Prod.mk.injEq] at H
     obtain ⟨rfl,rfl,rfl,rfl,rfl⟩:=H
     have hnb29:=NB668_659.out
     have hnc29:=NB659_668.out
     have hcz30_0:wr.cell? ⟨gb668,0,none⟩=some (u669000):=(blk_cell BK668.out 0).trans rfl
     have hcz30_1:wr.cell? ⟨gb668,1,none⟩=some (u669001):=(blk_cell BK668.out 1).trans rfl
     have hcz30_2:wr.cell? ⟨gb668,2,none⟩=some (.int .i64 x669002_1):=(blk_cell BK668.out 2).trans rfl
     have hfz30_0:=blk_frozen BK668.out 0
     have hfz30_1:=blk_frozen BK668.out 1
     have hfz30_2:=blk_frozen BK668.out 2
     obtain ⟨Ao31,co31,eo31⟩:=Kd.R_slice HO_669000.out
     subst eo31
     have hcz32_0:wr.cell? ⟨gb659,0,none⟩=some (.slice none 0 0):=(blk_cell BK659.out 0).trans rfl
     have hcz32_1:wr.cell? ⟨gb659,1,none⟩=some (.slice none 0 0):=(blk_cell BK659.out 1).trans rfl
     have hcz32_2:wr.cell? ⟨gb659,2,none⟩=some (.int .i64 0):=(blk_cell BK659.out 2).trans rfl
     have hfz32_0:=blk_frozen BK659.out 0
     have hfz32_1:=blk_frozen BK659.out 1
     have hfz32_2:=blk_frozen BK659.out 2
     obtain ⟨Ao33,co33,eo33⟩:=Kd.R_slice HO_669001.out
     subst eo33
     go_wp2
     refine bodyPost_ret (results_ctt rfl _ _ gb659 25 #[.slice Ao31 x669000_1.length co31,.slice Ao33 x669001_1.length co33,.int .i64 x669002_1] (0,0) _ rfl (by (with_reducible repeat (first|refine zbN ?_ _|refine zbD ?_|refine zbA ?_ _));refine blk_put (cs:=#[.slice Ao31 x669000_1.length co31,.slice Ao33 x669001_1.length co33,.int .i64 0]) ?_ 2 _ rfl;(with_reducible repeat (first|refine zbN ?_ _|refine zbD ?_|refine zbA ?_ _));refine blk_put (cs:=#[.slice Ao31 x669000_1.length co31,.slice none 0 0,.int .i64 0]) ?_ 1 _ rfl;(with_reducible repeat (first|refine zbN ?_ _|refine zbD ?_|refine zbA ?_ _));refine blk_put (cs:=#[.slice none 0 0,.slice none 0 0,.int .i64 0]) ?_ 0 _ rfl;(with_reducible repeat (first|refine zbN ?_ _|refine zbD ?_|refine zbA ?_ _));exact BK659.out) Try.underlying25 rfl (by kernel_rfl)) rfl ?_
     exact ⟨_,_,by first|rfl|(simp [errW_none,errW_some] <;> rfl)|(simp [*,errW_none,errW_some] <;> rfl),by (with_reducible repeat (first|apply zrA|apply zrN|apply zrD));exact Kd.R_mono (Kd.R_far (p:=⟨gb659,2,none⟩) (Kd.R_far (p:=⟨gb659,1,none⟩) (Kd.R_far (p:=⟨gb659,0,none⟩) (Kd.R_types HO_669000.out BK659.out (by decide)) (fun _ hk=>hk.2) (.slice Ao31 x669000_1.length co31)) (fun _ hk=>hk.2) (.slice Ao33 x669001_1.length co33)) (fun _ hk=>hk.2) (.int .i64 x669002_1)) (fun _ hk=>trivial),by (with_reducible repeat (first|apply zrA|apply zrN|apply zrD));exact Kd.R_mono (Kd.R_far (p:=⟨gb659,2,none⟩) (Kd.R_far (p:=⟨gb659,1,none⟩) (Kd.R_far (p:=⟨gb659,0,none⟩) (Kd.R_types HO_669001.out BK659.out (by decide)) (fun _ hk=>hk.2) (.slice Ao31 x669000_1.length co31)) (fun _ hk=>hk.2) (.slice Ao33 x669001_1.length co33)) (fun _ hk=>hk.2) (.int .i64 x669002_1)) (fun _ hk=>trivial),by repeat (first|(with_reducible first|exact HB.out|apply zlA|apply zlN|apply zlD|refine zlS ?_ GE659.out|refine zlS ?_ GE668.out)|exact HB.out)⟩
 ·rw [if_neg c4] at H
  have c4b0:(t667 == 0)=false:=beq_eq_false_iff_ne.mpr c4
  have c4b1:(t667 != 0)=true:=bne_iff_ne.mpr c4
  simp only [Option.some.injEq,Prod.mk.injEq] at H
  obtain ⟨rfl,rfl,rfl,rfl,rfl⟩:=H
  go_enter Try.func40,Try.ntmps40
  go_wp2_with (first|((with_reducible refine gate_dst (N:=4) rfl ?_);refine box_event ?hg (N:=4) ?hd (cs:=#[.slice none 0 0,.slice none 0 0,.int .i64 0]) (t:=25) ?hr ?_;(case hd=>rfl);(case hg=>rfl);(case hr=>first|(go_simp;done)|(go_simp;rfl));intro gb659 hg w34 hbox hb;have n0_:=zm (below_step (by repeat (first|(with_reducible first|exact HB.out|apply zlA|apply zlN|apply zlD)|exact HB.out)) hb);have n1_:=zm (hbox);have n2_:=zm ((by rw [hg];exact (below_size (by repeat (first|(with_reducible first|exact HB.out|apply zlA|apply zlN|apply zlD)|exact HB.out))):w.heap.size≤gb659));have n3_:=zm ((by rw [hg];exact (below_size (by repeat (first|(with_reducible first|exact HB.out|apply zlA|apply zlN|apply zlD)|exact HB.out))):w.heap.size≤gb659));clear HB;have HB:=n0_;have BK659:=n1_;have GW659:=n2_;have GE659:=n3_;clear n0_ n1_ n2_ n3_;clear hb hbox hg)|((with_reducible refine gate_callee (f:=12) rfl ?_);refine goesL_ (some 13) rfl rfl Try.func12 (by kernel_rfl) rfl #[.int .i64 a0] rfl (by (try simp only [List.map_toArray,List.map_cons,List.map_nil]);first|done|rfl|(simp only [List.length_drop,List.length_take];rfl)) ?_;(with_reducible refine (slipwayref06_New.calls a0 t660 t663 t666 t667 _ A3.out).mono ?_);rintro e w35 ⟨v661,v664,rfl,ho0,ho1,hb⟩;refine ⟨_,rfl,?_⟩;have n0_:=zm (Kd.R_lower ho0 (below_size (by repeat (first|(with_reducible first|exact HB.out|apply zlA|apply zlN|apply zlD|refine zlS ?_ GE659.out)|exact HB.out))));have n1_:=zm (Kd.R_lower ho1 (below_size (by repeat (first|(with_reducible first|exact HB.out|apply zlA|apply zlN|apply zlD|refine zlS ?_ GE659.out)|exact HB.out))));have n2_:=zm (zbB (g:=gb659) (o:=.cells #[.slice none 0 0,.slice none 0 0,.int .i64 0] 25 (0,0)) (by (with_reducible repeat (first|refine zbN ?_ _|refine zbD ?_|refine zbA ?_ _));exact BK659.out) hb);have n3_:=zm (below_step (by repeat (first|(with_reducible first|exact HB.out|apply zlA|apply zlN|apply zlD|refine zlS ?_ GE659.out)|exact HB.out)) hb);clear BK659 HB;have HO662:=n0_;have HO665:=n1_;have BK659:=n2_;have HB:=n3_;clear n0_ n1_ n2_ n3_;(try clear hb);(try clear hb2);(try clear hk);(try clear hi);(try clear ho0);(try clear ho1))|((with_reducible refine gate_dst (N:=7) rfl ?_);refine box_event ?hg (N:=7) ?hd (cs:=#[.slice none 0 0,.slice none 0 0,.int .i64 0]) (t:=25) ?hr ?_;(case hd=>rfl);(case hg=>rfl);(case hr=>first|(go_simp;done)|(go_simp;rfl));intro gb668 hg w36 hbox hb;have n0_:=zm (Kd.R_below (by (with_reducible repeat (first|apply zrA|apply zrN|apply zrD));exact HO662.out) hb);have n1_:=zm (Kd.R_below (by (with_reducible repeat (first|apply zrA|apply zrN|apply zrD));exact HO665.out) hb);have n2_:=zm (zbB (g:=gb659) (o:=.cells #[.slice none 0 0,.slice none 0 0,.int .i64 0] 25 (0,0)) (by (with_reducible repeat (first|refine zbN ?_ _|refine zbD ?_|refine zbA ?_ _));exact BK659.out) hb);have n3_:=zm (below_step (by repeat (first|(with_reducible first|exact HB.out|apply zlA|apply zlN|apply zlD|refine zlS ?_ GE659.out)|exact HB.out)) hb);have n4_:=zm (hbox);have n5_:=zm ((by rw [hg];exact (below_size (by repeat (first|(with_reducible first|exact HB.out|apply zlA|apply zlN|apply zlD|refine zlS ?_ GE659.out)|exact HB.out))):w.heap.size≤gb668));have n6_:=zm ((by rw [hg];exact (below_size (by repeat (first|(with_reducible first|exact HB.out|apply zlA|apply zlN|apply zlD|refine zlS ?_ GE659.out)|exact HB.out))):w.heap.size≤gb668));have n7_:=zm ((by rw [hg];exact Nat.ne_of_lt (blk_lt (g:=gb659) (o:=.cells #[.slice none 0 0,.slice none 0 0,.int .i64 0] 25 (0,0)) (by (with_reducible repeat (first|refine zbN ?_ _|refine zbD ?_|refine zbA ?_ _));exact BK659.out)):gb659≠gb668));have n8_:=zm ((by rw [hg];exact Nat.ne_of_gt (blk_lt (g:=gb659) (o:=.cells #[.slice none 0 0,.slice none 0 0,.int .i64 0] 25 (0,0)) (by (with_reducible repeat (first|refine zbN ?_ _|refine zbD ?_|refine zbA ?_ _));exact BK659.out)):gb668≠gb659));clear HO662 HO665 BK659 HB;have HO662:=n0_;have HO665:=n1_;have BK659:=n2_;have HB:=n3_;have BK668:=n4_;have GW668:=n5_;have GE668:=n6_;have NB659_668:=n7_;have NB668_659:=n8_;clear n0_ n1_ n2_ n3_ n4_ n5_ n6_ n7_ n8_;clear hb hbox hg;obtain ⟨Ao37,co37,eo37⟩:=Kd.R_slice HO662.out;subst eo37;have hnb38:=NB668_659.out;have hnc38:=NB659_668.out;have hcz39_0:w36.cell? ⟨gb668,0,none⟩=some (.slice none 0 0):=(blk_cell BK668.out 0).trans rfl;have hcz39_1:w36.cell? ⟨gb668,1,none⟩=some (.slice none 0 0):=(blk_cell BK668.out 1).trans rfl;have hcz39_2:w36.cell? ⟨gb668,2,none⟩=some (.int .i64 0):=(blk_cell BK668.out 2).trans rfl;have hfz39_0:=blk_frozen BK668.out 0;have hfz39_1:=blk_frozen BK668.out 1;have hfz39_2:=blk_frozen BK668.out 2;obtain ⟨Ao40,co40,eo40⟩:=Kd.R_slice HO665.out;subst eo40;have hcz41_0:w36.cell? ⟨gb659,0,none⟩=some (.slice none 0 0):=(blk_cell BK659.out 0).trans rfl;have hcz41_1:w36.cell? ⟨gb659,1,none⟩=some (.slice none 0 0):=(blk_cell BK659.out 1).trans rfl;have hcz41_2:w36.cell? ⟨gb659,2,none⟩=some (.int .i64 0):=(blk_cell BK659.out 2).trans rfl;have hfz41_0:=blk_frozen BK659.out 0;have hfz41_1:=blk_frozen BK659.out 1;have hfz41_2:=blk_frozen BK659.out 2))
  refine bodyPost_ret (results_ctt rfl _ _ gb659 25 #[.slice none 0 0,.slice none 0 0,.int .i64 0] (0,0) _ rfl (by (with_reducible repeat (first|refine zbN ?_ _|refine zbD ?_|refine zbA ?_ _));refine blk_put (cs:=#[.slice none 0 0,.slice none 0 0,.int .i64 0]) ?_ 2 _ rfl;(with_reducible repeat (first|refine zbN ?_ _|refine zbD ?_|refine zbA ?_ _));refine blk_put (cs:=#[.slice none 0 0,.slice none 0 0,.int .i64 0]) ?_ 1 _ rfl;(with_reducible repeat (first|refine zbN ?_ _|refine zbD ?_|refine zbA ?_ _));refine blk_put (cs:=#[.slice none 0 0,.slice none 0 0,.int .i64 0]) ?_ 0 _ rfl;(with_reducible repeat (first|refine zbN ?_ _|refine zbD ?_|refine zbA ?_ _));refine blk_far ?_ NB659_668.out _;(with_reducible repeat (first|refine zbN ?_ _|refine zbD ?_|refine zbA ?_ _));refine blk_far ?_ NB659_668.out _;(with_reducible repeat (first|refine zbN ?_ _|refine zbD ?_|refine zbA ?_ _));refine blk_far ?_ NB659_668.out _;(with_reducible repeat (first|refine zbN ?_ _|refine zbD ?_|refine zbA ?_ _));exact BK659.out) Try.underlying25 rfl (by kernel_rfl)) rfl ?_
  exact ⟨_,_,by first|rfl|(simp [errW_none,errW_some] <;> rfl)|(simp [*,errW_none,errW_some] <;> rfl),by first|exact Kd.R_nil _ _ _ _ _|exact Kd.N_nil _ _ _ _ _|exact Kd.V_nil _ _ _ _ _|exact Kd.Q_nil _ _ _ _ _|exact Kd.S_nil _ _ _ _ _,by first|exact Kd.R_nil _ _ _ _ _|exact Kd.N_nil _ _ _ _ _|exact Kd.V_nil _ _ _ _ _|exact Kd.Q_nil _ _ _ _ _|exact Kd.S_nil _ _ _ _ _,by repeat (first|(with_reducible first|exact HB.out|apply zlA|apply zlN|apply zlD|refine zlS ?_ GE659.out|refine zlS ?_ GE668.out)|exact HB.out)⟩
end Go.Proofs.Ytkhbmgclklmimaa.Print
end
section
namespace Go.Proofs.Ytkhbmgclklmimaa.Print
open Go.RowKit Go.Proofs.YtkhbmgclklmimaaW.PrintWords Go.Proofs.YtkhbmgclklmimaaW.PrintLast Go.Proofs.YtkhbmgclklmimaaW.PrintMore
attribute [local go_sem] max2_int min2_int max_two min_two max_three min_three max_four min_four   -- for this text's walks alone
attribute [local go_sem ↓] Go.Proofs.Ytkhbmgclklmimaa.Sem.isSome_setCell
attribute [local go_sem] Go.Instr.field Go.asAgg
set_option linter.unusedVariables false
set_option linter.unusedSimpArgs false
def slipwaylaw06_MapReplays.f (k:Nat) (a0:Int) (l1:List (S42)):Option (Bool):=(mapjnl_Replay.f k a0 l1).bind fun bt680=>((slipwayref06_Replay.f k a0 l1).bind fun bt690=>((slipwaylaw06_begun.f k).bind fun t700=>(if t700=true then ((slipwayref06_Same.f k bt680.1 bt680.2.1 bt680.2.2.1 bt690.1 bt690.2.1 bt690.2.2.1).bind fun t701=>(if t701=true then (if bt680.2.2.2.1=bt690.2.2.2.1 then (some (bt680.2.2.2.2 == bt690.2.2.2.2)) else (none)) else (none))) else (none))))
set_option maxHeartbeats 8000000 in
set_option maxRecDepth 100000 in
theorem slipwaylaw06_MapReplays.calls (k:Nat) (a0:Int) (A1:Option Addr) (c1:Nat) (l1:List (S42)) (r:Bool) (w:World) (hr1:Kd.C k42 w A1 l1.length l1) (hc1:l1.length≤c1) (h:slipwaylaw06_MapReplays.f k a0 l1=some r) :
  Calls Try.prog 7 #[.int .i64 a0,.slice A1 l1.length c1] w fun e w'=>e=.returned (.bool r)∧Below w.heap.size w w':=by
 have hu25:=Try.underlying25
 have HR1:=zm hr1
 have HC1:=zm hc1
 clear hr1 hc1
 have HB:=zm (Below.refl w.heap.size w)
 have H:((mapjnl_Replay.f k a0 l1).bind fun bt680=>((slipwayref06_Replay.f k a0 l1).bind fun bt690=>((slipwaylaw06_begun.f k).bind fun t700=>(if t700=true then ((slipwayref06_Same.f k bt680.1 bt680.2.1 bt680.2.2.1 bt690.1 bt690.2.1 bt690.2.2.1).bind fun t701=>(if t701=true then (if bt680.2.2.2.1=bt690.2.2.2.1 then (some (bt680.2.2.2.2 == bt690.2.2.2.2)) else (none)) else (none))) else (none)))))=some r:=h
 clear h
 replace H:=Option.bind_eq_some_iff.mp H
 obtain ⟨⟨t680,t683,t686,t687,t688⟩,A30,H⟩:=H
 replace H:((slipwayref06_Replay.f k a0 l1).bind fun bt690=>((slipwaylaw06_begun.f k).bind fun t700=>(if t700=true then ((slipwayref06_Same.f k t680 t683 t686 bt690.1 bt690.2.1 bt690.2.2.1).bind fun t701=>(if t701=true then (if t687=bt690.2.2.2.1 then (some (t688 == bt690.2.2.2.2)) else (none)) else (none))) else (none))))=some r:=H
 have A3:=zm A30
 clear A30
 replace H:=Option.bind_eq_some_iff.mp H
 obtain ⟨⟨t690,t693,t696,t697,t698⟩,A40,H⟩:=H
 replace H:((slipwaylaw06_begun.f k).bind fun t700=>(if t700=true then ((slipwayref06_Same.f k t680 t683 t686 t690 t693 t696).bind fun t701=>(if t701=true then (if t687=t697 then (some (t688 == t698)) else (none)) else (none))) else (none)))=some r:=H
 have A4:=zm A40
 clear A40
 replace H:=Option.bind_eq_some_iff.mp H
 obtain ⟨t700,A50,H⟩:=H
 replace H:(if t700=true then ((slipwayref06_Same.f k t680 t683 t686 t690 t693 t696).bind fun t701=>(if t701=true then (if t687=t697 then (some (t688 == t698)) else (none)) else (none))) else (none))=some r:=H
 have A5:=zm A50
 clear A50
 by_cases c6:t700=true
 ·subst c6
  have H1:((slipwayref06_Same.f k t680 t683 t686 t690 t693 t696).bind fun t701=>(if t701=true then (if t687=t697 then (some (t688 == t698)) else (none)) else (none)))=some r:=by rw [if_pos rfl] at H;exact H
  clear H
  have H:=H1
  clear H1
  replace H:=Option.bind_eq_some_iff.mp H
  obtain ⟨t701,A70,H⟩:=H
  replace H:(if t701=true then (if t687=t697 then (some (t688 == t698)) else (none)) else (none))=some r:=H
  have A7:=zm A70
  clear A70
  by_cases c8:t701=true
  ·subst c8
   have H1:(if t687=t697 then (some (t688 == t698)) else (none))=some r:=by rw [if_pos rfl] at H;exact H
   clear H
   have H:=H1
   clear H1
   by_cases c9:t687=t697
   ·rw [if_pos c9] at H
    have c9b0:(t687 == t697)=true:=beq_iff_eq.mpr c9
    have c9b1:(t687 != t697)=false:=bne_eq_false_iff_eq.mpr c9
    clear c9
    obtain rfl:=Option.some.inj H
    go_enter Try.func7,Try.ntmps7
    go_wp2_with (first|((with_reducible refine gate_callee (f:=39) rfl ?_);refine goesL_ (some 14) rfl rfl Try.func39 (by kernel_rfl) rfl #[.int .i64 a0,.slice A1 l1.length c1] rfl (by (try simp only [List.map_toArray,List.map_cons,List.map_nil]);first|done|rfl|(simp only [List.length_drop,List.length_take];rfl)) ?_;(with_reducible refine (mapjnl_Replay.calls k a0 _ _ l1 t680 t683 t686 t687 t688 _ ?side1 ?side2 A3.out).mono ?_);(case side1=>repeat (first|exact HR1.out|(with_reducible refine Kd.C_alloc ?_ _)|(with_reducible refine Kd.C_drewN ?_ _)|(with_reducible refine Kd.C_drew ?_)));(case side2=>exact HC1.out);rintro e w10 ⟨v681,v684,rfl,ho0,ho1,hb⟩;refine ⟨_,rfl,?_⟩;have n0_:=zm (Kd.R_lower ho0 (below_size (by repeat (first|(with_reducible first|exact HB.out|apply zlA|apply zlN|apply zlD)|exact HB.out))));have n1_:=zm (Kd.R_lower ho1 (below_size (by repeat (first|(with_reducible first|exact HB.out|apply zlA|apply zlN|apply zlD)|exact HB.out))));have n2_:=zm (below_step (by repeat (first|(with_reducible first|exact HB.out|apply zlA|apply zlN|apply zlD)|exact HB.out)) hb);clear HB;have HO682:=n0_;have HO685:=n1_;have HB:=n2_;clear n0_ n1_ n2_;(try clear hb);(try clear hb2);(try clear hk);(try clear hi);(try clear ho0);(try clear ho1))|((with_reducible refine gate_dst (N:=5) rfl ?_);refine box_event ?hg (N:=5) ?hd (cs:=#[.slice none 0 0,.slice none 0 0,.int .i64 0]) (t:=25) ?hr ?_;(case hd=>rfl);(case hg=>rfl);(case hr=>first|(go_simp;done)|(go_simp;rfl));intro gb689 hg w11 hbox hb;have n0_:=zm (Kd.R_below (by (with_reducible repeat (first|apply zrA|apply zrN|apply zrD));exact HO682.out) hb);have n1_:=zm (Kd.R_below (by (with_reducible repeat (first|apply zrA|apply zrN|apply zrD));exact HO685.out) hb);have n2_:=zm (below_step (by repeat (first|(with_reducible first|exact HB.out|apply zlA|apply zlN|apply zlD)|exact HB.out)) hb);have n3_:=zm (hbox);have n4_:=zm ((by rw [hg];exact (below_size (by repeat (first|(with_reducible first|exact HB.out|apply zlA|apply zlN|apply zlD)|exact HB.out))):w.heap.size≤gb689));have n5_:=zm ((by rw [hg];exact (below_size (by repeat (first|(with_reducible first|exact HB.out|apply zlA|apply zlN|apply zlD)|exact HB.out))):w.heap.size≤gb689));clear HO682 HO685 HB;have HO682:=n0_;have HO685:=n1_;have HB:=n2_;have BK689:=n3_;have GW689:=n4_;have GE689:=n5_;clear n0_ n1_ n2_ n3_ n4_ n5_;clear hb hbox hg;obtain ⟨Ao12,co12,eo12⟩:=Kd.R_slice HO682.out;subst eo12;have hcz13_0:w11.cell? ⟨gb689,0,none⟩=some (.slice none 0 0):=(blk_cell BK689.out 0).trans rfl;have hcz13_1:w11.cell? ⟨gb689,1,none⟩=some (.slice none 0 0):=(blk_cell BK689.out 1).trans rfl;have hcz13_2:w11.cell? ⟨gb689,2,none⟩=some (.int .i64 0):=(blk_cell BK689.out 2).trans rfl;have hfz13_0:=blk_frozen BK689.out 0;have hfz13_1:=blk_frozen BK689.out 1;have hfz13_2:=blk_frozen BK689.out 2;obtain ⟨Ao14,co14,eo14⟩:=Kd.R_slice HO685.out;subst eo14)|((with_reducible refine gate_callee (f:=40) rfl ?_);refine goesL_ (some 21) rfl rfl Try.func40 (by kernel_rfl) rfl #[.int .i64 a0,.slice A1 l1.length c1] rfl (by (try simp only [List.map_toArray,List.map_cons,List.map_nil]);first|done|rfl|(simp only [List.length_drop,List.length_take];rfl)) ?_;(with_reducible refine (slipwayref06_Replay.calls k a0 _ _ l1 t690 t693 t696 t697 t698 _ ?side1 ?side2 A4.out).mono ?_);(case side1=>exact Kd.C_below HR1.out (by repeat (first|(with_reducible first|exact HB.out|apply zlA|apply zlN|apply zlD|refine zlS ?_ GE689.out)|exact HB.out)));(case side2=>exact HC1.out);rintro e w15 ⟨v691,v694,rfl,ho0,ho1,hb⟩;refine ⟨_,rfl,?_⟩;have n0_:=zm (Kd.R_elder' (by (with_reducible repeat (first|apply zrA|apply zrN|apply zrD));exact (Kd.R_mono (Kd.R_far (p:=⟨gb689,2,none⟩) (Kd.R_far (p:=⟨gb689,1,none⟩) (Kd.R_far (p:=⟨gb689,0,none⟩) (Kd.R_types HO682.out BK689.out (by decide)) (fun _ hk=>hk.2) (.slice Ao12 t680.length co12)) (fun _ hk=>hk.2) (.slice Ao14 t683.length co14)) (fun _ hk=>hk.2) (.int .i64 t686)) (fun _ h_=>h_.1))) (Kd.R_base ho0) hb);have n1_:=zm (Kd.R_elder' (by (with_reducible repeat (first|apply zrA|apply zrN|apply zrD));exact (Kd.R_mono (Kd.R_far (p:=⟨gb689,2,none⟩) (Kd.R_far (p:=⟨gb689,1,none⟩) (Kd.R_far (p:=⟨gb689,0,none⟩) (Kd.R_types HO685.out BK689.out (by decide)) (fun _ hk=>hk.2) (.slice Ao12 t680.length co12)) (fun _ hk=>hk.2) (.slice Ao14 t683.length co14)) (fun _ hk=>hk.2) (.int .i64 t686)) (fun _ h_=>h_.1))) (Kd.R_base ho1) hb);have n2_:=zm (Kd.R_lower (Kd.R_new' ho0 (Kd.R_lt (by (with_reducible repeat (first|apply zrA|apply zrN|apply zrD));exact (Kd.R_mono (Kd.R_far (p:=⟨gb689,2,none⟩) (Kd.R_far (p:=⟨gb689,1,none⟩) (Kd.R_far (p:=⟨gb689,0,none⟩) (Kd.R_types HO682.out BK689.out (by decide)) (fun _ hk=>hk.2) (.slice Ao12 t680.length co12)) (fun _ hk=>hk.2) (.slice Ao14 t683.length co14)) (fun _ hk=>hk.2) (.int .i64 t686)) (fun _ h_=>h_.1))))) (below_size (by repeat (first|(with_reducible first|exact HB.out|apply zlA|apply zlN|apply zlD|refine zlS ?_ GE689.out)|exact HB.out))));have n3_:=zm (Kd.R_lower (Kd.R_new' ho1 (Kd.R_lt (by (with_reducible repeat (first|apply zrA|apply zrN|apply zrD));exact (Kd.R_mono (Kd.R_far (p:=⟨gb689,2,none⟩) (Kd.R_far (p:=⟨gb689,1,none⟩) (Kd.R_far (p:=⟨gb689,0,none⟩) (Kd.R_types HO685.out BK689.out (by decide)) (fun _ hk=>hk.2) (.slice Ao12 t680.length co12)) (fun _ hk=>hk.2) (.slice Ao14 t683.length co14)) (fun _ hk=>hk.2) (.int .i64 t686)) (fun _ h_=>h_.1))))) (below_size (by repeat (first|(with_reducible first|exact HB.out|apply zlA|apply zlN|apply zlD|refine zlS ?_ GE689.out)|exact HB.out))));have n4_:=zm (zbB (g:=gb689) (o:=.cells #[.slice Ao12 t680.length co12,.slice Ao14 t683.length co14,.int .i64 t686] 25 (0,0)) (by (with_reducible repeat (first|refine zbN ?_ _|refine zbD ?_|refine zbA ?_ _));refine blk_put (cs:=#[.slice Ao12 t680.length co12,.slice Ao14 t683.length co14,.int .i64 0]) ?_ 2 _ rfl;(with_reducible repeat (first|refine zbN ?_ _|refine zbD ?_|refine zbA ?_ _));refine blk_put (cs:=#[.slice Ao12 t680.length co12,.slice none 0 0,.int .i64 0]) ?_ 1 _ rfl;(with_reducible repeat (first|refine zbN ?_ _|refine zbD ?_|refine zbA ?_ _));refine blk_put (cs:=#[.slice none 0 0,.slice none 0 0,.int .i64 0]) ?_ 0 _ rfl;(with_reducible repeat (first|refine zbN ?_ _|refine zbD ?_|refine zbA ?_ _));exact BK689.out) hb);have n5_:=zm (below_step (by repeat (first|(with_reducible first|exact HB.out|apply zlA|apply zlN|apply zlD|refine zlS ?_ GE689.out)|exact HB.out)) hb);clear HO682 HO685 BK689 HB;have HO682:=n0_;have HO685:=n1_;have HO692:=n2_;have HO695:=n3_;have BK689:=n4_;have HB:=n5_;clear n0_ n1_ n2_ n3_ n4_ n5_;(try clear hb);(try clear hb2);(try clear hk);(try clear hi);(try clear ho0);(try clear ho1))|((with_reducible refine gate_dst (N:=8) rfl ?_);refine box_event ?hg (N:=8) ?hd (cs:=#[.slice none 0 0,.slice none 0 0,.int .i64 0]) (t:=25) ?hr ?_;(case hd=>rfl);(case hg=>rfl);(case hr=>first|(go_simp;done)|(go_simp;rfl));intro gb699 hg w16 hbox hb;have n0_:=zm (Kd.R_below (by (with_reducible repeat (first|apply zrA|apply zrN|apply zrD));exact HO682.out) hb);have n1_:=zm (Kd.R_below (by (with_reducible repeat (first|apply zrA|apply zrN|apply zrD));exact HO685.out) hb);have n2_:=zm (Kd.R_below (by (with_reducible repeat (first|apply zrA|apply zrN|apply zrD));exact HO692.out) hb);have n3_:=zm (Kd.R_below (by (with_reducible repeat (first|apply zrA|apply zrN|apply zrD));exact HO695.out) hb);have n4_:=zm (zbB (g:=gb689) (o:=.cells #[.slice Ao12 t680.length co12,.slice Ao14 t683.length co14,.int .i64 t686] 25 (0,0)) (by (with_reducible repeat (first|refine zbN ?_ _|refine zbD ?_|refine zbA ?_ _));exact BK689.out) hb);have n5_:=zm (below_step (by repeat (first|(with_reducible first|exact HB.out|apply zlA|apply zlN|apply zlD|refine zlS ?_ GE689.out)|exact HB.out)) hb);have n6_:=zm (hbox);have n7_:=zm ((by rw [hg];exact (below_size (by repeat (first|(with_reducible first|exact HB.out|apply zlA|apply zlN|apply zlD|refine zlS ?_ GE689.out)|exact HB.out))):w.heap.size≤gb699));have n8_:=zm ((by rw [hg];exact (below_size (by repeat (first|(with_reducible first|exact HB.out|apply zlA|apply zlN|apply zlD|refine zlS ?_ GE689.out)|exact HB.out))):w.heap.size≤gb699));have n9_:=zm ((by rw [hg];exact Nat.ne_of_lt (blk_lt (g:=gb689) (o:=.cells #[.slice Ao12 t680.length co12,.slice Ao14 t683.length co14,.int .i64 t686] 25 (0,0)) (by (with_reducible repeat (first|refine zbN ?_ _|refine zbD ?_|refine zbA ?_ _));exact BK689.out)):gb689≠gb699));have n10_:=zm ((by rw [hg];exact Nat.ne_of_gt (blk_lt (g:=gb689) (o:=.cells #[.slice Ao12 t680.length co12,.slice Ao14 t683.length co14,.int .i64 t686] 25 (0,0)) (by (with_reducible repeat (first|refine zbN ?_ _|refine zbD ?_|refine zbA ?_ _));exact BK689.out)):gb699≠gb689));clear HO682 HO685 HO692 HO695 BK689 HB;have HO682:=n0_;have HO685:=n1_;have HO692:=n2_;have HO695:=n3_;have BK689:=n4_;have HB:=n5_;have BK699:=n6_;have GW699:=n7_;have GE699:=n8_;have NB689_699:=n9_;have NB699_689:=n10_;clear n0_ n1_ n2_ n3_ n4_ n5_ n6_ n7_ n8_ n9_ n10_;clear hb hbox hg;obtain ⟨Ao17,co17,eo17⟩:=Kd.R_slice HO692.out;subst eo17;have hnb18:=NB699_689.out;have hnc18:=NB689_699.out;have hcz19_0:w16.cell? ⟨gb699,0,none⟩=some (.slice none 0 0):=(blk_cell BK699.out 0).trans rfl;have hcz19_1:w16.cell? ⟨gb699,1,none⟩=some (.slice none 0 0):=(blk_cell BK699.out 1).trans rfl;have hcz19_2:w16.cell? ⟨gb699,2,none⟩=some (.int .i64 0):=(blk_cell BK699.out 2).trans rfl;have hfz19_0:=blk_frozen BK699.out 0;have hfz19_1:=blk_frozen BK699.out 1;have hfz19_2:=blk_frozen BK699.out 2;obtain ⟨Ao20,co20,eo20⟩:=Kd.R_slice HO695.out;subst eo20)|((with_reducible refine gate_callee (f:=15) rfl ?_);refine goesL_ (some 25) rfl rfl Try.func15 (by kernel_rfl) rfl #[] rfl (by (try simp only [List.map_toArray,List.map_cons,List.map_nil]);first|done|rfl|(simp only [List.length_drop,List.length_take];rfl)) ?_;(with_reducible refine (slipwaylaw06_begun.calls k  true _ A5.out).mono ?_);rintro e w21 ⟨rfl,hb⟩;refine ⟨_,rfl,?_⟩;have n0_:=zm (Kd.R_below (by (with_reducible repeat (first|apply zrA|apply zrN|apply zrD));exact (Kd.R_mono (Kd.R_far (p:=⟨gb699,2,none⟩) (Kd.R_far (p:=⟨gb699,1,none⟩) (Kd.R_far (p:=⟨gb699,0,none⟩) (Kd.R_types HO682.out BK699.out (by decide)) (fun _ hk=>hk.2) (.slice Ao17 t690.length co17)) (fun _ hk=>hk.2) (.slice Ao20 t693.length co20)) (fun _ hk=>hk.2) (.int .i64 t696)) (fun _ h_=>h_.1))) hb);have n1_:=zm (Kd.R_below (by (with_reducible repeat (first|apply zrA|apply zrN|apply zrD));exact (Kd.R_mono (Kd.R_far (p:=⟨gb699,2,none⟩) (Kd.R_far (p:=⟨gb699,1,none⟩) (Kd.R_far (p:=⟨gb699,0,none⟩) (Kd.R_types HO685.out BK699.out (by decide)) (fun _ hk=>hk.2) (.slice Ao17 t690.length co17)) (fun _ hk=>hk.2) (.slice Ao20 t693.length co20)) (fun _ hk=>hk.2) (.int .i64 t696)) (fun _ h_=>h_.1))) hb);have n2_:=zm (Kd.R_below (by (with_reducible repeat (first|apply zrA|apply zrN|apply zrD));exact (Kd.R_mono (Kd.R_far (p:=⟨gb699,2,none⟩) (Kd.R_far (p:=⟨gb699,1,none⟩) (Kd.R_far (p:=⟨gb699,0,none⟩) (Kd.R_types HO692.out BK699.out (by decide)) (fun _ hk=>hk.2) (.slice Ao17 t690.length co17)) (fun _ hk=>hk.2) (.slice Ao20 t693.length co20)) (fun _ hk=>hk.2) (.int .i64 t696)) (fun _ h_=>h_.1))) hb);have n3_:=zm (Kd.R_below (by (with_reducible repeat (first|apply zrA|apply zrN|apply zrD));exact (Kd.R_mono (Kd.R_far (p:=⟨gb699,2,none⟩) (Kd.R_far (p:=⟨gb699,1,none⟩) (Kd.R_far (p:=⟨gb699,0,none⟩) (Kd.R_types HO695.out BK699.out (by decide)) (fun _ hk=>hk.2) (.slice Ao17 t690.length co17)) (fun _ hk=>hk.2) (.slice Ao20 t693.length co20)) (fun _ hk=>hk.2) (.int .i64 t696)) (fun _ h_=>h_.1))) hb);have n4_:=zm (zbB (g:=gb689) (o:=.cells #[.slice Ao12 t680.length co12,.slice Ao14 t683.length co14,.int .i64 t686] 25 (0,0)) (by (with_reducible repeat (first|refine zbN ?_ _|refine zbD ?_|refine zbA ?_ _));refine blk_far ?_ NB689_699.out _;(with_reducible repeat (first|refine zbN ?_ _|refine zbD ?_|refine zbA ?_ _));refine blk_far ?_ NB689_699.out _;(with_reducible repeat (first|refine zbN ?_ _|refine zbD ?_|refine zbA ?_ _));refine blk_far ?_ NB689_699.out _;(with_reducible repeat (first|refine zbN ?_ _|refine zbD ?_|refine zbA ?_ _));exact BK689.out) hb);have n5_:=zm (zbB (g:=gb699) (o:=.cells #[.slice Ao17 t690.length co17,.slice Ao20 t693.length co20,.int .i64 t696] 25 (0,0)) (by (with_reducible repeat (first|refine zbN ?_ _|refine zbD ?_|refine zbA ?_ _));refine blk_put (cs:=#[.slice Ao17 t690.length co17,.slice Ao20 t693.length co20,.int .i64 0]) ?_ 2 _ rfl;(with_reducible repeat (first|refine zbN ?_ _|refine zbD ?_|refine zbA ?_ _));refine blk_put (cs:=#[.slice Ao17 t690.length co17,.slice none 0 0,.int .i64 0]) ?_ 1 _ rfl;(with_reducible repeat (first|refine zbN ?_ _|refine zbD ?_|refine zbA ?_ _));refine blk_put (cs:=#[.slice none 0 0,.slice none 0 0,.int .i64 0]) ?_ 0 _ rfl;(with_reducible repeat (first|refine zbN ?_ _|refine zbD ?_|refine zbA ?_ _));exact BK699.out) hb);have n6_:=zm (below_step (by repeat (first|(with_reducible first|exact HB.out|apply zlA|apply zlN|apply zlD|refine zlS ?_ GE689.out|refine zlS ?_ GE699.out)|exact HB.out)) hb);clear HO682 HO685 HO692 HO695 BK689 BK699 HB;have HO682:=n0_;have HO685:=n1_;have HO692:=n2_;have HO695:=n3_;have BK689:=n4_;have BK699:=n5_;have HB:=n6_;clear n0_ n1_ n2_ n3_ n4_ n5_ n6_;(try clear hb);(try clear hb2);(try clear hk);(try clear hi);have hcz22_0:w21.cell? ⟨gb689,0,none⟩=some (.slice Ao12 t680.length co12):=(blk_cell BK689.out 0).trans rfl;have hcz22_1:w21.cell? ⟨gb689,1,none⟩=some (.slice Ao14 t683.length co14):=(blk_cell BK689.out 1).trans rfl;have hcz22_2:w21.cell? ⟨gb689,2,none⟩=some (.int .i64 t686):=(blk_cell BK689.out 2).trans rfl;have hfz22_0:=blk_frozen BK689.out 0;have hfz22_1:=blk_frozen BK689.out 1;have hfz22_2:=blk_frozen BK689.out 2;have hcz23_0:w21.cell? ⟨gb699,0,none⟩=some (.slice Ao17 t690.length co17):=(blk_cell BK699.out 0).trans rfl;have hcz23_1:w21.cell? ⟨gb699,1,none⟩=some (.slice Ao20 t693.length co20):=(blk_cell BK699.out 1).trans rfl;have hcz23_2:w21.cell? ⟨gb699,2,none⟩=some (.int .i64 t696):=(blk_cell BK699.out 2).trans rfl;have hfz23_0:=blk_frozen BK699.out 0;have hfz23_1:=blk_frozen BK699.out 1;have hfz23_2:=blk_frozen BK699.out 2)|(go_at_call 16;(with_reducible refine (slipwayref06_Same.calls k _ _ t680 _ _ t683 t686 _ _ t690 _ _ t693 t696 true _ ?side1 ?side2 ?side3 ?side4 ?side5 ?side6 ?side7 ?side8 A7.out).mono ?_);(case side1=>repeat (first|exact (Kd.R_reads' HO682.out).2.2|(with_reducible refine Kd.C_alloc ?_ _)|(with_reducible refine Kd.C_drewN ?_ _)|(with_reducible refine Kd.C_drew ?_)));(case side2=>exact (Kd.R_reads' HO682.out).2.1);(case side3=>repeat (first|exact (Kd.R_reads' HO685.out).2.2|(with_reducible refine Kd.C_alloc ?_ _)|(with_reducible refine Kd.C_drewN ?_ _)|(with_reducible refine Kd.C_drew ?_)));(case side4=>exact (Kd.R_reads' HO685.out).2.1);(case side5=>repeat (first|exact (Kd.R_reads' HO692.out).2.2|(with_reducible refine Kd.C_alloc ?_ _)|(with_reducible refine Kd.C_drewN ?_ _)|(with_reducible refine Kd.C_drew ?_)));(case side6=>exact (Kd.R_reads' HO692.out).2.1);(case side7=>repeat (first|exact (Kd.R_reads' HO695.out).2.2|(with_reducible refine Kd.C_alloc ?_ _)|(with_reducible refine Kd.C_drewN ?_ _)|(with_reducible refine Kd.C_drew ?_)));(case side8=>exact (Kd.R_reads' HO695.out).2.1);rintro e w24 ⟨rfl,hb⟩;have n0_:=zm (Kd.R_below (by (with_reducible repeat (first|apply zrA|apply zrN|apply zrD));exact HO682.out) hb);have n1_:=zm (Kd.R_below (by (with_reducible repeat (first|apply zrA|apply zrN|apply zrD));exact HO685.out) hb);have n2_:=zm (Kd.R_below (by (with_reducible repeat (first|apply zrA|apply zrN|apply zrD));exact HO692.out) hb);have n3_:=zm (Kd.R_below (by (with_reducible repeat (first|apply zrA|apply zrN|apply zrD));exact HO695.out) hb);have n4_:=zm (zbB (g:=gb689) (o:=.cells #[.slice Ao12 t680.length co12,.slice Ao14 t683.length co14,.int .i64 t686] 25 (0,0)) (by (with_reducible repeat (first|refine zbN ?_ _|refine zbD ?_|refine zbA ?_ _));exact BK689.out) hb);have n5_:=zm (zbB (g:=gb699) (o:=.cells #[.slice Ao17 t690.length co17,.slice Ao20 t693.length co20,.int .i64 t696] 25 (0,0)) (by (with_reducible repeat (first|refine zbN ?_ _|refine zbD ?_|refine zbA ?_ _));exact BK699.out) hb);have n6_:=zm (below_step (by repeat (first|(with_reducible first|exact HB.out|apply zlA|apply zlN|apply zlD|refine zlS ?_ GE689.out|refine zlS ?_ GE699.out)|exact HB.out)) hb);clear HO682 HO685 HO692 HO695 BK689 BK699 HB;have HO682:=n0_;have HO685:=n1_;have HO692:=n2_;have HO695:=n3_;have BK689:=n4_;have BK699:=n5_;have HB:=n6_;clear n0_ n1_ n2_ n3_ n4_ n5_ n6_;(try clear hb);(try clear hb2);(try clear hk);(try clear hi)))
    go_ret
    exact ⟨by first|rfl|(simp [errW_none,errW_some] <;> rfl)|(simp [*,errW_none,errW_some] <;> rfl),by repeat (first|(with_reducible first|exact HB.out|apply zlA|apply zlN|apply zlD|refine zlS ?_ GE689.out|refine zlS ?_ GE699.out)|exact HB.out)⟩
   ·rw [if_neg c9] at H
    exact absurd H (by simp)
  ·replace c8:=Bool.eq_false_iff.mpr c8
   subst c8
   have H1:(none)=some r:=by rw [if_neg (show ¬ (false=true) by decide)] at H;exact H
   clear H
   have H:=H1
   clear H1
   exact absurd H (by simp)
 ·replace c6:=Bool.eq_false_iff.mpr c6
  subst c6
  have H1:(none)=some r:=by rw [if_neg (show ¬ (false=true) by decide)] at H;exact H
  clear H
  have H:=H1
  clear H1
  exact absurd H (by simp)
def slipwaylaw06_MapReplays.Pure:Prop:=∀ (a0:Int) (l1:List (S42)),(Lit.int .i64 a0).wf=true → (l1.length≤maxLen∧l1.length * 104≤140737488351232∧∀ x ∈ l1,((Lit.int .i64 x.f0).wf=true∧((Lit.int .i64 x.f1).wf=true∧((Lit.int .i64 x.f2).wf=true∧((Lit.int .i64 x.f3).wf=true∧((x.f4.length≤maxLen∧x.f4.length * 1≤140737488351232∧∀ x_ ∈ x.f4,True)∧((x.f5.length≤maxLen∧x.f5.length * 8≤140737488351232∧∀ x_ ∈ x.f5,(Lit.int .i64 x_).wf=true)∧(x.f6.length≤maxLen∧x.f6.length * 24≤140737488351232∧∀ x_ ∈ x.f6,((Lit.int .i64 x_.f0).wf=true∧((Lit.int .i64 x_.f1).wf=true∧(Lit.int .i64 x_.f2).wf=true)))))))))) → ∃ k,slipwaylaw06_MapReplays.f k a0 l1=some true
theorem slipwaylaw06_MapReplays.walk (P:slipwaylaw06_MapReplays.Pure) (a0:Int) (A1:Option Addr) (c1:Nat) (l1:List (S42)) (w:World) (hr1:Kd.C k42 w A1 l1.length l1) (hc1:l1.length≤c1) (w0:(Lit.int .i64 a0).wf=true) (w1:(l1.length≤maxLen∧l1.length * 104≤140737488351232∧∀ x ∈ l1,((Lit.int .i64 x.f0).wf=true∧((Lit.int .i64 x.f1).wf=true∧((Lit.int .i64 x.f2).wf=true∧((Lit.int .i64 x.f3).wf=true∧((x.f4.length≤maxLen∧x.f4.length * 1≤140737488351232∧∀ x_ ∈ x.f4,True)∧((x.f5.length≤maxLen∧x.f5.length * 8≤140737488351232∧∀ x_ ∈ x.f5,(Lit.int .i64 x_).wf=true)∧(x.f6.length≤maxLen∧x.f6.length * 24≤140737488351232∧∀ x_ ∈ x.f6,((Lit.int .i64 x_.f0).wf=true∧((Lit.int .i64 x_.f1).wf=true∧(Lit.int .i64 x_.f2).wf=true))))))))))) :
  Calls Try.prog 7 #[.int .i64 a0,.slice A1 l1.length c1] w fun e w'=>e=.returned (.bool true)∧Below w.heap.size w w':=by
 obtain ⟨k,h⟩:=P a0 l1 w0 w1
 refine (slipwaylaw06_MapReplays.calls k a0 A1 c1 l1 true w hr1 hc1 h).mono ?_
 rintro e w' ⟨rfl,hd⟩
 exact ⟨rfl,hd⟩
end Go.Proofs.Ytkhbmgclklmimaa.Print
end
