/- Texts of the proof of MapPages, part 16. -/
import Derived.Test.YtkhbmgclklmimaaMapPagesMA
import Derived.Test.YtkhbmgclklmimaaMapPagesM14
import Derived.Test.YtkhbmgclklmimaaMapPagesM15
section
namespace Go.Proofs.Ytkhbmgclklmimaa.Print
open Go.RowKit Go.Proofs.YtkhbmgclklmimaaW.PrintWords Go.Proofs.YtkhbmgclklmimaaW.PrintLast Go.Proofs.YtkhbmgclklmimaaW.PrintMore
attribute [local go_sem] max2_int min2_int max_two min_two max_three min_three max_four min_four   -- for this text's walks alone
attribute [local go_sem ↓] Go.Proofs.Ytkhbmgclklmimaa.Sem.isSome_setCell
attribute [local go_sem] Go.Instr.field Go.asAgg
set_option linter.unusedVariables false
set_option linter.unusedSimpArgs false
def mapjnl_Checkpoint.l0:Nat → Int → List (S42) → Int → Int → List Bool → List Int → Int → Option ((List (S42)) × Int)
 | 0,_,_,_,_,_,_,_=>none
 | k + 1,x1,x7,x22,x23,x457000,x457001,x457002=>if x23 < x22 then (if 0≤(wrap64 (x23 * 64)) then (if (wrap64 (x23 * 64))≤(mn (wrap64 ((wrap64 (x23 + 1)) * 64)) (x457000.length:Int)) then (if (mn (wrap64 ((wrap64 (x23 + 1)) * 64)) (x457000.length:Int))≤(x457000.length:Int) then ((slices_Clone_bool_bool.f ((x457000.take ((mn (wrap64 ((wrap64 (x23 + 1)) * 64)) (x457000.length:Int)):Int).toNat).drop ((wrap64 (x23 * 64)):Int).toNat)).bind fun t461=>(if (mn (wrap64 ((wrap64 (x23 + 1)) * 64)) (x457000.length:Int))≤(x457001.length:Int) then ((slices_Clone_int64_int64.f ((x457001.take ((mn (wrap64 ((wrap64 (x23 + 1)) * 64)) (x457000.length:Int)):Int).toNat).drop ((wrap64 (x23 * 64)):Int).toNat)).bind fun t465=>(if x7.length < 1353245080339 then (mapjnl_Checkpoint.l0 k x1 (x7 ++ [(⟨1,x1,x23,x457002,t461,t465,([]:List (S55))⟩:S42)]) x22 (wrap64 (x23 + 1)) x457000 x457001 x457002) else (none))) else (none))) else (none)) else (none)) else (none)) else (some (x7,0))
def mapjnl_Checkpoint.f (k:Nat) (l0_0:List Bool) (l0_1:List Int) (a0_2:Int) (a1:Int):Option ((List (S42)) × Int):=(mapjnl_Check.f k l0_0 l0_1 a0_2).bind fun t457=>(if t457=0 then ((mapjnl_gen.f a1).bind fun t458=>(if t458=true then ((mapjnl_Parts.f (l0_0.length:Int)).bind fun t459=>(mapjnl_Checkpoint.l0 k a1 ([]:List (S42)) t459 0 l0_0 l0_1 a0_2)) else (some (([]:List (S42)),1)))) else (some (([]:List (S42)),t457)))
def mapjnl_Checkpoint.T10:Bool × List (List Nat × List Nat):=(true,[([],[]),([0],[0]),([],[]),([2],[2]),([3],[3]),([],[]),([5],[5]),([6],[6]),([4,7],[4,7]),([1,0,1],[1]),([8,9,0,1,2,3,4,5,6,7,8,9],[8])])
def mapjnl_Checkpoint.B10:List Nat:=[0,1,0,4,12,0,32,96,252,3,1023]
theorem mapjnl_Checkpoint.tab10:rtab .any (opsOf Try.f27 10)=mapjnl_Checkpoint.T10:=by kernel_rfl
theorem mapjnl_Checkpoint.bits10:waitsOk mapjnl_Checkpoint.T10.2 mapjnl_Checkpoint.B10=true:=by kernel_rfl
def mapjnl_Checkpoint.T11:Bool × List (List Nat × List Nat):=(true,[([],[]),([],[]),([],[]),([],[]),([3],[3]),([],[]),([5],[5]),([],[]),([],[]),([6,7,8],[6,7,8]),([9],[9]),([],[]),([11],[11]),([],[]),([],[]),([12,13,14],[12,13,14]),([15,10],[15]),([1,2,4,10,16],[1,2,4,10,16]),([17],[17]),([0,18,16],[0,18]),([19,19,0,1,2,3,4,5,6,7,8,9,10,11,12,13,14,15,16,17,18,19],[0,19])])
def mapjnl_Checkpoint.B11:List Nat:=[0,0,0,0,8,0,32,0,0,480,992,0,2048,0,0,30720,65504,131070,262142,524287,1048575]
theorem mapjnl_Checkpoint.tab11:rtab .any (opsOf Try.f27 11)=mapjnl_Checkpoint.T11:=by kernel_rfl
theorem mapjnl_Checkpoint.bits11:waitsOk mapjnl_Checkpoint.T11.2 mapjnl_Checkpoint.B11=true:=by kernel_rfl
set_option maxHeartbeats 8000000 in
set_option maxRecDepth 100000 in
theorem mapjnl_Checkpoint.calls (k:Nat) (A0_0:Option Addr) (c0_0:Nat) (l0_0:List Bool) (A0_1:Option Addr) (c0_1:Nat) (l0_1:List Int) (a0_2:Int) (a1:Int) (r1:List (S42)) (r2:Int) (w:World) (hr0_0:Kd.C Kd.bool w A0_0 l0_0.length l0_0) (hc0_0:l0_0.length≤c0_0) (hr0_1:Kd.C (Kd.int .i64) w A0_1 l0_1.length l0_1) (hc0_1:l0_1.length≤c0_1) (h:mapjnl_Checkpoint.f k l0_0 l0_1 a0_2 a1=some (r1,r2)) :
  Calls Try.prog 27 #[.agg #[.slice A0_0 l0_0.length c0_0,.slice A0_1 l0_1.length c0_1,.int .i64 a0_2],.int .i64 a1] w fun e w'=>∃ v0_:Value,e=.returned (.tuple #[v0_,.int .i64 r2])∧Kd.S k42 42 w' w.heap.size (fun _=>True) v0_ r1∧Below w.heap.size w w':=by
 have hu25:=Try.underlying25
 have hu42:=Try.underlying42
 have HR0_0:=zm hr0_0
 have HC0_0:=zm hc0_0
 clear hr0_0 hc0_0
 have HR0_1:=zm hr0_1
 have HC0_1:=zm hc0_1
 clear hr0_1 hc0_1
 have HB:=zm (Below.refl w.heap.size w)
 have H:((mapjnl_Check.f k l0_0 l0_1 a0_2).bind fun t457=>(if t457=0 then ((mapjnl_gen.f a1).bind fun t458=>(if t458=true then ((mapjnl_Parts.f (l0_0.length:Int)).bind fun t459=>(mapjnl_Checkpoint.l0 k a1 ([]:List (S42)) t459 0 l0_0 l0_1 a0_2)) else (some (([]:List (S42)),1)))) else (some (([]:List (S42)),t457))))=some (r1,r2):=h
 clear h
 replace H:=Option.bind_eq_some_iff.mp H
 obtain ⟨t457,A30,H⟩:=H
 replace H:(if t457=0 then ((mapjnl_gen.f a1).bind fun t458=>(if t458=true then ((mapjnl_Parts.f (l0_0.length:Int)).bind fun t459=>(mapjnl_Checkpoint.l0 k a1 ([]:List (S42)) t459 0 l0_0 l0_1 a0_2)) else (some (([]:List (S42)),1)))) else (some (([]:List (S42)),t457)))=some (r1,r2):=H
 have A3:=zm A30
 clear A30
 by_cases c4:t457=0
 ·rw [if_pos c4] at H
  have c4b0:(t457 == 0)=true:=beq_iff_eq.mpr c4
  have c4b1:(t457 != 0)=false:=bne_eq_false_iff_eq.mpr c4
  clear c4
  replace H:=Option.bind_eq_some_iff.mp H
  obtain ⟨t458,A50,H⟩:=H
  replace H:(if t458=true then ((mapjnl_Parts.f (l0_0.length:Int)).bind fun t459=>(mapjnl_Checkpoint.l0 k a1 ([]:List (S42)) t459 0 l0_0 l0_1 a0_2)) else (some (([]:List (S42)),1)))=some (r1,r2):=H
  have A5:=zm A50
  clear A50
  by_cases c6:t458=true
  ·subst c6
   have H1:((mapjnl_Parts.f (l0_0.length:Int)).bind fun t459=>(mapjnl_Checkpoint.l0 k a1 ([]:List (S42)) t459 0 l0_0 l0_1 a0_2))=some (r1,r2):=by rw [if_pos rfl] at H;exact H
   clear H
   have H:=H1
   clear H1
   replace H:=Option.bind_eq_some_iff.mp H
   obtain ⟨t459,A70,H⟩:=H
   replace H:(mapjnl_Checkpoint.l0 k a1 ([]:List (S42)) t459 0 l0_0 l0_1 a0_2)=some (r1,r2):=H
   have A7:=zm A70
   clear A70
   have H':=zm H
   clear H
   go_enter Try.func27,Try.ntmps27
   go_wp2_with (first|((with_reducible refine gate_dst (N:=2) rfl ?_);refine box_event ?hg (N:=2) ?hd (cs:=#[.slice A0_0 l0_0.length c0_0,.slice A0_1 l0_1.length c0_1,.int .i64 a0_2]) (t:=25) ?hr ?_;(case hd=>rfl);(case hg=>rfl);(case hr=>first|(go_simp;done)|(go_simp;rfl));intro gb456 hg w8 hbox hb;have n0_:=zm (below_step (by repeat (first|(with_reducible first|exact HB.out|apply zlA|apply zlN|apply zlD)|exact HB.out)) hb);have n1_:=zm (hbox);have n2_:=zm ((by rw [hg];exact (below_size (by repeat (first|(with_reducible first|exact HB.out|apply zlA|apply zlN|apply zlD)|exact HB.out))):w.heap.size≤gb456));have n3_:=zm ((by rw [hg];exact (below_size (by repeat (first|(with_reducible first|exact HB.out|apply zlA|apply zlN|apply zlD)|exact HB.out))):w.heap.size≤gb456));clear HB;have HB:=n0_;have BK456:=n1_;have GW456:=n2_;have GE456:=n3_;clear n0_ n1_ n2_ n3_;clear hb hbox hg;have hcz9_0:w8.cell? ⟨gb456,0,none⟩=some (.slice A0_0 l0_0.length c0_0):=(blk_cell BK456.out 0).trans rfl;have hcz9_1:w8.cell? ⟨gb456,1,none⟩=some (.slice A0_1 l0_1.length c0_1):=(blk_cell BK456.out 1).trans rfl;have hcz9_2:w8.cell? ⟨gb456,2,none⟩=some (.int .i64 a0_2):=(blk_cell BK456.out 2).trans rfl;have hfz9_0:=blk_frozen BK456.out 0;have hfz9_1:=blk_frozen BK456.out 1;have hfz9_2:=blk_frozen BK456.out 2)|((with_reducible refine gate_callee (f:=17) rfl ?_);refine goesL_ (some 12) rfl rfl Try.func17 (by kernel_rfl) rfl #[.agg #[.slice A0_0 l0_0.length c0_0,.slice A0_1 l0_1.length c0_1,.int .i64 a0_2]] rfl (by (try simp only [List.map_toArray,List.map_cons,List.map_nil]);first|done|rfl|(simp only [List.length_drop,List.length_take];rfl)) ?_;(with_reducible refine (mapjnl_Check.calls k _ _ l0_0 _ _ l0_1 a0_2 t457 _ ?side1 ?side2 ?side3 ?side4 A3.out).mono ?_);(case side1=>repeat (first|exact (Kd.C_below HR0_0.out HB.out)|(with_reducible refine Kd.C_alloc ?_ _)|(with_reducible refine Kd.C_drewN ?_ _)|(with_reducible refine Kd.C_drew ?_)));(case side2=>exact HC0_0.out);(case side3=>repeat (first|exact (Kd.C_below HR0_1.out HB.out)|(with_reducible refine Kd.C_alloc ?_ _)|(with_reducible refine Kd.C_drewN ?_ _)|(with_reducible refine Kd.C_drew ?_)));(case side4=>exact HC0_1.out);rintro e w10 ⟨rfl,hb⟩;refine ⟨_,rfl,?_⟩;have n0_:=zm (zbB (g:=gb456) (o:=.cells #[.slice A0_0 l0_0.length c0_0,.slice A0_1 l0_1.length c0_1,.int .i64 a0_2] 25 (0,0)) (by (with_reducible repeat (first|refine zbN ?_ _|refine zbD ?_|refine zbA ?_ _));exact BK456.out) hb);have n1_:=zm (below_step (by repeat (first|(with_reducible first|exact HB.out|apply zlA|apply zlN|apply zlD|refine zlS ?_ GE456.out)|exact HB.out)) hb);clear BK456 HB;have BK456:=n0_;have HB:=n1_;clear n0_ n1_;(try clear hb);(try clear hb2);(try clear hk);(try clear hi))|((with_reducible refine gate_callee (f:=65) rfl ?_);refine goesL_ (some 17) rfl rfl Try.func65 (by kernel_rfl) rfl #[.int .i64 a1] rfl (by (try simp only [List.map_toArray,List.map_cons,List.map_nil]);first|done|rfl|(simp only [List.length_drop,List.length_take];rfl)) ?_;(with_reducible refine (mapjnl_gen.calls a1 true _ A5.out).mono ?_);rintro e w' ⟨rfl,⟨nd,rfl⟩⟩;refine ⟨_,rfl,?_⟩;have hcz11_0:w10.cell? ⟨gb456,0,none⟩=some (.slice A0_0 l0_0.length c0_0):=(blk_cell BK456.out 0).trans rfl;have hcz11_1:w10.cell? ⟨gb456,1,none⟩=some (.slice A0_1 l0_1.length c0_1):=(blk_cell BK456.out 1).trans rfl;have hcz11_2:w10.cell? ⟨gb456,2,none⟩=some (.int .i64 a0_2):=(blk_cell BK456.out 2).trans rfl;have hfz11_0:=blk_frozen BK456.out 0;have hfz11_1:=blk_frozen BK456.out 1;have hfz11_2:=blk_frozen BK456.out 2)|((with_reducible refine gate_callee (f:=33) rfl ?_);refine goesL_ (some 22) rfl rfl Try.func33 (by kernel_rfl) rfl #[.int .i64 (l0_0.length:Int)] rfl (by (try simp only [List.map_toArray,List.map_cons,List.map_nil]);first|done|rfl|(simp only [List.length_drop,List.length_take];rfl)) ?_;(with_reducible refine (mapjnl_Parts.calls (l0_0.length:Int) t459 _ A7.out).mono ?_);rintro e w' ⟨rfl,⟨nd,rfl⟩⟩;refine ⟨_,rfl,?_⟩))
   go_loopg [7,23] k (fun kq v7 v23 w'=>∃ (x7_1:List (S42)) (x23_1:Int),v23=.int .i64 x23_1∧Aside0 (mapjnl_Checkpoint.l0 kq a1 x7_1 t459 x23_1 l0_0 l0_1 a0_2=some (r1,r2))∧Aside0 (kq≤k)∧Aside0 (Kd.S k42 42 w' w.heap.size (fun _=>True) v7 x7_1)∧Aside0 (w'.heap[gb456]?=some (.cells #[(.slice A0_0 l0_0.length c0_0),(.slice A0_1 l0_1.length c0_1),.int .i64 a0_2] 25 (0,0)))∧Aside0 (Below w.heap.size w w'))
   case atStart=>exact ⟨(([]:List (S42))),(0),(by first|rfl|(simp;done)|(simp [*];done)),H',⟨Nat.le_refl _⟩,⟨by first|exact Kd.S_nil _ _ _ _ _|exact Kd.N_nil _ _ _ _ _|exact Kd.V_nil _ _ _ _ _|exact Kd.Q_nil _ _ _ _ _|exact Kd.R_nil _ _ _ _ _⟩,⟨by (with_reducible repeat (first|refine zbN ?_ _|refine zbD ?_|refine zbA ?_ _));exact BK456.out⟩,⟨by repeat (first|(with_reducible first|exact HB.out|apply zlA|apply zlN|apply zlD|refine zlS ?_ GE456.out)|exact HB.out)⟩⟩
   case round =>
    clear H'
    try clear c1
    try clear c2
    try clear p2
    try clear c3
    try clear c4
    try clear c4b0
    try clear c4b1
    try clear c6
    try clear hcz11_0
    try clear hcz11_1
    try clear hcz11_2
    try clear hcz9_0
    try clear hcz9_1
    try clear hcz9_2
    try clear hfz11_0
    try clear hfz11_1
    try clear hfz11_2
    try clear hfz9_0
    try clear hfz9_1
    try clear hfz9_2
    obtain ⟨x7_1,x23_1,rfl,HA,HK1,HO_7,BK456,HB⟩:=hrel
    cases gk with
    | zero=>exact absurd HA.out (by simp [mapjnl_Checkpoint.l0])
    | succ k1 =>
     have H:=HA.out
     clear HA
     simp only [mapjnl_Checkpoint.l0] at H
     by_cases c12:x23_1 < t459
     ·rw [if_pos c12] at H
      have c12b0:decide (x23_1 < t459)=true:=decide_eq_true c12
      clear c12
      obtain ⟨ji13,hji13⟩:∃ j_:Int,(mn (wrap64 ((wrap64 (x23_1 + 1)) * 64)) (l0_0.length:Int))=j_:=⟨_,rfl⟩
      replace H:(if 0≤(wrap64 (x23_1 * 64)) then (if (wrap64 (x23_1 * 64))≤(ji13) then (if (ji13)≤(l0_0.length:Int) then ((slices_Clone_bool_bool.f ((l0_0.take ((ji13):Int).toNat).drop ((wrap64 (x23_1 * 64)):Int).toNat)).bind fun t461=>(if (ji13)≤(l0_1.length:Int) then ((slices_Clone_int64_int64.f ((l0_1.take ((ji13):Int).toNat).drop ((wrap64 (x23_1 * 64)):Int).toNat)).bind fun t465=>(if x7_1.length < 1353245080339 then (mapjnl_Checkpoint.l0 k1 a1 (x7_1 ++ [(⟨1,a1,x23_1,a0_2,t461,t465,([]:List (S55))⟩:S42)]) t459 (wrap64 (x23_1 + 1)) l0_0 l0_1 a0_2) else (none))) else (none))) else (none)) else (none)) else (none))=some (r1,r2):=by first|(rw [hji13] at H;exact H)|(simp only [hji13] at H ⊢;exact H)
      have hji13_:(if (l0_0.length:Int) < (wrap64 ((wrap64 (x23_1 + 1)) * 64)) then (l0_0.length:Int) else (wrap64 ((wrap64 (x23_1 + 1)) * 64)))=ji13:=hji13
      obtain ⟨ji14,hji14⟩:∃ j_:Int,(wrap64 (x23_1 * 64))=j_:=⟨_,rfl⟩
      replace H:(if 0≤(ji14) then (if (ji14)≤(ji13) then (if (ji13)≤(l0_0.length:Int) then ((slices_Clone_bool_bool.f ((l0_0.take ((ji13):Int).toNat).drop ((ji14):Int).toNat)).bind fun t461=>(if (ji13)≤(l0_1.length:Int) then ((slices_Clone_int64_int64.f ((l0_1.take ((ji13):Int).toNat).drop ((ji14):Int).toNat)).bind fun t465=>(if x7_1.length < 1353245080339 then (mapjnl_Checkpoint.l0 k1 a1 (x7_1 ++ [(⟨1,a1,x23_1,a0_2,t461,t465,([]:List (S55))⟩:S42)]) t459 (wrap64 (x23_1 + 1)) l0_0 l0_1 a0_2) else (none))) else (none))) else (none)) else (none)) else (none))=some (r1,r2):=by first|(rw [hji14] at H;exact H)|(simp only [hji14] at H ⊢;exact H)
      have hji14w:(IntKind.i64.wrap (x23_1 * 64))=ji14:=(i64_w _).trans hji14
      by_cases c15:0≤(ji14)
      ·rw [if_pos c15] at H
       have c15b0:=eq_true c15
       have c15b1:decide (0≤(ji14))=true:=decide_eq_true c15
       clear c15
       by_cases c16:(ji14)≤(ji13)
       ·rw [if_pos c16] at H
        have c16b0:=eq_true c16
        have c16b1:decide ((ji14)≤(ji13))=true:=decide_eq_true c16
        clear c16
        by_cases c17:(ji13)≤(l0_0.length:Int)
        ·rw [if_pos c17] at H
         have c17b0:=eq_true c17
         have c17b1:decide ((ji13)≤(l0_0.length:Int))=true:=decide_eq_true c17
         clear c17
         replace H:=Option.bind_eq_some_iff.mp H
         obtain ⟨t461,A180,H⟩:=H
         replace H:(if (ji13)≤(l0_1.length:Int) then ((slices_Clone_int64_int64.f ((l0_1.take ((ji13):Int).toNat).drop ((ji14):Int).toNat)).bind fun t465=>(if x7_1.length < 1353245080339 then (mapjnl_Checkpoint.l0 k1 a1 (x7_1 ++ [(⟨1,a1,x23_1,a0_2,t461,t465,([]:List (S55))⟩:S42)]) t459 (wrap64 (x23_1 + 1)) l0_0 l0_1 a0_2) else (none))) else (none))=some (r1,r2):=H
         have A18:=zm A180
         clear A180
         have c19b0:=eq_true (of_decide_eq_true (by first|(with_reducible assumption)|assumption):0≤(ji14))
         have c20b0:=eq_true (of_decide_eq_true (by first|(with_reducible assumption)|assumption):(ji14)≤(ji13))
         by_cases c21:(ji13)≤(l0_1.length:Int)
         ·rw [if_pos c21] at H
          have c21b0:=eq_true c21
          have c21b1:decide ((ji13)≤(l0_1.length:Int))=true:=decide_eq_true c21
          clear c21
          replace H:=Option.bind_eq_some_iff.mp H
          obtain ⟨t465,A220,H⟩:=H
          replace H:(if x7_1.length < 1353245080339 then (mapjnl_Checkpoint.l0 k1 a1 (x7_1 ++ [(⟨1,a1,x23_1,a0_2,t461,t465,([]:List (S55))⟩:S42)]) t459 (wrap64 (x23_1 + 1)) l0_0 l0_1 a0_2) else (none))=some (r1,r2):=H
          have A22:=zm A220
          clear A220
          by_cases c23:x7_1.length < 1353245080339
          ·rw [if_pos c23] at H
           have LMc23:=zm c23
           clear c23
           obtain ⟨y468,hy468⟩:∃ y_:List (S42),y_=(x7_1 ++ [(⟨1,a1,x23_1,a0_2,t461,t465,([]:List (S55))⟩:S42)]):=⟨_,rfl⟩
           replace H:(mapjnl_Checkpoint.l0 k1 a1 y468 t459 (wrap64 (x23_1 + 1)) l0_0 l0_1 a0_2)=some (r1,r2):=by first|(rw [hy468];with_reducible exact H)|(have H2_:=(Option.bind_some _ _).symm.trans H;rw [hy468];with_reducible exact H2_)|(have H2_:=(Option.bind_some _ _).symm.trans H;with_reducible exact H2_)|with_reducible exact H|(rw [hy468];exact H)|exact H
           have Ny468:=zm hy468
           clear hy468
           have H':=zm H
           clear H
           try go_wp2
           have n0_:=zm (Kd.S_drew HO_7.out)
           have n1_:=zm (zbD BK456.out)
           have n2_:=zm (zlD HB.out)
           clear HO_7 BK456 HB
           have HO_7:=n0_
           have BK456:=n1_
           have HB:=n2_
           clear n0_ n1_ n2_
           refine start_ (n:=11) (S:=fun w'=>w'.cell? ⟨gb456,0,none⟩=some (.slice A0_0 l0_0.length c0_0)∧w'.cell? ⟨gb456,1,none⟩=some (.slice A0_1 l0_1.length c0_1)∧w'.cell? ⟨gb456,2,none⟩=some (.int .i64 a0_2)) (ds:=[]) #[false,false,false,false,false,false,false,false,false,false,false] (by kernel_rfl) rfl rfl ⟨(blk_cell BK456.out 0).trans rfl,(blk_cell BK456.out 1).trans rfl,(blk_cell BK456.out 2).trans rfl⟩ (fun hHeld=>?_);refine with_tabW mapjnl_Checkpoint.tab10 mapjnl_Checkpoint.bits10 (fun HT_ HW_=>?_)
           generalize wr.drew=w24 at HO_7 BK456 HB hHeld ⊢
           refine pure_ (i:=0) (N:=some 26) (v:=?_) (a':=?_) #[true,false,false,false,false,false,false,false,false,false,false] rfl rfl (any_of HT_.out (by kernel_rfl)) (fun _ _ _ h=>h) (Or.inl ⟨by rfl,?_⟩) ?_ ?_
           rotate_left
           ·intro w'
            go_simp
            with_reducible rfl
           rotate_left
           ·simp only [Act.put,List.setIfInBounds_toArray,List.set_cons_zero,List.set_cons_succ,i64_w,i32_w]
            rfl
           refine pure_ (i:=1) (N:=some 27) (v:=?_) (a':=?_) #[true,true,false,false,false,false,false,false,false,false,false] rfl rfl (any_of HT_.out (by kernel_rfl)) (fun _ _ _ h=>h) (Or.inl ⟨by rfl,?_⟩) ?_ ?_
           rotate_left
           ·intro w'
            go_simp
            with_reducible rfl
           rotate_left
           ·simp only [Act.put,List.setIfInBounds_toArray,List.set_cons_zero,List.set_cons_succ,i64_w,i32_w]
            rfl
           refine pure_ (i:=2) (N:=some 28) (v:=?_) (a':=?_) #[true,true,true,false,false,false,false,false,false,false,false] rfl rfl (any_of HT_.out (by kernel_rfl)) (fun _ _ _ h=>h) (Or.inl ⟨by rfl,?_⟩) ?_ ?_
           rotate_left
           ·intro w'
            go_simp
            with_reducible rfl
           rotate_left
           ·simp only [Act.put,List.setIfInBounds_toArray,List.set_cons_zero,List.set_cons_succ,i64_w,i32_w]
            rfl
           refine pure_ (i:=3) (N:=some 29) (v:=?_) (a':=?_) #[true,true,true,true,false,false,false,false,false,false,false] rfl rfl (any_of HT_.out (by kernel_rfl)) (fun _ _ _ h=>h) (Or.inl ⟨by rfl,?_⟩) ?_ ?_
           rotate_left
           ·intro w'
            go_simp
            with_reducible rfl
           rotate_left
           ·simp only [Act.put,List.setIfInBounds_toArray,List.set_cons_zero,List.set_cons_succ,i64_w,i32_w]
            rfl
           refine pure_ (i:=4) (N:=some 30) (v:=?_) (a':=?_) #[true,true,true,true,true,false,false,false,false,false,false] rfl rfl (any_of HT_.out (by kernel_rfl)) (fun _ _ _ h=>h) (Or.inl ⟨by rfl,?_⟩) ?_ ?_
           rotate_left
           ·intro w'
            go_simp
            with_reducible rfl
           rotate_left
           ·simp only [Act.put,List.setIfInBounds_toArray,List.set_cons_zero,List.set_cons_succ,i64_w,i32_w]
            rfl
           refine pure_ (i:=5) (N:=some 31) (v:=?_) (a':=?_) #[true,true,true,true,true,true,false,false,false,false,false] rfl rfl (any_of HT_.out (by kernel_rfl)) (fun _ _ _ h=>h) (Or.inl ⟨by rfl,?_⟩) ?_ ?_
           rotate_left
           ·intro w'
            go_simp
            with_reducible rfl
           rotate_left
           ·simp only [Act.put,List.setIfInBounds_toArray,List.set_cons_zero,List.set_cons_succ,i64_w,i32_w]
            rfl
           refine pure_ (i:=9) (N:=some 9) (v:=?_) (a':=?_) #[true,true,true,true,true,true,false,false,false,true,false] rfl rfl (any_of HT_.out (by kernel_rfl)) (fun _ _ _ h=>h) (Or.inl ⟨by rfl,?_⟩) ?_ ?_
           rotate_left
           ·intro w'
            go_simp
            with_reducible rfl
           rotate_left
           ·simp only [Act.put,List.setIfInBounds_toArray,List.set_cons_zero,List.set_cons_succ,i64_w,i32_w]
            rfl
           refine take_ (i:=6) (N:=some 32) (v:=?_) (a':=?_) #[true,true,true,true,true,true,true,false,false,true,false] rfl rfl (take_ofW HT_.out HW_.out (by kernel_rfl)) (fun _ _ _ h=>h) (Or.inl ⟨by rfl,?_⟩) hHeld ?_ ?_
           rotate_left
           ·rintro w' ⟨s0,s1,s2⟩
            go_simp
            with_reducible rfl
           rotate_left
           ·simp only [Act.put,List.setIfInBounds_toArray,List.set_cons_zero,List.set_cons_succ,i64_w,i32_w]
            rfl
           refine pure_ (i:=7) (N:=some 33) (v:=?_) (a':=?_) #[true,true,true,true,true,true,true,true,false,true,false] rfl rfl (any_of HT_.out (by kernel_rfl)) (fun _ _ _ h=>h) (Or.inl ⟨by rfl,?_⟩) ?_ ?_
           rotate_left
           ·intro w'
            go_simp
            with_reducible rfl
           rotate_left
           ·simp only [Act.put,List.setIfInBounds_toArray,List.set_cons_zero,List.set_cons_succ,i64_w,i32_w]
            rfl
           refine pure_ (i:=8) (N:=some 34) (v:=?_) (a':=?_) #[true,true,true,true,true,true,true,true,true,true,false] rfl rfl (any_of HT_.out (by kernel_rfl)) (fun _ _ _ h=>h) (Or.inl ⟨by rfl,?_⟩) ?_ ?_
           rotate_left
           ·intro w'
            go_simp
            with_reducible rfl
           rotate_left
           ·simp only [Act.put,List.setIfInBounds_toArray,List.set_cons_zero,List.set_cons_succ,i64_w,i32_w]
            rfl
           refine pure_ (i:=10) (N:=some 10) (v:=?_) (a':=?_) #[true,true,true,true,true,true,true,true,true,true,true] rfl rfl (any_of HT_.out (by kernel_rfl)) (fun _ _ _ h=>h) (Or.inl ⟨by rfl,?_⟩) ?_ ?_
           rotate_left
           ·intro w'
            go_simp
            with_reducible rfl
           rotate_left
           ·simp only [Act.put,List.setIfInBounds_toArray,List.set_cons_zero,List.set_cons_succ,i64_w,i32_w]
            rfl
           refine done_ (done_of HT_.out (by kernel_rfl)) ?_
           try go_wp2
           have n0_:=zm (Kd.S_drew HO_7.out)
           have n1_:=zm (zbD BK456.out)
           have n2_:=zm (zlD HB.out)
           clear HO_7 BK456 HB
           have HO_7:=n0_
           have BK456:=n1_
           have HB:=n2_
           clear n0_ n1_ n2_
           obtain ⟨i026,hi026,_,hsz26,_⟩:=info_parts info4
           obtain ⟨A26,hcut26,hA26,hC26⟩:=print_mid_of (P:=Try.prog) Value.bool false 22 4 .i64 .i64 Try.underlying22 hi026 hsz26 A0_0 c0_0 l0_0 (ji14) (ji13) (of_decide_eq_true (by first|(with_reducible assumption)|assumption)) (by first|omega|exact of_decide_eq_true (by first|(with_reducible assumption)|assumption)) (of_decide_eq_true (by first|(with_reducible assumption)|assumption)) HC0_0.out
           have HR460:=zm (Kd.C_of_reads (h1:=fun _=>rfl) (hA26 _ (Kd.reads_of_C HR0_0.out)))
           have HC460:=zm hC26
           clear hA26 hC26 hi026 hsz26
           obtain ⟨i027,hi027,_,hsz27,_⟩:=info_parts info2
           obtain ⟨A27,hcut27,hA27,hC27⟩:=print_mid_of (P:=Try.prog) (Value.int .i64) 0 23 2 .i64 .i64 Try.underlying23 hi027 hsz27 A0_1 c0_1 l0_1 (ji14) (ji13) (of_decide_eq_true (by first|(with_reducible assumption)|assumption)) (by first|omega|exact of_decide_eq_true (by first|(with_reducible assumption)|assumption)) (of_decide_eq_true (by first|(with_reducible assumption)|assumption)) HC0_1.out
           have HR464:=zm (Kd.C_of_reads (h1:=fun _=>rfl) (hA27 _ (Kd.reads_of_C HR0_1.out)))
           have HC464:=zm hC27
           clear hA27 hC27 hi027 hsz27
           refine start_ (n:=21) (S:=fun w'=>w'.cell? ⟨gb456,0,none⟩=some (.slice A0_0 l0_0.length c0_0)∧w'.cell? ⟨gb456,1,none⟩=some (.slice A0_1 l0_1.length c0_1)∧w'.cell? ⟨gb456,2,none⟩=some (.int .i64 a0_2)) (ds:=[]) #[false,false,false,false,false,false,false,false,false,false,false,false,false,false,false,false,false,false,false,false,false] (by kernel_rfl) rfl rfl ⟨(blk_cell BK456.out 0).trans rfl,(blk_cell BK456.out 1).trans rfl,(blk_cell BK456.out 2).trans rfl⟩ (fun hHeld=>?_);refine with_tabW mapjnl_Checkpoint.tab11 mapjnl_Checkpoint.bits11 (fun HT_ HW_=>?_)
           generalize w24.drew=w25 at HO_7 BK456 HB HR460 HR464 hHeld ⊢
           refine pure_ (i:=0) (N:=some 35) (v:=?_) (a':=?_) #[true,false,false,false,false,false,false,false,false,false,false,false,false,false,false,false,false,false,false,false,false] rfl rfl (any_of HT_.out (by kernel_rfl)) (fun _ _ _ h=>h) (Or.inl ⟨by rfl,?_⟩) ?_ ?_
           rotate_left
           ·intro w'
            go_simp
            with_reducible rfl
           rotate_left
           ·simp only [Act.put,List.setIfInBounds_toArray,List.set_cons_zero,List.set_cons_succ,i64_w,i32_w]
            rfl
           refine pure_ (i:=1) (N:=some 36) (v:=?_) (a':=?_) #[true,true,false,false,false,false,false,false,false,false,false,false,false,false,false,false,false,false,false,false,false] rfl rfl (any_of HT_.out (by kernel_rfl)) (fun _ _ _ h=>h) (Or.inl ⟨by rfl,?_⟩) ?_ ?_
           rotate_left
           ·intro w'
            go_simp
            with_reducible rfl
           rotate_left
           ·simp only [Act.put,List.setIfInBounds_toArray,List.set_cons_zero,List.set_cons_succ,i64_w,i32_w]
            rfl
           refine pure_ (i:=2) (N:=some 37) (v:=?_) (a':=?_) #[true,true,true,false,false,false,false,false,false,false,false,false,false,false,false,false,false,false,false,false,false] rfl rfl (any_of HT_.out (by kernel_rfl)) (fun _ _ _ h=>h) (Or.inl ⟨by rfl,?_⟩) ?_ ?_
           rotate_left
           ·intro w'
            go_simp
            with_reducible rfl
           rotate_left
           ·simp only [Act.put,List.setIfInBounds_toArray,List.set_cons_zero,List.set_cons_succ,i64_w,i32_w]
            rfl
           refine pure_ (i:=3) (N:=some 38) (v:=?_) (a':=?_) #[true,true,true,true,false,false,false,false,false,false,false,false,false,false,false,false,false,false,false,false,false] rfl rfl (any_of HT_.out (by kernel_rfl)) (fun _ _ _ h=>h) (Or.inl ⟨by rfl,?_⟩) ?_ ?_
           rotate_left
           ·intro w'
            go_simp
            with_reducible rfl
           rotate_left
           ·simp only [Act.put,List.setIfInBounds_toArray,List.set_cons_zero,List.set_cons_succ,i64_w,i32_w]
            rfl
           refine pure_ (i:=5) (N:=some 40) (v:=?_) (a':=?_) #[true,true,true,true,false,true,false,false,false,false,false,false,false,false,false,false,false,false,false,false,false] rfl rfl (any_of HT_.out (by kernel_rfl)) (fun _ _ _ h=>h) (Or.inl ⟨by rfl,?_⟩) ?_ ?_
           rotate_left
           ·intro w'
            go_simp
            with_reducible rfl
           rotate_left
           ·simp only [Act.put,List.setIfInBounds_toArray,List.set_cons_zero,List.set_cons_succ,i64_w,i32_w]
            rfl
           refine pure_ (i:=7) (N:=some 42) (v:=?_) (a':=?_) #[true,true,true,true,false,true,false,true,false,false,false,false,false,false,false,false,false,false,false,false,false] rfl rfl (any_of HT_.out (by kernel_rfl)) (fun _ _ _ h=>h) (Or.inl ⟨by rfl,?_⟩) ?_ ?_
           rotate_left
           ·intro w'
            go_simp
            with_reducible rfl
           rotate_left
           ·simp only [Act.put,List.setIfInBounds_toArray,List.set_cons_zero,List.set_cons_succ,i64_w,i32_w]
            rfl
           refine pure_ (i:=8) (N:=some 43) (v:=?_) (a':=?_) #[true,true,true,true,false,true,false,true,true,false,false,false,false,false,false,false,false,false,false,false,false] rfl rfl (any_of HT_.out (by kernel_rfl)) (fun _ _ _ h=>h) (Or.inl ⟨by rfl,?_⟩) ?_ ?_
           rotate_left
           ·intro w'
            go_simp
            with_reducible rfl
           rotate_left
           ·simp only [Act.put,List.setIfInBounds_toArray,List.set_cons_zero,List.set_cons_succ,i64_w,i32_w]
            rfl
           refine pure_ (i:=11) (N:=some 46) (v:=?_) (a':=?_) #[true,true,true,true,false,true,false,true,true,false,false,true,false,false,false,false,false,false,false,false,false] rfl rfl (any_of HT_.out (by kernel_rfl)) (fun _ _ _ h=>h) (Or.inl ⟨by rfl,?_⟩) ?_ ?_
           rotate_left
           ·intro w'
            go_simp
            with_reducible rfl
           rotate_left
           ·simp only [Act.put,List.setIfInBounds_toArray,List.set_cons_zero,List.set_cons_succ,i64_w,i32_w]
            rfl
           refine pure_ (i:=13) (N:=some 48) (v:=?_) (a':=?_) #[true,true,true,true,false,true,false,true,true,false,false,true,false,true,false,false,false,false,false,false,false] rfl rfl (any_of HT_.out (by kernel_rfl)) (fun _ _ _ h=>h) (Or.inl ⟨by rfl,?_⟩) ?_ ?_
           rotate_left
           ·intro w'
            go_simp
            with_reducible rfl
           rotate_left
           ·simp only [Act.put,List.setIfInBounds_toArray,List.set_cons_zero,List.set_cons_succ,i64_w,i32_w]
            rfl
           refine pure_ (i:=14) (N:=some 49) (v:=?_) (a':=?_) #[true,true,true,true,false,true,false,true,true,false,false,true,false,true,true,false,false,false,false,false,false] rfl rfl (any_of HT_.out (by kernel_rfl)) (fun _ _ _ h=>h) (Or.inl ⟨by rfl,?_⟩) ?_ ?_
           rotate_left
           ·intro w'
            go_simp
            with_reducible rfl
           rotate_left
           ·simp only [Act.put,List.setIfInBounds_toArray,List.set_cons_zero,List.set_cons_succ,i64_w,i32_w]
            rfl
           refine take_ (i:=4) (N:=some 39) (v:=?_) (a':=?_) #[true,true,true,true,true,true,false,true,true,false,false,true,false,true,true,false,false,false,false,false,false] rfl rfl (take_ofW HT_.out HW_.out (by kernel_rfl)) (fun _ _ _ h=>h) (Or.inl ⟨by rfl,?_⟩) hHeld ?_ ?_
           rotate_left
           ·rintro w' ⟨s0,s1,s2⟩
            go_simp
            with_reducible rfl
           rotate_left
           ·simp only [Act.put,List.setIfInBounds_toArray,List.set_cons_zero,List.set_cons_succ,i64_w,i32_w]
            rfl
           refine take_ (i:=6) (N:=some 41) (v:=?_) (a':=?_) #[true,true,true,true,true,true,true,true,true,false,false,true,false,true,true,false,false,false,false,false,false] rfl rfl (take_ofW HT_.out HW_.out (by kernel_rfl)) (fun _ _ _ h=>h) (Or.inl ⟨by rfl,?_⟩) hHeld ?_ ?_
           rotate_left
           ·rintro w' ⟨s0,s1,s2⟩
            go_simp
            with_reducible rfl
           rotate_left
           ·simp only [Act.put,List.setIfInBounds_toArray,List.set_cons_zero,List.set_cons_succ,i64_w,i32_w]
            rfl
           refine pure_ (i:=9) (N:=some 44) (v:=?_) (a':=?_) #[true,true,true,true,true,true,true,true,true,true,false,true,false,true,true,false,false,false,false,false,false] rfl rfl (any_of HT_.out (by kernel_rfl)) (fun _ _ _ h=>h) (Or.inl ⟨by rfl,?_⟩) ?_ ?_
           rotate_left
           ·intro w'
            go_simp
            with_reducible rfl
           rotate_left
           ·simp only [Act.put,List.setIfInBounds_toArray,List.set_cons_zero,List.set_cons_succ,i64_w,i32_w]
            rfl
           refine take_ (i:=12) (N:=some 47) (v:=?_) (a':=?_) #[true,true,true,true,true,true,true,true,true,true,false,true,true,true,true,false,false,false,false,false,false] rfl rfl (take_ofW HT_.out HW_.out (by kernel_rfl)) (fun _ _ _ h=>h) (Or.inl ⟨by rfl,?_⟩) hHeld ?_ ?_
           rotate_left
           ·rintro w' ⟨s0,s1,s2⟩
            go_simp
            with_reducible rfl
           rotate_left
           ·simp only [Act.put,List.setIfInBounds_toArray,List.set_cons_zero,List.set_cons_succ,i64_w,i32_w]
            rfl
           refine pure_ (i:=15) (N:=some 50) (v:=?_) (a':=?_) #[true,true,true,true,true,true,true,true,true,true,false,true,true,true,true,true,false,false,false,false,false] rfl rfl (any_of HT_.out (by kernel_rfl)) (fun _ _ _ h=>h) (Or.inl ⟨by rfl,?_⟩) ?_ ?_
           rotate_left
           ·intro w'
            go_simp
            with_reducible rfl
           rotate_left
           ·simp only [Act.put,List.setIfInBounds_toArray,List.set_cons_zero,List.set_cons_succ,i64_w,i32_w]
            rfl
           refine one_ (i:=10) (N:=some 45) #[true,true,true,true,true,true,true,true,true,true,true,true,true,true,true,true,false,false,false,false,false] rfl rfl (one_of HT_.out (by kernel_rfl)) (by decide) (fun K hK=>?_)
           refine goes_ Try.func66 (by kernel_rfl) rfl #[.slice A26 ((l0_0.take ((ji13):Int).toNat).drop ((ji14):Int).toNat).length (c0_0 - (ji14).toNat)] (by rfl) rfl rfl (by (try simp only [List.map_toArray,List.map_cons,List.map_nil]);first|done|(rw [show ((l0_0.take ((ji13):Int).toNat).drop ((ji14):Int).toNat).length=((ji13).toNat - (ji14).toNat) from (by rw [List.length_drop,List.length_take];have h_:((ji13):Int)≤(l0_0.length:Int):=of_decide_eq_true (by first|(with_reducible assumption)|assumption);omega)] <;> rfl)|(simp only [hji13,hji14];rfl)|rfl|(simp only [List.length_drop,List.length_take];rfl)) ?_
           with_reducible refine (slices_Clone_bool_bool.calls _ _ ((l0_0.take ((ji13):Int).toNat).drop ((ji14):Int).toNat) t461 _ ?side1 ?side2 A18.out).mono ?_
           (case side1=>repeat (first|exact (Kd.C_below HR460.out HB.out)|(with_reducible refine Kd.C_alloc ?_ _)|(with_reducible refine Kd.C_drewN ?_ _)|(with_reducible refine Kd.C_drew ?_)))
           (case side2=>exact HC460.out)
           rintro e w28 ⟨v462,rfl,ho0,hb⟩
           refine ⟨_,rfl,?_⟩
           have n0_:=zm (Kd.S_elder' (by (with_reducible repeat (first|apply Kd.S_alloc|apply Kd.S_drewN|apply Kd.S_drew));exact HO_7.out) (Kd.R_base ho0) hb)
           have n1_:=zm (Kd.R_lower ho0 (below_size (by repeat (first|(with_reducible first|exact HB.out|apply zlA|apply zlN|apply zlD|refine zlS ?_ GE456.out)|exact HB.out))))
           have n2_:=zm (zbB (g:=gb456) (o:=.cells #[.slice A0_0 l0_0.length c0_0,.slice A0_1 l0_1.length c0_1,.int .i64 a0_2] 25 (0,0)) (by (with_reducible repeat (first|refine zbN ?_ _|refine zbD ?_|refine zbA ?_ _));exact BK456.out) hb)
           have n3_:=zm (below_step (by repeat (first|(with_reducible first|exact HB.out|apply zlA|apply zlN|apply zlD|refine zlS ?_ GE456.out)|exact HB.out)) hb)
           clear HO_7 BK456 HB
           have HO_7:=n0_
           have HO463:=n1_
           have BK456:=n2_
           have HB:=n3_
           clear n0_ n1_ n2_ n3_
           (try clear hb)
           (try clear hb2)
           (try clear hk)
           (try clear hi)
           (try clear ho0)
           refine hK.out _ _ ⟨(blk_cell BK456.out 0).trans rfl,(blk_cell BK456.out 1).trans rfl,(blk_cell BK456.out 2).trans rfl⟩ (fun hHeld=>?_)
           clear hK K
           refine norm_ (a':=?_) ?_ ?_
           rotate_left
           ·show Act.put _ (some 45) _=_
            simp only [Act.put,List.setIfInBounds_toArray,List.set_cons_zero,List.set_cons_succ,i64_w,i32_w]
            rfl
           refine one_ (i:=16) (N:=some 51) #[true,true,true,true,true,true,true,true,true,true,true,true,true,true,true,true,true,false,false,false,false] rfl rfl (one_of HT_.out (by kernel_rfl)) (by decide) (fun K hK=>?_)
           refine goes_ Try.func67 (by kernel_rfl) rfl #[.slice A27 ((l0_1.take ((ji13):Int).toNat).drop ((ji14):Int).toNat).length (c0_1 - (ji14).toNat)] (by rfl) rfl rfl (by (try simp only [List.map_toArray,List.map_cons,List.map_nil]);first|done|(rw [show ((l0_1.take ((ji13):Int).toNat).drop ((ji14):Int).toNat).length=((ji13).toNat - (ji14).toNat) from (by rw [List.length_drop,List.length_take];have h_:((ji13):Int)≤(l0_1.length:Int):=of_decide_eq_true (by first|(with_reducible assumption)|assumption);omega)] <;> rfl)|(simp only [hji13,hji14];rfl)|rfl|(simp only [List.length_drop,List.length_take];rfl)) ?_
           with_reducible refine (slices_Clone_int64_int64.calls _ _ ((l0_1.take ((ji13):Int).toNat).drop ((ji14):Int).toNat) t465 _ ?side1 ?side2 A22.out).mono ?_
           (case side1=>repeat (first|exact (Kd.C_below HR464.out HB.out)|(with_reducible refine Kd.C_alloc ?_ _)|(with_reducible refine Kd.C_drewN ?_ _)|(with_reducible refine Kd.C_drew ?_)))
           (case side2=>exact HC464.out)
           rintro e w29 ⟨v466,rfl,ho0,hb⟩
           refine ⟨_,rfl,?_⟩
           have n0_:=zm (Kd.S_elder' (by (with_reducible repeat (first|apply Kd.S_alloc|apply Kd.S_drewN|apply Kd.S_drew));exact HO_7.out) (Kd.R_base ho0) hb)
           have n1_:=zm (Kd.R_below (by (with_reducible repeat (first|apply zrA|apply zrN|apply zrD));exact HO463.out) hb)
           have n2_:=zm (Kd.R_lower ho0 (below_size (by repeat (first|(with_reducible first|exact HB.out|apply zlA|apply zlN|apply zlD|refine zlS ?_ GE456.out)|exact HB.out))))
           have n3_:=zm (zbB (g:=gb456) (o:=.cells #[.slice A0_0 l0_0.length c0_0,.slice A0_1 l0_1.length c0_1,.int .i64 a0_2] 25 (0,0)) (by (with_reducible repeat (first|refine zbN ?_ _|refine zbD ?_|refine zbA ?_ _));exact BK456.out) hb)
           have n4_:=zm (below_step (by repeat (first|(with_reducible first|exact HB.out|apply zlA|apply zlN|apply zlD|refine zlS ?_ GE456.out)|exact HB.out)) hb)
           clear HO_7 HO463 BK456 HB
           have HO_7:=n0_
           have HO463:=n1_
           have HO467:=n2_
           have BK456:=n3_
           have HB:=n4_
           clear n0_ n1_ n2_ n3_ n4_
           (try clear hb)
           (try clear hb2)
           (try clear hk)
           (try clear hi)
           (try clear ho0)
           obtain ⟨Ao30,co30,eo30⟩:=Kd.R_slice HO467.out
           (first|subst eo30|(injection eo30 with f1_ f2_ f3_;have f4_:=f1_.symm;have f5_:=f3_.symm;clear f1_ f2_ f3_;subst f4_;subst f5_))
           obtain ⟨Ao31,co31,eo31⟩:=Kd.R_slice HO463.out
           (first|subst eo31|(injection eo31 with f1_ f2_ f3_;have f4_:=f1_.symm;have f5_:=f3_.symm;clear f1_ f2_ f3_;subst f4_;subst f5_))
           refine hK.out _ _ ⟨(blk_cell BK456.out 0).trans rfl,(blk_cell BK456.out 1).trans rfl,(blk_cell BK456.out 2).trans rfl⟩ (fun hHeld=>?_)
           clear hK K
           refine norm_ (a':=?_) ?_ ?_
           rotate_left
           ·show Act.put _ (some 51) _=_
            simp only [Act.put,List.setIfInBounds_toArray,List.set_cons_zero,List.set_cons_succ,i64_w,i32_w]
            rfl
           refine pure_ (i:=17) (N:=some 52) (v:=?_) (a':=?_) #[true,true,true,true,true,true,true,true,true,true,true,true,true,true,true,true,true,true,false,false,false] rfl rfl (any_of HT_.out (by kernel_rfl)) (fun _ _ _ h=>h) (Or.inl ⟨by rfl,?_⟩) ?_ ?_
           rotate_left
           ·intro w'
            go_simp
            with_reducible rfl
           rotate_left
           ·simp only [Act.put,List.setIfInBounds_toArray,List.set_cons_zero,List.set_cons_succ,i64_w,i32_w]
            rfl
           refine one_ (i:=18) (N:=some 53) #[true,true,true,true,true,true,true,true,true,true,true,true,true,true,true,true,true,true,true,false,false] rfl rfl (one_of HT_.out (by kernel_rfl)) (by decide) (fun K hK=>?_)
           refine value_ (w1:=?_) (v:=?_) (by rfl) rfl ?_ ?_
           rotate_left 2
           ·go_simp
            constructor
            ·rfl
            ·rfl
           refine hK.out _ _ ⟨(blk_cell (zbA BK456.out _) 0).trans rfl,(blk_cell (zbA BK456.out _) 1).trans rfl,(blk_cell (zbA BK456.out _) 2).trans rfl⟩ (fun hHeld=>?_)
           clear hK K
           refine norm_ (a':=?_) ?_ ?_
           rotate_left
           ·show Act.put _ (some 53) _=_
            simp only [Act.put,List.setIfInBounds_toArray,List.set_cons_zero,List.set_cons_succ,i64_w,i32_w]
            rfl
           refine one_ (i:=19) (N:=some 54) #[true,true,true,true,true,true,true,true,true,true,true,true,true,true,true,true,true,true,true,true,false] rfl rfl (one_of HT_.out (by kernel_rfl)) (by decide) (fun K hK=>?_)
           refine Kd.S_append_step k42 (w0:=w) w.heap.size (by rfl) (.tmp 35) (.tmp 53) 43 42 (.agg #[(.int .i64 0),(.int .i64 0),(.int .i64 0),(.int .i64 0),(.slice none 0 0),(.slice none 0 0),(.slice none 0 0)]) 104 rfl Try.underlying43 info42 rfl (by decide) (by omega) u7 x7_1 (⟨1,a1,x23_1,a0_2,t461,t465,([]:List (S55))⟩:S42) [.int .i64 1,.int .i64 a1,.int .i64 x23_1,.int .i64 a0_2,.slice Ao31 t461.length co31,.slice Ao30 t465.length co30,.slice none 0 0] (fun _=>True) (fun k_=>some k_=(.slice Ao31 t461.length co31:Value).ownBlock∨some k_=(.slice Ao30 t465.length co30:Value).ownBlock) rfl rfl ?aP (fun k_ hk_=>hk_.elim (fun h_=>((Kd.R_mono (ok':=fun k_=>((fun _=>True)) k_∧some k_≠(u7:Value).ownBlock) (Kd.R_apart' (HO463.out) (Kd.S_typed HO_7.out) (by decide)) (fun k_ hk=>⟨trivial,hk.2⟩))).1 k_ h_.symm) (fun h_=>((Kd.R_mono (ok':=fun k_=>((fun _=>True)) k_∧some k_≠(u7:Value).ownBlock) (Kd.R_apart' (HO467.out) (Kd.S_typed HO_7.out) (by decide)) (fun k_ hk=>⟨trivial,hk.2⟩))).1 k_ h_.symm)) ?aF ?aO ?aB ?aS ?aL ?_
           (case aP=>exact k42_mkM _ _ _ (⟨1,a1,x23_1,a0_2,t461,t465,([]:List (S55))⟩:S42) (Kd.R_mono (Kd.R_tight rfl (Kd.R_mono (ok':=fun k_=>((fun _=>True)) k_∧some k_≠(u7:Value).ownBlock) (Kd.R_apart' (HO463.out) (Kd.S_typed HO_7.out) (by decide)) (fun k_ hk=>⟨trivial,hk.2⟩))) (fun _ h_=>Or.inl h_)) (Kd.R_mono (Kd.R_tight rfl (Kd.R_mono (ok':=fun k_=>((fun _=>True)) k_∧some k_≠(u7:Value).ownBlock) (Kd.R_apart' (HO467.out) (Kd.S_typed HO_7.out) (by decide)) (fun k_ hk=>⟨trivial,hk.2⟩))) (fun _ h_=>Or.inr (h_))) (Kd.R_nil _ _ _ _ _))
           (case aB=>exact (by repeat (first|(with_reducible first|exact HB.out|apply zlA|apply zlN|apply zlD|refine zlS ?_ GE456.out)|exact HB.out)))
           (case aF=>exact (fun _ _=>trivial))
           (case aO=>exact (by (with_reducible repeat (first|apply Kd.S_alloc|apply Kd.S_drewN|apply Kd.S_drew));exact Kd.S_mono HO_7.out (fun k_ hk=>⟨trivial,fun e_=>e_.elim (fun h_=>hk.1.2 h_) (fun h_=>hk.2 h_)⟩)))
           (case aS=>exact (below_size (by repeat (first|(with_reducible first|exact HB.out|apply zlA|apply zlN|apply zlD|refine zlS ?_ GE456.out)|exact HB.out))))
           (case aL=>have:=LMc23.out;omega)
           intro v469 w32 ho hb hg hat
           rw [← Ny468.out] at ho
           have n0_:=zm (blk_grown (g:=gb456) (o:=.cells #[.slice A0_0 l0_0.length c0_0,.slice A0_1 l0_1.length c0_1,.int .i64 a0_2] 25 (0,0)) (by (with_reducible repeat (first|refine zbN ?_ _|refine zbD ?_|refine zbA ?_ _));exact BK456.out) hg (Kd.S_ne HO_7.out BK456.out (by decide)))
           have n1_:=zm (hb)
           have n2_:=zm (ho)
           clear BK456 HB HO_7 HO463 HO467
           have BK456:=n0_
           have HB:=n1_
           have HO470:=n2_
           clear n0_ n1_ n2_ ho hb hg hat
           refine hK.out _ _ ⟨(blk_cell BK456.out 0).trans rfl,(blk_cell BK456.out 1).trans rfl,(blk_cell BK456.out 2).trans rfl⟩ (fun hHeld=>?_)
           clear hK K
           refine norm_ (a':=?_) ?_ ?_
           rotate_left
           ·show Act.put _ (some 54) _=_
            simp only [Act.put,List.setIfInBounds_toArray,List.set_cons_zero,List.set_cons_succ,i64_w,i32_w]
            rfl
           refine pure_ (i:=20) (N:=some 7) (v:=?_) (a':=?_) #[true,true,true,true,true,true,true,true,true,true,true,true,true,true,true,true,true,true,true,true,true] rfl rfl (any_of HT_.out (by kernel_rfl)) (fun _ _ _ h=>h) (Or.inl ⟨by rfl,?_⟩) ?_ ?_
           rotate_left
           ·intro w'
            go_simp
            with_reducible rfl
           rotate_left
           ·simp only [Act.put,List.setIfInBounds_toArray,List.set_cons_zero,List.set_cons_succ,i64_w,i32_w]
            rfl
           refine done_ (done_of HT_.out (by kernel_rfl)) ?_
           try go_wp2
           go_roundg k1
           case measure=>have:=HK1.out;omega
           case rel=>exact ⟨(y468),(wrap64 (x23_1 + 1)),(by first|rfl|(simp;done)|(simp [*];done)),H',⟨by have:=HK1.out;omega⟩,⟨by (with_reducible repeat (first|apply Kd.S_alloc|apply Kd.S_drewN|apply Kd.S_drew));exact HO470.out⟩,⟨by (with_reducible repeat (first|refine zbN ?_ _|refine zbD ?_|refine zbA ?_ _));exact BK456.out⟩,⟨by repeat (first|(with_reducible first|exact HB.out|apply zlA|apply zlN|apply zlD|refine zlS ?_ GE456.out)|exact HB.out)⟩⟩
          ·rw [if_neg c23] at H
           exact absurd H (by simp)
         ·rw [if_neg c21] at H
          exact absurd H (by simp)
        ·rw [if_neg c17] at H
         exact absurd H (by simp)
       ·rw [if_neg c16] at H
        exact absurd H (by simp)
      ·rw [if_neg c15] at H
       exact absurd H (by simp)
     ·rw [if_neg c12] at H
      have c12b0:decide (x23_1 < t459)=false:=decide_eq_false c12
      clear c12
      simp only [Option.some.injEq,Prod.mk.injEq] at H
      obtain ⟨rfl,rfl⟩:=H
      go_wp2
      go_ret2
      exact ⟨_,by first|rfl|(simp [errW_none,errW_some] <;> rfl)|(simp [*,errW_none,errW_some] <;> rfl),by (with_reducible repeat (first|apply Kd.S_alloc|apply Kd.S_drewN|apply Kd.S_drew));exact HO_7.out,by repeat (first|(with_reducible first|exact HB.out|apply zlA|apply zlN|apply zlD|refine zlS ?_ GE456.out)|exact HB.out)⟩
  ·replace c6:=Bool.eq_false_iff.mpr c6
   subst c6
   have H1:(some (([]:List (S42)),1))=some (r1,r2):=by rw [if_neg (show ¬ (false=true) by decide)] at H;exact H
   clear H
   have H:=H1
   clear H1
   simp only [Option.some.injEq,Prod.mk.injEq] at H
   obtain ⟨rfl,rfl⟩:=H
   go_enter Try.func27,Try.ntmps27
   go_wp2_with (first|((with_reducible refine gate_dst (N:=2) rfl ?_);refine box_event ?hg (N:=2) ?hd (cs:=#[.slice A0_0 l0_0.length c0_0,.slice A0_1 l0_1.length c0_1,.int .i64 a0_2]) (t:=25) ?hr ?_;(case hd=>rfl);(case hg=>rfl);(case hr=>first|(go_simp;done)|(go_simp;rfl));intro gb456 hg w33 hbox hb;have n0_:=zm (below_step (by repeat (first|(with_reducible first|exact HB.out|apply zlA|apply zlN|apply zlD)|exact HB.out)) hb);have n1_:=zm (hbox);have n2_:=zm ((by rw [hg];exact (below_size (by repeat (first|(with_reducible first|exact HB.out|apply zlA|apply zlN|apply zlD)|exact HB.out))):w.heap.size≤gb456));have n3_:=zm ((by rw [hg];exact (below_size (by repeat (first|(with_reducible first|exact HB.out|apply zlA|apply zlN|apply zlD)|exact HB.out))):w.heap.size≤gb456));clear HB;have HB:=n0_;have BK456:=n1_;have GW456:=n2_;have GE456:=n3_;clear n0_ n1_ n2_ n3_;clear hb hbox hg;have hcz34_0:w33.cell? ⟨gb456,0,none⟩=some (.slice A0_0 l0_0.length c0_0):=(blk_cell BK456.out 0).trans rfl;have hcz34_1:w33.cell? ⟨gb456,1,none⟩=some (.slice A0_1 l0_1.length c0_1):=(blk_cell BK456.out 1).trans rfl;have hcz34_2:w33.cell? ⟨gb456,2,none⟩=some (.int .i64 a0_2):=(blk_cell BK456.out 2).trans rfl;have hfz34_0:=blk_frozen BK456.out 0;have hfz34_1:=blk_frozen BK456.out 1;have hfz34_2:=blk_frozen BK456.out 2)|((with_reducible refine gate_callee (f:=17) rfl ?_);refine goesL_ (some 12) rfl rfl Try.func17 (by kernel_rfl) rfl #[.agg #[.slice A0_0 l0_0.length c0_0,.slice A0_1 l0_1.length c0_1,.int .i64 a0_2]] rfl (by (try simp only [List.map_toArray,List.map_cons,List.map_nil]);first|done|rfl|(simp only [List.length_drop,List.length_take];rfl)) ?_;(with_reducible refine (mapjnl_Check.calls k _ _ l0_0 _ _ l0_1 a0_2 t457 _ ?side1 ?side2 ?side3 ?side4 A3.out).mono ?_);(case side1=>repeat (first|exact (Kd.C_below HR0_0.out HB.out)|(with_reducible refine Kd.C_alloc ?_ _)|(with_reducible refine Kd.C_drewN ?_ _)|(with_reducible refine Kd.C_drew ?_)));(case side2=>exact HC0_0.out);(case side3=>repeat (first|exact (Kd.C_below HR0_1.out HB.out)|(with_reducible refine Kd.C_alloc ?_ _)|(with_reducible refine Kd.C_drewN ?_ _)|(with_reducible refine Kd.C_drew ?_)));(case side4=>exact HC0_1.out);rintro e w35 ⟨rfl,hb⟩;refine ⟨_,rfl,?_⟩;have n0_:=zm (zbB (g:=gb456) (o:=.cells #[.slice A0_0 l0_0.length c0_0,.slice A0_1 l0_1.length c0_1,.int .i64 a0_2] 25 (0,0)) (by (with_reducible repeat (first|refine zbN ?_ _|refine zbD ?_|refine zbA ?_ _));exact BK456.out) hb);have n1_:=zm (below_step (by repeat (first|(with_reducible first|exact HB.out|apply zlA|apply zlN|apply zlD|refine zlS ?_ GE456.out)|exact HB.out)) hb);clear BK456 HB;have BK456:=n0_;have HB:=n1_;clear n0_ n1_;(try clear hb);(try clear hb2);(try clear hk);(try clear hi))|((with_reducible refine gate_callee (f:=65) rfl ?_);refine goesL_ (some 17) rfl rfl Try.func65 (by kernel_rfl) rfl #[.int .i64 a1] rfl (by (try simp only [List.map_toArray,List.map_cons,List.map_nil]);first|done|rfl|(simp only [List.length_drop,List.length_take];rfl)) ?_;(with_reducible refine (mapjnl_gen.calls a1 false _ A5.out).mono ?_);rintro e w' ⟨rfl,⟨nd,rfl⟩⟩;refine ⟨_,rfl,?_⟩))
   go_ret2
   exact ⟨_,by first|rfl|(simp [errW_none,errW_some] <;> rfl)|(simp [*,errW_none,errW_some] <;> rfl),by first|exact Kd.S_nil _ _ _ _ _|exact Kd.N_nil _ _ _ _ _|exact Kd.V_nil _ _ _ _ _|exact Kd.Q_nil _ _ _ _ _|exact Kd.R_nil _ _ _ _ _,by repeat (first|(with_reducible first|exact HB.out|apply zlA|apply zlN|apply zlD|refine zlS ?_ GE456.out)|exact HB.out)⟩
 ·rw [if_neg c4] at H
  have c4b0:(t457 == 0)=false:=beq_eq_false_iff_ne.mpr c4
  have c4b1:(t457 != 0)=true:=bne_iff_ne.mpr c4
  simp only [Option.some.injEq,Prod.mk.injEq] at H
  obtain ⟨rfl,rfl⟩:=H
  go_enter Try.func27,Try.ntmps27
  go_wp2_with (first|((with_reducible refine gate_dst (N:=2) rfl ?_);refine box_event ?hg (N:=2) ?hd (cs:=#[.slice A0_0 l0_0.length c0_0,.slice A0_1 l0_1.length c0_1,.int .i64 a0_2]) (t:=25) ?hr ?_;(case hd=>rfl);(case hg=>rfl);(case hr=>first|(go_simp;done)|(go_simp;rfl));intro gb456 hg w36 hbox hb;have n0_:=zm (below_step (by repeat (first|(with_reducible first|exact HB.out|apply zlA|apply zlN|apply zlD)|exact HB.out)) hb);have n1_:=zm (hbox);have n2_:=zm ((by rw [hg];exact (below_size (by repeat (first|(with_reducible first|exact HB.out|apply zlA|apply zlN|apply zlD)|exact HB.out))):w.heap.size≤gb456));have n3_:=zm ((by rw [hg];exact (below_size (by repeat (first|(with_reducible first|exact HB.out|apply zlA|apply zlN|apply zlD)|exact HB.out))):w.heap.size≤gb456));clear HB;have HB:=n0_;have BK456:=n1_;have GW456:=n2_;have GE456:=n3_;clear n0_ n1_ n2_ n3_;clear hb hbox hg;have hcz37_0:w36.cell? ⟨gb456,0,none⟩=some (.slice A0_0 l0_0.length c0_0):=(blk_cell BK456.out 0).trans rfl;have hcz37_1:w36.cell? ⟨gb456,1,none⟩=some (.slice A0_1 l0_1.length c0_1):=(blk_cell BK456.out 1).trans rfl;have hcz37_2:w36.cell? ⟨gb456,2,none⟩=some (.int .i64 a0_2):=(blk_cell BK456.out 2).trans rfl;have hfz37_0:=blk_frozen BK456.out 0;have hfz37_1:=blk_frozen BK456.out 1;have hfz37_2:=blk_frozen BK456.out 2)|((with_reducible refine gate_callee (f:=17) rfl ?_);refine goesL_ (some 12) rfl rfl Try.func17 (by kernel_rfl) rfl #[.agg #[.slice A0_0 l0_0.length c0_0,.slice A0_1 l0_1.length c0_1,.int .i64 a0_2]] rfl (by (try simp only [List.map_toArray,List.map_cons,List.map_nil]);first|done|rfl|(simp only [List.length_drop,List.length_take];rfl)) ?_;(with_reducible refine (mapjnl_Check.calls k _ _ l0_0 _ _ l0_1 a0_2 t457 _ ?side1 ?side2 ?side3 ?side4 A3.out).mono ?_);(case side1=>repeat (first|exact (Kd.C_below HR0_0.out HB.out)|(with_reducible refine Kd.C_alloc ?_ _)|(with_reducible refine Kd.C_drewN ?_ _)|(with_reducible refine Kd.C_drew ?_)));(case side2=>exact HC0_0.out);(case side3=>repeat (first|exact (Kd.C_below HR0_1.out HB.out)|(with_reducible refine Kd.C_alloc ?_ _)|(with_reducible refine Kd.C_drewN ?_ _)|(with_reducible refine Kd.C_drew ?_)));(case side4=>exact HC0_1.out);rintro e w38 ⟨rfl,hb⟩;refine ⟨_,rfl,?_⟩;have n0_:=zm (zbB (g:=gb456) (o:=.cells #[.slice A0_0 l0_0.length c0_0,.slice A0_1 l0_1.length c0_1,.int .i64 a0_2] 25 (0,0)) (by (with_reducible repeat (first|refine zbN ?_ _|refine zbD ?_|refine zbA ?_ _));exact BK456.out) hb);have n1_:=zm (below_step (by repeat (first|(with_reducible first|exact HB.out|apply zlA|apply zlN|apply zlD|refine zlS ?_ GE456.out)|exact HB.out)) hb);clear BK456 HB;have BK456:=n0_;have HB:=n1_;clear n0_ n1_;(try clear hb);(try clear hb2);(try clear hk);(try clear hi)))
  go_ret2
  exact ⟨_,by first|rfl|(simp [errW_none,errW_some] <;> rfl)|(simp [*,errW_none,errW_some] <;> rfl),by first|exact Kd.S_nil _ _ _ _ _|exact Kd.N_nil _ _ _ _ _|exact Kd.V_nil _ _ _ _ _|exact Kd.Q_nil _ _ _ _ _|exact Kd.R_nil _ _ _ _ _,by repeat (first|(with_reducible first|exact HB.out|apply zlA|apply zlN|apply zlD|refine zlS ?_ GE456.out)|exact HB.out)⟩
end Go.Proofs.Ytkhbmgclklmimaa.Print
end
section
namespace Go.Proofs.Ytkhbmgclklmimaa.Print
open Go.RowKit Go.Proofs.YtkhbmgclklmimaaW.PrintWords Go.Proofs.YtkhbmgclklmimaaW.PrintLast Go.Proofs.YtkhbmgclklmimaaW.PrintMore
attribute [local go_sem] max2_int min2_int max_two min_two max_three min_three max_four min_four   -- for this text's walks alone
attribute [local go_sem ↓] Go.Proofs.Ytkhbmgclklmimaa.Sem.isSome_setCell
attribute [local go_sem] Go.Instr.field Go.asAgg
set_option linter.unusedVariables false
set_option linter.unusedSimpArgs false
def slipwayref06_Parts.f (a0:Int):Option (Int):=if a0 < 16 then (some 0) else (if a0 > 256 then (some 0) else (some (wrap64 (Int.tdiv (wrap64 ((wrap64 (a0 + 64)) - 1)) 64))))
set_option maxHeartbeats 8000000 in
set_option maxRecDepth 100000 in
theorem slipwayref06_Parts.calls (a0:Int) (r:Int) (w:World) (h:slipwayref06_Parts.f a0=some r) :
  Calls Try.prog 34 #[.int .i64 a0] w fun e w'=>e=.returned (.int .i64 r)∧Drawn0 w w':=by
 have H:(if a0 < 16 then (some 0) else (if a0 > 256 then (some 0) else (some (wrap64 (Int.tdiv (wrap64 ((wrap64 (a0 + 64)) - 1)) 64)))))=some r:=h
 clear h
 by_cases c2:a0 < 16
 ·rw [if_pos c2] at H
  have c2b0:decide (a0 < 16)=true:=decide_eq_true c2
  clear c2
  obtain rfl:=Option.some.inj H
  go_enter Try.func34,Try.ntmps34
  go_wp2
  go_ret
  exact ⟨by first|rfl|(simp;done)|(simp [*];done),by repeat (first|exact Drawn0.refl _|apply Drawn0.step)⟩
 ·rw [if_neg c2] at H
  have c2b0:decide (a0 < 16)=false:=decide_eq_false c2
  clear c2
  by_cases c3:a0 > 256
  ·rw [if_pos c3] at H
   have c3b0:decide (256 < a0)=true:=decide_eq_true c3
   clear c3
   obtain rfl:=Option.some.inj H
   go_enter Try.func34,Try.ntmps34
   go_wp2
   go_ret
   exact ⟨by first|rfl|(simp;done)|(simp [*];done),by repeat (first|exact Drawn0.refl _|apply Drawn0.step)⟩
  ·rw [if_neg c3] at H
   have c3b0:decide (256 < a0)=false:=decide_eq_false c3
   clear c3
   obtain rfl:=Option.some.inj H
   go_enter Try.func34,Try.ntmps34
   go_wp2
   go_ret
   exact ⟨by first|rfl|(simp;done)|(simp [*];done),by repeat (first|exact Drawn0.refl _|apply Drawn0.step)⟩
end Go.Proofs.Ytkhbmgclklmimaa.Print
end
section
namespace Go.Proofs.Ytkhbmgclklmimaa.Print
open Go.RowKit Go.Proofs.YtkhbmgclklmimaaW.PrintWords Go.Proofs.YtkhbmgclklmimaaW.PrintLast Go.Proofs.YtkhbmgclklmimaaW.PrintMore
attribute [local go_sem] max2_int min2_int max_two min_two max_three min_three max_four min_four   -- for this text's walks alone
attribute [local go_sem ↓] Go.Proofs.Ytkhbmgclklmimaa.Sem.isSome_setCell
attribute [local go_sem] Go.Instr.field Go.asAgg
set_option linter.unusedVariables false
set_option linter.unusedSimpArgs false
mutual
def slipwayref06_Checkpoint.j0:Nat → Int → Bool → List Bool → List Int → Int → Option ((List (S42)) × Int)
 | 0,_,_,_,_,_=>none
 | k + 1,x1,x21,x472000,x472001,x472002=>if x21=true then (some (([]:List (S42)),1)) else (slipwayref06_Checkpoint.l0 k x1 ([]:List (S42)) 0 x472000 x472001 x472002)
def slipwayref06_Checkpoint.l0:Nat → Int → List (S42) → Int → List Bool → List Int → Int → Option ((List (S42)) × Int)
 | 0,_,_,_,_,_,_=>none
 | k + 1,x1,x7,x8,x472000,x472001,x472002=>(slipwayref06_Parts.f (x472000.length:Int)).bind fun t473=>(if x8 < t473 then (if 0≤(wrap64 (x8 * 64)) then (if (wrap64 (x8 * 64))≤(mn (wrap64 ((wrap64 (x8 * 64)) + 64)) (x472000.length:Int)) then (if (mn (wrap64 ((wrap64 (x8 * 64)) + 64)) (x472000.length:Int))≤(x472000.length:Int) then (if ([]:List Bool).length + ((x472000.take ((mn (wrap64 ((wrap64 (x8 * 64)) + 64)) (x472000.length:Int)):Int).toNat).drop ((wrap64 (x8 * 64)):Int).toNat).length < 140737488355328 then (if (mn (wrap64 ((wrap64 (x8 * 64)) + 64)) (x472000.length:Int))≤(x472001.length:Int) then (if ([]:List Int).length + ((x472001.take ((mn (wrap64 ((wrap64 (x8 * 64)) + 64)) (x472000.length:Int)):Int).toNat).drop ((wrap64 (x8 * 64)):Int).toNat).length < 17592186044416 then (if x7.length < 1353245080339 then (slipwayref06_Checkpoint.l0 k x1 (x7 ++ [(⟨1,x1,x8,x472002,(([]:List Bool) ++ ((x472000.take ((mn (wrap64 ((wrap64 (x8 * 64)) + 64)) (x472000.length:Int)):Int).toNat).drop ((wrap64 (x8 * 64)):Int).toNat)),(([]:List Int) ++ ((x472001.take ((mn (wrap64 ((wrap64 (x8 * 64)) + 64)) (x472000.length:Int)):Int).toNat).drop ((wrap64 (x8 * 64)):Int).toNat)),([]:List (S55))⟩:S42)]) (wrap64 (x8 + 1)) x472000 x472001 x472002) else (none)) else (none)) else (none)) else (none)) else (none)) else (none)) else (none)) else (some (x7,0)))
end
def slipwayref06_Checkpoint.f (k:Nat) (l0_0:List Bool) (l0_1:List Int) (a0_2:Int) (a1:Int):Option ((List (S42)) × Int):=(slipwayref06_Check.f k l0_0 l0_1 a0_2).bind fun t472=>(if t472=0 then (if a1 < 0 then (slipwayref06_Checkpoint.j0 k a1 true l0_0 l0_1 a0_2) else (slipwayref06_Checkpoint.j0 k a1 (decide (a1 > 1152921504606846976)) l0_0 l0_1 a0_2)) else (some (([]:List (S42)),t472)))
def slipwayref06_Checkpoint.T12:Bool × List (List Nat × List Nat):=(true,[([],[]),([],[]),([],[]),([],[]),([3],[3]),([],[]),([5],[5]),([],[]),([],[]),([6,7,8],[6,7,8]),([9],[9]),([],[]),([11],[11]),([],[]),([],[]),([12,13,14],[12,13,14]),([15,10],[15]),([1,2,4,10,16],[1,2,4,10,16]),([17],[17]),([0,18,16],[0,18]),([19,19,0,1,2,3,4,5,6,7,8,9,10,11,12,13,14,15,16,17,18,19],[0,19])])
def slipwayref06_Checkpoint.B12:List Nat:=[0,0,0,0,8,0,32,0,0,480,992,0,2048,0,0,30720,65504,131070,262142,524287,1048575]
theorem slipwayref06_Checkpoint.tab12:rtab .any (opsOf Try.f28 12)=slipwayref06_Checkpoint.T12:=by kernel_rfl
theorem slipwayref06_Checkpoint.bits12:waitsOk slipwayref06_Checkpoint.T12.2 slipwayref06_Checkpoint.B12=true:=by kernel_rfl
set_option maxHeartbeats 8000000 in
set_option maxRecDepth 100000 in
theorem slipwayref06_Checkpoint.calls (k:Nat) (A0_0:Option Addr) (c0_0:Nat) (l0_0:List Bool) (A0_1:Option Addr) (c0_1:Nat) (l0_1:List Int) (a0_2:Int) (a1:Int) (r1:List (S42)) (r2:Int) (w:World) (hr0_0:Kd.C Kd.bool w A0_0 l0_0.length l0_0) (hc0_0:l0_0.length≤c0_0) (hr0_1:Kd.C (Kd.int .i64) w A0_1 l0_1.length l0_1) (hc0_1:l0_1.length≤c0_1) (h:slipwayref06_Checkpoint.f k l0_0 l0_1 a0_2 a1=some (r1,r2)) :
  Calls Try.prog 28 #[.agg #[.slice A0_0 l0_0.length c0_0,.slice A0_1 l0_1.length c0_1,.int .i64 a0_2],.int .i64 a1] w fun e w'=>∃ v0_:Value,e=.returned (.tuple #[v0_,.int .i64 r2])∧Kd.S k42 42 w' w.heap.size (fun _=>True) v0_ r1∧Below w.heap.size w w':=by
 have hu25:=Try.underlying25
 have hu42:=Try.underlying42
 have HR0_0:=zm hr0_0
 have HC0_0:=zm hc0_0
 clear hr0_0 hc0_0
 have HR0_1:=zm hr0_1
 have HC0_1:=zm hc0_1
 clear hr0_1 hc0_1
 have HB:=zm (Below.refl w.heap.size w)
 have H:((slipwayref06_Check.f k l0_0 l0_1 a0_2).bind fun t472=>(if t472=0 then (if a1 < 0 then (slipwayref06_Checkpoint.j0 k a1 true l0_0 l0_1 a0_2) else (slipwayref06_Checkpoint.j0 k a1 (decide (a1 > 1152921504606846976)) l0_0 l0_1 a0_2)) else (some (([]:List (S42)),t472))))=some (r1,r2):=h
 clear h
 replace H:=Option.bind_eq_some_iff.mp H
 obtain ⟨t472,A30,H⟩:=H
 replace H:(if t472=0 then (if a1 < 0 then (slipwayref06_Checkpoint.j0 k a1 true l0_0 l0_1 a0_2) else (slipwayref06_Checkpoint.j0 k a1 (decide (a1 > 1152921504606846976)) l0_0 l0_1 a0_2)) else (some (([]:List (S42)),t472)))=some (r1,r2):=H
 have A3:=zm A30
 clear A30
 by_cases c4:t472=0
 ·rw [if_pos c4] at H
  have c4b0:(t472 == 0)=true:=beq_iff_eq.mpr c4
  have c4b1:(t472 != 0)=false:=bne_eq_false_iff_eq.mpr c4
  clear c4
  have HC5:=zm H
  clear H
  go_enter Try.func28,Try.ntmps28
  go_upto_region 4 with (first|((with_reducible refine gate_dst (N:=2) rfl ?_);refine box_event ?hg (N:=2) ?hd (cs:=#[.slice A0_0 l0_0.length c0_0,.slice A0_1 l0_1.length c0_1,.int .i64 a0_2]) (t:=25) ?hr ?_;(case hd=>rfl);(case hg=>rfl);(case hr=>first|(go_simp;done)|(go_simp;rfl));intro gb471 hg w6 hbox hb;have n0_:=zm (below_step (by repeat (first|(with_reducible first|exact HB.out|apply zlA|apply zlN|apply zlD)|exact HB.out)) hb);have n1_:=zm (hbox);have n2_:=zm ((by rw [hg];exact (below_size (by repeat (first|(with_reducible first|exact HB.out|apply zlA|apply zlN|apply zlD)|exact HB.out))):w.heap.size≤gb471));have n3_:=zm ((by rw [hg];exact (below_size (by repeat (first|(with_reducible first|exact HB.out|apply zlA|apply zlN|apply zlD)|exact HB.out))):w.heap.size≤gb471));clear HB;have HB:=n0_;have BK471:=n1_;have GW471:=n2_;have GE471:=n3_;clear n0_ n1_ n2_ n3_;clear hb hbox hg;have hcz7_0:w6.cell? ⟨gb471,0,none⟩=some (.slice A0_0 l0_0.length c0_0):=(blk_cell BK471.out 0).trans rfl;have hcz7_1:w6.cell? ⟨gb471,1,none⟩=some (.slice A0_1 l0_1.length c0_1):=(blk_cell BK471.out 1).trans rfl;have hcz7_2:w6.cell? ⟨gb471,2,none⟩=some (.int .i64 a0_2):=(blk_cell BK471.out 2).trans rfl;have hfz7_0:=blk_frozen BK471.out 0;have hfz7_1:=blk_frozen BK471.out 1;have hfz7_2:=blk_frozen BK471.out 2)|((with_reducible refine gate_callee (f:=18) rfl ?_);refine goesL_ (some 12) rfl rfl Try.func18 (by kernel_rfl) rfl #[.agg #[.slice A0_0 l0_0.length c0_0,.slice A0_1 l0_1.length c0_1,.int .i64 a0_2]] rfl (by (try simp only [List.map_toArray,List.map_cons,List.map_nil]);first|done|rfl|(simp only [List.length_drop,List.length_take];rfl)) ?_;(with_reducible refine (slipwayref06_Check.calls k _ _ l0_0 _ _ l0_1 a0_2 t472 _ ?side1 ?side2 ?side3 ?side4 A3.out).mono ?_);(case side1=>repeat (first|exact (Kd.C_below HR0_0.out HB.out)|(with_reducible refine Kd.C_alloc ?_ _)|(with_reducible refine Kd.C_drewN ?_ _)|(with_reducible refine Kd.C_drew ?_)));(case side2=>exact HC0_0.out);(case side3=>repeat (first|exact (Kd.C_below HR0_1.out HB.out)|(with_reducible refine Kd.C_alloc ?_ _)|(with_reducible refine Kd.C_drewN ?_ _)|(with_reducible refine Kd.C_drew ?_)));(case side4=>exact HC0_1.out);rintro e w8 ⟨rfl,hb⟩;refine ⟨_,rfl,?_⟩;have n0_:=zm (zbB (g:=gb471) (o:=.cells #[.slice A0_0 l0_0.length c0_0,.slice A0_1 l0_1.length c0_1,.int .i64 a0_2] 25 (0,0)) (by (with_reducible repeat (first|refine zbN ?_ _|refine zbD ?_|refine zbA ?_ _));exact BK471.out) hb);have n1_:=zm (below_step (by repeat (first|(with_reducible first|exact HB.out|apply zlA|apply zlN|apply zlD|refine zlS ?_ GE471.out)|exact HB.out)) hb);clear BK471 HB;have BK471:=n0_;have HB:=n1_;clear n0_ n1_;(try clear hb);(try clear hb2);(try clear hk);(try clear hi)))
  (try simp only [Act.put,List.setIfInBounds_toArray,List.set_cons_zero,List.set_cons_succ])
  go_cut [21] (fun v21 wc=>∃ (kq:Nat) (x21_4:Bool),v21=.bool x21_4∧Aside0 (slipwayref06_Checkpoint.j0 kq a1 x21_4 l0_0 l0_1 a0_2=some (r1,r2))∧Aside0 (kq≤k)∧Aside0 (wc.heap[gb471]?=some (.cells #[(.slice A0_0 l0_0.length c0_0),(.slice A0_1 l0_1.length c0_1),.int .i64 a0_2] 25 (0,0)))∧Aside0 (Below w.heap.size w wc))
  case first =>
   have H:=HC5.out
   clear HC5
   by_cases c9:a1 < 0
   ·rw [if_pos c9] at H
    have c9b0:decide (a1 < 0)=true:=decide_eq_true c9
    clear c9
    (first|rw [c9b0]|(simp only [i64_w,i32_w];rw [c9b0])|skip)
    have H':=zm H
    clear H
    go_wp2
    go_meet
    case rel=>exact ⟨_,(true),(by first|rfl|(simp;done)|(simp [*];done)),H',⟨by first|omega|exact Nat.le_refl _⟩,⟨by (with_reducible repeat (first|refine zbN ?_ _|refine zbD ?_|refine zbA ?_ _));exact BK471.out⟩,⟨by repeat (first|(with_reducible first|exact HB.out|apply zlA|apply zlN|apply zlD|refine zlS ?_ GE471.out)|exact HB.out)⟩⟩
   ·rw [if_neg c9] at H
    have c9b0:decide (a1 < 0)=false:=decide_eq_false c9
    clear c9
    (first|rw [c9b0]|(simp only [i64_w,i32_w];rw [c9b0])|skip)
    have H':=zm H
    clear H
    go_wp2
    go_meet
    case rel=>exact ⟨_,(decide (a1 > 1152921504606846976)),(by first|rfl|(simp;done)|(simp [*];done)),H',⟨by first|omega|exact Nat.le_refl _⟩,⟨by (with_reducible repeat (first|refine zbN ?_ _|refine zbD ?_|refine zbA ?_ _));exact BK471.out⟩,⟨by repeat (first|(with_reducible first|exact HB.out|apply zlA|apply zlN|apply zlD|refine zlS ?_ GE471.out)|exact HB.out)⟩⟩
  case rest =>
   clear HC5
   try clear c1
   try clear c2
   try clear p2
   try clear c4
   try clear c4b0
   try clear c4b1
   try clear c9
   try clear c9b0
   try clear hcz7_0
   try clear hcz7_1
   try clear hcz7_2
   try clear hfz7_0
   try clear hfz7_1
   try clear hfz7_2
   obtain ⟨kq,x21_4,rfl,HA,HJ4,BK471,HB⟩:=hcut
   cases kq with
   | zero=>exact absurd HA.out (by simp [slipwayref06_Checkpoint.j0])
   | succ kj4 =>
    have H:=HA.out
    clear HA
    simp only [slipwayref06_Checkpoint.j0] at H
    by_cases c10:x21_4=true
    ·subst c10
     have H1:(some (([]:List (S42)),1))=some (r1,r2):=by rw [if_pos rfl] at H;exact H
     clear H
     have H:=H1
     clear H1
     simp only [Option.some.injEq,Prod.mk.injEq] at H
     obtain ⟨rfl,rfl⟩:=H
     go_wp2
     go_ret2
     exact ⟨_,by first|rfl|(simp [errW_none,errW_some] <;> rfl)|(simp [*,errW_none,errW_some] <;> rfl),by first|exact Kd.S_nil _ _ _ _ _|exact Kd.N_nil _ _ _ _ _|exact Kd.V_nil _ _ _ _ _|exact Kd.Q_nil _ _ _ _ _|exact Kd.R_nil _ _ _ _ _,by repeat (first|(with_reducible first|exact HB.out|apply zlA|apply zlN|apply zlD|refine zlS ?_ GE471.out)|exact HB.out)⟩
    ·replace c10:=Bool.eq_false_iff.mpr c10
     subst c10
     have H1:(slipwayref06_Checkpoint.l0 kj4 a1 ([]:List (S42)) 0 l0_0 l0_1 a0_2)=some (r1,r2):=by rw [if_neg (show ¬ (false=true) by decide)] at H;exact H
     clear H
     have H:=H1
     clear H1
     have H':=zm H
     clear H
     go_wp2
     go_loopg [7,8] kj4 (fun kq v7 v8 w'=>∃ (x7_2:List (S42)) (x8_2:Int),v8=.int .i64 x8_2∧Aside0 (slipwayref06_Checkpoint.l0 kq a1 x7_2 x8_2 l0_0 l0_1 a0_2=some (r1,r2))∧Aside0 (kq≤kj4)∧Aside0 (Kd.S k42 42 w' w.heap.size (fun _=>True) v7 x7_2)∧Aside0 (w'.heap[gb471]?=some (.cells #[(.slice A0_0 l0_0.length c0_0),(.slice A0_1 l0_1.length c0_1),.int .i64 a0_2] 25 (0,0)))∧Aside0 (Below w.heap.size w w'))
     case atStart=>exact ⟨(([]:List (S42))),(0),(by first|rfl|(simp;done)|(simp [*];done)),H',⟨Nat.le_refl _⟩,⟨by first|exact Kd.S_nil _ _ _ _ _|exact Kd.N_nil _ _ _ _ _|exact Kd.V_nil _ _ _ _ _|exact Kd.Q_nil _ _ _ _ _|exact Kd.R_nil _ _ _ _ _⟩,⟨by (with_reducible repeat (first|refine zbN ?_ _|refine zbD ?_|refine zbA ?_ _));exact BK471.out⟩,⟨by repeat (first|(with_reducible first|exact HB.out|apply zlA|apply zlN|apply zlD|refine zlS ?_ GE471.out)|exact HB.out)⟩⟩
     case round =>
      clear H'
      try clear c1
      try clear c2
      try clear p2
      try clear c4
      try clear c4b0
      try clear c4b1
      try clear c9
      try clear c9b0
      try clear c10
      try clear hcz7_0
      try clear hcz7_1
      try clear hcz7_2
      try clear hfz7_0
      try clear hfz7_1
      try clear hfz7_2
      try clear p2
      obtain ⟨x7_2,x8_2,rfl,HA,HK2,HO_7,BK471,HB⟩:=hrel
      cases gk with
      | zero=>exact absurd HA.out (by simp [slipwayref06_Checkpoint.l0])
      | succ k2 =>
       have H:=HA.out
       clear HA
       simp only [slipwayref06_Checkpoint.l0] at H
       replace H:=Option.bind_eq_some_iff.mp H
       obtain ⟨t473,A110,H⟩:=H
       replace H:(if x8_2 < t473 then (if 0≤(wrap64 (x8_2 * 64)) then (if (wrap64 (x8_2 * 64))≤(mn (wrap64 ((wrap64 (x8_2 * 64)) + 64)) (l0_0.length:Int)) then (if (mn (wrap64 ((wrap64 (x8_2 * 64)) + 64)) (l0_0.length:Int))≤(l0_0.length:Int) then (if ([]:List Bool).length + ((l0_0.take ((mn (wrap64 ((wrap64 (x8_2 * 64)) + 64)) (l0_0.length:Int)):Int).toNat).drop ((wrap64 (x8_2 * 64)):Int).toNat).length < 140737488355328 then (if (mn (wrap64 ((wrap64 (x8_2 * 64)) + 64)) (l0_0.length:Int))≤(l0_1.length:Int) then (if ([]:List Int).length + ((l0_1.take ((mn (wrap64 ((wrap64 (x8_2 * 64)) + 64)) (l0_0.length:Int)):Int).toNat).drop ((wrap64 (x8_2 * 64)):Int).toNat).length < 17592186044416 then (if x7_2.length < 1353245080339 then (slipwayref06_Checkpoint.l0 k2 a1 (x7_2 ++ [(⟨1,a1,x8_2,a0_2,(([]:List Bool) ++ ((l0_0.take ((mn (wrap64 ((wrap64 (x8_2 * 64)) + 64)) (l0_0.length:Int)):Int).toNat).drop ((wrap64 (x8_2 * 64)):Int).toNat)),(([]:List Int) ++ ((l0_1.take ((mn (wrap64 ((wrap64 (x8_2 * 64)) + 64)) (l0_0.length:Int)):Int).toNat).drop ((wrap64 (x8_2 * 64)):Int).toNat)),([]:List (S55))⟩:S42)]) (wrap64 (x8_2 + 1)) l0_0 l0_1 a0_2) else (none)) else (none)) else (none)) else (none)) else (none)) else (none)) else (none)) else (some (x7_2,0)))=some (r1,r2):=H
       have A11:=zm A110
       clear A110
       by_cases c12:x8_2 < t473
       ·rw [if_pos c12] at H
        have c12b0:decide (x8_2 < t473)=true:=decide_eq_true c12
        clear c12
        obtain ⟨ji13,hji13⟩:∃ j_:Int,(mn (wrap64 ((wrap64 (x8_2 * 64)) + 64)) (l0_0.length:Int))=j_:=⟨_,rfl⟩
        replace H:(if 0≤(wrap64 (x8_2 * 64)) then (if (wrap64 (x8_2 * 64))≤(ji13) then (if (ji13)≤(l0_0.length:Int) then (if ([]:List Bool).length + ((l0_0.take ((ji13):Int).toNat).drop ((wrap64 (x8_2 * 64)):Int).toNat).length < 140737488355328 then (if (ji13)≤(l0_1.length:Int) then (if ([]:List Int).length + ((l0_1.take ((ji13):Int).toNat).drop ((wrap64 (x8_2 * 64)):Int).toNat).length < 17592186044416 then (if x7_2.length < 1353245080339 then (slipwayref06_Checkpoint.l0 k2 a1 (x7_2 ++ [(⟨1,a1,x8_2,a0_2,(([]:List Bool) ++ ((l0_0.take ((ji13):Int).toNat).drop ((wrap64 (x8_2 * 64)):Int).toNat)),(([]:List Int) ++ ((l0_1.take ((ji13):Int).toNat).drop ((wrap64 (x8_2 * 64)):Int).toNat)),([]:List (S55))⟩:S42)]) (wrap64 (x8_2 + 1)) l0_0 l0_1 a0_2) else (none)) else (none)) else (none)) else (none)) else (none)) else (none)) else (none))=some (r1,r2):=by first|(rw [hji13] at H;exact H)|(simp only [hji13] at H ⊢;exact H)
        (try rw [hji13] at A11)
        have hji13_:(if (l0_0.length:Int) < (wrap64 ((wrap64 (x8_2 * 64)) + 64)) then (l0_0.length:Int) else (wrap64 ((wrap64 (x8_2 * 64)) + 64)))=ji13:=hji13
        obtain ⟨ji14,hji14⟩:∃ j_:Int,(wrap64 (x8_2 * 64))=j_:=⟨_,rfl⟩
        (try rw [hji14] at hji13_)
        replace H:(if 0≤(ji14) then (if (ji14)≤(ji13) then (if (ji13)≤(l0_0.length:Int) then (if ([]:List Bool).length + ((l0_0.take ((ji13):Int).toNat).drop ((ji14):Int).toNat).length < 140737488355328 then (if (ji13)≤(l0_1.length:Int) then (if ([]:List Int).length + ((l0_1.take ((ji13):Int).toNat).drop ((ji14):Int).toNat).length < 17592186044416 then (if x7_2.length < 1353245080339 then (slipwayref06_Checkpoint.l0 k2 a1 (x7_2 ++ [(⟨1,a1,x8_2,a0_2,(([]:List Bool) ++ ((l0_0.take ((ji13):Int).toNat).drop ((ji14):Int).toNat)),(([]:List Int) ++ ((l0_1.take ((ji13):Int).toNat).drop ((ji14):Int).toNat)),([]:List (S55))⟩:S42)]) (wrap64 (x8_2 + 1)) l0_0 l0_1 a0_2) else (none)) else (none)) else (none)) else (none)) else (none)) else (none)) else (none))=some (r1,r2):=by first|(rw [hji14] at H;exact H)|(simp only [hji14] at H ⊢;exact H)
        (try rw [hji14] at A11)
        have hji14w:(IntKind.i64.wrap (x8_2 * 64))=ji14:=(i64_w _).trans hji14
        by_cases c15:0≤(ji14)
        ·rw [if_pos c15] at H
         have c15b0:=eq_true c15
         have c15b1:decide (0≤(ji14))=true:=decide_eq_true c15
         clear c15
         by_cases c16:(ji14)≤(ji13)
         ·rw [if_pos c16] at H
          have c16b0:=eq_true c16
          have c16b1:decide ((ji14)≤(ji13))=true:=decide_eq_true c16
          clear c16
          by_cases c17:(ji13)≤(l0_0.length:Int)
          ·rw [if_pos c17] at H
           have c17b0:=eq_true c17
           have c17b1:decide ((ji13)≤(l0_0.length:Int))=true:=decide_eq_true c17
           clear c17
           by_cases c18:([]:List Bool).length + ((l0_0.take ((ji13):Int).toNat).drop ((ji14):Int).toNat).length < 140737488355328
           ·rw [if_pos c18] at H
            have LMc18:=zm c18
            clear c18
            obtain ⟨y475,hy475⟩:∃ y_:List Bool,y_=(([]:List Bool) ++ ((l0_0.take ((ji13):Int).toNat).drop ((ji14):Int).toNat)):=⟨_,rfl⟩
            replace H:(if (ji13)≤(l0_1.length:Int) then (if ([]:List Int).length + ((l0_1.take ((ji13):Int).toNat).drop ((ji14):Int).toNat).length < 17592186044416 then (if x7_2.length < 1353245080339 then (slipwayref06_Checkpoint.l0 k2 a1 (x7_2 ++ [(⟨1,a1,x8_2,a0_2,y475,(([]:List Int) ++ ((l0_1.take ((ji13):Int).toNat).drop ((ji14):Int).toNat)),([]:List (S55))⟩:S42)]) (wrap64 (x8_2 + 1)) l0_0 l0_1 a0_2) else (none)) else (none)) else (none))=some (r1,r2):=by first|(rw [hy475];with_reducible exact H)|(have H2_:=(Option.bind_some _ _).symm.trans H;rw [hy475];with_reducible exact H2_)|(have H2_:=(Option.bind_some _ _).symm.trans H;with_reducible exact H2_)|with_reducible exact H|(rw [hy475];exact H)|exact H
            have Ny475:=zm hy475
            clear hy475
            have c19b0:=eq_true (of_decide_eq_true (by first|(with_reducible assumption)|assumption):0≤(ji14))
            have c20b0:=eq_true (of_decide_eq_true (by first|(with_reducible assumption)|assumption):(ji14)≤(ji13))
            by_cases c21:(ji13)≤(l0_1.length:Int)
            ·rw [if_pos c21] at H
             have c21b0:=eq_true c21
             have c21b1:decide ((ji13)≤(l0_1.length:Int))=true:=decide_eq_true c21
             clear c21
             by_cases c22:([]:List Int).length + ((l0_1.take ((ji13):Int).toNat).drop ((ji14):Int).toNat).length < 17592186044416
             ·rw [if_pos c22] at H
              have LMc22:=zm c22
              clear c22
              obtain ⟨y479,hy479⟩:∃ y_:List Int,y_=(([]:List Int) ++ ((l0_1.take ((ji13):Int).toNat).drop ((ji14):Int).toNat)):=⟨_,rfl⟩
              replace H:(if x7_2.length < 1353245080339 then (slipwayref06_Checkpoint.l0 k2 a1 (x7_2 ++ [(⟨1,a1,x8_2,a0_2,y475,y479,([]:List (S55))⟩:S42)]) (wrap64 (x8_2 + 1)) l0_0 l0_1 a0_2) else (none))=some (r1,r2):=by first|(rw [hy479];with_reducible exact H)|(have H2_:=(Option.bind_some _ _).symm.trans H;rw [hy479];with_reducible exact H2_)|(have H2_:=(Option.bind_some _ _).symm.trans H;with_reducible exact H2_)|with_reducible exact H|(rw [hy479];exact H)|exact H
              have Ny479:=zm hy479
              clear hy479
              by_cases c23:x7_2.length < 1353245080339
              ·rw [if_pos c23] at H
               have LMc23:=zm c23
               clear c23
               obtain ⟨y482,hy482⟩:∃ y_:List (S42),y_=(x7_2 ++ [(⟨1,a1,x8_2,a0_2,y475,y479,([]:List (S55))⟩:S42)]):=⟨_,rfl⟩
               replace H:(slipwayref06_Checkpoint.l0 k2 a1 y482 (wrap64 (x8_2 + 1)) l0_0 l0_1 a0_2)=some (r1,r2):=by first|(rw [hy482];with_reducible exact H)|(have H2_:=(Option.bind_some _ _).symm.trans H;rw [hy482];with_reducible exact H2_)|(have H2_:=(Option.bind_some _ _).symm.trans H;with_reducible exact H2_)|with_reducible exact H|(rw [hy482];exact H)|exact H
               have Ny482:=zm hy482
               clear hy482
               have H':=zm H
               clear H
               have hcz24_0:wr.cell? ⟨gb471,0,none⟩=some (.slice A0_0 l0_0.length c0_0):=(blk_cell BK471.out 0).trans rfl
               have hcz24_1:wr.cell? ⟨gb471,1,none⟩=some (.slice A0_1 l0_1.length c0_1):=(blk_cell BK471.out 1).trans rfl
               have hcz24_2:wr.cell? ⟨gb471,2,none⟩=some (.int .i64 a0_2):=(blk_cell BK471.out 2).trans rfl
               have hfz24_0:=blk_frozen BK471.out 0
               have hfz24_1:=blk_frozen BK471.out 1
               have hfz24_2:=blk_frozen BK471.out 2
               try go_wp2_with (first|((with_reducible refine gate_callee (f:=34) rfl ?_);refine goesL_ (some 26) rfl rfl Try.func34 (by kernel_rfl) rfl #[.int .i64 (l0_0.length:Int)] rfl (by (try simp only [List.map_toArray,List.map_cons,List.map_nil]);first|done|rfl|(simp only [List.length_drop,List.length_take];rfl)) ?_;(with_reducible refine (slipwayref06_Parts.calls (l0_0.length:Int) t473 _ A11.out).mono ?_);rintro e w' ⟨rfl,⟨nd,rfl⟩⟩;refine ⟨_,rfl,?_⟩))
               (try (rw [drewN_self wr];generalize hq_:World.drewN wr _=wr;have n0_:Aside0 (Kd.S k42 42 wr w.heap.size (fun _=>True) u7 x7_2):=⟨by rw [← hq_];exact (by (with_reducible repeat (first|apply Kd.S_alloc|apply Kd.S_drewN|apply Kd.S_drew));exact HO_7.out)⟩;have n1_:Aside0 (wr.heap[gb471]?=some (.cells #[.slice A0_0 l0_0.length c0_0,.slice A0_1 l0_1.length c0_1,.int .i64 a0_2] 25 (0,0))):=⟨by rw [← hq_];exact (by (with_reducible repeat (first|refine zbN ?_ _|refine zbD ?_|refine zbA ?_ _));exact BK471.out)⟩;have n2_:Aside0 (Below w.heap.size w wr):=⟨by rw [← hq_];exact (by repeat (first|(with_reducible first|exact HB.out|apply zlA|apply zlN|apply zlD|refine zlS ?_ GE471.out)|exact HB.out))⟩;clear HO_7 BK471 HB hq_;have HO_7:=n0_;have BK471:=n1_;have HB:=n2_;clear n0_ n1_ n2_))
               have n0_:=zm (Kd.S_drew HO_7.out)
               have n1_:=zm (zbD BK471.out)
               have n2_:=zm (zlD HB.out)
               clear HO_7 BK471 HB
               have HO_7:=n0_
               have BK471:=n1_
               have HB:=n2_
               clear n0_ n1_ n2_
               obtain ⟨i026,hi026,_,hsz26,_⟩:=info_parts info4
               obtain ⟨A26,hcut26,hA26,hC26⟩:=print_mid_of (P:=Try.prog) Value.bool false 22 4 .i64 .i64 Try.underlying22 hi026 hsz26 A0_0 c0_0 l0_0 (ji14) (ji13) (of_decide_eq_true (by first|(with_reducible assumption)|assumption)) (by first|omega|exact of_decide_eq_true (by first|(with_reducible assumption)|assumption)) (of_decide_eq_true (by first|(with_reducible assumption)|assumption)) HC0_0.out
               have HR474:=zm (Kd.C_of_reads (h1:=fun _=>rfl) (hA26 _ (Kd.reads_of_C HR0_0.out)))
               have HC474:=zm hC26
               clear hA26 hC26 hi026 hsz26
               obtain ⟨i027,hi027,_,hsz27,_⟩:=info_parts info2
               obtain ⟨A27,hcut27,hA27,hC27⟩:=print_mid_of (P:=Try.prog) (Value.int .i64) 0 23 2 .i64 .i64 Try.underlying23 hi027 hsz27 A0_1 c0_1 l0_1 (ji14) (ji13) (of_decide_eq_true (by first|(with_reducible assumption)|assumption)) (by first|omega|exact of_decide_eq_true (by first|(with_reducible assumption)|assumption)) (of_decide_eq_true (by first|(with_reducible assumption)|assumption)) HC0_1.out
               have HR478:=zm (Kd.C_of_reads (h1:=fun _=>rfl) (hA27 _ (Kd.reads_of_C HR0_1.out)))
               have HC478:=zm hC27
               clear hA27 hC27 hi027 hsz27
               refine start_ (n:=21) (S:=fun w'=>w'.cell? ⟨gb471,0,none⟩=some (.slice A0_0 l0_0.length c0_0)∧w'.cell? ⟨gb471,1,none⟩=some (.slice A0_1 l0_1.length c0_1)∧w'.cell? ⟨gb471,2,none⟩=some (.int .i64 a0_2)) (ds:=[]) #[false,false,false,false,false,false,false,false,false,false,false,false,false,false,false,false,false,false,false,false,false] (by kernel_rfl) rfl rfl ⟨(blk_cell BK471.out 0).trans rfl,(blk_cell BK471.out 1).trans rfl,(blk_cell BK471.out 2).trans rfl⟩ (fun hHeld=>?_);refine with_tabW slipwayref06_Checkpoint.tab12 slipwayref06_Checkpoint.bits12 (fun HT_ HW_=>?_)
               generalize wr.drew=w25 at HO_7 BK471 HB HR474 HR478 hHeld ⊢
               refine pure_ (i:=0) (N:=some 38) (v:=?_) (a':=?_) #[true,false,false,false,false,false,false,false,false,false,false,false,false,false,false,false,false,false,false,false,false] rfl rfl (any_of HT_.out (by kernel_rfl)) (fun _ _ _ h=>h) (Or.inl ⟨by rfl,?_⟩) ?_ ?_
               rotate_left
               ·intro w'
                go_simp
                with_reducible rfl
               rotate_left
               ·simp only [Act.put,List.setIfInBounds_toArray,List.set_cons_zero,List.set_cons_succ,i64_w,i32_w]
                rfl
               refine pure_ (i:=1) (N:=some 39) (v:=?_) (a':=?_) #[true,true,false,false,false,false,false,false,false,false,false,false,false,false,false,false,false,false,false,false,false] rfl rfl (any_of HT_.out (by kernel_rfl)) (fun _ _ _ h=>h) (Or.inl ⟨by rfl,?_⟩) ?_ ?_
               rotate_left
               ·intro w'
                go_simp
                with_reducible rfl
               rotate_left
               ·simp only [Act.put,List.setIfInBounds_toArray,List.set_cons_zero,List.set_cons_succ,i64_w,i32_w]
                rfl
               refine pure_ (i:=2) (N:=some 40) (v:=?_) (a':=?_) #[true,true,true,false,false,false,false,false,false,false,false,false,false,false,false,false,false,false,false,false,false] rfl rfl (any_of HT_.out (by kernel_rfl)) (fun _ _ _ h=>h) (Or.inl ⟨by rfl,?_⟩) ?_ ?_
               rotate_left
               ·intro w'
                go_simp
                with_reducible rfl
               rotate_left
               ·simp only [Act.put,List.setIfInBounds_toArray,List.set_cons_zero,List.set_cons_succ,i64_w,i32_w]
                rfl
               refine pure_ (i:=3) (N:=some 41) (v:=?_) (a':=?_) #[true,true,true,true,false,false,false,false,false,false,false,false,false,false,false,false,false,false,false,false,false] rfl rfl (any_of HT_.out (by kernel_rfl)) (fun _ _ _ h=>h) (Or.inl ⟨by rfl,?_⟩) ?_ ?_
               rotate_left
               ·intro w'
                go_simp
                with_reducible rfl
               rotate_left
               ·simp only [Act.put,List.setIfInBounds_toArray,List.set_cons_zero,List.set_cons_succ,i64_w,i32_w]
                rfl
               refine pure_ (i:=5) (N:=some 43) (v:=?_) (a':=?_) #[true,true,true,true,false,true,false,false,false,false,false,false,false,false,false,false,false,false,false,false,false] rfl rfl (any_of HT_.out (by kernel_rfl)) (fun _ _ _ h=>h) (Or.inl ⟨by rfl,?_⟩) ?_ ?_
               rotate_left
               ·intro w'
                go_simp
                with_reducible rfl
               rotate_left
               ·simp only [Act.put,List.setIfInBounds_toArray,List.set_cons_zero,List.set_cons_succ,i64_w,i32_w]
                rfl
               refine pure_ (i:=7) (N:=some 45) (v:=?_) (a':=?_) #[true,true,true,true,false,true,false,true,false,false,false,false,false,false,false,false,false,false,false,false,false] rfl rfl (any_of HT_.out (by kernel_rfl)) (fun _ _ _ h=>h) (Or.inl ⟨by rfl,?_⟩) ?_ ?_
               rotate_left
               ·intro w'
                go_simp
                with_reducible rfl
               rotate_left
               ·simp only [Act.put,List.setIfInBounds_toArray,List.set_cons_zero,List.set_cons_succ,i64_w,i32_w]
                rfl
               refine pure_ (i:=8) (N:=some 46) (v:=?_) (a':=?_) #[true,true,true,true,false,true,false,true,true,false,false,false,false,false,false,false,false,false,false,false,false] rfl rfl (any_of HT_.out (by kernel_rfl)) (fun _ _ _ h=>h) (Or.inl ⟨by rfl,?_⟩) ?_ ?_
               rotate_left
               ·intro w'
                go_simp
                with_reducible rfl
               rotate_left
               ·simp only [Act.put,List.setIfInBounds_toArray,List.set_cons_zero,List.set_cons_succ,i64_w,i32_w]
                rfl
               refine pure_ (i:=11) (N:=some 49) (v:=?_) (a':=?_) #[true,true,true,true,false,true,false,true,true,false,false,true,false,false,false,false,false,false,false,false,false] rfl rfl (any_of HT_.out (by kernel_rfl)) (fun _ _ _ h=>h) (Or.inl ⟨by rfl,?_⟩) ?_ ?_
               rotate_left
               ·intro w'
                go_simp
                with_reducible rfl
               rotate_left
               ·simp only [Act.put,List.setIfInBounds_toArray,List.set_cons_zero,List.set_cons_succ,i64_w,i32_w]
                rfl
               refine pure_ (i:=13) (N:=some 51) (v:=?_) (a':=?_) #[true,true,true,true,false,true,false,true,true,false,false,true,false,true,false,false,false,false,false,false,false] rfl rfl (any_of HT_.out (by kernel_rfl)) (fun _ _ _ h=>h) (Or.inl ⟨by rfl,?_⟩) ?_ ?_
               rotate_left
               ·intro w'
                go_simp
                with_reducible rfl
               rotate_left
               ·simp only [Act.put,List.setIfInBounds_toArray,List.set_cons_zero,List.set_cons_succ,i64_w,i32_w]
                rfl
               refine pure_ (i:=14) (N:=some 52) (v:=?_) (a':=?_) #[true,true,true,true,false,true,false,true,true,false,false,true,false,true,true,false,false,false,false,false,false] rfl rfl (any_of HT_.out (by kernel_rfl)) (fun _ _ _ h=>h) (Or.inl ⟨by rfl,?_⟩) ?_ ?_
               rotate_left
               ·intro w'
                go_simp
                with_reducible rfl
               rotate_left
               ·simp only [Act.put,List.setIfInBounds_toArray,List.set_cons_zero,List.set_cons_succ,i64_w,i32_w]
                rfl
               refine take_ (i:=4) (N:=some 42) (v:=?_) (a':=?_) #[true,true,true,true,true,true,false,true,true,false,false,true,false,true,true,false,false,false,false,false,false] rfl rfl (take_ofW HT_.out HW_.out (by kernel_rfl)) (fun _ _ _ h=>h) (Or.inl ⟨by rfl,?_⟩) hHeld ?_ ?_
               rotate_left
               ·rintro w' ⟨s0,s1,s2⟩
                go_simp
                with_reducible rfl
               rotate_left
               ·simp only [Act.put,List.setIfInBounds_toArray,List.set_cons_zero,List.set_cons_succ,i64_w,i32_w]
                rfl
               refine take_ (i:=6) (N:=some 44) (v:=?_) (a':=?_) #[true,true,true,true,true,true,true,true,true,false,false,true,false,true,true,false,false,false,false,false,false] rfl rfl (take_ofW HT_.out HW_.out (by kernel_rfl)) (fun _ _ _ h=>h) (Or.inl ⟨by rfl,?_⟩) hHeld ?_ ?_
               rotate_left
               ·rintro w' ⟨s0,s1,s2⟩
                go_simp
                with_reducible rfl
               rotate_left
               ·simp only [Act.put,List.setIfInBounds_toArray,List.set_cons_zero,List.set_cons_succ,i64_w,i32_w]
                rfl
               refine pure_ (i:=9) (N:=some 47) (v:=?_) (a':=?_) #[true,true,true,true,true,true,true,true,true,true,false,true,false,true,true,false,false,false,false,false,false] rfl rfl (any_of HT_.out (by kernel_rfl)) (fun _ _ _ h=>h) (Or.inl ⟨by rfl,?_⟩) ?_ ?_
               rotate_left
               ·intro w'
                go_simp
                with_reducible rfl
               rotate_left
               ·simp only [Act.put,List.setIfInBounds_toArray,List.set_cons_zero,List.set_cons_succ,i64_w,i32_w]
                rfl
               refine take_ (i:=12) (N:=some 50) (v:=?_) (a':=?_) #[true,true,true,true,true,true,true,true,true,true,false,true,true,true,true,false,false,false,false,false,false] rfl rfl (take_ofW HT_.out HW_.out (by kernel_rfl)) (fun _ _ _ h=>h) (Or.inl ⟨by rfl,?_⟩) hHeld ?_ ?_
               rotate_left
               ·rintro w' ⟨s0,s1,s2⟩
                go_simp
                with_reducible rfl
               rotate_left
               ·simp only [Act.put,List.setIfInBounds_toArray,List.set_cons_zero,List.set_cons_succ,i64_w,i32_w]
                rfl
               refine pure_ (i:=15) (N:=some 53) (v:=?_) (a':=?_) #[true,true,true,true,true,true,true,true,true,true,false,true,true,true,true,true,false,false,false,false,false] rfl rfl (any_of HT_.out (by kernel_rfl)) (fun _ _ _ h=>h) (Or.inl ⟨by rfl,?_⟩) ?_ ?_
               rotate_left
               ·intro w'
                go_simp
                with_reducible rfl
               rotate_left
               ·simp only [Act.put,List.setIfInBounds_toArray,List.set_cons_zero,List.set_cons_succ,i64_w,i32_w]
                rfl
               refine one_ (i:=10) (N:=some 48) #[true,true,true,true,true,true,true,true,true,true,true,true,true,true,true,true,false,false,false,false,false] rfl rfl (one_of HT_.out (by kernel_rfl)) (by decide) (fun K hK=>?_)
               refine Kd.R_append_rows_step Kd.bool (w0:=w) w.heap.size (by rfl) (.const (.slice none 0 0)) (.tmp 47) 22 4 (.bool false) 1 rfl Try.underlying22 info4 rfl (by decide) (by omega) (.slice none 0 0) ([]:List Bool) ((l0_0.take ((ji13):Int).toNat).drop ((ji14):Int).toNat) _ _ _ (fun _=>True) (fun _=>False) rfl rfl ?aO ?aR (fun _ _ h=>h) (fun _ h=>h.elim) ?aF ?aB ?aS ?aL ?_
               (case aR=>first|(refine Eq.mp (congrArg (fun n_=>Kd.C _ _ _ n_ _) (show ((l0_0.take ((ji13):Int).toNat).drop ((ji14):Int).toNat).length=((ji13).toNat - (ji14).toNat) from (by rw [List.length_drop,List.length_take];have h_:((ji13):Int)≤(l0_0.length:Int):=of_decide_eq_true (by first|(with_reducible assumption)|assumption);omega))) ?_;repeat (first|exact (Kd.C_below HR474.out HB.out)|(with_reducible refine Kd.C_alloc ?_ _)|(with_reducible refine Kd.C_drewN ?_ _)|(with_reducible refine Kd.C_drew ?_)))|(repeat (first|exact (Kd.C_below HR474.out HB.out)|(with_reducible refine Kd.C_alloc ?_ _)|(with_reducible refine Kd.C_drewN ?_ _)|(with_reducible refine Kd.C_drew ?_))))
               (case aB=>exact (by repeat (first|(with_reducible first|exact HB.out|apply zlA|apply zlN|apply zlD|refine zlS ?_ GE471.out)|exact HB.out)))
               (case aF=>exact (fun _ _=>trivial))
               (case aO=>exact ((Kd.R_nil _ _ _ _ (fun _=>True))))
               (case aS=>exact (below_size (by repeat (first|(with_reducible first|exact HB.out|apply zlA|apply zlN|apply zlD|refine zlS ?_ GE471.out)|exact HB.out))))
               (case aL=>have:=LMc18.out;have hlx_:=(show ((l0_0.take ((ji13):Int).toNat).drop ((ji14):Int).toNat).length=((ji13).toNat - (ji14).toNat) from (by rw [List.length_drop,List.length_take];have h_:((ji13):Int)≤(l0_0.length:Int):=of_decide_eq_true (by first|(with_reducible assumption)|assumption);omega));omega)
               intro v476 w28 ho hb hg hat
               rw [← Ny475.out] at ho
               have n0_:=zm (Kd.S_after (Kd.S_apart_nil (by (with_reducible repeat (first|apply Kd.S_alloc|apply Kd.S_drewN|apply Kd.S_drew));exact HO_7.out)) hg hat)
               have n1_:=zm (blk_grown (g:=gb471) (o:=.cells #[.slice A0_0 l0_0.length c0_0,.slice A0_1 l0_1.length c0_1,.int .i64 a0_2] 25 (0,0)) (by (with_reducible repeat (first|refine zbN ?_ _|refine zbD ?_|refine zbA ?_ _));exact BK471.out) hg (by simp [Value.ownBlock]))
               have n2_:=zm (hb)
               have n3_:=zm (ho)
               clear HO_7 BK471 HB
               have HO_7:=n0_
               have BK471:=n1_
               have HB:=n2_
               have HO477:=n3_
               clear n0_ n1_ n2_ n3_ ho hb hg hat
               refine hK.out _ _ ⟨(blk_cell BK471.out 0).trans rfl,(blk_cell BK471.out 1).trans rfl,(blk_cell BK471.out 2).trans rfl⟩ (fun hHeld=>?_)
               clear hK K
               refine norm_ (a':=?_) ?_ ?_
               rotate_left
               ·show Act.put _ (some 48) _=_
                simp only [Act.put,List.setIfInBounds_toArray,List.set_cons_zero,List.set_cons_succ,i64_w,i32_w]
                rfl
               refine one_ (i:=16) (N:=some 54) #[true,true,true,true,true,true,true,true,true,true,true,true,true,true,true,true,true,false,false,false,false] rfl rfl (one_of HT_.out (by kernel_rfl)) (by decide) (fun K hK=>?_)
               refine Kd.R_append_rows_step (Kd.int .i64) (w0:=w) w.heap.size (by rfl) (.const (.slice none 0 0)) (.tmp 53) 23 2 (.int .i64 0) 8 rfl Try.underlying23 info2 rfl (by decide) (by omega) (.slice none 0 0) ([]:List Int) ((l0_1.take ((ji13):Int).toNat).drop ((ji14):Int).toNat) _ _ _ (fun _=>True) (fun _=>False) rfl rfl ?aO ?aR (fun _ _ h=>h) (fun _ h=>h.elim) ?aF ?aB ?aS ?aL ?_
               (case aR=>first|(refine Eq.mp (congrArg (fun n_=>Kd.C _ _ _ n_ _) (show ((l0_1.take ((ji13):Int).toNat).drop ((ji14):Int).toNat).length=((ji13).toNat - (ji14).toNat) from (by rw [List.length_drop,List.length_take];have h_:((ji13):Int)≤(l0_1.length:Int):=of_decide_eq_true (by first|(with_reducible assumption)|assumption);omega))) ?_;repeat (first|exact (Kd.C_below HR478.out HB.out)|(with_reducible refine Kd.C_alloc ?_ _)|(with_reducible refine Kd.C_drewN ?_ _)|(with_reducible refine Kd.C_drew ?_)))|(repeat (first|exact (Kd.C_below HR478.out HB.out)|(with_reducible refine Kd.C_alloc ?_ _)|(with_reducible refine Kd.C_drewN ?_ _)|(with_reducible refine Kd.C_drew ?_))))
               (case aB=>exact (by repeat (first|(with_reducible first|exact HB.out|apply zlA|apply zlN|apply zlD|refine zlS ?_ GE471.out)|exact HB.out)))
               (case aF=>exact (fun _ _=>trivial))
               (case aO=>exact ((Kd.R_nil _ _ _ _ (fun _=>True))))
               (case aS=>exact (below_size (by repeat (first|(with_reducible first|exact HB.out|apply zlA|apply zlN|apply zlD|refine zlS ?_ GE471.out)|exact HB.out))))
               (case aL=>have:=LMc22.out;have hlx_:=(show ((l0_1.take ((ji13):Int).toNat).drop ((ji14):Int).toNat).length=((ji13).toNat - (ji14).toNat) from (by rw [List.length_drop,List.length_take];have h_:((ji13):Int)≤(l0_1.length:Int):=of_decide_eq_true (by first|(with_reducible assumption)|assumption);omega));omega)
               intro v480 w29 ho hb hg hat
               rw [← Ny479.out] at ho
               have n0_:=zm (Kd.S_after (Kd.S_apart_nil (by (with_reducible repeat (first|apply Kd.S_alloc|apply Kd.S_drewN|apply Kd.S_drew));exact HO_7.out)) hg hat)
               have n1_:=zm (blk_grown (g:=gb471) (o:=.cells #[.slice A0_0 l0_0.length c0_0,.slice A0_1 l0_1.length c0_1,.int .i64 a0_2] 25 (0,0)) (by (with_reducible repeat (first|refine zbN ?_ _|refine zbD ?_|refine zbA ?_ _));exact BK471.out) hg (by simp [Value.ownBlock]))
               have n2_:=zm (Kd.R_grown (by (with_reducible repeat (first|apply zrA|apply zrN|apply zrD));exact HO477.out) hg (fun _ _=>by simp [Value.ownBlock]))
               have n3_:=zm (hb)
               have n4_:=zm (ho)
               clear HO_7 BK471 HO477 HB
               have HO_7:=n0_
               have BK471:=n1_
               have HO477:=n2_
               have HB:=n3_
               have HO481:=n4_
               clear n0_ n1_ n2_ n3_ n4_ ho hb hg hat
               obtain ⟨Ao30,co30,eo30⟩:=Kd.R_slice HO481.out
               (first|subst eo30|(injection eo30 with f1_ f2_ f3_;have f4_:=f1_.symm;have f5_:=f3_.symm;clear f1_ f2_ f3_;subst f4_;subst f5_))
               obtain ⟨Ao31,co31,eo31⟩:=Kd.R_slice HO477.out
               (first|subst eo31|(injection eo31 with f1_ f2_ f3_;have f4_:=f1_.symm;have f5_:=f3_.symm;clear f1_ f2_ f3_;subst f4_;subst f5_))
               refine hK.out _ _ ⟨(blk_cell BK471.out 0).trans rfl,(blk_cell BK471.out 1).trans rfl,(blk_cell BK471.out 2).trans rfl⟩ (fun hHeld=>?_)
               clear hK K
               refine norm_ (a':=?_) ?_ ?_
               rotate_left
               ·show Act.put _ (some 54) _=_
                simp only [Act.put,List.setIfInBounds_toArray,List.set_cons_zero,List.set_cons_succ,i64_w,i32_w]
                rfl
               refine pure_ (i:=17) (N:=some 55) (v:=?_) (a':=?_) #[true,true,true,true,true,true,true,true,true,true,true,true,true,true,true,true,true,true,false,false,false] rfl rfl (any_of HT_.out (by kernel_rfl)) (fun _ _ _ h=>h) (Or.inl ⟨by rfl,?_⟩) ?_ ?_
               rotate_left
               ·intro w'
                go_simp
                with_reducible rfl
               rotate_left
               ·simp only [Act.put,List.setIfInBounds_toArray,List.set_cons_zero,List.set_cons_succ,i64_w,i32_w]
                rfl
               refine one_ (i:=18) (N:=some 56) #[true,true,true,true,true,true,true,true,true,true,true,true,true,true,true,true,true,true,true,false,false] rfl rfl (one_of HT_.out (by kernel_rfl)) (by decide) (fun K hK=>?_)
               refine value_ (w1:=?_) (v:=?_) (by rfl) rfl ?_ ?_
               rotate_left 2
               ·go_simp
                constructor
                ·rfl
                ·rfl
               refine hK.out _ _ ⟨(blk_cell (zbA BK471.out _) 0).trans rfl,(blk_cell (zbA BK471.out _) 1).trans rfl,(blk_cell (zbA BK471.out _) 2).trans rfl⟩ (fun hHeld=>?_)
               clear hK K
               refine norm_ (a':=?_) ?_ ?_
               rotate_left
               ·show Act.put _ (some 56) _=_
                simp only [Act.put,List.setIfInBounds_toArray,List.set_cons_zero,List.set_cons_succ,i64_w,i32_w]
                rfl
               refine one_ (i:=19) (N:=some 57) #[true,true,true,true,true,true,true,true,true,true,true,true,true,true,true,true,true,true,true,true,false] rfl rfl (one_of HT_.out (by kernel_rfl)) (by decide) (fun K hK=>?_)
               refine Kd.S_append_step k42 (w0:=w) w.heap.size (by rfl) (.tmp 38) (.tmp 56) 43 42 (.agg #[(.int .i64 0),(.int .i64 0),(.int .i64 0),(.int .i64 0),(.slice none 0 0),(.slice none 0 0),(.slice none 0 0)]) 104 rfl Try.underlying43 info42 rfl (by decide) (by omega) u7 x7_2 (⟨1,a1,x8_2,a0_2,y475,y479,([]:List (S55))⟩:S42) [.int .i64 1,.int .i64 a1,.int .i64 x8_2,.int .i64 a0_2,.slice Ao31 y475.length co31,.slice Ao30 y479.length co30,.slice none 0 0] (fun _=>True) (fun k_=>some k_=(.slice Ao31 y475.length co31:Value).ownBlock∨some k_=(.slice Ao30 y479.length co30:Value).ownBlock) rfl rfl ?aP (fun k_ hk_=>hk_.elim (fun h_=>((Kd.R_mono (ok':=fun k_=>((fun _=>True)) k_∧some k_≠(u7:Value).ownBlock) (Kd.R_apart' (HO477.out) (Kd.S_typed HO_7.out) (by decide)) (fun k_ hk=>⟨trivial,hk.2⟩))).1 k_ h_.symm) (fun h_=>((Kd.R_mono (ok':=fun k_=>((fun _=>True)) k_∧some k_≠(u7:Value).ownBlock) (Kd.R_apart' (HO481.out) (Kd.S_typed HO_7.out) (by decide)) (fun k_ hk=>⟨trivial,hk.2⟩))).1 k_ h_.symm)) ?aF ?aO ?aB ?aS ?aL ?_
               (case aP=>exact k42_mkM _ _ _ (⟨1,a1,x8_2,a0_2,y475,y479,([]:List (S55))⟩:S42) (Kd.R_mono (Kd.R_tight rfl (Kd.R_mono (ok':=fun k_=>((fun _=>True)) k_∧some k_≠(u7:Value).ownBlock) (Kd.R_apart' (HO477.out) (Kd.S_typed HO_7.out) (by decide)) (fun k_ hk=>⟨trivial,hk.2⟩))) (fun _ h_=>Or.inl h_)) (Kd.R_mono (Kd.R_tight rfl (Kd.R_mono (ok':=fun k_=>((fun _=>True)) k_∧some k_≠(u7:Value).ownBlock) (Kd.R_apart' (HO481.out) (Kd.S_typed HO_7.out) (by decide)) (fun k_ hk=>⟨trivial,hk.2⟩))) (fun _ h_=>Or.inr (h_))) (Kd.R_nil _ _ _ _ _))
               (case aB=>exact (by repeat (first|(with_reducible first|exact HB.out|apply zlA|apply zlN|apply zlD|refine zlS ?_ GE471.out)|exact HB.out)))
               (case aF=>exact (fun _ _=>trivial))
               (case aO=>exact (by (with_reducible repeat (first|apply Kd.S_alloc|apply Kd.S_drewN|apply Kd.S_drew));exact Kd.S_mono HO_7.out (fun k_ hk=>⟨trivial,fun e_=>e_.elim (fun h_=>hk.1.2 h_) (fun h_=>hk.2 h_)⟩)))
               (case aS=>exact (below_size (by repeat (first|(with_reducible first|exact HB.out|apply zlA|apply zlN|apply zlD|refine zlS ?_ GE471.out)|exact HB.out))))
               (case aL=>have:=LMc23.out;omega)
               intro v483 w32 ho hb hg hat
               rw [← Ny482.out] at ho
               have n0_:=zm (blk_grown (g:=gb471) (o:=.cells #[.slice A0_0 l0_0.length c0_0,.slice A0_1 l0_1.length c0_1,.int .i64 a0_2] 25 (0,0)) (by (with_reducible repeat (first|refine zbN ?_ _|refine zbD ?_|refine zbA ?_ _));exact BK471.out) hg (Kd.S_ne HO_7.out BK471.out (by decide)))
               have n1_:=zm (hb)
               have n2_:=zm (ho)
               clear BK471 HB HO_7 HO477 HO481
               have BK471:=n0_
               have HB:=n1_
               have HO484:=n2_
               clear n0_ n1_ n2_ ho hb hg hat
               refine hK.out _ _ ⟨(blk_cell BK471.out 0).trans rfl,(blk_cell BK471.out 1).trans rfl,(blk_cell BK471.out 2).trans rfl⟩ (fun hHeld=>?_)
               clear hK K
               refine norm_ (a':=?_) ?_ ?_
               rotate_left
               ·show Act.put _ (some 57) _=_
                simp only [Act.put,List.setIfInBounds_toArray,List.set_cons_zero,List.set_cons_succ,i64_w,i32_w]
                rfl
               refine pure_ (i:=20) (N:=some 7) (v:=?_) (a':=?_) #[true,true,true,true,true,true,true,true,true,true,true,true,true,true,true,true,true,true,true,true,true] rfl rfl (any_of HT_.out (by kernel_rfl)) (fun _ _ _ h=>h) (Or.inl ⟨by rfl,?_⟩) ?_ ?_
               rotate_left
               ·intro w'
                go_simp
                with_reducible rfl
               rotate_left
               ·simp only [Act.put,List.setIfInBounds_toArray,List.set_cons_zero,List.set_cons_succ,i64_w,i32_w]
                rfl
               refine done_ (done_of HT_.out (by kernel_rfl)) ?_
               try go_wp2
               go_roundg k2
               case measure=>have:=HJ4.out;have:=HK2.out;omega
               case rel=>exact ⟨(y482),(wrap64 (x8_2 + 1)),(by first|rfl|(simp;done)|(simp [*];done)),H',⟨by have:=HJ4.out;have:=HK2.out;omega⟩,⟨by (with_reducible repeat (first|apply Kd.S_alloc|apply Kd.S_drewN|apply Kd.S_drew));exact HO484.out⟩,⟨by (with_reducible repeat (first|refine zbN ?_ _|refine zbD ?_|refine zbA ?_ _));exact BK471.out⟩,⟨by repeat (first|(with_reducible first|exact HB.out|apply zlA|apply zlN|apply zlD|refine zlS ?_ GE471.out)|exact HB.out)⟩⟩
              ·rw [if_neg c23] at H
               exact absurd H (by simp)
             ·rw [if_neg c22] at H
              exact absurd H (by simp)
            ·rw [if_neg c21] at H
             exact absurd H (by simp)
           ·rw [if_neg c18] at H
            exact absurd H (by simp)
          ·rw [if_neg c17] at H
           exact absurd H (by simp)
         ·rw [if_neg c16] at H
          exact absurd H (by simp)
        ·rw [if_neg c15] at H
         exact absurd H (by simp)
       ·rw [if_neg c12] at H
        have c12b0:decide (x8_2 < t473)=false:=decide_eq_false c12
        clear c12
        simp only [Option.some.injEq,Prod.mk.injEq] at H
        obtain ⟨rfl,rfl⟩:=H
        have hcz33_0:wr.cell? ⟨gb471,0,none⟩=some (.slice A0_0 l0_0.length c0_0):=(blk_cell BK471.out 0).trans rfl
        have hcz33_1:wr.cell? ⟨gb471,1,none⟩=some (.slice A0_1 l0_1.length c0_1):=(blk_cell BK471.out 1).trans rfl
        have hcz33_2:wr.cell? ⟨gb471,2,none⟩=some (.int .i64 a0_2):=(blk_cell BK471.out 2).trans rfl
        have hfz33_0:=blk_frozen BK471.out 0
        have hfz33_1:=blk_frozen BK471.out 1
        have hfz33_2:=blk_frozen BK471.out 2
        go_wp2_with (first|((with_reducible refine gate_callee (f:=34) rfl ?_);refine goesL_ (some 26) rfl rfl Try.func34 (by kernel_rfl) rfl #[.int .i64 (l0_0.length:Int)] rfl (by (try simp only [List.map_toArray,List.map_cons,List.map_nil]);first|done|rfl|(simp only [List.length_drop,List.length_take];rfl)) ?_;(with_reducible refine (slipwayref06_Parts.calls (l0_0.length:Int) t473 _ A11.out).mono ?_);rintro e w' ⟨rfl,⟨nd,rfl⟩⟩;refine ⟨_,rfl,?_⟩))
        go_ret2
        exact ⟨_,by first|rfl|(simp [errW_none,errW_some] <;> rfl)|(simp [*,errW_none,errW_some] <;> rfl),by (with_reducible repeat (first|apply Kd.S_alloc|apply Kd.S_drewN|apply Kd.S_drew));exact HO_7.out,by repeat (first|(with_reducible first|exact HB.out|apply zlA|apply zlN|apply zlD|refine zlS ?_ GE471.out)|exact HB.out)⟩
 ·rw [if_neg c4] at H
  have c4b0:(t472 == 0)=false:=beq_eq_false_iff_ne.mpr c4
  have c4b1:(t472 != 0)=true:=bne_iff_ne.mpr c4
  simp only [Option.some.injEq,Prod.mk.injEq] at H
  obtain ⟨rfl,rfl⟩:=H
  go_enter Try.func28,Try.ntmps28
  go_wp2_with (first|((with_reducible refine gate_dst (N:=2) rfl ?_);refine box_event ?hg (N:=2) ?hd (cs:=#[.slice A0_0 l0_0.length c0_0,.slice A0_1 l0_1.length c0_1,.int .i64 a0_2]) (t:=25) ?hr ?_;(case hd=>rfl);(case hg=>rfl);(case hr=>first|(go_simp;done)|(go_simp;rfl));intro gb471 hg w34 hbox hb;have n0_:=zm (below_step (by repeat (first|(with_reducible first|exact HB.out|apply zlA|apply zlN|apply zlD)|exact HB.out)) hb);have n1_:=zm (hbox);have n2_:=zm ((by rw [hg];exact (below_size (by repeat (first|(with_reducible first|exact HB.out|apply zlA|apply zlN|apply zlD)|exact HB.out))):w.heap.size≤gb471));have n3_:=zm ((by rw [hg];exact (below_size (by repeat (first|(with_reducible first|exact HB.out|apply zlA|apply zlN|apply zlD)|exact HB.out))):w.heap.size≤gb471));clear HB;have HB:=n0_;have BK471:=n1_;have GW471:=n2_;have GE471:=n3_;clear n0_ n1_ n2_ n3_;clear hb hbox hg;have hcz35_0:w34.cell? ⟨gb471,0,none⟩=some (.slice A0_0 l0_0.length c0_0):=(blk_cell BK471.out 0).trans rfl;have hcz35_1:w34.cell? ⟨gb471,1,none⟩=some (.slice A0_1 l0_1.length c0_1):=(blk_cell BK471.out 1).trans rfl;have hcz35_2:w34.cell? ⟨gb471,2,none⟩=some (.int .i64 a0_2):=(blk_cell BK471.out 2).trans rfl;have hfz35_0:=blk_frozen BK471.out 0;have hfz35_1:=blk_frozen BK471.out 1;have hfz35_2:=blk_frozen BK471.out 2)|((with_reducible refine gate_callee (f:=18) rfl ?_);refine goesL_ (some 12) rfl rfl Try.func18 (by kernel_rfl) rfl #[.agg #[.slice A0_0 l0_0.length c0_0,.slice A0_1 l0_1.length c0_1,.int .i64 a0_2]] rfl (by (try simp only [List.map_toArray,List.map_cons,List.map_nil]);first|done|rfl|(simp only [List.length_drop,List.length_take];rfl)) ?_;(with_reducible refine (slipwayref06_Check.calls k _ _ l0_0 _ _ l0_1 a0_2 t472 _ ?side1 ?side2 ?side3 ?side4 A3.out).mono ?_);(case side1=>repeat (first|exact (Kd.C_below HR0_0.out HB.out)|(with_reducible refine Kd.C_alloc ?_ _)|(with_reducible refine Kd.C_drewN ?_ _)|(with_reducible refine Kd.C_drew ?_)));(case side2=>exact HC0_0.out);(case side3=>repeat (first|exact (Kd.C_below HR0_1.out HB.out)|(with_reducible refine Kd.C_alloc ?_ _)|(with_reducible refine Kd.C_drewN ?_ _)|(with_reducible refine Kd.C_drew ?_)));(case side4=>exact HC0_1.out);rintro e w36 ⟨rfl,hb⟩;refine ⟨_,rfl,?_⟩;have n0_:=zm (zbB (g:=gb471) (o:=.cells #[.slice A0_0 l0_0.length c0_0,.slice A0_1 l0_1.length c0_1,.int .i64 a0_2] 25 (0,0)) (by (with_reducible repeat (first|refine zbN ?_ _|refine zbD ?_|refine zbA ?_ _));exact BK471.out) hb);have n1_:=zm (below_step (by repeat (first|(with_reducible first|exact HB.out|apply zlA|apply zlN|apply zlD|refine zlS ?_ GE471.out)|exact HB.out)) hb);clear BK471 HB;have BK471:=n0_;have HB:=n1_;clear n0_ n1_;(try clear hb);(try clear hb2);(try clear hk);(try clear hi)))
  go_ret2
  exact ⟨_,by first|rfl|(simp [errW_none,errW_some] <;> rfl)|(simp [*,errW_none,errW_some] <;> rfl),by first|exact Kd.S_nil _ _ _ _ _|exact Kd.N_nil _ _ _ _ _|exact Kd.V_nil _ _ _ _ _|exact Kd.Q_nil _ _ _ _ _|exact Kd.R_nil _ _ _ _ _,by repeat (first|(with_reducible first|exact HB.out|apply zlA|apply zlN|apply zlD|refine zlS ?_ GE471.out)|exact HB.out)⟩
end Go.Proofs.Ytkhbmgclklmimaa.Print
end
section
namespace Go.Proofs.Ytkhbmgclklmimaa.Print
open Go.RowKit Go.Proofs.YtkhbmgclklmimaaW.PrintWords Go.Proofs.YtkhbmgclklmimaaW.PrintLast Go.Proofs.YtkhbmgclklmimaaW.PrintMore
attribute [local go_sem] max2_int min2_int max_two min_two max_three min_three max_four min_four   -- for this text's walks alone
attribute [local go_sem ↓] Go.Proofs.Ytkhbmgclklmimaa.Sem.isSome_setCell
attribute [local go_sem] Go.Instr.field Go.asAgg
set_option linter.unusedVariables false
set_option linter.unusedSimpArgs false
def api_MapRecord_36.f (l0:List (S55)):Option ((List (S55))):=(some (([]:List (S55)):List (S55))).bind fun y485=>(if y485.length + l0.length < 5864062014805 then (some (y485 ++ l0)) else (none))
set_option maxHeartbeats 8000000 in
set_option maxRecDepth 100000 in
theorem api_MapRecord_36.calls_some (a0:Addr) (c0:Nat) (l0:List (S55)) (r:List (S55)) (w:World) (hr0:Kd.C k55 w (some a0) l0.length l0) (hc0:l0.length≤c0) (h:api_MapRecord_36.f l0=some r) :
  Calls Try.prog 36 #[.slice (some a0) l0.length c0] w fun e w'=>∃ v0_:Value,e=.returned (v0_)∧Kd.R k55 55 w' w.heap.size (fun _=>True) v0_ r∧Below w.heap.size w w':=by
 have HR0:=zm hr0
 have HC0:=zm hc0
 clear hr0 hc0
 have HB:=zm (Below.refl w.heap.size w)
 have H:((some (([]:List (S55)):List (S55))).bind fun y485=>(if y485.length + l0.length < 5864062014805 then (some (y485 ++ l0)) else (none)))=some r:=h
 clear h
 obtain ⟨y485,hy485⟩:∃ y_:List (S55),y_=(([]:List (S55))):=⟨_,rfl⟩
 replace H:(if y485.length + l0.length < 5864062014805 then (some (y485 ++ l0)) else (none))=some r:=by first|(rw [hy485];with_reducible exact H)|(have H2_:=(Option.bind_some _ _).symm.trans H;rw [hy485];with_reducible exact H2_)|(have H2_:=(Option.bind_some _ _).symm.trans H;with_reducible exact H2_)|with_reducible exact H|(rw [hy485];exact H)|exact H
 have Ny485:=zm hy485
 clear hy485
 by_cases c2:y485.length + l0.length < 5864062014805
 ·rw [if_pos c2] at H
  have LMc2:=zm c2
  clear c2
  obtain ⟨y488,hy488⟩:∃ y_:List (S55),y_=(y485 ++ l0):=⟨_,rfl⟩
  replace H:(some y488)=some r:=by first|(rw [hy488];with_reducible exact H)|(have H2_:=(Option.bind_some _ _).symm.trans H;rw [hy488];with_reducible exact H2_)|(have H2_:=(Option.bind_some _ _).symm.trans H;with_reducible exact H2_)|with_reducible exact H|(rw [hy488];exact H)|exact H
  have Ny488:=zm hy488
  clear hy488
  obtain rfl:=Option.some.inj H
  have hq_:=Lib.run_eql_slice_nil (P:=Try.prog) w 34 55 (some a0) l0.length c0 0 0 Try.underlying34
  go_enter Try.func36,Try.ntmps36
  go_wp2_with (first|((with_reducible refine gate_dst (N:=5) rfl ?_);refine Kd.R_lit k55 _ 55 ?hg (N:=5) ?hd (xs:=([]:List (S55))) (inner:=[]) (ok:=fun _=>True) (okp:=fun _=>True) ?hr ?hp (fun _ hk=>hk) trivial (Below.refl _ _) (Nat.le_refl _) (by simp) ?_;(case hd=>rfl);(case hg=>rfl);(case hr=>first|(go_simp;done)|(go_simp;rfl));(case hp=>exact (Reps.none _ _));intro v486 w3 ho4 hb hg_ hnew_;clear hg_ hnew_;(first|rw [← Ny485.out] at ho4|(simp only [Int.reduceToNat] at ho4;rw [← Ny485.out] at ho4));have n0_:=zm (Kd.R_lower ho4 (below_size (by repeat (first|(with_reducible first|exact HB.out|apply zlA|apply zlN|apply zlD)|exact HB.out))));have n1_:=zm (below_step (by repeat (first|(with_reducible first|exact HB.out|apply zlA|apply zlN|apply zlD)|exact HB.out)) hb);clear HB;have HO487:=n0_;have HB:=n1_;clear n0_ n1_;clear hb ho4)|((with_reducible refine gate_builtin (b:=.append) (xs:=#[.tmp 5,.tmp 6]) rfl ?_);at_builtin;refine Kd.R_append_rows k55 (w0:=w) w.heap.size rfl (.tmp 5) (.tmp 6) 34 55 (.agg #[(.int .i64 0),(.int .i64 0),(.int .i64 0)]) 24 rfl Try.underlying34 info55 rfl (by decide) (by omega) v486 y485 l0 _ _ _ (fun _=>True) (fun _=>False) rfl rfl ?aO ?aR (fun _ _ h=>h) (fun _ h=>h.elim) ?aF ?aB ?aS ?aL ?_;(case aR=>repeat (first|exact (Kd.C_below HR0.out HB.out)|(with_reducible refine Kd.C_alloc ?_ _)|(with_reducible refine Kd.C_drewN ?_ _)|(with_reducible refine Kd.C_drew ?_)));(case aB=>exact (by repeat (first|(with_reducible first|exact HB.out|apply zlA|apply zlN|apply zlD)|exact HB.out)));(case aF=>exact (fun _ _=>trivial));(case aO=>exact (by (with_reducible repeat (first|apply zrA|apply zrN|apply zrD));exact HO487.out));(case aS=>exact (below_size (by repeat (first|(with_reducible first|exact HB.out|apply zlA|apply zlN|apply zlD)|exact HB.out))));(case aL=>have:=LMc2.out;omega);intro v489 w5 ho hb hg hat;rw [← Ny488.out] at ho;have n0_:=zm (hb);have n1_:=zm (ho);clear HB HO487;have HB:=n0_;have HO490:=n1_;clear n0_ n1_;clear ho hb hg hat))
  go_ret
  exact ⟨_,by first|rfl|(simp [errW_none,errW_some] <;> rfl)|(simp [*,errW_none,errW_some] <;> rfl),by (with_reducible repeat (first|apply zrA|apply zrN|apply zrD));exact HO490.out,by repeat (first|(with_reducible first|exact HB.out|apply zlA|apply zlN|apply zlD)|exact HB.out)⟩
 ·rw [if_neg c2] at H
  exact absurd H (by simp)
theorem api_MapRecord_36.calls (A0:Option Addr) (c0:Nat) (l0:List (S55)) (r:List (S55)) (w:World) (hr0:Kd.C k55 w A0 l0.length l0) (hc0:l0.length≤c0) (h:api_MapRecord_36.f l0=some r) :
  Calls Try.prog 36 #[.slice A0 l0.length c0] w fun e w'=>∃ v0_:Value,e=.returned (v0_)∧Kd.R k55 55 w' w.heap.size (fun _=>True) v0_ r∧Below w.heap.size w w':=by
 rcases A0 with _|a0
 ·have hl:l0=[]:=by
   rcases l0 with _|⟨x,l⟩
   ·rfl
   ·obtain ⟨ad,he,_⟩:=hr0.2.2 (by simp)
    cases he
  subst hl
  have hrr:r=[]:=by
   have h2:api_MapRecord_36.f []=some []:=by first|decide|rfl|(simp [api_MapRecord_36.f];done)
   rw [h2] at h
   exact (Option.some.inj h).symm
  subst hrr
  have HB:=zm (Below.refl w.heap.size w)
  clear h hr0 hc0
  have hq_:=Lib.run_eql_slice_nil (P:=Try.prog) w 34 55 none 0 c0 0 0 Try.underlying34
  go_enter Try.func36,Try.ntmps36
  go_wp2
  go_ret
  exact ⟨_,rfl,Kd.R_nil _ _ _ _ _,HB.out⟩
 ·exact api_MapRecord_36.calls_some a0 c0 l0 r w hr0 hc0 h
def mapjnl_Records_1.f (k:Nat) (a0_0:Int) (a0_1:Int) (a0_2:Int):Option (Bool):=(mapjnl_record.f k a0_0 a0_1 a0_2).bind fun t492=>(some (!t492))
set_option maxHeartbeats 8000000 in
set_option maxRecDepth 100000 in
theorem mapjnl_Records_1.calls (k:Nat) (a0_0:Int) (a0_1:Int) (a0_2:Int) (r:Bool) (w:World) (h:mapjnl_Records_1.f k a0_0 a0_1 a0_2=some r) :
  Calls Try.prog 69 #[.agg #[.int .i64 a0_0,.int .i64 a0_1,.int .i64 a0_2]] w fun e w'=>e=.returned (.bool r)∧Below w.heap.size w w':=by
 have hu55:=Try.underlying55
 have HB:=zm (Below.refl w.heap.size w)
 have H:((mapjnl_record.f k a0_0 a0_1 a0_2).bind fun t492=>(some (!t492)))=some r:=h
 clear h
 replace H:=Option.bind_eq_some_iff.mp H
 obtain ⟨t492,A20,H⟩:=H
 replace H:(some (!t492))=some r:=H
 have A2:=zm A20
 clear A20
 obtain rfl:=Option.some.inj H
 go_enter Try.func69,Try.ntmps69
 go_wp2_with (first|((with_reducible refine gate_dst (N:=1) rfl ?_);refine box_event ?hg (N:=1) ?hd (cs:=#[.int .i64 a0_0,.int .i64 a0_1,.int .i64 a0_2]) (t:=55) ?hr ?_;(case hd=>rfl);(case hg=>rfl);(case hr=>first|(go_simp;done)|(go_simp;rfl));intro gb491 hg w3 hbox hb;have n0_:=zm (below_step (by repeat (first|(with_reducible first|exact HB.out|apply zlA|apply zlN|apply zlD)|exact HB.out)) hb);have n1_:=zm (hbox);have n2_:=zm ((by rw [hg];exact (below_size (by repeat (first|(with_reducible first|exact HB.out|apply zlA|apply zlN|apply zlD)|exact HB.out))):w.heap.size≤gb491));have n3_:=zm ((by rw [hg];exact (below_size (by repeat (first|(with_reducible first|exact HB.out|apply zlA|apply zlN|apply zlD)|exact HB.out))):w.heap.size≤gb491));clear HB;have HB:=n0_;have BK491:=n1_;have GW491:=n2_;have GE491:=n3_;clear n0_ n1_ n2_ n3_;clear hb hbox hg;have hcz4_0:w3.cell? ⟨gb491,0,none⟩=some (.int .i64 a0_0):=(blk_cell BK491.out 0).trans rfl;have hcz4_1:w3.cell? ⟨gb491,1,none⟩=some (.int .i64 a0_1):=(blk_cell BK491.out 1).trans rfl;have hcz4_2:w3.cell? ⟨gb491,2,none⟩=some (.int .i64 a0_2):=(blk_cell BK491.out 2).trans rfl;have hfz4_0:=blk_frozen BK491.out 0;have hfz4_1:=blk_frozen BK491.out 1;have hfz4_2:=blk_frozen BK491.out 2)|((with_reducible refine gate_callee (f:=61) rfl ?_);refine goesL_ (some 4) rfl rfl Try.func61 (by kernel_rfl) rfl #[.agg #[.int .i64 a0_0,.int .i64 a0_1,.int .i64 a0_2]] rfl (by (try simp only [List.map_toArray,List.map_cons,List.map_nil]);first|done|rfl|(simp only [List.length_drop,List.length_take];rfl)) ?_;(with_reducible refine (mapjnl_record.calls k a0_0 a0_1 a0_2 t492 _ A2.out).mono ?_);rintro e w5 ⟨rfl,hb⟩;refine ⟨_,rfl,?_⟩;have n0_:=zm (zbB (g:=gb491) (o:=.cells #[.int .i64 a0_0,.int .i64 a0_1,.int .i64 a0_2] 55 (0,0)) (by (with_reducible repeat (first|refine zbN ?_ _|refine zbD ?_|refine zbA ?_ _));exact BK491.out) hb);have n1_:=zm (below_step (by repeat (first|(with_reducible first|exact HB.out|apply zlA|apply zlN|apply zlD|refine zlS ?_ GE491.out)|exact HB.out)) hb);clear BK491 HB;have BK491:=n0_;have HB:=n1_;clear n0_ n1_;(try clear hb);(try clear hb2);(try clear hk);(try clear hi)))
 go_ret
 exact ⟨by first|rfl|(simp [errW_none,errW_some] <;> rfl)|(simp [*,errW_none,errW_some] <;> rfl),by repeat (first|(with_reducible first|exact HB.out|apply zlA|apply zlN|apply zlD|refine zlS ?_ GE491.out)|exact HB.out)⟩
def api_MapRecord_81_69.l0:Nat → List (S55) → Int → Int → Option (Int)
 | 0,_,_,_=>none
 | k + 1,x0,x7,x8=>if x8 < x7 then (if 0≤x8 then (if x8 < (x0.length:Int) then ((mapjnl_Records_1.f k ((rd_T55 x0 x8).f0) ((rd_T55 x0 x8).f1) ((rd_T55 x0 x8).f2)).bind fun t494=>(if t494=true then (some x8) else (api_MapRecord_81_69.l0 k x0 x7 (wrap64 (x8 + 1))))) else (none)) else (none)) else (some (-1))
def api_MapRecord_81_69.f (k:Nat) (l0:List (S55)) :Option (Int):=api_MapRecord_81_69.l0 k l0 (l0.length:Int) 0
set_option maxHeartbeats 8000000 in
set_option maxRecDepth 100000 in
theorem api_MapRecord_81_69.calls (k:Nat) (A0:Option Addr) (c0:Nat) (l0:List (S55))  (r:Int) (w:World) (hr0:Kd.C k55 w A0 l0.length l0) (hc0:l0.length≤c0) (h:api_MapRecord_81_69.f k l0=some r) :
  Calls Try.prog 81 #[.slice A0 l0.length c0,.func (.func 69) #[] #[]] w fun e w'=>e=.returned (.int .i64 r)∧Below w.heap.size w w':=by
 have hu55:=Try.underlying55
 have HR0:=zm hr0
 have HC0:=zm hc0
 clear hr0 hc0
 have HB:=zm (Below.refl w.heap.size w)
 have H:(api_MapRecord_81_69.l0 k l0 (l0.length:Int) 0)=some r:=h
 clear h
 have H':=zm H
 clear H
 go_enter Try.func81,Try.ntmps81
 go_wp2
 go_loopg [8] k (fun kq v8 w'=>∃ (x8_1:Int),v8=.int .i64 x8_1∧Aside0 (api_MapRecord_81_69.l0 kq l0 (l0.length:Int) x8_1=some r)∧Aside0 (kq≤k)∧Aside0 (Below w.heap.size w w'))
 case atStart=>exact ⟨(0),(by first|rfl|(simp;done)|(simp [*];done)),H',⟨Nat.le_refl _⟩,⟨by repeat (first|(with_reducible first|exact HB.out|apply zlA|apply zlN|apply zlD)|exact HB.out)⟩⟩
 case round =>
  clear H'
  try clear p2
  obtain ⟨x8_1,rfl,HA,HK1,HB⟩:=hrel
  cases gk with
  | zero=>exact absurd HA.out (by simp [api_MapRecord_81_69.l0])
  | succ k1 =>
   have H:=HA.out
   clear HA
   simp only [api_MapRecord_81_69.l0] at H
   by_cases c3:x8_1 < (l0.length:Int)
   ·rw [if_pos c3] at H
    have c3b0:decide (x8_1 < (l0.length:Int))=true:=decide_eq_true c3
    clear c3
    by_cases c4:0≤x8_1
    ·rw [if_pos c4] at H
     have c4b0:decide (0≤x8_1)=true:=decide_eq_true c4
     clear c4
     by_cases c5:x8_1 < (l0.length:Int)
     ·rw [if_pos c5] at H
      have c5b0:decide (x8_1 < (l0.length:Int))=true:=decide_eq_true c5
      clear c5
      replace H:=Option.bind_eq_some_iff.mp H
      obtain ⟨t494,A60,H⟩:=H
      replace H:(if t494=true then (some x8_1) else (api_MapRecord_81_69.l0 k1 l0 (l0.length:Int) (wrap64 (x8_1 + 1))))=some r:=H
      have A6:=zm A60
      clear A60
      by_cases c7:t494=true
      ·subst c7
       have H1:(some x8_1)=some r:=by rw [if_pos rfl] at H;exact H
       clear H
       have H:=H1
       clear H1
       obtain rfl:=Option.some.inj H
       have p493:0≤(x8_1:Int):=of_decide_eq_true (by first|(with_reducible assumption)|assumption)
       have q493:x8_1 < (l0.length:Int):=of_decide_eq_true (by first|(with_reducible assumption)|assumption)
       obtain ⟨ad493,e493,hx493_0,hx493_1,hx493_2⟩:=at_T55 HR0.out x8_1 p493 q493
       cases e493
       replace hx493_0:=(HB.out.cell (World.block_lt_of_cell? w _ hx493_0)).trans hx493_0
       replace hx493_1:=(HB.out.cell (World.block_lt_of_cell? w _ hx493_1)).trans hx493_1
       replace hx493_2:=(HB.out.cell (World.block_lt_of_cell? w _ hx493_2)).trans hx493_2
       replace p493:=eq_true p493
       replace q493:=eq_true q493
       go_wp2_with (first|(go_at_call 69;(with_reducible refine (mapjnl_Records_1.calls  k1 ((rd_T55 l0 x8_1).f0) ((rd_T55 l0 x8_1).f1) ((rd_T55 l0 x8_1).f2) true _ A6.out).mono ?_);rintro e w8 ⟨rfl,hb⟩;have n0_:=zm (below_step (by repeat (first|(with_reducible first|exact HB.out|apply zlA|apply zlN|apply zlD)|exact HB.out)) hb);clear HB;have HB:=n0_;clear n0_;(try clear hb);(try clear hb2);(try clear hk);(try clear hi)))
       go_ret
       exact ⟨by first|rfl|(simp [errW_none,errW_some] <;> rfl)|(simp [*,errW_none,errW_some] <;> rfl),by repeat (first|(with_reducible first|exact HB.out|apply zlA|apply zlN|apply zlD)|exact HB.out)⟩
      ·replace c7:=Bool.eq_false_iff.mpr c7
       subst c7
       have H1:(api_MapRecord_81_69.l0 k1 l0 (l0.length:Int) (wrap64 (x8_1 + 1)))=some r:=by rw [if_neg (show ¬ (false=true) by decide)] at H;exact H
       clear H
       have H:=H1
       clear H1
       have H':=zm H
       clear H
       have p493:0≤(x8_1:Int):=of_decide_eq_true (by first|(with_reducible assumption)|assumption)
       have q493:x8_1 < (l0.length:Int):=of_decide_eq_true (by first|(with_reducible assumption)|assumption)
       obtain ⟨ad493,e493,hx493_0,hx493_1,hx493_2⟩:=at_T55 HR0.out x8_1 p493 q493
       cases e493
       replace hx493_0:=(HB.out.cell (World.block_lt_of_cell? w _ hx493_0)).trans hx493_0
       replace hx493_1:=(HB.out.cell (World.block_lt_of_cell? w _ hx493_1)).trans hx493_1
       replace hx493_2:=(HB.out.cell (World.block_lt_of_cell? w _ hx493_2)).trans hx493_2
       replace p493:=eq_true p493
       replace q493:=eq_true q493
       go_wp2_with (first|(go_at_call 69;(with_reducible refine (mapjnl_Records_1.calls  k1 ((rd_T55 l0 x8_1).f0) ((rd_T55 l0 x8_1).f1) ((rd_T55 l0 x8_1).f2) false _ A6.out).mono ?_);rintro e w9 ⟨rfl,hb⟩;have n0_:=zm (below_step (by repeat (first|(with_reducible first|exact HB.out|apply zlA|apply zlN|apply zlD)|exact HB.out)) hb);clear HB;have HB:=n0_;clear n0_;(try clear hb);(try clear hb2);(try clear hk);(try clear hi)))
       go_roundg k1
       case measure=>have:=HK1.out;omega
       case rel=>exact ⟨(wrap64 (x8_1 + 1)),(by first|rfl|(simp;done)|(simp [*];done)),H',⟨by have:=HK1.out;omega⟩,⟨by repeat (first|(with_reducible first|exact HB.out|apply zlA|apply zlN|apply zlD)|exact HB.out)⟩⟩
     ·rw [if_neg c5] at H
      exact absurd H (by simp)
    ·rw [if_neg c4] at H
     exact absurd H (by simp)
   ·rw [if_neg c3] at H
    have c3b0:decide (x8_1 < (l0.length:Int))=false:=decide_eq_false c3
    clear c3
    obtain rfl:=Option.some.inj H
    go_wp2
    go_ret
    exact ⟨by first|rfl|(simp [errW_none,errW_some] <;> rfl)|(simp [*,errW_none,errW_some] <;> rfl),by repeat (first|(with_reducible first|exact HB.out|apply zlA|apply zlN|apply zlD)|exact HB.out)⟩
def api_MapRecord_68_69.f (k:Nat) (l0:List (S55)) :Option (Bool):=(api_MapRecord_81_69.f k l0).bind fun t495=>(some (decide (t495 ≥ 0)))
set_option maxHeartbeats 8000000 in
set_option maxRecDepth 100000 in
theorem api_MapRecord_68_69.calls (k:Nat) (A0:Option Addr) (c0:Nat) (l0:List (S55))  (r:Bool) (w:World) (hr0:Kd.C k55 w A0 l0.length l0) (hc0:l0.length≤c0) (h:api_MapRecord_68_69.f k l0=some r) :
  Calls Try.prog 68 #[.slice A0 l0.length c0,.func (.func 69) #[] #[]] w fun e w'=>e=.returned (.bool r)∧Below w.heap.size w w':=by
 have HR0:=zm hr0
 have HC0:=zm hc0
 clear hr0 hc0
 have HB:=zm (Below.refl w.heap.size w)
 have H:((api_MapRecord_81_69.f k l0).bind fun t495=>(some (decide (t495 ≥ 0))))=some r:=h
 clear h
 replace H:=Option.bind_eq_some_iff.mp H
 obtain ⟨t495,A30,H⟩:=H
 replace H:(some (decide (t495 ≥ 0)))=some r:=H
 have A3:=zm A30
 clear A30
 obtain rfl:=Option.some.inj H
 go_enter Try.func68,Try.ntmps68
 go_wp2_with (first|((with_reducible refine gate_callee (f:=81) rfl ?_);refine goesL_ (some 7) rfl rfl Try.func81 (by kernel_rfl) rfl #[.slice A0 l0.length c0,.func (.func 69) #[] #[]] rfl (by (try simp only [List.map_toArray,List.map_cons,List.map_nil]);first|done|rfl|(simp only [List.length_drop,List.length_take];rfl)) ?_;(with_reducible refine (api_MapRecord_81_69.calls k _ _ l0  t495 _ ?side1 ?side2 A3.out).mono ?_);(case side1=>repeat (first|exact HR0.out|(with_reducible refine Kd.C_alloc ?_ _)|(with_reducible refine Kd.C_drewN ?_ _)|(with_reducible refine Kd.C_drew ?_)));(case side2=>exact HC0.out);rintro e w4 ⟨rfl,hb⟩;refine ⟨_,rfl,?_⟩;have n0_:=zm (below_step (by repeat (first|(with_reducible first|exact HB.out|apply zlA|apply zlN|apply zlD)|exact HB.out)) hb);clear HB;have HB:=n0_;clear n0_;(try clear hb);(try clear hb2);(try clear hk);(try clear hi)))
 go_ret
 exact ⟨by first|rfl|(simp [errW_none,errW_some] <;> rfl)|(simp [*,errW_none,errW_some] <;> rfl),by repeat (first|(with_reducible first|exact HB.out|apply zlA|apply zlN|apply zlD)|exact HB.out)⟩
def mapjnl_Records.f (k:Nat) (a0:Int) (l1:List (S55)):Option (Int × Int × Int × Int × List Bool × List Int × (List (S55)) × Int):=(mapjnl_gen.f a0).bind fun t497=>(if t497=true then (if (l1.length:Int) > 24 then (some (0,0,0,0,([]:List Bool),([]:List Int),([]:List (S55)),3)) else ((api_MapRecord_68_69.f k l1).bind fun t498=>(if t498=true then (some (0,0,0,0,([]:List Bool),([]:List Int),([]:List (S55)),61)) else ((api_MapRecord_36.f l1).bind fun t499=>(some (2,a0,0,0,([]:List Bool),([]:List Int),t499,0)))))) else (some (0,0,0,0,([]:List Bool),([]:List Int),([]:List (S55)),1)))
set_option maxHeartbeats 8000000 in
set_option maxRecDepth 100000 in
theorem mapjnl_Records.calls (k:Nat) (a0:Int) (A1:Option Addr) (c1:Nat) (l1:List (S55)) (r1:Int) (r2:Int) (r3:Int) (r4:Int) (r5:List Bool) (r6:List Int) (r7:List (S55)) (r8:Int) (w:World) (hr1:Kd.C k55 w A1 l1.length l1) (hc1:l1.length≤c1) (h:mapjnl_Records.f k a0 l1=some (r1,r2,r3,r4,r5,r6,r7,r8)) :
  Calls Try.prog 29 #[.int .i64 a0,.slice A1 l1.length c1] w fun e w'=>∃ v4_ v5_ v6_:Value,e=.returned (.tuple #[.agg #[.int .i64 r1,.int .i64 r2,.int .i64 r3,.int .i64 r4,v4_,v5_,v6_],.int .i64 r8])∧Kd.R Kd.bool 4 w' w.heap.size (fun _=>True) v4_ r5∧Kd.R (Kd.int .i64) 2 w' w.heap.size (fun _=>True) v5_ r6∧Kd.R k55 55 w' w.heap.size (fun _=>True) v6_ r7∧Below w.heap.size w w':=by
 have hu42:=Try.underlying42
 have HR1:=zm hr1
 have HC1:=zm hc1
 clear hr1 hc1
 have HB:=zm (Below.refl w.heap.size w)
 have H:((mapjnl_gen.f a0).bind fun t497=>(if t497=true then (if (l1.length:Int) > 24 then (some (0,0,0,0,([]:List Bool),([]:List Int),([]:List (S55)),3)) else ((api_MapRecord_68_69.f k l1).bind fun t498=>(if t498=true then (some (0,0,0,0,([]:List Bool),([]:List Int),([]:List (S55)),61)) else ((api_MapRecord_36.f l1).bind fun t499=>(some (2,a0,0,0,([]:List Bool),([]:List Int),t499,0)))))) else (some (0,0,0,0,([]:List Bool),([]:List Int),([]:List (S55)),1))))=some (r1,r2,r3,r4,r5,r6,r7,r8):=h
 clear h
 replace H:=Option.bind_eq_some_iff.mp H
 obtain ⟨t497,A30,H⟩:=H
 replace H:(if t497=true then (if (l1.length:Int) > 24 then (some (0,0,0,0,([]:List Bool),([]:List Int),([]:List (S55)),3)) else ((api_MapRecord_68_69.f k l1).bind fun t498=>(if t498=true then (some (0,0,0,0,([]:List Bool),([]:List Int),([]:List (S55)),61)) else ((api_MapRecord_36.f l1).bind fun t499=>(some (2,a0,0,0,([]:List Bool),([]:List Int),t499,0)))))) else (some (0,0,0,0,([]:List Bool),([]:List Int),([]:List (S55)),1)))=some (r1,r2,r3,r4,r5,r6,r7,r8):=H
 have A3:=zm A30
 clear A30
 by_cases c4:t497=true
 ·subst c4
  have H1:(if (l1.length:Int) > 24 then (some (0,0,0,0,([]:List Bool),([]:List Int),([]:List (S55)),3)) else ((api_MapRecord_68_69.f k l1).bind fun t498=>(if t498=true then (some (0,0,0,0,([]:List Bool),([]:List Int),([]:List (S55)),61)) else ((api_MapRecord_36.f l1).bind fun t499=>(some (2,a0,0,0,([]:List Bool),([]:List Int),t499,0))))))=some (r1,r2,r3,r4,r5,r6,r7,r8):=by rw [if_pos rfl] at H;exact H
  clear H
  have H:=H1
  clear H1
  by_cases c5:(l1.length:Int) > 24
  ·rw [if_pos c5] at H
   have c5b0:decide (24 < (l1.length:Int))=true:=decide_eq_true c5
   have c5b1:decide (24 < l1.length)=true:=decide_eq_true (by omega)
   clear c5
   simp only [Option.some.injEq,Prod.mk.injEq] at H
   obtain ⟨rfl,rfl,rfl,rfl,rfl,rfl,rfl,rfl⟩:=H
   go_enter Try.func29,Try.ntmps29
   go_wp2_with (first|((with_reducible refine gate_dst (N:=4) rfl ?_);refine box_event ?hg (N:=4) ?hd (cs:=#[.int .i64 0,.int .i64 0,.int .i64 0,.int .i64 0,.slice none 0 0,.slice none 0 0,.slice none 0 0]) (t:=42) ?hr ?_;(case hd=>rfl);(case hg=>rfl);(case hr=>first|(go_simp;done)|(go_simp;rfl));intro gb496 hg w6 hbox hb;have n0_:=zm (below_step (by repeat (first|(with_reducible first|exact HB.out|apply zlA|apply zlN|apply zlD)|exact HB.out)) hb);have n1_:=zm (hbox);have n2_:=zm ((by rw [hg];exact (below_size (by repeat (first|(with_reducible first|exact HB.out|apply zlA|apply zlN|apply zlD)|exact HB.out))):w.heap.size≤gb496));have n3_:=zm ((by rw [hg];exact (below_size (by repeat (first|(with_reducible first|exact HB.out|apply zlA|apply zlN|apply zlD)|exact HB.out))):w.heap.size≤gb496));clear HB;have HB:=n0_;have BK496:=n1_;have GW496:=n2_;have GE496:=n3_;clear n0_ n1_ n2_ n3_;clear hb hbox hg)|((with_reducible refine gate_callee (f:=65) rfl ?_);refine goesL_ (some 8) rfl rfl Try.func65 (by kernel_rfl) rfl #[.int .i64 a0] rfl (by (try simp only [List.map_toArray,List.map_cons,List.map_nil]);first|done|rfl|(simp only [List.length_drop,List.length_take];rfl)) ?_;(with_reducible refine (mapjnl_gen.calls a0 true _ A3.out).mono ?_);rintro e w' ⟨rfl,⟨nd,rfl⟩⟩;refine ⟨_,rfl,?_⟩;(try (rw [drewN_self w6];generalize hq_:World.drewN w6 _=w6;have n0_:Aside0 (w6.heap[gb496]?=some (.cells #[.int .i64 0,.int .i64 0,.int .i64 0,.int .i64 0,.slice none 0 0,.slice none 0 0,.slice none 0 0] 42 (0,0))):=⟨by rw [← hq_];exact (by (with_reducible repeat (first|refine zbN ?_ _|refine zbD ?_|refine zbA ?_ _));exact BK496.out)⟩;have n1_:Aside0 (Below w.heap.size w w6):=⟨by rw [← hq_];exact (by repeat (first|(with_reducible first|exact HB.out|apply zlA|apply zlN|apply zlD|refine zlS ?_ GE496.out)|exact HB.out))⟩;clear BK496 HB hq_;have BK496:=n0_;have HB:=n1_;clear n0_ n1_));have hcz7_0:w6.cell? ⟨gb496,0,none⟩=some (.int .i64 0):=(blk_cell BK496.out 0).trans rfl;have hcz7_1:w6.cell? ⟨gb496,1,none⟩=some (.int .i64 0):=(blk_cell BK496.out 1).trans rfl;have hcz7_2:w6.cell? ⟨gb496,2,none⟩=some (.int .i64 0):=(blk_cell BK496.out 2).trans rfl;have hcz7_3:w6.cell? ⟨gb496,3,none⟩=some (.int .i64 0):=(blk_cell BK496.out 3).trans rfl;have hcz7_4:w6.cell? ⟨gb496,4,none⟩=some (.slice none 0 0):=(blk_cell BK496.out 4).trans rfl;have hcz7_5:w6.cell? ⟨gb496,5,none⟩=some (.slice none 0 0):=(blk_cell BK496.out 5).trans rfl;have hcz7_6:w6.cell? ⟨gb496,6,none⟩=some (.slice none 0 0):=(blk_cell BK496.out 6).trans rfl;have hfz7_0:=blk_frozen BK496.out 0;have hfz7_1:=blk_frozen BK496.out 1;have hfz7_2:=blk_frozen BK496.out 2;have hfz7_3:=blk_frozen BK496.out 3;have hfz7_4:=blk_frozen BK496.out 4;have hfz7_5:=blk_frozen BK496.out 5;have hfz7_6:=blk_frozen BK496.out 6))
   refine bodyPost_ret (results_ct rfl _ _ gb496 42 #[.int .i64 0,.int .i64 0,.int .i64 0,.int .i64 0,.slice none 0 0,.slice none 0 0,.slice none 0 0] (0,0) _ rfl (by (with_reducible repeat (first|refine zbN ?_ _|refine zbD ?_|refine zbA ?_ _));refine blk_put (cs:=#[.int .i64 0,.int .i64 0,.int .i64 0,.int .i64 0,.slice none 0 0,.slice none 0 0,.slice none 0 0]) ?_ 6 _ rfl;(with_reducible repeat (first|refine zbN ?_ _|refine zbD ?_|refine zbA ?_ _));refine blk_put (cs:=#[.int .i64 0,.int .i64 0,.int .i64 0,.int .i64 0,.slice none 0 0,.slice none 0 0,.slice none 0 0]) ?_ 5 _ rfl;(with_reducible repeat (first|refine zbN ?_ _|refine zbD ?_|refine zbA ?_ _));refine blk_put (cs:=#[.int .i64 0,.int .i64 0,.int .i64 0,.int .i64 0,.slice none 0 0,.slice none 0 0,.slice none 0 0]) ?_ 4 _ rfl;(with_reducible repeat (first|refine zbN ?_ _|refine zbD ?_|refine zbA ?_ _));refine blk_put (cs:=#[.int .i64 0,.int .i64 0,.int .i64 0,.int .i64 0,.slice none 0 0,.slice none 0 0,.slice none 0 0]) ?_ 3 _ rfl;(with_reducible repeat (first|refine zbN ?_ _|refine zbD ?_|refine zbA ?_ _));refine blk_put (cs:=#[.int .i64 0,.int .i64 0,.int .i64 0,.int .i64 0,.slice none 0 0,.slice none 0 0,.slice none 0 0]) ?_ 2 _ rfl;(with_reducible repeat (first|refine zbN ?_ _|refine zbD ?_|refine zbA ?_ _));refine blk_put (cs:=#[.int .i64 0,.int .i64 0,.int .i64 0,.int .i64 0,.slice none 0 0,.slice none 0 0,.slice none 0 0]) ?_ 1 _ rfl;(with_reducible repeat (first|refine zbN ?_ _|refine zbD ?_|refine zbA ?_ _));refine blk_put (cs:=#[.int .i64 0,.int .i64 0,.int .i64 0,.int .i64 0,.slice none 0 0,.slice none 0 0,.slice none 0 0]) ?_ 0 _ rfl;(with_reducible repeat (first|refine zbN ?_ _|refine zbD ?_|refine zbA ?_ _));exact BK496.out) Try.underlying42 rfl (by kernel_rfl)) rfl ?_
   exact ⟨_,_,_,by first|rfl|(simp [errW_none,errW_some] <;> rfl)|(simp [*,errW_none,errW_some] <;> rfl),by first|exact Kd.R_nil _ _ _ _ _|exact Kd.N_nil _ _ _ _ _|exact Kd.V_nil _ _ _ _ _|exact Kd.Q_nil _ _ _ _ _|exact Kd.S_nil _ _ _ _ _,by first|exact Kd.R_nil _ _ _ _ _|exact Kd.N_nil _ _ _ _ _|exact Kd.V_nil _ _ _ _ _|exact Kd.Q_nil _ _ _ _ _|exact Kd.S_nil _ _ _ _ _,by first|exact Kd.R_nil _ _ _ _ _|exact Kd.N_nil _ _ _ _ _|exact Kd.V_nil _ _ _ _ _|exact Kd.Q_nil _ _ _ _ _|exact Kd.S_nil _ _ _ _ _,by repeat (first|(with_reducible first|exact HB.out|apply zlA|apply zlN|apply zlD|refine zlS ?_ GE496.out)|exact HB.out)⟩
  ·rw [if_neg c5] at H
   have c5b0:decide (24 < (l1.length:Int))=false:=decide_eq_false c5
   have c5b1:decide (24 < l1.length)=false:=decide_eq_false (by omega)
   clear c5
   replace H:=Option.bind_eq_some_iff.mp H
   obtain ⟨t498,A80,H⟩:=H
   replace H:(if t498=true then (some (0,0,0,0,([]:List Bool),([]:List Int),([]:List (S55)),61)) else ((api_MapRecord_36.f l1).bind fun t499=>(some (2,a0,0,0,([]:List Bool),([]:List Int),t499,0))))=some (r1,r2,r3,r4,r5,r6,r7,r8):=H
   have A8:=zm A80
   clear A80
   by_cases c9:t498=true
   ·subst c9
    have H1:(some (0,0,0,0,([]:List Bool),([]:List Int),([]:List (S55)),61))=some (r1,r2,r3,r4,r5,r6,r7,r8):=by rw [if_pos rfl] at H;exact H
    clear H
    have H:=H1
    clear H1
    simp only [Option.some.injEq,Prod.mk.injEq] at H
    obtain ⟨rfl,rfl,rfl,rfl,rfl,rfl,rfl,rfl⟩:=H
    go_enter Try.func29,Try.ntmps29
    go_wp2_with (first|((with_reducible refine gate_dst (N:=4) rfl ?_);refine box_event ?hg (N:=4) ?hd (cs:=#[.int .i64 0,.int .i64 0,.int .i64 0,.int .i64 0,.slice none 0 0,.slice none 0 0,.slice none 0 0]) (t:=42) ?hr ?_;(case hd=>rfl);(case hg=>rfl);(case hr=>first|(go_simp;done)|(go_simp;rfl));intro gb496 hg w10 hbox hb;have n0_:=zm (below_step (by repeat (first|(with_reducible first|exact HB.out|apply zlA|apply zlN|apply zlD)|exact HB.out)) hb);have n1_:=zm (hbox);have n2_:=zm ((by rw [hg];exact (below_size (by repeat (first|(with_reducible first|exact HB.out|apply zlA|apply zlN|apply zlD)|exact HB.out))):w.heap.size≤gb496));have n3_:=zm ((by rw [hg];exact (below_size (by repeat (first|(with_reducible first|exact HB.out|apply zlA|apply zlN|apply zlD)|exact HB.out))):w.heap.size≤gb496));clear HB;have HB:=n0_;have BK496:=n1_;have GW496:=n2_;have GE496:=n3_;clear n0_ n1_ n2_ n3_;clear hb hbox hg)|((with_reducible refine gate_callee (f:=65) rfl ?_);refine goesL_ (some 8) rfl rfl Try.func65 (by kernel_rfl) rfl #[.int .i64 a0] rfl (by (try simp only [List.map_toArray,List.map_cons,List.map_nil]);first|done|rfl|(simp only [List.length_drop,List.length_take];rfl)) ?_;(with_reducible refine (mapjnl_gen.calls a0 true _ A3.out).mono ?_);rintro e w' ⟨rfl,⟨nd,rfl⟩⟩;refine ⟨_,rfl,?_⟩;(try (rw [drewN_self w10];generalize hq_:World.drewN w10 _=w10;have n0_:Aside0 (w10.heap[gb496]?=some (.cells #[.int .i64 0,.int .i64 0,.int .i64 0,.int .i64 0,.slice none 0 0,.slice none 0 0,.slice none 0 0] 42 (0,0))):=⟨by rw [← hq_];exact (by (with_reducible repeat (first|refine zbN ?_ _|refine zbD ?_|refine zbA ?_ _));exact BK496.out)⟩;have n1_:Aside0 (Below w.heap.size w w10):=⟨by rw [← hq_];exact (by repeat (first|(with_reducible first|exact HB.out|apply zlA|apply zlN|apply zlD|refine zlS ?_ GE496.out)|exact HB.out))⟩;clear BK496 HB hq_;have BK496:=n0_;have HB:=n1_;clear n0_ n1_)))|((with_reducible refine gate_callee (f:=68) rfl ?_);refine goesL_ (some 18) rfl rfl Try.func68 (by kernel_rfl) rfl #[.slice A1 l1.length c1,.func (.func 69) #[] #[]] rfl (by (try simp only [List.map_toArray,List.map_cons,List.map_nil]);first|done|rfl|(simp only [List.length_drop,List.length_take];rfl)) ?_;(with_reducible refine (api_MapRecord_68_69.calls k _ _ l1  true _ ?side1 ?side2 A8.out).mono ?_);(case side1=>repeat (first|exact (Kd.C_below HR1.out HB.out)|(with_reducible refine Kd.C_alloc ?_ _)|(with_reducible refine Kd.C_drewN ?_ _)|(with_reducible refine Kd.C_drew ?_)));(case side2=>exact HC1.out);rintro e w11 ⟨rfl,hb⟩;refine ⟨_,rfl,?_⟩;have n0_:=zm (zbB (g:=gb496) (o:=.cells #[.int .i64 0,.int .i64 0,.int .i64 0,.int .i64 0,.slice none 0 0,.slice none 0 0,.slice none 0 0] 42 (0,0)) (by (with_reducible repeat (first|refine zbN ?_ _|refine zbD ?_|refine zbA ?_ _));exact BK496.out) hb);have n1_:=zm (below_step (by repeat (first|(with_reducible first|exact HB.out|apply zlA|apply zlN|apply zlD|refine zlS ?_ GE496.out)|exact HB.out)) hb);clear BK496 HB;have BK496:=n0_;have HB:=n1_;clear n0_ n1_;(try clear hb);(try clear hb2);(try clear hk);(try clear hi);have hcz12_0:w11.cell? ⟨gb496,0,none⟩=some (.int .i64 0):=(blk_cell BK496.out 0).trans rfl;have hcz12_1:w11.cell? ⟨gb496,1,none⟩=some (.int .i64 0):=(blk_cell BK496.out 1).trans rfl;have hcz12_2:w11.cell? ⟨gb496,2,none⟩=some (.int .i64 0):=(blk_cell BK496.out 2).trans rfl;have hcz12_3:w11.cell? ⟨gb496,3,none⟩=some (.int .i64 0):=(blk_cell BK496.out 3).trans rfl;have hcz12_4:w11.cell? ⟨gb496,4,none⟩=some (.slice none 0 0):=(blk_cell BK496.out 4).trans rfl;have hcz12_5:w11.cell? ⟨gb496,5,none⟩=some (.slice none 0 0):=(blk_cell BK496.out 5).trans rfl;have hcz12_6:w11.cell? ⟨gb496,6,none⟩=some (.slice none 0 0):=(blk_cell BK496.out 6).trans rfl;have hfz12_0:=blk_frozen BK496.out 0;have hfz12_1:=blk_frozen BK496.out 1;have hfz12_2:=blk_frozen BK496.out 2;have hfz12_3:=blk_frozen BK496.out 3;have hfz12_4:=blk_frozen BK496.out 4;have hfz12_5:=blk_frozen BK496.out 5;have hfz12_6:=blk_frozen BK496.out 6))
    refine bodyPost_ret (results_ct rfl _ _ gb496 42 #[.int .i64 0,.int .i64 0,.int .i64 0,.int .i64 0,.slice none 0 0,.slice none 0 0,.slice none 0 0] (0,0) _ rfl (by (with_reducible repeat (first|refine zbN ?_ _|refine zbD ?_|refine zbA ?_ _));refine blk_put (cs:=#[.int .i64 0,.int .i64 0,.int .i64 0,.int .i64 0,.slice none 0 0,.slice none 0 0,.slice none 0 0]) ?_ 6 _ rfl;(with_reducible repeat (first|refine zbN ?_ _|refine zbD ?_|refine zbA ?_ _));refine blk_put (cs:=#[.int .i64 0,.int .i64 0,.int .i64 0,.int .i64 0,.slice none 0 0,.slice none 0 0,.slice none 0 0]) ?_ 5 _ rfl;(with_reducible repeat (first|refine zbN ?_ _|refine zbD ?_|refine zbA ?_ _));refine blk_put (cs:=#[.int .i64 0,.int .i64 0,.int .i64 0,.int .i64 0,.slice none 0 0,.slice none 0 0,.slice none 0 0]) ?_ 4 _ rfl;(with_reducible repeat (first|refine zbN ?_ _|refine zbD ?_|refine zbA ?_ _));refine blk_put (cs:=#[.int .i64 0,.int .i64 0,.int .i64 0,.int .i64 0,.slice none 0 0,.slice none 0 0,.slice none 0 0]) ?_ 3 _ rfl;(with_reducible repeat (first|refine zbN ?_ _|refine zbD ?_|refine zbA ?_ _));refine blk_put (cs:=#[.int .i64 0,.int .i64 0,.int .i64 0,.int .i64 0,.slice none 0 0,.slice none 0 0,.slice none 0 0]) ?_ 2 _ rfl;(with_reducible repeat (first|refine zbN ?_ _|refine zbD ?_|refine zbA ?_ _));refine blk_put (cs:=#[.int .i64 0,.int .i64 0,.int .i64 0,.int .i64 0,.slice none 0 0,.slice none 0 0,.slice none 0 0]) ?_ 1 _ rfl;(with_reducible repeat (first|refine zbN ?_ _|refine zbD ?_|refine zbA ?_ _));refine blk_put (cs:=#[.int .i64 0,.int .i64 0,.int .i64 0,.int .i64 0,.slice none 0 0,.slice none 0 0,.slice none 0 0]) ?_ 0 _ rfl;(with_reducible repeat (first|refine zbN ?_ _|refine zbD ?_|refine zbA ?_ _));exact BK496.out) Try.underlying42 rfl (by kernel_rfl)) rfl ?_
    exact ⟨_,_,_,by first|rfl|(simp [errW_none,errW_some] <;> rfl)|(simp [*,errW_none,errW_some] <;> rfl),by first|exact Kd.R_nil _ _ _ _ _|exact Kd.N_nil _ _ _ _ _|exact Kd.V_nil _ _ _ _ _|exact Kd.Q_nil _ _ _ _ _|exact Kd.S_nil _ _ _ _ _,by first|exact Kd.R_nil _ _ _ _ _|exact Kd.N_nil _ _ _ _ _|exact Kd.V_nil _ _ _ _ _|exact Kd.Q_nil _ _ _ _ _|exact Kd.S_nil _ _ _ _ _,by first|exact Kd.R_nil _ _ _ _ _|exact Kd.N_nil _ _ _ _ _|exact Kd.V_nil _ _ _ _ _|exact Kd.Q_nil _ _ _ _ _|exact Kd.S_nil _ _ _ _ _,by repeat (first|(with_reducible first|exact HB.out|apply zlA|apply zlN|apply zlD|refine zlS ?_ GE496.out)|exact HB.out)⟩
   ·replace c9:=Bool.eq_false_iff.mpr c9
    subst c9
    have H1:((api_MapRecord_36.f l1).bind fun t499=>(some (2,a0,0,0,([]:List Bool),([]:List Int),t499,0)))=some (r1,r2,r3,r4,r5,r6,r7,r8):=by rw [if_neg (show ¬ (false=true) by decide)] at H;exact H
    clear H
    have H:=H1
    clear H1
    replace H:=Option.bind_eq_some_iff.mp H
    obtain ⟨t499,A130,H⟩:=H
    replace H:(some (2,a0,0,0,([]:List Bool),([]:List Int),t499,0))=some (r1,r2,r3,r4,r5,r6,r7,r8):=H
    have A13:=zm A130
    clear A130
    simp only [Option.some.injEq,Prod.mk.injEq] at H
    obtain ⟨rfl,rfl,rfl,rfl,rfl,rfl,rfl,rfl⟩:=H
    go_enter Try.func29,Try.ntmps29
    go_wp2_with (first|((with_reducible refine gate_dst (N:=4) rfl ?_);refine box_event ?hg (N:=4) ?hd (cs:=#[.int .i64 0,.int .i64 0,.int .i64 0,.int .i64 0,.slice none 0 0,.slice none 0 0,.slice none 0 0]) (t:=42) ?hr ?_;(case hd=>rfl);(case hg=>rfl);(case hr=>first|(go_simp;done)|(go_simp;rfl));intro gb496 hg w14 hbox hb;have n0_:=zm (below_step (by repeat (first|(with_reducible first|exact HB.out|apply zlA|apply zlN|apply zlD)|exact HB.out)) hb);have n1_:=zm (hbox);have n2_:=zm ((by rw [hg];exact (below_size (by repeat (first|(with_reducible first|exact HB.out|apply zlA|apply zlN|apply zlD)|exact HB.out))):w.heap.size≤gb496));have n3_:=zm ((by rw [hg];exact (below_size (by repeat (first|(with_reducible first|exact HB.out|apply zlA|apply zlN|apply zlD)|exact HB.out))):w.heap.size≤gb496));clear HB;have HB:=n0_;have BK496:=n1_;have GW496:=n2_;have GE496:=n3_;clear n0_ n1_ n2_ n3_;clear hb hbox hg)|((with_reducible refine gate_callee (f:=65) rfl ?_);refine goesL_ (some 8) rfl rfl Try.func65 (by kernel_rfl) rfl #[.int .i64 a0] rfl (by (try simp only [List.map_toArray,List.map_cons,List.map_nil]);first|done|rfl|(simp only [List.length_drop,List.length_take];rfl)) ?_;(with_reducible refine (mapjnl_gen.calls a0 true _ A3.out).mono ?_);rintro e w' ⟨rfl,⟨nd,rfl⟩⟩;refine ⟨_,rfl,?_⟩;(try (rw [drewN_self w14];generalize hq_:World.drewN w14 _=w14;have n0_:Aside0 (w14.heap[gb496]?=some (.cells #[.int .i64 0,.int .i64 0,.int .i64 0,.int .i64 0,.slice none 0 0,.slice none 0 0,.slice none 0 0] 42 (0,0))):=⟨by rw [← hq_];exact (by (with_reducible repeat (first|refine zbN ?_ _|refine zbD ?_|refine zbA ?_ _));exact BK496.out)⟩;have n1_:Aside0 (Below w.heap.size w w14):=⟨by rw [← hq_];exact (by repeat (first|(with_reducible first|exact HB.out|apply zlA|apply zlN|apply zlD|refine zlS ?_ GE496.out)|exact HB.out))⟩;clear BK496 HB hq_;have BK496:=n0_;have HB:=n1_;clear n0_ n1_)))|((with_reducible refine gate_callee (f:=68) rfl ?_);refine goesL_ (some 18) rfl rfl Try.func68 (by kernel_rfl) rfl #[.slice A1 l1.length c1,.func (.func 69) #[] #[]] rfl (by (try simp only [List.map_toArray,List.map_cons,List.map_nil]);first|done|rfl|(simp only [List.length_drop,List.length_take];rfl)) ?_;(with_reducible refine (api_MapRecord_68_69.calls k _ _ l1  false _ ?side1 ?side2 A8.out).mono ?_);(case side1=>repeat (first|exact (Kd.C_below HR1.out HB.out)|(with_reducible refine Kd.C_alloc ?_ _)|(with_reducible refine Kd.C_drewN ?_ _)|(with_reducible refine Kd.C_drew ?_)));(case side2=>exact HC1.out);rintro e w15 ⟨rfl,hb⟩;refine ⟨_,rfl,?_⟩;have n0_:=zm (zbB (g:=gb496) (o:=.cells #[.int .i64 0,.int .i64 0,.int .i64 0,.int .i64 0,.slice none 0 0,.slice none 0 0,.slice none 0 0] 42 (0,0)) (by (with_reducible repeat (first|refine zbN ?_ _|refine zbD ?_|refine zbA ?_ _));exact BK496.out) hb);have n1_:=zm (below_step (by repeat (first|(with_reducible first|exact HB.out|apply zlA|apply zlN|apply zlD|refine zlS ?_ GE496.out)|exact HB.out)) hb);clear BK496 HB;have BK496:=n0_;have HB:=n1_;clear n0_ n1_;(try clear hb);(try clear hb2);(try clear hk);(try clear hi))|((with_reducible refine gate_callee (f:=36) rfl ?_);refine goesL_ (some 22) rfl rfl Try.func36 (by kernel_rfl) rfl #[.slice A1 l1.length c1] rfl (by (try simp only [List.map_toArray,List.map_cons,List.map_nil]);first|done|rfl|(simp only [List.length_drop,List.length_take];rfl)) ?_;(with_reducible refine (api_MapRecord_36.calls _ _ l1 t499 _ ?side1 ?side2 A13.out).mono ?_);(case side1=>repeat (first|exact (Kd.C_below HR1.out HB.out)|(with_reducible refine Kd.C_alloc ?_ _)|(with_reducible refine Kd.C_drewN ?_ _)|(with_reducible refine Kd.C_drew ?_)));(case side2=>exact HC1.out);rintro e w16 ⟨v500,rfl,ho0,hb⟩;refine ⟨_,rfl,?_⟩;have n0_:=zm (Kd.R_lower ho0 (below_size (by repeat (first|(with_reducible first|exact HB.out|apply zlA|apply zlN|apply zlD|refine zlS ?_ GE496.out)|exact HB.out))));have n1_:=zm (zbB (g:=gb496) (o:=.cells #[.int .i64 0,.int .i64 0,.int .i64 0,.int .i64 0,.slice none 0 0,.slice none 0 0,.slice none 0 0] 42 (0,0)) (by (with_reducible repeat (first|refine zbN ?_ _|refine zbD ?_|refine zbA ?_ _));exact BK496.out) hb);have n2_:=zm (below_step (by repeat (first|(with_reducible first|exact HB.out|apply zlA|apply zlN|apply zlD|refine zlS ?_ GE496.out)|exact HB.out)) hb);clear BK496 HB;have HO501:=n0_;have BK496:=n1_;have HB:=n2_;clear n0_ n1_ n2_;(try clear hb);(try clear hb2);(try clear hk);(try clear hi);(try clear ho0);obtain ⟨Ao17,co17,eo17⟩:=Kd.R_slice HO501.out;subst eo17;have hcz18_0:w16.cell? ⟨gb496,0,none⟩=some (.int .i64 0):=(blk_cell BK496.out 0).trans rfl;have hcz18_1:w16.cell? ⟨gb496,1,none⟩=some (.int .i64 0):=(blk_cell BK496.out 1).trans rfl;have hcz18_2:w16.cell? ⟨gb496,2,none⟩=some (.int .i64 0):=(blk_cell BK496.out 2).trans rfl;have hcz18_3:w16.cell? ⟨gb496,3,none⟩=some (.int .i64 0):=(blk_cell BK496.out 3).trans rfl;have hcz18_4:w16.cell? ⟨gb496,4,none⟩=some (.slice none 0 0):=(blk_cell BK496.out 4).trans rfl;have hcz18_5:w16.cell? ⟨gb496,5,none⟩=some (.slice none 0 0):=(blk_cell BK496.out 5).trans rfl;have hcz18_6:w16.cell? ⟨gb496,6,none⟩=some (.slice none 0 0):=(blk_cell BK496.out 6).trans rfl;have hfz18_0:=blk_frozen BK496.out 0;have hfz18_1:=blk_frozen BK496.out 1;have hfz18_2:=blk_frozen BK496.out 2;have hfz18_3:=blk_frozen BK496.out 3;have hfz18_4:=blk_frozen BK496.out 4;have hfz18_5:=blk_frozen BK496.out 5;have hfz18_6:=blk_frozen BK496.out 6))
    refine bodyPost_ret (results_ct rfl _ _ gb496 42 #[.int .i64 2,.int .i64 a0,.int .i64 0,.int .i64 0,.slice none 0 0,.slice none 0 0,.slice Ao17 t499.length co17] (0,0) _ rfl (by (with_reducible repeat (first|refine zbN ?_ _|refine zbD ?_|refine zbA ?_ _));refine blk_put (cs:=#[.int .i64 2,.int .i64 a0,.int .i64 0,.int .i64 0,.slice none 0 0,.slice none 0 0,.slice none 0 0]) ?_ 6 _ rfl;(with_reducible repeat (first|refine zbN ?_ _|refine zbD ?_|refine zbA ?_ _));refine blk_put (cs:=#[.int .i64 2,.int .i64 a0,.int .i64 0,.int .i64 0,.slice none 0 0,.slice none 0 0,.slice none 0 0]) ?_ 5 _ rfl;(with_reducible repeat (first|refine zbN ?_ _|refine zbD ?_|refine zbA ?_ _));refine blk_put (cs:=#[.int .i64 2,.int .i64 a0,.int .i64 0,.int .i64 0,.slice none 0 0,.slice none 0 0,.slice none 0 0]) ?_ 4 _ rfl;(with_reducible repeat (first|refine zbN ?_ _|refine zbD ?_|refine zbA ?_ _));refine blk_put (cs:=#[.int .i64 2,.int .i64 a0,.int .i64 0,.int .i64 0,.slice none 0 0,.slice none 0 0,.slice none 0 0]) ?_ 3 _ rfl;(with_reducible repeat (first|refine zbN ?_ _|refine zbD ?_|refine zbA ?_ _));refine blk_put (cs:=#[.int .i64 2,.int .i64 a0,.int .i64 0,.int .i64 0,.slice none 0 0,.slice none 0 0,.slice none 0 0]) ?_ 2 _ rfl;(with_reducible repeat (first|refine zbN ?_ _|refine zbD ?_|refine zbA ?_ _));refine blk_put (cs:=#[.int .i64 2,.int .i64 0,.int .i64 0,.int .i64 0,.slice none 0 0,.slice none 0 0,.slice none 0 0]) ?_ 1 _ rfl;(with_reducible repeat (first|refine zbN ?_ _|refine zbD ?_|refine zbA ?_ _));refine blk_put (cs:=#[.int .i64 0,.int .i64 0,.int .i64 0,.int .i64 0,.slice none 0 0,.slice none 0 0,.slice none 0 0]) ?_ 0 _ rfl;(with_reducible repeat (first|refine zbN ?_ _|refine zbD ?_|refine zbA ?_ _));exact BK496.out) Try.underlying42 rfl (by kernel_rfl)) rfl ?_
    exact ⟨_,_,_,by first|rfl|(simp [errW_none,errW_some] <;> rfl)|(simp [*,errW_none,errW_some] <;> rfl),by first|exact Kd.R_nil _ _ _ _ _|exact Kd.N_nil _ _ _ _ _|exact Kd.V_nil _ _ _ _ _|exact Kd.Q_nil _ _ _ _ _|exact Kd.S_nil _ _ _ _ _,by first|exact Kd.R_nil _ _ _ _ _|exact Kd.N_nil _ _ _ _ _|exact Kd.V_nil _ _ _ _ _|exact Kd.Q_nil _ _ _ _ _|exact Kd.S_nil _ _ _ _ _,by (with_reducible repeat (first|apply zrA|apply zrN|apply zrD));exact Kd.R_mono (Kd.R_far (p:=⟨gb496,6,none⟩) (Kd.R_far (p:=⟨gb496,5,none⟩) (Kd.R_far (p:=⟨gb496,4,none⟩) (Kd.R_far (p:=⟨gb496,3,none⟩) (Kd.R_far (p:=⟨gb496,2,none⟩) (Kd.R_far (p:=⟨gb496,1,none⟩) (Kd.R_far (p:=⟨gb496,0,none⟩) (Kd.R_types HO501.out BK496.out (by decide)) (fun _ hk=>hk.2) (.int .i64 2)) (fun _ hk=>hk.2) (.int .i64 a0)) (fun _ hk=>hk.2) (.int .i64 0)) (fun _ hk=>hk.2) (.int .i64 0)) (fun _ hk=>hk.2) (.slice none 0 0)) (fun _ hk=>hk.2) (.slice none 0 0)) (fun _ hk=>hk.2) (.slice Ao17 t499.length co17)) (fun _ hk=>trivial),by repeat (first|(with_reducible first|exact HB.out|apply zlA|apply zlN|apply zlD|refine zlS ?_ GE496.out)|exact HB.out)⟩
 ·replace c4:=Bool.eq_false_iff.mpr c4
  subst c4
  have H1:(some (0,0,0,0,([]:List Bool),([]:List Int),([]:List (S55)),1))=some (r1,r2,r3,r4,r5,r6,r7,r8):=by rw [if_neg (show ¬ (false=true) by decide)] at H;exact H
  clear H
  have H:=H1
  clear H1
  simp only [Option.some.injEq,Prod.mk.injEq] at H
  obtain ⟨rfl,rfl,rfl,rfl,rfl,rfl,rfl,rfl⟩:=H
  go_enter Try.func29,Try.ntmps29
  go_wp2_with (first|((with_reducible refine gate_dst (N:=4) rfl ?_);refine box_event ?hg (N:=4) ?hd (cs:=#[.int .i64 0,.int .i64 0,.int .i64 0,.int .i64 0,.slice none 0 0,.slice none 0 0,.slice none 0 0]) (t:=42) ?hr ?_;(case hd=>rfl);(case hg=>rfl);(case hr=>first|(go_simp;done)|(go_simp;rfl));intro gb496 hg w19 hbox hb;have n0_:=zm (below_step (by repeat (first|(with_reducible first|exact HB.out|apply zlA|apply zlN|apply zlD)|exact HB.out)) hb);have n1_:=zm (hbox);have n2_:=zm ((by rw [hg];exact (below_size (by repeat (first|(with_reducible first|exact HB.out|apply zlA|apply zlN|apply zlD)|exact HB.out))):w.heap.size≤gb496));have n3_:=zm ((by rw [hg];exact (below_size (by repeat (first|(with_reducible first|exact HB.out|apply zlA|apply zlN|apply zlD)|exact HB.out))):w.heap.size≤gb496));clear HB;have HB:=n0_;have BK496:=n1_;have GW496:=n2_;have GE496:=n3_;clear n0_ n1_ n2_ n3_;clear hb hbox hg)|((with_reducible refine gate_callee (f:=65) rfl ?_);refine goesL_ (some 8) rfl rfl Try.func65 (by kernel_rfl) rfl #[.int .i64 a0] rfl (by (try simp only [List.map_toArray,List.map_cons,List.map_nil]);first|done|rfl|(simp only [List.length_drop,List.length_take];rfl)) ?_;(with_reducible refine (mapjnl_gen.calls a0 false _ A3.out).mono ?_);rintro e w' ⟨rfl,⟨nd,rfl⟩⟩;refine ⟨_,rfl,?_⟩;(try (rw [drewN_self w19];generalize hq_:World.drewN w19 _=w19;have n0_:Aside0 (w19.heap[gb496]?=some (.cells #[.int .i64 0,.int .i64 0,.int .i64 0,.int .i64 0,.slice none 0 0,.slice none 0 0,.slice none 0 0] 42 (0,0))):=⟨by rw [← hq_];exact (by (with_reducible repeat (first|refine zbN ?_ _|refine zbD ?_|refine zbA ?_ _));exact BK496.out)⟩;have n1_:Aside0 (Below w.heap.size w w19):=⟨by rw [← hq_];exact (by repeat (first|(with_reducible first|exact HB.out|apply zlA|apply zlN|apply zlD|refine zlS ?_ GE496.out)|exact HB.out))⟩;clear BK496 HB hq_;have BK496:=n0_;have HB:=n1_;clear n0_ n1_));have hcz20_0:w19.cell? ⟨gb496,0,none⟩=some (.int .i64 0):=(blk_cell BK496.out 0).trans rfl;have hcz20_1:w19.cell? ⟨gb496,1,none⟩=some (.int .i64 0):=(blk_cell BK496.out 1).trans rfl;have hcz20_2:w19.cell? ⟨gb496,2,none⟩=some (.int .i64 0):=(blk_cell BK496.out 2).trans rfl;have hcz20_3:w19.cell? ⟨gb496,3,none⟩=some (.int .i64 0):=(blk_cell BK496.out 3).trans rfl;have hcz20_4:w19.cell? ⟨gb496,4,none⟩=some (.slice none 0 0):=(blk_cell BK496.out 4).trans rfl;have hcz20_5:w19.cell? ⟨gb496,5,none⟩=some (.slice none 0 0):=(blk_cell BK496.out 5).trans rfl;have hcz20_6:w19.cell? ⟨gb496,6,none⟩=some (.slice none 0 0):=(blk_cell BK496.out 6).trans rfl;have hfz20_0:=blk_frozen BK496.out 0;have hfz20_1:=blk_frozen BK496.out 1;have hfz20_2:=blk_frozen BK496.out 2;have hfz20_3:=blk_frozen BK496.out 3;have hfz20_4:=blk_frozen BK496.out 4;have hfz20_5:=blk_frozen BK496.out 5;have hfz20_6:=blk_frozen BK496.out 6))
  refine bodyPost_ret (results_ct rfl _ _ gb496 42 #[.int .i64 0,.int .i64 0,.int .i64 0,.int .i64 0,.slice none 0 0,.slice none 0 0,.slice none 0 0] (0,0) _ rfl (by (with_reducible repeat (first|refine zbN ?_ _|refine zbD ?_|refine zbA ?_ _));refine blk_put (cs:=#[.int .i64 0,.int .i64 0,.int .i64 0,.int .i64 0,.slice none 0 0,.slice none 0 0,.slice none 0 0]) ?_ 6 _ rfl;(with_reducible repeat (first|refine zbN ?_ _|refine zbD ?_|refine zbA ?_ _));refine blk_put (cs:=#[.int .i64 0,.int .i64 0,.int .i64 0,.int .i64 0,.slice none 0 0,.slice none 0 0,.slice none 0 0]) ?_ 5 _ rfl;(with_reducible repeat (first|refine zbN ?_ _|refine zbD ?_|refine zbA ?_ _));refine blk_put (cs:=#[.int .i64 0,.int .i64 0,.int .i64 0,.int .i64 0,.slice none 0 0,.slice none 0 0,.slice none 0 0]) ?_ 4 _ rfl;(with_reducible repeat (first|refine zbN ?_ _|refine zbD ?_|refine zbA ?_ _));refine blk_put (cs:=#[.int .i64 0,.int .i64 0,.int .i64 0,.int .i64 0,.slice none 0 0,.slice none 0 0,.slice none 0 0]) ?_ 3 _ rfl;(with_reducible repeat (first|refine zbN ?_ _|refine zbD ?_|refine zbA ?_ _));refine blk_put (cs:=#[.int .i64 0,.int .i64 0,.int .i64 0,.int .i64 0,.slice none 0 0,.slice none 0 0,.slice none 0 0]) ?_ 2 _ rfl;(with_reducible repeat (first|refine zbN ?_ _|refine zbD ?_|refine zbA ?_ _));refine blk_put (cs:=#[.int .i64 0,.int .i64 0,.int .i64 0,.int .i64 0,.slice none 0 0,.slice none 0 0,.slice none 0 0]) ?_ 1 _ rfl;(with_reducible repeat (first|refine zbN ?_ _|refine zbD ?_|refine zbA ?_ _));refine blk_put (cs:=#[.int .i64 0,.int .i64 0,.int .i64 0,.int .i64 0,.slice none 0 0,.slice none 0 0,.slice none 0 0]) ?_ 0 _ rfl;(with_reducible repeat (first|refine zbN ?_ _|refine zbD ?_|refine zbA ?_ _));exact BK496.out) Try.underlying42 rfl (by kernel_rfl)) rfl ?_
  exact ⟨_,_,_,by first|rfl|(simp [errW_none,errW_some] <;> rfl)|(simp [*,errW_none,errW_some] <;> rfl),by first|exact Kd.R_nil _ _ _ _ _|exact Kd.N_nil _ _ _ _ _|exact Kd.V_nil _ _ _ _ _|exact Kd.Q_nil _ _ _ _ _|exact Kd.S_nil _ _ _ _ _,by first|exact Kd.R_nil _ _ _ _ _|exact Kd.N_nil _ _ _ _ _|exact Kd.V_nil _ _ _ _ _|exact Kd.Q_nil _ _ _ _ _|exact Kd.S_nil _ _ _ _ _,by first|exact Kd.R_nil _ _ _ _ _|exact Kd.N_nil _ _ _ _ _|exact Kd.V_nil _ _ _ _ _|exact Kd.Q_nil _ _ _ _ _|exact Kd.S_nil _ _ _ _ _,by repeat (first|(with_reducible first|exact HB.out|apply zlA|apply zlN|apply zlD|refine zlS ?_ GE496.out)|exact HB.out)⟩
end Go.Proofs.Ytkhbmgclklmimaa.Print
end
section
namespace Go.Proofs.Ytkhbmgclklmimaa.Print
open Go.RowKit Go.Proofs.YtkhbmgclklmimaaW.PrintWords Go.Proofs.YtkhbmgclklmimaaW.PrintLast Go.Proofs.YtkhbmgclklmimaaW.PrintMore
attribute [local go_sem] max2_int min2_int max_two min_two max_three min_three max_four min_four   -- for this text's walks alone
attribute [local go_sem ↓] Go.Proofs.Ytkhbmgclklmimaa.Sem.isSome_setCell
attribute [local go_sem] Go.Instr.field Go.asAgg
set_option linter.unusedVariables false
set_option linter.unusedSimpArgs false
mutual
def slipwayref06_Records.j0:Nat → Int → List (S55) → Bool → Option (Int × Int × Int × Int × List Bool × List Int × (List (S55)) × Int)
 | 0,_,_,_=>none
 | k + 1,x0,x1,x12=>if x12=true then (some (0,0,0,0,([]:List Bool),([]:List Int),([]:List (S55)),1)) else (if (x1.length:Int) > 24 then (some (0,0,0,0,([]:List Bool),([]:List Int),([]:List (S55)),3)) else (slipwayref06_Records.l0 k x0 x1 0))
def slipwayref06_Records.l0:Nat → Int → List (S55) → Int → Option (Int × Int × Int × Int × List Bool × List Int × (List (S55)) × Int)
 | 0,_,_,_=>none
 | k + 1,x0,x1,x6=>if x6 < (x1.length:Int) then (if 0≤x6 then ((slipwayref06_may.f k ((rd_T55 x1 x6).f0) ((rd_T55 x1 x6).f1) ((rd_T55 x1 x6).f2)).bind fun t504=>(if t504=true then (slipwayref06_Records.l0 k x0 x1 (wrap64 (x6 + 1))) else (some (0,0,0,0,([]:List Bool),([]:List Int),([]:List (S55)),61)))) else (none)) else (if ([]:List (S55)).length + x1.length < 5864062014805 then (some (2,x0,0,0,([]:List Bool),([]:List Int),(([]:List (S55)) ++ x1),0)) else (none))
end
def slipwayref06_Records.f (k:Nat) (a0:Int) (l1:List (S55)):Option (Int × Int × Int × Int × List Bool × List Int × (List (S55)) × Int):=if a0 < 0 then (slipwayref06_Records.j0 k a0 l1 true) else (slipwayref06_Records.j0 k a0 l1 (decide (a0 > 1152921504606846976)))
set_option maxHeartbeats 8000000 in
set_option maxRecDepth 100000 in
theorem slipwayref06_Records.calls (k:Nat) (a0:Int) (A1:Option Addr) (c1:Nat) (l1:List (S55)) (r1:Int) (r2:Int) (r3:Int) (r4:Int) (r5:List Bool) (r6:List Int) (r7:List (S55)) (r8:Int) (w:World) (hr1:Kd.C k55 w A1 l1.length l1) (hc1:l1.length≤c1) (h:slipwayref06_Records.f k a0 l1=some (r1,r2,r3,r4,r5,r6,r7,r8)) :
  Calls Try.prog 30 #[.int .i64 a0,.slice A1 l1.length c1] w fun e w'=>∃ v4_ v5_ v6_:Value,e=.returned (.tuple #[.agg #[.int .i64 r1,.int .i64 r2,.int .i64 r3,.int .i64 r4,v4_,v5_,v6_],.int .i64 r8])∧Kd.R Kd.bool 4 w' w.heap.size (fun _=>True) v4_ r5∧Kd.R (Kd.int .i64) 2 w' w.heap.size (fun _=>True) v5_ r6∧Kd.R k55 55 w' w.heap.size (fun _=>True) v6_ r7∧Below w.heap.size w w':=by
 have hu42:=Try.underlying42
 have hu55:=Try.underlying55
 have HR1:=zm hr1
 have HC1:=zm hc1
 clear hr1 hc1
 have HB:=zm (Below.refl w.heap.size w)
 have H:(if a0 < 0 then (slipwayref06_Records.j0 k a0 l1 true) else (slipwayref06_Records.j0 k a0 l1 (decide (a0 > 1152921504606846976))))=some (r1,r2,r3,r4,r5,r6,r7,r8):=h
 clear h
 have HC3:=zm H
 clear H
 go_enter Try.func30,Try.ntmps30
 go_upto_region 1 with (first|((with_reducible refine gate_dst (N:=4) rfl ?_);refine box_event ?hg (N:=4) ?hd (cs:=#[.int .i64 0,.int .i64 0,.int .i64 0,.int .i64 0,.slice none 0 0,.slice none 0 0,.slice none 0 0]) (t:=42) ?hr ?_;(case hd=>rfl);(case hg=>rfl);(case hr=>first|(go_simp;done)|(go_simp;rfl));intro gb502 hg w4 hbox hb;have n0_:=zm (below_step (by repeat (first|(with_reducible first|exact HB.out|apply zlA|apply zlN|apply zlD)|exact HB.out)) hb);have n1_:=zm (hbox);have n2_:=zm ((by rw [hg];exact (below_size (by repeat (first|(with_reducible first|exact HB.out|apply zlA|apply zlN|apply zlD)|exact HB.out))):w.heap.size≤gb502));have n3_:=zm ((by rw [hg];exact (below_size (by repeat (first|(with_reducible first|exact HB.out|apply zlA|apply zlN|apply zlD)|exact HB.out))):w.heap.size≤gb502));clear HB;have HB:=n0_;have BK502:=n1_;have GW502:=n2_;have GE502:=n3_;clear n0_ n1_ n2_ n3_;clear hb hbox hg))
 (try simp only [Act.put,List.setIfInBounds_toArray,List.set_cons_zero,List.set_cons_succ])
 go_cut [12] (fun v12 wc=>∃ (kq:Nat) (x12_2:Bool),v12=.bool x12_2∧Aside0 (slipwayref06_Records.j0 kq a0 l1 x12_2=some (r1,r2,r3,r4,r5,r6,r7,r8))∧Aside0 (kq≤k)∧Aside0 (wc.heap[gb502]?=some (.cells #[.int .i64 0,.int .i64 0,.int .i64 0,.int .i64 0,(.slice none 0 0),(.slice none 0 0),(.slice none 0 0)] 42 (0,0)))∧Aside0 (Below w.heap.size w wc))
 case first =>
  have H:=HC3.out
  clear HC3
  by_cases c5:a0 < 0
  ·rw [if_pos c5] at H
   have c5b0:decide (a0 < 0)=true:=decide_eq_true c5
   clear c5
   (first|rw [c5b0]|(simp only [i64_w,i32_w];rw [c5b0])|skip)
   have H':=zm H
   clear H
   go_wp2
   go_meet
   case rel=>exact ⟨_,(true),(by first|rfl|(simp;done)|(simp [*];done)),H',⟨by first|omega|exact Nat.le_refl _⟩,⟨by (with_reducible repeat (first|refine zbN ?_ _|refine zbD ?_|refine zbA ?_ _));exact BK502.out⟩,⟨by repeat (first|(with_reducible first|exact HB.out|apply zlA|apply zlN|apply zlD|refine zlS ?_ GE502.out)|exact HB.out)⟩⟩
  ·rw [if_neg c5] at H
   have c5b0:decide (a0 < 0)=false:=decide_eq_false c5
   clear c5
   (first|rw [c5b0]|(simp only [i64_w,i32_w];rw [c5b0])|skip)
   have H':=zm H
   clear H
   go_wp2
   go_meet
   case rel=>exact ⟨_,(decide (a0 > 1152921504606846976)),(by first|rfl|(simp;done)|(simp [*];done)),H',⟨by first|omega|exact Nat.le_refl _⟩,⟨by (with_reducible repeat (first|refine zbN ?_ _|refine zbD ?_|refine zbA ?_ _));exact BK502.out⟩,⟨by repeat (first|(with_reducible first|exact HB.out|apply zlA|apply zlN|apply zlD|refine zlS ?_ GE502.out)|exact HB.out)⟩⟩
 case rest =>
  clear HC3
  try clear c1
  try clear p2
  try clear c3
  try clear c5
  try clear c5b0
  obtain ⟨kq,x12_2,rfl,HA,HJ2,BK502,HB⟩:=hcut
  cases kq with
  | zero=>exact absurd HA.out (by simp [slipwayref06_Records.j0])
  | succ kj2 =>
   have H:=HA.out
   clear HA
   simp only [slipwayref06_Records.j0] at H
   by_cases c6:x12_2=true
   ·subst c6
    have H1:(some (0,0,0,0,([]:List Bool),([]:List Int),([]:List (S55)),1))=some (r1,r2,r3,r4,r5,r6,r7,r8):=by rw [if_pos rfl] at H;exact H
    clear H
    have H:=H1
    clear H1
    simp only [Option.some.injEq,Prod.mk.injEq] at H
    obtain ⟨rfl,rfl,rfl,rfl,rfl,rfl,rfl,rfl⟩:=H
    have hcz7_0:wc.cell? ⟨gb502,0,none⟩=some (.int .i64 0):=(blk_cell BK502.out 0).trans rfl
    have hcz7_1:wc.cell? ⟨gb502,1,none⟩=some (.int .i64 0):=(blk_cell BK502.out 1).trans rfl
    have hcz7_2:wc.cell? ⟨gb502,2,none⟩=some (.int .i64 0):=(blk_cell BK502.out 2).trans rfl
    have hcz7_3:wc.cell? ⟨gb502,3,none⟩=some (.int .i64 0):=(blk_cell BK502.out 3).trans rfl
    have hcz7_4:wc.cell? ⟨gb502,4,none⟩=some (.slice none 0 0):=(blk_cell BK502.out 4).trans rfl
    have hcz7_5:wc.cell? ⟨gb502,5,none⟩=some (.slice none 0 0):=(blk_cell BK502.out 5).trans rfl
    have hcz7_6:wc.cell? ⟨gb502,6,none⟩=some (.slice none 0 0):=(blk_cell BK502.out 6).trans rfl
    have hfz7_0:=blk_frozen BK502.out 0
    have hfz7_1:=blk_frozen BK502.out 1
    have hfz7_2:=blk_frozen BK502.out 2
    have hfz7_3:=blk_frozen BK502.out 3
    have hfz7_4:=blk_frozen BK502.out 4
    have hfz7_5:=blk_frozen BK502.out 5
    have hfz7_6:=blk_frozen BK502.out 6
    go_wp2
    refine bodyPost_ret (results_ct rfl _ _ gb502 42 #[.int .i64 0,.int .i64 0,.int .i64 0,.int .i64 0,.slice none 0 0,.slice none 0 0,.slice none 0 0] (0,0) _ rfl (by (with_reducible repeat (first|refine zbN ?_ _|refine zbD ?_|refine zbA ?_ _));refine blk_put (cs:=#[.int .i64 0,.int .i64 0,.int .i64 0,.int .i64 0,.slice none 0 0,.slice none 0 0,.slice none 0 0]) ?_ 6 _ rfl;(with_reducible repeat (first|refine zbN ?_ _|refine zbD ?_|refine zbA ?_ _));refine blk_put (cs:=#[.int .i64 0,.int .i64 0,.int .i64 0,.int .i64 0,.slice none 0 0,.slice none 0 0,.slice none 0 0]) ?_ 5 _ rfl;(with_reducible repeat (first|refine zbN ?_ _|refine zbD ?_|refine zbA ?_ _));refine blk_put (cs:=#[.int .i64 0,.int .i64 0,.int .i64 0,.int .i64 0,.slice none 0 0,.slice none 0 0,.slice none 0 0]) ?_ 4 _ rfl;(with_reducible repeat (first|refine zbN ?_ _|refine zbD ?_|refine zbA ?_ _));refine blk_put (cs:=#[.int .i64 0,.int .i64 0,.int .i64 0,.int .i64 0,.slice none 0 0,.slice none 0 0,.slice none 0 0]) ?_ 3 _ rfl;(with_reducible repeat (first|refine zbN ?_ _|refine zbD ?_|refine zbA ?_ _));refine blk_put (cs:=#[.int .i64 0,.int .i64 0,.int .i64 0,.int .i64 0,.slice none 0 0,.slice none 0 0,.slice none 0 0]) ?_ 2 _ rfl;(with_reducible repeat (first|refine zbN ?_ _|refine zbD ?_|refine zbA ?_ _));refine blk_put (cs:=#[.int .i64 0,.int .i64 0,.int .i64 0,.int .i64 0,.slice none 0 0,.slice none 0 0,.slice none 0 0]) ?_ 1 _ rfl;(with_reducible repeat (first|refine zbN ?_ _|refine zbD ?_|refine zbA ?_ _));refine blk_put (cs:=#[.int .i64 0,.int .i64 0,.int .i64 0,.int .i64 0,.slice none 0 0,.slice none 0 0,.slice none 0 0]) ?_ 0 _ rfl;(with_reducible repeat (first|refine zbN ?_ _|refine zbD ?_|refine zbA ?_ _));exact BK502.out) Try.underlying42 rfl (by kernel_rfl)) rfl ?_
    exact ⟨_,_,_,by first|rfl|(simp [errW_none,errW_some] <;> rfl)|(simp [*,errW_none,errW_some] <;> rfl),by first|exact Kd.R_nil _ _ _ _ _|exact Kd.N_nil _ _ _ _ _|exact Kd.V_nil _ _ _ _ _|exact Kd.Q_nil _ _ _ _ _|exact Kd.S_nil _ _ _ _ _,by first|exact Kd.R_nil _ _ _ _ _|exact Kd.N_nil _ _ _ _ _|exact Kd.V_nil _ _ _ _ _|exact Kd.Q_nil _ _ _ _ _|exact Kd.S_nil _ _ _ _ _,by first|exact Kd.R_nil _ _ _ _ _|exact Kd.N_nil _ _ _ _ _|exact Kd.V_nil _ _ _ _ _|exact Kd.Q_nil _ _ _ _ _|exact Kd.S_nil _ _ _ _ _,by repeat (first|(with_reducible first|exact HB.out|apply zlA|apply zlN|apply zlD|refine zlS ?_ GE502.out)|exact HB.out)⟩
   ·replace c6:=Bool.eq_false_iff.mpr c6
    subst c6
    have H1:(if (l1.length:Int) > 24 then (some (0,0,0,0,([]:List Bool),([]:List Int),([]:List (S55)),3)) else (slipwayref06_Records.l0 kj2 a0 l1 0))=some (r1,r2,r3,r4,r5,r6,r7,r8):=by rw [if_neg (show ¬ (false=true) by decide)] at H;exact H
    clear H
    have H:=H1
    clear H1
    by_cases c8:(l1.length:Int) > 24
    ·rw [if_pos c8] at H
     have c8b0:decide (24 < (l1.length:Int))=true:=decide_eq_true c8
     have c8b1:decide (24 < l1.length)=true:=decide_eq_true (by omega)
     clear c8
     simp only [Option.some.injEq,Prod.mk.injEq] at H
     obtain ⟨rfl,rfl,rfl,rfl,rfl,rfl,rfl,rfl⟩:=H
     have hcz9_0:wc.cell? ⟨gb502,0,none⟩=some (.int .i64 0):=(blk_cell BK502.out 0).trans rfl
     have hcz9_1:wc.cell? ⟨gb502,1,none⟩=some (.int .i64 0):=(blk_cell BK502.out 1).trans rfl
     have hcz9_2:wc.cell? ⟨gb502,2,none⟩=some (.int .i64 0):=(blk_cell BK502.out 2).trans rfl
     have hcz9_3:wc.cell? ⟨gb502,3,none⟩=some (.int .i64 0):=(blk_cell BK502.out 3).trans rfl
     have hcz9_4:wc.cell? ⟨gb502,4,none⟩=some (.slice none 0 0):=(blk_cell BK502.out 4).trans rfl
     have hcz9_5:wc.cell? ⟨gb502,5,none⟩=some (.slice none 0 0):=(blk_cell BK502.out 5).trans rfl
     have hcz9_6:wc.cell? ⟨gb502,6,none⟩=some (.slice none 0 0):=(blk_cell BK502.out 6).trans rfl
     have hfz9_0:=blk_frozen BK502.out 0
     have hfz9_1:=blk_frozen BK502.out 1
     have hfz9_2:=blk_frozen BK502.out 2
     have hfz9_3:=blk_frozen BK502.out 3
     have hfz9_4:=blk_frozen BK502.out 4
     have hfz9_5:=blk_frozen BK502.out 5
     have hfz9_6:=blk_frozen BK502.out 6
     go_wp2
     refine bodyPost_ret (results_ct rfl _ _ gb502 42 #[.int .i64 0,.int .i64 0,.int .i64 0,.int .i64 0,.slice none 0 0,.slice none 0 0,.slice none 0 0] (0,0) _ rfl (by (with_reducible repeat (first|refine zbN ?_ _|refine zbD ?_|refine zbA ?_ _));refine blk_put (cs:=#[.int .i64 0,.int .i64 0,.int .i64 0,.int .i64 0,.slice none 0 0,.slice none 0 0,.slice none 0 0]) ?_ 6 _ rfl;(with_reducible repeat (first|refine zbN ?_ _|refine zbD ?_|refine zbA ?_ _));refine blk_put (cs:=#[.int .i64 0,.int .i64 0,.int .i64 0,.int .i64 0,.slice none 0 0,.slice none 0 0,.slice none 0 0]) ?_ 5 _ rfl;(with_reducible repeat (first|refine zbN ?_ _|refine zbD ?_|refine zbA ?_ _));refine blk_put (cs:=#[.int .i64 0,.int .i64 0,.int .i64 0,.int .i64 0,.slice none 0 0,.slice none 0 0,.slice none 0 0]) ?_ 4 _ rfl;(with_reducible repeat (first|refine zbN ?_ _|refine zbD ?_|refine zbA ?_ _));refine blk_put (cs:=#[.int .i64 0,.int .i64 0,.int .i64 0,.int .i64 0,.slice none 0 0,.slice none 0 0,.slice none 0 0]) ?_ 3 _ rfl;(with_reducible repeat (first|refine zbN ?_ _|refine zbD ?_|refine zbA ?_ _));refine blk_put (cs:=#[.int .i64 0,.int .i64 0,.int .i64 0,.int .i64 0,.slice none 0 0,.slice none 0 0,.slice none 0 0]) ?_ 2 _ rfl;(with_reducible repeat (first|refine zbN ?_ _|refine zbD ?_|refine zbA ?_ _));refine blk_put (cs:=#[.int .i64 0,.int .i64 0,.int .i64 0,.int .i64 0,.slice none 0 0,.slice none 0 0,.slice none 0 0]) ?_ 1 _ rfl;(with_reducible repeat (first|refine zbN ?_ _|refine zbD ?_|refine zbA ?_ _));refine blk_put (cs:=#[.int .i64 0,.int .i64 0,.int .i64 0,.int .i64 0,.slice none 0 0,.slice none 0 0,.slice none 0 0]) ?_ 0 _ rfl;(with_reducible repeat (first|refine zbN ?_ _|refine zbD ?_|refine zbA ?_ _));exact BK502.out) Try.underlying42 rfl (by kernel_rfl)) rfl ?_
     exact ⟨_,_,_,by first|rfl|(simp [errW_none,errW_some] <;> rfl)|(simp [*,errW_none,errW_some] <;> rfl),by first|exact Kd.R_nil _ _ _ _ _|exact Kd.N_nil _ _ _ _ _|exact Kd.V_nil _ _ _ _ _|exact Kd.Q_nil _ _ _ _ _|exact Kd.S_nil _ _ _ _ _,by first|exact Kd.R_nil _ _ _ _ _|exact Kd.N_nil _ _ _ _ _|exact Kd.V_nil _ _ _ _ _|exact Kd.Q_nil _ _ _ _ _|exact Kd.S_nil _ _ _ _ _,by first|exact Kd.R_nil _ _ _ _ _|exact Kd.N_nil _ _ _ _ _|exact Kd.V_nil _ _ _ _ _|exact Kd.Q_nil _ _ _ _ _|exact Kd.S_nil _ _ _ _ _,by repeat (first|(with_reducible first|exact HB.out|apply zlA|apply zlN|apply zlD|refine zlS ?_ GE502.out)|exact HB.out)⟩
    ·rw [if_neg c8] at H
     have c8b0:decide (24 < (l1.length:Int))=false:=decide_eq_false c8
     have c8b1:decide (24 < l1.length)=false:=decide_eq_false (by omega)
     clear c8
     have H':=zm H
     clear H
     go_wp2
     go_loopg [6] kj2 (fun kq v6 w'=>∃ (x6_2:Int) (x503000_2:Int) (x503001_2:Int) (x503002_2:Int) (x503003_2:Int),v6=.int .i64 x6_2∧Aside0 (slipwayref06_Records.l0 kq a0 l1 x6_2=some (r1,r2,r3,r4,r5,r6,r7,r8))∧Aside0 (kq≤kj2)∧Aside0 (w'.heap[gb502]?=some (.cells #[.int .i64 x503000_2,.int .i64 x503001_2,.int .i64 x503002_2,.int .i64 x503003_2,(.slice none 0 0),(.slice none 0 0),(.slice none 0 0)] 42 (0,0)))∧Aside0 (Below w.heap.size w w'))
     case atStart=>exact ⟨(0),(0),(0),(0),(0),(by first|rfl|(simp;done)|(simp [*];done)),H',⟨Nat.le_refl _⟩,⟨by (with_reducible repeat (first|refine zbN ?_ _|refine zbD ?_|refine zbA ?_ _));exact BK502.out⟩,⟨by repeat (first|(with_reducible first|exact HB.out|apply zlA|apply zlN|apply zlD|refine zlS ?_ GE502.out)|exact HB.out)⟩⟩
     case round =>
      clear H'
      try clear c1
      try clear p2
      try clear c3
      try clear c5
      try clear c5b0
      try clear c6
      try clear c8
      try clear c8b0
      try clear c8b1
      try clear hcz7_0
      try clear hcz7_1
      try clear hcz7_2
      try clear hcz7_3
      try clear hcz7_4
      try clear hcz7_5
      try clear hcz7_6
      try clear hcz9_0
      try clear hcz9_1
      try clear hcz9_2
      try clear hcz9_3
      try clear hcz9_4
      try clear hcz9_5
      try clear hcz9_6
      try clear hfz7_0
      try clear hfz7_1
      try clear hfz7_2
      try clear hfz7_3
      try clear hfz7_4
      try clear hfz7_5
      try clear hfz7_6
      try clear hfz9_0
      try clear hfz9_1
      try clear hfz9_2
      try clear hfz9_3
      try clear hfz9_4
      try clear hfz9_5
      try clear hfz9_6
      try clear p2
      obtain ⟨x6_2,x503000_2,x503001_2,x503002_2,x503003_2,rfl,HA,HK2,BK502,HB⟩:=hrel
      cases gk with
      | zero=>exact absurd HA.out (by simp [slipwayref06_Records.l0])
      | succ k2 =>
       have H:=HA.out
       clear HA
       simp only [slipwayref06_Records.l0] at H
       by_cases c10:x6_2 < (l1.length:Int)
       ·rw [if_pos c10] at H
        have c10b0:decide (x6_2 < (l1.length:Int))=true:=decide_eq_true c10
        clear c10
        by_cases c11:0≤x6_2
        ·rw [if_pos c11] at H
         have c11b0:decide (0≤x6_2)=true:=decide_eq_true c11
         clear c11
         replace H:=Option.bind_eq_some_iff.mp H
         obtain ⟨t504,A120,H⟩:=H
         replace H:(if t504=true then (slipwayref06_Records.l0 k2 a0 l1 (wrap64 (x6_2 + 1))) else (some (0,0,0,0,([]:List Bool),([]:List Int),([]:List (S55)),61)))=some (r1,r2,r3,r4,r5,r6,r7,r8):=H
         have A12:=zm A120
         clear A120
         by_cases c13:t504=true
         ·subst c13
          have H1:(slipwayref06_Records.l0 k2 a0 l1 (wrap64 (x6_2 + 1)))=some (r1,r2,r3,r4,r5,r6,r7,r8):=by rw [if_pos rfl] at H;exact H
          clear H
          have H:=H1
          clear H1
          have H':=zm H
          clear H
          have p503:0≤(x6_2:Int):=of_decide_eq_true (by first|(with_reducible assumption)|assumption)
          have q503:x6_2 < (l1.length:Int):=of_decide_eq_true (by first|(with_reducible assumption)|assumption)
          obtain ⟨ad503,e503,hx503_0,hx503_1,hx503_2⟩:=at_T55 HR1.out x6_2 p503 q503
          cases e503
          replace hx503_0:=(HB.out.cell (World.block_lt_of_cell? w _ hx503_0)).trans hx503_0
          replace hx503_1:=(HB.out.cell (World.block_lt_of_cell? w _ hx503_1)).trans hx503_1
          replace hx503_2:=(HB.out.cell (World.block_lt_of_cell? w _ hx503_2)).trans hx503_2
          replace p503:=eq_true p503
          replace q503:=eq_true q503
          go_wp2_with (first|((with_reducible refine gate_callee (f:=63) rfl ?_);refine goesL_ (some 28) rfl rfl Try.func63 (by kernel_rfl) rfl #[.agg #[.int .i64 ((rd_T55 l1 x6_2).f0),.int .i64 ((rd_T55 l1 x6_2).f1),.int .i64 ((rd_T55 l1 x6_2).f2)]] rfl (by (try simp only [List.map_toArray,List.map_cons,List.map_nil]);first|done|rfl|(simp only [List.length_drop,List.length_take];rfl)) ?_;(with_reducible refine (slipwayref06_may.calls k2 ((rd_T55 l1 x6_2).f0) ((rd_T55 l1 x6_2).f1) ((rd_T55 l1 x6_2).f2) true _ A12.out).mono ?_);rintro e w14 ⟨rfl,hb⟩;refine ⟨_,rfl,?_⟩;have n0_:=zm (zbB (g:=gb502) (o:=.cells #[.int .i64 x503000_2,.int .i64 x503001_2,.int .i64 x503002_2,.int .i64 x503003_2,.slice none 0 0,.slice none 0 0,.slice none 0 0] 42 (0,0)) (by (with_reducible repeat (first|refine zbN ?_ _|refine zbD ?_|refine zbA ?_ _));exact BK502.out) hb);have n1_:=zm (below_step (by repeat (first|(with_reducible first|exact HB.out|apply zlA|apply zlN|apply zlD|refine zlS ?_ GE502.out)|exact HB.out)) hb);clear BK502 HB;have BK502:=n0_;have HB:=n1_;clear n0_ n1_;(try clear hb);(try clear hb2);(try clear hk);(try clear hi)))
          go_roundg k2
          case measure=>have:=HJ2.out;have:=HK2.out;omega
          case rel=>exact ⟨(wrap64 (x6_2 + 1)),(x503000_2),(x503001_2),(x503002_2),(x503003_2),(by first|rfl|(simp;done)|(simp [*];done)),H',⟨by have:=HJ2.out;have:=HK2.out;omega⟩,⟨by (with_reducible repeat (first|refine zbN ?_ _|refine zbD ?_|refine zbA ?_ _));exact BK502.out⟩,⟨by repeat (first|(with_reducible first|exact HB.out|apply zlA|apply zlN|apply zlD|refine zlS ?_ GE502.out)|exact HB.out)⟩⟩
         ·replace c13:=Bool.eq_false_iff.mpr c13
          subst c13
          have H1:(some (0,0,0,0,([]:List Bool),([]:List Int),([]:List (S55)),61))=some (r1,r2,r3,r4,r5,r6,r7,r8):=by rw [if_neg (show ¬ (false=true) by decide)] at H;exact H
          clear H
          have H:=H1
          clear H1
          simp only [Option.some.injEq,Prod.mk.injEq] at H
          obtain ⟨rfl,rfl,rfl,rfl,rfl,rfl,rfl,rfl⟩:=H
          have p503:0≤(x6_2:Int):=of_decide_eq_true (by first|(with_reducible assumption)|assumption)
          have q503:x6_2 < (l1.length:Int):=of_decide_eq_true (by first|(with_reducible assumption)|assumption)
          obtain ⟨ad503,e503,hx503_0,hx503_1,hx503_2⟩:=at_T55 HR1.out x6_2 p503 q503
          cases e503
          replace hx503_0:=(HB.out.cell (World.block_lt_of_cell? w _ hx503_0)).trans hx503_0
          replace hx503_1:=(HB.out.cell (World.block_lt_of_cell? w _ hx503_1)).trans hx503_1
          replace hx503_2:=(HB.out.cell (World.block_lt_of_cell? w _ hx503_2)).trans hx503_2
          replace p503:=eq_true p503
          replace q503:=eq_true q503
          go_wp2_with (first|((with_reducible refine gate_callee (f:=63) rfl ?_);refine goesL_ (some 28) rfl rfl Try.func63 (by kernel_rfl) rfl #[.agg #[.int .i64 ((rd_T55 l1 x6_2).f0),.int .i64 ((rd_T55 l1 x6_2).f1),.int .i64 ((rd_T55 l1 x6_2).f2)]] rfl (by (try simp only [List.map_toArray,List.map_cons,List.map_nil]);first|done|rfl|(simp only [List.length_drop,List.length_take];rfl)) ?_;(with_reducible refine (slipwayref06_may.calls k2 ((rd_T55 l1 x6_2).f0) ((rd_T55 l1 x6_2).f1) ((rd_T55 l1 x6_2).f2) false _ A12.out).mono ?_);rintro e w15 ⟨rfl,hb⟩;refine ⟨_,rfl,?_⟩;have n0_:=zm (zbB (g:=gb502) (o:=.cells #[.int .i64 x503000_2,.int .i64 x503001_2,.int .i64 x503002_2,.int .i64 x503003_2,.slice none 0 0,.slice none 0 0,.slice none 0 0] 42 (0,0)) (by (with_reducible repeat (first|refine zbN ?_ _|refine zbD ?_|refine zbA ?_ _));exact BK502.out) hb);have n1_:=zm (below_step (by repeat (first|(with_reducible first|exact HB.out|apply zlA|apply zlN|apply zlD|refine zlS ?_ GE502.out)|exact HB.out)) hb);clear BK502 HB;have BK502:=n0_;have HB:=n1_;clear n0_ n1_;(try clear hb);(try clear hb2);(try clear hk);(try clear hi);have hcz16_0:w15.cell? ⟨gb502,0,none⟩=some (.int .i64 x503000_2):=(blk_cell BK502.out 0).trans rfl;have hcz16_1:w15.cell? ⟨gb502,1,none⟩=some (.int .i64 x503001_2):=(blk_cell BK502.out 1).trans rfl;have hcz16_2:w15.cell? ⟨gb502,2,none⟩=some (.int .i64 x503002_2):=(blk_cell BK502.out 2).trans rfl;have hcz16_3:w15.cell? ⟨gb502,3,none⟩=some (.int .i64 x503003_2):=(blk_cell BK502.out 3).trans rfl;have hcz16_4:w15.cell? ⟨gb502,4,none⟩=some (.slice none 0 0):=(blk_cell BK502.out 4).trans rfl;have hcz16_5:w15.cell? ⟨gb502,5,none⟩=some (.slice none 0 0):=(blk_cell BK502.out 5).trans rfl;have hcz16_6:w15.cell? ⟨gb502,6,none⟩=some (.slice none 0 0):=(blk_cell BK502.out 6).trans rfl;have hfz16_0:=blk_frozen BK502.out 0;have hfz16_1:=blk_frozen BK502.out 1;have hfz16_2:=blk_frozen BK502.out 2;have hfz16_3:=blk_frozen BK502.out 3;have hfz16_4:=blk_frozen BK502.out 4;have hfz16_5:=blk_frozen BK502.out 5;have hfz16_6:=blk_frozen BK502.out 6))
          refine bodyPost_ret (results_ct rfl _ _ gb502 42 #[.int .i64 0,.int .i64 0,.int .i64 0,.int .i64 0,.slice none 0 0,.slice none 0 0,.slice none 0 0] (0,0) _ rfl (by (with_reducible repeat (first|refine zbN ?_ _|refine zbD ?_|refine zbA ?_ _));refine blk_put (cs:=#[.int .i64 0,.int .i64 0,.int .i64 0,.int .i64 0,.slice none 0 0,.slice none 0 0,.slice none 0 0]) ?_ 6 _ rfl;(with_reducible repeat (first|refine zbN ?_ _|refine zbD ?_|refine zbA ?_ _));refine blk_put (cs:=#[.int .i64 0,.int .i64 0,.int .i64 0,.int .i64 0,.slice none 0 0,.slice none 0 0,.slice none 0 0]) ?_ 5 _ rfl;(with_reducible repeat (first|refine zbN ?_ _|refine zbD ?_|refine zbA ?_ _));refine blk_put (cs:=#[.int .i64 0,.int .i64 0,.int .i64 0,.int .i64 0,.slice none 0 0,.slice none 0 0,.slice none 0 0]) ?_ 4 _ rfl;(with_reducible repeat (first|refine zbN ?_ _|refine zbD ?_|refine zbA ?_ _));refine blk_put (cs:=#[.int .i64 0,.int .i64 0,.int .i64 0,.int .i64 x503003_2,.slice none 0 0,.slice none 0 0,.slice none 0 0]) ?_ 3 _ rfl;(with_reducible repeat (first|refine zbN ?_ _|refine zbD ?_|refine zbA ?_ _));refine blk_put (cs:=#[.int .i64 0,.int .i64 0,.int .i64 x503002_2,.int .i64 x503003_2,.slice none 0 0,.slice none 0 0,.slice none 0 0]) ?_ 2 _ rfl;(with_reducible repeat (first|refine zbN ?_ _|refine zbD ?_|refine zbA ?_ _));refine blk_put (cs:=#[.int .i64 0,.int .i64 x503001_2,.int .i64 x503002_2,.int .i64 x503003_2,.slice none 0 0,.slice none 0 0,.slice none 0 0]) ?_ 1 _ rfl;(with_reducible repeat (first|refine zbN ?_ _|refine zbD ?_|refine zbA ?_ _));refine blk_put (cs:=#[.int .i64 x503000_2,.int .i64 x503001_2,.int .i64 x503002_2,.int .i64 x503003_2,.slice none 0 0,.slice none 0 0,.slice none 0 0]) ?_ 0 _ rfl;(with_reducible repeat (first|refine zbN ?_ _|refine zbD ?_|refine zbA ?_ _));exact BK502.out) Try.underlying42 rfl (by kernel_rfl)) rfl ?_
          exact ⟨_,_,_,by first|rfl|(simp [errW_none,errW_some] <;> rfl)|(simp [*,errW_none,errW_some] <;> rfl),by first|exact Kd.R_nil _ _ _ _ _|exact Kd.N_nil _ _ _ _ _|exact Kd.V_nil _ _ _ _ _|exact Kd.Q_nil _ _ _ _ _|exact Kd.S_nil _ _ _ _ _,by first|exact Kd.R_nil _ _ _ _ _|exact Kd.N_nil _ _ _ _ _|exact Kd.V_nil _ _ _ _ _|exact Kd.Q_nil _ _ _ _ _|exact Kd.S_nil _ _ _ _ _,by first|exact Kd.R_nil _ _ _ _ _|exact Kd.N_nil _ _ _ _ _|exact Kd.V_nil _ _ _ _ _|exact Kd.Q_nil _ _ _ _ _|exact Kd.S_nil _ _ _ _ _,by repeat (first|(with_reducible first|exact HB.out|apply zlA|apply zlN|apply zlD|refine zlS ?_ GE502.out)|exact HB.out)⟩
        ·rw [if_neg c11] at H
         exact absurd H (by simp)
       ·rw [if_neg c10] at H
        have c10b0:decide (x6_2 < (l1.length:Int))=false:=decide_eq_false c10
        clear c10
        by_cases c17:([]:List (S55)).length + l1.length < 5864062014805
        ·rw [if_pos c17] at H
         have LMc17:=zm c17
         clear c17
         obtain ⟨y505,hy505⟩:∃ y_:List (S55),y_=(([]:List (S55)) ++ l1):=⟨_,rfl⟩
         replace H:(some (2,a0,0,0,([]:List Bool),([]:List Int),y505,0))=some (r1,r2,r3,r4,r5,r6,r7,r8):=by first|(rw [hy505];with_reducible exact H)|(have H2_:=(Option.bind_some _ _).symm.trans H;rw [hy505];with_reducible exact H2_)|(have H2_:=(Option.bind_some _ _).symm.trans H;with_reducible exact H2_)|with_reducible exact H|(rw [hy505];exact H)|exact H
         have Ny505:=zm hy505
         clear hy505
         simp only [Option.some.injEq,Prod.mk.injEq] at H
         obtain ⟨rfl,rfl,rfl,rfl,rfl,rfl,rfl,rfl⟩:=H
         go_wp2_with (first|((with_reducible refine gate_builtin (b:=.append) (xs:=#[.const (.slice none 0 0),.tmp 32]) rfl ?_);at_builtin;refine Kd.R_append_rows k55 (w0:=w) w.heap.size rfl (.const (.slice none 0 0)) (.tmp 32) 34 55 (.agg #[(.int .i64 0),(.int .i64 0),(.int .i64 0)]) 24 rfl Try.underlying34 info55 rfl (by decide) (by omega) (.slice none 0 0) ([]:List (S55)) l1 _ _ _ (fun _=>True) (fun _=>False) rfl rfl ?aO ?aR (fun _ _ h=>h) (fun _ h=>h.elim) ?aF ?aB ?aS ?aL ?_;(case aR=>repeat (first|exact (Kd.C_below HR1.out HB.out)|(with_reducible refine Kd.C_alloc ?_ _)|(with_reducible refine Kd.C_drewN ?_ _)|(with_reducible refine Kd.C_drew ?_)));(case aB=>exact (by repeat (first|(with_reducible first|exact HB.out|apply zlA|apply zlN|apply zlD|refine zlS ?_ GE502.out)|exact HB.out)));(case aF=>exact (fun _ _=>trivial));(case aO=>exact ((Kd.R_nil _ _ _ _ (fun _=>True))));(case aS=>exact (below_size (by repeat (first|(with_reducible first|exact HB.out|apply zlA|apply zlN|apply zlD|refine zlS ?_ GE502.out)|exact HB.out))));(case aL=>have:=LMc17.out;omega);intro v506 w18 ho hb hg hat;rw [← Ny505.out] at ho;have n0_:=zm (blk_grown (g:=gb502) (o:=.cells #[.int .i64 x503000_2,.int .i64 x503001_2,.int .i64 x503002_2,.int .i64 x503003_2,.slice none 0 0,.slice none 0 0,.slice none 0 0] 42 (0,0)) (by (with_reducible repeat (first|refine zbN ?_ _|refine zbD ?_|refine zbA ?_ _));exact BK502.out) hg (by simp [Value.ownBlock]));have n1_:=zm (hb);have n2_:=zm (ho);clear BK502 HB;have BK502:=n0_;have HB:=n1_;have HO507:=n2_;clear n0_ n1_ n2_;clear ho hb hg hat;obtain ⟨Ao19,co19,eo19⟩:=Kd.R_slice HO507.out;subst eo19;have hcz20_0:w18.cell? ⟨gb502,0,none⟩=some (.int .i64 x503000_2):=(blk_cell BK502.out 0).trans rfl;have hcz20_1:w18.cell? ⟨gb502,1,none⟩=some (.int .i64 x503001_2):=(blk_cell BK502.out 1).trans rfl;have hcz20_2:w18.cell? ⟨gb502,2,none⟩=some (.int .i64 x503002_2):=(blk_cell BK502.out 2).trans rfl;have hcz20_3:w18.cell? ⟨gb502,3,none⟩=some (.int .i64 x503003_2):=(blk_cell BK502.out 3).trans rfl;have hcz20_4:w18.cell? ⟨gb502,4,none⟩=some (.slice none 0 0):=(blk_cell BK502.out 4).trans rfl;have hcz20_5:w18.cell? ⟨gb502,5,none⟩=some (.slice none 0 0):=(blk_cell BK502.out 5).trans rfl;have hcz20_6:w18.cell? ⟨gb502,6,none⟩=some (.slice none 0 0):=(blk_cell BK502.out 6).trans rfl;have hfz20_0:=blk_frozen BK502.out 0;have hfz20_1:=blk_frozen BK502.out 1;have hfz20_2:=blk_frozen BK502.out 2;have hfz20_3:=blk_frozen BK502.out 3;have hfz20_4:=blk_frozen BK502.out 4;have hfz20_5:=blk_frozen BK502.out 5;have hfz20_6:=blk_frozen BK502.out 6))
         refine bodyPost_ret (results_ct rfl _ _ gb502 42 #[.int .i64 2,.int .i64 a0,.int .i64 0,.int .i64 0,.slice none 0 0,.slice none 0 0,.slice Ao19 y505.length co19] (0,0) _ rfl (by (with_reducible repeat (first|refine zbN ?_ _|refine zbD ?_|refine zbA ?_ _));refine blk_put (cs:=#[.int .i64 2,.int .i64 a0,.int .i64 0,.int .i64 0,.slice none 0 0,.slice none 0 0,.slice none 0 0]) ?_ 6 _ rfl;(with_reducible repeat (first|refine zbN ?_ _|refine zbD ?_|refine zbA ?_ _));refine blk_put (cs:=#[.int .i64 2,.int .i64 a0,.int .i64 0,.int .i64 0,.slice none 0 0,.slice none 0 0,.slice none 0 0]) ?_ 5 _ rfl;(with_reducible repeat (first|refine zbN ?_ _|refine zbD ?_|refine zbA ?_ _));refine blk_put (cs:=#[.int .i64 2,.int .i64 a0,.int .i64 0,.int .i64 0,.slice none 0 0,.slice none 0 0,.slice none 0 0]) ?_ 4 _ rfl;(with_reducible repeat (first|refine zbN ?_ _|refine zbD ?_|refine zbA ?_ _));refine blk_put (cs:=#[.int .i64 2,.int .i64 a0,.int .i64 0,.int .i64 x503003_2,.slice none 0 0,.slice none 0 0,.slice none 0 0]) ?_ 3 _ rfl;(with_reducible repeat (first|refine zbN ?_ _|refine zbD ?_|refine zbA ?_ _));refine blk_put (cs:=#[.int .i64 2,.int .i64 a0,.int .i64 x503002_2,.int .i64 x503003_2,.slice none 0 0,.slice none 0 0,.slice none 0 0]) ?_ 2 _ rfl;(with_reducible repeat (first|refine zbN ?_ _|refine zbD ?_|refine zbA ?_ _));refine blk_put (cs:=#[.int .i64 2,.int .i64 x503001_2,.int .i64 x503002_2,.int .i64 x503003_2,.slice none 0 0,.slice none 0 0,.slice none 0 0]) ?_ 1 _ rfl;(with_reducible repeat (first|refine zbN ?_ _|refine zbD ?_|refine zbA ?_ _));refine blk_put (cs:=#[.int .i64 x503000_2,.int .i64 x503001_2,.int .i64 x503002_2,.int .i64 x503003_2,.slice none 0 0,.slice none 0 0,.slice none 0 0]) ?_ 0 _ rfl;(with_reducible repeat (first|refine zbN ?_ _|refine zbD ?_|refine zbA ?_ _));exact BK502.out) Try.underlying42 rfl (by kernel_rfl)) rfl ?_
         exact ⟨_,_,_,by first|rfl|(simp [errW_none,errW_some] <;> rfl)|(simp [*,errW_none,errW_some] <;> rfl),by first|exact Kd.R_nil _ _ _ _ _|exact Kd.N_nil _ _ _ _ _|exact Kd.V_nil _ _ _ _ _|exact Kd.Q_nil _ _ _ _ _|exact Kd.S_nil _ _ _ _ _,by first|exact Kd.R_nil _ _ _ _ _|exact Kd.N_nil _ _ _ _ _|exact Kd.V_nil _ _ _ _ _|exact Kd.Q_nil _ _ _ _ _|exact Kd.S_nil _ _ _ _ _,by (with_reducible repeat (first|apply zrA|apply zrN|apply zrD));exact Kd.R_mono (Kd.R_far (p:=⟨gb502,6,none⟩) (Kd.R_far (p:=⟨gb502,5,none⟩) (Kd.R_far (p:=⟨gb502,4,none⟩) (Kd.R_far (p:=⟨gb502,3,none⟩) (Kd.R_far (p:=⟨gb502,2,none⟩) (Kd.R_far (p:=⟨gb502,1,none⟩) (Kd.R_far (p:=⟨gb502,0,none⟩) (Kd.R_types HO507.out BK502.out (by decide)) (fun _ hk=>hk.2) (.int .i64 2)) (fun _ hk=>hk.2) (.int .i64 a0)) (fun _ hk=>hk.2) (.int .i64 0)) (fun _ hk=>hk.2) (.int .i64 0)) (fun _ hk=>hk.2) (.slice none 0 0)) (fun _ hk=>hk.2) (.slice none 0 0)) (fun _ hk=>hk.2) (.slice Ao19 y505.length co19)) (fun _ hk=>trivial),by repeat (first|(with_reducible first|exact HB.out|apply zlA|apply zlN|apply zlD|refine zlS ?_ GE502.out)|exact HB.out)⟩
        ·rw [if_neg c17] at H
         exact absurd H (by simp)
end Go.Proofs.Ytkhbmgclklmimaa.Print
end
section
namespace Go.Proofs.Ytkhbmgclklmimaa.Print
open Go.RowKit Go.Proofs.YtkhbmgclklmimaaW.PrintWords Go.Proofs.YtkhbmgclklmimaaW.PrintLast Go.Proofs.YtkhbmgclklmimaaW.PrintMore
attribute [local go_sem] max2_int min2_int max_two min_two max_three min_three max_four min_four   -- for this text's walks alone
attribute [local go_sem ↓] Go.Proofs.Ytkhbmgclklmimaa.Sem.isSome_setCell
attribute [local go_sem] Go.Instr.field Go.asAgg
set_option linter.unusedVariables false
set_option linter.unusedSimpArgs false
def slipwayref06_SamePage.f (k:Nat) (a0_0:Int) (a0_1:Int) (a0_2:Int) (a0_3:Int) (l0_4:List Bool) (l0_5:List Int) (l0_6:List (S55)) (a1_0:Int) (a1_1:Int) (a1_2:Int) (a1_3:Int) (l1_4:List Bool) (l1_5:List Int) (l1_6:List (S55)):Option (Bool):=if a0_0=a1_0 then (if a0_1=a1_1 then (if a0_2=a1_2 then (if a0_3=a1_3 then ((slipwayref06_bools.f k l0_4 l1_4).bind fun t510=>(if t510=true then ((slipwayref06_nums.f k l0_5 l1_5).bind fun t511=>(if t511=true then ((slipwayref06_SameRecords.f k l0_6 l1_6).bind fun t512=>(some t512)) else (some false))) else (some false))) else (some false)) else (some false)) else (some false)) else (some false)
set_option maxHeartbeats 8000000 in
set_option maxRecDepth 100000 in
theorem slipwayref06_SamePage.calls (k:Nat) (a0_0:Int) (a0_1:Int) (a0_2:Int) (a0_3:Int) (A0_4:Option Addr) (c0_4:Nat) (l0_4:List Bool) (A0_5:Option Addr) (c0_5:Nat) (l0_5:List Int) (A0_6:Option Addr) (c0_6:Nat) (l0_6:List (S55)) (a1_0:Int) (a1_1:Int) (a1_2:Int) (a1_3:Int) (A1_4:Option Addr) (c1_4:Nat) (l1_4:List Bool) (A1_5:Option Addr) (c1_5:Nat) (l1_5:List Int) (A1_6:Option Addr) (c1_6:Nat) (l1_6:List (S55)) (r:Bool) (w:World) (hr0_4:Kd.C Kd.bool w A0_4 l0_4.length l0_4) (hc0_4:l0_4.length≤c0_4) (hr0_5:Kd.C (Kd.int .i64) w A0_5 l0_5.length l0_5) (hc0_5:l0_5.length≤c0_5) (hr0_6:Kd.C k55 w A0_6 l0_6.length l0_6) (hc0_6:l0_6.length≤c0_6) (hr1_4:Kd.C Kd.bool w A1_4 l1_4.length l1_4) (hc1_4:l1_4.length≤c1_4) (hr1_5:Kd.C (Kd.int .i64) w A1_5 l1_5.length l1_5) (hc1_5:l1_5.length≤c1_5) (hr1_6:Kd.C k55 w A1_6 l1_6.length l1_6) (hc1_6:l1_6.length≤c1_6) (h:slipwayref06_SamePage.f k a0_0 a0_1 a0_2 a0_3 l0_4 l0_5 l0_6 a1_0 a1_1 a1_2 a1_3 l1_4 l1_5 l1_6=some r) :
  Calls Try.prog 32 #[.agg #[.int .i64 a0_0,.int .i64 a0_1,.int .i64 a0_2,.int .i64 a0_3,.slice A0_4 l0_4.length c0_4,.slice A0_5 l0_5.length c0_5,.slice A0_6 l0_6.length c0_6],.agg #[.int .i64 a1_0,.int .i64 a1_1,.int .i64 a1_2,.int .i64 a1_3,.slice A1_4 l1_4.length c1_4,.slice A1_5 l1_5.length c1_5,.slice A1_6 l1_6.length c1_6]] w fun e w'=>e=.returned (.bool r)∧Below w.heap.size w w':=by
 have hu42:=Try.underlying42
 have HR0_4:=zm hr0_4
 have HC0_4:=zm hc0_4
 clear hr0_4 hc0_4
 have HR0_5:=zm hr0_5
 have HC0_5:=zm hc0_5
 clear hr0_5 hc0_5
 have HR0_6:=zm hr0_6
 have HC0_6:=zm hc0_6
 clear hr0_6 hc0_6
 have HR1_4:=zm hr1_4
 have HC1_4:=zm hc1_4
 clear hr1_4 hc1_4
 have HR1_5:=zm hr1_5
 have HC1_5:=zm hc1_5
 clear hr1_5 hc1_5
 have HR1_6:=zm hr1_6
 have HC1_6:=zm hc1_6
 clear hr1_6 hc1_6
 have HB:=zm (Below.refl w.heap.size w)
 have H:(if a0_0=a1_0 then (if a0_1=a1_1 then (if a0_2=a1_2 then (if a0_3=a1_3 then ((slipwayref06_bools.f k l0_4 l1_4).bind fun t510=>(if t510=true then ((slipwayref06_nums.f k l0_5 l1_5).bind fun t511=>(if t511=true then ((slipwayref06_SameRecords.f k l0_6 l1_6).bind fun t512=>(some t512)) else (some false))) else (some false))) else (some false)) else (some false)) else (some false)) else (some false))=some r:=h
 clear h
 by_cases c3:a0_0=a1_0
 ·rw [if_pos c3] at H
  have c3b0:(a0_0 == a1_0)=true:=beq_iff_eq.mpr c3
  have c3b1:(a0_0 != a1_0)=false:=bne_eq_false_iff_eq.mpr c3
  clear c3
  by_cases c4:a0_1=a1_1
  ·rw [if_pos c4] at H
   have c4b0:(a0_1 == a1_1)=true:=beq_iff_eq.mpr c4
   have c4b1:(a0_1 != a1_1)=false:=bne_eq_false_iff_eq.mpr c4
   clear c4
   by_cases c5:a0_2=a1_2
   ·rw [if_pos c5] at H
    have c5b0:(a0_2 == a1_2)=true:=beq_iff_eq.mpr c5
    have c5b1:(a0_2 != a1_2)=false:=bne_eq_false_iff_eq.mpr c5
    clear c5
    by_cases c6:a0_3=a1_3
    ·rw [if_pos c6] at H
     have c6b0:(a0_3 == a1_3)=true:=beq_iff_eq.mpr c6
     have c6b1:(a0_3 != a1_3)=false:=bne_eq_false_iff_eq.mpr c6
     clear c6
     replace H:=Option.bind_eq_some_iff.mp H
     obtain ⟨t510,A70,H⟩:=H
     replace H:(if t510=true then ((slipwayref06_nums.f k l0_5 l1_5).bind fun t511=>(if t511=true then ((slipwayref06_SameRecords.f k l0_6 l1_6).bind fun t512=>(some t512)) else (some false))) else (some false))=some r:=H
     have A7:=zm A70
     clear A70
     by_cases c8:t510=true
     ·subst c8
      have H1:((slipwayref06_nums.f k l0_5 l1_5).bind fun t511=>(if t511=true then ((slipwayref06_SameRecords.f k l0_6 l1_6).bind fun t512=>(some t512)) else (some false)))=some r:=by rw [if_pos rfl] at H;exact H
      clear H
      have H:=H1
      clear H1
      replace H:=Option.bind_eq_some_iff.mp H
      obtain ⟨t511,A90,H⟩:=H
      replace H:(if t511=true then ((slipwayref06_SameRecords.f k l0_6 l1_6).bind fun t512=>(some t512)) else (some false))=some r:=H
      have A9:=zm A90
      clear A90
      by_cases c10:t511=true
      ·subst c10
       have H1:((slipwayref06_SameRecords.f k l0_6 l1_6).bind fun t512=>(some t512))=some r:=by rw [if_pos rfl] at H;exact H
       clear H
       have H:=H1
       clear H1
       replace H:=Option.bind_eq_some_iff.mp H
       obtain ⟨t512,A110,H⟩:=H
       replace H:(some t512)=some r:=H
       have A11:=zm A110
       clear A110
       obtain rfl:=Option.some.inj H
       go_enter Try.func32,Try.ntmps32
       go_wp2_with (first|((with_reducible refine gate_dst (N:=2) rfl ?_);refine box_event ?hg (N:=2) ?hd (cs:=#[.int .i64 a0_0,.int .i64 a0_1,.int .i64 a0_2,.int .i64 a0_3,.slice A0_4 l0_4.length c0_4,.slice A0_5 l0_5.length c0_5,.slice A0_6 l0_6.length c0_6]) (t:=42) ?hr ?_;(case hd=>rfl);(case hg=>rfl);(case hr=>first|(go_simp;done)|(go_simp;rfl));intro gb508 hg w12 hbox hb;have n0_:=zm (below_step (by repeat (first|(with_reducible first|exact HB.out|apply zlA|apply zlN|apply zlD)|exact HB.out)) hb);have n1_:=zm (hbox);have n2_:=zm ((by rw [hg];exact (below_size (by repeat (first|(with_reducible first|exact HB.out|apply zlA|apply zlN|apply zlD)|exact HB.out))):w.heap.size≤gb508));have n3_:=zm ((by rw [hg];exact (below_size (by repeat (first|(with_reducible first|exact HB.out|apply zlA|apply zlN|apply zlD)|exact HB.out))):w.heap.size≤gb508));clear HB;have HB:=n0_;have BK508:=n1_;have GW508:=n2_;have GE508:=n3_;clear n0_ n1_ n2_ n3_;clear hb hbox hg)|((with_reducible refine gate_dst (N:=3) rfl ?_);refine box_event ?hg (N:=3) ?hd (cs:=#[.int .i64 a1_0,.int .i64 a1_1,.int .i64 a1_2,.int .i64 a1_3,.slice A1_4 l1_4.length c1_4,.slice A1_5 l1_5.length c1_5,.slice A1_6 l1_6.length c1_6]) (t:=42) ?hr ?_;(case hd=>rfl);(case hg=>rfl);(case hr=>first|(go_simp;done)|(go_simp;rfl));intro gb509 hg w13 hbox hb;have n0_:=zm (zbB (g:=gb508) (o:=.cells #[.int .i64 a0_0,.int .i64 a0_1,.int .i64 a0_2,.int .i64 a0_3,.slice A0_4 l0_4.length c0_4,.slice A0_5 l0_5.length c0_5,.slice A0_6 l0_6.length c0_6] 42 (0,0)) (by (with_reducible repeat (first|refine zbN ?_ _|refine zbD ?_|refine zbA ?_ _));exact BK508.out) hb);have n1_:=zm (below_step (by repeat (first|(with_reducible first|exact HB.out|apply zlA|apply zlN|apply zlD|refine zlS ?_ GE508.out)|exact HB.out)) hb);have n2_:=zm (hbox);have n3_:=zm ((by rw [hg];exact (below_size (by repeat (first|(with_reducible first|exact HB.out|apply zlA|apply zlN|apply zlD|refine zlS ?_ GE508.out)|exact HB.out))):w.heap.size≤gb509));have n4_:=zm ((by rw [hg];exact (below_size (by repeat (first|(with_reducible first|exact HB.out|apply zlA|apply zlN|apply zlD|refine zlS ?_ GE508.out)|exact HB.out))):w.heap.size≤gb509));have n5_:=zm ((by rw [hg];exact Nat.ne_of_lt (blk_lt (g:=gb508) (o:=.cells #[.int .i64 a0_0,.int .i64 a0_1,.int .i64 a0_2,.int .i64 a0_3,.slice A0_4 l0_4.length c0_4,.slice A0_5 l0_5.length c0_5,.slice A0_6 l0_6.length c0_6] 42 (0,0)) (by (with_reducible repeat (first|refine zbN ?_ _|refine zbD ?_|refine zbA ?_ _));exact BK508.out)):gb508≠gb509));have n6_:=zm ((by rw [hg];exact Nat.ne_of_gt (blk_lt (g:=gb508) (o:=.cells #[.int .i64 a0_0,.int .i64 a0_1,.int .i64 a0_2,.int .i64 a0_3,.slice A0_4 l0_4.length c0_4,.slice A0_5 l0_5.length c0_5,.slice A0_6 l0_6.length c0_6] 42 (0,0)) (by (with_reducible repeat (first|refine zbN ?_ _|refine zbD ?_|refine zbA ?_ _));exact BK508.out)):gb509≠gb508));clear BK508 HB;have BK508:=n0_;have HB:=n1_;have BK509:=n2_;have GW509:=n3_;have GE509:=n4_;have NB508_509:=n5_;have NB509_508:=n6_;clear n0_ n1_ n2_ n3_ n4_ n5_ n6_;clear hb hbox hg;have hnb14:=NB508_509.out;have hnc14:=NB509_508.out;have hcz15_0:w13.cell? ⟨gb508,0,none⟩=some (.int .i64 a0_0):=(blk_cell BK508.out 0).trans rfl;have hcz15_1:w13.cell? ⟨gb508,1,none⟩=some (.int .i64 a0_1):=(blk_cell BK508.out 1).trans rfl;have hcz15_2:w13.cell? ⟨gb508,2,none⟩=some (.int .i64 a0_2):=(blk_cell BK508.out 2).trans rfl;have hcz15_3:w13.cell? ⟨gb508,3,none⟩=some (.int .i64 a0_3):=(blk_cell BK508.out 3).trans rfl;have hcz15_4:w13.cell? ⟨gb508,4,none⟩=some (.slice A0_4 l0_4.length c0_4):=(blk_cell BK508.out 4).trans rfl;have hcz15_5:w13.cell? ⟨gb508,5,none⟩=some (.slice A0_5 l0_5.length c0_5):=(blk_cell BK508.out 5).trans rfl;have hcz15_6:w13.cell? ⟨gb508,6,none⟩=some (.slice A0_6 l0_6.length c0_6):=(blk_cell BK508.out 6).trans rfl;have hfz15_0:=blk_frozen BK508.out 0;have hfz15_1:=blk_frozen BK508.out 1;have hfz15_2:=blk_frozen BK508.out 2;have hfz15_3:=blk_frozen BK508.out 3;have hfz15_4:=blk_frozen BK508.out 4;have hfz15_5:=blk_frozen BK508.out 5;have hfz15_6:=blk_frozen BK508.out 6;have hcz16_0:w13.cell? ⟨gb509,0,none⟩=some (.int .i64 a1_0):=(blk_cell BK509.out 0).trans rfl;have hcz16_1:w13.cell? ⟨gb509,1,none⟩=some (.int .i64 a1_1):=(blk_cell BK509.out 1).trans rfl;have hcz16_2:w13.cell? ⟨gb509,2,none⟩=some (.int .i64 a1_2):=(blk_cell BK509.out 2).trans rfl;have hcz16_3:w13.cell? ⟨gb509,3,none⟩=some (.int .i64 a1_3):=(blk_cell BK509.out 3).trans rfl;have hcz16_4:w13.cell? ⟨gb509,4,none⟩=some (.slice A1_4 l1_4.length c1_4):=(blk_cell BK509.out 4).trans rfl;have hcz16_5:w13.cell? ⟨gb509,5,none⟩=some (.slice A1_5 l1_5.length c1_5):=(blk_cell BK509.out 5).trans rfl;have hcz16_6:w13.cell? ⟨gb509,6,none⟩=some (.slice A1_6 l1_6.length c1_6):=(blk_cell BK509.out 6).trans rfl;have hfz16_0:=blk_frozen BK509.out 0;have hfz16_1:=blk_frozen BK509.out 1;have hfz16_2:=blk_frozen BK509.out 2;have hfz16_3:=blk_frozen BK509.out 3;have hfz16_4:=blk_frozen BK509.out 4;have hfz16_5:=blk_frozen BK509.out 5;have hfz16_6:=blk_frozen BK509.out 6)|(go_at_call 53;(with_reducible refine (slipwayref06_bools.calls k _ _ l0_4 _ _ l1_4 true _ ?side1 ?side2 ?side3 ?side4 A7.out).mono ?_);(case side1=>repeat (first|exact (Kd.C_below HR0_4.out HB.out)|(with_reducible refine Kd.C_alloc ?_ _)|(with_reducible refine Kd.C_drewN ?_ _)|(with_reducible refine Kd.C_drew ?_)));(case side2=>exact HC0_4.out);(case side3=>repeat (first|exact (Kd.C_below HR1_4.out HB.out)|(with_reducible refine Kd.C_alloc ?_ _)|(with_reducible refine Kd.C_drewN ?_ _)|(with_reducible refine Kd.C_drew ?_)));(case side4=>exact HC1_4.out);rintro e w' ⟨rfl,⟨nd,rfl⟩⟩)|(go_at_call 54;(with_reducible refine (slipwayref06_nums.calls k _ _ l0_5 _ _ l1_5 true _ ?side1 ?side2 ?side3 ?side4 A9.out).mono ?_);(case side1=>repeat (first|exact (Kd.C_below HR0_5.out (by repeat (first|(with_reducible first|exact HB.out|apply zlA|apply zlN|apply zlD|refine zlS ?_ GE508.out|refine zlS ?_ GE509.out)|exact HB.out)))|(with_reducible refine Kd.C_alloc ?_ _)|(with_reducible refine Kd.C_drewN ?_ _)|(with_reducible refine Kd.C_drew ?_)));(case side2=>exact HC0_5.out);(case side3=>repeat (first|exact (Kd.C_below HR1_5.out (by repeat (first|(with_reducible first|exact HB.out|apply zlA|apply zlN|apply zlD|refine zlS ?_ GE508.out|refine zlS ?_ GE509.out)|exact HB.out)))|(with_reducible refine Kd.C_alloc ?_ _)|(with_reducible refine Kd.C_drewN ?_ _)|(with_reducible refine Kd.C_drew ?_)));(case side4=>exact HC1_5.out);rintro e w' ⟨rfl,⟨nd,rfl⟩⟩)|(go_at_call 26;(with_reducible refine (slipwayref06_SameRecords.calls k _ _ l0_6 _ _ l1_6 t512 _ ?side1 ?side2 ?side3 ?side4 A11.out).mono ?_);(case side1=>repeat (first|exact (Kd.C_below HR0_6.out (by repeat (first|(with_reducible first|exact HB.out|apply zlA|apply zlN|apply zlD|refine zlS ?_ GE508.out|refine zlS ?_ GE509.out)|exact HB.out)))|(with_reducible refine Kd.C_alloc ?_ _)|(with_reducible refine Kd.C_drewN ?_ _)|(with_reducible refine Kd.C_drew ?_)));(case side2=>exact HC0_6.out);(case side3=>repeat (first|exact (Kd.C_below HR1_6.out (by repeat (first|(with_reducible first|exact HB.out|apply zlA|apply zlN|apply zlD|refine zlS ?_ GE508.out|refine zlS ?_ GE509.out)|exact HB.out)))|(with_reducible refine Kd.C_alloc ?_ _)|(with_reducible refine Kd.C_drewN ?_ _)|(with_reducible refine Kd.C_drew ?_)));(case side4=>exact HC1_6.out);rintro e w' ⟨rfl,⟨nd,rfl⟩⟩))
       go_ret
       exact ⟨by first|rfl|(simp [errW_none,errW_some] <;> rfl)|(simp [*,errW_none,errW_some] <;> rfl),by repeat (first|(with_reducible first|exact HB.out|apply zlA|apply zlN|apply zlD|refine zlS ?_ GE508.out|refine zlS ?_ GE509.out)|exact HB.out)⟩
      ·replace c10:=Bool.eq_false_iff.mpr c10
       subst c10
       have H1:(some false)=some r:=by rw [if_neg (show ¬ (false=true) by decide)] at H;exact H
       clear H
       have H:=H1
       clear H1
       obtain rfl:=Option.some.inj H
       go_enter Try.func32,Try.ntmps32
       go_wp2_with (first|((with_reducible refine gate_dst (N:=2) rfl ?_);refine box_event ?hg (N:=2) ?hd (cs:=#[.int .i64 a0_0,.int .i64 a0_1,.int .i64 a0_2,.int .i64 a0_3,.slice A0_4 l0_4.length c0_4,.slice A0_5 l0_5.length c0_5,.slice A0_6 l0_6.length c0_6]) (t:=42) ?hr ?_;(case hd=>rfl);(case hg=>rfl);(case hr=>first|(go_simp;done)|(go_simp;rfl));intro gb508 hg w17 hbox hb;have n0_:=zm (below_step (by repeat (first|(with_reducible first|exact HB.out|apply zlA|apply zlN|apply zlD)|exact HB.out)) hb);have n1_:=zm (hbox);have n2_:=zm ((by rw [hg];exact (below_size (by repeat (first|(with_reducible first|exact HB.out|apply zlA|apply zlN|apply zlD)|exact HB.out))):w.heap.size≤gb508));have n3_:=zm ((by rw [hg];exact (below_size (by repeat (first|(with_reducible first|exact HB.out|apply zlA|apply zlN|apply zlD)|exact HB.out))):w.heap.size≤gb508));clear HB;have HB:=n0_;have BK508:=n1_;have GW508:=n2_;have GE508:=n3_;clear n0_ n1_ n2_ n3_;clear hb hbox hg)|((with_reducible refine gate_dst (N:=3) rfl ?_);refine box_event ?hg (N:=3) ?hd (cs:=#[.int .i64 a1_0,.int .i64 a1_1,.int .i64 a1_2,.int .i64 a1_3,.slice A1_4 l1_4.length c1_4,.slice A1_5 l1_5.length c1_5,.slice A1_6 l1_6.length c1_6]) (t:=42) ?hr ?_;(case hd=>rfl);(case hg=>rfl);(case hr=>first|(go_simp;done)|(go_simp;rfl));intro gb509 hg w18 hbox hb;have n0_:=zm (zbB (g:=gb508) (o:=.cells #[.int .i64 a0_0,.int .i64 a0_1,.int .i64 a0_2,.int .i64 a0_3,.slice A0_4 l0_4.length c0_4,.slice A0_5 l0_5.length c0_5,.slice A0_6 l0_6.length c0_6] 42 (0,0)) (by (with_reducible repeat (first|refine zbN ?_ _|refine zbD ?_|refine zbA ?_ _));exact BK508.out) hb);have n1_:=zm (below_step (by repeat (first|(with_reducible first|exact HB.out|apply zlA|apply zlN|apply zlD|refine zlS ?_ GE508.out)|exact HB.out)) hb);have n2_:=zm (hbox);have n3_:=zm ((by rw [hg];exact (below_size (by repeat (first|(with_reducible first|exact HB.out|apply zlA|apply zlN|apply zlD|refine zlS ?_ GE508.out)|exact HB.out))):w.heap.size≤gb509));have n4_:=zm ((by rw [hg];exact (below_size (by repeat (first|(with_reducible first|exact HB.out|apply zlA|apply zlN|apply zlD|refine zlS ?_ GE508.out)|exact HB.out))):w.heap.size≤gb509));have n5_:=zm ((by rw [hg];exact Nat.ne_of_lt (blk_lt (g:=gb508) (o:=.cells #[.int .i64 a0_0,.int .i64 a0_1,.int .i64 a0_2,.int .i64 a0_3,.slice A0_4 l0_4.length c0_4,.slice A0_5 l0_5.length c0_5,.slice A0_6 l0_6.length c0_6] 42 (0,0)) (by (with_reducible repeat (first|refine zbN ?_ _|refine zbD ?_|refine zbA ?_ _));exact BK508.out)):gb508≠gb509));have n6_:=zm ((by rw [hg];exact Nat.ne_of_gt (blk_lt (g:=gb508) (o:=.cells #[.int .i64 a0_0,.int .i64 a0_1,.int .i64 a0_2,.int .i64 a0_3,.slice A0_4 l0_4.length c0_4,.slice A0_5 l0_5.length c0_5,.slice A0_6 l0_6.length c0_6] 42 (0,0)) (by (with_reducible repeat (first|refine zbN ?_ _|refine zbD ?_|refine zbA ?_ _));exact BK508.out)):gb509≠gb508));clear BK508 HB;have BK508:=n0_;have HB:=n1_;have BK509:=n2_;have GW509:=n3_;have GE509:=n4_;have NB508_509:=n5_;have NB509_508:=n6_;clear n0_ n1_ n2_ n3_ n4_ n5_ n6_;clear hb hbox hg;have hnb19:=NB508_509.out;have hnc19:=NB509_508.out;have hcz20_0:w18.cell? ⟨gb508,0,none⟩=some (.int .i64 a0_0):=(blk_cell BK508.out 0).trans rfl;have hcz20_1:w18.cell? ⟨gb508,1,none⟩=some (.int .i64 a0_1):=(blk_cell BK508.out 1).trans rfl;have hcz20_2:w18.cell? ⟨gb508,2,none⟩=some (.int .i64 a0_2):=(blk_cell BK508.out 2).trans rfl;have hcz20_3:w18.cell? ⟨gb508,3,none⟩=some (.int .i64 a0_3):=(blk_cell BK508.out 3).trans rfl;have hcz20_4:w18.cell? ⟨gb508,4,none⟩=some (.slice A0_4 l0_4.length c0_4):=(blk_cell BK508.out 4).trans rfl;have hcz20_5:w18.cell? ⟨gb508,5,none⟩=some (.slice A0_5 l0_5.length c0_5):=(blk_cell BK508.out 5).trans rfl;have hcz20_6:w18.cell? ⟨gb508,6,none⟩=some (.slice A0_6 l0_6.length c0_6):=(blk_cell BK508.out 6).trans rfl;have hfz20_0:=blk_frozen BK508.out 0;have hfz20_1:=blk_frozen BK508.out 1;have hfz20_2:=blk_frozen BK508.out 2;have hfz20_3:=blk_frozen BK508.out 3;have hfz20_4:=blk_frozen BK508.out 4;have hfz20_5:=blk_frozen BK508.out 5;have hfz20_6:=blk_frozen BK508.out 6;have hcz21_0:w18.cell? ⟨gb509,0,none⟩=some (.int .i64 a1_0):=(blk_cell BK509.out 0).trans rfl;have hcz21_1:w18.cell? ⟨gb509,1,none⟩=some (.int .i64 a1_1):=(blk_cell BK509.out 1).trans rfl;have hcz21_2:w18.cell? ⟨gb509,2,none⟩=some (.int .i64 a1_2):=(blk_cell BK509.out 2).trans rfl;have hcz21_3:w18.cell? ⟨gb509,3,none⟩=some (.int .i64 a1_3):=(blk_cell BK509.out 3).trans rfl;have hcz21_4:w18.cell? ⟨gb509,4,none⟩=some (.slice A1_4 l1_4.length c1_4):=(blk_cell BK509.out 4).trans rfl;have hcz21_5:w18.cell? ⟨gb509,5,none⟩=some (.slice A1_5 l1_5.length c1_5):=(blk_cell BK509.out 5).trans rfl;have hcz21_6:w18.cell? ⟨gb509,6,none⟩=some (.slice A1_6 l1_6.length c1_6):=(blk_cell BK509.out 6).trans rfl;have hfz21_0:=blk_frozen BK509.out 0;have hfz21_1:=blk_frozen BK509.out 1;have hfz21_2:=blk_frozen BK509.out 2;have hfz21_3:=blk_frozen BK509.out 3;have hfz21_4:=blk_frozen BK509.out 4;have hfz21_5:=blk_frozen BK509.out 5;have hfz21_6:=blk_frozen BK509.out 6)|(go_at_call 53;(with_reducible refine (slipwayref06_bools.calls k _ _ l0_4 _ _ l1_4 true _ ?side1 ?side2 ?side3 ?side4 A7.out).mono ?_);(case side1=>repeat (first|exact (Kd.C_below HR0_4.out HB.out)|(with_reducible refine Kd.C_alloc ?_ _)|(with_reducible refine Kd.C_drewN ?_ _)|(with_reducible refine Kd.C_drew ?_)));(case side2=>exact HC0_4.out);(case side3=>repeat (first|exact (Kd.C_below HR1_4.out HB.out)|(with_reducible refine Kd.C_alloc ?_ _)|(with_reducible refine Kd.C_drewN ?_ _)|(with_reducible refine Kd.C_drew ?_)));(case side4=>exact HC1_4.out);rintro e w' ⟨rfl,⟨nd,rfl⟩⟩)|(go_at_call 54;(with_reducible refine (slipwayref06_nums.calls k _ _ l0_5 _ _ l1_5 false _ ?side1 ?side2 ?side3 ?side4 A9.out).mono ?_);(case side1=>repeat (first|exact (Kd.C_below HR0_5.out (by repeat (first|(with_reducible first|exact HB.out|apply zlA|apply zlN|apply zlD|refine zlS ?_ GE508.out|refine zlS ?_ GE509.out)|exact HB.out)))|(with_reducible refine Kd.C_alloc ?_ _)|(with_reducible refine Kd.C_drewN ?_ _)|(with_reducible refine Kd.C_drew ?_)));(case side2=>exact HC0_5.out);(case side3=>repeat (first|exact (Kd.C_below HR1_5.out (by repeat (first|(with_reducible first|exact HB.out|apply zlA|apply zlN|apply zlD|refine zlS ?_ GE508.out|refine zlS ?_ GE509.out)|exact HB.out)))|(with_reducible refine Kd.C_alloc ?_ _)|(with_reducible refine Kd.C_drewN ?_ _)|(with_reducible refine Kd.C_drew ?_)));(case side4=>exact HC1_5.out);rintro e w' ⟨rfl,⟨nd,rfl⟩⟩))
       go_ret
       exact ⟨by first|rfl|(simp [errW_none,errW_some] <;> rfl)|(simp [*,errW_none,errW_some] <;> rfl),by repeat (first|(with_reducible first|exact HB.out|apply zlA|apply zlN|apply zlD|refine zlS ?_ GE508.out|refine zlS ?_ GE509.out)|exact HB.out)⟩
     ·replace c8:=Bool.eq_false_iff.mpr c8
      subst c8
      have H1:(some false)=some r:=by rw [if_neg (show ¬ (false=true) by decide)] at H;exact H
      clear H
      have H:=H1
      clear H1
      obtain rfl:=Option.some.inj H
      go_enter Try.func32,Try.ntmps32
      go_wp2_with (first|((with_reducible refine gate_dst (N:=2) rfl ?_);refine box_event ?hg (N:=2) ?hd (cs:=#[.int .i64 a0_0,.int .i64 a0_1,.int .i64 a0_2,.int .i64 a0_3,.slice A0_4 l0_4.length c0_4,.slice A0_5 l0_5.length c0_5,.slice A0_6 l0_6.length c0_6]) (t:=42) ?hr ?_;(case hd=>rfl);(case hg=>rfl);(case hr=>first|(go_simp;done)|(go_simp;rfl));intro gb508 hg w22 hbox hb;have n0_:=zm (below_step (by repeat (first|(with_reducible first|exact HB.out|apply zlA|apply zlN|apply zlD)|exact HB.out)) hb);have n1_:=zm (hbox);have n2_:=zm ((by rw [hg];exact (below_size (by repeat (first|(with_reducible first|exact HB.out|apply zlA|apply zlN|apply zlD)|exact HB.out))):w.heap.size≤gb508));have n3_:=zm ((by rw [hg];exact (below_size (by repeat (first|(with_reducible first|exact HB.out|apply zlA|apply zlN|apply zlD)|exact HB.out))):w.heap.size≤gb508));clear HB;have HB:=n0_;have BK508:=n1_;have GW508:=n2_;have GE508:=n3_;clear n0_ n1_ n2_ n3_;clear hb hbox hg)|((with_reducible refine gate_dst (N:=3) rfl ?_);refine box_event ?hg (N:=3) ?hd (cs:=#[.int .i64 a1_0,.int .i64 a1_1,.int .i64 a1_2,.int .i64 a1_3,.slice A1_4 l1_4.length c1_4,.slice A1_5 l1_5.length c1_5,.slice A1_6 l1_6.length c1_6]) (t:=42) ?hr ?_;(case hd=>rfl);(case hg=>rfl);(case hr=>first|(go_simp;done)|(go_simp;rfl));intro gb509 hg w23 hbox hb;have n0_:=zm (zbB (g:=gb508) (o:=.cells #[.int .i64 a0_0,.int .i64 a0_1,.int .i64 a0_2,.int .i64 a0_3,.slice A0_4 l0_4.length c0_4,.slice A0_5 l0_5.length c0_5,.slice A0_6 l0_6.length c0_6] 42 (0,0)) (by (with_reducible repeat (first|refine zbN ?_ _|refine zbD ?_|refine zbA ?_ _));exact BK508.out) hb);have n1_:=zm (below_step (by repeat (first|(with_reducible first|exact HB.out|apply zlA|apply zlN|apply zlD|refine zlS ?_ GE508.out)|exact HB.out)) hb);have n2_:=zm (hbox);have n3_:=zm ((by rw [hg];exact (below_size (by repeat (first|(with_reducible first|exact HB.out|apply zlA|apply zlN|apply zlD|refine zlS ?_ GE508.out)|exact HB.out))):w.heap.size≤gb509));have n4_:=zm ((by rw [hg];exact (below_size (by repeat (first|(with_reducible first|exact HB.out|apply zlA|apply zlN|apply zlD|refine zlS ?_ GE508.out)|exact HB.out))):w.heap.size≤gb509));have n5_:=zm ((by rw [hg];exact Nat.ne_of_lt (blk_lt (g:=gb508) (o:=.cells #[.int .i64 a0_0,.int .i64 a0_1,.int .i64 a0_2,.int .i64 a0_3,.slice A0_4 l0_4.length c0_4,.slice A0_5 l0_5.length c0_5,.slice A0_6 l0_6.length c0_6] 42 (0,0)) (by (with_reducible repeat (first|refine zbN ?_ _|refine zbD ?_|refine zbA ?_ _));exact BK508.out)):gb508≠gb509));have n6_:=zm ((by rw [hg];exact Nat.ne_of_gt (blk_lt (g:=gb508) (o:=.cells #[.int .i64 a0_0,.int .i64 a0_1,.int .i64 a0_2,.int .i64 a0_3,.slice A0_4 l0_4.length c0_4,.slice A0_5 l0_5.length c0_5,.slice A0_6 l0_6.length c0_6] 42 (0,0)) (by (with_reducible repeat (first|refine zbN ?_ _|refine zbD ?_|refine zbA ?_ _));exact BK508.out)):gb509≠gb508));clear BK508 HB;have BK508:=n0_;have HB:=n1_;have BK509:=n2_;have GW509:=n3_;have GE509:=n4_;have NB508_509:=n5_;have NB509_508:=n6_;clear n0_ n1_ n2_ n3_ n4_ n5_ n6_;clear hb hbox hg;have hnb24:=NB508_509.out;have hnc24:=NB509_508.out;have hcz25_0:w23.cell? ⟨gb508,0,none⟩=some (.int .i64 a0_0):=(blk_cell BK508.out 0).trans rfl;have hcz25_1:w23.cell? ⟨gb508,1,none⟩=some (.int .i64 a0_1):=(blk_cell BK508.out 1).trans rfl;have hcz25_2:w23.cell? ⟨gb508,2,none⟩=some (.int .i64 a0_2):=(blk_cell BK508.out 2).trans rfl;have hcz25_3:w23.cell? ⟨gb508,3,none⟩=some (.int .i64 a0_3):=(blk_cell BK508.out 3).trans rfl;have hcz25_4:w23.cell? ⟨gb508,4,none⟩=some (.slice A0_4 l0_4.length c0_4):=(blk_cell BK508.out 4).trans rfl;have hcz25_5:w23.cell? ⟨gb508,5,none⟩=some (.slice A0_5 l0_5.length c0_5):=(blk_cell BK508.out 5).trans rfl;have hcz25_6:w23.cell? ⟨gb508,6,none⟩=some (.slice A0_6 l0_6.length c0_6):=(blk_cell BK508.out 6).trans rfl;have hfz25_0:=blk_frozen BK508.out 0;have hfz25_1:=blk_frozen BK508.out 1;have hfz25_2:=blk_frozen BK508.out 2;have hfz25_3:=blk_frozen BK508.out 3;have hfz25_4:=blk_frozen BK508.out 4;have hfz25_5:=blk_frozen BK508.out 5;have hfz25_6:=blk_frozen BK508.out 6;have hcz26_0:w23.cell? ⟨gb509,0,none⟩=some (.int .i64 a1_0):=(blk_cell BK509.out 0).trans rfl;have hcz26_1:w23.cell? ⟨gb509,1,none⟩=some (.int .i64 a1_1):=(blk_cell BK509.out 1).trans rfl;have hcz26_2:w23.cell? ⟨gb509,2,none⟩=some (.int .i64 a1_2):=(blk_cell BK509.out 2).trans rfl;have hcz26_3:w23.cell? ⟨gb509,3,none⟩=some (.int .i64 a1_3):=(blk_cell BK509.out 3).trans rfl;have hcz26_4:w23.cell? ⟨gb509,4,none⟩=some (.slice A1_4 l1_4.length c1_4):=(blk_cell BK509.out 4).trans rfl;have hcz26_5:w23.cell? ⟨gb509,5,none⟩=some (.slice A1_5 l1_5.length c1_5):=(blk_cell BK509.out 5).trans rfl;have hcz26_6:w23.cell? ⟨gb509,6,none⟩=some (.slice A1_6 l1_6.length c1_6):=(blk_cell BK509.out 6).trans rfl;have hfz26_0:=blk_frozen BK509.out 0;have hfz26_1:=blk_frozen BK509.out 1;have hfz26_2:=blk_frozen BK509.out 2;have hfz26_3:=blk_frozen BK509.out 3;have hfz26_4:=blk_frozen BK509.out 4;have hfz26_5:=blk_frozen BK509.out 5;have hfz26_6:=blk_frozen BK509.out 6)|(go_at_call 53;(with_reducible refine (slipwayref06_bools.calls k _ _ l0_4 _ _ l1_4 false _ ?side1 ?side2 ?side3 ?side4 A7.out).mono ?_);(case side1=>repeat (first|exact (Kd.C_below HR0_4.out HB.out)|(with_reducible refine Kd.C_alloc ?_ _)|(with_reducible refine Kd.C_drewN ?_ _)|(with_reducible refine Kd.C_drew ?_)));(case side2=>exact HC0_4.out);(case side3=>repeat (first|exact (Kd.C_below HR1_4.out HB.out)|(with_reducible refine Kd.C_alloc ?_ _)|(with_reducible refine Kd.C_drewN ?_ _)|(with_reducible refine Kd.C_drew ?_)));(case side4=>exact HC1_4.out);rintro e w' ⟨rfl,⟨nd,rfl⟩⟩))
      go_ret
      exact ⟨by first|rfl|(simp [errW_none,errW_some] <;> rfl)|(simp [*,errW_none,errW_some] <;> rfl),by repeat (first|(with_reducible first|exact HB.out|apply zlA|apply zlN|apply zlD|refine zlS ?_ GE508.out|refine zlS ?_ GE509.out)|exact HB.out)⟩
    ·rw [if_neg c6] at H
     have c6b0:(a0_3 == a1_3)=false:=beq_eq_false_iff_ne.mpr c6
     have c6b1:(a0_3 != a1_3)=true:=bne_iff_ne.mpr c6
     obtain rfl:=Option.some.inj H
     go_enter Try.func32,Try.ntmps32
     go_wp2_with (first|((with_reducible refine gate_dst (N:=2) rfl ?_);refine box_event ?hg (N:=2) ?hd (cs:=#[.int .i64 a0_0,.int .i64 a0_1,.int .i64 a0_2,.int .i64 a0_3,.slice A0_4 l0_4.length c0_4,.slice A0_5 l0_5.length c0_5,.slice A0_6 l0_6.length c0_6]) (t:=42) ?hr ?_;(case hd=>rfl);(case hg=>rfl);(case hr=>first|(go_simp;done)|(go_simp;rfl));intro gb508 hg w27 hbox hb;have n0_:=zm (below_step (by repeat (first|(with_reducible first|exact HB.out|apply zlA|apply zlN|apply zlD)|exact HB.out)) hb);have n1_:=zm (hbox);have n2_:=zm ((by rw [hg];exact (below_size (by repeat (first|(with_reducible first|exact HB.out|apply zlA|apply zlN|apply zlD)|exact HB.out))):w.heap.size≤gb508));have n3_:=zm ((by rw [hg];exact (below_size (by repeat (first|(with_reducible first|exact HB.out|apply zlA|apply zlN|apply zlD)|exact HB.out))):w.heap.size≤gb508));clear HB;have HB:=n0_;have BK508:=n1_;have GW508:=n2_;have GE508:=n3_;clear n0_ n1_ n2_ n3_;clear hb hbox hg)|((with_reducible refine gate_dst (N:=3) rfl ?_);refine box_event ?hg (N:=3) ?hd (cs:=#[.int .i64 a1_0,.int .i64 a1_1,.int .i64 a1_2,.int .i64 a1_3,.slice A1_4 l1_4.length c1_4,.slice A1_5 l1_5.length c1_5,.slice A1_6 l1_6.length c1_6]) (t:=42) ?hr ?_;(case hd=>rfl);(case hg=>rfl);(case hr=>first|(go_simp;done)|(go_simp;rfl));intro gb509 hg w28 hbox hb;have n0_:=zm (zbB (g:=gb508) (o:=.cells #[.int .i64 a0_0,.int .i64 a0_1,.int .i64 a0_2,.int .i64 a0_3,.slice A0_4 l0_4.length c0_4,.slice A0_5 l0_5.length c0_5,.slice A0_6 l0_6.length c0_6] 42 (0,0)) (by (with_reducible repeat (first|refine zbN ?_ _|refine zbD ?_|refine zbA ?_ _));exact BK508.out) hb);have n1_:=zm (below_step (by repeat (first|(with_reducible first|exact HB.out|apply zlA|apply zlN|apply zlD|refine zlS ?_ GE508.out)|exact HB.out)) hb);have n2_:=zm (hbox);have n3_:=zm ((by rw [hg];exact (below_size (by repeat (first|(with_reducible first|exact HB.out|apply zlA|apply zlN|apply zlD|refine zlS ?_ GE508.out)|exact HB.out))):w.heap.size≤gb509));have n4_:=zm ((by rw [hg];exact (below_size (by repeat (first|(with_reducible first|exact HB.out|apply zlA|apply zlN|apply zlD|refine zlS ?_ GE508.out)|exact HB.out))):w.heap.size≤gb509));have n5_:=zm ((by rw [hg];exact Nat.ne_of_lt (blk_lt (g:=gb508) (o:=.cells #[.int .i64 a0_0,.int .i64 a0_1,.int .i64 a0_2,.int .i64 a0_3,.slice A0_4 l0_4.length c0_4,.slice A0_5 l0_5.length c0_5,.slice A0_6 l0_6.length c0_6] 42 (0,0)) (by (with_reducible repeat (first|refine zbN ?_ _|refine zbD ?_|refine zbA ?_ _));exact BK508.out)):gb508≠gb509));have n6_:=zm ((by rw [hg];exact Nat.ne_of_gt (blk_lt (g:=gb508) (o:=.cells #[.int .i64 a0_0,.int .i64 a0_1,.int .i64 a0_2,.int .i64 a0_3,.slice A0_4 l0_4.length c0_4,.slice A0_5 l0_5.length c0_5,.slice A0_6 l0_6.length c0_6] 42 (0,0)) (by (with_reducible repeat (first|refine zbN ?_ _|refine zbD ?_|refine zbA ?_ _));exact BK508.out)):gb509≠gb508));clear BK508 HB;have BK508:=n0_;have HB:=n1_;have BK509:=n2_;have GW509:=n3_;have GE509:=n4_;have NB508_509:=n5_;have NB509_508:=n6_;clear n0_ n1_ n2_ n3_ n4_ n5_ n6_;clear hb hbox hg;have hnb29:=NB508_509.out;have hnc29:=NB509_508.out;have hcz30_0:w28.cell? ⟨gb508,0,none⟩=some (.int .i64 a0_0):=(blk_cell BK508.out 0).trans rfl;have hcz30_1:w28.cell? ⟨gb508,1,none⟩=some (.int .i64 a0_1):=(blk_cell BK508.out 1).trans rfl;have hcz30_2:w28.cell? ⟨gb508,2,none⟩=some (.int .i64 a0_2):=(blk_cell BK508.out 2).trans rfl;have hcz30_3:w28.cell? ⟨gb508,3,none⟩=some (.int .i64 a0_3):=(blk_cell BK508.out 3).trans rfl;have hcz30_4:w28.cell? ⟨gb508,4,none⟩=some (.slice A0_4 l0_4.length c0_4):=(blk_cell BK508.out 4).trans rfl;have hcz30_5:w28.cell? ⟨gb508,5,none⟩=some (.slice A0_5 l0_5.length c0_5):=(blk_cell BK508.out 5).trans rfl;have hcz30_6:w28.cell? ⟨gb508,6,none⟩=some (.slice A0_6 l0_6.length c0_6):=(blk_cell BK508.out 6).trans rfl;have hfz30_0:=blk_frozen BK508.out 0;have hfz30_1:=blk_frozen BK508.out 1;have hfz30_2:=blk_frozen BK508.out 2;have hfz30_3:=blk_frozen BK508.out 3;have hfz30_4:=blk_frozen BK508.out 4;have hfz30_5:=blk_frozen BK508.out 5;have hfz30_6:=blk_frozen BK508.out 6;have hcz31_0:w28.cell? ⟨gb509,0,none⟩=some (.int .i64 a1_0):=(blk_cell BK509.out 0).trans rfl;have hcz31_1:w28.cell? ⟨gb509,1,none⟩=some (.int .i64 a1_1):=(blk_cell BK509.out 1).trans rfl;have hcz31_2:w28.cell? ⟨gb509,2,none⟩=some (.int .i64 a1_2):=(blk_cell BK509.out 2).trans rfl;have hcz31_3:w28.cell? ⟨gb509,3,none⟩=some (.int .i64 a1_3):=(blk_cell BK509.out 3).trans rfl;have hcz31_4:w28.cell? ⟨gb509,4,none⟩=some (.slice A1_4 l1_4.length c1_4):=(blk_cell BK509.out 4).trans rfl;have hcz31_5:w28.cell? ⟨gb509,5,none⟩=some (.slice A1_5 l1_5.length c1_5):=(blk_cell BK509.out 5).trans rfl;have hcz31_6:w28.cell? ⟨gb509,6,none⟩=some (.slice A1_6 l1_6.length c1_6):=(blk_cell BK509.out 6).trans rfl;have hfz31_0:=blk_frozen BK509.out 0;have hfz31_1:=blk_frozen BK509.out 1;have hfz31_2:=blk_frozen BK509.out 2;have hfz31_3:=blk_frozen BK509.out 3;have hfz31_4:=blk_frozen BK509.out 4;have hfz31_5:=blk_frozen BK509.out 5;have hfz31_6:=blk_frozen BK509.out 6))
     go_ret
     exact ⟨by first|rfl|(simp [errW_none,errW_some] <;> rfl)|(simp [*,errW_none,errW_some] <;> rfl),by repeat (first|(with_reducible first|exact HB.out|apply zlA|apply zlN|apply zlD|refine zlS ?_ GE508.out|refine zlS ?_ GE509.out)|exact HB.out)⟩
   ·rw [if_neg c5] at H
    have c5b0:(a0_2 == a1_2)=false:=beq_eq_false_iff_ne.mpr c5
    have c5b1:(a0_2 != a1_2)=true:=bne_iff_ne.mpr c5
    obtain rfl:=Option.some.inj H
    go_enter Try.func32,Try.ntmps32
    go_wp2_with (first|((with_reducible refine gate_dst (N:=2) rfl ?_);refine box_event ?hg (N:=2) ?hd (cs:=#[.int .i64 a0_0,.int .i64 a0_1,.int .i64 a0_2,.int .i64 a0_3,.slice A0_4 l0_4.length c0_4,.slice A0_5 l0_5.length c0_5,.slice A0_6 l0_6.length c0_6]) (t:=42) ?hr ?_;(case hd=>rfl);(case hg=>rfl);(case hr=>first|(go_simp;done)|(go_simp;rfl));intro gb508 hg w32 hbox hb;have n0_:=zm (below_step (by repeat (first|(with_reducible first|exact HB.out|apply zlA|apply zlN|apply zlD)|exact HB.out)) hb);have n1_:=zm (hbox);have n2_:=zm ((by rw [hg];exact (below_size (by repeat (first|(with_reducible first|exact HB.out|apply zlA|apply zlN|apply zlD)|exact HB.out))):w.heap.size≤gb508));have n3_:=zm ((by rw [hg];exact (below_size (by repeat (first|(with_reducible first|exact HB.out|apply zlA|apply zlN|apply zlD)|exact HB.out))):w.heap.size≤gb508));clear HB;have HB:=n0_;have BK508:=n1_;have GW508:=n2_;have GE508:=n3_;clear n0_ n1_ n2_ n3_;clear hb hbox hg)|((with_reducible refine gate_dst (N:=3) rfl ?_);refine box_event ?hg (N:=3) ?hd (cs:=#[.int .i64 a1_0,.int .i64 a1_1,.int .i64 a1_2,.int .i64 a1_3,.slice A1_4 l1_4.length c1_4,.slice A1_5 l1_5.length c1_5,.slice A1_6 l1_6.length c1_6]) (t:=42) ?hr ?_;(case hd=>rfl);(case hg=>rfl);(case hr=>first|(go_simp;done)|(go_simp;rfl));intro gb509 hg w33 hbox hb;have n0_:=zm (zbB (g:=gb508) (o:=.cells #[.int .i64 a0_0,.int .i64 a0_1,.int .i64 a0_2,.int .i64 a0_3,.slice A0_4 l0_4.length c0_4,.slice A0_5 l0_5.length c0_5,.slice A0_6 l0_6.length c0_6] 42 (0,0)) (by (with_reducible repeat (first|refine zbN ?_ _|refine zbD ?_|refine zbA ?_ _));exact BK508.out) hb);have n1_:=zm (below_step (by repeat (first|(with_reducible first|exact HB.out|apply zlA|apply zlN|apply zlD|refine zlS ?_ GE508.out)|exact HB.out)) hb);have n2_:=zm (hbox);have n3_:=zm ((by rw [hg];exact (below_size (by repeat (first|(with_reducible first|exact HB.out|apply zlA|apply zlN|apply zlD|refine zlS ?_ GE508.out)|exact HB.out))):w.heap.size≤gb509));have n4_:=zm ((by rw [hg];exact (below_size (by repeat (first|(with_reducible first|exact HB.out|apply zlA|apply zlN|apply zlD|refine zlS ?_ GE508.out)|exact HB.out))):w.heap.size≤gb509));have n5_:=zm ((by rw [hg];exact Nat.ne_of_lt (blk_lt (g:=gb508) (o:=.cells #[.int .i64 a0_0,.int .i64 a0_1,.int .i64 a0_2,.int .i64 a0_3,.slice A0_4 l0_4.length c0_4,.slice A0_5 l0_5.length c0_5,.slice A0_6 l0_6.length c0_6] 42 (0,0)) (by (with_reducible repeat (first|refine zbN ?_ _|refine zbD ?_|refine zbA ?_ _));exact BK508.out)):gb508≠gb509));have n6_:=zm ((by rw [hg];exact Nat.ne_of_gt (blk_lt (g:=gb508) (o:=.cells #[.int .i64 a0_0,.int .i64 a0_1,.int .i64 a0_2,.int .i64 a0_3,.slice A0_4 l0_4.length c0_4,.slice A0_5 l0_5.length c0_5,.slice A0_6 l0_6.length c0_6] 42 (0,0)) (by (with_reducible repeat (first|refine zbN ?_ _|refine zbD ?_|refine zbA ?_ _));exact BK508.out)):gb509≠gb508));clear BK508 HB;have BK508:=n0_;have HB:=n1_;have BK509:=n2_;have GW509:=n3_;have GE509:=n4_;have NB508_509:=n5_;have NB509_508:=n6_;clear n0_ n1_ n2_ n3_ n4_ n5_ n6_;clear hb hbox hg;have hnb34:=NB508_509.out;have hnc34:=NB509_508.out;have hcz35_0:w33.cell? ⟨gb508,0,none⟩=some (.int .i64 a0_0):=(blk_cell BK508.out 0).trans rfl;have hcz35_1:w33.cell? ⟨gb508,1,none⟩=some (.int .i64 a0_1):=(blk_cell BK508.out 1).trans rfl;have hcz35_2:w33.cell? ⟨gb508,2,none⟩=some (.int .i64 a0_2):=(blk_cell BK508.out 2).trans rfl;have hcz35_3:w33.cell? ⟨gb508,3,none⟩=some (.int .i64 a0_3):=(blk_cell BK508.out 3).trans rfl;have hcz35_4:w33.cell? ⟨gb508,4,none⟩=some (.slice A0_4 l0_4.length c0_4):=(blk_cell BK508.out 4).trans rfl;have hcz35_5:w33.cell? ⟨gb508,5,none⟩=some (.slice A0_5 l0_5.length c0_5):=(blk_cell BK508.out 5).trans rfl;have hcz35_6:w33.cell? ⟨gb508,6,none⟩=some (.slice A0_6 l0_6.length c0_6):=(blk_cell BK508.out 6).trans rfl;have hfz35_0:=blk_frozen BK508.out 0;have hfz35_1:=blk_frozen BK508.out 1;have hfz35_2:=blk_frozen BK508.out 2;have hfz35_3:=blk_frozen BK508.out 3;have hfz35_4:=blk_frozen BK508.out 4;have hfz35_5:=blk_frozen BK508.out 5;have hfz35_6:=blk_frozen BK508.out 6;have hcz36_0:w33.cell? ⟨gb509,0,none⟩=some (.int .i64 a1_0):=(blk_cell BK509.out 0).trans rfl;have hcz36_1:w33.cell? ⟨gb509,1,none⟩=some (.int .i64 a1_1):=(blk_cell BK509.out 1).trans rfl;have hcz36_2:w33.cell? ⟨gb509,2,none⟩=some (.int .i64 a1_2):=(blk_cell BK509.out 2).trans rfl;have hcz36_3:w33.cell? ⟨gb509,3,none⟩=some (.int .i64 a1_3):=(blk_cell BK509.out 3).trans rfl;have hcz36_4:w33.cell? ⟨gb509,4,none⟩=some (.slice A1_4 l1_4.length c1_4):=(blk_cell BK509.out 4).trans rfl;have hcz36_5:w33.cell? ⟨gb509,5,none⟩=some (.slice A1_5 l1_5.length c1_5):=(blk_cell BK509.out 5).trans rfl;have hcz36_6:w33.cell? ⟨gb509,6,none⟩=some (.slice A1_6 l1_6.length c1_6):=(blk_cell BK509.out 6).trans rfl;have hfz36_0:=blk_frozen BK509.out 0;have hfz36_1:=blk_frozen BK509.out 1;have hfz36_2:=blk_frozen BK509.out 2;have hfz36_3:=blk_frozen BK509.out 3;have hfz36_4:=blk_frozen BK509.out 4;have hfz36_5:=blk_frozen BK509.out 5;have hfz36_6:=blk_frozen BK509.out 6))
    go_ret
    exact ⟨by first|rfl|(simp [errW_none,errW_some] <;> rfl)|(simp [*,errW_none,errW_some] <;> rfl),by repeat (first|(with_reducible first|exact HB.out|apply zlA|apply zlN|apply zlD|refine zlS ?_ GE508.out|refine zlS ?_ GE509.out)|exact HB.out)⟩
  ·rw [if_neg c4] at H
   have c4b0:(a0_1 == a1_1)=false:=beq_eq_false_iff_ne.mpr c4
   have c4b1:(a0_1 != a1_1)=true:=bne_iff_ne.mpr c4
   obtain rfl:=Option.some.inj H
   go_enter Try.func32,Try.ntmps32
   go_wp2_with (first|((with_reducible refine gate_dst (N:=2) rfl ?_);refine box_event ?hg (N:=2) ?hd (cs:=#[.int .i64 a0_0,.int .i64 a0_1,.int .i64 a0_2,.int .i64 a0_3,.slice A0_4 l0_4.length c0_4,.slice A0_5 l0_5.length c0_5,.slice A0_6 l0_6.length c0_6]) (t:=42) ?hr ?_;(case hd=>rfl);(case hg=>rfl);(case hr=>first|(go_simp;done)|(go_simp;rfl));intro gb508 hg w37 hbox hb;have n0_:=zm (below_step (by repeat (first|(with_reducible first|exact HB.out|apply zlA|apply zlN|apply zlD)|exact HB.out)) hb);have n1_:=zm (hbox);have n2_:=zm ((by rw [hg];exact (below_size (by repeat (first|(with_reducible first|exact HB.out|apply zlA|apply zlN|apply zlD)|exact HB.out))):w.heap.size≤gb508));have n3_:=zm ((by rw [hg];exact (below_size (by repeat (first|(with_reducible first|exact HB.out|apply zlA|apply zlN|apply zlD)|exact HB.out))):w.heap.size≤gb508));clear HB;have HB:=n0_;have BK508:=n1_;have GW508:=n2_;have GE508:=n3_;clear n0_ n1_ n2_ n3_;clear hb hbox hg)|((with_reducible refine gate_dst (N:=3) rfl ?_);refine box_event ?hg (N:=3) ?hd (cs:=#[.int .i64 a1_0,.int .i64 a1_1,.int .i64 a1_2,.int .i64 a1_3,.slice A1_4 l1_4.length c1_4,.slice A1_5 l1_5.length c1_5,.slice A1_6 l1_6.length c1_6]) (t:=42) ?hr ?_;(case hd=>rfl);(case hg=>rfl);(case hr=>first|(go_simp;done)|(go_simp;rfl));intro gb509 hg w38 hbox hb;have n0_:=zm (zbB (g:=gb508) (o:=.cells #[.int .i64 a0_0,.int .i64 a0_1,.int .i64 a0_2,.int .i64 a0_3,.slice A0_4 l0_4.length c0_4,.slice A0_5 l0_5.length c0_5,.slice A0_6 l0_6.length c0_6] 42 (0,0)) (by (with_reducible repeat (first|refine zbN ?_ _|refine zbD ?_|refine zbA ?_ _));exact BK508.out) hb);have n1_:=zm (below_step (by repeat (first|(with_reducible first|exact HB.out|apply zlA|apply zlN|apply zlD|refine zlS ?_ GE508.out)|exact HB.out)) hb);have n2_:=zm (hbox);have n3_:=zm ((by rw [hg];exact (below_size (by repeat (first|(with_reducible first|exact HB.out|apply zlA|apply zlN|apply zlD|refine zlS ?_ GE508.out)|exact HB.out))):w.heap.size≤gb509));have n4_:=zm ((by rw [hg];exact (below_size (by repeat (first|(with_reducible first|exact HB.out|apply zlA|apply zlN|apply zlD|refine zlS ?_ GE508.out)|exact HB.out))):w.heap.size≤gb509));have n5_:=zm ((by rw [hg];exact Nat.ne_of_lt (blk_lt (g:=gb508) (o:=.cells #[.int .i64 a0_0,.int .i64 a0_1,.int .i64 a0_2,.int .i64 a0_3,.slice A0_4 l0_4.length c0_4,.slice A0_5 l0_5.length c0_5,.slice A0_6 l0_6.length c0_6] 42 (0,0)) (by (with_reducible repeat (first|refine zbN ?_ _|refine zbD ?_|refine zbA ?_ _));exact BK508.out)):gb508≠gb509));have n6_:=zm ((by rw [hg];exact Nat.ne_of_gt (blk_lt (g:=gb508) (o:=.cells #[.int .i64 a0_0,.int .i64 a0_1,.int .i64 a0_2,.int .i64 a0_3,.slice A0_4 l0_4.length c0_4,.slice A0_5 l0_5.length c0_5,.slice A0_6 l0_6.length c0_6] 42 (0,0)) (by (with_reducible repeat (first|refine zbN ?_ _|refine zbD ?_|refine zbA ?_ _));exact BK508.out)):gb509≠gb508));clear BK508 HB;have BK508:=n0_;have HB:=n1_;have BK509:=n2_;have GW509:=n3_;have GE509:=n4_;have NB508_509:=n5_;have NB509_508:=n6_;clear n0_ n1_ n2_ n3_ n4_ n5_ n6_;clear hb hbox hg;have hnb39:=NB508_509.out;have hnc39:=NB509_508.out;have hcz40_0:w38.cell? ⟨gb508,0,none⟩=some (.int .i64 a0_0):=(blk_cell BK508.out 0).trans rfl;have hcz40_1:w38.cell? ⟨gb508,1,none⟩=some (.int .i64 a0_1):=(blk_cell BK508.out 1).trans rfl;have hcz40_2:w38.cell? ⟨gb508,2,none⟩=some (.int .i64 a0_2):=(blk_cell BK508.out 2).trans rfl;have hcz40_3:w38.cell? ⟨gb508,3,none⟩=some (.int .i64 a0_3):=(blk_cell BK508.out 3).trans rfl;have hcz40_4:w38.cell? ⟨gb508,4,none⟩=some (.slice A0_4 l0_4.length c0_4):=(blk_cell BK508.out 4).trans rfl;have hcz40_5:w38.cell? ⟨gb508,5,none⟩=some (.slice A0_5 l0_5.length c0_5):=(blk_cell BK508.out 5).trans rfl;have hcz40_6:w38.cell? ⟨gb508,6,none⟩=some (.slice A0_6 l0_6.length c0_6):=(blk_cell BK508.out 6).trans rfl;have hfz40_0:=blk_frozen BK508.out 0;have hfz40_1:=blk_frozen BK508.out 1;have hfz40_2:=blk_frozen BK508.out 2;have hfz40_3:=blk_frozen BK508.out 3;have hfz40_4:=blk_frozen BK508.out 4;have hfz40_5:=blk_frozen BK508.out 5;have hfz40_6:=blk_frozen BK508.out 6;have hcz41_0:w38.cell? ⟨gb509,0,none⟩=some (.int .i64 a1_0):=(blk_cell BK509.out 0).trans rfl;have hcz41_1:w38.cell? ⟨gb509,1,none⟩=some (.int .i64 a1_1):=(blk_cell BK509.out 1).trans rfl;have hcz41_2:w38.cell? ⟨gb509,2,none⟩=some (.int .i64 a1_2):=(blk_cell BK509.out 2).trans rfl;have hcz41_3:w38.cell? ⟨gb509,3,none⟩=some (.int .i64 a1_3):=(blk_cell BK509.out 3).trans rfl;have hcz41_4:w38.cell? ⟨gb509,4,none⟩=some (.slice A1_4 l1_4.length c1_4):=(blk_cell BK509.out 4).trans rfl;have hcz41_5:w38.cell? ⟨gb509,5,none⟩=some (.slice A1_5 l1_5.length c1_5):=(blk_cell BK509.out 5).trans rfl;have hcz41_6:w38.cell? ⟨gb509,6,none⟩=some (.slice A1_6 l1_6.length c1_6):=(blk_cell BK509.out 6).trans rfl;have hfz41_0:=blk_frozen BK509.out 0;have hfz41_1:=blk_frozen BK509.out 1;have hfz41_2:=blk_frozen BK509.out 2;have hfz41_3:=blk_frozen BK509.out 3;have hfz41_4:=blk_frozen BK509.out 4;have hfz41_5:=blk_frozen BK509.out 5;have hfz41_6:=blk_frozen BK509.out 6))
   go_ret
   exact ⟨by first|rfl|(simp [errW_none,errW_some] <;> rfl)|(simp [*,errW_none,errW_some] <;> rfl),by repeat (first|(with_reducible first|exact HB.out|apply zlA|apply zlN|apply zlD|refine zlS ?_ GE508.out|refine zlS ?_ GE509.out)|exact HB.out)⟩
 ·rw [if_neg c3] at H
  have c3b0:(a0_0 == a1_0)=false:=beq_eq_false_iff_ne.mpr c3
  have c3b1:(a0_0 != a1_0)=true:=bne_iff_ne.mpr c3
  obtain rfl:=Option.some.inj H
  go_enter Try.func32,Try.ntmps32
  go_wp2_with (first|((with_reducible refine gate_dst (N:=2) rfl ?_);refine box_event ?hg (N:=2) ?hd (cs:=#[.int .i64 a0_0,.int .i64 a0_1,.int .i64 a0_2,.int .i64 a0_3,.slice A0_4 l0_4.length c0_4,.slice A0_5 l0_5.length c0_5,.slice A0_6 l0_6.length c0_6]) (t:=42) ?hr ?_;(case hd=>rfl);(case hg=>rfl);(case hr=>first|(go_simp;done)|(go_simp;rfl));intro gb508 hg w42 hbox hb;have n0_:=zm (below_step (by repeat (first|(with_reducible first|exact HB.out|apply zlA|apply zlN|apply zlD)|exact HB.out)) hb);have n1_:=zm (hbox);have n2_:=zm ((by rw [hg];exact (below_size (by repeat (first|(with_reducible first|exact HB.out|apply zlA|apply zlN|apply zlD)|exact HB.out))):w.heap.size≤gb508));have n3_:=zm ((by rw [hg];exact (below_size (by repeat (first|(with_reducible first|exact HB.out|apply zlA|apply zlN|apply zlD)|exact HB.out))):w.heap.size≤gb508));clear HB;have HB:=n0_;have BK508:=n1_;have GW508:=n2_;have GE508:=n3_;clear n0_ n1_ n2_ n3_;clear hb hbox hg)|((with_reducible refine gate_dst (N:=3) rfl ?_);refine box_event ?hg (N:=3) ?hd (cs:=#[.int .i64 a1_0,.int .i64 a1_1,.int .i64 a1_2,.int .i64 a1_3,.slice A1_4 l1_4.length c1_4,.slice A1_5 l1_5.length c1_5,.slice A1_6 l1_6.length c1_6]) (t:=42) ?hr ?_;(case hd=>rfl);(case hg=>rfl);(case hr=>first|(go_simp;done)|(go_simp;rfl));intro gb509 hg w43 hbox hb;have n0_:=zm (zbB (g:=gb508) (o:=.cells #[.int .i64 a0_0,.int .i64 a0_1,.int .i64 a0_2,.int .i64 a0_3,.slice A0_4 l0_4.length c0_4,.slice A0_5 l0_5.length c0_5,.slice A0_6 l0_6.length c0_6] 42 (0,0)) (by (with_reducible repeat (first|refine zbN ?_ _|refine zbD ?_|refine zbA ?_ _));exact BK508.out) hb);have n1_:=zm (below_step (by repeat (first|(with_reducible first|exact HB.out|apply zlA|apply zlN|apply zlD|refine zlS ?_ GE508.out)|exact HB.out)) hb);have n2_:=zm (hbox);have n3_:=zm ((by rw [hg];exact (below_size (by repeat (first|(with_reducible first|exact HB.out|apply zlA|apply zlN|apply zlD|refine zlS ?_ GE508.out)|exact HB.out))):w.heap.size≤gb509));have n4_:=zm ((by rw [hg];exact (below_size (by repeat (first|(with_reducible first|exact HB.out|apply zlA|apply zlN|apply zlD|refine zlS ?_ GE508.out)|exact HB.out))):w.heap.size≤gb509));have n5_:=zm ((by rw [hg];exact Nat.ne_of_lt (blk_lt (g:=gb508) (o:=.cells #[.int .i64 a0_0,.int .i64 a0_1,.int .i64 a0_2,.int .i64 a0_3,.slice A0_4 l0_4.length c0_4,.slice A0_5 l0_5.length c0_5,.slice A0_6 l0_6.length c0_6] 42 (0,0)) (by (with_reducible repeat (first|refine zbN ?_ _|refine zbD ?_|refine zbA ?_ _));exact BK508.out)):gb508≠gb509));have n6_:=zm ((by rw [hg];exact Nat.ne_of_gt (blk_lt (g:=gb508) (o:=.cells #[.int .i64 a0_0,.int .i64 a0_1,.int .i64 a0_2,.int .i64 a0_3,.slice A0_4 l0_4.length c0_4,.slice A0_5 l0_5.length c0_5,.slice A0_6 l0_6.length c0_6] 42 (0,0)) (by (with_reducible repeat (first|refine zbN ?_ _|refine zbD ?_|refine zbA ?_ _));exact BK508.out)):gb509≠gb508));clear BK508 HB;have BK508:=n0_;have HB:=n1_;have BK509:=n2_;have GW509:=n3_;have GE509:=n4_;have NB508_509:=n5_;have NB509_508:=n6_;clear n0_ n1_ n2_ n3_ n4_ n5_ n6_;clear hb hbox hg;have hnb44:=NB508_509.out;have hnc44:=NB509_508.out;have hcz45_0:w43.cell? ⟨gb508,0,none⟩=some (.int .i64 a0_0):=(blk_cell BK508.out 0).trans rfl;have hcz45_1:w43.cell? ⟨gb508,1,none⟩=some (.int .i64 a0_1):=(blk_cell BK508.out 1).trans rfl;have hcz45_2:w43.cell? ⟨gb508,2,none⟩=some (.int .i64 a0_2):=(blk_cell BK508.out 2).trans rfl;have hcz45_3:w43.cell? ⟨gb508,3,none⟩=some (.int .i64 a0_3):=(blk_cell BK508.out 3).trans rfl;have hcz45_4:w43.cell? ⟨gb508,4,none⟩=some (.slice A0_4 l0_4.length c0_4):=(blk_cell BK508.out 4).trans rfl;have hcz45_5:w43.cell? ⟨gb508,5,none⟩=some (.slice A0_5 l0_5.length c0_5):=(blk_cell BK508.out 5).trans rfl;have hcz45_6:w43.cell? ⟨gb508,6,none⟩=some (.slice A0_6 l0_6.length c0_6):=(blk_cell BK508.out 6).trans rfl;have hfz45_0:=blk_frozen BK508.out 0;have hfz45_1:=blk_frozen BK508.out 1;have hfz45_2:=blk_frozen BK508.out 2;have hfz45_3:=blk_frozen BK508.out 3;have hfz45_4:=blk_frozen BK508.out 4;have hfz45_5:=blk_frozen BK508.out 5;have hfz45_6:=blk_frozen BK508.out 6;have hcz46_0:w43.cell? ⟨gb509,0,none⟩=some (.int .i64 a1_0):=(blk_cell BK509.out 0).trans rfl;have hcz46_1:w43.cell? ⟨gb509,1,none⟩=some (.int .i64 a1_1):=(blk_cell BK509.out 1).trans rfl;have hcz46_2:w43.cell? ⟨gb509,2,none⟩=some (.int .i64 a1_2):=(blk_cell BK509.out 2).trans rfl;have hcz46_3:w43.cell? ⟨gb509,3,none⟩=some (.int .i64 a1_3):=(blk_cell BK509.out 3).trans rfl;have hcz46_4:w43.cell? ⟨gb509,4,none⟩=some (.slice A1_4 l1_4.length c1_4):=(blk_cell BK509.out 4).trans rfl;have hcz46_5:w43.cell? ⟨gb509,5,none⟩=some (.slice A1_5 l1_5.length c1_5):=(blk_cell BK509.out 5).trans rfl;have hcz46_6:w43.cell? ⟨gb509,6,none⟩=some (.slice A1_6 l1_6.length c1_6):=(blk_cell BK509.out 6).trans rfl;have hfz46_0:=blk_frozen BK509.out 0;have hfz46_1:=blk_frozen BK509.out 1;have hfz46_2:=blk_frozen BK509.out 2;have hfz46_3:=blk_frozen BK509.out 3;have hfz46_4:=blk_frozen BK509.out 4;have hfz46_5:=blk_frozen BK509.out 5;have hfz46_6:=blk_frozen BK509.out 6))
  go_ret
  exact ⟨by first|rfl|(simp [errW_none,errW_some] <;> rfl)|(simp [*,errW_none,errW_some] <;> rfl),by repeat (first|(with_reducible first|exact HB.out|apply zlA|apply zlN|apply zlD|refine zlS ?_ GE508.out|refine zlS ?_ GE509.out)|exact HB.out)⟩
end Go.Proofs.Ytkhbmgclklmimaa.Print
end
section
namespace Go.Proofs.Ytkhbmgclklmimaa.Print
open Go.RowKit Go.Proofs.YtkhbmgclklmimaaW.PrintWords Go.Proofs.YtkhbmgclklmimaaW.PrintLast Go.Proofs.YtkhbmgclklmimaaW.PrintMore
attribute [local go_sem] max2_int min2_int max_two min_two max_three min_three max_four min_four   -- for this text's walks alone
attribute [local go_sem ↓] Go.Proofs.Ytkhbmgclklmimaa.Sem.isSome_setCell
attribute [local go_sem] Go.Instr.field Go.asAgg
set_option linter.unusedVariables false
set_option linter.unusedSimpArgs false
def slipwayref06_SamePages.l0:Nat → List (S42) → List (S42) → Int → Option (Bool)
 | 0,_,_,_=>none
 | k + 1,x0,x1,x5=>if x5 < (x0.length:Int) then (if 0≤x5 then (if x5 < (x1.length:Int) then ((slipwayref06_SamePage.f k ((rd_T42 x0 x5).f0) ((rd_T42 x0 x5).f1) ((rd_T42 x0 x5).f2) ((rd_T42 x0 x5).f3) ((rd_T42 x0 x5).f4) ((rd_T42 x0 x5).f5) ((rd_T42 x0 x5).f6) ((rd_T42 x1 x5).f0) ((rd_T42 x1 x5).f1) ((rd_T42 x1 x5).f2) ((rd_T42 x1 x5).f3) ((rd_T42 x1 x5).f4) ((rd_T42 x1 x5).f5) ((rd_T42 x1 x5).f6)).bind fun t515=>(if t515=true then (slipwayref06_SamePages.l0 k x0 x1 (wrap64 (x5 + 1))) else (some false))) else (none)) else (none)) else (some true)
def slipwayref06_SamePages.f (k:Nat) (l0:List (S42)) (l1:List (S42)):Option (Bool):=if (l0.length:Int)=(l1.length:Int) then (slipwayref06_SamePages.l0 k l0 l1 0) else (some false)
def slipwayref06_SamePages.T6:Bool × List (List Nat × List Nat):=(true,[([],[]),([],[]),([0,1],[0,1]),([2],[2]),([],[]),([],[]),([4,5],[4,5]),([6],[6]),([3,7],[3,7]),([8],[8])])
def slipwayref06_SamePages.B6:List Nat:=[0,0,3,7,0,0,48,112,255,511]
theorem slipwayref06_SamePages.tab6:rtab .any (opsOf Try.f31 6)=slipwayref06_SamePages.T6:=by kernel_rfl
theorem slipwayref06_SamePages.bits6:waitsOk slipwayref06_SamePages.T6.2 slipwayref06_SamePages.B6=true:=by kernel_rfl
set_option maxHeartbeats 8000000 in
set_option maxRecDepth 100000 in
theorem slipwayref06_SamePages.calls (k:Nat) (A0:Option Addr) (c0:Nat) (l0:List (S42)) (A1:Option Addr) (c1:Nat) (l1:List (S42)) (r:Bool) (w:World) (hr0:Kd.C k42 w A0 l0.length l0) (hc0:l0.length≤c0) (hr1:Kd.C k42 w A1 l1.length l1) (hc1:l1.length≤c1) (h:slipwayref06_SamePages.f k l0 l1=some r) :
  Calls Try.prog 31 #[.slice A0 l0.length c0,.slice A1 l1.length c1] w fun e w'=>e=.returned (.bool r)∧Below w.heap.size w w':=by
 have hu42:=Try.underlying42
 have HR0:=zm hr0
 have HC0:=zm hc0
 clear hr0 hc0
 have HR1:=zm hr1
 have HC1:=zm hc1
 clear hr1 hc1
 have HB:=zm (Below.refl w.heap.size w)
 have H:(if (l0.length:Int)=(l1.length:Int) then (slipwayref06_SamePages.l0 k l0 l1 0) else (some false))=some r:=h
 clear h
 by_cases c3:(l0.length:Int)=(l1.length:Int)
 ·rw [if_pos c3] at H
  have c3b0:((l0.length:Int) == (l1.length:Int))=true:=beq_iff_eq.mpr c3
  have c3b1:((l0.length:Int) != (l1.length:Int))=false:=bne_eq_false_iff_eq.mpr c3
  have c3b2:(l0.length == l1.length)=true:=by first|simpa using c3|(simp at c3 ⊢;omega)
  clear c3
  have H':=zm H
  clear H
  go_enter Try.func31,Try.ntmps31
  go_wp2
  go_loopg [5] k (fun kq v5 w'=>∃ (x5_1:Int),v5=.int .i64 x5_1∧Aside0 (slipwayref06_SamePages.l0 kq l0 l1 x5_1=some r)∧Aside0 (kq≤k)∧Aside0 (Below w.heap.size w w'))
  case atStart=>exact ⟨(0),(by first|rfl|(simp;done)|(simp [*];done)),H',⟨Nat.le_refl _⟩,⟨by repeat (first|(with_reducible first|exact HB.out|apply zlA|apply zlN|apply zlD)|exact HB.out)⟩⟩
  case round =>
   clear H'
   try clear c1
   try clear p2
   try clear c3
   try clear c3b0
   try clear c3b1
   try clear c3b2
   obtain ⟨x5_1,rfl,HA,HK1,HB⟩:=hrel
   cases gk with
   | zero=>exact absurd HA.out (by simp [slipwayref06_SamePages.l0])
   | succ k1 =>
    have H:=HA.out
    clear HA
    simp only [slipwayref06_SamePages.l0] at H
    by_cases c4:x5_1 < (l0.length:Int)
    ·rw [if_pos c4] at H
     have c4b0:decide (x5_1 < (l0.length:Int))=true:=decide_eq_true c4
     clear c4
     by_cases c5:0≤x5_1
     ·rw [if_pos c5] at H
      have c5b0:decide (0≤x5_1)=true:=decide_eq_true c5
      clear c5
      by_cases c6:x5_1 < (l1.length:Int)
      ·rw [if_pos c6] at H
       have c6b0:decide (x5_1 < (l1.length:Int))=true:=decide_eq_true c6
       clear c6
       replace H:=Option.bind_eq_some_iff.mp H
       obtain ⟨t515,A70,H⟩:=H
       replace H:(if t515=true then (slipwayref06_SamePages.l0 k1 l0 l1 (wrap64 (x5_1 + 1))) else (some false))=some r:=H
       have A7:=zm A70
       clear A70
       by_cases c8:t515=true
       ·subst c8
        have H1:(slipwayref06_SamePages.l0 k1 l0 l1 (wrap64 (x5_1 + 1)))=some r:=by rw [if_pos rfl] at H;exact H
        clear H
        have H:=H1
        clear H1
        have H':=zm H
        clear H
        try go_wp2
        have n0_:=zm (zlD HB.out)
        clear HB
        have HB:=n0_
        clear n0_
        have p513:0≤(x5_1:Int):=of_decide_eq_true (by first|(with_reducible assumption)|assumption)
        have q513:x5_1 < (l0.length:Int):=of_decide_eq_true (by first|(with_reducible assumption)|assumption)
        obtain ⟨ad513,A513_4,c513_4,A513_5,c513_5,A513_6,c513_6,e513,hx513_0,hx513_1,hx513_2,hx513_3,hx513_4,hx513_5,hx513_6,hl513_4,hi513_4,hl513_5,hi513_5,hl513_6,hi513_6⟩:=at_T42 HR0.out x5_1 p513 q513
        have hw513_6:=hx513_6
        have hw513_5:=hx513_5
        have hw513_4:=hx513_4
        have hw513_3:=hx513_3
        have hw513_2:=hx513_2
        have hw513_1:=hx513_1
        have hw513_0:=hx513_0
        cases e513
        replace hx513_0:=(HB.out.cell (World.block_lt_of_cell? w _ hx513_0)).trans hx513_0
        replace hx513_1:=(HB.out.cell (World.block_lt_of_cell? w _ hx513_1)).trans hx513_1
        replace hx513_2:=(HB.out.cell (World.block_lt_of_cell? w _ hx513_2)).trans hx513_2
        replace hx513_3:=(HB.out.cell (World.block_lt_of_cell? w _ hx513_3)).trans hx513_3
        replace hx513_4:=(HB.out.cell (World.block_lt_of_cell? w _ hx513_4)).trans hx513_4
        replace hx513_5:=(HB.out.cell (World.block_lt_of_cell? w _ hx513_5)).trans hx513_5
        replace hx513_6:=(HB.out.cell (World.block_lt_of_cell? w _ hx513_6)).trans hx513_6
        have HR513_4:=zm hi513_4
        have HC513_4:=zm hl513_4
        clear hi513_4 hl513_4
        have HR513_5:=zm hi513_5
        have HC513_5:=zm hl513_5
        clear hi513_5 hl513_5
        have HR513_6:=zm hi513_6
        have HC513_6:=zm hl513_6
        clear hi513_6 hl513_6
        replace p513:=eq_true p513
        replace q513:=eq_true q513
        have p514:0≤(x5_1:Int):=of_decide_eq_true (by first|(with_reducible assumption)|assumption)
        have q514:x5_1 < (l1.length:Int):=of_decide_eq_true (by first|(with_reducible assumption)|assumption)
        obtain ⟨ad514,A514_4,c514_4,A514_5,c514_5,A514_6,c514_6,e514,hx514_0,hx514_1,hx514_2,hx514_3,hx514_4,hx514_5,hx514_6,hl514_4,hi514_4,hl514_5,hi514_5,hl514_6,hi514_6⟩:=at_T42 HR1.out x5_1 p514 q514
        have hw514_6:=hx514_6
        have hw514_5:=hx514_5
        have hw514_4:=hx514_4
        have hw514_3:=hx514_3
        have hw514_2:=hx514_2
        have hw514_1:=hx514_1
        have hw514_0:=hx514_0
        cases e514
        replace hx514_0:=(HB.out.cell (World.block_lt_of_cell? w _ hx514_0)).trans hx514_0
        replace hx514_1:=(HB.out.cell (World.block_lt_of_cell? w _ hx514_1)).trans hx514_1
        replace hx514_2:=(HB.out.cell (World.block_lt_of_cell? w _ hx514_2)).trans hx514_2
        replace hx514_3:=(HB.out.cell (World.block_lt_of_cell? w _ hx514_3)).trans hx514_3
        replace hx514_4:=(HB.out.cell (World.block_lt_of_cell? w _ hx514_4)).trans hx514_4
        replace hx514_5:=(HB.out.cell (World.block_lt_of_cell? w _ hx514_5)).trans hx514_5
        replace hx514_6:=(HB.out.cell (World.block_lt_of_cell? w _ hx514_6)).trans hx514_6
        have HR514_4:=zm hi514_4
        have HC514_4:=zm hl514_4
        clear hi514_4 hl514_4
        have HR514_5:=zm hi514_5
        have HC514_5:=zm hl514_5
        clear hi514_5 hl514_5
        have HR514_6:=zm hi514_6
        have HC514_6:=zm hl514_6
        clear hi514_6 hl514_6
        replace p514:=eq_true p514
        replace q514:=eq_true q514
        refine start_ (n:=10) (S:=fun w'=>w'.cell? (ad513.add ((x5_1).toNat * 7))=some (.int .i64 ((rd_T42 l0 x5_1).f0))∧w'.cell? ⟨(ad513.add ((x5_1).toNat * 7)).block,(ad513.add ((x5_1).toNat * 7)).off + 1,none⟩=some (.int .i64 ((rd_T42 l0 x5_1).f1))∧w'.cell? ⟨(ad513.add ((x5_1).toNat * 7)).block,(ad513.add ((x5_1).toNat * 7)).off + 2,none⟩=some (.int .i64 ((rd_T42 l0 x5_1).f2))∧w'.cell? ⟨(ad513.add ((x5_1).toNat * 7)).block,(ad513.add ((x5_1).toNat * 7)).off + 3,none⟩=some (.int .i64 ((rd_T42 l0 x5_1).f3))∧w'.cell? ⟨(ad513.add ((x5_1).toNat * 7)).block,(ad513.add ((x5_1).toNat * 7)).off + 4,none⟩=some (.slice A513_4 ((rd_T42 l0 x5_1).f4).length c513_4)∧w'.cell? ⟨(ad513.add ((x5_1).toNat * 7)).block,(ad513.add ((x5_1).toNat * 7)).off + 5,none⟩=some (.slice A513_5 ((rd_T42 l0 x5_1).f5).length c513_5)∧w'.cell? ⟨(ad513.add ((x5_1).toNat * 7)).block,(ad513.add ((x5_1).toNat * 7)).off + 6,none⟩=some (.slice A513_6 ((rd_T42 l0 x5_1).f6).length c513_6)∧w'.cell? (ad514.add ((x5_1).toNat * 7))=some (.int .i64 ((rd_T42 l1 x5_1).f0))∧w'.cell? ⟨(ad514.add ((x5_1).toNat * 7)).block,(ad514.add ((x5_1).toNat * 7)).off + 1,none⟩=some (.int .i64 ((rd_T42 l1 x5_1).f1))∧w'.cell? ⟨(ad514.add ((x5_1).toNat * 7)).block,(ad514.add ((x5_1).toNat * 7)).off + 2,none⟩=some (.int .i64 ((rd_T42 l1 x5_1).f2))∧w'.cell? ⟨(ad514.add ((x5_1).toNat * 7)).block,(ad514.add ((x5_1).toNat * 7)).off + 3,none⟩=some (.int .i64 ((rd_T42 l1 x5_1).f3))∧w'.cell? ⟨(ad514.add ((x5_1).toNat * 7)).block,(ad514.add ((x5_1).toNat * 7)).off + 4,none⟩=some (.slice A514_4 ((rd_T42 l1 x5_1).f4).length c514_4)∧w'.cell? ⟨(ad514.add ((x5_1).toNat * 7)).block,(ad514.add ((x5_1).toNat * 7)).off + 5,none⟩=some (.slice A514_5 ((rd_T42 l1 x5_1).f5).length c514_5)∧w'.cell? ⟨(ad514.add ((x5_1).toNat * 7)).block,(ad514.add ((x5_1).toNat * 7)).off + 6,none⟩=some (.slice A514_6 ((rd_T42 l1 x5_1).f6).length c514_6)) (ds:=[]) #[false,false,false,false,false,false,false,false,false,false] (by kernel_rfl) rfl rfl ⟨((HB.out.cell (World.block_lt_of_cell? w _ hw513_0)).trans hw513_0),((HB.out.cell (World.block_lt_of_cell? w _ hw513_1)).trans hw513_1),((HB.out.cell (World.block_lt_of_cell? w _ hw513_2)).trans hw513_2),((HB.out.cell (World.block_lt_of_cell? w _ hw513_3)).trans hw513_3),((HB.out.cell (World.block_lt_of_cell? w _ hw513_4)).trans hw513_4),((HB.out.cell (World.block_lt_of_cell? w _ hw513_5)).trans hw513_5),((HB.out.cell (World.block_lt_of_cell? w _ hw513_6)).trans hw513_6),((HB.out.cell (World.block_lt_of_cell? w _ hw514_0)).trans hw514_0),((HB.out.cell (World.block_lt_of_cell? w _ hw514_1)).trans hw514_1),((HB.out.cell (World.block_lt_of_cell? w _ hw514_2)).trans hw514_2),((HB.out.cell (World.block_lt_of_cell? w _ hw514_3)).trans hw514_3),((HB.out.cell (World.block_lt_of_cell? w _ hw514_4)).trans hw514_4),((HB.out.cell (World.block_lt_of_cell? w _ hw514_5)).trans hw514_5),((HB.out.cell (World.block_lt_of_cell? w _ hw514_6)).trans hw514_6)⟩ (fun hHeld=>?_);refine with_tabW slipwayref06_SamePages.tab6 slipwayref06_SamePages.bits6 (fun HT_ HW_=>?_)
        generalize wr.drew=w9 at HB HR513_4 HR513_5 HR513_6 HR514_4 HR514_5 HR514_6 hx513_0 hx513_1 hx513_2 hx513_3 hx513_4 hx513_5 hx513_6 hx514_0 hx514_1 hx514_2 hx514_3 hx514_4 hx514_5 hx514_6 hHeld ⊢
        refine pure_ (i:=0) (N:=some 17) (v:=?_) (a':=?_) #[true,false,false,false,false,false,false,false,false,false] rfl rfl (any_of HT_.out (by kernel_rfl)) (fun _ _ _ h=>h) (Or.inl ⟨by rfl,?_⟩) ?_ ?_
        rotate_left
        ·intro w'
         go_simp
         with_reducible rfl
        rotate_left
        ·simp only [Act.put,List.setIfInBounds_toArray,List.set_cons_zero,List.set_cons_succ,i64_w,i32_w]
         rfl
        refine pure_ (i:=1) (N:=some 18) (v:=?_) (a':=?_) #[true,true,false,false,false,false,false,false,false,false] rfl rfl (any_of HT_.out (by kernel_rfl)) (fun _ _ _ h=>h) (Or.inl ⟨by rfl,?_⟩) ?_ ?_
        rotate_left
        ·intro w'
         go_simp
         with_reducible rfl
        rotate_left
        ·simp only [Act.put,List.setIfInBounds_toArray,List.set_cons_zero,List.set_cons_succ,i64_w,i32_w]
         rfl
        refine pure_ (i:=2) (N:=some 19) (v:=?_) (a':=?_) #[true,true,true,false,false,false,false,false,false,false] rfl rfl (any_of HT_.out (by kernel_rfl)) (fun _ _ _ h=>h) (Or.inl ⟨by rfl,?_⟩) ?_ ?_
        rotate_left
        ·intro w'
         go_simp
         with_reducible rfl
        rotate_left
        ·simp only [Act.put,List.setIfInBounds_toArray,List.set_cons_zero,List.set_cons_succ,i64_w,i32_w]
         rfl
        refine pure_ (i:=4) (N:=some 21) (v:=?_) (a':=?_) #[true,true,true,false,true,false,false,false,false,false] rfl rfl (any_of HT_.out (by kernel_rfl)) (fun _ _ _ h=>h) (Or.inl ⟨by rfl,?_⟩) ?_ ?_
        rotate_left
        ·intro w'
         go_simp
         with_reducible rfl
        rotate_left
        ·simp only [Act.put,List.setIfInBounds_toArray,List.set_cons_zero,List.set_cons_succ,i64_w,i32_w]
         rfl
        refine pure_ (i:=5) (N:=some 22) (v:=?_) (a':=?_) #[true,true,true,false,true,true,false,false,false,false] rfl rfl (any_of HT_.out (by kernel_rfl)) (fun _ _ _ h=>h) (Or.inl ⟨by rfl,?_⟩) ?_ ?_
        rotate_left
        ·intro w'
         go_simp
         with_reducible rfl
        rotate_left
        ·simp only [Act.put,List.setIfInBounds_toArray,List.set_cons_zero,List.set_cons_succ,i64_w,i32_w]
         rfl
        refine pure_ (i:=6) (N:=some 23) (v:=?_) (a':=?_) #[true,true,true,false,true,true,true,false,false,false] rfl rfl (any_of HT_.out (by kernel_rfl)) (fun _ _ _ h=>h) (Or.inl ⟨by rfl,?_⟩) ?_ ?_
        rotate_left
        ·intro w'
         go_simp
         with_reducible rfl
        rotate_left
        ·simp only [Act.put,List.setIfInBounds_toArray,List.set_cons_zero,List.set_cons_succ,i64_w,i32_w]
         rfl
        refine take_ (i:=3) (N:=some 20) (v:=?_) (a':=?_) #[true,true,true,true,true,true,true,false,false,false] rfl rfl (take_ofW HT_.out HW_.out (by kernel_rfl)) (fun _ _ _ h=>h) (Or.inl ⟨by rfl,?_⟩) hHeld ?_ ?_
        rotate_left
        ·rintro w' ⟨s0,s1,s2,s3,s4,s5,s6,s7,s8,s9,s10,s11,s12,s13⟩
         go_simp
         with_reducible rfl
        rotate_left
        ·simp only [Act.put,List.setIfInBounds_toArray,List.set_cons_zero,List.set_cons_succ,i64_w,i32_w]
         rfl
        refine take_ (i:=7) (N:=some 24) (v:=?_) (a':=?_) #[true,true,true,true,true,true,true,true,false,false] rfl rfl (take_ofW HT_.out HW_.out (by kernel_rfl)) (fun _ _ _ h=>h) (Or.inl ⟨by rfl,?_⟩) hHeld ?_ ?_
        rotate_left
        ·rintro w' ⟨s0,s1,s2,s3,s4,s5,s6,s7,s8,s9,s10,s11,s12,s13⟩
         go_simp
         with_reducible rfl
        rotate_left
        ·simp only [Act.put,List.setIfInBounds_toArray,List.set_cons_zero,List.set_cons_succ,i64_w,i32_w]
         rfl
        refine one_ (i:=8) (N:=some 25) #[true,true,true,true,true,true,true,true,true,false] rfl rfl (one_of HT_.out (by kernel_rfl)) (by decide) (fun K hK=>?_)
        refine goes_ Try.func32 (by kernel_rfl) rfl #[.agg #[.int .i64 ((rd_T42 l0 x5_1).f0),.int .i64 ((rd_T42 l0 x5_1).f1),.int .i64 ((rd_T42 l0 x5_1).f2),.int .i64 ((rd_T42 l0 x5_1).f3),.slice A513_4 ((rd_T42 l0 x5_1).f4).length c513_4,.slice A513_5 ((rd_T42 l0 x5_1).f5).length c513_5,.slice A513_6 ((rd_T42 l0 x5_1).f6).length c513_6],.agg #[.int .i64 ((rd_T42 l1 x5_1).f0),.int .i64 ((rd_T42 l1 x5_1).f1),.int .i64 ((rd_T42 l1 x5_1).f2),.int .i64 ((rd_T42 l1 x5_1).f3),.slice A514_4 ((rd_T42 l1 x5_1).f4).length c514_4,.slice A514_5 ((rd_T42 l1 x5_1).f5).length c514_5,.slice A514_6 ((rd_T42 l1 x5_1).f6).length c514_6]] (by rfl) rfl rfl (by (try simp only [List.map_toArray,List.map_cons,List.map_nil]);first|done|rfl|(simp only [List.length_drop,List.length_take];rfl)) ?_
        with_reducible refine (slipwayref06_SamePage.calls k1 ((rd_T42 l0 x5_1).f0) ((rd_T42 l0 x5_1).f1) ((rd_T42 l0 x5_1).f2) ((rd_T42 l0 x5_1).f3) _ _ ((rd_T42 l0 x5_1).f4) _ _ ((rd_T42 l0 x5_1).f5) _ _ ((rd_T42 l0 x5_1).f6) ((rd_T42 l1 x5_1).f0) ((rd_T42 l1 x5_1).f1) ((rd_T42 l1 x5_1).f2) ((rd_T42 l1 x5_1).f3) _ _ ((rd_T42 l1 x5_1).f4) _ _ ((rd_T42 l1 x5_1).f5) _ _ ((rd_T42 l1 x5_1).f6) true _ ?side1 ?side2 ?side3 ?side4 ?side5 ?side6 ?side7 ?side8 ?side9 ?side10 ?side11 ?side12 A7.out).mono ?_
        (case side1=>repeat (first|exact (Kd.C_below HR513_4.out HB.out)|(with_reducible refine Kd.C_alloc ?_ _)|(with_reducible refine Kd.C_drewN ?_ _)|(with_reducible refine Kd.C_drew ?_)))
        (case side2=>exact HC513_4.out)
        (case side3=>repeat (first|exact (Kd.C_below HR513_5.out HB.out)|(with_reducible refine Kd.C_alloc ?_ _)|(with_reducible refine Kd.C_drewN ?_ _)|(with_reducible refine Kd.C_drew ?_)))
        (case side4=>exact HC513_5.out)
        (case side5=>repeat (first|exact (Kd.C_below HR513_6.out HB.out)|(with_reducible refine Kd.C_alloc ?_ _)|(with_reducible refine Kd.C_drewN ?_ _)|(with_reducible refine Kd.C_drew ?_)))
        (case side6=>exact HC513_6.out)
        (case side7=>repeat (first|exact (Kd.C_below HR514_4.out HB.out)|(with_reducible refine Kd.C_alloc ?_ _)|(with_reducible refine Kd.C_drewN ?_ _)|(with_reducible refine Kd.C_drew ?_)))
        (case side8=>exact HC514_4.out)
        (case side9=>repeat (first|exact (Kd.C_below HR514_5.out HB.out)|(with_reducible refine Kd.C_alloc ?_ _)|(with_reducible refine Kd.C_drewN ?_ _)|(with_reducible refine Kd.C_drew ?_)))
        (case side10=>exact HC514_5.out)
        (case side11=>repeat (first|exact (Kd.C_below HR514_6.out HB.out)|(with_reducible refine Kd.C_alloc ?_ _)|(with_reducible refine Kd.C_drewN ?_ _)|(with_reducible refine Kd.C_drew ?_)))
        (case side12=>exact HC514_6.out)
        rintro e w10 ⟨rfl,hb⟩
        refine ⟨_,rfl,?_⟩
        have n0_:=zm (below_step (by repeat (first|(with_reducible first|exact HB.out|apply zlA|apply zlN|apply zlD)|exact HB.out)) hb)
        clear HB
        have HB:=n0_
        clear n0_
        (try clear hb)
        (try clear hb2)
        (try clear hk)
        (try clear hi)
        refine hK.out _ _ ⟨((HB.out.cell (World.block_lt_of_cell? w _ hw513_0)).trans hw513_0),((HB.out.cell (World.block_lt_of_cell? w _ hw513_1)).trans hw513_1),((HB.out.cell (World.block_lt_of_cell? w _ hw513_2)).trans hw513_2),((HB.out.cell (World.block_lt_of_cell? w _ hw513_3)).trans hw513_3),((HB.out.cell (World.block_lt_of_cell? w _ hw513_4)).trans hw513_4),((HB.out.cell (World.block_lt_of_cell? w _ hw513_5)).trans hw513_5),((HB.out.cell (World.block_lt_of_cell? w _ hw513_6)).trans hw513_6),((HB.out.cell (World.block_lt_of_cell? w _ hw514_0)).trans hw514_0),((HB.out.cell (World.block_lt_of_cell? w _ hw514_1)).trans hw514_1),((HB.out.cell (World.block_lt_of_cell? w _ hw514_2)).trans hw514_2),((HB.out.cell (World.block_lt_of_cell? w _ hw514_3)).trans hw514_3),((HB.out.cell (World.block_lt_of_cell? w _ hw514_4)).trans hw514_4),((HB.out.cell (World.block_lt_of_cell? w _ hw514_5)).trans hw514_5),((HB.out.cell (World.block_lt_of_cell? w _ hw514_6)).trans hw514_6)⟩ (fun hHeld=>?_)
        clear hK K
        refine norm_ (a':=?_) ?_ ?_
        rotate_left
        ·show Act.put _ (some 25) _=_
         simp only [Act.put,List.setIfInBounds_toArray,List.set_cons_zero,List.set_cons_succ,i64_w,i32_w]
         rfl
        refine pure_ (i:=9) (N:=some 26) (v:=?_) (a':=?_) #[true,true,true,true,true,true,true,true,true,true] rfl rfl (any_of HT_.out (by kernel_rfl)) (fun _ _ _ h=>h) (Or.inl ⟨by rfl,?_⟩) ?_ ?_
        rotate_left
        ·intro w'
         go_simp
         with_reducible rfl
        rotate_left
        ·simp only [Act.put,List.setIfInBounds_toArray,List.set_cons_zero,List.set_cons_succ,i64_w,i32_w]
         rfl
        refine done_ (done_of HT_.out (by kernel_rfl)) ?_
        try go_wp2
        go_roundg k1
        case measure=>have:=HK1.out;omega
        case rel=>exact ⟨(wrap64 (x5_1 + 1)),(by first|rfl|(simp;done)|(simp [*];done)),H',⟨by have:=HK1.out;omega⟩,⟨by repeat (first|(with_reducible first|exact HB.out|apply zlA|apply zlN|apply zlD)|exact HB.out)⟩⟩
       ·replace c8:=Bool.eq_false_iff.mpr c8
        subst c8
        have H1:(some false)=some r:=by rw [if_neg (show ¬ (false=true) by decide)] at H;exact H
        clear H
        have H:=H1
        clear H1
        obtain rfl:=Option.some.inj H
        try go_wp2
        have n0_:=zm (zlD HB.out)
        clear HB
        have HB:=n0_
        clear n0_
        have p513:0≤(x5_1:Int):=of_decide_eq_true (by first|(with_reducible assumption)|assumption)
        have q513:x5_1 < (l0.length:Int):=of_decide_eq_true (by first|(with_reducible assumption)|assumption)
        obtain ⟨ad513,A513_4,c513_4,A513_5,c513_5,A513_6,c513_6,e513,hx513_0,hx513_1,hx513_2,hx513_3,hx513_4,hx513_5,hx513_6,hl513_4,hi513_4,hl513_5,hi513_5,hl513_6,hi513_6⟩:=at_T42 HR0.out x5_1 p513 q513
        have hw513_6:=hx513_6
        have hw513_5:=hx513_5
        have hw513_4:=hx513_4
        have hw513_3:=hx513_3
        have hw513_2:=hx513_2
        have hw513_1:=hx513_1
        have hw513_0:=hx513_0
        cases e513
        replace hx513_0:=(HB.out.cell (World.block_lt_of_cell? w _ hx513_0)).trans hx513_0
        replace hx513_1:=(HB.out.cell (World.block_lt_of_cell? w _ hx513_1)).trans hx513_1
        replace hx513_2:=(HB.out.cell (World.block_lt_of_cell? w _ hx513_2)).trans hx513_2
        replace hx513_3:=(HB.out.cell (World.block_lt_of_cell? w _ hx513_3)).trans hx513_3
        replace hx513_4:=(HB.out.cell (World.block_lt_of_cell? w _ hx513_4)).trans hx513_4
        replace hx513_5:=(HB.out.cell (World.block_lt_of_cell? w _ hx513_5)).trans hx513_5
        replace hx513_6:=(HB.out.cell (World.block_lt_of_cell? w _ hx513_6)).trans hx513_6
        have HR513_4:=zm hi513_4
        have HC513_4:=zm hl513_4
        clear hi513_4 hl513_4
        have HR513_5:=zm hi513_5
        have HC513_5:=zm hl513_5
        clear hi513_5 hl513_5
        have HR513_6:=zm hi513_6
        have HC513_6:=zm hl513_6
        clear hi513_6 hl513_6
        replace p513:=eq_true p513
        replace q513:=eq_true q513
        have p514:0≤(x5_1:Int):=of_decide_eq_true (by first|(with_reducible assumption)|assumption)
        have q514:x5_1 < (l1.length:Int):=of_decide_eq_true (by first|(with_reducible assumption)|assumption)
        obtain ⟨ad514,A514_4,c514_4,A514_5,c514_5,A514_6,c514_6,e514,hx514_0,hx514_1,hx514_2,hx514_3,hx514_4,hx514_5,hx514_6,hl514_4,hi514_4,hl514_5,hi514_5,hl514_6,hi514_6⟩:=at_T42 HR1.out x5_1 p514 q514
        have hw514_6:=hx514_6
        have hw514_5:=hx514_5
        have hw514_4:=hx514_4
        have hw514_3:=hx514_3
        have hw514_2:=hx514_2
        have hw514_1:=hx514_1
        have hw514_0:=hx514_0
        cases e514
        replace hx514_0:=(HB.out.cell (World.block_lt_of_cell? w _ hx514_0)).trans hx514_0
        replace hx514_1:=(HB.out.cell (World.block_lt_of_cell? w _ hx514_1)).trans hx514_1
        replace hx514_2:=(HB.out.cell (World.block_lt_of_cell? w _ hx514_2)).trans hx514_2
        replace hx514_3:=(HB.out.cell (World.block_lt_of_cell? w _ hx514_3)).trans hx514_3
        replace hx514_4:=(HB.out.cell (World.block_lt_of_cell? w _ hx514_4)).trans hx514_4
        replace hx514_5:=(HB.out.cell (World.block_lt_of_cell? w _ hx514_5)).trans hx514_5
        replace hx514_6:=(HB.out.cell (World.block_lt_of_cell? w _ hx514_6)).trans hx514_6
        have HR514_4:=zm hi514_4
        have HC514_4:=zm hl514_4
        clear hi514_4 hl514_4
        have HR514_5:=zm hi514_5
        have HC514_5:=zm hl514_5
        clear hi514_5 hl514_5
        have HR514_6:=zm hi514_6
        have HC514_6:=zm hl514_6
        clear hi514_6 hl514_6
        replace p514:=eq_true p514
        replace q514:=eq_true q514
        refine start_ (n:=10) (S:=fun w'=>w'.cell? (ad513.add ((x5_1).toNat * 7))=some (.int .i64 ((rd_T42 l0 x5_1).f0))∧w'.cell? ⟨(ad513.add ((x5_1).toNat * 7)).block,(ad513.add ((x5_1).toNat * 7)).off + 1,none⟩=some (.int .i64 ((rd_T42 l0 x5_1).f1))∧w'.cell? ⟨(ad513.add ((x5_1).toNat * 7)).block,(ad513.add ((x5_1).toNat * 7)).off + 2,none⟩=some (.int .i64 ((rd_T42 l0 x5_1).f2))∧w'.cell? ⟨(ad513.add ((x5_1).toNat * 7)).block,(ad513.add ((x5_1).toNat * 7)).off + 3,none⟩=some (.int .i64 ((rd_T42 l0 x5_1).f3))∧w'.cell? ⟨(ad513.add ((x5_1).toNat * 7)).block,(ad513.add ((x5_1).toNat * 7)).off + 4,none⟩=some (.slice A513_4 ((rd_T42 l0 x5_1).f4).length c513_4)∧w'.cell? ⟨(ad513.add ((x5_1).toNat * 7)).block,(ad513.add ((x5_1).toNat * 7)).off + 5,none⟩=some (.slice A513_5 ((rd_T42 l0 x5_1).f5).length c513_5)∧w'.cell? ⟨(ad513.add ((x5_1).toNat * 7)).block,(ad513.add ((x5_1).toNat * 7)).off + 6,none⟩=some (.slice A513_6 ((rd_T42 l0 x5_1).f6).length c513_6)∧w'.cell? (ad514.add ((x5_1).toNat * 7))=some (.int .i64 ((rd_T42 l1 x5_1).f0))∧w'.cell? ⟨(ad514.add ((x5_1).toNat * 7)).block,(ad514.add ((x5_1).toNat * 7)).off + 1,none⟩=some (.int .i64 ((rd_T42 l1 x5_1).f1))∧w'.cell? ⟨(ad514.add ((x5_1).toNat * 7)).block,(ad514.add ((x5_1).toNat * 7)).off + 2,none⟩=some (.int .i64 ((rd_T42 l1 x5_1).f2))∧w'.cell? ⟨(ad514.add ((x5_1).toNat * 7)).block,(ad514.add ((x5_1).toNat * 7)).off + 3,none⟩=some (.int .i64 ((rd_T42 l1 x5_1).f3))∧w'.cell? ⟨(ad514.add ((x5_1).toNat * 7)).block,(ad514.add ((x5_1).toNat * 7)).off + 4,none⟩=some (.slice A514_4 ((rd_T42 l1 x5_1).f4).length c514_4)∧w'.cell? ⟨(ad514.add ((x5_1).toNat * 7)).block,(ad514.add ((x5_1).toNat * 7)).off + 5,none⟩=some (.slice A514_5 ((rd_T42 l1 x5_1).f5).length c514_5)∧w'.cell? ⟨(ad514.add ((x5_1).toNat * 7)).block,(ad514.add ((x5_1).toNat * 7)).off + 6,none⟩=some (.slice A514_6 ((rd_T42 l1 x5_1).f6).length c514_6)) (ds:=[]) #[false,false,false,false,false,false,false,false,false,false] (by kernel_rfl) rfl rfl ⟨((HB.out.cell (World.block_lt_of_cell? w _ hw513_0)).trans hw513_0),((HB.out.cell (World.block_lt_of_cell? w _ hw513_1)).trans hw513_1),((HB.out.cell (World.block_lt_of_cell? w _ hw513_2)).trans hw513_2),((HB.out.cell (World.block_lt_of_cell? w _ hw513_3)).trans hw513_3),((HB.out.cell (World.block_lt_of_cell? w _ hw513_4)).trans hw513_4),((HB.out.cell (World.block_lt_of_cell? w _ hw513_5)).trans hw513_5),((HB.out.cell (World.block_lt_of_cell? w _ hw513_6)).trans hw513_6),((HB.out.cell (World.block_lt_of_cell? w _ hw514_0)).trans hw514_0),((HB.out.cell (World.block_lt_of_cell? w _ hw514_1)).trans hw514_1),((HB.out.cell (World.block_lt_of_cell? w _ hw514_2)).trans hw514_2),((HB.out.cell (World.block_lt_of_cell? w _ hw514_3)).trans hw514_3),((HB.out.cell (World.block_lt_of_cell? w _ hw514_4)).trans hw514_4),((HB.out.cell (World.block_lt_of_cell? w _ hw514_5)).trans hw514_5),((HB.out.cell (World.block_lt_of_cell? w _ hw514_6)).trans hw514_6)⟩ (fun hHeld=>?_);refine with_tabW slipwayref06_SamePages.tab6 slipwayref06_SamePages.bits6 (fun HT_ HW_=>?_)
        generalize wr.drew=w11 at HB HR513_4 HR513_5 HR513_6 HR514_4 HR514_5 HR514_6 hx513_0 hx513_1 hx513_2 hx513_3 hx513_4 hx513_5 hx513_6 hx514_0 hx514_1 hx514_2 hx514_3 hx514_4 hx514_5 hx514_6 hHeld ⊢
        refine pure_ (i:=0) (N:=some 17) (v:=?_) (a':=?_) #[true,false,false,false,false,false,false,false,false,false] rfl rfl (any_of HT_.out (by kernel_rfl)) (fun _ _ _ h=>h) (Or.inl ⟨by rfl,?_⟩) ?_ ?_
        rotate_left
        ·intro w'
         go_simp
         with_reducible rfl
        rotate_left
        ·simp only [Act.put,List.setIfInBounds_toArray,List.set_cons_zero,List.set_cons_succ,i64_w,i32_w]
         rfl
        refine pure_ (i:=1) (N:=some 18) (v:=?_) (a':=?_) #[true,true,false,false,false,false,false,false,false,false] rfl rfl (any_of HT_.out (by kernel_rfl)) (fun _ _ _ h=>h) (Or.inl ⟨by rfl,?_⟩) ?_ ?_
        rotate_left
        ·intro w'
         go_simp
         with_reducible rfl
        rotate_left
        ·simp only [Act.put,List.setIfInBounds_toArray,List.set_cons_zero,List.set_cons_succ,i64_w,i32_w]
         rfl
        refine pure_ (i:=2) (N:=some 19) (v:=?_) (a':=?_) #[true,true,true,false,false,false,false,false,false,false] rfl rfl (any_of HT_.out (by kernel_rfl)) (fun _ _ _ h=>h) (Or.inl ⟨by rfl,?_⟩) ?_ ?_
        rotate_left
        ·intro w'
         go_simp
         with_reducible rfl
        rotate_left
        ·simp only [Act.put,List.setIfInBounds_toArray,List.set_cons_zero,List.set_cons_succ,i64_w,i32_w]
         rfl
        refine pure_ (i:=4) (N:=some 21) (v:=?_) (a':=?_) #[true,true,true,false,true,false,false,false,false,false] rfl rfl (any_of HT_.out (by kernel_rfl)) (fun _ _ _ h=>h) (Or.inl ⟨by rfl,?_⟩) ?_ ?_
        rotate_left
        ·intro w'
         go_simp
         with_reducible rfl
        rotate_left
        ·simp only [Act.put,List.setIfInBounds_toArray,List.set_cons_zero,List.set_cons_succ,i64_w,i32_w]
         rfl
        refine pure_ (i:=5) (N:=some 22) (v:=?_) (a':=?_) #[true,true,true,false,true,true,false,false,false,false] rfl rfl (any_of HT_.out (by kernel_rfl)) (fun _ _ _ h=>h) (Or.inl ⟨by rfl,?_⟩) ?_ ?_
        rotate_left
        ·intro w'
         go_simp
         with_reducible rfl
        rotate_left
        ·simp only [Act.put,List.setIfInBounds_toArray,List.set_cons_zero,List.set_cons_succ,i64_w,i32_w]
         rfl
        refine pure_ (i:=6) (N:=some 23) (v:=?_) (a':=?_) #[true,true,true,false,true,true,true,false,false,false] rfl rfl (any_of HT_.out (by kernel_rfl)) (fun _ _ _ h=>h) (Or.inl ⟨by rfl,?_⟩) ?_ ?_
        rotate_left
        ·intro w'
         go_simp
         with_reducible rfl
        rotate_left
        ·simp only [Act.put,List.setIfInBounds_toArray,List.set_cons_zero,List.set_cons_succ,i64_w,i32_w]
         rfl
        refine take_ (i:=3) (N:=some 20) (v:=?_) (a':=?_) #[true,true,true,true,true,true,true,false,false,false] rfl rfl (take_ofW HT_.out HW_.out (by kernel_rfl)) (fun _ _ _ h=>h) (Or.inl ⟨by rfl,?_⟩) hHeld ?_ ?_
        rotate_left
        ·rintro w' ⟨s0,s1,s2,s3,s4,s5,s6,s7,s8,s9,s10,s11,s12,s13⟩
         go_simp
         with_reducible rfl
        rotate_left
        ·simp only [Act.put,List.setIfInBounds_toArray,List.set_cons_zero,List.set_cons_succ,i64_w,i32_w]
         rfl
        refine take_ (i:=7) (N:=some 24) (v:=?_) (a':=?_) #[true,true,true,true,true,true,true,true,false,false] rfl rfl (take_ofW HT_.out HW_.out (by kernel_rfl)) (fun _ _ _ h=>h) (Or.inl ⟨by rfl,?_⟩) hHeld ?_ ?_
        rotate_left
        ·rintro w' ⟨s0,s1,s2,s3,s4,s5,s6,s7,s8,s9,s10,s11,s12,s13⟩
         go_simp
         with_reducible rfl
        rotate_left
        ·simp only [Act.put,List.setIfInBounds_toArray,List.set_cons_zero,List.set_cons_succ,i64_w,i32_w]
         rfl
        refine one_ (i:=8) (N:=some 25) #[true,true,true,true,true,true,true,true,true,false] rfl rfl (one_of HT_.out (by kernel_rfl)) (by decide) (fun K hK=>?_)
        refine goes_ Try.func32 (by kernel_rfl) rfl #[.agg #[.int .i64 ((rd_T42 l0 x5_1).f0),.int .i64 ((rd_T42 l0 x5_1).f1),.int .i64 ((rd_T42 l0 x5_1).f2),.int .i64 ((rd_T42 l0 x5_1).f3),.slice A513_4 ((rd_T42 l0 x5_1).f4).length c513_4,.slice A513_5 ((rd_T42 l0 x5_1).f5).length c513_5,.slice A513_6 ((rd_T42 l0 x5_1).f6).length c513_6],.agg #[.int .i64 ((rd_T42 l1 x5_1).f0),.int .i64 ((rd_T42 l1 x5_1).f1),.int .i64 ((rd_T42 l1 x5_1).f2),.int .i64 ((rd_T42 l1 x5_1).f3),.slice A514_4 ((rd_T42 l1 x5_1).f4).length c514_4,.slice A514_5 ((rd_T42 l1 x5_1).f5).length c514_5,.slice A514_6 ((rd_T42 l1 x5_1).f6).length c514_6]] (by rfl) rfl rfl (by (try simp only [List.map_toArray,List.map_cons,List.map_nil]);first|done|rfl|(simp only [List.length_drop,List.length_take];rfl)) ?_
        with_reducible refine (slipwayref06_SamePage.calls k1 ((rd_T42 l0 x5_1).f0) ((rd_T42 l0 x5_1).f1) ((rd_T42 l0 x5_1).f2) ((rd_T42 l0 x5_1).f3) _ _ ((rd_T42 l0 x5_1).f4) _ _ ((rd_T42 l0 x5_1).f5) _ _ ((rd_T42 l0 x5_1).f6) ((rd_T42 l1 x5_1).f0) ((rd_T42 l1 x5_1).f1) ((rd_T42 l1 x5_1).f2) ((rd_T42 l1 x5_1).f3) _ _ ((rd_T42 l1 x5_1).f4) _ _ ((rd_T42 l1 x5_1).f5) _ _ ((rd_T42 l1 x5_1).f6) false _ ?side1 ?side2 ?side3 ?side4 ?side5 ?side6 ?side7 ?side8 ?side9 ?side10 ?side11 ?side12 A7.out).mono ?_
        (case side1=>repeat (first|exact (Kd.C_below HR513_4.out HB.out)|(with_reducible refine Kd.C_alloc ?_ _)|(with_reducible refine Kd.C_drewN ?_ _)|(with_reducible refine Kd.C_drew ?_)))
        (case side2=>exact HC513_4.out)
        (case side3=>repeat (first|exact (Kd.C_below HR513_5.out HB.out)|(with_reducible refine Kd.C_alloc ?_ _)|(with_reducible refine Kd.C_drewN ?_ _)|(with_reducible refine Kd.C_drew ?_)))
        (case side4=>exact HC513_5.out)
        (case side5=>repeat (first|exact (Kd.C_below HR513_6.out HB.out)|(with_reducible refine Kd.C_alloc ?_ _)|(with_reducible refine Kd.C_drewN ?_ _)|(with_reducible refine Kd.C_drew ?_)))
        (case side6=>exact HC513_6.out)
        (case side7=>repeat (first|exact (Kd.C_below HR514_4.out HB.out)|(with_reducible refine Kd.C_alloc ?_ _)|(with_reducible refine Kd.C_drewN ?_ _)|(with_reducible refine Kd.C_drew ?_)))
        (case side8=>exact HC514_4.out)
        (case side9=>repeat (first|exact (Kd.C_below HR514_5.out HB.out)|(with_reducible refine Kd.C_alloc ?_ _)|(with_reducible refine Kd.C_drewN ?_ _)|(with_reducible refine Kd.C_drew ?_)))
        (case side10=>exact HC514_5.out)
        (case side11=>repeat (first|exact (Kd.C_below HR514_6.out HB.out)|(with_reducible refine Kd.C_alloc ?_ _)|(with_reducible refine Kd.C_drewN ?_ _)|(with_reducible refine Kd.C_drew ?_)))
        (case side12=>exact HC514_6.out)
        rintro e w12 ⟨rfl,hb⟩
        refine ⟨_,rfl,?_⟩
        have n0_:=zm (below_step (by repeat (first|(with_reducible first|exact HB.out|apply zlA|apply zlN|apply zlD)|exact HB.out)) hb)
        clear HB
        have HB:=n0_
        clear n0_
        (try clear hb)
        (try clear hb2)
        (try clear hk)
        (try clear hi)
        refine hK.out _ _ ⟨((HB.out.cell (World.block_lt_of_cell? w _ hw513_0)).trans hw513_0),((HB.out.cell (World.block_lt_of_cell? w _ hw513_1)).trans hw513_1),((HB.out.cell (World.block_lt_of_cell? w _ hw513_2)).trans hw513_2),((HB.out.cell (World.block_lt_of_cell? w _ hw513_3)).trans hw513_3),((HB.out.cell (World.block_lt_of_cell? w _ hw513_4)).trans hw513_4),((HB.out.cell (World.block_lt_of_cell? w _ hw513_5)).trans hw513_5),((HB.out.cell (World.block_lt_of_cell? w _ hw513_6)).trans hw513_6),((HB.out.cell (World.block_lt_of_cell? w _ hw514_0)).trans hw514_0),((HB.out.cell (World.block_lt_of_cell? w _ hw514_1)).trans hw514_1),((HB.out.cell (World.block_lt_of_cell? w _ hw514_2)).trans hw514_2),((HB.out.cell (World.block_lt_of_cell? w _ hw514_3)).trans hw514_3),((HB.out.cell (World.block_lt_of_cell? w _ hw514_4)).trans hw514_4),((HB.out.cell (World.block_lt_of_cell? w _ hw514_5)).trans hw514_5),((HB.out.cell (World.block_lt_of_cell? w _ hw514_6)).trans hw514_6)⟩ (fun hHeld=>?_)
        clear hK K
        refine norm_ (a':=?_) ?_ ?_
        rotate_left
        ·show Act.put _ (some 25) _=_
         simp only [Act.put,List.setIfInBounds_toArray,List.set_cons_zero,List.set_cons_succ,i64_w,i32_w]
         rfl
        refine pure_ (i:=9) (N:=some 26) (v:=?_) (a':=?_) #[true,true,true,true,true,true,true,true,true,true] rfl rfl (any_of HT_.out (by kernel_rfl)) (fun _ _ _ h=>h) (Or.inl ⟨by rfl,?_⟩) ?_ ?_
        rotate_left
        ·intro w'
         go_simp
         with_reducible rfl
        rotate_left
        ·simp only [Act.put,List.setIfInBounds_toArray,List.set_cons_zero,List.set_cons_succ,i64_w,i32_w]
         rfl
        refine done_ (done_of HT_.out (by kernel_rfl)) ?_
        try go_wp2
        go_ret
        exact ⟨by first|rfl|(simp [errW_none,errW_some] <;> rfl)|(simp [*,errW_none,errW_some] <;> rfl),by repeat (first|(with_reducible first|exact HB.out|apply zlA|apply zlN|apply zlD)|exact HB.out)⟩
      ·rw [if_neg c6] at H
       exact absurd H (by simp)
     ·rw [if_neg c5] at H
      exact absurd H (by simp)
    ·rw [if_neg c4] at H
     have c4b0:decide (x5_1 < (l0.length:Int))=false:=decide_eq_false c4
     clear c4
     obtain rfl:=Option.some.inj H
     go_wp2
     go_ret
     exact ⟨by first|rfl|(simp [errW_none,errW_some] <;> rfl)|(simp [*,errW_none,errW_some] <;> rfl),by repeat (first|(with_reducible first|exact HB.out|apply zlA|apply zlN|apply zlD)|exact HB.out)⟩
 ·rw [if_neg c3] at H
  have c3b0:((l0.length:Int) == (l1.length:Int))=false:=beq_eq_false_iff_ne.mpr c3
  have c3b1:((l0.length:Int) != (l1.length:Int))=true:=bne_iff_ne.mpr c3
  have c3b2:(l0.length == l1.length)=false:=by first|simpa using c3|(simp at c3 ⊢;omega)
  obtain rfl:=Option.some.inj H
  go_enter Try.func31,Try.ntmps31
  go_wp2
  go_ret
  exact ⟨by first|rfl|(simp [errW_none,errW_some] <;> rfl)|(simp [*,errW_none,errW_some] <;> rfl),by repeat (first|(with_reducible first|exact HB.out|apply zlA|apply zlN|apply zlD)|exact HB.out)⟩
end Go.Proofs.Ytkhbmgclklmimaa.Print
end
